/- muldiv.Mod and muldiv.Cmp: each returns what the plain functions mdMod and mdCmp say; no condition but that the arguments are integers of 64 bits. -/
import Derived.Test.YtkimndddlnbeiaaDoorMdClose
import Derived.Test.YtkimndddlnbeiaaDoorMx1
namespace Go.Proofs.YtkimndddlnbeiaaDoor.Md
open Go.RowKit Go.Proofs.YtkimndddlnbeiaaDoorW.PrintWords Go.Proofs.YtkimndddlnbeiaaDoorW.PrintLast Go.Proofs.YtkimndddlnbeiaaDoor.M
set_option linter.unusedVariables false
set_option linter.unusedSimpArgs false

def Mod_f (a0 a1 a2 : Int) : Option (Int × Int) := if I64 a0 ∧ I64 a1 ∧ I64 a2 then some (mdMod a0 a1 a2) else none

def Cmp_f (a0 a1 a2 a3 : Int) : Option Int := if I64 a0 ∧ I64 a1 ∧ I64 a2 ∧ I64 a3 then some (mdCmp a0 a1 a2 a3) else none

end Go.Proofs.YtkimndddlnbeiaaDoor.Md
