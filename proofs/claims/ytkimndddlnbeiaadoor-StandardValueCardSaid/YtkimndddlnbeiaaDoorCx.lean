/- Printed by a program of this session (wip/gen/myprint.py): plain Lean functions that compute what the Go functions compute, and the contracts that say so; each contract names its premises. -/
import Derived.Test.YtkimndddlnbeiaaDoorCx0
import Derived.Test.YtkimndddlnbeiaaDoorCx1
namespace Go.Proofs.YtkimndddlnbeiaaDoor.C
open Go.RowKit Go.Proofs.YtkimndddlnbeiaaDoorW.PrintWords Go.Proofs.YtkimndddlnbeiaaDoorW.PrintLast
set_option linter.unusedVariables false
set_option linter.unusedSimpArgs false

end Go.Proofs.YtkimndddlnbeiaaDoor.C
