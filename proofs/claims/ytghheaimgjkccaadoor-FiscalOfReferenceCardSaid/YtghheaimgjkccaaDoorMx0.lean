/- Printed by a program of this session (wip/gen/myprint.py): plain Lean functions that compute what the Go functions compute, and the contracts that say so; each contract names its premises. -/
import Derived.Test.YtghheaimgjkccaaDoorProg
import Derived.Below
import Derived.Deep.Draws
import Derived.Deep.AppendLies
import Derived.Maps.AppendAt
import Derived.OwnWalk
import Derived.Laws.BytesArg
import Derived.Laws.MakeOwn
import Derived.Laws.OwnMore
import Derived.Deep.OwnRows
import Derived.Tactics
import Derived.Lib.ConvBytes
import Derived.Laws.Slices
import Derived.WalkKit
import Derived.KernelRfl
import Derived.RowKit3
import Derived.Deep.LoopGhost
import Derived.Deep.QuietTactic
import Derived.BigQuiet
import Derived.WideLaws
import Derived.Deep.DeepCutAuto
import Derived.Deep.CutBlock
import Derived.Deep.RegionHeld3
import Derived.Laws.Rows
import Derived.Lib.AppendStr
import Derived.ArgAppend
import Derived.Laws.IdiomCopy
import Derived.OrdersHeld
import Derived.Laws.BitsLemmas
import Derived.RowKit
import Derived.Test.YtghheaimgjkccaaDoorLaidW
import Derived.Test.YtghheaimgjkccaaDoorWWords
import Derived.Test.YtghheaimgjkccaaDoorWLast
import Derived.Test.YtghheaimgjkccaaDoorWTab
import Derived.Test.YtghheaimgjkccaaDoorWQPut
import Derived.Test.YtghheaimgjkccaaDoorWApart
import Derived.Test.YtghheaimgjkccaaDoorWArr
import Derived.Test.YtghheaimgjkccaaDoorWZeros
import Derived.Test.YtghheaimgjkccaaDoorWFoot
import Derived.Test.YtghheaimgjkccaaDoorWKept
import Derived.Test.YtghheaimgjkccaaDoorWShare
import Derived.Test.YtghheaimgjkccaaDoorWN
import Derived.Test.YtghheaimgjkccaaDoorWEqStruct
import Derived.Test.YtghheaimgjkccaaDoorWRepsOne
import Derived.Test.YtghheaimgjkccaaDoorWNEv
import Derived.Test.YtghheaimgjkccaaDoorWMore
namespace Go.Proofs.YtghheaimgjkccaaDoor.M
open Go.RowKit Go.Proofs.YtghheaimgjkccaaDoorW.PrintWords Go.Proofs.YtghheaimgjkccaaDoorW.PrintLast Go.Proofs.YtghheaimgjkccaaDoorW.PrintMore
attribute [local go_sem] max2_int min2_int max_two min_two max_three min_three max_four min_four   -- for this text's walks alone
set_option linter.unusedVariables false
set_option linter.unusedSimpArgs false



def errW : Option Int → Value
  | none => .nilIface
  | some c => .iface 0 (.int .i64 c)
theorem errW_none : errW none = .nilIface := rfl
theorem errW_some (c : Int) : errW (some c) = .iface 0 (.int .i64 c) := rfl

-- the values' own types

end Go.Proofs.YtghheaimgjkccaaDoor.M
