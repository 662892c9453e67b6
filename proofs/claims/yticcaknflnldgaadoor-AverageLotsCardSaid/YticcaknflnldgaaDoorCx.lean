/- Printed by a program of this session (wip/gen/myprint.py): plain Lean functions that compute what the Go functions compute, and the contracts that say so; each contract names its premises. -/
import Derived.Test.YticcaknflnldgaaDoorCx0
import Derived.Test.YticcaknflnldgaaDoorCx1
namespace Go.Proofs.YticcaknflnldgaaDoor.C
open Go.RowKit Go.Proofs.YticcaknflnldgaaDoorW.PrintWords Go.Proofs.YticcaknflnldgaaDoorW.PrintLast
set_option linter.unusedVariables false
set_option linter.unusedSimpArgs false

end Go.Proofs.YticcaknflnldgaaDoor.C
