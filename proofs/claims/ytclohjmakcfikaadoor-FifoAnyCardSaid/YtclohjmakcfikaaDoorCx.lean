/- Printed by a program of this session (wip/gen/myprint.py): plain Lean functions that compute what the Go functions compute, and the contracts that say so; each contract names its premises. -/
import Derived.Test.YtclohjmakcfikaaDoorCx0
import Derived.Test.YtclohjmakcfikaaDoorCx1
namespace Go.Proofs.YtclohjmakcfikaaDoor.C
open Go.RowKit Go.Proofs.YtclohjmakcfikaaDoorW.PrintWords Go.Proofs.YtclohjmakcfikaaDoorW.PrintLast
set_option linter.unusedVariables false
set_option linter.unusedSimpArgs false

end Go.Proofs.YtclohjmakcfikaaDoor.C
