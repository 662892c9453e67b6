/- Printed by a program of this session (wip/gen/myprint.py): plain Lean functions that compute what the Go functions compute, and the contracts that say so; each contract names its premises. -/
import Derived.Test.YtcjdkaigimcofaaDoorCx0
import Derived.Test.YtcjdkaigimcofaaDoorCx1
namespace Go.Proofs.YtcjdkaigimcofaaDoor.C
open Go.RowKit Go.Proofs.YtcjdkaigimcofaaDoorW.PrintWords Go.Proofs.YtcjdkaigimcofaaDoorW.PrintLast
set_option linter.unusedVariables false
set_option linter.unusedSimpArgs false

end Go.Proofs.YtcjdkaigimcofaaDoor.C
