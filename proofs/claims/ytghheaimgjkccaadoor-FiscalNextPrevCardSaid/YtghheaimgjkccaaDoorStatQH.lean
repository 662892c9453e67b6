/- The pure statements of the laws: what their Lean functions answer. By wip/gen/rows.py. -/
import Derived.Test.YtghheaimgjkccaaDoorQHx2
namespace Go.Proofs.YtghheaimgjkccaaDoor
open Go.RowKit
def FiscalNextPrevP : Prop := ∀ (a0_0 : Int) (a1_0 : Int) (a1_1 : Int), (Lit.int .i64 a0_0).wf = true → (Lit.int .i64 a1_0).wf = true → (Lit.int .i64 a1_1).wf = true → ∃ k, QH.accountinglaw05_FiscalNextPrev.f k a0_0 a1_0 a1_1 = some true
end Go.Proofs.YtghheaimgjkccaaDoor
