/- The pure statements of the laws: what their Lean functions answer. By wip/gen/rows.py. -/
import Derived.Test.YtghheaimgjkccaaDoorQAx1
namespace Go.Proofs.YtghheaimgjkccaaDoor
open Go.RowKit
def FiscalSpanReferenceP : Prop := ∀ (a0_0 : Int) (a1_0 : Int) (a1_1 : Int), (Lit.int .i64 a0_0).wf = true → (Lit.int .i64 a1_0).wf = true → (Lit.int .i64 a1_1).wf = true → ∃ k, QA.accountinglaw05_FiscalSpanReference.f k a0_0 a1_0 a1_1 = some true
end Go.Proofs.YtghheaimgjkccaaDoor
