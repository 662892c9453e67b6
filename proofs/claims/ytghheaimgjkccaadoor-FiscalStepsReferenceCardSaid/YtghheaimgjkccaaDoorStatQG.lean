/- The pure statements of the laws: what their Lean functions answer. By wip/gen/rows.py. -/
import Derived.Test.YtghheaimgjkccaaDoorQGx2
namespace Go.Proofs.YtghheaimgjkccaaDoor
open Go.RowKit
def FiscalStepsReferenceP : Prop := ∀ (a0_0 : Int) (a1_0 : Int) (a1_1 : Int) (a2_0 : Int) (a2_1 : Int), (Lit.int .i64 a0_0).wf = true → (Lit.int .i64 a1_0).wf = true → (Lit.int .i64 a1_1).wf = true → (Lit.int .i64 a2_0).wf = true → (Lit.int .i64 a2_1).wf = true → ∃ k, QG.accountinglaw05_FiscalStepsReference.f k a0_0 a1_0 a1_1 a2_0 a2_1 = some true
end Go.Proofs.YtghheaimgjkccaaDoor
