/- The pure statements of the laws: what their Lean functions answer. By wip/gen/rows.py. -/
import Derived.Test.YtghheaimgjkccaaDoorQBx3
namespace Go.Proofs.YtghheaimgjkccaaDoor
open Go.RowKit
def FiscalOfReferenceP : Prop := ∀ (a0_0 : Int) (a1 : Int) (a2 : Int), (Lit.int .i64 a0_0).wf = true → (Lit.int .i64 a1).wf = true → (Lit.int .i64 a2).wf = true → ∃ k, QB.accountinglaw05_FiscalOfReference.f k a0_0 a1 a2 = some true
end Go.Proofs.YtghheaimgjkccaaDoor
