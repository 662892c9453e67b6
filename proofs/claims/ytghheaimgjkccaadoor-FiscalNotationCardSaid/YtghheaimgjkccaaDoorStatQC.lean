/- The pure statements of the laws: what their Lean functions answer. By wip/gen/rows.py. -/
import Derived.Test.YtghheaimgjkccaaDoorQCx1
namespace Go.Proofs.YtghheaimgjkccaaDoor
open Go.RowKit
def FiscalNotationP : Prop := ∀ (a0_0 : Int) (a0_1 : Int) (a1 : ByteArray), (Lit.int .i64 a0_0).wf = true → (Lit.int .i64 a0_1).wf = true → a1.size ≤ 140737488351232 → ∃ k, QC.accountinglaw05_FiscalNotation.f k a0_0 a0_1 a1 = some true
end Go.Proofs.YtghheaimgjkccaaDoor
