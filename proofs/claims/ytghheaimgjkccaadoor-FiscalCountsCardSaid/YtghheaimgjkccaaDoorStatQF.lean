/- The pure statements of the laws: what their Lean functions answer. By wip/gen/rows.py. -/
import Derived.Test.YtghheaimgjkccaaDoorQFx1
namespace Go.Proofs.YtghheaimgjkccaaDoor
open Go.RowKit
def FiscalCountsP : Prop := ∀ (a0_0 : Int) (a0_1 : Int) (a0_2 : Int) (a0_3 : Int) (a0_4 : Int) (a0_5 : Int) (a0_6 : Int), (Lit.int .i64 a0_0).wf = true → (Lit.int .i64 a0_1).wf = true → (Lit.int .i64 a0_2).wf = true → (Lit.int .i64 a0_3).wf = true → (Lit.int .i64 a0_4).wf = true → (Lit.int .i64 a0_5).wf = true → (Lit.int .i64 a0_6).wf = true → ∃ k, QF.accountinglaw05_FiscalCounts.f k a0_0 a0_1 a0_2 a0_3 a0_4 a0_5 a0_6 = some true
end Go.Proofs.YtghheaimgjkccaaDoor
