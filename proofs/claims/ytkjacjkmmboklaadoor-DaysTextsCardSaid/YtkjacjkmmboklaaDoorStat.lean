/- The pure statements of the laws: what their Lean functions answer. By wip/gen/rows.py. -/
import Derived.Test.YtkjacjkmmboklaaDoorQx2
import Derived.Test.YtkjacjkmmboklaaDoorQx3
import Derived.Test.YtkjacjkmmboklaaDoorQx4
namespace Go.Proofs.YtkjacjkmmboklaaDoor
open Go.RowKit
def DaysDatesP : Prop := ∀ (a0_0 : Int) (a0_1 : Int) (a0_2 : Int), (Lit.int .i64 a0_0).wf = true → (Lit.int .i64 a0_1).wf = true → (Lit.int .i64 a0_2).wf = true → ∃ k, Q.accountinglaw04_DaysDates.f k a0_0 a0_1 a0_2 = some true
def DaysMonthsP : Prop := ∀ (a0 : Int) (a1 : Int), (Lit.int .i64 a0).wf = true → (Lit.int .i64 a1).wf = true → ∃ k, Q.accountinglaw04_DaysMonths.f k a0 a1 = some true
def DaysAddsP : Prop := ∀ (a0 : Int) (a1 : Int), (Lit.int .i64 a0).wf = true → (Lit.int .i64 a1).wf = true → ∃ k, Q.accountinglaw04_DaysAdds.f k a0 a1 = some true
def DaysReturnsP : Prop := ∀ (a0 : Int) (a1 : Int), (Lit.int .i64 a0).wf = true → (Lit.int .i64 a1).wf = true → ∃ k, Q.accountinglaw04_DaysReturns.f k a0 a1 = some true
def DaysFollowP : Prop := ∀ (a0 : Int), (Lit.int .i64 a0).wf = true → ∃ k, Q.accountinglaw04_DaysFollow.f k a0 = some true
def DaysTextsP : Prop := ∀ (a0 : Int), (Lit.int .i64 a0).wf = true → ∃ k, Q.accountinglaw04_DaysTexts.f k a0 = some true
def DaysParsesP : Prop := ∀ (a0 : ByteArray), a0.size ≤ 140737488351232 → ∃ k, Q.accountinglaw04_DaysParses.f k a0 = some true
def DaysNumbersP : Prop := ∀ (a0 : Int), (Lit.int .i64 a0).wf = true → ∃ k, Q.accountinglaw04_DaysNumbers.f k a0 = some true
end Go.Proofs.YtkjacjkmmboklaaDoor
