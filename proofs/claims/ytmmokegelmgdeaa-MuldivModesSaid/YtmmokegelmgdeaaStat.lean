/- The pure statements of the laws: what their Lean functions answer. By wip/gen/rows.py. -/
import Derived.Test.YtmmokegelmgdeaaQx1
import Derived.Test.YtmmokegelmgdeaaQx2
import Derived.Test.YtmmokegelmgdeaaQx3
namespace Go.Proofs.Ytmmokegelmgdeaa
open Go.RowKit
def MuldivReferenceP : Prop := ∀ (a0_0 : Int) (a0_1 : Int) (a0_2 : Int) (a0_3 : Int), (Lit.int .i64 a0_0).wf = true → (Lit.int .i64 a0_1).wf = true → (Lit.int .i64 a0_2).wf = true → (Lit.int .i64 a0_3).wf = true → Q.accountinglaw02_MuldivReference.f a0_0 a0_1 a0_2 a0_3 = some true
def MuldivComparesP : Prop := ∀ (a0_0 : Int) (a0_1 : Int) (a0_2 : Int) (a0_3 : Int), (Lit.int .i64 a0_0).wf = true → (Lit.int .i64 a0_1).wf = true → (Lit.int .i64 a0_2).wf = true → (Lit.int .i64 a0_3).wf = true → ∃ k, Q.accountinglaw02_MuldivCompares.f k a0_0 a0_1 a0_2 a0_3 = some true
def MuldivDividesP : Prop := ∀ (a0 : Int) (a1 : Int) (a2 : Int), (Lit.int .i64 a0).wf = true → (Lit.int .i64 a1).wf = true → (Lit.int .i64 a2).wf = true → ∃ k, Q.accountinglaw02_MuldivDivides.f k a0 a1 a2 = some true
def MuldivModesP : Prop := ∀ (a0 : Int) (a1 : Int) (a2 : Int), (Lit.int .i64 a0).wf = true → (Lit.int .i64 a1).wf = true → (Lit.int .i64 a2).wf = true → ∃ k, Q.accountinglaw02_MuldivModes.f k a0 a1 a2 = some true
def MuldivNegatesP : Prop := ∀ (a0_0 : Int) (a0_1 : Int) (a0_2 : Int) (a0_3 : Int), (Lit.int .i64 a0_0).wf = true → (Lit.int .i64 a0_1).wf = true → (Lit.int .i64 a0_2).wf = true → (Lit.int .i64 a0_3).wf = true → ∃ k, Q.accountinglaw02_MuldivNegates.f k a0_0 a0_1 a0_2 a0_3 = some true
def MuldivCancelsP : Prop := ∀ (a0 : Int) (a1 : Int) (a2 : Int), (Lit.int .i64 a0).wf = true → (Lit.int .i64 a1).wf = true → (Lit.int .i64 a2).wf = true → ∃ k, Q.accountinglaw02_MuldivCancels.f k a0 a1 a2 = some true
def MuldivNearP : Prop := ∀ (a0 : Int) (a1 : Int) (a2 : Int), (Lit.int .i64 a0).wf = true → (Lit.int .i64 a1).wf = true → (Lit.int .i64 a2).wf = true → ∃ k, Q.accountinglaw02_MuldivNear.f k a0 a1 a2 = some true
end Go.Proofs.Ytmmokegelmgdeaa
