/- What the reference's Text comes to for numbers of at most four digits; no other condition. -/
import Derived.Test.YtkjacjkmmboklaaDoorDyText
import Derived.Test.YtkjacjkmmboklaaDoorTx1
namespace Go.Proofs.YtkjacjkmmboklaaDoor.Dy
open Go.RowKit Go.Proofs.YtkjacjkmmboklaaDoorW.PrintWords Go.Proofs.YtkjacjkmmboklaaDoorW.PrintLast Go.Proofs.YtkjacjkmmboklaaDoorW.PrintMore Go.Proofs.YtkjacjkmmboklaaDoor.T
set_option linter.unusedVariables false
set_option linter.unusedSimpArgs false

theorem w64 {x : Int} (h1 : -9223372036854775808 ≤ x) (h2 : x ≤ 9223372036854775807) : wrap64 x = x := by
  unfold wrap64; omega
def bs (l : List UInt8) : ByteArray := ⟨l.toArray⟩
theorem bs_append (l m : List UInt8) : bs l ++ bs m = bs (l ++ m) := by
  apply ByteArray.ext; simp [bs, ByteArray.data_append]
theorem bs_size (l : List UInt8) : (bs l).size = l.length := rfl
theorem bs_toList (l : List UInt8) : (bs l).toList = l := by
  first | simp [bs] | exact ByteArray.toList_mk _ | skip
theorem digit_of {d : Int} (h0 : 0 ≤ d) (h1 : d ≤ 9) : (⟨#[48, 49, 50, 51, 52, 53, 54, 55, 56, 57]⟩ : ByteArray).extract d.toNat (d + 1).toNat = bs [dig d] := by
  obtain ⟨n, rfl⟩ : ∃ n : Nat, d = n := ⟨d.toNat, by omega⟩
  have hn : n < 10 := by omega
  match n, hn with
  | 0, _ => rfl
  | 1, _ => rfl
  | 2, _ => rfl
  | 3, _ => rfl
  | 4, _ => rfl
  | 5, _ => rfl
  | 6, _ => rfl
  | 7, _ => rfl
  | 8, _ => rfl
  | 9, _ => rfl
  | n + 10, h => exact absurd h (by omega)
theorem rt_put {k : Nat} {x0 x4 : Int} {l : List UInt8} (h0 : 0 ≤ x4) (h1 : x4 < 10000) (hl : l.length < 100) :
    accountingref01_Text.j1 (k + 1) x0 (bs l) x4 true = accountingref01_Text.l0 k x0 (bs (dig (x4 % 10) :: l)) (x4 / 10) := by
  have e1 : Int.tmod x4 10 = x4 % 10 := Int.tmod_eq_emod_of_nonneg h0
  have e2 : Int.tdiv x4 10 = x4 / 10 := Int.tdiv_eq_ediv_of_nonneg h0
  unfold accountingref01_Text.j1
  have d0 : 0 ≤ x4 % 10 := by omega
  have d1 : x4 % 10 ≤ 9 := by omega
  have e3 : wrap64 (x4 % 10 + 1) = x4 % 10 + 1 := w64 (by omega) (by omega)
  have e4 : wrap64 (x4 / 10) = x4 / 10 := w64 (by omega) (by omega)
  rw [if_pos rfl, e1, e2, e3, e4, if_neg (by omega), if_pos d0, if_pos (by omega), if_pos (by omega), digit_of d0 d1, bs_size, bs_size, if_pos (by simp only [List.length_cons, List.length_nil]; omega), bs_append]
  rfl
theorem rt_stop {k : Nat} {x0 : Int} {a : UInt8} {l : List UInt8} (h0 : 0 ≤ x0) : accountingref01_Text.l0 (k + 2) x0 (bs (a :: l)) 0 = some (bs (a :: l)) := by
  unfold accountingref01_Text.l0
  rw [if_pos rfl, bs_toList]
  have e : ((a :: l) == ([] : List UInt8)) = false := rfl
  rw [e]
  unfold accountingref01_Text.j1
  rw [if_neg (by simp), if_neg (by omega)]
theorem rt_more {k : Nat} {x0 x4 : Int} {l : List UInt8} (h0 : 0 < x4) (h1 : x4 < 10000) (hl : l.length < 100) :
    accountingref01_Text.l0 (k + 2) x0 (bs l) x4 = accountingref01_Text.l0 k x0 (bs (dig (x4 % 10) :: l)) (x4 / 10) := by
  rw [accountingref01_Text.l0, if_neg (by omega)]
  exact rt_put (by omega) h1 hl
theorem rtext_is {n : Int} (h0 : 0 ≤ n) (h1 : n < 10000) : accountingref01_Text.f 12 n = some (dec n) := by
  unfold accountingref01_Text.f
  show accountingref01_Text.l0 12 n (bs []) n = some (bs (decL n))
  by_cases z : n = 0
  · subst z
    rw [accountingref01_Text.l0, if_pos rfl, bs_toList]
    have e : (([] : List UInt8) == ([] : List UInt8)) = true := rfl
    rw [e, rt_put (by omega) (by omega) (by simp)]
    exact rt_stop (by omega)
  rw [rt_more (by omega) h1 (by simp)]
  unfold decL
  by_cases a : n < 10
  · rw [if_pos a, show n / 10 = 0 by omega, show n % 10 = n by omega]
    exact rt_stop h0
  rw [if_neg a, rt_more (by omega) (by omega) (by simp)]
  by_cases b : n < 100
  · rw [if_pos b, show n / 10 / 10 = 0 by omega]
    exact rt_stop h0
  rw [if_neg b, rt_more (by omega) (by omega) (by simp)]
  by_cases c : n < 1000
  · rw [if_pos c, show n / 10 / 10 / 10 = 0 by omega]
    exact rt_stop h0
  rw [if_neg c, rt_more (by omega) (by omega) (by simp), show n / 10 / 10 / 10 / 10 = 0 by omega]
  exact rt_stop h0
end Go.Proofs.YtkjacjkmmboklaaDoor.Dy
