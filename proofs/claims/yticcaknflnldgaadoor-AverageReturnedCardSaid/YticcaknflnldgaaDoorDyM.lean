/- What days.Leap, Length, Of and Date come to: the calendar's plain functions; no condition. -/
import Derived.Test.YticcaknflnldgaaDoorDyMath
import Derived.Test.YticcaknflnldgaaDoorMx1
namespace Go.Proofs.YticcaknflnldgaaDoor.Dy
open Go.RowKit Go.Proofs.YticcaknflnldgaaDoorW.PrintWords Go.Proofs.YticcaknflnldgaaDoorW.PrintLast Go.Proofs.YticcaknflnldgaaDoor.M
set_option linter.unusedVariables false
set_option linter.unusedSimpArgs false

theorem leap_is (y : Int) : days_Leap.f y = some (leapB y) := by
  unfold days_Leap.f leapB
  by_cases h1 : Int.tmod y 4 = 0
  · rw [if_pos h1, decide_eq_true ((tz y 4).mp h1), Bool.true_and]
    by_cases h2 : Int.tmod y 100 = 0
    · rw [if_pos h2, decide_eq_false (not_not_intro ((tz y 100).mp h2)), Bool.false_or]
      congr 1
      rw [Bool.eq_iff_iff, beq_iff_eq, decide_eq_true_iff]; exact tz y 400
    · rw [if_neg h2, decide_eq_true (show ¬ y % 100 = 0 from fun h => h2 ((tz y 100).mpr h)), Bool.true_or]
  · rw [if_neg h1, decide_eq_false (fun h => h1 ((tz y 4).mpr h)), Bool.false_and, Bool.false_or]
    congr 1
    rw [Bool.eq_iff_iff, beq_iff_eq, decide_eq_true_iff]; exact tz y 400

theorem length_is (y m : Int) : days_Length.f y m = some (len y m) := by
  unfold days_Length.f len
  by_cases h1 : m < 1
  · rw [if_pos h1, if_pos h1]
  rw [if_neg h1, if_neg h1]
  by_cases h2 : 12 < m
  · rw [if_pos h2, if_pos h2]
  rw [if_neg h2, if_neg h2]
  by_cases h3 : m = 2
  · rw [if_pos h3, if_pos h3, leap_is]
    simp only [Option.bind_some]
    split <;> rfl
  · rw [if_neg h3, if_neg h3]

theorem before_is {y : Int} (h1 : 1900 ≤ y) (h2 : y ≤ 2200) : days_before.f y = some (bef y) := by
  have td : ∀ (x k : Int), 0 ≤ x → Int.tdiv x k = x / k := fun x k h => Int.tdiv_eq_ediv_of_nonneg h
  unfold days_before.f bef
  have w1 : wrap64 (y - 1) = y - 1 := by unfold wrap64; omega
  have w2 : wrap64 (y - 1900) = y - 1900 := by unfold wrap64; omega
  rw [w1, w2, td _ 4 (by omega), td _ 100 (by omega), td _ 400 (by omega)]
  unfold wrap64
  congr 1
  omega

theorem date_months {n y : Int} (hy1 : 1900 ≤ y) (hy2 : y ≤ 2199) (hn1 : bef y ≤ n) (hn2 : n < bef (y + 1)) (e : Nat) : ∀ (k : Nat) (m z : Int), 1 ≤ m → m + e = 12 → e < k → bef y + cumN y (m - 1).toNat ≤ n →
    ∃ m' d', days_Date.l1 k (n - bef y - cumN y (m - 1).toNat) y m z = some (y, m', d', 0) ∧ IsDate n y m' d' := by
  have hs := bef_succ y
  have hc := cum_12 y
  have hb := bef_le hy1
  induction e with
  | zero =>
    intro k m z h1 h2 hk hlo
    obtain ⟨k, rfl⟩ : ∃ n, k = n + 1 := ⟨k - 1, by omega⟩
    have : m = 12 := by omega
    subst this
    have c := cum_next (y := y) (m := 12) (by omega)
    have e1 : (12 : Int).toNat = 12 := rfl
    rw [e1, hc] at c
    have lr := len_range (y := y) (m := 12) (by omega) (by omega)
    refine ⟨12, n - bef y - cumN y ((12 : Int) - 1).toNat + 1, ?_, hy1, hy2, by omega, by omega, by omega, by omega, ?_⟩
    · simp only [days_Date.l1]
      rw [length_is]
      simp only [Option.bind_some]
      rw [if_neg (by omega)]
      have w : wrap64 (n - bef y - cumN y ((12 : Int) - 1).toNat + 1) = n - bef y - cumN y ((12 : Int) - 1).toNat + 1 := by unfold wrap64; omega
      rw [w]
    · unfold num; omega
  | succ e ih =>
    intro k m z h1 h2 hk hlo
    obtain ⟨k, rfl⟩ : ∃ n, k = n + 1 := ⟨k - 1, by omega⟩
    have c := cum_next (y := y) h1
    have cn := cum_nonneg y (m - 1).toNat
    have lr := len_range (y := y) (m := m) h1 (by omega)
    have c12 := cum_mono y m.toNat 12 (by omega)
    simp only [days_Date.l1]
    rw [length_is]
    simp only [Option.bind_some]
    by_cases g : n - bef y - cumN y (m - 1).toNat ≥ len y m
    · rw [if_pos g]
      have w1 : wrap64 (n - bef y - cumN y (m - 1).toNat - len y m) = n - bef y - cumN y (m + 1 - 1).toNat := by
        have e2 : (m + 1 - 1).toNat = m.toNat := by omega
        rw [e2, c]; unfold wrap64; omega
      have w2 : wrap64 (m + 1) = m + 1 := by unfold wrap64; omega
      rw [w1, w2]
      refine ih k (m + 1) z (by omega) (by omega) (by omega) ?_
      have e2 : (m + 1 - 1).toNat = m.toNat := by omega
      rw [e2, c]; omega
    · rw [if_neg g]
      refine ⟨m, n - bef y - cumN y (m - 1).toNat + 1, ?_, hy1, hy2, h1, by omega, by omega, by omega, ?_⟩
      · have w : wrap64 (n - bef y - cumN y (m - 1).toNat + 1) = n - bef y - cumN y (m - 1).toNat + 1 := by unfold wrap64; omega
        rw [w]
      · unfold num; omega

theorem date_years {n : Int} (hn0 : 0 ≤ n) (hn1 : n ≤ 109572) (e : Nat) : ∀ (k : Nat) (y a b : Int), 1900 ≤ y → y + e = 2199 → e + 20 < k → bef y ≤ n →
    ∃ y' m' d', days_Date.l0 k n y a b = some (y', m', d', 0) ∧ IsDate n y' m' d' := by
  have stop : ∀ (k : Nat) (y a b : Int), 15 < k → 1900 ≤ y → y ≤ 2199 → bef y ≤ n → n < bef (y + 1) → ∃ y' m' d', days_Date.j1 k n y a b = some (y', m', d', 0) ∧ IsDate n y' m' d' := fun k y a b hk h1 h2 h3 h4 => by
    obtain ⟨k, rfl⟩ : ∃ n, k = n + 1 := ⟨k - 1, by omega⟩
    simp only [days_Date.j1]
    rw [before_is h1 (by omega)]
    simp only [Option.bind_some]
    have hb := bef_le h1
    have w1 : wrap64 (n - bef y) = n - bef y - cumN y ((1 : Int) - 1).toNat := by
      have e0 : cumN y ((1 : Int) - 1).toNat = 0 := rfl
      rw [e0]; unfold wrap64; omega
    rw [w1]
    obtain ⟨m', d', h5, h6⟩ := date_months h1 h2 h3 h4 11 k 1 b (by omega) (by omega) (by omega) (by have e0 : cumN y ((1 : Int) - 1).toNat = 0 := rfl; omega)
    exact ⟨y, m', d', h5, h6⟩
  induction e with
  | zero =>
    intro k y a b h1 h2 hk hlo
    obtain ⟨k, rfl⟩ : ∃ n, k = n + 1 := ⟨k - 1, by omega⟩
    have : y = 2199 := by omega
    subst this
    simp only [days_Date.l0]
    rw [if_neg (show ¬ (2199 : Int) < 2199 by omega)]
    exact stop k 2199 a b (by omega) (by omega) (by omega) hlo (by rw [show (2199 : Int) + 1 = 2200 from rfl, bef_2200]; omega)
  | succ e ih =>
    intro k y a b h1 h2 hk hlo
    obtain ⟨k, rfl⟩ : ∃ n, k = n + 1 := ⟨k - 1, by omega⟩
    have w1 : wrap64 (y + 1) = y + 1 := by unfold wrap64; omega
    simp only [days_Date.l0]
    rw [if_pos (by omega), w1, before_is (by omega) (by omega)]
    simp only [Option.bind_some]
    by_cases g : bef (y + 1) ≤ n
    · rw [if_pos g]
      exact ih k (y + 1) a b (by omega) (by omega) (by omega) g
    · rw [if_neg g]
      exact stop k y a b (by omega) h1 (by omega) hlo (by omega)

/-- The date of a day, and the error. -/
def dateS (n : Int) : Int × Int × Int × Int := (days_Date.f 400 n).getD (0, 0, 0, 0)

theorem date_out {n : Int} (h : n < 0 ∨ 109572 < n) : days_Date.f 400 n = some (0, 0, 0, 11) := by
  unfold days_Date.f days_is.f
  by_cases h1 : n ≥ 0
  · rw [if_pos h1, decide_eq_false (by omega)]
    simp only [Option.bind_some, Bool.false_eq_true, if_false]
  · rw [if_neg h1]
    simp only [Option.bind_some, Bool.false_eq_true, if_false]

theorem date_in {n : Int} (h0 : 0 ≤ n) (h1 : n ≤ 109572) : ∃ y m d, days_Date.f 400 n = some (y, m, d, 0) ∧ IsDate n y m d := by
  unfold days_Date.f days_is.f
  rw [if_pos h0, decide_eq_true h1]
  simp only [Option.bind_some, if_true]
  have td : Int.tdiv n 366 = n / 366 := Int.tdiv_eq_ediv_of_nonneg h0
  have w1 : wrap64 (n / 366) = n / 366 := by unfold wrap64; omega
  have w2 : wrap64 (1900 + n / 366) = 1900 + n / 366 := by unfold wrap64; omega
  rw [td, w1, w2]
  have b := bef_le (show 1900 ≤ 1900 + n / 366 by omega)
  exact date_years h0 h1 (299 - n / 366).toNat 400 _ 0 0 (by omega) (by omega) (by omega) (by omega)

theorem date_f (n : Int) : days_Date.f 400 n = some (dateS n) := by
  unfold dateS
  by_cases h : 0 ≤ n ∧ n ≤ 109572
  · obtain ⟨y, m, d, h1, _⟩ := date_in h.1 h.2
    rw [h1]; rfl
  · rw [date_out (by omega)]; rfl
theorem dateS_out {n : Int} (h : n < 0 ∨ 109572 < n) : dateS n = (0, 0, 0, 11) := by unfold dateS; rw [date_out h]; rfl
theorem dateS_in {n : Int} (h0 : 0 ≤ n) (h1 : n ≤ 109572) : ∃ y m d, dateS n = (y, m, d, 0) ∧ IsDate n y m d := by
  obtain ⟨y, m, d, h2, h3⟩ := date_in h0 h1
  exact ⟨y, m, d, by unfold dateS; rw [h2]; rfl, h3⟩
theorem dateS_is {n y m d : Int} (h : IsDate n y m d) : dateS n = (y, m, d, 0) := by
  have b := date_bounds h
  obtain ⟨y', m', d', h1, h2⟩ := dateS_in b.1 b.2
  obtain ⟨e1, e2, e3⟩ := date_unique h h2
  rw [h1, e1, e2, e3]
end Go.Proofs.YticcaknflnldgaaDoor.Dy
