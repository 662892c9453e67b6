/- What the reference's Leap, Length, Of and Date come to: the same plain functions of the calendar; no condition. -/
import Derived.Test.YtghheaimgjkccaaDoorDyM
import Derived.Test.YtghheaimgjkccaaDoorRx1
namespace Go.Proofs.YtghheaimgjkccaaDoor.Dy
open Go.RowKit Go.Proofs.YtghheaimgjkccaaDoorW.PrintWords Go.Proofs.YtghheaimgjkccaaDoorW.PrintLast Go.Proofs.YtghheaimgjkccaaDoorW.PrintMore Go.Proofs.YtghheaimgjkccaaDoor.R
set_option linter.unusedVariables false
set_option linter.unusedSimpArgs false

theorem rleap_is (y : Int) : accountingref04_Leap.f y = some (leapB y) := leap_is y

theorem rd_lens (m : Int) (h1 : 1 ≤ m) (h2 : m ≤ 12) : rd [31, 28, 31, 30, 31, 30, 31, 31, 30, 31, 30, 31] (m - 1) = lens (m.toNat - 1) := by
  unfold rd lens
  have : (m - 1).toNat = m.toNat - 1 := by omega
  rw [this]

theorem rlength_is (k : Nat) (hk : 1 ≤ k) (y m : Int) : accountingref04_Length.f k y m = some (len y m) := by
  obtain ⟨k, rfl⟩ : ∃ n, k = n + 1 := ⟨k - 1, by omega⟩
  unfold accountingref04_Length.f len
  by_cases h1 : m < 1
  · rw [if_pos h1, if_pos h1]; simp only [accountingref04_Length.j0, if_true]
  rw [if_neg h1, if_neg h1]
  by_cases h2 : 12 < m
  · rw [decide_eq_true (show m > 12 from h2), if_pos h2]; simp only [accountingref04_Length.j0, if_true]
  rw [decide_eq_false (show ¬ m > 12 from h2), if_neg h2]
  simp only [accountingref04_Length.j0, Bool.false_eq_true, if_false, Option.bind_some]
  have w : wrap64 (m - 1) = m - 1 := by unfold wrap64; omega
  have hl : (m - 1 < (([31, 28, 31, 30, 31, 30, 31, 31, 30, 31, 30, 31] : List Int).length : Int)) := by show m - 1 < 12; omega
  by_cases h3 : m = 2
  · rw [if_pos h3, if_pos h3, rleap_is]
    simp only [Option.bind_some]
    by_cases h4 : leapB y = true
    · rw [if_pos h4, if_pos h4]
    · rw [if_neg h4, if_neg h4, w, if_pos (by omega), if_pos hl, rd_lens m (by omega) (by omega), h3]; rfl
  · rw [if_neg h3, if_neg h3, w, if_pos (by omega), if_pos hl, rd_lens m (by omega) (by omega)]

/-- The days before a month, counted from January 1900 on. -/
def upto (i : Int) : Int := bef (1900 + i / 12) + cumN (1900 + i / 12) (i % 12).toNat
theorem upto_succ {i : Int} (h : 0 ≤ i) : upto (i + 1) = upto i + len (1900 + i / 12) (i % 12 + 1) := by
  unfold upto
  by_cases h1 : i % 12 = 11
  · have e1 : (i + 1) / 12 = i / 12 + 1 := by omega
    have e2 : ((i + 1) % 12).toNat = 0 := by omega
    have e3 : (i % 12).toNat = 11 := by omega
    have e4 : i % 12 + 1 = 12 := by omega
    have c := cum_12 (1900 + i / 12)
    have s : cumN (1900 + i / 12) 12 = cumN (1900 + i / 12) 11 + len (1900 + i / 12) 12 := rfl
    rw [e1, e2, e3, e4, show 1900 + (i / 12 + 1) = 1900 + i / 12 + 1 by omega, bef_succ]
    have e5 : cumN (1900 + i / 12 + 1) 0 = 0 := rfl
    rw [e5]; omega
  · have e1 : (i + 1) / 12 = i / 12 := by omega
    have e2 : ((i + 1) % 12).toNat = (i % 12).toNat + 1 := by omega
    rw [e1, e2]
    simp only [cumN]
    have e3 : (((i % 12).toNat : Nat) : Int) = i % 12 := by omega
    rw [e3]; omega
theorem upto_0 : upto 0 = 0 := by decide
theorem upto_3600 : upto 3600 = 109573 := by
  unfold upto
  have e : (1900 : Int) + 3600 / 12 = 2200 := rfl
  rw [e, bef_2200]; rfl
theorem upto_bd {i : Int} (h : 0 ≤ i) : 28 * i ≤ upto i ∧ upto i ≤ 31 * i := by
  have key : ∀ n : Nat, 28 * (n : Int) ≤ upto n ∧ upto n ≤ 31 * n := fun n => by
    induction n with
    | zero => rw [show ((0 : Nat) : Int) = 0 from rfl, upto_0]; omega
    | succ n ih =>
      have l := len_range (y := 1900 + (n : Int) / 12) (m := (n : Int) % 12 + 1) (by omega) (by omega)
      have s := upto_succ (i := (n : Int)) (by omega)
      rw [show ((n + 1 : Nat) : Int) = (n : Int) + 1 by omega, s]; omega
  have := key i.toNat
  have e : ((i.toNat : Nat) : Int) = i := by omega
  rw [e] at this; exact this

theorem rfirst_loop {x0 : Int} (h0 : x0 ≤ 3600) (e : Nat) : ∀ (k : Nat) (i : Int), 0 ≤ i → i + e = x0 → e + 1 < k → accountingref04_first.l0 k x0 (upto i) i = some (upto x0) := by
  induction e with
  | zero =>
    intro k i h1 h2 hk
    obtain ⟨k, rfl⟩ : ∃ n, k = n + 1 := ⟨k - 1, by omega⟩
    have : i = x0 := by omega
    subst this
    simp only [accountingref04_first.l0]
    rw [if_neg (by omega)]
  | succ e ih =>
    intro k i h1 h2 hk
    obtain ⟨k, rfl⟩ : ∃ n, k = n + 1 := ⟨k - 1, by omega⟩
    have td : Int.tdiv i 12 = i / 12 := Int.tdiv_eq_ediv_of_nonneg h1
    have tm : Int.tmod i 12 = i % 12 := Int.tmod_eq_emod_of_nonneg h1
    have w1 : wrap64 (i / 12) = i / 12 := by unfold wrap64; omega
    have w2 : wrap64 (1900 + i / 12) = 1900 + i / 12 := by unfold wrap64; omega
    have w3 : wrap64 (i % 12 + 1) = i % 12 + 1 := by unfold wrap64; omega
    have w4 : wrap64 (i + 1) = i + 1 := by unfold wrap64; omega
    have b := upto_bd h1
    have lb := len_bd (1900 + i / 12) (i % 12 + 1)
    have w5 : wrap64 (upto i + len (1900 + i / 12) (i % 12 + 1)) = upto (i + 1) := by rw [upto_succ h1]; unfold wrap64; omega
    simp only [accountingref04_first.l0]
    rw [if_pos (by omega), td, tm, w1, w2, w3, rlength_is k (by omega)]
    simp only [Option.bind_some]
    rw [w5, w4]
    exact ih k (i + 1) (by omega) (by omega) (by omega)

theorem num_upto {y m d : Int} (h1 : 1900 ≤ y) (h2 : 1 ≤ m) (h3 : m ≤ 12) : num y m d = upto ((y - 1900) * 12 + m - 1) + d - 1 := by
  unfold num upto
  have e1 : 1900 + ((y - 1900) * 12 + m - 1) / 12 = y := by omega
  have e2 : ((y - 1900) * 12 + m - 1) % 12 = m - 1 := by omega
  rw [e1, e2]

theorem rof_is (y m d : Int) : accountingref04_Of.f 3700 y m d = some (ofS y m d) := by
  unfold accountingref04_Of.f ofS
  by_cases h1 : y < 1900
  · rw [if_pos h1, if_pos (.inl h1)]
  rw [if_neg h1]
  by_cases h2 : y > 2199
  · rw [if_pos h2, if_pos (.inr (.inl (by omega)))]
  rw [if_neg h2]
  by_cases h3 : d < 1
  · rw [if_pos h3, if_pos (.inr (.inr (.inl h3)))]
  rw [if_neg h3, rlength_is 3700 (by omega)]
  simp only [Option.bind_some]
  by_cases h4 : d > len y m
  · rw [if_pos h4, if_pos (.inr (.inr (.inr h4)))]
  · rw [if_neg h4, if_neg (by omega)]
    have lp := len_pos (y := y) (m := m) (by omega)
    have lr := len_range (y := y) lp.1 lp.2
    have w1 : wrap64 (y - 1900) = y - 1900 := by unfold wrap64; omega
    have w2 : wrap64 ((y - 1900) * 12) = (y - 1900) * 12 := by unfold wrap64; omega
    have w3 : wrap64 ((y - 1900) * 12 + m) = (y - 1900) * 12 + m := by unfold wrap64; omega
    have w4 : wrap64 ((y - 1900) * 12 + m - 1) = (y - 1900) * 12 + m - 1 := by unfold wrap64; omega
    rw [w1, w2, w3, w4]
    unfold accountingref04_first.f
    have b := upto_bd (i := (y - 1900) * 12 + m - 1) (by omega)
    have := rfirst_loop (x0 := (y - 1900) * 12 + m - 1) (by omega) ((y - 1900) * 12 + m - 1).toNat 3700 0 (by omega) (by omega) (by omega)
    rw [upto_0] at this
    rw [this]
    simp only [Option.bind_some]
    rw [num_upto (by omega) lp.1 lp.2]
    have w5 : wrap64 (wrap64 (upto ((y - 1900) * 12 + m - 1) + d) - 1) = upto ((y - 1900) * 12 + m - 1) + d - 1 := by unfold wrap64; omega
    rw [w5]

theorem rdate_loop {n : Int} (hn0 : 0 ≤ n) (hn1 : n ≤ 109572) (e : Nat) : ∀ (k : Nat) (i : Int), 0 ≤ i → i + e = 3600 → e + 1 < k → upto i ≤ n →
    ∃ y m d, accountingref04_Date.l0 k i (n - upto i) = some (y, m, d, 0) ∧ IsDate n y m d := by
  induction e with
  | zero =>
    intro k i h1 h2 hk h3
    have : i = 3600 := by omega
    subst this
    rw [upto_3600] at h3; omega
  | succ e ih =>
    intro k i h1 h2 hk h3
    obtain ⟨k, rfl⟩ : ∃ n, k = n + 1 := ⟨k - 1, by omega⟩
    have td : Int.tdiv i 12 = i / 12 := Int.tdiv_eq_ediv_of_nonneg h1
    have tm : Int.tmod i 12 = i % 12 := Int.tmod_eq_emod_of_nonneg h1
    have w1 : wrap64 (i / 12) = i / 12 := by unfold wrap64; omega
    have w2 : wrap64 (1900 + i / 12) = 1900 + i / 12 := by unfold wrap64; omega
    have w3 : wrap64 (i % 12 + 1) = i % 12 + 1 := by unfold wrap64; omega
    have w4 : wrap64 (i + 1) = i + 1 := by unfold wrap64; omega
    have b := upto_bd h1
    have lb := len_range (y := 1900 + i / 12) (m := i % 12 + 1) (by omega) (by omega)
    simp only [accountingref04_Date.l0]
    rw [td, tm, w1, w2, w3, rlength_is k (by omega)]
    simp only [Option.bind_some]
    by_cases g : n - upto i ≥ len (1900 + i / 12) (i % 12 + 1)
    · rw [if_pos g]
      have w5 : wrap64 (n - upto i - len (1900 + i / 12) (i % 12 + 1)) = n - upto (i + 1) := by rw [upto_succ h1]; unfold wrap64; omega
      rw [w5, w4]
      exact ih k (i + 1) (by omega) (by omega) (by omega) (by rw [upto_succ h1]; omega)
    · rw [if_neg g]
      have w5 : wrap64 (n - upto i + 1) = n - upto i + 1 := by unfold wrap64; omega
      rw [w5]
      refine ⟨_, _, _, rfl, by omega, by omega, by omega, by omega, by omega, by omega, ?_⟩
      rw [num_upto (by omega) (by omega) (by omega)]
      have e1 : (1900 + i / 12 - 1900) * 12 + (i % 12 + 1) - 1 = i := by omega
      rw [e1]; omega

theorem rdate_is (n : Int) : accountingref04_Date.f 3700 n = some (dateS n) := by
  unfold accountingref04_Date.f accountingref04_Is.f
  by_cases h0 : n ≥ 0
  · rw [if_pos h0]
    by_cases h1 : n ≤ 109572
    · rw [decide_eq_true h1]
      simp only [Option.bind_some, if_true]
      obtain ⟨y, m, d, h2, h3⟩ := rdate_loop h0 h1 3600 3700 0 (by omega) (by omega) (by omega) (by rw [upto_0]; omega)
      rw [upto_0, Int.sub_zero] at h2
      rw [h2, dateS_is h3]
    · rw [decide_eq_false h1]
      simp only [Option.bind_some, Bool.false_eq_true, if_false]
      rw [dateS_out (by omega)]
  · rw [if_neg h0]
    simp only [Option.bind_some, Bool.false_eq_true, if_false]
    rw [dateS_out (by omega)]
end Go.Proofs.YtghheaimgjkccaaDoor.Dy
