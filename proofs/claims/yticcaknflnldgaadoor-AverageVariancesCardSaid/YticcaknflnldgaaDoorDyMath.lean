/- The calendar as whole numbers: lengths of months, days before a year, the number of a date; plain mathematics, no condition. -/
import Derived.Test.YticcaknflnldgaaDoorLaidW
namespace Go.Proofs.YticcaknflnldgaaDoor.Dy
open Go.RowKit Go.Proofs.YticcaknflnldgaaDoorW.PrintWords
set_option linter.unusedVariables false
set_option linter.unusedSimpArgs false

def leapB (y : Int) : Bool := (decide (y % 4 = 0) && decide (¬ y % 100 = 0)) || decide (y % 400 = 0)
def len (y m : Int) : Int := if m < 1 then 0 else if 12 < m then 0 else if m = 2 then (if leapB y = true then 29 else 28) else lens (m.toNat - 1)
def bef (y : Int) : Int := 365 * (y - 1900) + (y - 1) / 4 - (y - 1) / 100 + (y - 1) / 400 - 460
def cumN (y : Int) : Nat → Int
  | 0 => 0
  | n + 1 => cumN y n + len y ((n : Int) + 1)
def num (y m d : Int) : Int := bef y + cumN y (m - 1).toNat + d - 1
def ofS (y m d : Int) : Int × Int := if y < 1900 ∨ 2199 < y ∨ d < 1 ∨ len y m < d then (0, 11) else (num y m d, 0)
def IsDate (n y m d : Int) : Prop := 1900 ≤ y ∧ y ≤ 2199 ∧ 1 ≤ m ∧ m ≤ 12 ∧ 1 ≤ d ∧ d ≤ len y m ∧ num y m d = n

theorem tz (y k : Int) : Int.tmod y k = 0 ↔ y % k = 0 :=
  ⟨fun h => Int.emod_eq_zero_of_dvd (Int.dvd_of_tmod_eq_zero h), fun h => Int.tmod_eq_zero_of_dvd (Int.dvd_of_emod_eq_zero h)⟩

theorem lens_range (j : Nat) (h : j < 12) : 28 ≤ lens j ∧ lens j ≤ 31 :=
  match j, h with
  | 0, _ => by decide | 1, _ => by decide | 2, _ => by decide | 3, _ => by decide | 4, _ => by decide | 5, _ => by decide
  | 6, _ => by decide | 7, _ => by decide | 8, _ => by decide | 9, _ => by decide | 10, _ => by decide | 11, _ => by decide
  | n + 12, h => absurd h (by omega)

theorem len_range {y m : Int} (h1 : 1 ≤ m) (h2 : m ≤ 12) : 28 ≤ len y m ∧ len y m ≤ 31 := by
  unfold len
  rw [if_neg (by omega), if_neg (by omega)]
  split
  · split <;> omega
  · exact lens_range _ (by omega)
theorem len_out {y m : Int} (h : m < 1 ∨ 12 < m) : len y m = 0 := by
  unfold len
  rcases h with h | h
  · rw [if_pos h]
  · rw [if_neg (by omega), if_pos h]
theorem len_pos {y m : Int} (h : 1 ≤ len y m) : 1 ≤ m ∧ m ≤ 12 := by
  by_cases h1 : m < 1 ∨ 12 < m
  · rw [len_out h1] at h; omega
  · omega
theorem len_bd (y m : Int) : 0 ≤ len y m ∧ len y m ≤ 31 := by
  by_cases h1 : m < 1 ∨ 12 < m
  · rw [len_out h1]; omega
  · have := len_range (y := y) (show 1 ≤ m by omega) (by omega); omega

theorem bef_succ (y : Int) : bef (y + 1) = bef y + 365 + (if leapB y = true then 1 else 0) := by
  unfold bef leapB
  by_cases h1 : y % 4 = 0 <;> by_cases h2 : y % 100 = 0 <;> by_cases h3 : y % 400 = 0 <;> simp [h1, h2, h3] <;> omega

theorem cum_12 (y : Int) : cumN y 12 = 365 + (if leapB y = true then 1 else 0) := by
  have e : ∀ m : Int, 1 ≤ m → m ≤ 12 → m ≠ 2 → len y m = lens (m.toNat - 1) := fun m h1 h2 h3 => by
    unfold len; rw [if_neg (by omega), if_neg (by omega), if_neg h3]
  have e2 : len y 2 = if leapB y = true then 29 else 28 := by unfold len; rfl
  simp only [cumN]
  show 0 + len y 1 + len y 2 + len y 3 + len y 4 + len y 5 + len y 6 + len y 7 + len y 8 + len y 9 + len y 10 + len y 11 + len y 12 = _
  rw [e2, e 1 (by omega) (by omega) (by omega), e 3 (by omega) (by omega) (by omega), e 4 (by omega) (by omega) (by omega), e 5 (by omega) (by omega) (by omega), e 6 (by omega) (by omega) (by omega), e 7 (by omega) (by omega) (by omega), e 8 (by omega) (by omega) (by omega), e 9 (by omega) (by omega) (by omega), e 10 (by omega) (by omega) (by omega), e 11 (by omega) (by omega) (by omega), e 12 (by omega) (by omega) (by omega)]
  show 0 + (31 : Int) + _ + 31 + 30 + 31 + 30 + 31 + 31 + 30 + 31 + 30 + 31 = _
  split <;> omega

theorem cum_mono (y : Int) (a b : Nat) (h : a ≤ b) : cumN y a ≤ cumN y b := by
  induction b with
  | zero => have : a = 0 := by omega
            subst this; exact Int.le_refl _
  | succ b ih =>
    by_cases e : a = b + 1
    · subst e; exact Int.le_refl _
    · have := ih (by omega)
      have g := len_bd y ((b : Int) + 1)
      simp only [cumN]; omega
theorem cum_nonneg (y : Int) (a : Nat) : 0 ≤ cumN y a := cum_mono y 0 a (by omega)
theorem cum_next {y m : Int} (h : 1 ≤ m) : cumN y m.toNat = cumN y (m - 1).toNat + len y m := by
  have e : m.toNat = (m - 1).toNat + 1 := by omega
  rw [e]; simp only [cumN]
  have e2 : (((m - 1).toNat : Nat) : Int) + 1 = m := by omega
  rw [e2]

theorem bef_mono {a b : Int} (h : a ≤ b) : bef a ≤ bef b := by unfold bef; omega
theorem bef_le {y : Int} (h : 1900 ≤ y) : bef y ≤ 366 * (y - 1900) ∧ 365 * (y - 1900) ≤ bef y := by unfold bef; omega
theorem bef_1900 : bef 1900 = 0 := by decide
theorem bef_2200 : bef 2200 = 109573 := by decide

/-- Where a date's day lies in its year. -/
theorem in_year {n y m d : Int} (h : IsDate n y m d) : bef y ≤ n ∧ n < bef (y + 1) ∧ bef y + cumN y (m - 1).toNat ≤ n ∧ n < bef y + cumN y m.toNat := by
  obtain ⟨h1, h2, h3, h4, h5, h6, h7⟩ := h
  have c0 := cum_nonneg y (m - 1).toNat
  have c1 := cum_next (y := y) h3
  have c2 := cum_mono y m.toNat 12 (by omega)
  rw [cum_12] at c2
  rw [bef_succ]
  unfold num at h7
  omega

theorem date_bounds {n y m d : Int} (h : IsDate n y m d) : 0 ≤ n ∧ n ≤ 109572 := by
  have i := in_year h
  have a := bef_mono h.1
  have b := bef_mono (show y + 1 ≤ 2200 by have := h.2.1; omega)
  rw [bef_1900] at a
  rw [bef_2200] at b
  omega

theorem date_unique {n y m d y' m' d' : Int} (h : IsDate n y m d) (h' : IsDate n y' m' d') : y = y' ∧ m = m' ∧ d = d' := by
  have i := in_year h
  have i' := in_year h'
  have ey : y = y' := by
    rcases Int.lt_trichotomy y y' with g | g | g
    · have := bef_mono (show y + 1 ≤ y' by omega); omega
    · exact g
    · have := bef_mono (show y' + 1 ≤ y by omega); omega
  subst ey
  have em : m = m' := by
    have h3 := h.2.2.1; have h3' := h'.2.2.1
    rcases Int.lt_trichotomy m m' with g | g | g
    · have := cum_mono y m.toNat (m' - 1).toNat (by omega); omega
    · exact g
    · have := cum_mono y m'.toNat (m - 1).toNat (by omega); omega
  subst em
  have e1 := h.2.2.2.2.2.2; have e2 := h'.2.2.2.2.2.2
  unfold num at e1 e2
  exact ⟨rfl, rfl, by omega⟩

theorem date_of {y m d : Int} (h1 : 1900 ≤ y) (h2 : y ≤ 2199) (h3 : 1 ≤ d) (h4 : d ≤ len y m) : IsDate (num y m d) y m d := by
  have := len_pos (y := y) (m := m) (by omega)
  exact ⟨h1, h2, this.1, this.2, h3, h4, rfl⟩
end Go.Proofs.YticcaknflnldgaaDoor.Dy
