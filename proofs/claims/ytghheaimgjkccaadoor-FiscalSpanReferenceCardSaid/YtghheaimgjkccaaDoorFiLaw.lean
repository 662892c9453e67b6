/- What package fiscal's functions come to, as plain functions over the months' index; no condition but those that each lemma names. -/
import Derived.Test.YtghheaimgjkccaaDoorFx
import Derived.Test.YtghheaimgjkccaaDoorDyM
namespace Go.Proofs.YtghheaimgjkccaaDoor.Fl
open Go.RowKit Go.Proofs.YtghheaimgjkccaaDoor.Dy Go.Proofs.YtghheaimgjkccaaDoor.F
set_option linter.unusedVariables false
set_option linter.unusedSimpArgs false

/-- The first day of the i-th month from January 1900 on. -/
def up (i : Int) : Int := bef (1900 + i / 12) + cumN (1900 + i / 12) (i % 12).toNat
theorem up_succ {i : Int} (h : 0 ≤ i) : up (i + 1) = up i + len (1900 + i / 12) (i % 12 + 1) := by
  unfold up
  by_cases h1 : i % 12 = 11
  · have e1 : (i + 1) / 12 = i / 12 + 1 := by omega
    have e2 : ((i + 1) % 12).toNat = 0 := by omega
    have e3 : (i % 12).toNat = 11 := by omega
    have e4 : i % 12 + 1 = 12 := by omega
    have c := cum_12 (1900 + i / 12)
    have s : cumN (1900 + i / 12) 12 = cumN (1900 + i / 12) 11 + len (1900 + i / 12) 12 := rfl
    rw [e1, e2, e3, e4, show 1900 + (i / 12 + 1) = 1900 + i / 12 + 1 by omega, bef_succ]
    have e5 : cumN (1900 + i / 12 + 1) 0 = 0 := rfl
    rw [e5]; omega
  · have e1 : (i + 1) / 12 = i / 12 := by omega
    have e2 : ((i + 1) % 12).toNat = (i % 12).toNat + 1 := by omega
    rw [e1, e2]
    simp only [cumN]
    have e3 : (((i % 12).toNat : Nat) : Int) = i % 12 := by omega
    rw [e3]; omega
theorem num_up {i d : Int} (h : 0 ≤ i) : num (1900 + i / 12) (i % 12 + 1) d = up i + d - 1 := by
  unfold num up
  rw [show i % 12 + 1 - 1 = i % 12 by omega]
theorem len_mo {i : Int} (h : 0 ≤ i) : 28 ≤ len (1900 + i / 12) (i % 12 + 1) ∧ len (1900 + i / 12) (i % 12 + 1) ≤ 31 := len_range (by omega) (by omega)
theorem of_first {i : Int} (h0 : 0 ≤ i) (h1 : i ≤ 3599) : ofS (1900 + i / 12) (i % 12 + 1) 1 = (up i, 0) := by
  have l := len_mo h0
  unfold ofS
  rw [if_neg (by omega), num_up h0]
  congr 1; omega
theorem of_last {i : Int} (h0 : 0 ≤ i) (h1 : i ≤ 3599) : ofS (1900 + i / 12) (i % 12 + 1) (len (1900 + i / 12) (i % 12 + 1)) = (up (i + 1) - 1, 0) := by
  have l := len_mo h0
  unfold ofS
  rw [if_neg (by omega), num_up h0, up_succ h0]
theorem of_late {y m d : Int} (h : 2199 < y) : ofS y m d = (0, 11) := by
  unfold ofS
  rw [if_pos (.inr (.inl h))]
theorem date_first {i : Int} (h0 : 0 ≤ i) (h1 : i ≤ 3599) : IsDate (up i) (1900 + i / 12) (i % 12 + 1) 1 := by
  have l := len_mo h0
  have q := date_of (y := 1900 + i / 12) (m := i % 12 + 1) (d := 1) (by omega) (by omega) (by omega) (by omega)
  rw [num_up h0] at q
  rw [show up i + 1 - 1 = up i by omega] at q
  exact q
/-- The k-th month of a fiscal year. -/
def mi (c y k : Int) : Int := (y - 1900) * 12 + (c - 1) + k
def exP (c y : Int) : Prop := 1900 ≤ y ∧ mi c y 11 ≤ 3599
instance (c y : Int) : Decidable (exP c y) := by unfold exP; infer_instance

theorem begin_is {c y k : Int} (c1 : 1 ≤ c) (c2 : c ≤ 12) (k1 : 0 ≤ k) (k2 : k ≤ 12) (y1 : 1900 ≤ y) (y2 : y ≤ 2199) :
    fiscal_begin.f c y k = some (if mi c y k ≤ 3599 then (up (mi c y k), true) else (0, false)) := by
  have t1 : Int.tdiv (c - 1 + k) 12 = (c - 1 + k) / 12 := Int.tdiv_eq_ediv_of_nonneg (by omega)
  have t2 : Int.tmod (c - 1 + k) 12 = (c - 1 + k) % 12 := Int.tmod_eq_emod_of_nonneg (by omega)
  have w1 : wrap64 (c - 1) = c - 1 := by unfold wrap64; omega
  have w2 : wrap64 (c - 1 + k) = c - 1 + k := by unfold wrap64; omega
  have w3 : wrap64 ((c - 1 + k) / 12) = (c - 1 + k) / 12 := by unfold wrap64; omega
  have w4 : wrap64 (y + (c - 1 + k) / 12) = y + (c - 1 + k) / 12 := by unfold wrap64; omega
  have w5 : wrap64 ((c - 1 + k) % 12 + 1) = (c - 1 + k) % 12 + 1 := by unfold wrap64; omega
  unfold fiscal_begin.f days_Of.f
  rw [w1, w2, t1, t2, w3, w4, w5]
  simp only [Option.bind_some]
  have e1 : y + (c - 1 + k) / 12 = 1900 + mi c y k / 12 := by unfold mi; omega
  have e2 : (c - 1 + k) % 12 = mi c y k % 12 := by unfold mi; omega
  rw [e1, e2]
  by_cases h : mi c y k ≤ 3599
  · rw [if_pos h, of_first (by unfold mi; omega) h]; rfl
  · rw [if_neg h, of_late (by omega)]; rfl
theorem monthEnd_is {i : Int} (h0 : 0 ≤ i) (h1 : i ≤ 3599) : days_MonthEnd.f (up i) = some (up (i + 1) - 1, 0) := by
  unfold days_MonthEnd.f days_Date.f days_Length.f days_Of.f
  rw [dateS_is (date_first h0 h1)]
  simp only [Option.bind_some]
  rw [if_pos trivial, if_neg (by omega), of_last h0 h1]
theorem ends_is {k : Nat} {c y : Int} (hk : 1 ≤ k) (c1 : 1 ≤ c) (c2 : c ≤ 12) : fiscal_ends.f k c y = some (if exP c y then (up (mi c y 0), up (mi c y 12) - 1, true) else (0, 0, false)) := by
  obtain ⟨k, rfl⟩ : ∃ n, k = n + 1 := ⟨k - 1, by omega⟩
  unfold fiscal_ends.f
  by_cases h1 : y < 1900
  · rw [if_pos h1, if_neg (by unfold exP; omega)]; simp only [fiscal_ends.j0, if_true]
  rw [if_neg h1]
  by_cases h2 : y > 2199
  · rw [decide_eq_true h2, if_neg (by unfold exP mi; omega)]; simp only [fiscal_ends.j0, if_true]
  rw [decide_eq_false h2]
  simp only [fiscal_ends.j0, Bool.false_eq_true, if_false]
  rw [begin_is c1 c2 (by omega) (by omega) (by omega) (by omega), begin_is c1 c2 (by omega) (by omega) (by omega) (by omega)]
  simp only [Option.bind_some]
  by_cases h : exP c y
  · have h3 : mi c y 11 ≤ 3599 := h.2
    have h4 : mi c y 0 ≤ 3599 := by unfold mi at *; omega
    rw [if_pos h, if_pos h3, if_pos h4]
    simp only [if_true]
    rw [monthEnd_is (by unfold mi; omega) h3]
    simp only [Option.bind_some]
    rw [show mi c y 11 + 1 = mi c y 12 by unfold mi; omega]
  · have h3 : ¬ mi c y 11 ≤ 3599 := fun q => h ⟨by omega, q⟩
    rw [if_neg h, if_neg h3]
    by_cases h4 : mi c y 0 ≤ 3599
    · rw [if_pos h4]; simp
    · rw [if_neg h4]; simp
def exN (c y n : Int) : Prop := exP c y ∧ 1 ≤ n ∧ n ≤ 13
instance (c y n : Int) : Decidable (exN c y n) := by unfold exN; infer_instance
theorem exists_is {k : Nat} {c y n : Int} (hk : 1 ≤ k) (c1 : 1 ≤ c) (c2 : c ≤ 12) : fiscal_exists.f k c y n = some (decide (exN c y n)) := by
  unfold fiscal_exists.f
  rw [ends_is hk c1 c2]
  simp only [Option.bind_some]
  by_cases h : exP c y
  · rw [if_pos h]
    simp only [if_true]
    by_cases h1 : n ≥ 1
    · rw [if_pos h1]; congr 1; rw [decide_eq_decide]; exact ⟨fun q => ⟨h, h1, q⟩, fun q => q.2.2⟩
    · rw [if_neg h1]; congr 1; rw [eq_comm, decide_eq_false_iff_not]; exact fun q => h1 q.2.1
  · rw [if_neg h]
    simp only [Bool.false_eq_true, if_false]
    congr 1; rw [eq_comm, decide_eq_false_iff_not]; exact fun q => h q.1
def vc (c : Int) : Prop := 1 ≤ c ∧ c ≤ 12
instance (c : Int) : Decidable (vc c) := by unfold vc; infer_instance
theorem right_is (c : Int) : fiscal_Right.f c = some (decide (vc c)) := by
  unfold fiscal_Right.f
  by_cases h : c ≥ 1
  · rw [if_pos h]; congr 1; rw [decide_eq_decide]; exact ⟨fun q => ⟨h, q⟩, fun q => q.2⟩
  · rw [if_neg h]; congr 1; rw [eq_comm, decide_eq_false_iff_not]; exact fun q => h q.1
def spanS (c y n : Int) : Int × Int × Int := if vc c then (if exN c y n then (if n = 13 then (up (mi c y 12) - 1, up (mi c y 12) - 1, 0) else (up (mi c y (n - 1)), up (mi c y n) - 1, 0)) else (0, 0, 16)) else (0, 0, 2)
theorem span_is {k : Nat} (hk : 1 ≤ k) (c y n : Int) : fiscal_Span.f k c y n = some (spanS c y n) := by
  unfold fiscal_Span.f spanS
  rw [right_is]
  simp only [Option.bind_some, decide_eq_true_eq]
  by_cases h : vc c
  · rw [if_pos h, if_pos h, exists_is hk h.1 h.2]
    simp only [Option.bind_some, decide_eq_true_eq]
    by_cases h1 : exN c y n
    · rw [if_pos h1, if_pos h1]
      have hx := h1.1
      by_cases h2 : n = 13
      · rw [if_pos h2, if_pos h2, ends_is hk h.1 h.2, if_pos hx]; rfl
      · have w : wrap64 (n - 1) = n - 1 := by have := h1.2; unfold wrap64; omega
        have y2 : y ≤ 2199 := by have q := hx.2; have := h.1; unfold mi at q; omega
        have hm : mi c y (n - 1) ≤ 3599 := by have := hx.2; have := h1.2; unfold mi at *; omega
        rw [if_neg h2, if_neg h2, w, begin_is h.1 h.2 (by have := h1.2; omega) (by have := h1.2; omega) hx.1 y2, if_pos hm]
        simp only [Option.bind_some]
        rw [monthEnd_is (by have := hx.1; have := h.1; have := h1.2; unfold mi; omega) hm]
        simp only [Option.bind_some]
        rw [show mi c y (n - 1) + 1 = mi c y n by unfold mi; omega]
    · rw [if_neg h1, if_neg h1]
  · rw [if_neg h, if_neg h]
def ofPS (c day : Int) : Int × Int × Int := if vc c then (if 0 ≤ day ∧ day ≤ 109572 then (if (dateS day).2.1 < c then (if exP c ((dateS day).1 - 1) then ((dateS day).1 - 1, (dateS day).2.1 - c + 13, 0) else (0, 0, 16)) else (if exP c (dateS day).1 then ((dateS day).1, (dateS day).2.1 - c + 1, 0) else (0, 0, 16))) else (0, 0, 11)) else (0, 0, 2)
theorem of_is {k : Nat} (hk : 1 ≤ k) (c day : Int) : fiscal_Of.f k c day = some (ofPS c day) := by
  unfold fiscal_Of.f ofPS days_Date.f
  rw [right_is]
  simp only [Option.bind_some, decide_eq_true_eq]
  by_cases h : vc c
  · rw [if_pos h, if_pos h]
    by_cases h1 : 0 ≤ day ∧ day ≤ 109572
    · obtain ⟨y, m, d, hd, hI⟩ := dateS_in h1.1 h1.2
      rw [if_pos h1, hd]
      simp only
      have b := hI
      unfold IsDate at b
      unfold vc at h
      have w1 : wrap64 (m - c) = m - c := by unfold wrap64; omega
      have w2 : wrap64 (m - c + 1) = m - c + 1 := by unfold wrap64; omega
      have w3 : wrap64 (m - c + 1 + 12) = m - c + 13 := by unfold wrap64; omega
      have w4 : wrap64 (y - 1) = y - 1 := by unfold wrap64; omega
      rw [if_pos trivial, w1, w2, w3, w4, exists_is hk h.1 h.2, exists_is hk h.1 h.2]
      simp only [Option.bind_some, decide_eq_true_eq]
      by_cases h2 : m < c
      · rw [if_pos (by omega), if_pos h2]
        by_cases h3 : exP c (y - 1)
        · rw [if_pos ⟨h3, by omega, by omega⟩, if_pos h3]
        · rw [if_neg (fun q => h3 q.1), if_neg h3]
      · rw [if_neg (by omega), if_neg h2]
        by_cases h3 : exP c y
        · rw [if_pos ⟨h3, by omega, by omega⟩, if_pos h3]
        · rw [if_neg (fun q => h3 q.1), if_neg h3]
    · rw [if_neg h1, dateS_out (by omega)]; simp
  · rw [if_neg h, if_neg h]
theorem ofPS_ok {c day : Int} (h : (ofPS c day).2.2 = 0) : vc c ∧ exP c (ofPS c day).1 ∧ 1 ≤ (ofPS c day).2.1 ∧ (ofPS c day).2.1 ≤ 12 ∧ up (mi c (ofPS c day).1 ((ofPS c day).2.1 - 1)) ≤ day ∧ day ≤ up (mi c (ofPS c day).1 (ofPS c day).2.1) - 1 := by
  unfold ofPS at h ⊢
  have h0 : vc c := Decidable.byContradiction fun q => by rw [if_neg q] at h; exact absurd h (by decide)
  rw [if_pos h0] at h ⊢
  have h1 : 0 ≤ day ∧ day ≤ 109572 := Decidable.byContradiction fun q => by rw [if_neg q] at h; exact absurd h (by decide)
  rw [if_pos h1] at h ⊢
  obtain ⟨y, m, d, hd, hI⟩ := dateS_in h1.1 h1.2
  rw [hd] at h ⊢
  simp only at h ⊢
  have b := in_year hI
  obtain ⟨b1, b2, b3, b4, b5, b6, b7⟩ := hI
  have i0 : 0 ≤ (y - 1900) * 12 + m - 1 := by omega
  have key : ∀ i, i = (y - 1900) * 12 + m - 1 → up i ≤ day ∧ day ≤ up (i + 1) - 1 := by
    intro i hi
    have e1 : 1900 + i / 12 = y := by omega
    have e2 : i % 12 + 1 = m := by omega
    have n := num_up (i := i) (d := d) (by omega)
    rw [e1, e2, b7] at n
    have s := up_succ (i := i) (by omega)
    rw [e1, e2] at s
    omega
  unfold vc at h0
  by_cases h2 : m < c
  · rw [if_pos h2] at h ⊢
    have h3 : exP c (y - 1) := Decidable.byContradiction fun q => by rw [if_neg q] at h; exact absurd h (by decide)
    rw [if_pos h3]
    have q := key (mi c (y - 1) (m - c + 13 - 1)) (by unfold mi; omega)
    rw [show mi c (y - 1) (m - c + 13 - 1) + 1 = mi c (y - 1) (m - c + 13) by unfold mi; omega] at q
    exact ⟨h0, h3, by simp only; omega, by simp only; omega, q.1, q.2⟩
  · rw [if_neg h2] at h ⊢
    have h3 : exP c y := Decidable.byContradiction fun q => by rw [if_neg q] at h; exact absurd h (by decide)
    rw [if_pos h3]
    have q := key (mi c y (m - c + 1 - 1)) (by unfold mi; omega)
    rw [show mi c y (m - c + 1 - 1) + 1 = mi c y (m - c + 1) by unfold mi; omega] at q
    exact ⟨h0, h3, by simp only; omega, by simp only; omega, q.1, q.2⟩
theorem ofPS_bad {c day : Int} (h : (ofPS c day).2.2 ≠ 0) : (ofPS c day).1 = 0 ∧ (ofPS c day).2.1 = 0 := by
  revert h
  unfold ofPS
  repeat' split
  all_goals (intro h; first | exact absurd rfl h | exact ⟨rfl, rfl⟩)
def forPS (c day kind : Int) : Int × Int × Int := if (ofPS c day).2.2 = 0 ∧ (kind = 3 ∨ kind = 4) ∧ up (mi c (ofPS c day).1 12) - 1 = day then ((ofPS c day).1, 13, 0) else ofPS c day
theorem for_is {k : Nat} (hk : 2 ≤ k) (c day kind : Int) : fiscal_For.f k c day kind = some (forPS c day kind) := by
  obtain ⟨k, rfl⟩ : ∃ n, k = n + 1 := ⟨k - 1, by omega⟩
  unfold fiscal_For.f forPS
  rw [of_is (by omega)]
  simp only [Option.bind_some]
  obtain ⟨y, n, e, hp⟩ : ∃ y n e, ofPS c day = (y, n, e) := ⟨_, _, _, rfl⟩
  have hok := ofPS_ok (c := c) (day := day)
  rw [hp] at hok ⊢
  simp only at hok ⊢
  by_cases he : e = 0
  · subst he
    obtain ⟨o1, o2, -⟩ := hok rfl
    rw [if_pos rfl]
    have hj : fiscal_For.j0 (k + 1) day 0 false c y n = some (if up (mi c y 12) - 1 = day then (y, 13, 0) else (y, n, 0)) := by
      simp only [fiscal_For.j0, Bool.false_eq_true, if_false]
      rw [ends_is (by omega) o1.1 o1.2, if_pos o2]
      simp only [Option.bind_some]
      split <;> rfl
    by_cases h3 : kind = 3
    · rw [if_pos h3, hj]
      by_cases hl : up (mi c y 12) - 1 = day
      · rw [if_pos hl, if_pos ⟨rfl, .inl h3, hl⟩]
      · rw [if_neg hl, if_neg (fun q => hl q.2.2)]
    · rw [if_neg h3]
      by_cases h4 : kind = 4
      · rw [show (kind != 4) = false from bne_eq_false_iff_eq.mpr h4, hj]
        by_cases hl : up (mi c y 12) - 1 = day
        · rw [if_pos hl, if_pos ⟨rfl, .inr h4, hl⟩]
        · rw [if_neg hl, if_neg (fun q => hl q.2.2)]
      · rw [show (kind != 4) = true from bne_iff_ne.mpr h4, if_neg (fun q => q.2.1.elim h3 h4)]
        simp only [fiscal_For.j0, if_true]
  · rw [if_neg he, if_neg (fun q => he q.1)]
    simp only [fiscal_For.j0, if_true]
def stepS (c y n y' n' : Int) : Int × Int × Int := if vc c then (if exN c y n ∧ exN c y' n' then (y', n', 0) else (0, 0, 16)) else (0, 0, 2)
theorem step_is {k : Nat} (hk : 1 ≤ k) (c y n y' n' : Int) : fiscal_step.f k c y n y' n' = some (stepS c y n y' n') := by
  unfold fiscal_step.f stepS
  rw [right_is]
  simp only [Option.bind_some, decide_eq_true_eq]
  by_cases h : vc c
  · rw [if_pos h, if_pos h, exists_is hk h.1 h.2, exists_is hk h.1 h.2]
    simp only [Option.bind_some, decide_eq_true_eq]
    by_cases h1 : exN c y n
    · rw [if_pos h1]
      by_cases h2 : exN c y' n'
      · rw [if_pos h2, if_pos ⟨h1, h2⟩]
      · rw [if_neg h2, if_neg (fun q => h2 q.2)]
    · rw [if_neg h1, if_neg (fun q => h1 q.1)]
  · rw [if_neg h, if_neg h]
def nextS (c y n : Int) : Int × Int × Int := if n = 13 then stepS c y n (wrap64 (y + 1)) 1 else stepS c y n y (wrap64 (n + 1))
def prevS (c y n : Int) : Int × Int × Int := if n = 1 then stepS c y n (wrap64 (y - 1)) 13 else stepS c y n y (wrap64 (n - 1))
theorem next_is {k : Nat} (hk : 1 ≤ k) (c y n : Int) : fiscal_Next.f k c y n = some (nextS c y n) := by
  unfold fiscal_Next.f nextS
  split <;> exact step_is hk ..
theorem prev_is {k : Nat} (hk : 1 ≤ k) (c y n : Int) : fiscal_Prev.f k c y n = some (prevS c y n) := by
  unfold fiscal_Prev.f prevS
  split <;> exact step_is hk ..
def countS (c y n y' n' : Int) : Int × Int := if vc c then (if exN c y n ∧ exN c y' n' then ((y' - y) * 13 + n' - n, 0) else (0, 16)) else (0, 2)
theorem exN_bd {c y n : Int} (h : vc c) (h1 : exN c y n) : 1900 ≤ y ∧ y ≤ 2199 ∧ 1 ≤ n ∧ n ≤ 13 := by
  obtain ⟨⟨a, b⟩, d, e⟩ := h1
  unfold vc at h
  unfold mi at b
  omega
theorem count_is {k : Nat} (hk : 1 ≤ k) (c y n y' n' : Int) : fiscal_Count.f k c y n y' n' = some (countS c y n y' n') := by
  unfold fiscal_Count.f countS
  rw [right_is]
  simp only [Option.bind_some, decide_eq_true_eq]
  by_cases h : vc c
  · rw [if_pos h, if_pos h, exists_is hk h.1 h.2, exists_is hk h.1 h.2]
    simp only [Option.bind_some, decide_eq_true_eq]
    by_cases h1 : exN c y n
    · rw [if_pos h1]
      by_cases h2 : exN c y' n'
      · rw [if_pos h2, if_pos ⟨h1, h2⟩]
        have b1 := exN_bd h h1
        have b2 := exN_bd h h2
        congr 2
        unfold wrap64; omega
      · rw [if_neg h2, if_neg (fun q => h2 q.2)]
    · rw [if_neg h1, if_neg (fun q => h1 q.1)]
  · rw [if_neg h, if_neg h]
theorem up_0 : up 0 = 0 := by decide
theorem up_len {i : Int} (h : 0 ≤ i) : 28 ≤ up (i + 1) - up i ∧ up (i + 1) - up i ≤ 31 := by
  have := up_succ h; have := len_mo h; omega
theorem up_bd {i : Int} (h : 0 ≤ i) : 28 * i ≤ up i ∧ up i ≤ 31 * i := by
  have key : ∀ n : Nat, 28 * (n : Int) ≤ up n ∧ up n ≤ 31 * n := fun n => by
    induction n with
    | zero => rw [show ((0 : Nat) : Int) = 0 from rfl, up_0]; omega
    | succ n ih =>
      have s := up_len (i := (n : Int)) (by omega)
      rw [show ((n + 1 : Nat) : Int) = (n : Int) + 1 by omega]; omega
  have := key i.toNat
  have e : ((i.toNat : Nat) : Int) = i := by omega
  rw [e] at this; exact this
theorem stepS_ok {c y n y' n' : Int} (h : (stepS c y n y' n').2.2 = 0) : vc c ∧ exN c y n ∧ exN c y' n' ∧ stepS c y n y' n' = (y', n', 0) := by
  revert h
  unfold stepS
  split
  · rename_i hv
    split
    · rename_i hx
      intro _
      exact ⟨hv, hx.1, hx.2, rfl⟩
    · intro h; exact absurd h (by decide)
  · intro h; exact absurd h (by decide)
theorem stepS_bad {c y n y' n' : Int} (h : (stepS c y n y' n').2.2 ≠ 0) : (stepS c y n y' n').1 = 0 ∧ (stepS c y n y' n').2.1 = 0 := by
  revert h
  unfold stepS
  repeat' split
  all_goals (intro h; first | exact absurd rfl h | exact ⟨rfl, rfl⟩)
theorem next_ok {c y n : Int} (h : (nextS c y n).2.2 = 0) : vc c ∧ exN c y n ∧ ∃ y' n', nextS c y n = (y', n', 0) ∧ exN c y' n' ∧ ((n = 13 ∧ y + 1 = y' ∧ 1 = n') ∨ (n ≤ 12 ∧ y = y' ∧ n + 1 = n')) := by
  revert h
  unfold nextS
  split
  · rename_i h13
    intro h
    obtain ⟨h1, h2, h3, h4⟩ := stepS_ok h
    have b := exN_bd h1 h2
    have w : wrap64 (y + 1) = y + 1 := by unfold wrap64; omega
    rw [w] at h3 h4 ⊢
    exact ⟨h1, h2, y + 1, 1, h4, h3, .inl ⟨h13, rfl, rfl⟩⟩
  · rename_i h13
    intro h
    obtain ⟨h1, h2, h3, h4⟩ := stepS_ok h
    have b := exN_bd h1 h2
    have w : wrap64 (n + 1) = n + 1 := by unfold wrap64; omega
    rw [w] at h3 h4 ⊢
    exact ⟨h1, h2, y, n + 1, h4, h3, .inr ⟨by omega, rfl, rfl⟩⟩
theorem next_bad {c y n : Int} (h : (nextS c y n).2.2 ≠ 0) : (nextS c y n).1 = 0 ∧ (nextS c y n).2.1 = 0 := by
  revert h
  unfold nextS
  split <;> exact stepS_bad
theorem prev_of {c y n y' n' : Int} (hv : vc c) (h1 : exN c y n) (h2 : exN c y' n') (hs : (n = 13 ∧ y + 1 = y' ∧ 1 = n') ∨ (n ≤ 12 ∧ y = y' ∧ n + 1 = n')) : prevS c y' n' = (y, n, 0) := by
  have b1 := exN_bd hv h1
  have b2 := exN_bd hv h2
  unfold prevS stepS
  rcases hs with ⟨a, rfl, rfl⟩ | ⟨a, rfl, rfl⟩
  · have w : wrap64 (y + 1 - 1) = y := by unfold wrap64; omega
    rw [if_pos rfl, if_pos hv, w, a, if_pos ⟨h2, a ▸ h1⟩]
  · have w : wrap64 (n + 1 - 1) = n := by unfold wrap64; omega
    rw [if_neg (by omega), if_pos hv, w, if_pos ⟨h2, h1⟩]
theorem count_of {c y n y' n' : Int} (hv : vc c) (h1 : exN c y n) (h2 : exN c y' n') : countS c y n y' n' = ((y' - y) * 13 + n' - n, 0) := by
  unfold countS; rw [if_pos hv, if_pos ⟨h1, h2⟩]
theorem count_no {c y n y' n' : Int} (hv : vc c) (h : ¬ (exN c y n ∧ exN c y' n')) : countS c y n y' n' = (0, 16) := by
  unfold countS; rw [if_pos hv, if_neg h]
theorem count_bad {c y n y' n' : Int} (hv : ¬ vc c) : countS c y n y' n' = (0, 2) := by
  unfold countS; rw [if_neg hv]
theorem span_12 {c y n : Int} (hv : vc c) (h1 : exN c y n) (hn : n ≤ 12) : spanS c y n = (up (mi c y (n - 1)), up (mi c y n) - 1, 0) := by
  unfold spanS; rw [if_pos hv, if_pos h1, if_neg (by omega)]
theorem span_13 {c y : Int} (hv : vc c) (h1 : exN c y 13) : spanS c y 13 = (up (mi c y 12) - 1, up (mi c y 12) - 1, 0) := by
  unfold spanS; rw [if_pos hv, if_pos h1, if_pos rfl]
theorem lives_is : accountinglaw05_lives.f = some true := rfl
end Go.Proofs.YtghheaimgjkccaaDoor.Fl
