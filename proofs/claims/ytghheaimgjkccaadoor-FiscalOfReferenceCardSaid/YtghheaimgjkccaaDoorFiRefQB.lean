/- What the reference's functions of chapter 5 come to (namespace QB); no condition but those that each lemma names. -/
import Derived.Test.YtghheaimgjkccaaDoorStatQB
import Derived.Test.YtghheaimgjkccaaDoorFiLaw
namespace Go.Proofs.YtghheaimgjkccaaDoor.FrQB
open Go.RowKit Go.Proofs.YtghheaimgjkccaaDoor.Dy Go.Proofs.YtghheaimgjkccaaDoor.QB Go.Proofs.YtghheaimgjkccaaDoor.Fl
set_option linter.unusedVariables false
set_option linter.unusedSimpArgs false
theorem rright_is (c : Int) : accountingref05_Right.f c = some (decide (vc c)) := by
  unfold accountingref05_Right.f
  by_cases h : c ≥ 1
  · rw [if_pos h]; congr 1; rw [decide_eq_decide]; exact ⟨fun q => ⟨h, q⟩, fun q => q.2⟩
  · rw [if_neg h]; congr 1; rw [eq_comm, decide_eq_false_iff_not]; exact fun q => h q.1
theorem month_out {k : Nat} {c y x : Int} (hk : 1 ≤ k) (hy : y < 1900 ∨ 2199 < y) : accountingref05_month.f k c y x = some (0, 0, false) := by
  obtain ⟨k, rfl⟩ : ∃ n, k = n + 1 := ⟨k - 1, by omega⟩
  unfold accountingref05_month.f
  by_cases h1 : y < 1900
  · rw [if_pos h1]; simp only [accountingref05_month.j0, if_true]
  · rw [if_neg h1, decide_eq_true (show y > 2199 by omega)]; simp only [accountingref05_month.j0, if_true]
theorem month_is {k : Nat} {c y x : Int} (hk : 1 ≤ k) (hv : vc c) (x1 : 0 ≤ x) (x2 : x ≤ 11) (y1 : 1900 ≤ y) (y2 : y ≤ 2199) :
    accountingref05_month.f k c y x = some (if mi c y x ≤ 3599 then (up (mi c y x), up (mi c y x + 1) - 1, true) else (0, 0, false)) := by
  obtain ⟨k, rfl⟩ : ∃ n, k = n + 1 := ⟨k - 1, by omega⟩
  unfold vc at hv
  have w1 : wrap64 (c - 1) = c - 1 := by unfold wrap64; omega
  have w2 : wrap64 (c - 1 + x) = c - 1 + x := by unfold wrap64; omega
  unfold accountingref05_month.f
  rw [if_neg (by omega), decide_eq_false (by omega)]
  simp only [accountingref05_month.j0, Bool.false_eq_true, if_false]
  rw [w1, w2]
  unfold accountingref04_Of.f accountingref04_Length.f
  simp only [Option.bind_some]
  have hi : 0 ≤ mi c y x := by unfold mi; omega
  by_cases h : c - 1 + x ≥ 12
  · have w3 : wrap64 (c - 1 + x - 12) = c - 1 + x - 12 := by unfold wrap64; omega
    have w4 : wrap64 (c - 1 + x - 12 + 1) = c - 1 + x - 12 + 1 := by unfold wrap64; omega
    have w5 : wrap64 (y + 1) = y + 1 := by unfold wrap64; omega
    have e1 : y + 1 = 1900 + mi c y x / 12 := by unfold mi; omega
    have e2 : c - 1 + x - 12 + 1 = mi c y x % 12 + 1 := by unfold mi; omega
    rw [if_pos h, w3, w4, w5, e1, e2]
    by_cases g : mi c y x ≤ 3599
    · rw [if_pos g, of_first hi g, of_last hi g]; rfl
    · rw [if_neg g, of_late (by omega), of_late (by omega)]; rfl
  · have w4 : wrap64 (c - 1 + x + 1) = c - 1 + x + 1 := by unfold wrap64; omega
    have e1 : y = 1900 + mi c y x / 12 := by unfold mi; omega
    have e2 : c - 1 + x + 1 = mi c y x % 12 + 1 := by unfold mi; omega
    have g : mi c y x ≤ 3599 := by unfold mi; omega
    have f1 := of_first hi g
    have f2 := of_last hi g
    rw [← e1, ← e2] at f1 f2
    rw [if_neg h, w4, if_pos g, f1, f2]; rfl
theorem year_is {k : Nat} {c y : Int} (hk : 1 ≤ k) (hv : vc c) : accountingref05_Year.f k c y = some (decide (exP c y)) := by
  unfold accountingref05_Year.f
  by_cases h : y < 1900 ∨ 2199 < y
  · rw [month_out hk h, month_out hk h]
    have : ¬ exP c y := by unfold exP mi; unfold vc at hv; omega
    rw [decide_eq_false this]; rfl
  · rw [month_is hk hv (by omega) (by omega) (by omega) (by omega), month_is hk hv (by omega) (by omega) (by omega) (by omega)]
    simp only [Option.bind_some]
    by_cases g : mi c y 11 ≤ 3599
    · have g0 : mi c y 0 ≤ 3599 := by unfold mi at *; omega
      rw [if_pos g, if_pos g0, decide_eq_true (show exP c y from ⟨by omega, g⟩)]; rfl
    · rw [if_neg g, decide_eq_false (fun q : exP c y => g q.2)]
      by_cases g0 : mi c y 0 ≤ 3599
      · rw [if_pos g0]; rfl
      · rw [if_neg g0]; rfl
theorem y_bd {c y : Int} (hv : vc c) (h : exP c y) : 1900 ≤ y ∧ y ≤ 2199 := by
  unfold exP mi at h; unfold vc at hv; omega
theorem rof_is {k : Nat} (hk : 1 ≤ k) (c day : Int) : accountingref05_Of.f k c day = some (ofPS c day) := by
  unfold accountingref05_Of.f ofPS accountingref04_Date.f
  rw [rright_is]
  simp only [Option.bind_some, decide_eq_true_eq]
  by_cases h : vc c
  · rw [if_pos h, if_pos h]
    by_cases h1 : 0 ≤ day ∧ day ≤ 109572
    · obtain ⟨y, m, d, hd, hI⟩ := dateS_in h1.1 h1.2
      rw [if_pos h1, hd]
      simp only
      have b := hI
      unfold IsDate at b
      have hb := h
      unfold vc at hb
      have w1 : wrap64 (m - c) = m - c := by unfold wrap64; omega
      have w2 : wrap64 (m - c + 1) = m - c + 1 := by unfold wrap64; omega
      have w3 : wrap64 (m - c + 13) = m - c + 13 := by unfold wrap64; omega
      have w4 : wrap64 (y - 1) = y - 1 := by unfold wrap64; omega
      rw [if_pos trivial, w1, w2, w3, w4, year_is hk h, year_is hk h]
      simp only [Option.bind_some, decide_eq_true_eq]
      by_cases h2 : m < c
      · rw [if_pos h2, if_pos h2]; split <;> rfl
      · rw [if_neg h2, if_neg h2]; split <;> rfl
    · rw [if_neg h1, dateS_out (by omega)]; simp
  · rw [if_neg h, if_neg h]
theorem rfor_is {k : Nat} (hk : 1 ≤ k) (c day kind : Int) : accountingref05_For.f k c day kind = some (forPS c day kind) := by
  unfold accountingref05_For.f forPS
  rw [rof_is hk]
  simp only [Option.bind_some]
  have hok := ofPS_ok (c := c) (day := day)
  have hbad := ofPS_bad (c := c) (day := day)
  obtain ⟨y, n, e, hp⟩ : ∃ y n e, ofPS c day = (y, n, e) := ⟨_, _, _, rfl⟩
  rw [hp] at hok hbad ⊢
  simp only at hok hbad ⊢
  by_cases he : e = 0
  · subst he
    obtain ⟨o1, o2, -⟩ := hok rfl
    have b := y_bd o1 o2
    rw [if_pos rfl, month_is hk o1 (by omega) (by omega) b.1 b.2, if_pos o2.2]
    simp only [Option.bind_some]
    rw [show mi c y 11 + 1 = mi c y 12 by unfold mi; omega]
    by_cases hl : up (mi c y 12) - 1 = day
    · have hl' : day = up (mi c y 12) - 1 := hl.symm
      simp only [if_pos hl', if_pos hl]
      by_cases h3 : kind = 3
      · rw [if_pos h3, if_pos ⟨trivial, .inl h3, hl⟩]
      · rw [if_neg h3]
        by_cases h4 : kind = 4
        · rw [if_pos h4, if_pos ⟨trivial, .inr h4, hl⟩]
        · rw [if_neg h4, if_neg (fun q => q.2.1.elim h3 h4)]
    · have hl' : ¬ day = up (mi c y 12) - 1 := fun q => hl q.symm
      simp only [if_neg hl', if_neg (fun q : True ∧ (kind = 3 ∨ kind = 4) ∧ up (mi c y 12) - 1 = day => hl q.2.2)]
      split
      · rfl
      · split <;> rfl
  · obtain ⟨q1, q2⟩ := hbad he
    rw [if_neg he, if_neg (fun q => he q.1), q1, q2]
end Go.Proofs.YtghheaimgjkccaaDoor.FrQB
