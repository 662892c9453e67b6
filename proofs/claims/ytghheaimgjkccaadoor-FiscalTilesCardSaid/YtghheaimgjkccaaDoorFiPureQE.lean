/- The pure statement of the law FiscalTiles, over package fiscal's plain functions; no condition. -/
import Derived.Test.YtghheaimgjkccaaDoorStatQE
import Derived.Test.YtghheaimgjkccaaDoorFiLaw
namespace Go.Proofs.YtghheaimgjkccaaDoor.Pure
open Go.RowKit Go.Proofs.YtghheaimgjkccaaDoor.Dy Go.Proofs.YtghheaimgjkccaaDoor.F Go.Proofs.YtghheaimgjkccaaDoor.Fl
set_option linter.unusedVariables false
set_option linter.unusedSimpArgs false

theorem FiscalTiles : FiscalTilesP := by
  intro c y n _ _ _
  refine ⟨3, ?_⟩
  unfold QE.accountinglaw05_FiscalTiles.f
  rw [next_is (by omega)]
  simp only [Option.bind_some, lives_is]
  by_cases h : (nextS c y n).2.2 = 0
  · rw [if_pos h]
    obtain ⟨hv, h1, y', n', hn, h2, hs⟩ := next_ok h
    rw [hn]
    simp only
    rw [span_is (by omega), span_is (by omega)]
    simp only [Option.bind_some]
    have b1 := exN_bd hv h1
    have b2 := exN_bd hv h2
    have hx := h1.1.2
    have hc := hv
    unfold vc at hc
    rcases hs with ⟨rfl, rfl, rfl⟩ | ⟨a, rfl, rfl⟩
    · rw [span_13 hv h1, span_12 hv h2 (by omega)]
      have e0 : mi c (y + 1) (1 - 1) = mi c y 12 := by unfold mi; omega
      have e1 : mi c (y + 1) 1 = mi c y 12 + 1 := by unfold mi; omega
      have hi : 0 ≤ mi c y 12 ∧ mi c y 12 ≤ 3600 := by unfold mi at *; omega
      have l := up_len hi.1
      have bd := up_bd hi.1
      rw [e0, e1]
      simp only
      have w1 : wrap64 (up (mi c y 12) - 1 + 1) = up (mi c y 12) := by unfold wrap64; omega
      have w2 : wrap64 (up (mi c y 12 + 1) - 1 - up (mi c y 12)) = up (mi c y 12 + 1) - 1 - up (mi c y 12) := by unfold wrap64; omega
      rw [if_pos trivial, if_pos trivial, if_neg (by omega), decide_eq_false (by omega)]
      simp only [QE.accountinglaw05_FiscalTiles.j0, Bool.false_eq_true, if_false]
      rw [if_neg (by omega), w1, w2, if_pos rfl, if_pos (by omega), if_pos (by omega), lives_is]; rfl
    · rw [span_12 hv h1 a]
      have hi : 0 ≤ mi c y (n - 1) ∧ mi c y n ≤ 3600 := by unfold mi at *; omega
      have e0 : mi c y (n - 1) + 1 = mi c y n := by unfold mi; omega
      have l := up_len hi.1
      rw [e0] at l
      by_cases h12 : n = 12
      · subst h12
        rw [show (12 : Int) + 1 = 13 from rfl, span_13 hv h2]
        simp only
        rw [if_pos trivial, if_pos trivial, if_neg (by omega), decide_eq_false (by omega)]
        simp only [QE.accountinglaw05_FiscalTiles.j0, Bool.false_eq_true, if_false, if_true]
        rw [lives_is]; rfl
      · have h0 : 0 ≤ mi c y n := by unfold mi; omega
        have e1 : mi c y (n + 1) = mi c y n + 1 := by unfold mi; omega
        have e2 : n + 1 - 1 = n := by omega
        have l2 := up_len h0
        have bd := up_bd h0
        rw [span_12 hv h2 (by omega), e1, e2]
        simp only
        have w1 : wrap64 (up (mi c y n) - 1 + 1) = up (mi c y n) := by unfold wrap64; omega
        have w2 : wrap64 (up (mi c y n + 1) - 1 - up (mi c y n)) = up (mi c y n + 1) - 1 - up (mi c y n) := by unfold wrap64; omega
        rw [if_pos trivial, if_pos trivial, if_neg (by omega), decide_eq_false (by omega)]
        simp only [QE.accountinglaw05_FiscalTiles.j0, Bool.false_eq_true, if_false]
        rw [if_neg (by omega), w1, w2, if_pos rfl, if_pos (by omega), if_pos (by omega), lives_is]; rfl
  · rw [if_neg h]
    have q := next_bad h
    rw [q.1, q.2]; rfl

end Go.Proofs.YtghheaimgjkccaaDoor.Pure
