/- The pure statement of the law FiscalNextPrev, over package fiscal's plain functions; no condition. -/
import Derived.Test.YtghheaimgjkccaaDoorStatQH
import Derived.Test.YtghheaimgjkccaaDoorFiLaw
namespace Go.Proofs.YtghheaimgjkccaaDoor.Pure
open Go.RowKit Go.Proofs.YtghheaimgjkccaaDoor.Dy Go.Proofs.YtghheaimgjkccaaDoor.F Go.Proofs.YtghheaimgjkccaaDoor.Fl
set_option linter.unusedVariables false
set_option linter.unusedSimpArgs false

theorem FiscalNextPrev : FiscalNextPrevP := by
  intro c y n _ _ _
  refine ⟨3, ?_⟩
  unfold QH.accountinglaw05_FiscalNextPrev.f
  rw [next_is (by omega)]
  simp only [Option.bind_some, lives_is]
  by_cases h : (nextS c y n).2.2 = 0
  · rw [if_pos h]
    obtain ⟨hv, h1, y', n', hn, h2, hs⟩ := next_ok h
    rw [hn]
    simp only
    rw [prev_is (by omega), count_is (by omega), count_is (by omega), prev_of hv h1 h2 hs, count_of hv h1 h2, count_of hv h2 h1]
    simp only [Option.bind_some]
    have e1 : (y' - y) * 13 + n' - n = 1 := by omega
    have e2 : (y - y') * 13 + n - n' = -1 := by omega
    rw [e1, e2]
    simp only [if_true, beq_self_eq_true, Bool.not_true, Bool.or_false, Bool.false_eq_true, if_false]
    rw [show ((-1 : Int) != -1) = false from rfl]
    simp only [QH.accountinglaw05_FiscalNextPrev.j0, Bool.false_eq_true, if_false]
    have c1 : Fi.pcmp_ y n y' n' = -1 := by unfold Fi.pcmp_; rcases hs with ⟨a, b, d⟩ | ⟨a, b, d⟩ <;> (subst b; subst d; repeat' split) <;> omega
    have c2 : Fi.pcmp_ y' n' y n = 1 := by unfold Fi.pcmp_; rcases hs with ⟨a, b, d⟩ | ⟨a, b, d⟩ <;> (subst b; subst d; repeat' split) <;> omega
    have c3 : Fi.pcmp_ y n y n = 0 := by unfold Fi.pcmp_; rw [if_pos rfl, if_pos rfl]
    unfold fiscal_Cmp.f
    rw [c1, c2, c3]
    rfl
  · rw [if_neg h]
    have q := next_bad h
    rw [q.1, q.2]; rfl

end Go.Proofs.YtghheaimgjkccaaDoor.Pure
