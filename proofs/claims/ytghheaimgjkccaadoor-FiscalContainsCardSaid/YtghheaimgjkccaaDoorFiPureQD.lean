/- The pure statement of the law FiscalContains, over package fiscal's plain functions; no condition. -/
import Derived.Test.YtghheaimgjkccaaDoorStatQD
import Derived.Test.YtghheaimgjkccaaDoorFiLaw
namespace Go.Proofs.YtghheaimgjkccaaDoor.Pure
open Go.RowKit Go.Proofs.YtghheaimgjkccaaDoor.Dy Go.Proofs.YtghheaimgjkccaaDoor.F Go.Proofs.YtghheaimgjkccaaDoor.Fl
set_option linter.unusedVariables false
set_option linter.unusedSimpArgs false

theorem FiscalContains : FiscalContainsP := by
  intro c day kind _ _ _
  refine ⟨4, ?_⟩
  unfold QD.accountinglaw05_FiscalContains.f
  rw [Fl.of_is (by omega), for_is (by omega)]
  simp only [Option.bind_some]
  by_cases h : (ofPS c day).2.2 = 0
  · rw [if_pos h]
    obtain ⟨hv, hx, n1, n2, d1, d2⟩ := ofPS_ok h
    have hf : forPS c day kind = if (kind = 3 ∨ kind = 4) ∧ up (mi c (ofPS c day).1 12) - 1 = day then ((ofPS c day).1, 13, 0) else ofPS c day := by
      unfold forPS
      by_cases q : (kind = 3 ∨ kind = 4) ∧ up (mi c (ofPS c day).1 12) - 1 = day
      · rw [if_pos ⟨h, q⟩, if_pos q]
      · rw [if_neg (fun z => q z.2), if_neg q]
    obtain ⟨y, n, e, hp⟩ : ∃ y n e, ofPS c day = (y, n, e) := ⟨_, _, _, rfl⟩
    rw [hp] at h hx n1 n2 d1 d2 hf ⊢
    simp only at h hx n1 n2 d1 d2 hf ⊢
    subst h
    have hN : exN c y n := ⟨hx, n1, by omega⟩
    have fe : (forPS c day kind).2.2 = 0 ∧ (forPS c day kind).1 = y := by rw [hf]; split <;> exact ⟨rfl, rfl⟩
    rw [fe.1, fe.2]
    rw [show ((0 : Int) != 0) = false from rfl]
    simp only [QD.accountinglaw05_FiscalContains.j0, Bool.false_eq_true, if_false]
    rw [span_is (by omega), span_12 hv hN n2]
    simp only [Option.bind_some, if_true]
    rw [if_neg (by omega), if_neg (by omega), if_neg (by omega), if_neg (by omega), show (y != y) = false from bne_self_eq_false y]
    simp only [QD.accountinglaw05_FiscalContains.j1, Bool.false_eq_true, if_false]
    rw [hf]
    by_cases q : (kind = 3 ∨ kind = 4) ∧ up (mi c y 12) - 1 = day
    · rw [if_pos q]
      simp only
      by_cases q13 : n = 13
      · omega
      · have t : (y == y && n == 13) = false := by rw [beq_self_eq_true, Bool.true_and]; exact beq_eq_false_iff_ne.mpr q13
        rw [t, span_is (by omega), span_13 hv ⟨hx, by omega, by omega⟩]
        simp only [Option.bind_some, Bool.false_eq_true, if_false, if_true]
        have n12 : n = 12 := by
          rcases (by omega : n = 12 ∨ n ≤ 11) with e | e
          · exact e
          · have hi : 0 ≤ mi c y n := by have := hx.1; have := hv.1; unfold mi; omega
            have m1 : ∀ k : Nat, up (mi c y n) ≤ up (mi c y n + k) := fun k => by
              induction k with
              | zero => simp
              | succ k ih => have := up_len (i := mi c y n + k) (by omega); rw [show mi c y n + ((k + 1 : Nat) : Int) = mi c y n + k + 1 by omega]; omega
            have m2 := m1 (11 - n).toNat
            have e2 : mi c y n + ((11 - n).toNat : Int) = mi c y 11 := by unfold mi; omega
            rw [e2] at m2
            have m3 := up_len (i := mi c y 11) (by have := hx.1; have := hv.1; unfold mi; omega)
            rw [show mi c y 11 + 1 = mi c y 12 by unfold mi; omega] at m3
            omega
        rw [if_pos n12, if_pos q.2, if_pos q.2, lives_is]
        rcases q.1 with a | a
        · rw [if_pos a]; rfl
        · rw [if_neg (by omega), if_pos a]; rfl
    · rw [if_neg q]
      simp only [beq_self_eq_true, Bool.and_self, if_true]
      rw [lives_is]; rfl
  · rw [if_neg h]
    have hf : forPS c day kind = ofPS c day := by unfold forPS; rw [if_neg (fun z => h z.1)]
    rw [hf]
    simp only [QD.accountinglaw05_FiscalContains.j0, if_true]
    rw [lives_is]; rfl

end Go.Proofs.YtghheaimgjkccaaDoor.Pure
