/- The executor and what hangs on it, merged (AxL): a verified abstract run of code over memory, and the walks by it; each theorem names its conditions. -/
import Derived.Test.YticcaknflnldgaaDoorX2
/- The law AverageVariances, walked. No condition but 64 bits. -/
namespace Go.Proofs.YticcaknflnldgaaDoor.Ff
open Go.RowKit Go.Proofs.YticcaknflnldgaaDoorW.PrintWords Go.Proofs.YticcaknflnldgaaDoor.Ex
set_option linter.unusedVariables false
set_option linter.unusedSimpArgs false
set_option maxRecDepth 100000
theorem AverageVariances_calls {W : World} {V : Value} {l : List Mv} {m : Mv} (hL : Laid W) (h1 : Src W V .mv l) (hl : MvsI l) (hm : MvI m) (z1 : m.item.size ≤ 140737488351232) (z2 : m.lot.size ≤ 140737488351232) :
    Calls Tryd.prog 5 #[V, .agg (mvC m).toArray] W fun e w1 => e = .returned (.bool true) ∧ Below W.heap.size W w1 := by
  obtain ⟨ρ, e1, hS⟩ := start1 h1
  have hg : ∀ i, ¬ (gW W).S i := fun i h => h
  refine (calls_awp (f := 5) (vs := [V, .agg (mvC m).toArray]) (cx_ok (C := CL) (nt := 89) (cl_ok hL hg)) mixed_ok Tryd.func5 rfl rfl hS (avs := [.one (.row 0), .agg (mvL m)])
    (fun ρ' h => ⟨row_rel h (by simp [findR]) e1 h1, mvL_args m ρ', trivial⟩) (le_of_ble (by kernel_rfl)) (K := fun x A => x = .one (.v (.bool true))) ?_).mono ?_
  · unfold mvL
    ((conv => whnf) <;> repeat (refine obl_ ?_; conv => whnf))
    refine cond_ (fun h => ?_) (fun h => ?_)
    · ((conv => whnf) <;> repeat (refine obl_ ?_; conv => whnf))
      exact rfl
    have hB : largeB l = false := h
    have hlen := large_f hB
    ((conv => whnf) <;> repeat (refine obl_ ?_; conv => whnf))
    refine cond_ (fun h => ?_) (fun h => ?_)
    · ((conv => whnf) <;> repeat (refine obl_ ?_; conv => whnf))
      exact rfl
    have hs := s0_pl hl
    have hsm : SmA (s0 l) m := hs.kn.sm1 (by omega) hm z1 z2
    have hz := stepA_z (s := s0 l) (m := m)
    have lcs := hs.len
    ((conv => whnf) <;> repeat (refine obl_ ?_; conv => whnf))
    refine cond_ (fun he => ?_) (fun he => ?_)
    · have h0 : (stepA (s0 l) m).1 ≠ 0 := bne_iff_ne.1 he
      have hc := (hz h0).2
      have c1 : ((stepA (s0 l) m).2.2.seq == 0 && ((stepA (s0 l) m).2.2.qty == 0 && ((stepA (s0 l) m).2.2.value == 0 && ((stepA (s0 l) m).2.2.var == 0 && true)))) = true := by rw [hc]; rfl
      ((conv => whnf) <;> repeat (refine obl_ ?_; conv => whnf))
      refine cond_ (fun _ => ?_) (fun h => by rw [show ((stepA (s0 l) m).2.2.seq == 0 && ((stepA (s0 l) m).2.2.qty == 0 && ((stepA (s0 l) m).2.2.value == 0 && ((stepA (s0 l) m).2.2.var == 0 && true)))) = false from h] at c1; cases c1)
      ((conv => whnf) <;> repeat (refine obl_ ?_; conv => whnf))
      exact rfl
    have h0 : (stepA (s0 l) m).1 = 0 := bne_eq he
    have S := stA hs.kn.inv h0
    have v1 := S.v1
    have w1 := S.w1
    have hcost := S.one.cost
    have h6 : m.kind = 1 ∨ m.kind = 2 ∨ m.kind = 3 ∨ m.kind = 4 ∨ m.kind = 5 := by have := S.one.kind; have := S.kind; omega
    rcases h6 with k1 | k1 | k1 | k1 | k1
    · ((conv => whnf) <;> repeat (refine obl_ ?_; conv => whnf))
      refine cond_ (fun _ => ?_) (fun h => (beq_ne h k1).elim)
      ((conv => whnf) <;> repeat (refine obl_ ?_; conv => whnf))
      refine cond_ (fun _ => ?_) (fun h => (beq_ne h k1).elim)
      ((conv => whnf) <;> repeat (refine obl_ ?_; conv => whnf))
      have P := S.pay (.inl k1)
      have Pw : wr ((stepA (s0 l) m).2.2.value + (stepA (s0 l) m).2.2.var) = m.cost := (wr_id (by omega) (by omega)).trans P.1
      refine cond_ (fun _ => ?_) (fun h => (beq_ne h (Pw)).elim)
      ((conv => whnf) <;> repeat (refine obl_ ?_; conv => whnf))
      refine cond_ (fun _ => ?_) (fun h => absurd P.2 (of_decide_eq_false h))
      ((conv => whnf) <;> repeat (refine obl_ ?_; conv => whnf))
      exact rfl
    · ((conv => whnf) <;> repeat (refine obl_ ?_; conv => whnf))
      refine cond_ (fun h => absurd (k1.symm.trans (beq_iff_eq.1 h)) (by decide)) (fun _ => ?_)
      ((conv => whnf) <;> repeat (refine obl_ ?_; conv => whnf))
      refine cond_ (fun h => absurd (k1.symm.trans (beq_iff_eq.1 h)) (by decide)) (fun _ => ?_)
      ((conv => whnf) <;> repeat (refine obl_ ?_; conv => whnf))
      refine cond_ (fun h => absurd (k1.symm.trans (beq_iff_eq.1 h)) (by decide)) (fun _ => ?_)
      ((conv => whnf) <;> repeat (refine obl_ ?_; conv => whnf))
      have P := S.free (.inl k1)
      refine cond_ (fun _ => ?_) (fun h => (beq_ne h k1).elim)
      ((conv => whnf) <;> repeat (refine obl_ ?_; conv => whnf))
      refine cond_ (fun _ => ?_) (fun h => (beq_ne h (P)).elim)
      ((conv => whnf) <;> repeat (refine obl_ ?_; conv => whnf))
      exact rfl
    · ((conv => whnf) <;> repeat (refine obl_ ?_; conv => whnf))
      refine cond_ (fun h => absurd (k1.symm.trans (beq_iff_eq.1 h)) (by decide)) (fun _ => ?_)
      ((conv => whnf) <;> repeat (refine obl_ ?_; conv => whnf))
      refine cond_ (fun h => absurd (k1.symm.trans (beq_iff_eq.1 h)) (by decide)) (fun _ => ?_)
      ((conv => whnf) <;> repeat (refine obl_ ?_; conv => whnf))
      refine cond_ (fun h => absurd (k1.symm.trans (beq_iff_eq.1 h)) (by decide)) (fun _ => ?_)
      ((conv => whnf) <;> repeat (refine obl_ ?_; conv => whnf))
      have P := S.free (.inr k1)
      refine cond_ (fun h => absurd (k1.symm.trans (beq_iff_eq.1 h)) (by decide)) (fun _ => ?_)
      ((conv => whnf) <;> repeat (refine obl_ ?_; conv => whnf))
      refine cond_ (fun _ => ?_) (fun h => (beq_ne h k1).elim)
      ((conv => whnf) <;> repeat (refine obl_ ?_; conv => whnf))
      refine cond_ (fun _ => ?_) (fun h => (beq_ne h (P)).elim)
      ((conv => whnf) <;> repeat (refine obl_ ?_; conv => whnf))
      exact rfl
    · ((conv => whnf) <;> repeat (refine obl_ ?_; conv => whnf))
      refine cond_ (fun h => absurd (k1.symm.trans (beq_iff_eq.1 h)) (by decide)) (fun _ => ?_)
      ((conv => whnf) <;> repeat (refine obl_ ?_; conv => whnf))
      refine cond_ (fun h => absurd (k1.symm.trans (beq_iff_eq.1 h)) (by decide)) (fun _ => ?_)
      ((conv => whnf) <;> repeat (refine obl_ ?_; conv => whnf))
      refine cond_ (fun _ => ?_) (fun h => (beq_ne h k1).elim)
      ((conv => whnf) <;> repeat (refine obl_ ?_; conv => whnf))
      have P := S.pay4 k1
      refine cond_ (fun _ => ?_) (fun h => (beq_ne h ((show wr ((stepA (s0 l) m).2.2.value + (stepA (s0 l) m).2.2.var) = wr (0 - m.cost) from by rw [show wr ((stepA (s0 l) m).2.2.value + (stepA (s0 l) m).2.2.var) = (stepA (s0 l) m).2.2.value + (stepA (s0 l) m).2.2.var from wr_id (by omega) (by omega), P]; exact ((wr_id (by omega) (by omega)).trans (by omega)).symm))).elim)
      ((conv => whnf) <;> repeat (refine obl_ ?_; conv => whnf))
      exact rfl
    · ((conv => whnf) <;> repeat (refine obl_ ?_; conv => whnf))
      refine cond_ (fun h => absurd (k1.symm.trans (beq_iff_eq.1 h)) (by decide)) (fun _ => ?_)
      ((conv => whnf) <;> repeat (refine obl_ ?_; conv => whnf))
      refine cond_ (fun _ => ?_) (fun h => (beq_ne h k1).elim)
      ((conv => whnf) <;> repeat (refine obl_ ?_; conv => whnf))
      have P := S.pay (.inr k1)
      have Pw : wr ((stepA (s0 l) m).2.2.value + (stepA (s0 l) m).2.2.var) = m.cost := (wr_id (by omega) (by omega)).trans P.1
      refine cond_ (fun _ => ?_) (fun h => (beq_ne h (Pw)).elim)
      ((conv => whnf) <;> repeat (refine obl_ ?_; conv => whnf))
      refine cond_ (fun _ => ?_) (fun h => absurd P.2 (of_decide_eq_false h))
      ((conv => whnf) <;> repeat (refine obl_ ?_; conv => whnf))
      exact rfl
  · rintro e w1 ⟨x, v, A1, ρ1, a1, rfl, hv, rfl, hS1, _⟩
    exact ⟨by rw [show x = _ from hv], hS1.rel.bel⟩
end Go.Proofs.YticcaknflnldgaaDoor.Ff
