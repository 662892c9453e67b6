/- The executor and what hangs on it, merged (SdP): a verified abstract run of code over memory, and the walks by it; each theorem names its conditions. -/
import Derived.Test.YtkimndddlnbeiaaDoorX2
/- The law StandardValue, walked. No condition but 64 bits. -/
namespace Go.Proofs.YtkimndddlnbeiaaDoor.Ff
open Go.RowKit Go.Proofs.YtkimndddlnbeiaaDoorW.PrintWords Go.Proofs.YtkimndddlnbeiaaDoor.Ex
set_option linter.unusedVariables false
set_option linter.unusedSimpArgs false
set_option maxRecDepth 100000
theorem bne_no {a b : Int} (h : (a != b) = true) (e : a = b) : False := by rw [e] at h; simp at h
theorem bne_eq {a b : Int} (h : (a != b) = false) : a = b := by simpa using h
theorem InvD.quo {s : St} (h : InvD s) (hq : s.q ≠ 0) : wr (s.v.tdiv s.q) = s.pr := by
  rw [h.v, Int.mul_tdiv_cancel_left _ hq]
  exact wr_id (by have := h.p0; omega) (by have := h.p1; omega)
theorem InvD.mul {s : St} (h : InvD s) : wr (s.q * s.pr) = s.v := by
  rw [← h.v]
  exact wr_id (by have := h.v0; omega) (by have := h.v1; omega)
theorem StandardValue_calls {W : World} {V : Value} {p : Int} {l : List Mv} (hL : Laid W) (h1 : Src W V .mv l) (hl : MvsI l) :
    Calls Tryd.prog 4 #[.int .i64 p, V] W fun e w1 => e = .returned (.bool true) ∧ Below W.heap.size W w1 := by
  obtain ⟨ρ, e1, hS⟩ := start1 h1
  have hg : ∀ i, ¬ (gW W).S i := fun i h => h
  refine (calls_awp (f := 4) (vs := [.int .i64 p, V]) (cx_ok (C := CL) (nt := 98) (cl_ok hL hg)) mixed_ok Tryd.func4 rfl rfl hS (avs := [.one (.v (.int .i64 p)), .one (.row 0)])
    (fun ρ' h => ⟨rfl, row_rel h (by simp [findR]) e1 h1, trivial⟩) (le_of_ble (by kernel_rfl)) (K := fun x A => x = .one (.v (.bool true))) ?_).mono ?_
  · ((conv => whnf) <;> repeat (refine obl_ ?_; conv => whnf))
    refine cond_ (fun h => ?_) (fun h => ?_)
    · ((conv => whnf) <;> repeat (refine obl_ ?_; conv => whnf))
      exact rfl
    have hB : lightB p l = true := not_f h
    obtain ⟨p0, p1, hlen, _⟩ := light_t hB
    ((conv => whnf) <;> repeat (refine obl_ ?_; conv => whnf))
    refine LoopP.introR (cx_ok (cl_ok hL hg)) mixed_ok (ι := Nat × St) (fun k => ⟨[(8, .one (.v (.int .i64 (k.1 : Int)))), (7, .one (.v (.int .i64 k.2.v))), (6, .one (.v (.int .i64 k.2.q))), (5, .one (.ptr 15 0)), (4, .one (.v (.bool false))), (1, .one (.row 0))], [(15, 28, stockL k.2 5000 5001)], [(0, some ⟨.mv, l, false⟩), (5000, some ⟨.la, k.2.la, true⟩), (5001, some ⟨.pa, k.2.pa, true⟩)]⟩) (fun k => k.1 ≤ l.length ∧ Kn k.2 k.1) (fun k => l.length - k.1) (0, stA p) ⟨Nat.zero_le _, stA_kn p0 p1⟩ ⟨[(5000, none), (5001, none)], by (refine ⟨?_, ?_, ?_, by kernel_rfl⟩ <;> repeat' (first | exact trivial | exact rfl | assumption | apply And.intro))⟩ ?_
    rintro ⟨k, s⟩ ⟨hk, hs⟩
    simp only at hk hs
    ((conv => whnf) <;> repeat (refine obl_ ?_; conv => whnf))
    refine cond_ (fun h => ?_) (fun h => ?_)
    · have hlt : k < l.length := by have := of_decide_eq_true h; simp only at this; omega
      have i1 : 0 ≤ (k : Int) := by omega
      have i2 : (k : Int) < (l.length : Int) := by omega
      have hsm : SmD s (l.getD k zMv) := hs.sm (by omega) hl hlt
      have hs2 := hs.next hsm.sm.mi
      ((conv => whnf) <;> repeat (refine obl_ ?_; conv => whnf))
      refine cond_ (fun he => ?_) (fun he => ?_)
      · have h0 : ¬ (stepD s (l.getD k zMv)).1 = 0 := fun e => bne_no he e
        rw [if_neg h0] at hs2
        ((conv => whnf) <;> repeat (refine obl_ ?_; conv => whnf))
        refine ⟨(k + 1, s), ⟨by simp only; omega, hs2⟩, by simp only; omega, [], ?_⟩
        (refine ⟨?_, ?_, ?_, by kernel_rfl⟩ <;> repeat' (first | exact trivial | exact rfl | assumption | apply And.intro))
        exact up_ (by omega)
      have h0 : (stepD s (l.getD k zMv)).1 = 0 := bne_eq he
      rw [if_pos h0] at hs2
      have D := stD hs.inv h0
      have I' := hs2.inv
      have Q1 : (stepD s (l.getD k zMv)).2.1.q = wr (s.q + (stepD s (l.getD k zMv)).2.2.qty) := D.q
      have Q2 : (stepD s (l.getD k zMv)).2.1.v = wr (s.v + (stepD s (l.getD k zMv)).2.2.value) := by
        rw [← D.v]
        exact (wr_id (by have := I'.v0; omega) (by have := I'.v1; omega)).symm
      ((conv => whnf) <;> repeat (refine obl_ ?_; conv => whnf))
      refine cond_ (fun h => (bne_no h Q1).elim) (fun _ => ?_)
      ((conv => whnf) <;> repeat (refine obl_ ?_; conv => whnf))
      refine cond_ (fun h => (bne_no h Q2).elim) (fun _ => ?_)
      ((conv => whnf) <;> repeat (refine obl_ ?_; conv => whnf))
      have fin : wr ((stepD s (l.getD k zMv)).2.1.q * (stepD s (l.getD k zMv)).2.1.pr) = (stepD s (l.getD k zMv)).2.1.v ∧ (((stepD s (l.getD k zMv)).2.1.la.length : Int) = 0) := ⟨I'.mul, by rw [I'.la]; rfl⟩
      refine cond_ (fun hq => ?_) (fun hq => ?_)
      · have hq' : (stepD s (l.getD k zMv)).2.1.q ≠ 0 := bne_iff_ne.1 hq
        ((conv => whnf) <;> repeat (refine obl_ ?_; conv => whnf))
        refine cond_ (fun h => (bne_no h (I'.quo hq')).elim) (fun _ => ?_)
        ((conv => whnf) <;> repeat (refine obl_ ?_; conv => whnf))
        refine cond_ (fun h => absurd (beq_iff_eq.1 h) hq') (fun _ => ?_)
        ((conv => whnf) <;> repeat (refine obl_ ?_; conv => whnf))
        refine cond_ (fun h => (bne_no h fin.1).elim) (fun _ => ?_)
        ((conv => whnf) <;> repeat (refine obl_ ?_; conv => whnf))
        refine cond_ (fun h => (bne_no h fin.2).elim) (fun _ => ?_)
        ((conv => whnf) <;> repeat (refine obl_ ?_; conv => whnf))
        refine ⟨(k + 1, (stepD s (l.getD k zMv)).2.1), ⟨by simp only; omega, hs2⟩, by simp only; omega, [(5000, some 41), (5001, some 541)], ?_⟩
        (refine ⟨?_, ?_, ?_, by kernel_rfl⟩ <;> repeat' (first | exact trivial | exact rfl | assumption | apply And.intro))
        · exact up_ (by omega)
        · exact int_ Q2.symm
        · exact int_ Q1.symm
      · have hq' : (stepD s (l.getD k zMv)).2.1.q = 0 := bne_eq hq
        have hv' : (stepD s (l.getD k zMv)).2.1.v = 0 := by rw [I'.v, hq', Int.zero_mul]
        ((conv => whnf) <;> repeat (refine obl_ ?_; conv => whnf))
        refine cond_ (fun _ => ?_) (fun h => (beq_ne h hq').elim)
        ((conv => whnf) <;> repeat (refine obl_ ?_; conv => whnf))
        refine cond_ (fun h => (bne_no h hv').elim) (fun _ => ?_)
        ((conv => whnf) <;> repeat (refine obl_ ?_; conv => whnf))
        refine cond_ (fun h => (bne_no h fin.1).elim) (fun _ => ?_)
        ((conv => whnf) <;> repeat (refine obl_ ?_; conv => whnf))
        refine cond_ (fun h => (bne_no h fin.2).elim) (fun _ => ?_)
        ((conv => whnf) <;> repeat (refine obl_ ?_; conv => whnf))
        refine ⟨(k + 1, (stepD s (l.getD k zMv)).2.1), ⟨by simp only; omega, hs2⟩, by simp only; omega, [(5000, some 41), (5001, some 541)], ?_⟩
        (refine ⟨?_, ?_, ?_, by kernel_rfl⟩ <;> repeat' (first | exact trivial | exact rfl | assumption | apply And.intro))
        · exact up_ (by omega)
        · exact int_ Q2.symm
        · exact int_ Q1.symm
    · ((conv => whnf) <;> repeat (refine obl_ ?_; conv => whnf))
      exact rfl
  · rintro e w1 ⟨x, v, A1, ρ1, a1, rfl, hv, rfl, hS1, _⟩
    exact ⟨by rw [show x = _ from hv], hS1.rel.bel⟩
end Go.Proofs.YtkimndddlnbeiaaDoor.Ff
