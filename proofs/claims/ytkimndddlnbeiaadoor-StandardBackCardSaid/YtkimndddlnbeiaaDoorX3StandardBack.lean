/- The executor and what hangs on it, merged (SdP, SdQ, SdS, SdT, SdU): a verified abstract run of code over memory, and the walks by it; each theorem names its conditions. -/
import Derived.Test.YtkimndddlnbeiaaDoorX2
/- The law StandardValue, walked. No condition but 64 bits. -/
namespace Go.Proofs.YtkimndddlnbeiaaDoor.Ff
open Go.RowKit Go.Proofs.YtkimndddlnbeiaaDoorW.PrintWords Go.Proofs.YtkimndddlnbeiaaDoor.Ex
set_option linter.unusedVariables false
set_option linter.unusedSimpArgs false
set_option maxRecDepth 100000
theorem bne_no {a b : Int} (h : (a != b) = true) (e : a = b) : False := by rw [e] at h; simp at h
theorem bne_eq {a b : Int} (h : (a != b) = false) : a = b := by simpa using h
theorem InvD.quo {s : St} (h : InvD s) (hq : s.q ≠ 0) : wr (s.v.tdiv s.q) = s.pr := by
  rw [h.v, Int.mul_tdiv_cancel_left _ hq]
  exact wr_id (by have := h.p0; omega) (by have := h.p1; omega)
theorem InvD.mul {s : St} (h : InvD s) : wr (s.q * s.pr) = s.v := by
  rw [← h.v]
  exact wr_id (by have := h.v0; omega) (by have := h.v1; omega)
theorem StandardValue_calls {W : World} {V : Value} {p : Int} {l : List Mv} (hL : Laid W) (h1 : Src W V .mv l) (hl : MvsI l) :
    Calls Tryd.prog 4 #[.int .i64 p, V] W fun e w1 => e = .returned (.bool true) ∧ Below W.heap.size W w1 := by
  obtain ⟨ρ, e1, hS⟩ := start1 h1
  have hg : ∀ i, ¬ (gW W).S i := fun i h => h
  refine (calls_awp (f := 4) (vs := [.int .i64 p, V]) (cx_ok (C := CL) (nt := 98) (cl_ok hL hg)) mixed_ok Tryd.func4 rfl rfl hS (avs := [.one (.v (.int .i64 p)), .one (.row 0)])
    (fun ρ' h => ⟨rfl, row_rel h (by simp [findR]) e1 h1, trivial⟩) (le_of_ble (by kernel_rfl)) (K := fun x A => x = .one (.v (.bool true))) ?_).mono ?_
  · ((conv => whnf) <;> repeat (refine obl_ ?_; conv => whnf))
    refine cond_ (fun h => ?_) (fun h => ?_)
    · ((conv => whnf) <;> repeat (refine obl_ ?_; conv => whnf))
      exact rfl
    have hB : lightB p l = true := not_f h
    obtain ⟨p0, p1, hlen, _⟩ := light_t hB
    ((conv => whnf) <;> repeat (refine obl_ ?_; conv => whnf))
    refine LoopP.introR (cx_ok (cl_ok hL hg)) mixed_ok (ι := Nat × St) (fun k => ⟨[(8, .one (.v (.int .i64 (k.1 : Int)))), (7, .one (.v (.int .i64 k.2.v))), (6, .one (.v (.int .i64 k.2.q))), (5, .one (.ptr 15 0)), (4, .one (.v (.bool false))), (1, .one (.row 0))], [(15, 28, stockL k.2 5000 5001)], [(0, some ⟨.mv, l, false⟩), (5000, some ⟨.la, k.2.la, true⟩), (5001, some ⟨.pa, k.2.pa, true⟩)]⟩) (fun k => k.1 ≤ l.length ∧ Kn k.2 k.1) (fun k => l.length - k.1) (0, stA p) ⟨Nat.zero_le _, stA_kn p0 p1⟩ ⟨[(5000, none), (5001, none)], by (refine ⟨?_, ?_, ?_, by kernel_rfl⟩ <;> repeat' (first | exact trivial | exact rfl | assumption | apply And.intro))⟩ ?_
    rintro ⟨k, s⟩ ⟨hk, hs⟩
    simp only at hk hs
    ((conv => whnf) <;> repeat (refine obl_ ?_; conv => whnf))
    refine cond_ (fun h => ?_) (fun h => ?_)
    · have hlt : k < l.length := by have := of_decide_eq_true h; simp only at this; omega
      have i1 : 0 ≤ (k : Int) := by omega
      have i2 : (k : Int) < (l.length : Int) := by omega
      have hsm : SmD s (l.getD k zMv) := hs.sm (by omega) hl hlt
      have hs2 := hs.next hsm.sm.mi
      ((conv => whnf) <;> repeat (refine obl_ ?_; conv => whnf))
      refine cond_ (fun he => ?_) (fun he => ?_)
      · have h0 : ¬ (stepD s (l.getD k zMv)).1 = 0 := fun e => bne_no he e
        rw [if_neg h0] at hs2
        ((conv => whnf) <;> repeat (refine obl_ ?_; conv => whnf))
        refine ⟨(k + 1, s), ⟨by simp only; omega, hs2⟩, by simp only; omega, [], ?_⟩
        (refine ⟨?_, ?_, ?_, by kernel_rfl⟩ <;> repeat' (first | exact trivial | exact rfl | assumption | apply And.intro))
        exact up_ (by omega)
      have h0 : (stepD s (l.getD k zMv)).1 = 0 := bne_eq he
      rw [if_pos h0] at hs2
      have D := stD hs.inv h0
      have I' := hs2.inv
      have Q1 : (stepD s (l.getD k zMv)).2.1.q = wr (s.q + (stepD s (l.getD k zMv)).2.2.qty) := D.q
      have Q2 : (stepD s (l.getD k zMv)).2.1.v = wr (s.v + (stepD s (l.getD k zMv)).2.2.value) := by
        rw [← D.v]
        exact (wr_id (by have := I'.v0; omega) (by have := I'.v1; omega)).symm
      ((conv => whnf) <;> repeat (refine obl_ ?_; conv => whnf))
      refine cond_ (fun h => (bne_no h Q1).elim) (fun _ => ?_)
      ((conv => whnf) <;> repeat (refine obl_ ?_; conv => whnf))
      refine cond_ (fun h => (bne_no h Q2).elim) (fun _ => ?_)
      ((conv => whnf) <;> repeat (refine obl_ ?_; conv => whnf))
      have fin : wr ((stepD s (l.getD k zMv)).2.1.q * (stepD s (l.getD k zMv)).2.1.pr) = (stepD s (l.getD k zMv)).2.1.v ∧ (((stepD s (l.getD k zMv)).2.1.la.length : Int) = 0) := ⟨I'.mul, by rw [I'.la]; rfl⟩
      refine cond_ (fun hq => ?_) (fun hq => ?_)
      · have hq' : (stepD s (l.getD k zMv)).2.1.q ≠ 0 := bne_iff_ne.1 hq
        ((conv => whnf) <;> repeat (refine obl_ ?_; conv => whnf))
        refine cond_ (fun h => (bne_no h (I'.quo hq')).elim) (fun _ => ?_)
        ((conv => whnf) <;> repeat (refine obl_ ?_; conv => whnf))
        refine cond_ (fun h => absurd (beq_iff_eq.1 h) hq') (fun _ => ?_)
        ((conv => whnf) <;> repeat (refine obl_ ?_; conv => whnf))
        refine cond_ (fun h => (bne_no h fin.1).elim) (fun _ => ?_)
        ((conv => whnf) <;> repeat (refine obl_ ?_; conv => whnf))
        refine cond_ (fun h => (bne_no h fin.2).elim) (fun _ => ?_)
        ((conv => whnf) <;> repeat (refine obl_ ?_; conv => whnf))
        refine ⟨(k + 1, (stepD s (l.getD k zMv)).2.1), ⟨by simp only; omega, hs2⟩, by simp only; omega, [(5000, some 41), (5001, some 541)], ?_⟩
        (refine ⟨?_, ?_, ?_, by kernel_rfl⟩ <;> repeat' (first | exact trivial | exact rfl | assumption | apply And.intro))
        · exact up_ (by omega)
        · exact int_ Q2.symm
        · exact int_ Q1.symm
      · have hq' : (stepD s (l.getD k zMv)).2.1.q = 0 := bne_eq hq
        have hv' : (stepD s (l.getD k zMv)).2.1.v = 0 := by rw [I'.v, hq', Int.zero_mul]
        ((conv => whnf) <;> repeat (refine obl_ ?_; conv => whnf))
        refine cond_ (fun _ => ?_) (fun h => (beq_ne h hq').elim)
        ((conv => whnf) <;> repeat (refine obl_ ?_; conv => whnf))
        refine cond_ (fun h => (bne_no h hv').elim) (fun _ => ?_)
        ((conv => whnf) <;> repeat (refine obl_ ?_; conv => whnf))
        refine cond_ (fun h => (bne_no h fin.1).elim) (fun _ => ?_)
        ((conv => whnf) <;> repeat (refine obl_ ?_; conv => whnf))
        refine cond_ (fun h => (bne_no h fin.2).elim) (fun _ => ?_)
        ((conv => whnf) <;> repeat (refine obl_ ?_; conv => whnf))
        refine ⟨(k + 1, (stepD s (l.getD k zMv)).2.1), ⟨by simp only; omega, hs2⟩, by simp only; omega, [(5000, some 41), (5001, some 541)], ?_⟩
        (refine ⟨?_, ?_, ?_, by kernel_rfl⟩ <;> repeat' (first | exact trivial | exact rfl | assumption | apply And.intro))
        · exact up_ (by omega)
        · exact int_ Q2.symm
        · exact int_ Q1.symm
    · ((conv => whnf) <;> repeat (refine obl_ ?_; conv => whnf))
      exact rfl
  · rintro e w1 ⟨x, v, A1, ρ1, a1, rfl, hv, rfl, hS1, _⟩
    exact ⟨by rw [show x = _ from hv], hS1.rel.bel⟩
end Go.Proofs.YtkimndddlnbeiaaDoor.Ff

/- The law StandardVariance, walked. No condition but 64 bits. -/
namespace Go.Proofs.YtkimndddlnbeiaaDoor.Ff
open Go.RowKit Go.Proofs.YtkimndddlnbeiaaDoorW.PrintWords Go.Proofs.YtkimndddlnbeiaaDoor.Ex
set_option linter.unusedVariables false
set_option linter.unusedSimpArgs false
set_option maxRecDepth 100000
theorem StandardVariance_calls {W : World} {V : Value} {p : Int} {l : List Mv} (hL : Laid W) (h1 : Src W V .mv l) (hl : MvsI l) :
    Calls Tryd.prog 5 #[.int .i64 p, V] W fun e w1 => e = .returned (.bool true) ∧ Below W.heap.size W w1 := by
  obtain ⟨ρ, e1, hS⟩ := start1 h1
  have hg : ∀ i, ¬ (gW W).S i := fun i h => h
  refine (calls_awp (f := 5) (vs := [.int .i64 p, V]) (cx_ok (C := CL) (nt := 87) (cl_ok hL hg)) mixed_ok Tryd.func5 rfl rfl hS (avs := [.one (.v (.int .i64 p)), .one (.row 0)])
    (fun ρ' h => ⟨rfl, row_rel h (by simp [findR]) e1 h1, trivial⟩) (le_of_ble (by kernel_rfl)) (K := fun x A => x = .one (.v (.bool true))) ?_).mono ?_
  · ((conv => whnf) <;> repeat (refine obl_ ?_; conv => whnf))
    refine cond_ (fun h => ?_) (fun h => ?_)
    · ((conv => whnf) <;> repeat (refine obl_ ?_; conv => whnf))
      exact rfl
    have hB : lightB p l = true := not_f h
    obtain ⟨p0, p1, hlen, _⟩ := light_t hB
    ((conv => whnf) <;> repeat (refine obl_ ?_; conv => whnf))
    refine LoopP.introR (cx_ok (cl_ok hL hg)) mixed_ok (ι := Nat × St) (fun k => ⟨[(6, .one (.v (.int .i64 (k.1 : Int)))), (5, .one (.ptr 15 0)), (4, .one (.v (.bool false))), (1, .one (.row 0))], [(15, 28, stockL k.2 5000 5001)], [(0, some ⟨.mv, l, false⟩), (5000, some ⟨.la, k.2.la, true⟩), (5001, some ⟨.pa, k.2.pa, true⟩)]⟩) (fun k => k.1 ≤ l.length ∧ Kn k.2 k.1) (fun k => l.length - k.1) (0, stA p) ⟨Nat.zero_le _, stA_kn p0 p1⟩ ⟨[(5000, none), (5001, none)], by (refine ⟨?_, ?_, ?_, by kernel_rfl⟩ <;> repeat' (first | exact trivial | exact rfl | assumption | apply And.intro))⟩ ?_
    rintro ⟨k, s⟩ ⟨hk, hs⟩
    simp only at hk hs
    ((conv => whnf) <;> repeat (refine obl_ ?_; conv => whnf))
    refine cond_ (fun h => ?_) (fun h => ?_)
    · have hlt : k < l.length := by have := of_decide_eq_true h; simp only at this; omega
      have i1 : 0 ≤ (k : Int) := by omega
      have i2 : (k : Int) < (l.length : Int) := by omega
      have hsm : SmD s (l.getD k zMv) := hs.sm (by omega) hl hlt
      have hs2 := hs.next hsm.sm.mi
      ((conv => whnf) <;> repeat (refine obl_ ?_; conv => whnf))
      refine cond_ (fun he => ?_) (fun he => ?_)
      · have h0 : ¬ (stepD s (l.getD k zMv)).1 = 0 := fun e => bne_no he e
        rw [if_neg h0] at hs2
        ((conv => whnf) <;> repeat (refine obl_ ?_; conv => whnf))
        refine ⟨(k + 1, s), ⟨by simp only; omega, hs2⟩, by simp only; omega, [], ?_⟩
        (refine ⟨?_, ?_, ?_, by kernel_rfl⟩ <;> repeat' (first | exact trivial | exact rfl | assumption | apply And.intro))
        exact up_ (by omega)
      have h0 : (stepD s (l.getD k zMv)).1 = 0 := bne_eq he
      rw [if_pos h0] at hs2
      have D := stD hs.inv h0
      have I' := hs2.inv
      have h6 : (l.getD k zMv).kind = 1 ∨ (l.getD k zMv).kind = 2 ∨ (l.getD k zMv).kind = 3 ∨ (l.getD k zMv).kind = 4 ∨ (l.getD k zMv).kind = 5 ∨ (l.getD k zMv).kind = 6 := by have := D.one.kind; omega
      rcases h6 with k1 | k1 | k1 | k1 | k1 | k1
      · ((conv => whnf) <;> repeat (refine obl_ ?_; conv => whnf))
        refine cond_ (fun _ => ?_) (fun h => (beq_ne h k1).elim)
        ((conv => whnf) <;> repeat (refine obl_ ?_; conv => whnf))
        refine cond_ (fun _ => ?_) (fun h => (beq_ne h k1).elim)
        ((conv => whnf) <;> repeat (refine obl_ ?_; conv => whnf))
        refine cond_ (fun h => (bne_no h (D.pay (.inl k1))).elim) (fun _ => ?_)
        ((conv => whnf) <;> repeat (refine obl_ ?_; conv => whnf))
        refine ⟨(k + 1, (stepD s (l.getD k zMv)).2.1), ⟨by simp only; omega, hs2⟩, by simp only; omega, [(5000, some 40), (5001, some 540)], ?_⟩
        (refine ⟨?_, ?_, ?_, by kernel_rfl⟩ <;> repeat' (first | exact trivial | exact rfl | assumption | apply And.intro))
        exact up_ (by omega)
      · ((conv => whnf) <;> repeat (refine obl_ ?_; conv => whnf))
        refine cond_ (fun h => absurd (k1.symm.trans (beq_iff_eq.1 h)) (by decide)) (fun _ => ?_)
        ((conv => whnf) <;> repeat (refine obl_ ?_; conv => whnf))
        refine cond_ (fun h => absurd (k1.symm.trans (beq_iff_eq.1 h)) (by decide)) (fun _ => ?_)
        ((conv => whnf) <;> repeat (refine obl_ ?_; conv => whnf))
        refine cond_ (fun h => absurd (k1.symm.trans (beq_iff_eq.1 h)) (by decide)) (fun _ => ?_)
        ((conv => whnf) <;> repeat (refine obl_ ?_; conv => whnf))
        refine cond_ (fun h => absurd (k1.symm.trans (beq_iff_eq.1 h)) (by decide)) (fun _ => ?_)
        ((conv => whnf) <;> repeat (refine obl_ ?_; conv => whnf))
        refine cond_ (fun _ => ?_) (fun h => (beq_ne h k1).elim)
        ((conv => whnf) <;> repeat (refine obl_ ?_; conv => whnf))
        refine cond_ (fun h => (bne_no h (D.pay2 k1)).elim) (fun _ => ?_)
        ((conv => whnf) <;> repeat (refine obl_ ?_; conv => whnf))
        refine ⟨(k + 1, (stepD s (l.getD k zMv)).2.1), ⟨by simp only; omega, hs2⟩, by simp only; omega, [(5000, some 40), (5001, some 540)], ?_⟩
        (refine ⟨?_, ?_, ?_, by kernel_rfl⟩ <;> repeat' (first | exact trivial | exact rfl | assumption | apply And.intro))
        exact up_ (by omega)
      · ((conv => whnf) <;> repeat (refine obl_ ?_; conv => whnf))
        refine cond_ (fun h => absurd (k1.symm.trans (beq_iff_eq.1 h)) (by decide)) (fun _ => ?_)
        ((conv => whnf) <;> repeat (refine obl_ ?_; conv => whnf))
        refine cond_ (fun h => absurd (k1.symm.trans (beq_iff_eq.1 h)) (by decide)) (fun _ => ?_)
        ((conv => whnf) <;> repeat (refine obl_ ?_; conv => whnf))
        refine cond_ (fun h => absurd (k1.symm.trans (beq_iff_eq.1 h)) (by decide)) (fun _ => ?_)
        ((conv => whnf) <;> repeat (refine obl_ ?_; conv => whnf))
        refine cond_ (fun h => absurd (k1.symm.trans (beq_iff_eq.1 h)) (by decide)) (fun _ => ?_)
        ((conv => whnf) <;> repeat (refine obl_ ?_; conv => whnf))
        refine cond_ (fun h => absurd (k1.symm.trans (beq_iff_eq.1 h)) (by decide)) (fun _ => ?_)
        ((conv => whnf) <;> repeat (refine obl_ ?_; conv => whnf))
        refine ⟨(k + 1, (stepD s (l.getD k zMv)).2.1), ⟨by simp only; omega, hs2⟩, by simp only; omega, [(5000, some 40), (5001, some 540)], ?_⟩
        (refine ⟨?_, ?_, ?_, by kernel_rfl⟩ <;> repeat' (first | exact trivial | exact rfl | assumption | apply And.intro))
        exact up_ (by omega)
      · ((conv => whnf) <;> repeat (refine obl_ ?_; conv => whnf))
        refine cond_ (fun h => absurd (k1.symm.trans (beq_iff_eq.1 h)) (by decide)) (fun _ => ?_)
        ((conv => whnf) <;> repeat (refine obl_ ?_; conv => whnf))
        refine cond_ (fun h => absurd (k1.symm.trans (beq_iff_eq.1 h)) (by decide)) (fun _ => ?_)
        ((conv => whnf) <;> repeat (refine obl_ ?_; conv => whnf))
        refine cond_ (fun _ => ?_) (fun h => (beq_ne h k1).elim)
        ((conv => whnf) <;> repeat (refine obl_ ?_; conv => whnf))
        refine cond_ (fun h => (bne_no h (D.pay4 k1)).elim) (fun _ => ?_)
        ((conv => whnf) <;> repeat (refine obl_ ?_; conv => whnf))
        refine ⟨(k + 1, (stepD s (l.getD k zMv)).2.1), ⟨by simp only; omega, hs2⟩, by simp only; omega, [(5000, some 40), (5001, some 540)], ?_⟩
        (refine ⟨?_, ?_, ?_, by kernel_rfl⟩ <;> repeat' (first | exact trivial | exact rfl | assumption | apply And.intro))
        exact up_ (by omega)
      · ((conv => whnf) <;> repeat (refine obl_ ?_; conv => whnf))
        refine cond_ (fun h => absurd (k1.symm.trans (beq_iff_eq.1 h)) (by decide)) (fun _ => ?_)
        ((conv => whnf) <;> repeat (refine obl_ ?_; conv => whnf))
        refine cond_ (fun _ => ?_) (fun h => (beq_ne h k1).elim)
        ((conv => whnf) <;> repeat (refine obl_ ?_; conv => whnf))
        refine cond_ (fun h => (bne_no h (D.pay (.inr k1))).elim) (fun _ => ?_)
        ((conv => whnf) <;> repeat (refine obl_ ?_; conv => whnf))
        refine ⟨(k + 1, (stepD s (l.getD k zMv)).2.1), ⟨by simp only; omega, hs2⟩, by simp only; omega, [(5000, some 40), (5001, some 540)], ?_⟩
        (refine ⟨?_, ?_, ?_, by kernel_rfl⟩ <;> repeat' (first | exact trivial | exact rfl | assumption | apply And.intro))
        exact up_ (by omega)
      · ((conv => whnf) <;> repeat (refine obl_ ?_; conv => whnf))
        refine cond_ (fun h => absurd (k1.symm.trans (beq_iff_eq.1 h)) (by decide)) (fun _ => ?_)
        ((conv => whnf) <;> repeat (refine obl_ ?_; conv => whnf))
        refine cond_ (fun h => absurd (k1.symm.trans (beq_iff_eq.1 h)) (by decide)) (fun _ => ?_)
        ((conv => whnf) <;> repeat (refine obl_ ?_; conv => whnf))
        refine cond_ (fun h => absurd (k1.symm.trans (beq_iff_eq.1 h)) (by decide)) (fun _ => ?_)
        ((conv => whnf) <;> repeat (refine obl_ ?_; conv => whnf))
        refine cond_ (fun _ => ?_) (fun h => (beq_ne h k1).elim)
        ((conv => whnf) <;> repeat (refine obl_ ?_; conv => whnf))
        refine cond_ (fun h => (bne_no h ((D.pay6 k1).1)).elim) (fun _ => ?_)
        ((conv => whnf) <;> repeat (refine obl_ ?_; conv => whnf))
        refine cond_ (fun h => (bne_no h ((D.pay6 k1).2)).elim) (fun _ => ?_)
        ((conv => whnf) <;> repeat (refine obl_ ?_; conv => whnf))
        refine ⟨(k + 1, (stepD s (l.getD k zMv)).2.1), ⟨by simp only; omega, hs2⟩, by simp only; omega, [(5000, some 40), (5001, some 540)], ?_⟩
        (refine ⟨?_, ?_, ?_, by kernel_rfl⟩ <;> repeat' (first | exact trivial | exact rfl | assumption | apply And.intro))
        exact up_ (by omega)
    · ((conv => whnf) <;> repeat (refine obl_ ?_; conv => whnf))
      exact rfl
  · rintro e w1 ⟨x, v, A1, ρ1, a1, rfl, hv, rfl, hS1, _⟩
    exact ⟨by rw [show x = _ from hv], hS1.rel.bel⟩
end Go.Proofs.YtkimndddlnbeiaaDoor.Ff

/- standard (chapter 36), plain: an issue returned in parts. No program in sight. -/
namespace Go.Proofs.YtkimndddlnbeiaaDoor.Ff
open Go.RowKit Go.Proofs.YtkimndddlnbeiaaDoorW.PrintWords Go.Proofs.YtkimndddlnbeiaaDoor.Ex
set_option linter.unusedVariables false
set_option linter.unusedSimpArgs false
theorem one_m1 {q : Int} (h0 : 1 ≤ q) (h1 : q ≤ 1000000000) : oneM (lMv 1 1 q 1 0) = 0 := by
  have c4 : Co.qtyB 1 q = true := by unfold Co.qtyB; rw [if_neg (by decide)]; exact decide_eq_true ⟨h0, h1⟩
  show Co.oneS 5 ⟨#[120]⟩ 1 q 1 ⟨#[]⟩ 0 = 0
  unfold Co.oneS
  rw [if_pos (by decide), if_pos (by kernel_rfl), if_pos (by decide), if_pos c4, if_pos (by decide), if_pos (by kernel_rfl), if_pos (by decide)]
theorem one_m2 {q : Int} (h0 : 1 ≤ q) (h1 : q ≤ 1000000000) : oneM (lMv 2 2 q 0 0) = 0 := by
  have c4 : Co.qtyB 2 q = true := by unfold Co.qtyB; rw [if_neg (by decide)]; exact decide_eq_true ⟨h0, h1⟩
  show Co.oneS 5 ⟨#[120]⟩ 2 q 0 ⟨#[]⟩ 0 = 0
  unfold Co.oneS
  rw [if_pos (by decide), if_pos (by kernel_rfl), if_pos (by decide), if_pos c4, if_pos (by decide), if_pos (by kernel_rfl), if_pos (by decide)]
theorem one_m6 {r : Int} (h0 : 0 ≤ r) (h1 : r ≤ 1000000000000) : oneM (lMv 3 6 0 r 0) = 0 := by
  have c5 : Co.costB 6 r = true := by unfold Co.costB; rw [if_neg (by decide), if_neg (by decide)]; exact decide_eq_true ⟨h0, h1⟩
  show Co.oneS 5 ⟨#[120]⟩ 6 0 r ⟨#[]⟩ 0 = 0
  unfold Co.oneS
  rw [if_pos (by decide), if_pos (by kernel_rfl), if_pos (by decide), if_pos (by decide), if_pos c5, if_pos (by kernel_rfl), if_pos (by decide)]
theorem one_m3 {n q : Int} (h0 : 1 ≤ q) (h1 : q ≤ 1000000000) : oneM (lMv n 3 q 0 2) = 0 := by
  have c4 : Co.qtyB 3 q = true := by unfold Co.qtyB; rw [if_neg (by decide)]; exact decide_eq_true ⟨h0, h1⟩
  show Co.oneS 5 ⟨#[120]⟩ 3 q 0 ⟨#[]⟩ 2 = 0
  unfold Co.oneS
  rw [if_pos (by decide), if_pos (by kernel_rfl), if_pos (by decide), if_pos c4, if_pos (by decide), if_pos (by kernel_rfl), if_pos (by decide)]
def bR (q : Int) : Pa := ⟨1, 1, ⟨#[]⟩, q, 1, 0, 0⟩
def bI (q v u w : Int) : Pa := ⟨2, 2, ⟨#[]⟩, q, v, u, w⟩
def bk1 (p q : Int) : St := ⟨q, q * p, p, [], [bR q]⟩
def bk2 (p q : Int) : St := ⟨0, 0, p, [], [bR q, bI q (q * p) 0 0]⟩
def bkL (r v q u w : Int) : St := ⟨u, u * r, r, [], [bR q, bI q v u w]⟩
theorem fit_small {n : Int} (h0 : -1000000000000 ≤ n) (h1 : n ≤ 1000000000000) : fitB n = true := fit_iff.2 ⟨by omega, by omega⟩
theorem far_small {n : Int} (h0 : -2000000000000 ≤ n) (h1 : n ≤ 2000000000000) : farS n = false := far_no.2 (by omega)
theorem mul_small {a b : Int} (ha : 0 ≤ a ∧ a ≤ 1000000) (hb : 0 ≤ b ∧ b ≤ 1000000) : 0 ≤ a * b ∧ a * b ≤ 1000000000000 := by
  refine ⟨Int.mul_nonneg ha.1 hb.1, ?_⟩
  have h1 : a * b ≤ 1000000 * b := Int.mul_le_mul_of_nonneg_right ha.2 hb.1
  omega
theorem kn_not {pa : List Pa} {n : Int} (h : ∀ p ∈ pa, p.seq ≠ n) : ¬ knS pa n = true := by
  have f : ∀ k, findS k n pa = -1 := fun k => by
    have g : ∀ (l : List Pa) (j : Int), (∀ p ∈ l, p.seq ≠ n) → fi (fun p : Pa => p.kind == k && p.seq == n) l j = -1 := by
      intro l
      induction l with
      | nil => exact fun _ _ => rfl
      | cons x r ih =>
        intro j hx
        have h1 : x.seq ≠ n := hx x List.mem_cons_self
        have h2 : (x.seq == n) = false := by simpa using h1
        simp only [fi]
        rw [if_neg (by rw [h2, Bool.and_false]; decide)]
        exact ih _ (fun p hp => hx p (List.mem_cons_of_mem _ hp))
    exact g pa 0 h
  unfold knS
  rw [f 1, f 2]
  decide
theorem back_1 {p q : Int} (hp : 0 ≤ p ∧ p ≤ 1000000) (hq : 1 ≤ q ∧ q ≤ 1000000) : stepD (stA p) (lMv 1 1 q 1 0) = (0, bk1 p q, ⟨1, q, q * p, wr (1 - q * p)⟩) := by
  have a := mul_small (a := q) (b := p) (by omega) hp
  have M := moveD_1 (s := stA p) (m := lMv 1 1 q 1 0) rfl (show fitB (q * p) = true from fit_small (by omega) (by omega))
  have w1 : wr (1 - q * p) = 1 - q * p := wr_id (by omega) (by omega)
  have w2 : wr (0 + q) = q := (wr_id (by omega) (by omega)).trans (by omega)
  rw [stepD_5 (by rw [one_m1 hq.1 (by omega)]; decide) (kn_not (fun x hx => (by cases hx))) (by rw [M]; exact fun h => h rfl) (by rw [M]; exact fit_small (by show _ ≤ 0 + q * p; omega) (by show 0 + q * p ≤ _; omega)) (by rw [M]; show ¬ 1000000000 < wr (0 + q); omega) (by rw [M]; exact far_small (by show _ ≤ 0 + q * p; omega) (by show 0 + q * p ≤ _; omega)) (by rw [M]; exact far_small (by show _ ≤ wr (1 - q * p); omega) (by show wr (1 - q * p) ≤ _; omega)), M]
  show (0, (⟨wr (0 + q), 0 + q * p, p, [], [bR q]⟩ : St), (⟨1, q, q * p, wr (1 - q * p)⟩ : Co)) = _
  rw [w2, Int.zero_add]
  rfl
theorem back_2 {p q : Int} (hp : 0 ≤ p ∧ p ≤ 1000000) (hq : 1 ≤ q ∧ q ≤ 1000000) : stepD (bk1 p q) (lMv 2 2 q 0 0) = (0, bk2 p q, ⟨2, -q, -(q * p), 0⟩) := by
  have a := mul_small (a := q) (b := p) (by omega) hp
  have M := moveD_2 (s := bk1 p q) (m := lMv 2 2 q 0 0) rfl (Int.lt_irrefl q) (show fitB (q * p) = true from fit_small (by omega) (by omega))
  have w1 : wr (0 - q * p) = -(q * p) := (wr_id (by omega) (by omega)).trans (by omega)
  have w2 : wr (0 - q) = -q := (wr_id (by omega) (by omega)).trans (by omega)
  have w3 : wr (q + -q) = 0 := (wr_id (by omega) (by omega)).trans (by omega)
  have w4 : q * p + -(q * p) = 0 := by omega
  have M' : moveD (bk1 p q) (lMv 2 2 q 0 0) = (0, ⟨2, -q, -(q * p), 0⟩, p, [bR q, bI q (q * p) 0 0]) := by
    rw [M]
    show (0, (⟨2, wr (0 - q), wr (0 - q * p), 0⟩ : Co), p, _) = _
    rw [w1, w2]
    rfl
  rw [stepD_5 (by rw [one_m2 hq.1 (by omega)]; decide) (kn_not (fun x hx => by rw [List.mem_singleton.1 hx]; show (1 : Int) ≠ 2; decide)) (by rw [M']; exact fun h => h rfl) (by rw [M']; show fitB (q * p + -(q * p)) = true; rw [w4]; decide) (by rw [M']; show ¬ 1000000000 < wr (q + -q); omega) (by rw [M']; show farS (q * p + -(q * p)) = false; rw [w4]; decide) (by rw [M']; show farS 0 = false; decide), M']
  show (0, (⟨wr (q + -q), q * p + -(q * p), p, [], [bR q, bI q (q * p) 0 0]⟩ : St), (⟨2, -q, -(q * p), 0⟩ : Co)) = _
  rw [w3, w4]
  rfl
theorem back_3 {p q r : Int} (hp : 0 ≤ p ∧ p ≤ 1000000) (hr : 0 ≤ r ∧ r ≤ 1000000) : stepD (bk2 p q) (lMv 3 6 0 r 0) = (0, bkL r (q * p) q 0 0, ⟨3, 0, 0, 0⟩) := by
  have z : (0 : Int) * (r - p) = 0 := Int.zero_mul _
  have f : fitB (r - p) = true := fit_small (by omega) (by omega)
  have M := moveD_6 (s := bk2 p q) (m := lMv 3 6 0 r 0) rfl f (by show fitB (0 * (r - p)) = true; rw [z]; decide) (by show farS (0 * (r - p)) = false; rw [z]; decide)
  have M' : moveD (bk2 p q) (lMv 3 6 0 r 0) = (0, ⟨3, 0, 0, 0⟩, r, [bR q, bI q (q * p) 0 0]) := by
    rw [M]
    show (0, (⟨3, 0, 0 * (r - p), wr (0 - 0 * (r - p))⟩ : Co), r, _) = _
    rw [z]
    rfl
  rw [stepD_5 (by rw [one_m6 hr.1 (by omega)]; decide) (kn_not (fun x hx => by
    rcases List.mem_cons.1 hx with rfl | hx
    · show (1 : Int) ≠ 3; decide
    · rw [List.mem_singleton.1 hx]; show (2 : Int) ≠ 3; decide)) (by rw [M']; exact fun h => h rfl) (by rw [M']; show fitB (0 + 0) = true; decide) (by rw [M']; show ¬ 1000000000 < wr (0 + 0); decide) (by rw [M']; show farS (0 + 0) = false; decide) (by rw [M']; show farS 0 = false; decide), M']
  show (0, (⟨wr (0 + 0), 0 + 0, r, [], [bR q, bI q (q * p) 0 0]⟩ : St), (⟨3, 0, 0, 0⟩ : Co)) = _
  have e : bkL r (q * p) q 0 0 = ⟨0, 0 * r, r, [], [bR q, bI q (q * p) 0 0]⟩ := rfl
  rw [e, Int.zero_mul]
  rfl
theorem back_4 {v q r u w n N : Int} (hv : 0 ≤ v ∧ v ≤ 1000000000000) (hq : 1 ≤ q ∧ q ≤ 1000000) (hr : 0 ≤ r ∧ r ≤ 1000000) (hu : 0 ≤ u) (hn : 1 ≤ n) (hun : u + n ≤ q) (hw : 0 ≤ w ∧ w ≤ v) (hN : 4 ≤ N) :
    stepD (bkL r v q u w) (lMv N 3 n 0 2) = (0, bkL r v q (u + n) (w + partS (v - w) n (q - u)), ⟨N, n, n * r, partS (v - w) n (q - u) - n * r⟩) ∧ 0 ≤ w + partS (v - w) n (q - u) ∧ w + partS (v - w) n (q - u) ≤ v ∧ (u + n = q → w + partS (v - w) n (q - u) = v) := by
  have a := mul_small (a := n) (b := r) (by omega) hr
  have a2 := mul_small (a := u) (b := r) (by omega) hr
  have a3 := mul_small (a := u + n) (b := r) (by omega) hr
  have a4 : u * r + n * r = (u + n) * r := (Int.add_mul u n r).symm
  have e1 : wr (q - u) = q - u := wr_id (by omega) (by omega)
  have e2 : wr (v - w) = v - w := wr_id (by omega) (by omega)
  have y := part_le (v := v - w) (n := n) (o := q - u) (by omega) (by omega) (by omega) (by omega) (by omega)
  have yl : u + n = q → partS (v - w) n (q - u) = v - w := fun e => by
    unfold partS
    rw [if_pos (by omega)]
  have M := moveD_3 (s := bkL r v q u w) (m := lMv N 3 n 0 2) (p := bI q v u w) (v := partS (v - w) n (q - u)) rfl (show ¬ (1 : Int) < 0 by decide) rfl (show ¬ wr (q - u) < n by omega) (show fitB (n * r) = true from fit_small (by omega) (by omega)) (by show _ = partS (wr (v - w)) n (wr (q - u)); rw [e1, e2])
  generalize partS (v - w) n (q - u) = h at *
  have w1 : wr (h - n * r) = h - n * r := wr_id (by omega) (by omega)
  have w2 : wr (u + n) = u + n := wr_id (by omega) (by omega)
  have w3 : wr (w + h) = w + h := wr_id (by omega) (by omega)
  have M' : moveD (bkL r v q u w) (lMv N 3 n 0 2) = (0, ⟨N, n, n * r, h - n * r⟩, r, [bR q, bI q v (u + n) (w + h)]) := by
    rw [M]
    show (0, (⟨N, n, n * r, wr (h - n * r)⟩ : Co), r, [bR q, bI q v (wr (u + n)) (wr (w + h))]) = _
    rw [w1, w2, w3]
  refine ⟨?_, by omega, by omega, fun e => by have := yl e; omega⟩
  rw [stepD_5 (by rw [one_m3 hn (by omega)]; decide) (kn_not (fun x hx => by
    rcases List.mem_cons.1 hx with rfl | hx
    · show (1 : Int) ≠ N; omega
    · rw [List.mem_singleton.1 hx]; show (2 : Int) ≠ N; omega)) (by rw [M']; exact fun h => h rfl) (by rw [M']; show fitB (u * r + n * r) = true; rw [a4]; exact fit_small (by omega) (by omega)) (by rw [M']; show ¬ 1000000000 < wr (u + n); omega) (by rw [M']; show farS (u * r + n * r) = false; rw [a4]; exact far_small (by omega) (by omega)) (by rw [M']; exact far_small (by show _ ≤ h - n * r; omega) (by show h - n * r ≤ _; omega)), M']
  show (0, (⟨wr (u + n), u * r + n * r, r, [], [bR q, bI q v (u + n) (w + h)]⟩ : St), (⟨N, n, n * r, h - n * r⟩ : Co)) = _
  rw [w2, a4]
  rfl
end Go.Proofs.YtkimndddlnbeiaaDoor.Ff

/- The law StandardBack, walked. No condition but 64 bits. -/
namespace Go.Proofs.YtkimndddlnbeiaaDoor.Ff
open Go.RowKit Go.Proofs.YtkimndddlnbeiaaDoorW.PrintWords Go.Proofs.YtkimndddlnbeiaaDoor.Ex
set_option linter.unusedVariables false
set_option linter.unusedSimpArgs false
set_option maxRecDepth 100000
theorem startI {W : World} {V : Value} {l : List Int} (h1 : Src W V .int l) : ∃ ρ : Env, ρ.r 0 = V ∧ Sat (gW W) ρ ⟨[], [], [(0, some ⟨.int, l, false⟩)]⟩ ⟨#[], []⟩ W :=
  ⟨_, rfl, (Sat.base (gW W) env0).newRead (d := 0) rfl h1 (fun _ _ _ h => h)⟩
/-- A part, brought into its range. -/
def minN (left x : Int) : Int := if left < (if x < 1 then 1 else x) then left else (if x < 1 then 1 else x)
theorem minN_le {left x : Int} (h : 0 ≤ left) : 0 ≤ minN left x ∧ minN left x ≤ left ∧ (minN left x = 0 → left = 0) := by
  unfold minN
  split <;> split at * <;> omega
theorem i64_of {n : Int} (h0 : -9223372036854775808 ≤ n) (h1 : n ≤ 9223372036854775807) : I64 n := ⟨h0, h1⟩
def CB (p q : Int) : List L := [.v (.int .i64 2), .v (.int .i64 (-q)), .v (.int .i64 (-(q * p))), .v (.int .i64 0)]
theorem StandardBack_calls {W : World} {V : Value} {p r q : Int} {l : List Int} (hL : Laid W) (h1 : Src W V .int l) :
    Calls Tryd.prog 6 #[.int .i64 p, .int .i64 r, .int .i64 q, V] W fun e w1 => e = .returned (.bool true) ∧ Below W.heap.size W w1 := by
  obtain ⟨ρ, e1, hS⟩ := startI h1
  have hg : ∀ i, ¬ (gW W).S i := fun i h => h
  refine (calls_awp (f := 6) (vs := [.int .i64 p, .int .i64 r, .int .i64 q, V]) (cx_ok (C := CL) (nt := 144) (cl_ok hL hg)) mixed_ok Tryd.func6 rfl rfl hS (avs := [.one (.v (.int .i64 p)), .one (.v (.int .i64 r)), .one (.v (.int .i64 q)), .one (.row 0)])
    (fun ρ' h => ⟨rfl, rfl, rfl, row_rel h (by simp [findR]) e1 h1, trivial⟩) (le_of_ble (by kernel_rfl)) (K := fun x A => x = .one (.v (.bool true))) ?_).mono ?_
  · ((conv => whnf) <;> repeat (refine obl_ ?_; conv => whnf))
    refine cond_ (fun h => ?_) (fun h => ?_)
    · ((conv => whnf) <;> repeat (refine obl_ ?_; conv => whnf))
      exact rfl
    have g0 : ¬ p < 0 := of_decide_eq_false h
    ((conv => whnf) <;> repeat (refine obl_ ?_; conv => whnf))
    refine cond_ (fun h => ?_) (fun h => ?_)
    · ((conv => whnf) <;> repeat (refine obl_ ?_; conv => whnf))
      exact rfl
    have g1 : ¬ 1000000 < p := of_decide_eq_false h
    ((conv => whnf) <;> repeat (refine obl_ ?_; conv => whnf))
    refine cond_ (fun h => ?_) (fun h => ?_)
    · ((conv => whnf) <;> repeat (refine obl_ ?_; conv => whnf))
      exact rfl
    have g2 : ¬ r < 0 := of_decide_eq_false h
    ((conv => whnf) <;> repeat (refine obl_ ?_; conv => whnf))
    refine cond_ (fun h => ?_) (fun h => ?_)
    · ((conv => whnf) <;> repeat (refine obl_ ?_; conv => whnf))
      exact rfl
    have g3 : ¬ 1000000 < r := of_decide_eq_false h
    ((conv => whnf) <;> repeat (refine obl_ ?_; conv => whnf))
    refine cond_ (fun h => ?_) (fun h => ?_)
    · ((conv => whnf) <;> repeat (refine obl_ ?_; conv => whnf))
      exact rfl
    have g4 : ¬ q < 1 := of_decide_eq_false h
    ((conv => whnf) <;> repeat (refine obl_ ?_; conv => whnf))
    refine cond_ (fun h => ?_) (fun h => ?_)
    · ((conv => whnf) <;> repeat (refine obl_ ?_; conv => whnf))
      exact rfl
    have g5 : ¬ 1000000 < q := of_decide_eq_false h
    ((conv => whnf) <;> repeat (refine obl_ ?_; conv => whnf))
    refine cond_ (fun h => ?_) (fun h => ?_)
    · ((conv => whnf) <;> repeat (refine obl_ ?_; conv => whnf))
      exact rfl
    have g6 : ¬ (20 : Int) < l.length := of_decide_eq_false h
    have hp : 0 ≤ p ∧ p ≤ 1000000 := by omega
    have hr : 0 ≤ r ∧ r ≤ 1000000 := by omega
    have hq : 1 ≤ q ∧ q ≤ 1000000 := by omega
    have av := mul_small (a := q) (b := p) (by omega) hp
    have m1 : MvI (lMv 1 1 q 1 0) := lMv_i (by decide) (by decide) (i64_of (by omega) (by omega)) (by decide) (by decide)
    have m2 : MvI (lMv 2 2 q 0 0) := lMv_i (by decide) (by decide) (i64_of (by omega) (by omega)) (by decide) (by decide)
    have m3 : MvI (lMv 3 6 0 r 0) := lMv_i (by decide) (by decide) (by decide) (i64_of (by omega) (by omega)) (by decide)
    have k0 : Kn (stA p) 0 := stA_kn hp.1 (by omega)
    have k1 : Kn (bk1 p q) 1 := k0.to m1 (back_1 hp hq)
    have k2 : Kn (bk2 p q) 2 := k1.to m2 (back_2 hp hq)
    have k3 : Kn (bkL r (q * p) q 0 0) 3 := k2.to m3 (back_3 hp hr)
    ((conv => whnf) <;> repeat (refine obl_ ?_; conv => whnf))
    show SmD (stA p) (lMv 1 1 q 1 0) ∧ (stepM (stepD (stA p) (lMv 1 1 q 1 0)) _ _).cps _ _
    rw [back_1 hp hq]
    refine ⟨smD k0.pl (by decide) k0.inv m1, ?_⟩
    ((conv => whnf) <;> repeat (refine obl_ ?_; conv => whnf))
    show SmD (bk1 p q) (lMv 2 2 q 0 0) ∧ (stepM (stepD (bk1 p q) (lMv 2 2 q 0 0)) _ _).cpsL _ _
    rw [back_2 hp hq]
    refine ⟨smD k1.pl (by decide) k1.inv m2, ?_⟩
    ((conv => whnf) <;> repeat (refine obl_ ?_; conv => whnf))
    show SmD (bk2 p q) (lMv 3 6 0 r 0) ∧ (stepM (stepD (bk2 p q) (lMv 3 6 0 r 0)) _ _).cpsL _ _
    rw [back_3 hp hr]
    refine ⟨smD k2.pl (by decide) k2.inv m3, ?_⟩
    ((conv => whnf) <;> repeat (refine obl_ ?_; conv => whnf))
    have hmain : (q * p) = wr (0 - -(q * p)) := ((wr_id (by omega) (by omega)).trans (by omega)).symm
    refine LoopP.introR (cx_ok (cl_ok hL hg)) mixed_ok (ι := Nat × Int × Int) (fun k => ⟨[(20, .one (.v (.int .i64 (k.1 : Int)))), (19, .one (.v (.int .i64 k.2.2))), (18, .one (.v (.int .i64 (q - k.2.1)))), (15, .one (.ptr 25 0)), (13, .one (.ptr 23 0)), (8, .one (.v (.bool false))), (3, .one (.row 0))], [(25, 28, stockL (bkL r (q * p) q k.2.1 k.2.2) 5000 5001), (23, 30, CB p q)], [(0, some ⟨.int, l, false⟩), (5000, some ⟨.la, [], true⟩), (5001, some ⟨.pa, [bR q, bI q (q * p) k.2.1 k.2.2], true⟩)]⟩)
      (fun k => k.1 ≤ l.length + 1 ∧ (0 ≤ k.2.1 ∧ k.2.1 ≤ q) ∧ (0 ≤ k.2.2 ∧ k.2.2 ≤ q * p) ∧ (k.2.1 = q → k.2.2 = q * p) ∧ (k.1 = l.length + 1 → k.2.1 = q) ∧ Kn (bkL r (q * p) q k.2.1 k.2.2) (3 + k.1)) (fun k => l.length + 1 - k.1) (0, 0, 0)
      ⟨Nat.zero_le _, ⟨Int.le_refl _, by simp only; omega⟩, ⟨Int.le_refl _, av.1⟩, (fun h => by simp only at h; omega), (fun h => by simp only at h; omega), k3⟩ ⟨[(5000, some 84), (5001, some 584)], by (refine ⟨?_, ?_, ?_, by kernel_rfl⟩ <;> repeat' (first | exact trivial | exact rfl | assumption | apply And.intro)); exact int_ (by simp only; omega)⟩ ?_
    rintro ⟨k, u, w⟩ ⟨hk, hu, hw, hfull, hend, hs⟩
    simp only at hk hu hw hfull hend hs
    have stop : u = q → ((q - u == 0) = true) ∧ ((w == wr (0 - -(q * p))) = true) := fun e => ⟨by simp only [beq_iff_eq]; omega, by rw [hfull e, ← hmain]; exact beq_iff_eq.2 rfl⟩
    ((conv => whnf) <;> repeat (refine obl_ ?_; conv => whnf))
    refine cond_ (fun h => ?_) (fun h => ?_)
    · have hle : k ≤ l.length := by have := of_decide_eq_true h; simp only at this; omega
      have i1 : 0 ≤ (k : Int) := by omega
      have N1 : wr (4 + (k : Int)) = 4 + (k : Int) := wr_id (by omega) (by omega)
      ((conv => whnf) <;> repeat (refine obl_ ?_; conv => whnf))
      refine cond_ (fun h2 => ?_) (fun h2 => ?_)
      · have hlt : k < l.length := by have := of_decide_eq_true h2; simp only at this; omega
        have i2 : (k : Int) < (l.length : Int) := by omega
        have hn := minN_le (left := q - u) (x := l.getD k 0) (by omega)
        ((conv => whnf) <;> repeat (refine obl_ ?_; conv => whnf))
        refine cond_ (fun hn0 => ?_) (fun hn0 => ?_)
        · have hz := beq_iff_eq.1 hn0
          have s := stop (by have := hn.2.2 hz; omega)
          ((conv => whnf) <;> repeat (refine obl_ ?_; conv => whnf))
          refine cond_ (fun _ => ?_) (fun h => by rw [show (q - u == 0) = false from h] at s; cases s.1)
          ((conv => whnf) <;> repeat (refine obl_ ?_; conv => whnf))
          refine cond_ (fun _ => ?_) (fun h => by rw [show (w == wr (0 - -(q * p))) = false from h] at s; cases s.2)
          ((conv => whnf) <;> repeat (refine obl_ ?_; conv => whnf))
          exact rfl
        · have hz : ¬ minN (q - u) (l.getD k 0) = 0 := fun e => beq_ne hn0 e
          have n1 : 1 ≤ minN (q - u) (l.getD k 0) := by omega
          have B := back_4 (v := q * p) (q := q) (r := r) (u := u) (w := w) (n := (minN (q - u) (l.getD k 0))) (N := wr (4 + (k : Int))) av hq hr hu.1 (by omega) (by omega) hw (by omega)
          have m4 : MvI (lMv (wr (4 + (k : Int))) 3 ((minN (q - u) (l.getD k 0))) 0 2) := lMv_i (i64_wrap _) (by decide) (i64_of (by omega) (by omega)) (by decide) (by decide)
          have ar := mul_small (a := (minN (q - u) (l.getD k 0))) (b := r) (by omega) hr
          have hs' := hs.to m4 B.1
          ((conv => whnf) <;> repeat (refine obl_ ?_; conv => whnf))
          show SmD (bkL r (q * p) q u w) (lMv (wr (4 + (k : Int))) 3 ((minN (q - u) (l.getD k 0))) 0 2) ∧ (stepM (stepD (bkL r (q * p) q u w) (lMv (wr (4 + (k : Int))) 3 ((minN (q - u) (l.getD k 0))) 0 2)) _ _).cpsL _ _
          rw [B.1]
          refine ⟨smD hs.pl (by omega) hs.inv m4, ?_⟩
          ((conv => whnf) <;> repeat (refine obl_ ?_; conv => whnf))
          refine ⟨(k + 1, u + (minN (q - u) (l.getD k 0)), w + partS (q * p - w) ((minN (q - u) (l.getD k 0))) (q - u)), ⟨by simp only; omega, ⟨by simp only; omega, by simp only; omega⟩, ⟨B.2.1, B.2.2.1⟩, B.2.2.2, (fun h => by simp only at h ⊢; omega), hs'⟩, by simp only; omega, [(5000, some 125), (5001, some 625)], ?_⟩
          have B2 := B.2.1
          have B3 := B.2.2.1
          generalize partS (q * p - w) ((minN (q - u) (l.getD k 0))) (q - u) = hh at *
          have x1 : wr ((minN (q - u) (l.getD k 0)) * r + (hh - (minN (q - u) (l.getD k 0)) * r)) = hh := (wr_id (by omega) (by omega)).trans (by omega)
          have x2 : wr (w + wr ((minN (q - u) (l.getD k 0)) * r + (hh - (minN (q - u) (l.getD k 0)) * r))) = w + hh := by rw [x1]; exact wr_id (by omega) (by omega)
          have x3 : wr (q - u - (minN (q - u) (l.getD k 0))) = q - (u + (minN (q - u) (l.getD k 0))) := (wr_id (by omega) (by omega)).trans (by omega)
          (refine ⟨?_, ?_, ?_, by kernel_rfl⟩ <;> repeat' (first | exact trivial | exact rfl | assumption | apply And.intro))
          · exact up_ (by omega)
          · exact int_ x2
          · exact int_ x3
      · have hlt : k = l.length := by have := of_decide_eq_false h2; simp only at this; omega
        ((conv => whnf) <;> repeat (refine obl_ ?_; conv => whnf))
        refine cond_ (fun hn0 => ?_) (fun hn0 => ?_)
        · have hz := beq_iff_eq.1 hn0
          have s := stop (by have : q - u = 0 := hz; omega)
          ((conv => whnf) <;> repeat (refine obl_ ?_; conv => whnf))
          refine cond_ (fun _ => ?_) (fun h => by rw [show (q - u == 0) = false from h] at s; cases s.1)
          ((conv => whnf) <;> repeat (refine obl_ ?_; conv => whnf))
          refine cond_ (fun _ => ?_) (fun h => by rw [show (w == wr (0 - -(q * p))) = false from h] at s; cases s.2)
          ((conv => whnf) <;> repeat (refine obl_ ?_; conv => whnf))
          exact rfl
        · have hz : ¬ q - u = 0 := fun e => beq_ne hn0 e
          have B := back_4 (v := q * p) (q := q) (r := r) (u := u) (w := w) (n := (q - u)) (N := wr (4 + (k : Int))) av hq hr hu.1 (by omega) (by omega) hw (by omega)
          have m4 : MvI (lMv (wr (4 + (k : Int))) 3 ((q - u)) 0 2) := lMv_i (i64_wrap _) (by decide) (i64_of (by omega) (by omega)) (by decide) (by decide)
          have ar := mul_small (a := (q - u)) (b := r) (by omega) hr
          have hs' := hs.to m4 B.1
          ((conv => whnf) <;> repeat (refine obl_ ?_; conv => whnf))
          show SmD (bkL r (q * p) q u w) (lMv (wr (4 + (k : Int))) 3 ((q - u)) 0 2) ∧ (stepM (stepD (bkL r (q * p) q u w) (lMv (wr (4 + (k : Int))) 3 ((q - u)) 0 2)) _ _).cpsL _ _
          rw [B.1]
          refine ⟨smD hs.pl (by omega) hs.inv m4, ?_⟩
          ((conv => whnf) <;> repeat (refine obl_ ?_; conv => whnf))
          refine ⟨(k + 1, u + (q - u), w + partS (q * p - w) ((q - u)) (q - u)), ⟨by simp only; omega, ⟨by simp only; omega, by simp only; omega⟩, ⟨B.2.1, B.2.2.1⟩, B.2.2.2, (fun h => by simp only at h ⊢; omega), hs'⟩, by simp only; omega, [(5000, some 125), (5001, some 625)], ?_⟩
          have B2 := B.2.1
          have B3 := B.2.2.1
          generalize partS (q * p - w) ((q - u)) (q - u) = hh at *
          have x1 : wr ((q - u) * r + (hh - (q - u) * r)) = hh := (wr_id (by omega) (by omega)).trans (by omega)
          have x2 : wr (w + wr ((q - u) * r + (hh - (q - u) * r))) = w + hh := by rw [x1]; exact wr_id (by omega) (by omega)
          have x3 : wr (q - u - (q - u)) = q - (u + (q - u)) := (wr_id (by omega) (by omega)).trans (by omega)
          (refine ⟨?_, ?_, ?_, by kernel_rfl⟩ <;> repeat' (first | exact trivial | exact rfl | assumption | apply And.intro))
          · exact up_ (by omega)
          · exact int_ x2
          · exact int_ x3
    · have hgt : ¬ (k : Int) ≤ (l.length : Int) := of_decide_eq_false h
      have s := stop (hend (by omega))
      ((conv => whnf) <;> repeat (refine obl_ ?_; conv => whnf))
      refine cond_ (fun _ => ?_) (fun h => by rw [show (q - u == 0) = false from h] at s; cases s.1)
      ((conv => whnf) <;> repeat (refine obl_ ?_; conv => whnf))
      refine cond_ (fun _ => ?_) (fun h => by rw [show (w == wr (0 - -(q * p))) = false from h] at s; cases s.2)
      ((conv => whnf) <;> repeat (refine obl_ ?_; conv => whnf))
      exact rfl
  · rintro e w1 ⟨x, v, A1, ρ1, a1, rfl, hv, rfl, hS1, _⟩
    exact ⟨by rw [show x = _ from hv], hS1.rel.bel⟩
end Go.Proofs.YtkimndddlnbeiaaDoor.Ff

/- What a row's data say of a list of numbers. No condition. -/
namespace Go.Proofs.YtkimndddlnbeiaaDoor.Ff
open Go.RowKit Go.ChangeShapes Go.WideShapes Go.ChangeMaps Go.Proofs.YtkimndddlnbeiaaDoorW.PrintWords Go.Proofs.YtkimndddlnbeiaaDoor.Ex
set_option linter.unusedVariables false
set_option linter.unusedSimpArgs false
theorem open_ints {H : Type} {enc : TypeId × Value → H} {W : World} {fuel : Nat} {cs : List Value} {x : DataW H × List MemPlace} (h : DataW.trod enc Tryd.prog W 0 (fun _ => true) true fuel 39 cs = some x) :
    ∃ (A : Option Addr) (cap : Nat) (l : List Int), cs = [.slice A l.length cap] ∧ Src W (.slice A l.length cap) .int l := by
  have z3 : Tryd.prog.cellsOf 3 = 1 := by kernel_rfl
  rcases DataW.trod_slice Tryd.underlying39 h with ⟨rfl, rfl⟩ | ⟨a, len, cap, elems, rest, n, _, rfl, rfl, hb, hl, hm, hlen, hel, hsp, hns⟩
  · exact ⟨none, 0, [], rfl, src_nil W .int⟩
  rw [z3] at hel
  have each : ∀ i : Fin len, ∃ m : Int, W.cells? 0 (a.add (i.1 * 1)) 1 = some [.int .i64 m] := by
    intro i
    have hi := i.2
    have h1 := hel i.1 hi
    have hi2 : i.1 < elems.length := by omega
    rw [List.getElem?_eq_getElem hi2, Option.bind_eq_some_iff] at h1
    obtain ⟨cs', hcs, hy⟩ := h1
    obtain ⟨m, rfl, _, _⟩ := DataW.trod_int Tryd.underlying3 hy
    exact ⟨m, hcs⟩
  obtain ⟨f, hf⟩ := Classical.axiomOfChoice each
  refine ⟨some a, cap, List.ofFn f, by simp, ?_⟩
  refine src_of (rk := .int) (by simpa using hl) (by simp only [List.length_ofFn]; simp only [maxLen] at hm; omega) (by decide) (fun i hi => ?_)
  rw [List.length_ofFn] at hi
  have e : (List.ofFn f).getD i (0 : Int) = f ⟨i, hi⟩ := by rw [List.getD_eq_getElem?_getD, List.getElem?_eq_getElem (by simpa using hi)]; simp
  exact (hf ⟨i, hi⟩).trans (congrArg (fun m => some [Value.int .i64 m]) e.symm)
end Go.Proofs.YtkimndddlnbeiaaDoor.Ff
