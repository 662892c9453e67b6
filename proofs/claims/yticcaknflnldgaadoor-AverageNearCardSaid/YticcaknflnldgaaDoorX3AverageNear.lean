/- The executor and what hangs on it, merged (AxN): a verified abstract run of code over memory, and the walks by it; each theorem names its conditions. -/
import Derived.Test.YticcaknflnldgaaDoorX2
/- The law AverageNear, walked. No condition but 64 bits. -/
namespace Go.Proofs.YticcaknflnldgaaDoor.Ff
open Go.RowKit Go.Proofs.YticcaknflnldgaaDoorW.PrintWords Go.Proofs.YticcaknflnldgaaDoor.Ex
set_option linter.unusedVariables false
set_option linter.unusedSimpArgs false
set_option maxRecDepth 100000
theorem aMv_i {n k q r : Int} (h1 : I64 n) (h2 : I64 k) (h3 : I64 q) (h4 : I64 r) : MvI (aMv n k q r) := ⟨h1, h2, h3, i64_0, h4⟩
theorem Kn.sma {s : St} {n : Nat} (h : Kn s n) (hn : n ≤ 1000) {a k q r : Int} (hm : MvI (aMv a k q r)) : SmA s (aMv a k q r) := h.sm1 hn hm (by show (1 : Nat) ≤ _; decide) (by show (0 : Nat) ≤ _; decide)
theorem cmp_le {a b c d : Int} (h : a * b ≤ c * d) : Md.mdCmp a b c d ≤ 0 := by
  unfold Md.mdCmp
  split
  · omega
  · split <;> omega
theorem cmp_ge {a b c d : Int} (h : c * d ≤ a * b) : 0 ≤ Md.mdCmp a b c d := by
  unfold Md.mdCmp
  split
  · omega
  · split <;> omega
theorem near_1 {v q s x : Int} (h : 2 * (x * s) ≤ 2 * (v * q) + s) : (2 * x - 1) * s ≤ 2 * v * q := by
  rw [Int.sub_mul, Int.one_mul, Int.mul_assoc, Int.mul_assoc]
  omega
theorem near_2 {v q s x : Int} (h : 2 * (v * q) ≤ 2 * (x * s) + s) : 2 * v * q ≤ (2 * x + 1) * s := by
  rw [Int.add_mul, Int.one_mul, Int.mul_assoc, Int.mul_assoc]
  omega
theorem AverageNear_calls {W : World} {V : Value} {l : List Mv} {q : Int} (hL : Laid W) (h1 : Src W V .mv l) (hl : MvsI l) (hq : I64 q) :
    Calls Tryd.prog 9 #[V, .int .i64 q] W fun e w1 => e = .returned (.bool true) ∧ Below W.heap.size W w1 := by
  obtain ⟨ρ, e1, hS⟩ := start1 h1
  have hg : ∀ i, ¬ (gW W).S i := fun i h => h
  refine (calls_awp (f := 9) (vs := [V, .int .i64 q]) (cx_ok (C := CL) (nt := 96) (cl_ok hL hg)) mixed_ok Tryd.func9 rfl rfl hS (avs := [.one (.row 0), .one (.v (.int .i64 q))])
    (fun ρ' h => ⟨row_rel h (by simp [findR]) e1 h1, rfl, trivial⟩) (le_of_ble (by kernel_rfl)) (K := fun x A => x = .one (.v (.bool true))) ?_).mono ?_
  · ((conv => whnf) <;> repeat (refine obl_ ?_; conv => whnf))
    refine cond_ (fun h => ?_) (fun h => ?_)
    · ((conv => whnf) <;> repeat (refine obl_ ?_; conv => whnf))
      exact rfl
    have hB : largeB l = false := h
    have hlen := large_f hB
    ((conv => whnf) <;> repeat (refine obl_ ?_; conv => whnf))
    refine cond_ (fun h => ?_) (fun h => ?_)
    · ((conv => whnf) <;> repeat (refine obl_ ?_; conv => whnf))
      exact rfl
    have g1 : ¬ q < 1 := of_decide_eq_false h
    ((conv => whnf) <;> repeat (refine obl_ ?_; conv => whnf))
    refine cond_ (fun h => ?_) (fun h => ?_)
    · ((conv => whnf) <;> repeat (refine obl_ ?_; conv => whnf))
      exact rfl
    have g2 : ¬ 1000000000 < q := of_decide_eq_false h
    have hs := s0_pl hl
    have hm : MvI (aMv 99 2 q 0) := aMv_i (by decide) (by decide) hq (by decide)
    have hsm : SmA (s0 l) (aMv 99 2 q 0) := hs.kn.sma (by omega) hm
    have I := hs.kn.inv
    have q0 := I.q0
    have q1 := I.q1
    have v0 := I.v0
    have v1 := I.v1
    have oq : I64 (s0 l).q := ⟨by omega, by omega⟩
    have ob1 : I64 (wr (wr (-2 * (stepA (s0 l) (aMv 99 2 q 0)).2.2.value) - 1)) ∧ I64 (s0 l).q ∧ I64 (wr (2 * (s0 l).v)) ∧ I64 q := ⟨i64_wrap _, oq, i64_wrap _, hq⟩
    have ob2 : I64 (wr (wr (-2 * (stepA (s0 l) (aMv 99 2 q 0)).2.2.value) + 1)) ∧ I64 (s0 l).q ∧ I64 (wr (2 * (s0 l).v)) ∧ I64 q := ⟨i64_wrap _, oq, i64_wrap _, hq⟩
    ((conv => whnf) <;> repeat (refine obl_ ?_; conv => whnf))
    refine cond_ (fun hu => ?_) (fun hu => ?_)
    · ((conv => whnf) <;> repeat (refine obl_ ?_; conv => whnf))
      exact rfl
    have hu' : usedB (s0 l).pa = false := hu
    ((conv => whnf) <;> repeat (refine obl_ ?_; conv => whnf))
    refine cond_ (fun hg => ?_) (fun hg => ?_)
    · have hg' : (s0 l).q < q := of_decide_eq_true hg
      have R : (stepA (s0 l) (aMv 99 2 q 0)).1 = 21 := by rw [issue_short hu' (by omega) (by omega) hg']
      ((conv => whnf) <;> repeat (refine obl_ ?_; conv => whnf))
      refine cond_ (fun _ => ?_) (fun h => (beq_ne h R).elim)
      ((conv => whnf) <;> repeat (refine obl_ ?_; conv => whnf))
      exact rfl
    have hg' : ¬ (s0 l).q < q := of_decide_eq_false hg
    have R := issue_run I hu' (by omega) (by omega : q ≤ (s0 l).q)
    have y := part_pos (v := (s0 l).v) (n := q) (o := (s0 l).q) v0 (by omega) (by omega) (by omega) (by omega)
    have yl : q = (s0 l).q → partS (s0 l).v q (s0 l).q = (s0 l).v := fun e => by
      conv => lhs; rw [e]
      exact part_all _ _
    have R1 : (stepA (s0 l) (aMv 99 2 q 0)).1 = 0 := by rw [R]
    have R2 : (stepA (s0 l) (aMv 99 2 q 0)).2.1.v = (s0 l).v - partS (s0 l).v q (s0 l).q := by rw [R]
    have R3 : (stepA (s0 l) (aMv 99 2 q 0)).2.2.value = -(partS (s0 l).v q (s0 l).q) := by rw [R]
    clear R
    generalize partS (s0 l).v q (s0 l).q = x at *
    have w0 : wr (-2 * (stepA (s0 l) (aMv 99 2 q 0)).2.2.value) = 2 * x := by
      rw [R3]
      exact (wr_id (by omega) (by omega)).trans (by omega)
    have w1 : wr (wr (-2 * (stepA (s0 l) (aMv 99 2 q 0)).2.2.value) - 1) = 2 * x - 1 := by
      rw [w0]
      exact wr_id (by omega) (by omega)
    have w2 : wr (wr (-2 * (stepA (s0 l) (aMv 99 2 q 0)).2.2.value) + 1) = 2 * x + 1 := by
      rw [w0]
      exact wr_id (by omega) (by omega)
    have w3 : wr (2 * (s0 l).v) = 2 * (s0 l).v := wr_id (by omega) (by omega)
    have N1 : Md.mdCmp (wr (wr (-2 * (stepA (s0 l) (aMv 99 2 q 0)).2.2.value) - 1)) (s0 l).q (wr (2 * (s0 l).v)) q ≤ 0 := by
      rw [w1, w3]
      exact cmp_le (near_1 y.2.2.1)
    have N2 : 0 ≤ Md.mdCmp (wr (wr (-2 * (stepA (s0 l) (aMv 99 2 q 0)).2.2.value) + 1)) (s0 l).q (wr (2 * (s0 l).v)) q := by
      rw [w2, w3]
      exact cmp_ge (near_2 y.2.2.2)
    clear w0 w1 w2 w3
    ((conv => whnf) <;> repeat (refine obl_ ?_; conv => whnf))
    refine cond_ (fun h => (bne_no h R1).elim) (fun _ => ?_)
    ((conv => whnf) <;> repeat (refine obl_ ?_; conv => whnf))
    refine cond_ (fun he => ?_) (fun he => ?_)
    · have he' : q = (s0 l).q := beq_iff_eq.1 he
      have hx := yl he'
      have F1 : (stepA (s0 l) (aMv 99 2 q 0)).2.1.v = 0 := by rw [R2, hx]; omega
      have F2 : (stepA (s0 l) (aMv 99 2 q 0)).2.2.value = wr (0 - (s0 l).v) := by
        rw [R3, hx]
        exact ((wr_id (by omega) (by omega)).trans (by omega)).symm
      ((conv => whnf) <;> repeat (refine obl_ ?_; conv => whnf))
      refine cond_ (fun h => (bne_no h F1).elim) (fun _ => ?_)
      ((conv => whnf) <;> repeat (refine obl_ ?_; conv => whnf))
      refine cond_ (fun h => (bne_no h F2).elim) (fun _ => ?_)
      ((conv => whnf) <;> repeat (refine obl_ ?_; conv => whnf))
      refine cond_ (fun _ => ?_) (fun h => absurd N1 (of_decide_eq_false h))
      ((conv => whnf) <;> repeat (refine obl_ ?_; conv => whnf))
      refine cond_ (fun _ => ?_) (fun h => absurd N2 (of_decide_eq_false h))
      ((conv => whnf) <;> repeat (refine obl_ ?_; conv => whnf))
      exact rfl
    · ((conv => whnf) <;> repeat (refine obl_ ?_; conv => whnf))
      refine cond_ (fun _ => ?_) (fun h => absurd N1 (of_decide_eq_false h))
      ((conv => whnf) <;> repeat (refine obl_ ?_; conv => whnf))
      refine cond_ (fun _ => ?_) (fun h => absurd N2 (of_decide_eq_false h))
      ((conv => whnf) <;> repeat (refine obl_ ?_; conv => whnf))
      exact rfl
  · rintro e w1 ⟨x, v, A1, ρ1, a1, rfl, hv, rfl, hS1, _⟩
    exact ⟨by rw [show x = _ from hv], hS1.rel.bel⟩
end Go.Proofs.YticcaknflnldgaaDoor.Ff
