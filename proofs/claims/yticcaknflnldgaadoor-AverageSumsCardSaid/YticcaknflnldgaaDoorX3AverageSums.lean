/- The executor and what hangs on it, merged (AxK): a verified abstract run of code over memory, and the walks by it; each theorem names its conditions. -/
import Derived.Test.YticcaknflnldgaaDoorX2
/- The law AverageSums, walked. No condition but 64 bits. -/
namespace Go.Proofs.YticcaknflnldgaaDoor.Ff
open Go.RowKit Go.Proofs.YticcaknflnldgaaDoorW.PrintWords Go.Proofs.YticcaknflnldgaaDoor.Ex
set_option linter.unusedVariables false
set_option linter.unusedSimpArgs false
set_option maxRecDepth 100000
theorem AverageSums_calls {W : World} {V : Value} {l : List Mv} (hL : Laid W) (h1 : Src W V .mv l) (hl : MvsI l) :
    Calls Tryd.prog 4 #[V] W fun e w1 => e = .returned (.bool true) ∧ Below W.heap.size W w1 := by
  obtain ⟨ρ, e1, hS⟩ := start1 h1
  have hg : ∀ i, ¬ (gW W).S i := fun i h => h
  refine (calls_awp (f := 4) (vs := [V]) (cx_ok (C := CL) (nt := 75) (cl_ok hL hg)) mixed_ok Tryd.func4 rfl rfl hS (avs := [.one (.row 0)])
    (fun ρ' h => ⟨row_rel h (by simp [findR]) e1 h1, trivial⟩) (le_of_ble (by kernel_rfl)) (K := fun x A => x = .one (.v (.bool true))) ?_).mono ?_
  · ((conv => whnf) <;> repeat (refine obl_ ?_; conv => whnf))
    refine cond_ (fun h => ?_) (fun h => ?_)
    · ((conv => whnf) <;> repeat (refine obl_ ?_; conv => whnf))
      exact rfl
    have hB : largeB l = false := h
    have hlen := large_f hB
    have hs := playA_pl hl
    have Q1 := hs.q
    have Q2 := hs.v
    have I := hs.kn.inv
    have q0 := I.q0
    have v0 := I.v0
    have z := I.z
    have lcs := hs.len
    ((conv => whnf) <;> repeat (refine obl_ ?_; conv => whnf))
    refine LoopP.introR (cx_ok (cl_ok hL hg)) mixed_ok (ι := Nat) (fun k => ⟨[(7, .one (.v (.int .i64 (k : Int)))), (6, .one (.v (.int .i64 (sumC Co.value ((playA l).2.take k))))), (5, .one (.v (.int .i64 (sumC Co.qty ((playA l).2.take k))))), (4, .one (.row 523)), (3, .one (.ptr 13 0)), (2, .one (.v (.bool false)))], [(13, 28, stockN (playA l).1 23)], [(23, some ⟨.pa, (playA l).1.pa, true⟩), (523, some ⟨.co, (playA l).2, true⟩)]⟩) (fun k => k ≤ (playA l).2.length) (fun k => (playA l).2.length - k) 0 (Nat.zero_le _) ⟨[], by (refine ⟨?_, ?_, ?_, by kernel_rfl⟩ <;> repeat' (first | exact trivial | exact rfl | assumption | apply And.intro))⟩ ?_
    intro k hk
    ((conv => whnf) <;> repeat (refine obl_ ?_; conv => whnf))
    refine cond_ (fun h => ?_) (fun h => ?_)
    · have hlt : k < (playA l).2.length := by have := of_decide_eq_true h; omega
      have i1 : 0 ≤ (k : Int) := by omega
      have i2 : (k : Int) < ((playA l).2.length : Int) := by omega
      have t1 := sumC_step (f := Co.qty) hlt
      have t2 := sumC_step (f := Co.value) hlt
      have b1 := sumC_le (f := Co.qty) (l := (playA l).2.take (k + 1)) (M := 1000000000) (fun c hc => hs.cq c (List.mem_of_mem_take hc))
      have b2 := sumC_le (f := Co.value) (l := (playA l).2.take (k + 1)) (M := 1000000000000000) (fun c hc => hs.cv c (List.mem_of_mem_take hc))
      have b3 : (((playA l).2.take (k + 1)).length : Int) ≤ 40 := by rw [List.length_take]; omega
      have w1 : wr (sumC Co.qty ((playA l).2.take k) + ((playA l).2.getD k (zC 0)).qty) = sumC Co.qty ((playA l).2.take (k + 1)) := by
        rw [← t1]
        exact wr_id (by omega) (by omega)
      have w2 : wr (sumC Co.value ((playA l).2.take k) + ((playA l).2.getD k (zC 0)).value) = sumC Co.value ((playA l).2.take (k + 1)) := by
        rw [← t2]
        exact wr_id (by omega) (by omega)
      ((conv => whnf) <;> repeat (refine obl_ ?_; conv => whnf))
      refine ⟨k + 1, hlt, by omega, [], ?_⟩
      (refine ⟨?_, ?_, ?_, by kernel_rfl⟩ <;> repeat' (first | exact trivial | exact rfl | assumption | apply And.intro))
      · exact up_ (by omega)
      · exact int_ w2
      · exact int_ w1
    · have hge := of_decide_eq_false h
      have e : (playA l).2.take k = (playA l).2 := List.take_of_length_le (by omega)
      rw [e, Q1, Q2]
      ((conv => whnf) <;> repeat (refine obl_ ?_; conv => whnf))
      refine cond_ (fun _ => ?_) (fun h => (beq_ne h rfl).elim)
      ((conv => whnf) <;> repeat (refine obl_ ?_; conv => whnf))
      refine cond_ (fun _ => ?_) (fun h => (beq_ne h rfl).elim)
      ((conv => whnf) <;> repeat (refine obl_ ?_; conv => whnf))
      refine cond_ (fun _ => ?_) (fun h => absurd q0 (of_decide_eq_false h))
      ((conv => whnf) <;> repeat (refine obl_ ?_; conv => whnf))
      refine cond_ (fun _ => ?_) (fun h => absurd v0 (of_decide_eq_false h))
      ((conv => whnf) <;> repeat (refine obl_ ?_; conv => whnf))
      refine cond_ (fun h => ?_) (fun h => ?_)
      · ((conv => whnf) <;> repeat (refine obl_ ?_; conv => whnf))
        exact rfl
      · have hn : ¬ 0 < (playA l).1.q := of_decide_eq_false h
        ((conv => whnf) <;> repeat (refine obl_ ?_; conv => whnf))
        refine cond_ (fun _ => ?_) (fun h => (beq_ne h (z (by omega))).elim)
        ((conv => whnf) <;> repeat (refine obl_ ?_; conv => whnf))
        exact rfl
  · rintro e w1 ⟨x, v, A1, ρ1, a1, rfl, hv, rfl, hS1, _⟩
    exact ⟨by rw [show x = _ from hv], hS1.rel.bel⟩
end Go.Proofs.YticcaknflnldgaaDoor.Ff
