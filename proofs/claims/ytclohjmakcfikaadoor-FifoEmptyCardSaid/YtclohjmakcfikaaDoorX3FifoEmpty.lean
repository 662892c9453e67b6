/- The executor and what hangs on it, merged (FfX): a verified abstract run of code over memory, and the walks by it; each theorem names its conditions. -/
import Derived.Test.YtclohjmakcfikaaDoorX2
/- The law FifoEmpty, walked. No condition but 64 bits. -/
namespace Go.Proofs.YtclohjmakcfikaaDoor.Ff
open Go.RowKit Go.Proofs.YtclohjmakcfikaaDoorW.PrintWords Go.Proofs.YtclohjmakcfikaaDoor.Ex
set_option linter.unusedVariables false
set_option linter.unusedSimpArgs false
set_option maxRecDepth 100000
theorem no_la {la : List La} (h : ∀ x ∈ la, Pos x) (e : sumQ la = 0) : la = [] := by
  cases la with
  | nil => rfl
  | cons x r =>
    have h1 := (h x List.mem_cons_self).q
    have h2 := sumF_nn (f := La.qty) (l := r) (fun y hy => by have := (h y (List.mem_cons_of_mem _ hy)).q; omega)
    simp only [sumQ, sumF] at e
    omega
theorem FifoEmpty_calls {W : World} {V : Value} {l : List Mv} {q : Int} (hL : Laid W) (h1 : Src W V .mv l) (hl : MvsI l) (hq : I64 q) :
    Calls Tryd.prog 6 #[V, .int .i64 q] W fun e w1 => e = .returned (.bool true) ∧ Below W.heap.size W w1 := by
  obtain ⟨ρ, e1, hS⟩ := start1 h1
  have hg : ∀ i, ¬ (gW W).S i := fun i h => h
  refine (calls_awp (f := 6) (vs := [V, .int .i64 q]) (cx_ok (C := CL) (nt := 91) (cl_ok hL hg)) mixed_ok Tryd.func6 rfl rfl hS (avs := [.one (.row 0), .one (.v (.int .i64 q))])
    (fun ρ' h => ⟨row_rel h (by simp [findR]) e1 h1, rfl, trivial⟩) (le_of_ble (by kernel_rfl)) (K := fun x A => x = .one (.v (.bool true))) ?_).mono ?_
  · have hI := playS_inv l
    have hs := playS_pl hl
    have n1 : (playS l).pa.length ≤ 1000000000 := by have := hs.pa; omega
    obtain ⟨u1, u2⟩ := unused_i hs (by omega)
    have hk := (unused_kn (playS l).pa).1
    have hm : MvI (xMv (unusedS (playS l).pa) 2 q 0 0) := xMv_i u1 (by simp [I64]) hq i64_0
    have hsm : SmI (playS l) (xMv (unusedS (playS l).pa) 2 q 0 0) := hs.sm (by omega) hm xMv_z.1 xMv_z.2
    have hs2 := hs.step stpF_f hm
    have n2 : (stpF (playS l) (xMv (unusedS (playS l).pa) 2 q 0 0)).2.1.pa.length ≤ 1000000000 := by have := hs2.pa; omega
    obtain ⟨v1, v2⟩ := unused_i hs2 (by omega)
    have hk2 := (unused_kn (stpF (playS l) (xMv (unusedS (playS l).pa) 2 q 0 0)).2.1.pa).1
    have hm2 : MvI (xMv (unusedS (stpF (playS l) (xMv (unusedS (playS l).pa) 2 q 0 0)).2.1.pa) 2 (wr ((playS l).q - q)) 0 0) := xMv_i v1 (by simp [I64]) (i64_wrap _) i64_0
    have hsm2 : SmI (stpF (playS l) (xMv (unusedS (playS l).pa) 2 q 0 0)).2.1 (xMv (unusedS (stpF (playS l) (xMv (unusedS (playS l).pa) 2 q 0 0)).2.1.pa) 2 (wr ((playS l).q - q)) 0 0) := hs2.sm (by omega) hm2 xMv_z.1 xMv_z.2
    ((conv => whnf) <;> repeat (refine obl_ ?_; conv => whnf))
    refine cond_ (fun h => ?_) (fun h => ?_)
    · ((conv => whnf) <;> repeat (refine obl_ ?_; conv => whnf))
      exact rfl
    have x1 : ¬ (playS l).q < 2 := of_decide_eq_false h
    ((conv => whnf) <;> repeat (refine obl_ ?_; conv => whnf))
    refine cond_ (fun h => ?_) (fun h => ?_)
    · ((conv => whnf) <;> repeat (refine obl_ ?_; conv => whnf))
      exact rfl
    have x2 : ¬ q < 1 := of_decide_eq_false h
    ((conv => whnf) <;> repeat (refine obl_ ?_; conv => whnf))
    refine cond_ (fun h => ?_) (fun h => ?_)
    · ((conv => whnf) <;> repeat (refine obl_ ?_; conv => whnf))
      exact rfl
    have x3 : ¬ (playS l).q ≤ q := of_decide_eq_false h
    have R := issue_run hI hk (by omega) (by omega : q ≤ (playS l).q)
    have r1 : (stpF (playS l) (xMv (unusedS (playS l).pa) 2 q 0 0)).1 = 0 := by rw [R]
    have F := stF hI r1
    have iq1 := hI.q1
    have iv1 := hI.v1
    have iv0 := hI.v0
    have w1 : wr ((playS l).q - q) = (playS l).q - q := wr_id (by omega) (by omega)
    have r2 : (stpF (playS l) (xMv (unusedS (playS l).pa) 2 q 0 0)).2.1.q = (playS l).q - q := by rw [R]
    have R2 := issue_run (q := wr ((playS l).q - q)) F.inv hk2 (by omega) (by omega)
    have r3 : (stpF (stpF (playS l) (xMv (unusedS (playS l).pa) 2 q 0 0)).2.1 (xMv (unusedS (stpF (playS l) (xMv (unusedS (playS l).pa) 2 q 0 0)).2.1.pa) 2 (wr ((playS l).q - q)) 0 0)).1 = 0 := by rw [R2]
    have G := stF F.inv r3
    have r4 : (stpF (stpF (playS l) (xMv (unusedS (playS l).pa) 2 q 0 0)).2.1 (xMv (unusedS (stpF (playS l) (xMv (unusedS (playS l).pa) 2 q 0 0)).2.1.pa) 2 (wr ((playS l).q - q)) 0 0)).2.1.q = 0 := by rw [R2]; show (stpF (playS l) (xMv (unusedS (playS l).pa) 2 q 0 0)).2.1.q - wr ((playS l).q - q) = 0; omega
    have gq : (stpF (stpF (playS l) (xMv (unusedS (playS l).pa) 2 q 0 0)).2.1 (xMv (unusedS (stpF (playS l) (xMv (unusedS (playS l).pa) 2 q 0 0)).2.1.pa) 2 (wr ((playS l).q - q)) 0 0)).2.1.q = sumQ (stpF (stpF (playS l) (xMv (unusedS (playS l).pa) 2 q 0 0)).2.1 (xMv (unusedS (stpF (playS l) (xMv (unusedS (playS l).pa) 2 q 0 0)).2.1.pa) 2 (wr ((playS l).q - q)) 0 0)).2.1.la := G.inv.q
    have gv : (stpF (stpF (playS l) (xMv (unusedS (playS l).pa) 2 q 0 0)).2.1 (xMv (unusedS (stpF (playS l) (xMv (unusedS (playS l).pa) 2 q 0 0)).2.1.pa) 2 (wr ((playS l).q - q)) 0 0)).2.1.v = sumV (stpF (stpF (playS l) (xMv (unusedS (playS l).pa) 2 q 0 0)).2.1 (xMv (unusedS (stpF (playS l) (xMv (unusedS (playS l).pa) 2 q 0 0)).2.1.pa) 2 (wr ((playS l).q - q)) 0 0)).2.1.la := G.inv.v
    have r5 : (stpF (stpF (playS l) (xMv (unusedS (playS l).pa) 2 q 0 0)).2.1 (xMv (unusedS (stpF (playS l) (xMv (unusedS (playS l).pa) 2 q 0 0)).2.1.pa) 2 (wr ((playS l).q - q)) 0 0)).2.1.la = [] := no_la G.inv.la (by omega)
    have r6 : (stpF (stpF (playS l) (xMv (unusedS (playS l).pa) 2 q 0 0)).2.1 (xMv (unusedS (stpF (playS l) (xMv (unusedS (playS l).pa) 2 q 0 0)).2.1.pa) 2 (wr ((playS l).q - q)) 0 0)).2.1.v = 0 := by rw [gv, r5]; rfl
    have r7 : ((stpF (stpF (playS l) (xMv (unusedS (playS l).pa) 2 q 0 0)).2.1 (xMv (unusedS (stpF (playS l) (xMv (unusedS (playS l).pa) 2 q 0 0)).2.1.pa) 2 (wr ((playS l).q - q)) 0 0)).2.1.la.length : Int) = 0 := by rw [r5]; rfl
    have f1 := F.v
    have f2 := F.v1
    have g1 := G.v
    have g2 := G.v1
    have r8 : wr ((stpF (playS l) (xMv (unusedS (playS l).pa) 2 q 0 0)).2.2.value + (stpF (stpF (playS l) (xMv (unusedS (playS l).pa) 2 q 0 0)).2.1 (xMv (unusedS (stpF (playS l) (xMv (unusedS (playS l).pa) 2 q 0 0)).2.1.pa) 2 (wr ((playS l).q - q)) 0 0)).2.2.value) = wr (0 - (playS l).v) := by congr 1; omega
    ((conv => whnf) <;> repeat (refine obl_ ?_; conv => whnf))
    refine cond_ (fun _ => ?_) (fun h => (beq_ne h r1).elim)
    ((conv => whnf) <;> repeat (refine obl_ ?_; conv => whnf))
    refine cond_ (fun _ => ?_) (fun h => (beq_ne h r3).elim)
    ((conv => whnf) <;> repeat (refine obl_ ?_; conv => whnf))
    refine cond_ (fun _ => ?_) (fun h => (beq_ne h r4).elim)
    ((conv => whnf) <;> repeat (refine obl_ ?_; conv => whnf))
    refine cond_ (fun _ => ?_) (fun h => (beq_ne h r6).elim)
    ((conv => whnf) <;> repeat (refine obl_ ?_; conv => whnf))
    refine cond_ (fun _ => ?_) (fun h => (beq_ne h r7).elim)
    ((conv => whnf) <;> repeat (refine obl_ ?_; conv => whnf))
    refine cond_ (fun _ => ?_) (fun h => (beq_ne h r8).elim)
    ((conv => whnf) <;> repeat (refine obl_ ?_; conv => whnf))
    exact rfl
  · rintro e w1 ⟨x, v, A1, ρ1, a1, rfl, hv, rfl, hS1, _⟩
    exact ⟨by rw [show x = _ from hv], hS1.rel.bel⟩
end Go.Proofs.YtclohjmakcfikaaDoor.Ff
