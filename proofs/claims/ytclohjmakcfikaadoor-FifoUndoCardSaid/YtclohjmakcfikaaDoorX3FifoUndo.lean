/- The executor and what hangs on it, merged (FfX, FfY): a verified abstract run of code over memory, and the walks by it; each theorem names its conditions. -/
import Derived.Test.YtclohjmakcfikaaDoorX2
/- The law FifoEmpty, walked. No condition but 64 bits. -/
namespace Go.Proofs.YtclohjmakcfikaaDoor.Ff
open Go.RowKit Go.Proofs.YtclohjmakcfikaaDoorW.PrintWords Go.Proofs.YtclohjmakcfikaaDoor.Ex
set_option linter.unusedVariables false
set_option linter.unusedSimpArgs false
set_option maxRecDepth 100000
theorem no_la {la : List La} (h : ∀ x ∈ la, Pos x) (e : sumQ la = 0) : la = [] := by
  cases la with
  | nil => rfl
  | cons x r =>
    have h1 := (h x List.mem_cons_self).q
    have h2 := sumF_nn (f := La.qty) (l := r) (fun y hy => by have := (h y (List.mem_cons_of_mem _ hy)).q; omega)
    simp only [sumQ, sumF] at e
    omega
theorem FifoEmpty_calls {W : World} {V : Value} {l : List Mv} {q : Int} (hL : Laid W) (h1 : Src W V .mv l) (hl : MvsI l) (hq : I64 q) :
    Calls Tryd.prog 6 #[V, .int .i64 q] W fun e w1 => e = .returned (.bool true) ∧ Below W.heap.size W w1 := by
  obtain ⟨ρ, e1, hS⟩ := start1 h1
  have hg : ∀ i, ¬ (gW W).S i := fun i h => h
  refine (calls_awp (f := 6) (vs := [V, .int .i64 q]) (cx_ok (C := CL) (nt := 91) (cl_ok hL hg)) mixed_ok Tryd.func6 rfl rfl hS (avs := [.one (.row 0), .one (.v (.int .i64 q))])
    (fun ρ' h => ⟨row_rel h (by simp [findR]) e1 h1, rfl, trivial⟩) (le_of_ble (by kernel_rfl)) (K := fun x A => x = .one (.v (.bool true))) ?_).mono ?_
  · have hI := playS_inv l
    have hs := playS_pl hl
    have n1 : (playS l).pa.length ≤ 1000000000 := by have := hs.pa; omega
    obtain ⟨u1, u2⟩ := unused_i hs (by omega)
    have hk := (unused_kn (playS l).pa).1
    have hm : MvI (xMv (unusedS (playS l).pa) 2 q 0 0) := xMv_i u1 (by simp [I64]) hq i64_0
    have hsm : SmI (playS l) (xMv (unusedS (playS l).pa) 2 q 0 0) := hs.sm (by omega) hm xMv_z.1 xMv_z.2
    have hs2 := hs.step stpF_f hm
    have n2 : (stpF (playS l) (xMv (unusedS (playS l).pa) 2 q 0 0)).2.1.pa.length ≤ 1000000000 := by have := hs2.pa; omega
    obtain ⟨v1, v2⟩ := unused_i hs2 (by omega)
    have hk2 := (unused_kn (stpF (playS l) (xMv (unusedS (playS l).pa) 2 q 0 0)).2.1.pa).1
    have hm2 : MvI (xMv (unusedS (stpF (playS l) (xMv (unusedS (playS l).pa) 2 q 0 0)).2.1.pa) 2 (wr ((playS l).q - q)) 0 0) := xMv_i v1 (by simp [I64]) (i64_wrap _) i64_0
    have hsm2 : SmI (stpF (playS l) (xMv (unusedS (playS l).pa) 2 q 0 0)).2.1 (xMv (unusedS (stpF (playS l) (xMv (unusedS (playS l).pa) 2 q 0 0)).2.1.pa) 2 (wr ((playS l).q - q)) 0 0) := hs2.sm (by omega) hm2 xMv_z.1 xMv_z.2
    ((conv => whnf) <;> repeat (refine obl_ ?_; conv => whnf))
    refine cond_ (fun h => ?_) (fun h => ?_)
    · ((conv => whnf) <;> repeat (refine obl_ ?_; conv => whnf))
      exact rfl
    have x1 : ¬ (playS l).q < 2 := of_decide_eq_false h
    ((conv => whnf) <;> repeat (refine obl_ ?_; conv => whnf))
    refine cond_ (fun h => ?_) (fun h => ?_)
    · ((conv => whnf) <;> repeat (refine obl_ ?_; conv => whnf))
      exact rfl
    have x2 : ¬ q < 1 := of_decide_eq_false h
    ((conv => whnf) <;> repeat (refine obl_ ?_; conv => whnf))
    refine cond_ (fun h => ?_) (fun h => ?_)
    · ((conv => whnf) <;> repeat (refine obl_ ?_; conv => whnf))
      exact rfl
    have x3 : ¬ (playS l).q ≤ q := of_decide_eq_false h
    have R := issue_run hI hk (by omega) (by omega : q ≤ (playS l).q)
    have r1 : (stpF (playS l) (xMv (unusedS (playS l).pa) 2 q 0 0)).1 = 0 := by rw [R]
    have F := stF hI r1
    have iq1 := hI.q1
    have iv1 := hI.v1
    have iv0 := hI.v0
    have w1 : wr ((playS l).q - q) = (playS l).q - q := wr_id (by omega) (by omega)
    have r2 : (stpF (playS l) (xMv (unusedS (playS l).pa) 2 q 0 0)).2.1.q = (playS l).q - q := by rw [R]
    have R2 := issue_run (q := wr ((playS l).q - q)) F.inv hk2 (by omega) (by omega)
    have r3 : (stpF (stpF (playS l) (xMv (unusedS (playS l).pa) 2 q 0 0)).2.1 (xMv (unusedS (stpF (playS l) (xMv (unusedS (playS l).pa) 2 q 0 0)).2.1.pa) 2 (wr ((playS l).q - q)) 0 0)).1 = 0 := by rw [R2]
    have G := stF F.inv r3
    have r4 : (stpF (stpF (playS l) (xMv (unusedS (playS l).pa) 2 q 0 0)).2.1 (xMv (unusedS (stpF (playS l) (xMv (unusedS (playS l).pa) 2 q 0 0)).2.1.pa) 2 (wr ((playS l).q - q)) 0 0)).2.1.q = 0 := by rw [R2]; show (stpF (playS l) (xMv (unusedS (playS l).pa) 2 q 0 0)).2.1.q - wr ((playS l).q - q) = 0; omega
    have gq : (stpF (stpF (playS l) (xMv (unusedS (playS l).pa) 2 q 0 0)).2.1 (xMv (unusedS (stpF (playS l) (xMv (unusedS (playS l).pa) 2 q 0 0)).2.1.pa) 2 (wr ((playS l).q - q)) 0 0)).2.1.q = sumQ (stpF (stpF (playS l) (xMv (unusedS (playS l).pa) 2 q 0 0)).2.1 (xMv (unusedS (stpF (playS l) (xMv (unusedS (playS l).pa) 2 q 0 0)).2.1.pa) 2 (wr ((playS l).q - q)) 0 0)).2.1.la := G.inv.q
    have gv : (stpF (stpF (playS l) (xMv (unusedS (playS l).pa) 2 q 0 0)).2.1 (xMv (unusedS (stpF (playS l) (xMv (unusedS (playS l).pa) 2 q 0 0)).2.1.pa) 2 (wr ((playS l).q - q)) 0 0)).2.1.v = sumV (stpF (stpF (playS l) (xMv (unusedS (playS l).pa) 2 q 0 0)).2.1 (xMv (unusedS (stpF (playS l) (xMv (unusedS (playS l).pa) 2 q 0 0)).2.1.pa) 2 (wr ((playS l).q - q)) 0 0)).2.1.la := G.inv.v
    have r5 : (stpF (stpF (playS l) (xMv (unusedS (playS l).pa) 2 q 0 0)).2.1 (xMv (unusedS (stpF (playS l) (xMv (unusedS (playS l).pa) 2 q 0 0)).2.1.pa) 2 (wr ((playS l).q - q)) 0 0)).2.1.la = [] := no_la G.inv.la (by omega)
    have r6 : (stpF (stpF (playS l) (xMv (unusedS (playS l).pa) 2 q 0 0)).2.1 (xMv (unusedS (stpF (playS l) (xMv (unusedS (playS l).pa) 2 q 0 0)).2.1.pa) 2 (wr ((playS l).q - q)) 0 0)).2.1.v = 0 := by rw [gv, r5]; rfl
    have r7 : ((stpF (stpF (playS l) (xMv (unusedS (playS l).pa) 2 q 0 0)).2.1 (xMv (unusedS (stpF (playS l) (xMv (unusedS (playS l).pa) 2 q 0 0)).2.1.pa) 2 (wr ((playS l).q - q)) 0 0)).2.1.la.length : Int) = 0 := by rw [r5]; rfl
    have f1 := F.v
    have f2 := F.v1
    have g1 := G.v
    have g2 := G.v1
    have r8 : wr ((stpF (playS l) (xMv (unusedS (playS l).pa) 2 q 0 0)).2.2.value + (stpF (stpF (playS l) (xMv (unusedS (playS l).pa) 2 q 0 0)).2.1 (xMv (unusedS (stpF (playS l) (xMv (unusedS (playS l).pa) 2 q 0 0)).2.1.pa) 2 (wr ((playS l).q - q)) 0 0)).2.2.value) = wr (0 - (playS l).v) := by congr 1; omega
    ((conv => whnf) <;> repeat (refine obl_ ?_; conv => whnf))
    refine cond_ (fun _ => ?_) (fun h => (beq_ne h r1).elim)
    ((conv => whnf) <;> repeat (refine obl_ ?_; conv => whnf))
    refine cond_ (fun _ => ?_) (fun h => (beq_ne h r3).elim)
    ((conv => whnf) <;> repeat (refine obl_ ?_; conv => whnf))
    refine cond_ (fun _ => ?_) (fun h => (beq_ne h r4).elim)
    ((conv => whnf) <;> repeat (refine obl_ ?_; conv => whnf))
    refine cond_ (fun _ => ?_) (fun h => (beq_ne h r6).elim)
    ((conv => whnf) <;> repeat (refine obl_ ?_; conv => whnf))
    refine cond_ (fun _ => ?_) (fun h => (beq_ne h r7).elim)
    ((conv => whnf) <;> repeat (refine obl_ ?_; conv => whnf))
    refine cond_ (fun _ => ?_) (fun h => (beq_ne h r8).elim)
    ((conv => whnf) <;> repeat (refine obl_ ?_; conv => whnf))
    exact rfl
  · rintro e w1 ⟨x, v, A1, ρ1, a1, rfl, hv, rfl, hS1, _⟩
    exact ⟨by rw [show x = _ from hv], hS1.rel.bel⟩
end Go.Proofs.YtclohjmakcfikaaDoor.Ff

/- The law FifoUndo, walked. No condition but 64 bits. -/
namespace Go.Proofs.YtclohjmakcfikaaDoor.Ff
open Go.RowKit Go.Proofs.YtclohjmakcfikaaDoorW.PrintWords Go.Proofs.YtclohjmakcfikaaDoor.Ex
set_option linter.unusedVariables false
set_option linter.unusedSimpArgs false
set_option maxRecDepth 100000
theorem undo_ok {s : St} {n m q part b : Int} {t u v : Int × St × Co} (hI : Inv s) (q0 : 2 ≤ q) (q1 : q ≤ s.q) (p0 : 1 ≤ part) (p1 : part < q) (hb : b = q - part) (hn : knR s.pa n = false) (n0 : 1 ≤ n) (ht : stpF s (xMv n 2 q 0 0) = t) (hm : knR t.2.1.pa m = false) (hu : stpF t.2.1 (xMv m 3 part 0 n) = u) (hv : stpF u.2.1 (xMv m 3 b 0 n) = v) :
    t.1 = 0 ∧ u.1 = 0 ∧ v.1 = 0 ∧ v.2.1.q = s.q ∧ v.2.1.v = s.v ∧ (stpF v.2.1 (xMv m 3 1 0 n)).1 = 21 := by
  have iq1 := hI.q1
  have iv1 := hI.v1
  have R := issue_run hI hn (by omega) q1
  have t0 : t.1 = 0 := by rw [← ht, R]
  have F := stF hI (by rw [ht]; exact t0)
  rw [ht] at R
  have it : Inv t.2.1 := by rw [← ht]; exact F.inv
  have tv0 := it.v0
  generalize issueS s.la q 0 = r at R
  have t1 : t.2.1.q = s.q - q := by rw [R]
  have t2 : t.2.1.v = s.v - r.2 := by rw [R]
  have t3 : t.2.1.pa = s.pa ++ [⟨n, 2, ⟨#[]⟩, q, r.2, 0, 0⟩] := by rw [R]
  have hp := it.pa ⟨n, 2, ⟨#[]⟩, q, r.2, 0, 0⟩ (by rw [t3]; simp)
  have hp1 := hp.w1
  have hp2 := hp.v1
  simp only at hp1 hp2
  have y := part_le (v := r.2 - 0) (n := part) (o := q - 0) (by omega) (by omega) (by omega) (by omega) (by omega)
  have R2 := back_run it t3 hn hm n0 p0 (by omega) (by omega) (by omega)
  generalize hy : partS (r.2 - 0) part (q - 0) = z at *
  have u0 : u.1 = 0 := by rw [← hu, R2]
  have iu : Inv u.2.1 := by rw [← hu]; exact (stF it (by rw [hu]; exact u0)).inv
  rw [hu] at R2
  have u1 : u.2.1.q = s.q - q + part := by rw [R2]; show t.2.1.q + part = _; omega
  have u2 : u.2.1.v = s.v - r.2 + z := by rw [R2]; show t.2.1.v + z = _; omega
  have u3 : u.2.1.pa = s.pa ++ [⟨n, 2, ⟨#[]⟩, q, r.2, 0 + part, 0 + z⟩] := by rw [R2]
  have hmP : knR (s.pa ++ [⟨n, 2, ⟨#[]⟩, q, r.2, 0, 0⟩]) m = false := by rw [← t3]; exact hm
  have hm2 : knR u.2.1.pa m = false := by rw [u3]; exact (kn_last (P := s.pa) (p := ⟨n, 2, ⟨#[]⟩, q, r.2, 0, 0⟩) (p' := ⟨n, 2, ⟨#[]⟩, q, r.2, 0 + part, 0 + z⟩) rfl rfl m).trans hmP
  have e : partS (r.2 - (0 + z)) b (q - (0 + part)) = r.2 - z := by rw [show q - (0 + part) = b from by omega, part_all]; omega
  have R3 := back_run (b := b) iu u3 hn hm2 n0 (by omega) (by omega) (by omega) (by rw [e]; omega)
  rw [e] at R3
  have v0 : v.1 = 0 := by rw [← hv, R3]
  have iv : Inv v.2.1 := by rw [← hv]; exact (stF iu (by rw [hv]; exact v0)).inv
  rw [hv] at R3
  have w1 : v.2.1.q = s.q := by rw [R3]; show u.2.1.q + b = _; omega
  have w2 : v.2.1.v = s.v := by rw [R3]; show u.2.1.v + (r.2 - z) = _; omega
  have w3 : v.2.1.pa = s.pa ++ [⟨n, 2, ⟨#[]⟩, q, r.2, q, 0 + z + (r.2 - z)⟩] := by rw [R3, show 0 + part + b = q from by omega]
  have hm3 : knR v.2.1.pa m = false := by rw [w3]; exact (kn_last (P := s.pa) (p := ⟨n, 2, ⟨#[]⟩, q, r.2, 0, 0⟩) (p' := ⟨n, 2, ⟨#[]⟩, q, r.2, q, 0 + z + (r.2 - z)⟩) rfl rfl m).trans hmP
  exact ⟨t0, u0, v0, w1, w2, by rw [back_full iv w3 hn hm3 n0 (by decide) (by decide)]⟩
theorem FifoUndo_calls {W : World} {V : Value} {l : List Mv} {q part : Int} (hL : Laid W) (h1 : Src W V .mv l) (hl : MvsI l) (hq : I64 q) (hpart : I64 part) :
    Calls Tryd.prog 7 #[V, .int .i64 q, .int .i64 part] W fun e w1 => e = .returned (.bool true) ∧ Below W.heap.size W w1 := by
  obtain ⟨ρ, e1, hS⟩ := start1 h1
  have hg : ∀ i, ¬ (gW W).S i := fun i h => h
  refine (calls_awp (f := 7) (vs := [V, .int .i64 q, .int .i64 part]) (cx_ok (C := CL) (nt := 117) (cl_ok hL hg)) mixed_ok Tryd.func7 rfl rfl hS (avs := [.one (.row 0), .one (.v (.int .i64 q)), .one (.v (.int .i64 part))])
    (fun ρ' h => ⟨row_rel h (by simp [findR]) e1 h1, rfl, rfl, trivial⟩) (le_of_ble (by kernel_rfl)) (K := fun x A => x = .one (.v (.bool true))) ?_).mono ?_
  · have hI := playS_inv l
    have hs := playS_pl hl
    have n1 : (playS l).pa.length ≤ 1000000000 := by have := hs.pa; omega
    obtain ⟨u1, u2⟩ := unused_i hs (by omega)
    have hk := (unused_kn (playS l).pa).1
    have hm : MvI (xMv (unusedS (playS l).pa) 2 q 0 0) := xMv_i u1 (by simp [I64]) hq i64_0
    have hsm : SmI (playS l) (xMv (unusedS (playS l).pa) 2 q 0 0) := hs.sm (by omega) hm xMv_z.1 xMv_z.2
    have hs2 := hs.step stpF_f hm
    have n2 : (stpF (playS l) (xMv (unusedS (playS l).pa) 2 q 0 0)).2.1.pa.length ≤ 1000000000 := by have := hs2.pa; omega
    obtain ⟨v1, v2⟩ := unused_i hs2 (by omega)
    have hk2 := (unused_kn (stpF (playS l) (xMv (unusedS (playS l).pa) 2 q 0 0)).2.1.pa).1
    have hm2 : MvI (xMv (unusedS (stpF (playS l) (xMv (unusedS (playS l).pa) 2 q 0 0)).2.1.pa) 3 part 0 (unusedS (playS l).pa)) := xMv_i v1 (by simp [I64]) hpart u1
    have hsm2 : SmI (stpF (playS l) (xMv (unusedS (playS l).pa) 2 q 0 0)).2.1 (xMv (unusedS (stpF (playS l) (xMv (unusedS (playS l).pa) 2 q 0 0)).2.1.pa) 3 part 0 (unusedS (playS l).pa)) := hs2.sm (by omega) hm2 xMv_z.1 xMv_z.2
    have hs3 := hs2.step stpF_f hm2
    have hm3 : MvI (xMv (unusedS (stpF (playS l) (xMv (unusedS (playS l).pa) 2 q 0 0)).2.1.pa) 3 (wr (q - part)) 0 (unusedS (playS l).pa)) := xMv_i v1 (by simp [I64]) (i64_wrap _) u1
    have hsm3 : SmI (stpF (stpF (playS l) (xMv (unusedS (playS l).pa) 2 q 0 0)).2.1 (xMv (unusedS (stpF (playS l) (xMv (unusedS (playS l).pa) 2 q 0 0)).2.1.pa) 3 part 0 (unusedS (playS l).pa))).2.1 (xMv (unusedS (stpF (playS l) (xMv (unusedS (playS l).pa) 2 q 0 0)).2.1.pa) 3 (wr (q - part)) 0 (unusedS (playS l).pa)) := hs3.sm (by omega) hm3 xMv_z.1 xMv_z.2
    have hs4 := hs3.step stpF_f hm3
    have hm4 : MvI (xMv (unusedS (stpF (playS l) (xMv (unusedS (playS l).pa) 2 q 0 0)).2.1.pa) 3 1 0 (unusedS (playS l).pa)) := xMv_i v1 (by simp [I64]) (by simp [I64]) u1
    have hsm4 : SmI (stpF (stpF (stpF (playS l) (xMv (unusedS (playS l).pa) 2 q 0 0)).2.1 (xMv (unusedS (stpF (playS l) (xMv (unusedS (playS l).pa) 2 q 0 0)).2.1.pa) 3 part 0 (unusedS (playS l).pa))).2.1 (xMv (unusedS (stpF (playS l) (xMv (unusedS (playS l).pa) 2 q 0 0)).2.1.pa) 3 (wr (q - part)) 0 (unusedS (playS l).pa))).2.1 (xMv (unusedS (stpF (playS l) (xMv (unusedS (playS l).pa) 2 q 0 0)).2.1.pa) 3 1 0 (unusedS (playS l).pa)) := hs4.sm (by omega) hm4 xMv_z.1 xMv_z.2
    have iq1 := hI.q1
    ((conv => whnf) <;> repeat (refine obl_ ?_; conv => whnf))
    refine cond_ (fun h => ?_) (fun h => ?_)
    · ((conv => whnf) <;> repeat (refine obl_ ?_; conv => whnf))
      exact rfl
    have x1 : ¬ q < 2 := of_decide_eq_false h
    ((conv => whnf) <;> repeat (refine obl_ ?_; conv => whnf))
    refine cond_ (fun h => ?_) (fun h => ?_)
    · ((conv => whnf) <;> repeat (refine obl_ ?_; conv => whnf))
      exact rfl
    have x2 : ¬ (playS l).q < q := of_decide_eq_false h
    ((conv => whnf) <;> repeat (refine obl_ ?_; conv => whnf))
    refine cond_ (fun h => ?_) (fun h => ?_)
    · ((conv => whnf) <;> repeat (refine obl_ ?_; conv => whnf))
      exact rfl
    have x3 : ¬ part < 1 := of_decide_eq_false h
    ((conv => whnf) <;> repeat (refine obl_ ?_; conv => whnf))
    refine cond_ (fun h => ?_) (fun h => ?_)
    · ((conv => whnf) <;> repeat (refine obl_ ?_; conv => whnf))
      exact rfl
    have x4 : ¬ q ≤ part := of_decide_eq_false h
    obtain ⟨r1, r2, r3, r4, r5, r6⟩ := undo_ok (b := wr (q - part)) hI (by omega) (by omega) (by omega) (by omega) (wr_id (by omega) (by omega)) hk u2 rfl hk2 rfl rfl
    ((conv => whnf) <;> repeat (refine obl_ ?_; conv => whnf))
    refine cond_ (fun _ => ?_) (fun h => (beq_ne h r1).elim)
    ((conv => whnf) <;> repeat (refine obl_ ?_; conv => whnf))
    refine cond_ (fun _ => ?_) (fun h => (beq_ne h r2).elim)
    ((conv => whnf) <;> repeat (refine obl_ ?_; conv => whnf))
    refine cond_ (fun _ => ?_) (fun h => (beq_ne h r3).elim)
    ((conv => whnf) <;> repeat (refine obl_ ?_; conv => whnf))
    refine cond_ (fun _ => ?_) (fun h => (beq_ne h r4).elim)
    ((conv => whnf) <;> repeat (refine obl_ ?_; conv => whnf))
    refine cond_ (fun _ => ?_) (fun h => (beq_ne h r5).elim)
    ((conv => whnf) <;> repeat (refine obl_ ?_; conv => whnf))
    refine cond_ (fun _ => ?_) (fun h => (beq_ne h r6).elim)
    ((conv => whnf) <;> repeat (refine obl_ ?_; conv => whnf))
    exact rfl
  · rintro e w1 ⟨x, v, A1, ρ1, a1, rfl, hv, rfl, hS1, _⟩
    exact ⟨by rw [show x = _ from hv], hS1.rel.bel⟩
end Go.Proofs.YtclohjmakcfikaaDoor.Ff
