/- The executor and what hangs on it, merged (LuK): a verified abstract run of code over memory, and the walks by it; each theorem names its conditions. -/
import Derived.Test.YtcjdkaigimcofaaDoorX2
/- The law LotsSums, walked. No condition but 64 bits. -/
namespace Go.Proofs.YtcjdkaigimcofaaDoor.Ff
open Go.RowKit Go.Proofs.YtcjdkaigimcofaaDoorW.PrintWords Go.Proofs.YtcjdkaigimcofaaDoor.Ex
set_option linter.unusedVariables false
set_option linter.unusedSimpArgs false
set_option maxRecDepth 100000
theorem srt_get {la : List La} (h : Srt la) {k : Nat} (h0 : 0 < k) (hk : k < la.length) : Lt (la.getD (k - 1) zLa).lot (la.getD k zLa).lot := by
  have := List.pairwise_iff_getElem.1 h (k - 1) k (by omega) hk (by omega)
  rw [List.getD_eq_getElem?_getD, List.getElem?_eq_getElem (by omega), List.getD_eq_getElem?_getD, List.getElem?_eq_getElem hk]
  exact this
theorem LotsSums_calls {W : World} {V : Value} {l : List Mv} (hL : Laid W) (h1 : Src W V .mv l) (hl : MvsI l) :
    Calls Tryd.prog 4 #[V] W fun e w1 => e = .returned (.bool true) ∧ Below W.heap.size W w1 := by
  obtain ⟨ρ, e1, hS⟩ := start1 h1
  have hg : ∀ i, ¬ (gW W).S i := fun i h => h
  refine (calls_awp (f := 4) (vs := [V]) (cx_ok (C := CL) (nt := 162) (cl_ok hL hg)) mixed_ok Tryd.func4 rfl rfl hS (avs := [.one (.row 0)])
    (fun ρ' h => ⟨row_rel h (by simp [findR]) e1 h1, trivial⟩) (le_of_ble (by kernel_rfl)) (K := fun x A => x = .one (.v (.bool true))) ?_).mono ?_
  · ((conv => whnf) <;> repeat (refine obl_ ?_; conv => whnf))
    refine LoopP.introR (cx_ok (cl_ok hL hg)) mixed_ok (ι := Nat × St) (fun k => ⟨[(4, .one (.v (.int .i64 (k.1 : Int)))), (3, .one (.ptr 13 0)), (2, .one (.v (.bool false))), (0, .one (.row 0))], [(13, 26, stockL k.2 5000 5001)], [(0, some ⟨.mv, l, false⟩), (5000, some ⟨.la, k.2.la, true⟩), (5001, some ⟨.pa, k.2.pa, true⟩)]⟩) (fun k => k.1 ≤ 60 ∧ k.1 ≤ l.length ∧ PlI k.2 k.1 ∧ Inv k.2) (fun k => 60 - k.1) (0, zSt) ⟨Nat.zero_le _, Nat.zero_le _, zSt_pl, zSt_inv⟩ ⟨[(5000, none), (5001, none)], by (refine ⟨?_, ?_, ?_, by kernel_rfl⟩ <;> repeat' (first | exact trivial | exact rfl | assumption | apply And.intro))⟩ ?_
    rintro ⟨k, s⟩ ⟨hk, hkl, hs, hI⟩
    simp only at hk hkl hs hI
    ((conv => whnf) <;> repeat (refine obl_ ?_; conv => whnf))
    refine cond_ (fun h => ?_) (fun h => ?_)
    · have hlt := of_decide_eq_true h
      have i1 : 0 ≤ (k : Int) := by omega
      ((conv => whnf) <;> repeat (refine obl_ ?_; conv => whnf))
      refine cond_ (fun h2 => ?_) (fun h2 => ?_)
      · have hlt2 := of_decide_eq_true h2
        have hkl : k < l.length := by omega
        have hsm : SmI s (l.getD k zMv) := hl.sm hkl hs.int (by have := hs.la; omega) (by have := hs.pa; omega)
        have hs2 := hs.next stpF_f hsm.mi
        have hI2 := hI.next (l.getD k zMv)
        ((conv => whnf) <;> repeat (refine obl_ ?_; conv => whnf))
        refine cond_ (fun h3 => ?_) (fun h3 => ?_)
        · have h3' : ¬ (stpF s (l.getD k zMv)).1 = 0 := bne_iff_ne.1 h3
          rw [if_neg h3'] at hs2 hI2
          ((conv => whnf) <;> repeat (refine obl_ ?_; conv => whnf))
          refine ⟨(k + 1, s), ⟨by simp only; omega, by simp only; omega, hs2, hI2⟩, by simp only; omega, [], ?_⟩
          (refine ⟨?_, ?_, ?_, by kernel_rfl⟩ <;> repeat' (first | exact trivial | exact rfl | assumption | apply And.intro))
          exact up_ (by omega)
        · have h3' : (stpF s (l.getD k zMv)).1 = 0 := bne_f h3
          have F := stF hI h3'
          rw [if_pos h3'] at hs2 hI2
          have tq := F.inv.q
          have tv := F.inv.v
          have tq1 := F.inv.q1
          have tv1 := F.inv.v1
          have n0 := hs2.la
          have n1 := hI.q0
          have n2 := hI.v0
          have n3 := hI.q1
          have n4 := hI.v1
          have fq := F.q1
          have fv := F.v1
          have sq := fun j => sumF_take (f := La.qty) (l := (stpF s (l.getD k zMv)).2.1.la) (fun x hx => by have := (F.inv.la x hx).q; omega) j
          have sv := fun j => sumF_take (f := La.value) (l := (stpF s (l.getD k zMv)).2.1.la) (fun x hx => (F.inv.la x hx).v) j
          ((conv => whnf) <;> repeat (refine obl_ ?_; conv => whnf))
          refine LoopP.introR (cx_ok (cl_ok hL hg)) mixed_ok (ι := Nat) (fun j => ⟨[(10, .one (.v (.int .i64 (j : Int)))), (9, .one (.v (.int .i64 (sumF La.value ((stpF s (l.getD k zMv)).2.1.la.take j))))), (8, .one (.v (.int .i64 (sumF La.qty ((stpF s (l.getD k zMv)).2.1.la.take j))))), (6, .one (.ptr 16 0)), (5, .one (.ptr 15 0)), (4, .one (.v (.int .i64 (k : Int)))), (3, .one (.ptr 13 0)), (2, .one (.v (.bool false))), (0, .one (.row 0))], [(16, 28, costL (stpF s (l.getD k zMv)).2.2), (15, 26, stockL (stpF s (l.getD k zMv)).2.1 6000 6001), (13, 26, stockL s 5000 5001)], [(0, some ⟨.mv, l, false⟩), (5000, some ⟨.la, s.la, true⟩), (5001, some ⟨.pa, s.pa, true⟩), (6000, some ⟨.la, (stpF s (l.getD k zMv)).2.1.la, true⟩), (6001, some ⟨.pa, (stpF s (l.getD k zMv)).2.1.pa, true⟩)]⟩) (fun j => j ≤ (stpF s (l.getD k zMv)).2.1.la.length) (fun j => (stpF s (l.getD k zMv)).2.1.la.length - j) 0 (Nat.zero_le _) ⟨[(6000, some 40), (6001, some 540)], by (refine ⟨?_, ?_, ?_, by kernel_rfl⟩ <;> repeat' (first | exact trivial | exact rfl | assumption | apply And.intro))⟩ ?_
          intro j hj
          ((conv => whnf) <;> repeat (refine obl_ ?_; conv => whnf))
          refine cond_ (fun h4 => ?_) (fun h4 => ?_)
          · have hjl : j < (stpF s (l.getD k zMv)).2.1.la.length := by have := of_decide_eq_true h4; omega
            have j1 : 0 ≤ (j : Int) := by omega
            have j2 : (j : Int) < ((stpF s (l.getD k zMv)).2.1.la.length : Int) := by omega
            have hx := getD_mem zLa hjl
            have x1 := F.inv.lq hx
            have x2 := F.inv.lv hx
            have s1 := sq j
            have s2 := sv j
            have t1 := sumF_step (f := La.qty) hjl
            have t2 := sumF_step (f := La.value) hjl
            have s3 := sq (j + 1)
            have s4 := sv (j + 1)
            simp only [sumQ] at tq
            simp only [sumV] at tv
            have w1 : wr (sumF La.qty ((stpF s (l.getD k zMv)).2.1.la.take j) + ((stpF s (l.getD k zMv)).2.1.la.getD j zLa).qty) = sumF La.qty ((stpF s (l.getD k zMv)).2.1.la.take (j + 1)) := by rw [t1]; exact wrap_id (by omega) (by omega)
            have w2 : wr (sumF La.value ((stpF s (l.getD k zMv)).2.1.la.take j) + ((stpF s (l.getD k zMv)).2.1.la.getD j zLa).value) = sumF La.value ((stpF s (l.getD k zMv)).2.1.la.take (j + 1)) := by rw [t2]; exact wrap_id (by omega) (by omega)
            ((conv => whnf) <;> repeat (refine obl_ ?_; conv => whnf))
            refine cond_ (fun h5 => absurd (of_decide_eq_true h5) (by show ¬ (((stpF s (l.getD k zMv)).2.1.la.getD j zLa).qty < 1); omega)) (fun _ => ?_)
            ((conv => whnf) <;> repeat (refine obl_ ?_; conv => whnf))
            refine cond_ (fun h5 => (ne_of (F.inv.z _ hx) h5).elim) (fun _ => ?_)
            ((conv => whnf) <;> repeat (refine obl_ ?_; conv => whnf))
            refine cond_ (fun h6 => ?_) (fun h6 => ?_)
            · have j3 : 0 < j := by have := of_decide_eq_true h6; omega
              have wj : wr ((j : Int) - 1) = ((j - 1 : Nat) : Int) := (wr_id (by omega) (by omega)).trans (by omega)
              have j4 : 0 ≤ wr ((j : Int) - 1) := by omega
              have j5 : wr ((j : Int) - 1) < ((stpF s (l.getD k zMv)).2.1.la.length : Int) := by omega
              have wn : (wr ((j : Int) - 1)).toNat = j - 1 := by omega
              have hs5 : strLt ((stpF s (l.getD k zMv)).2.1.la.getD (wr ((j : Int) - 1)).toNat zLa).lot ((stpF s (l.getD k zMv)).2.1.la.getD j zLa).lot = true := by rw [wn]; exact srt_get F.inv.so j3 hjl
              ((conv => whnf) <;> repeat (refine obl_ ?_; conv => whnf))
              refine cond_ (fun h7 => absurd hs5 (not_t h7)) (fun _ => ?_)
              ((conv => whnf) <;> repeat (refine obl_ ?_; conv => whnf))
              refine ⟨j + 1, hjl, by omega, [], ?_⟩
              (refine ⟨?_, ?_, ?_, by kernel_rfl⟩ <;> repeat' (first | exact trivial | exact rfl | assumption | apply And.intro))
              · exact up_ (by omega)
              · exact int_ w2
              · exact int_ w1
            · ((conv => whnf) <;> repeat (refine obl_ ?_; conv => whnf))
              refine ⟨j + 1, hjl, by omega, [], ?_⟩
              (refine ⟨?_, ?_, ?_, by kernel_rfl⟩ <;> repeat' (first | exact trivial | exact rfl | assumption | apply And.intro))
              · exact up_ (by omega)
              · exact int_ w2
              · exact int_ w1
          · have hge := of_decide_eq_false h4
            have hall : (stpF s (l.getD k zMv)).2.1.la.take j = (stpF s (l.getD k zMv)).2.1.la := List.take_of_length_le (by omega)
            rw [hall]
            have e3 : (stpF s (l.getD k zMv)).2.1.q = wr (s.q + (stpF s (l.getD k zMv)).2.2.qty) := F.q.trans (wrap_id (by omega) (by omega)).symm
            have e4 : (stpF s (l.getD k zMv)).2.1.v = wr (s.v + (stpF s (l.getD k zMv)).2.2.value) := F.v.trans (wrap_id (by omega) (by omega)).symm
            have co := F.one.cost
            ((conv => whnf) <;> repeat (refine obl_ ?_; conv => whnf))
            refine cond_ (fun h4 => ?_) (fun h4 => ?_)
            · have k4 : (l.getD k zMv).kind = 4 := beq_iff_eq.1 h4
              have p4 := F.pay4 k4
              have e5 : wr ((stpF s (l.getD k zMv)).2.2.value + (stpF s (l.getD k zMv)).2.2.var) = wr (0 - (l.getD k zMv).cost) := by rw [p4, Int.zero_sub]
              ((conv => whnf) <;> repeat (refine obl_ ?_; conv => whnf))
              refine cond_ (fun h => (ne_of tq h).elim) (fun _ => ?_)
              ((conv => whnf) <;> repeat (refine obl_ ?_; conv => whnf))
              refine cond_ (fun h => (ne_of tv h).elim) (fun _ => ?_)
              ((conv => whnf) <;> repeat (refine obl_ ?_; conv => whnf))
              refine cond_ (fun h => (ne_of e3 h).elim) (fun _ => ?_)
              ((conv => whnf) <;> repeat (refine obl_ ?_; conv => whnf))
              refine cond_ (fun h => (ne_of e4 h).elim) (fun _ => ?_)
              ((conv => whnf) <;> repeat (refine obl_ ?_; conv => whnf))
              refine cond_ (fun h => absurd (k4.symm.trans (beq_iff_eq.1 h)) (by decide)) (fun _ => ?_)
              ((conv => whnf) <;> repeat (refine obl_ ?_; conv => whnf))
              refine cond_ (fun h => absurd (k4.symm.trans (beq_iff_eq.1 h)) (by decide)) (fun _ => ?_)
              ((conv => whnf) <;> repeat (refine obl_ ?_; conv => whnf))
              refine cond_ (fun _ => ?_) (fun h => (beq_ne h k4).elim)
              ((conv => whnf) <;> repeat (refine obl_ ?_; conv => whnf))
              refine cond_ (fun h => (ne_of e5 h).elim) (fun _ => ?_)
              ((conv => whnf) <;> repeat (refine obl_ ?_; conv => whnf))
              refine ⟨(k + 1, (stpF s (l.getD k zMv)).2.1), ⟨by simp only; omega, by simp only; omega, hs2, hI2⟩, by simp only; omega, [(5000, some 6000), (5001, some 6001)], ?_⟩
              (refine ⟨?_, ?_, ?_, by kernel_rfl⟩ <;> repeat' (first | exact trivial | exact rfl | assumption | apply And.intro))
              exact up_ (by omega)
            · ((conv => whnf) <;> repeat (refine obl_ ?_; conv => whnf))
              refine cond_ (fun h => (ne_of tq h).elim) (fun _ => ?_)
              ((conv => whnf) <;> repeat (refine obl_ ?_; conv => whnf))
              refine cond_ (fun h => (ne_of tv h).elim) (fun _ => ?_)
              ((conv => whnf) <;> repeat (refine obl_ ?_; conv => whnf))
              refine cond_ (fun h => (ne_of e3 h).elim) (fun _ => ?_)
              ((conv => whnf) <;> repeat (refine obl_ ?_; conv => whnf))
              refine cond_ (fun h => (ne_of e4 h).elim) (fun _ => ?_)
              ((conv => whnf) <;> repeat (refine obl_ ?_; conv => whnf))
              refine cond_ (fun h6 => ?_) (fun h6 => ?_)
              · have e5 := F.pay (.inl (beq_iff_eq.1 h6))
                have e6 : wr ((stpF s (l.getD k zMv)).2.2.value + (stpF s (l.getD k zMv)).2.2.var) = (l.getD k zMv).cost := by rw [e5]; exact wrap_id (by omega) (by omega)
                ((conv => whnf) <;> repeat (refine obl_ ?_; conv => whnf))
                refine cond_ (fun h => (ne_of e6 h).elim) (fun _ => ?_)
                ((conv => whnf) <;> repeat (refine obl_ ?_; conv => whnf))
                refine ⟨(k + 1, (stpF s (l.getD k zMv)).2.1), ⟨by simp only; omega, by simp only; omega, hs2, hI2⟩, by simp only; omega, [(5000, some 6000), (5001, some 6001)], ?_⟩
                (refine ⟨?_, ?_, ?_, by kernel_rfl⟩ <;> repeat' (first | exact trivial | exact rfl | assumption | apply And.intro))
                exact up_ (by omega)
              ((conv => whnf) <;> repeat (refine obl_ ?_; conv => whnf))
              refine cond_ (fun h6 => ?_) (fun h6 => ?_)
              · have e5 := F.pay (.inr (beq_iff_eq.1 h6))
                have e6 : wr ((stpF s (l.getD k zMv)).2.2.value + (stpF s (l.getD k zMv)).2.2.var) = (l.getD k zMv).cost := by rw [e5]; exact wrap_id (by omega) (by omega)
                ((conv => whnf) <;> repeat (refine obl_ ?_; conv => whnf))
                refine cond_ (fun h => (ne_of e6 h).elim) (fun _ => ?_)
                ((conv => whnf) <;> repeat (refine obl_ ?_; conv => whnf))
                refine ⟨(k + 1, (stpF s (l.getD k zMv)).2.1), ⟨by simp only; omega, by simp only; omega, hs2, hI2⟩, by simp only; omega, [(5000, some 6000), (5001, some 6001)], ?_⟩
                (refine ⟨?_, ?_, ?_, by kernel_rfl⟩ <;> repeat' (first | exact trivial | exact rfl | assumption | apply And.intro))
                exact up_ (by omega)
              ((conv => whnf) <;> repeat (refine obl_ ?_; conv => whnf))
              refine cond_ (fun h6 => absurd (h6.symm.trans h4) (by decide)) (fun _ => ?_)
              ((conv => whnf) <;> repeat (refine obl_ ?_; conv => whnf))
              refine ⟨(k + 1, (stpF s (l.getD k zMv)).2.1), ⟨by simp only; omega, by simp only; omega, hs2, hI2⟩, by simp only; omega, [(5000, some 6000), (5001, some 6001)], ?_⟩
              (refine ⟨?_, ?_, ?_, by kernel_rfl⟩ <;> repeat' (first | exact trivial | exact rfl | assumption | apply And.intro))
              exact up_ (by omega)
      · ((conv => whnf) <;> repeat (refine obl_ ?_; conv => whnf))
        exact rfl
    · ((conv => whnf) <;> repeat (refine obl_ ?_; conv => whnf))
      exact rfl
  · rintro e w1 ⟨x, v, A1, ρ1, a1, rfl, hv, rfl, hS1, _⟩
    exact ⟨by rw [show x = _ from hv], hS1.rel.bel⟩
end Go.Proofs.YtcjdkaigimcofaaDoor.Ff
