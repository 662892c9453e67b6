/- The executor and what hangs on it, merged (SdH, SdI, SdJ, SdK, SdL, SdM, SdN, SdO): a verified abstract run of code over memory, and the walks by it; each theorem names its conditions. -/
import Derived.Test.YtkimndddlnbeiaaDoorX1
/- standard: issues, returns, landed costs and new prices performed. No condition but 64 bits. -/
namespace Go.Proofs.YtkimndddlnbeiaaDoor.Ff
open Go.RowKit Go.Proofs.YtkimndddlnbeiaaDoorW.PrintWords Go.Proofs.YtkimndddlnbeiaaDoor.Ex
set_option linter.unusedVariables false
set_option linter.unusedSimpArgs false
set_option maxRecDepth 100000
theorem moveD_3a {s : St} {m : Mv} (k : m.kind = 3) (h : findS 2 m.ref s.pa < 0) : moveD s m = (28, zC 0, s.pr, s.pa) := by
  unfold moveD; rw [if_neg (by omega), if_neg (by omega), if_pos k]; simp only; rw [if_pos h]
theorem moveD_3b {s : St} {m : Mv} {p : Pa} (k : m.kind = 3) (h : ¬ findS 2 m.ref s.pa < 0) (hp : s.pa.getD (findS 2 m.ref s.pa).toNat zPa = p) (hq : wr (p.qty - p.used) < m.qty) : moveD s m = (21, zC 0, s.pr, s.pa) := by
  subst hp; unfold moveD; rw [if_neg (by omega), if_neg (by omega), if_pos k]; simp only; rw [if_neg h, if_pos hq]
theorem moveD_3c {s : St} {m : Mv} {p : Pa} (k : m.kind = 3) (h : ¬ findS 2 m.ref s.pa < 0) (hp : s.pa.getD (findS 2 m.ref s.pa).toNat zPa = p) (hq : ¬ wr (p.qty - p.used) < m.qty) (f : fitB (m.qty * s.pr) = false) : moveD s m = (4, zC 0, s.pr, s.pa) := by
  subst hp; unfold moveD; rw [if_neg (by omega), if_neg (by omega), if_pos k]; simp only; rw [if_neg h, if_neg hq, if_pos f]
theorem moveD_3 {s : St} {m : Mv} {p : Pa} {v : Int} (k : m.kind = 3) (h : ¬ findS 2 m.ref s.pa < 0) (hp : s.pa.getD (findS 2 m.ref s.pa).toNat zPa = p) (hq : ¬ wr (p.qty - p.used) < m.qty) (f : fitB (m.qty * s.pr) = true) (hv : v = partS (wr (p.value - p.uval)) m.qty (wr (p.qty - p.used))) : moveD s m = (0, ⟨m.seq, m.qty, m.qty * s.pr, wr (v - m.qty * s.pr)⟩, s.pr, s.pa.set (findS 2 m.ref s.pa).toNat { p with used := wr (p.used + m.qty), uval := wr (p.uval + v) }) := by
  subst hp hv; unfold moveD; rw [if_neg (by omega), if_neg (by omega), if_pos k]; simp only; rw [if_neg h, if_neg hq, if_neg (by rw [f]; decide)]
theorem moveD_4a {s : St} {m : Mv} (k : m.kind = 4) (h : findS 1 m.ref s.pa < 0) : moveD s m = (28, zC 0, s.pr, s.pa) := by
  unfold moveD; rw [if_neg (by omega), if_neg (by omega), if_neg (by omega), if_pos k]; simp only; rw [if_pos h]
theorem moveD_4b {s : St} {m : Mv} {p : Pa} (k : m.kind = 4) (h : ¬ findS 1 m.ref s.pa < 0) (hp : s.pa.getD (findS 1 m.ref s.pa).toNat zPa = p) (hq : wr (p.qty - p.used) < m.qty) : moveD s m = (21, zC 0, s.pr, s.pa) := by
  subst hp; unfold moveD; rw [if_neg (by omega), if_neg (by omega), if_neg (by omega), if_pos k]; simp only; rw [if_neg h, if_pos hq]
theorem moveD_4c {s : St} {m : Mv} {p : Pa} (k : m.kind = 4) (h : ¬ findS 1 m.ref s.pa < 0) (hp : s.pa.getD (findS 1 m.ref s.pa).toNat zPa = p) (hq : ¬ wr (p.qty - p.used) < m.qty) (hl : s.q < m.qty) : moveD s m = (21, zC 0, s.pr, s.pa) := by
  subst hp; unfold moveD; rw [if_neg (by omega), if_neg (by omega), if_neg (by omega), if_pos k]; simp only; rw [if_neg h, if_neg hq, if_pos hl]
theorem moveD_4d {s : St} {m : Mv} {p : Pa} (k : m.kind = 4) (h : ¬ findS 1 m.ref s.pa < 0) (hp : s.pa.getD (findS 1 m.ref s.pa).toNat zPa = p) (hq : ¬ wr (p.qty - p.used) < m.qty) (hl : ¬ s.q < m.qty) (f : fitB (m.qty * s.pr) = false) : moveD s m = (4, zC 0, s.pr, s.pa) := by
  subst hp; unfold moveD; rw [if_neg (by omega), if_neg (by omega), if_neg (by omega), if_pos k]; simp only; rw [if_neg h, if_neg hq, if_neg hl, if_pos f]
theorem moveD_4 {s : St} {m : Mv} {p : Pa} (k : m.kind = 4) (h : ¬ findS 1 m.ref s.pa < 0) (hp : s.pa.getD (findS 1 m.ref s.pa).toNat zPa = p) (hq : ¬ wr (p.qty - p.used) < m.qty) (hl : ¬ s.q < m.qty) (f : fitB (m.qty * s.pr) = true) : moveD s m = (0, ⟨m.seq, wr (0 - m.qty), wr (0 - m.qty * s.pr), wr (m.qty * s.pr - m.cost)⟩, s.pr, s.pa.set (findS 1 m.ref s.pa).toNat { p with used := wr (p.used + m.qty) }) := by
  subst hp; unfold moveD; rw [if_neg (by omega), if_neg (by omega), if_neg (by omega), if_pos k]; simp only; rw [if_neg h, if_neg hq, if_neg hl, if_neg (by rw [f]; decide)]
theorem moveD_5a {s : St} {m : Mv} (k : m.kind = 5) (h : findS 1 m.ref s.pa < 0) : moveD s m = (28, zC 0, s.pr, s.pa) := by
  unfold moveD; rw [if_neg (by omega), if_neg (by omega), if_neg (by omega), if_neg (by omega), if_pos k]; simp only; rw [if_pos h]
theorem moveD_5b {s : St} {m : Mv} {p : Pa} (k : m.kind = 5) (h : ¬ findS 1 m.ref s.pa < 0) (hp : s.pa.getD (findS 1 m.ref s.pa).toNat zPa = p) (hq : wr (p.qty - p.used) < m.qty) : moveD s m = (21, zC 0, s.pr, s.pa) := by
  subst hp; unfold moveD; rw [if_neg (by omega), if_neg (by omega), if_neg (by omega), if_neg (by omega), if_pos k]; simp only; rw [if_neg h, if_pos hq]
theorem moveD_5 {s : St} {m : Mv} {p : Pa} (k : m.kind = 5) (h : ¬ findS 1 m.ref s.pa < 0) (hp : s.pa.getD (findS 1 m.ref s.pa).toNat zPa = p) (hq : ¬ wr (p.qty - p.used) < m.qty) : moveD s m = (0, ⟨m.seq, 0, 0, m.cost⟩, s.pr, s.pa) := by
  subst hp; unfold moveD; rw [if_neg (by omega), if_neg (by omega), if_neg (by omega), if_neg (by omega), if_pos k]; simp only; rw [if_neg h, if_neg hq]
theorem moveD_6a {s : St} {m : Mv} (k : m.kind = 6) (f : fitB (s.q * (m.cost - s.pr)) = false ∨ farS (s.q * (m.cost - s.pr)) = true) : moveD s m = (4, zC 0, s.pr, s.pa) := by
  unfold moveD; rw [if_neg (by omega), if_neg (by omega), if_neg (by omega), if_neg (by omega), if_neg (by omega), if_pos (.inr f)]
theorem moveD_6 {s : St} {m : Mv} (k : m.kind = 6) (f0 : fitB (m.cost - s.pr) = true) (f1 : fitB (s.q * (m.cost - s.pr)) = true) (f2 : farS (s.q * (m.cost - s.pr)) = false) : moveD s m = (0, ⟨m.seq, 0, s.q * (m.cost - s.pr), wr (0 - s.q * (m.cost - s.pr))⟩, m.cost, s.pa) := by
  unfold moveD; rw [if_neg (by omega), if_neg (by omega), if_neg (by omega), if_neg (by omega), if_neg (by omega), if_neg (by rw [f0, f1, f2]; decide)]
theorem partS_1 {v q n : Int} (h : q = n) : v = partS v q n := by unfold partS; rw [if_pos h]
theorem partS_2 {v q n : Int} (h : ¬ q = n) : (Md.md v q n 4).1 = partS v q n := by unfold partS; rw [if_neg h]
theorem pa_one {l : List Pa} {Z : Nat} (q : Int) : l.set Z { l.getD Z zPa with used := wr ((l.getD Z zPa).used + q) } = l.set Z { l.getD Z zPa with used := wr ((l.getD Z zPa).used + q) } := rfl
theorem iss_inl {g : G} (hL : Laid g.W0) (hg : ∀ i, ¬ g.S i) {s : St} {m : Mv} {tm : List (Nat × AV)} (hs : StI s) (hm : MvI m) (n2 : s.pa.length < 1000000000) (t8 : Ex.look tm 8 = .one (.ptr 51 0)) (t5 : Ex.look tm 5 = .one (.ptr 15 0)) (t4 : Ex.look tm 4 = .one (.ptr 14 0)) (t3 : Ex.look tm 3 = .one (.ptr 13 0)) (t2 : Ex.look tm 2 = .one (.ptr 12 0)) (hp : I64 s.pr) (k : m.kind = 2) :
    InlP Tryd.prog g (cx CE 117) (some 43) 17 [.one (.ptr 51 0)] ⟨tm, BX s m s.q s.v s.pr ⟨0, 0, 0, 0⟩, RX s s.pa⟩ (fun A1 => ∃ i : Unit, True ∧ ∃ σ, LeR (cx CE 117).base σ A1 (ID s m (moveD s m))) := by
  have hqty := hm.qty
  have hcost := hm.cost
  have hq0 := hs.q
  refine InlP.intro (X' := ⟨tab, CE, 2000, 30⟩) (ce_at hL hg) mixed_ok Tryd.func17 (by kernel_rfl) rfl rfl (le_of_ble (by kernel_rfl)) (by kernel_rfl) ?_
  ((conv => whnf) <;> repeat (refine obl_ ?_; conv => whnf))
  refine cond_ (fun h => absurd (k.symm.trans (beq_iff_eq.1 h)) (by decide)) (fun _ => ?_)
  ((conv => whnf) <;> repeat (refine obl_ ?_; conv => whnf))
  refine cond_ (fun _ => ?_) (fun h => (beq_ne h k).elim)
  ((conv => whnf) <;> repeat (refine obl_ ?_; conv => whnf))
  refine InlP.intro (X' := ⟨tab, CE, 3000, 44⟩) (ce_at hL hg) mixed_ok Tryd.func34 (by kernel_rfl) rfl rfl (le_of_ble (by kernel_rfl)) (by kernel_rfl) ?_
  ((conv => whnf) <;> repeat (refine obl_ ?_; conv => whnf))
  refine cond_ (fun hlt => ?_) (fun hlt => ?_)
  · have hlt' : s.q < m.qty := of_decide_eq_true hlt
    rw [moveD_2a k hlt']
    ((conv => whnf) <;> repeat (refine obl_ ?_; conv => whnf))
    refine ⟨(), trivial, [], ?_⟩
    (refine ⟨?_, ?_, ?_, by kernel_rfl⟩ <;> repeat' (first | exact trivial | exact rfl | assumption | apply And.intro))
  have hlt' : ¬ s.q < m.qty := of_decide_eq_false hlt
  ((conv => whnf) <;> repeat (refine obl_ ?_; conv => whnf))
  refine InlP.intro (X' := ⟨tab, CE, 4000, 21⟩) (ce_at hL hg) mixed_ok Tryd.func51 (by kernel_rfl) rfl rfl (le_of_ble (by kernel_rfl)) (by kernel_rfl) ?_
  ((conv => whnf) <;> repeat (refine obl_ ?_; conv => whnf))
  refine cond_ (fun hf => ?_) (fun hf => ?_)
  · rw [moveD_2b k hlt' (not_t hf)]
    ((conv => whnf) <;> repeat (refine obl_ ?_; conv => whnf))
    refine ⟨(), trivial, [], ?_⟩
    (refine ⟨?_, ?_, ?_, by kernel_rfl⟩ <;> repeat' (first | exact trivial | exact rfl | assumption | apply And.intro))
  · rw [moveD_2 k hlt' (not_f hf), fitV_t (not_f hf)]
    ((conv => whnf) <;> repeat (refine obl_ ?_; conv => whnf))
    refine InlP.intro (X' := ⟨tab, CE, 5000, 37⟩) (ce_at hL hg) mixed_ok Tryd.func52 (by kernel_rfl) rfl rfl (le_of_ble (by kernel_rfl)) (by kernel_rfl) ?_
    ((conv => whnf) <;> repeat (refine obl_ ?_; conv => whnf))
    refine ⟨(), trivial, [(548, some 5033)], ?_⟩
    (refine ⟨?_, ?_, ?_, by kernel_rfl⟩ <;> repeat' (first | exact trivial | exact rfl | assumption | apply And.intro))
theorem cus_inl {g : G} (hL : Laid g.W0) (hg : ∀ i, ¬ g.S i) {s : St} {m : Mv} {tm : List (Nat × AV)} (hs : StI s) (hm : MvI m) (n2 : s.pa.length < 1000000000) (t8 : Ex.look tm 8 = .one (.ptr 51 0)) (t5 : Ex.look tm 5 = .one (.ptr 15 0)) (t4 : Ex.look tm 4 = .one (.ptr 14 0)) (t3 : Ex.look tm 3 = .one (.ptr 13 0)) (t2 : Ex.look tm 2 = .one (.ptr 12 0)) (hp : I64 s.pr) (k : m.kind = 3) :
    InlP Tryd.prog g (cx CE 117) (some 43) 17 [.one (.ptr 51 0)] ⟨tm, BX s m s.q s.v s.pr ⟨0, 0, 0, 0⟩, RX s s.pa⟩ (fun A1 => ∃ i : Unit, True ∧ ∃ σ, LeR (cx CE 117).base σ A1 (ID s m (moveD s m))) := by
  have hqty := hm.qty
  have hcost := hm.cost
  have hq0 := hs.q
  refine InlP.intro (X' := ⟨tab, CE, 2000, 30⟩) (ce_at hL hg) mixed_ok Tryd.func17 (by kernel_rfl) rfl rfl (le_of_ble (by kernel_rfl)) (by kernel_rfl) ?_
  ((conv => whnf) <;> repeat (refine obl_ ?_; conv => whnf))
  refine cond_ (fun h => absurd (k.symm.trans (beq_iff_eq.1 h)) (by decide)) (fun _ => ?_)
  ((conv => whnf) <;> repeat (refine obl_ ?_; conv => whnf))
  refine cond_ (fun h => absurd (k.symm.trans (beq_iff_eq.1 h)) (by decide)) (fun _ => ?_)
  ((conv => whnf) <;> repeat (refine obl_ ?_; conv => whnf))
  refine cond_ (fun _ => ?_) (fun h => (beq_ne h k).elim)
  ((conv => whnf) <;> repeat (refine obl_ ?_; conv => whnf))
  refine InlP.intro (X' := ⟨tab, CE, 3000, 85⟩) (ce_at hL hg) mixed_ok Tryd.func35 (by kernel_rfl) rfl rfl (le_of_ble (by kernel_rfl)) (by kernel_rfl) ?_
  ((conv => whnf) <;> repeat (refine obl_ ?_; conv => whnf))
  refine InlP.intro (X' := ⟨tab, CE, 4000, 43⟩) (ce_at hL hg) mixed_ok Tryd.func53 (by kernel_rfl) rfl rfl (le_of_ble (by kernel_rfl)) (by kernel_rfl) ?_
  ((conv => whnf) <;> repeat (refine obl_ ?_; conv => whnf))
  refine cond_ (fun hf => ?_) (fun hf => ?_)
  · have hf' : findS 2 m.ref s.pa < 0 := of_decide_eq_true hf
    rw [moveD_3a k hf']
    ((conv => whnf) <;> repeat (refine obl_ ?_; conv => whnf))
    refine ⟨(), trivial, [], ?_⟩
    (refine ⟨?_, ?_, ?_, by kernel_rfl⟩ <;> repeat' (first | exact trivial | exact rfl | assumption | apply And.intro))
  have hf' : ¬ findS 2 m.ref s.pa < 0 := of_decide_eq_false hf
  obtain ⟨hz0, hz1, hz2⟩ := find_lt hf'
  ((conv => whnf) <;> repeat (refine obl_ ?_; conv => whnf))
  refine cond_ (fun hq => ?_) (fun hq => ?_)
  · have hq' : wr ((s.pa.getD (findS 2 m.ref s.pa).toNat zPa).qty - (s.pa.getD (findS 2 m.ref s.pa).toNat zPa).used) < m.qty := of_decide_eq_true hq
    rw [moveD_3b k hf' rfl hq']
    ((conv => whnf) <;> repeat (refine obl_ ?_; conv => whnf))
    refine ⟨(), trivial, [], ?_⟩
    (refine ⟨?_, ?_, ?_, by kernel_rfl⟩ <;> repeat' (first | exact trivial | exact rfl | assumption | apply And.intro))
  have hq' : ¬ wr ((s.pa.getD (findS 2 m.ref s.pa).toNat zPa).qty - (s.pa.getD (findS 2 m.ref s.pa).toNat zPa).used) < m.qty := of_decide_eq_false hq
  ((conv => whnf) <;> repeat (refine obl_ ?_; conv => whnf))
  refine InlP.intro (X' := ⟨tab, CE, 4500, 21⟩) (ce_at hL hg) mixed_ok Tryd.func51 (by kernel_rfl) rfl rfl (le_of_ble (by kernel_rfl)) (by kernel_rfl) ?_
  ((conv => whnf) <;> repeat (refine obl_ ?_; conv => whnf))
  refine cond_ (fun hp1 => ?_) (fun hp1 => ?_)
  · rw [moveD_3c k hf' rfl hq' (not_t hp1)]
    ((conv => whnf) <;> repeat (refine obl_ ?_; conv => whnf))
    refine ⟨(), trivial, [], ?_⟩
    (refine ⟨?_, ?_, ?_, by kernel_rfl⟩ <;> repeat' (first | exact trivial | exact rfl | assumption | apply And.intro))
  rw [fitV_t (not_f hp1)]
  ((conv => whnf) <;> repeat (refine obl_ ?_; conv => whnf))
  refine InlP.intro (X' := ⟨tab, CE, 5000, 31⟩) (ce_at hL hg) mixed_ok Tryd.func54 (by kernel_rfl) rfl rfl (le_of_ble (by kernel_rfl)) (by kernel_rfl) ?_
  ((conv => whnf) <;> repeat (refine obl_ ?_; conv => whnf))
  refine cond_ (fun he => ?_) (fun he => ?_)
  · have he' := beq_iff_eq.1 he
    rw [moveD_3 k hf' rfl hq' (not_f hp1) (partS_1 he')]
    ((conv => whnf) <;> repeat (refine obl_ ?_; conv => whnf))
    refine ⟨(), trivial, [], ?_⟩
    (refine ⟨?_, ?_, ?_, by kernel_rfl⟩ <;> repeat' (first | exact trivial | exact rfl | assumption | apply And.intro))
    exact pa_back hz2 _ _
  · have he' : ¬ m.qty = wr ((s.pa.getD (findS 2 m.ref s.pa).toNat zPa).qty - (s.pa.getD (findS 2 m.ref s.pa).toNat zPa).used) := fun e => beq_ne he e
    rw [moveD_3 k hf' rfl hq' (not_f hp1) (partS_2 he')]
    ((conv => whnf) <;> repeat (refine obl_ ?_; conv => whnf))
    refine ⟨(), trivial, [], ?_⟩
    (refine ⟨?_, ?_, ?_, by kernel_rfl⟩ <;> repeat' (first | exact trivial | exact rfl | assumption | apply And.intro))
    exact pa_back hz2 _ _
theorem sup_inl {g : G} (hL : Laid g.W0) (hg : ∀ i, ¬ g.S i) {s : St} {m : Mv} {tm : List (Nat × AV)} (hs : StI s) (hm : MvI m) (n2 : s.pa.length < 1000000000) (t8 : Ex.look tm 8 = .one (.ptr 51 0)) (t5 : Ex.look tm 5 = .one (.ptr 15 0)) (t4 : Ex.look tm 4 = .one (.ptr 14 0)) (t3 : Ex.look tm 3 = .one (.ptr 13 0)) (t2 : Ex.look tm 2 = .one (.ptr 12 0)) (hp : I64 s.pr) (k : m.kind = 4) :
    InlP Tryd.prog g (cx CE 117) (some 43) 17 [.one (.ptr 51 0)] ⟨tm, BX s m s.q s.v s.pr ⟨0, 0, 0, 0⟩, RX s s.pa⟩ (fun A1 => ∃ i : Unit, True ∧ ∃ σ, LeR (cx CE 117).base σ A1 (ID s m (moveD s m))) := by
  have hqty := hm.qty
  have hcost := hm.cost
  have hq0 := hs.q
  refine InlP.intro (X' := ⟨tab, CE, 2000, 30⟩) (ce_at hL hg) mixed_ok Tryd.func17 (by kernel_rfl) rfl rfl (le_of_ble (by kernel_rfl)) (by kernel_rfl) ?_
  ((conv => whnf) <;> repeat (refine obl_ ?_; conv => whnf))
  refine cond_ (fun h => absurd (k.symm.trans (beq_iff_eq.1 h)) (by decide)) (fun _ => ?_)
  ((conv => whnf) <;> repeat (refine obl_ ?_; conv => whnf))
  refine cond_ (fun h => absurd (k.symm.trans (beq_iff_eq.1 h)) (by decide)) (fun _ => ?_)
  ((conv => whnf) <;> repeat (refine obl_ ?_; conv => whnf))
  refine cond_ (fun h => absurd (k.symm.trans (beq_iff_eq.1 h)) (by decide)) (fun _ => ?_)
  ((conv => whnf) <;> repeat (refine obl_ ?_; conv => whnf))
  refine cond_ (fun _ => ?_) (fun h => (beq_ne h k).elim)
  ((conv => whnf) <;> repeat (refine obl_ ?_; conv => whnf))
  refine InlP.intro (X' := ⟨tab, CE, 3000, 74⟩) (ce_at hL hg) mixed_ok Tryd.func36 (by kernel_rfl) rfl rfl (le_of_ble (by kernel_rfl)) (by kernel_rfl) ?_
  ((conv => whnf) <;> repeat (refine obl_ ?_; conv => whnf))
  refine InlP.intro (X' := ⟨tab, CE, 4000, 43⟩) (ce_at hL hg) mixed_ok Tryd.func53 (by kernel_rfl) rfl rfl (le_of_ble (by kernel_rfl)) (by kernel_rfl) ?_
  ((conv => whnf) <;> repeat (refine obl_ ?_; conv => whnf))
  refine cond_ (fun hf => ?_) (fun hf => ?_)
  · have hf' : findS 1 m.ref s.pa < 0 := of_decide_eq_true hf
    rw [moveD_4a k hf']
    ((conv => whnf) <;> repeat (refine obl_ ?_; conv => whnf))
    refine ⟨(), trivial, [], ?_⟩
    (refine ⟨?_, ?_, ?_, by kernel_rfl⟩ <;> repeat' (first | exact trivial | exact rfl | assumption | apply And.intro))
  have hf' : ¬ findS 1 m.ref s.pa < 0 := of_decide_eq_false hf
  obtain ⟨hz0, hz1, hz2⟩ := find_lt hf'
  ((conv => whnf) <;> repeat (refine obl_ ?_; conv => whnf))
  refine cond_ (fun hq => ?_) (fun hq => ?_)
  · have hq' : wr ((s.pa.getD (findS 1 m.ref s.pa).toNat zPa).qty - (s.pa.getD (findS 1 m.ref s.pa).toNat zPa).used) < m.qty := of_decide_eq_true hq
    rw [moveD_4b k hf' rfl hq']
    ((conv => whnf) <;> repeat (refine obl_ ?_; conv => whnf))
    refine ⟨(), trivial, [], ?_⟩
    (refine ⟨?_, ?_, ?_, by kernel_rfl⟩ <;> repeat' (first | exact trivial | exact rfl | assumption | apply And.intro))
  have hq' : ¬ wr ((s.pa.getD (findS 1 m.ref s.pa).toNat zPa).qty - (s.pa.getD (findS 1 m.ref s.pa).toNat zPa).used) < m.qty := of_decide_eq_false hq
  ((conv => whnf) <;> repeat (refine obl_ ?_; conv => whnf))
  refine cond_ (fun hlt => ?_) (fun hlt => ?_)
  · have hlt' : s.q < m.qty := of_decide_eq_true hlt
    rw [moveD_4c k hf' rfl hq' hlt']
    ((conv => whnf) <;> repeat (refine obl_ ?_; conv => whnf))
    refine ⟨(), trivial, [], ?_⟩
    (refine ⟨?_, ?_, ?_, by kernel_rfl⟩ <;> repeat' (first | exact trivial | exact rfl | assumption | apply And.intro))
  have hlt' : ¬ s.q < m.qty := of_decide_eq_false hlt
  ((conv => whnf) <;> repeat (refine obl_ ?_; conv => whnf))
  refine InlP.intro (X' := ⟨tab, CE, 4500, 21⟩) (ce_at hL hg) mixed_ok Tryd.func51 (by kernel_rfl) rfl rfl (le_of_ble (by kernel_rfl)) (by kernel_rfl) ?_
  ((conv => whnf) <;> repeat (refine obl_ ?_; conv => whnf))
  refine cond_ (fun hp1 => ?_) (fun hp1 => ?_)
  · rw [moveD_4d k hf' rfl hq' hlt' (not_t hp1)]
    ((conv => whnf) <;> repeat (refine obl_ ?_; conv => whnf))
    refine ⟨(), trivial, [], ?_⟩
    (refine ⟨?_, ?_, ?_, by kernel_rfl⟩ <;> repeat' (first | exact trivial | exact rfl | assumption | apply And.intro))
  rw [fitV_t (not_f hp1), moveD_4 k hf' rfl hq' hlt' (not_f hp1)]
  ((conv => whnf) <;> repeat (refine obl_ ?_; conv => whnf))
  refine ⟨(), trivial, [], ?_⟩
  (refine ⟨?_, ?_, ?_, by kernel_rfl⟩ <;> repeat' (first | exact trivial | exact rfl | assumption | apply And.intro))
theorem lan_inl {g : G} (hL : Laid g.W0) (hg : ∀ i, ¬ g.S i) {s : St} {m : Mv} {tm : List (Nat × AV)} (hs : StI s) (hm : MvI m) (n2 : s.pa.length < 1000000000) (t8 : Ex.look tm 8 = .one (.ptr 51 0)) (t5 : Ex.look tm 5 = .one (.ptr 15 0)) (t4 : Ex.look tm 4 = .one (.ptr 14 0)) (t3 : Ex.look tm 3 = .one (.ptr 13 0)) (t2 : Ex.look tm 2 = .one (.ptr 12 0)) (hp : I64 s.pr) (k : m.kind = 5) :
    InlP Tryd.prog g (cx CE 117) (some 43) 17 [.one (.ptr 51 0)] ⟨tm, BX s m s.q s.v s.pr ⟨0, 0, 0, 0⟩, RX s s.pa⟩ (fun A1 => ∃ i : Unit, True ∧ ∃ σ, LeR (cx CE 117).base σ A1 (ID s m (moveD s m))) := by
  have hqty := hm.qty
  have hcost := hm.cost
  have hq0 := hs.q
  refine InlP.intro (X' := ⟨tab, CE, 2000, 30⟩) (ce_at hL hg) mixed_ok Tryd.func17 (by kernel_rfl) rfl rfl (le_of_ble (by kernel_rfl)) (by kernel_rfl) ?_
  ((conv => whnf) <;> repeat (refine obl_ ?_; conv => whnf))
  refine cond_ (fun h => absurd (k.symm.trans (beq_iff_eq.1 h)) (by decide)) (fun _ => ?_)
  ((conv => whnf) <;> repeat (refine obl_ ?_; conv => whnf))
  refine cond_ (fun h => absurd (k.symm.trans (beq_iff_eq.1 h)) (by decide)) (fun _ => ?_)
  ((conv => whnf) <;> repeat (refine obl_ ?_; conv => whnf))
  refine cond_ (fun h => absurd (k.symm.trans (beq_iff_eq.1 h)) (by decide)) (fun _ => ?_)
  ((conv => whnf) <;> repeat (refine obl_ ?_; conv => whnf))
  refine cond_ (fun h => absurd (k.symm.trans (beq_iff_eq.1 h)) (by decide)) (fun _ => ?_)
  ((conv => whnf) <;> repeat (refine obl_ ?_; conv => whnf))
  refine cond_ (fun _ => ?_) (fun h => (beq_ne h k).elim)
  ((conv => whnf) <;> repeat (refine obl_ ?_; conv => whnf))
  refine InlP.intro (X' := ⟨tab, CE, 3000, 22⟩) (ce_at hL hg) mixed_ok Tryd.func37 (by kernel_rfl) rfl rfl (le_of_ble (by kernel_rfl)) (by kernel_rfl) ?_
  ((conv => whnf) <;> repeat (refine obl_ ?_; conv => whnf))
  refine InlP.intro (X' := ⟨tab, CE, 4000, 43⟩) (ce_at hL hg) mixed_ok Tryd.func53 (by kernel_rfl) rfl rfl (le_of_ble (by kernel_rfl)) (by kernel_rfl) ?_
  ((conv => whnf) <;> repeat (refine obl_ ?_; conv => whnf))
  refine cond_ (fun hf => ?_) (fun hf => ?_)
  · have hf' : findS 1 m.ref s.pa < 0 := of_decide_eq_true hf
    rw [moveD_5a k hf']
    ((conv => whnf) <;> repeat (refine obl_ ?_; conv => whnf))
    refine ⟨(), trivial, [], ?_⟩
    (refine ⟨?_, ?_, ?_, by kernel_rfl⟩ <;> repeat' (first | exact trivial | exact rfl | assumption | apply And.intro))
  have hf' : ¬ findS 1 m.ref s.pa < 0 := of_decide_eq_false hf
  obtain ⟨hz0, hz1, hz2⟩ := find_lt hf'
  ((conv => whnf) <;> repeat (refine obl_ ?_; conv => whnf))
  refine cond_ (fun hq => ?_) (fun hq => ?_)
  · have hq' : wr ((s.pa.getD (findS 1 m.ref s.pa).toNat zPa).qty - (s.pa.getD (findS 1 m.ref s.pa).toNat zPa).used) < m.qty := of_decide_eq_true hq
    rw [moveD_5b k hf' rfl hq']
    ((conv => whnf) <;> repeat (refine obl_ ?_; conv => whnf))
    refine ⟨(), trivial, [], ?_⟩
    (refine ⟨?_, ?_, ?_, by kernel_rfl⟩ <;> repeat' (first | exact trivial | exact rfl | assumption | apply And.intro))
  have hq' : ¬ wr ((s.pa.getD (findS 1 m.ref s.pa).toNat zPa).qty - (s.pa.getD (findS 1 m.ref s.pa).toNat zPa).used) < m.qty := of_decide_eq_false hq
  rw [moveD_5 k hf' rfl hq']
  ((conv => whnf) <;> repeat (refine obl_ ?_; conv => whnf))
  refine ⟨(), trivial, [], ?_⟩
  (refine ⟨?_, ?_, ?_, by kernel_rfl⟩ <;> repeat' (first | exact trivial | exact rfl | assumption | apply And.intro))
theorem rep_inl {g : G} (hL : Laid g.W0) (hg : ∀ i, ¬ g.S i) {s : St} {m : Mv} {tm : List (Nat × AV)} (hs : StI s) (hm : MvI m) (n2 : s.pa.length < 1000000000) (t8 : Ex.look tm 8 = .one (.ptr 51 0)) (t5 : Ex.look tm 5 = .one (.ptr 15 0)) (t4 : Ex.look tm 4 = .one (.ptr 14 0)) (t3 : Ex.look tm 3 = .one (.ptr 13 0)) (t2 : Ex.look tm 2 = .one (.ptr 12 0)) (hp : I64 s.pr) (f0 : fitB (m.cost - s.pr) = true) (k : m.kind = 6) :
    InlP Tryd.prog g (cx CE 117) (some 43) 17 [.one (.ptr 51 0)] ⟨tm, BX s m s.q s.v s.pr ⟨0, 0, 0, 0⟩, RX s s.pa⟩ (fun A1 => ∃ i : Unit, True ∧ ∃ σ, LeR (cx CE 117).base σ A1 (ID s m (moveD s m))) := by
  have hqty := hm.qty
  have hcost := hm.cost
  have hq0 := hs.q
  have ev : Nu.fitV (m.cost - s.pr) = m.cost - s.pr := fitV_t f0
  have hd : I64 (Nu.fitV (m.cost - s.pr)) := by
    rw [ev]
    exact fit_iff.1 f0
  refine InlP.intro (X' := ⟨tab, CE, 2000, 30⟩) (ce_at hL hg) mixed_ok Tryd.func17 (by kernel_rfl) rfl rfl (le_of_ble (by kernel_rfl)) (by kernel_rfl) ?_
  ((conv => whnf) <;> repeat (refine obl_ ?_; conv => whnf))
  refine cond_ (fun h => absurd (k.symm.trans (beq_iff_eq.1 h)) (by decide)) (fun _ => ?_)
  ((conv => whnf) <;> repeat (refine obl_ ?_; conv => whnf))
  refine cond_ (fun h => absurd (k.symm.trans (beq_iff_eq.1 h)) (by decide)) (fun _ => ?_)
  ((conv => whnf) <;> repeat (refine obl_ ?_; conv => whnf))
  refine cond_ (fun h => absurd (k.symm.trans (beq_iff_eq.1 h)) (by decide)) (fun _ => ?_)
  ((conv => whnf) <;> repeat (refine obl_ ?_; conv => whnf))
  refine cond_ (fun h => absurd (k.symm.trans (beq_iff_eq.1 h)) (by decide)) (fun _ => ?_)
  ((conv => whnf) <;> repeat (refine obl_ ?_; conv => whnf))
  refine cond_ (fun h => absurd (k.symm.trans (beq_iff_eq.1 h)) (by decide)) (fun _ => ?_)
  ((conv => whnf) <;> repeat (refine obl_ ?_; conv => whnf))
  refine InlP.intro (X' := ⟨tab, CE, 3000, 58⟩) (ce_at hL hg) mixed_ok Tryd.func38 (by kernel_rfl) rfl rfl (le_of_ble (by kernel_rfl)) (by kernel_rfl) ?_
  ((conv => whnf) <;> repeat (refine obl_ ?_; conv => whnf))
  rw [f0, ev]
  ((conv => whnf) <;> repeat (refine obl_ ?_; conv => whnf))
  refine cond_ (fun h1 => ?_) (fun h1 => ?_)
  · rw [moveD_6a k (.inl (not_t h1))]
    ((conv => whnf) <;> repeat (refine obl_ ?_; conv => whnf))
    refine ⟨(), trivial, [], ?_⟩
    (refine ⟨?_, ?_, ?_, by kernel_rfl⟩ <;> repeat' (first | exact trivial | exact rfl | assumption | apply And.intro))
  rw [fitV_t (not_f h1)]
  ((conv => whnf) <;> repeat (refine obl_ ?_; conv => whnf))
  refine cond_ (fun h2 => ?_) (fun h2 => ?_)
  · rw [moveD_6a k (.inr (by simpa using h2))]
    ((conv => whnf) <;> repeat (refine obl_ ?_; conv => whnf))
    refine ⟨(), trivial, [], ?_⟩
    (refine ⟨?_, ?_, ?_, by kernel_rfl⟩ <;> repeat' (first | exact trivial | exact rfl | assumption | apply And.intro))
  rw [moveD_6 k f0 (not_f h1) (by simpa using h2)]
  ((conv => whnf) <;> repeat (refine obl_ ?_; conv => whnf))
  refine ⟨(), trivial, [], ?_⟩
  (refine ⟨?_, ?_, ?_, by kernel_rfl⟩ <;> repeat' (first | exact trivial | exact rfl | assumption | apply And.intro))
end Go.Proofs.YtkimndddlnbeiaaDoor.Ff

/- standard.Step. No condition but 64 bits and what always holds of a stock. -/
namespace Go.Proofs.YtkimndddlnbeiaaDoor.Ff
open Go.RowKit Go.Proofs.YtkimndddlnbeiaaDoorW.PrintWords Go.Proofs.YtkimndddlnbeiaaDoor.Ex
set_option linter.unusedVariables false
set_option linter.unusedSimpArgs false
set_option maxRecDepth 100000
theorem stepD_1 {s : St} {m : Mv} (h : oneM m ≠ 0) : stepD s m = (oneM m, zSt, zC 0) := by unfold stepD; simp only; rw [if_pos h]
theorem stepD_2 {s : St} {m : Mv} (h : ¬ oneM m ≠ 0) (k : knS s.pa m.seq = true) : stepD s m = (8, zSt, zC 0) := by unfold stepD; simp only; rw [if_neg h, if_pos k]
theorem stepD_3 {s : St} {m : Mv} (h : ¬ oneM m ≠ 0) (k : ¬ knS s.pa m.seq = true) (e : (moveD s m).1 ≠ 0) : stepD s m = ((moveD s m).1, zSt, zC 0) := by unfold stepD; simp only; rw [if_neg h, if_neg k, if_pos e]
theorem stepD_4 {s : St} {m : Mv} (h : ¬ oneM m ≠ 0) (k : ¬ knS s.pa m.seq = true) (e : ¬ (moveD s m).1 ≠ 0) (o : fitB (s.v + (moveD s m).2.1.value) = false ∨ 1000000000 < wr (s.q + (moveD s m).2.1.qty) ∨ farS (s.v + (moveD s m).2.1.value) = true ∨ farS (moveD s m).2.1.var = true) : stepD s m = (4, zSt, zC 0) := by unfold stepD; simp only; rw [if_neg h, if_neg k, if_neg e, if_pos o]
theorem stepD_5 {s : St} {m : Mv} (h : ¬ oneM m ≠ 0) (k : ¬ knS s.pa m.seq = true) (e : ¬ (moveD s m).1 ≠ 0) (o1 : fitB (s.v + (moveD s m).2.1.value) = true) (o2 : ¬ 1000000000 < wr (s.q + (moveD s m).2.1.qty)) (o3 : farS (s.v + (moveD s m).2.1.value) = false) (o4 : farS (moveD s m).2.1.var = false) :
    stepD s m = (0, ⟨wr (s.q + (moveD s m).2.1.qty), s.v + (moveD s m).2.1.value, (moveD s m).2.2.1, s.la, (moveD s m).2.2.2⟩, (moveD s m).2.1) := by
  unfold stepD; simp only; rw [if_neg h, if_neg k, if_neg e, if_neg (by rw [o1, o3, o4]; simp only [Bool.true_eq_false, Bool.false_eq_true, false_or, or_false]; exact o2)]
theorem moveD_i {s : St} {m : Mv} (hm : MvI m) (hp : I64 s.pr) : I64 (moveD s m).2.1.value ∧ ((moveD s m).1 = 0 → (moveD s m).2.1.seq = m.seq) := by
  have f : ∀ {n : Int}, ¬ fitB n = false → I64 n := fun h => fit_iff.1 (by revert h; cases fitB _ <;> simp)
  generalize hr : moveD s m = r at *
  unfold moveD at hr
  simp only at hr
  repeat' split at hr
  all_goals subst hr
  all_goals dsimp only [zC]
  all_goals first
    | exact ⟨i64_0, fun h => absurd h (by decide)⟩
    | exact ⟨f (by assumption), fun _ => rfl⟩
    | exact ⟨i64_wrap _, fun _ => rfl⟩
    | exact ⟨i64_0, fun _ => rfl⟩
    | (rename_i h; exact ⟨f (fun e => h (.inr (.inl e))), fun _ => rfl⟩)
theorem dstep_calls {W : World} {LV PV : Value} (hL : Laid W) (s : St) (m : Mv) (h1 : Src W LV .la s.la) (h2 : Src W PV .pa s.pa) (hs : StI s) (hm : MvI m) (hI : InvD s) (n1 : s.la.length < 400000000) (n2 : s.pa.length < 1000000000) (z1 : m.item.size ≤ 140737488351232) (z2 : m.lot.size ≤ 140737488351232) :
    Calls Tryd.prog 10 #[.agg #[.int .i64 s.q, .int .i64 s.v, .int .i64 s.pr, LV, PV], .agg (mvC m).toArray] W fun e w1 => StepW W w1 (stepD s m) e := by
  obtain ⟨ρ, e1, e2, hS⟩ := start2 h1 h2
  have hg : ∀ i, ¬ (gW W).S i := fun i h => h
  have hp : I64 s.pr := ⟨by have := hI.p0; omega, by have := hI.p1; omega⟩
  refine (calls_awp (f := 10) (vs := [.agg #[.int .i64 s.q, .int .i64 s.v, .int .i64 s.pr, LV, PV], .agg (mvC m).toArray]) (cx_ok (C := CE) (nt := 117) (ce_ok hL hg)) mixed_ok Tryd.func10 rfl rfl hS (avs := [.agg [.v (.int .i64 s.q), .v (.int .i64 s.v), .v (.int .i64 s.pr), .row 0, .row 1], .agg (mvL m)])
    (fun ρ' h => ⟨⟨_, rfl, rfl, rfl, rfl, row_rel h (by simp [findR]) e1 h1, row_rel h (by simp [findR]) e2 h2, trivial⟩, mvL_args m ρ', trivial⟩) (le_of_ble (by kernel_rfl)) (K := fun v A1 => StepK (stepD s m) v A1) ?_).mono ?_
  · unfold mvL
    have l1 : s.la.length ≤ 1000000000 := by omega
    have l2 : s.pa.length ≤ 1000000000 := by omega
    have hv0 := hs.v
    obtain ⟨hmv, hseq⟩ := moveD_i (s := s) hm hp
    ((conv => whnf) <;> repeat (refine obl_ ?_; conv => whnf))
    refine cond_ (fun ho => ?_) (fun ho => ?_)
    · have ho' : oneM m ≠ 0 := bne_iff_ne.1 ho
      rw [stepD_1 ho']
      ((conv => whnf) <;> repeat (refine obl_ ?_; conv => whnf))
      exact .inl ⟨ho', rfl⟩
    have ho' : ¬ oneM m ≠ 0 := fun e => e (by simpa using ho)
    ((conv => whnf) <;> repeat (refine obl_ ?_; conv => whnf))
    refine cond_ (fun ha => ?_) (fun ha => ?_)
    · have hkn : knS s.pa m.seq = true := by
        unfold knS
        rw [decide_eq_true (of_decide_eq_true ha), Bool.true_or]
      rw [stepD_2 ho' hkn]
      ((conv => whnf) <;> repeat (refine obl_ ?_; conv => whnf))
      exact .inl ⟨by decide, rfl⟩
    ((conv => whnf) <;> repeat (refine obl_ ?_; conv => whnf))
    refine cond_ (fun hb => ?_) (fun hb => ?_)
    · have hkn : knS s.pa m.seq = true := by
        unfold knS
        rw [decide_eq_true (of_decide_eq_true hb), Bool.or_true]
      rw [stepD_2 ho' hkn]
      ((conv => whnf) <;> repeat (refine obl_ ?_; conv => whnf))
      exact .inl ⟨by decide, rfl⟩
    have hkn : ¬ knS s.pa m.seq = true := by
      unfold knS
      rw [decide_eq_false (of_decide_eq_false ha), decide_eq_false (of_decide_eq_false hb)]
      decide
    ((conv => whnf) <;> repeat (refine obl_ ?_; conv => whnf))
    refine InlP.weak (ι := Unit) (fun _ => ID s m (moveD s m)) (fun _ => True) ?_ (fun _ _ => ?_)
    · have F := one_f (Classical.not_not.1 ho')
      by_cases k1 : m.kind = 1
      · exact rec_inl hL hg n2 rfl rfl rfl rfl rfl hp hm.qty k1
      by_cases k2 : m.kind = 2
      · exact iss_inl hL hg hs hm n2 rfl rfl rfl rfl rfl hp k2
      by_cases k3 : m.kind = 3
      · exact cus_inl hL hg hs hm n2 rfl rfl rfl rfl rfl hp k3
      by_cases k4 : m.kind = 4
      · exact sup_inl hL hg hs hm n2 rfl rfl rfl rfl rfl hp k4
      by_cases k5 : m.kind = 5
      · exact lan_inl hL hg hs hm n2 rfl rfl rfl rfl rfl hp k5
      exact rep_inl hL hg hs hm n2 rfl rfl rfl rfl rfl hp (fit_iff.2 ⟨by have := F.cost; have := hI.p1; omega, by have := F.cost; have := hI.p0; omega⟩) (by have := F.kind; omega)
    ((conv => whnf) <;> repeat (refine obl_ ?_; conv => whnf))
    refine cond_ (fun he => ?_) (fun he => ?_)
    · have he' : (moveD s m).1 ≠ 0 := bne_iff_ne.1 he
      rw [stepD_3 ho' hkn he']
      ((conv => whnf) <;> repeat (refine obl_ ?_; conv => whnf))
      exact .inl ⟨he', rfl⟩
    have he0 : (moveD s m).1 = 0 := by
      have : ((moveD s m).1 != 0) = false := he
      simpa using this
    have he' : ¬ (moveD s m).1 ≠ 0 := fun e => e he0
    ((conv => whnf) <;> repeat (refine obl_ ?_; conv => whnf))
    refine cond_ (fun hf => ?_) (fun hf => ?_)
    · rw [stepD_4 ho' hkn he' (.inl (not_t hf))]
      ((conv => whnf) <;> repeat (refine obl_ ?_; conv => whnf))
      exact .inl ⟨by decide, rfl⟩
    have o1 : fitB (s.v + (moveD s m).2.1.value) = true := not_f hf
    rw [fitV_t o1]
    ((conv => whnf) <;> repeat (refine obl_ ?_; conv => whnf))
    refine cond_ (fun h3 => ?_) (fun h3 => ?_)
    · rw [stepD_4 ho' hkn he' (.inr (.inl (of_decide_eq_true h3)))]
      ((conv => whnf) <;> repeat (refine obl_ ?_; conv => whnf))
      exact .inl ⟨by decide, rfl⟩
    have o2 : ¬ 1000000000 < wr (s.q + (moveD s m).2.1.qty) := of_decide_eq_false h3
    ((conv => whnf) <;> repeat (refine obl_ ?_; conv => whnf))
    refine cond_ (fun h4 => ?_) (fun h4 => ?_)
    · rw [stepD_4 ho' hkn he' (.inr (.inr (.inl (by simpa using h4))))]
      ((conv => whnf) <;> repeat (refine obl_ ?_; conv => whnf))
      exact .inl ⟨by decide, rfl⟩
    have o3 : farS (s.v + (moveD s m).2.1.value) = false := by simpa using h4
    ((conv => whnf) <;> repeat (refine obl_ ?_; conv => whnf))
    refine cond_ (fun h5 => ?_) (fun h5 => ?_)
    · rw [stepD_4 ho' hkn he' (.inr (.inr (.inr (by simpa using h5))))]
      ((conv => whnf) <;> repeat (refine obl_ ?_; conv => whnf))
      exact .inl ⟨by decide, rfl⟩
    have o4 : farS (moveD s m).2.1.var = false := by simpa using h5
    rw [stepD_5 ho' hkn he' o1 o2 o3 o4]
    ((conv => whnf) <;> repeat (refine obl_ ?_; conv => whnf))
    rw [hseq he0]
    refine .inr ⟨rfl, _, _, ?_, rfl, rfl, rfl⟩
    decide
  · rintro e w1 ⟨x, v, A1, ρ1, a1, rfl, hv, hk, hS1, _⟩
    exact stepW hS1 hv hk stepD_z
end Go.Proofs.YtkimndddlnbeiaaDoor.Ff

/- accountingref36: what reads a stock; values; shares: as callees told. No condition but 64 bits. -/
namespace Go.Proofs.YtkimndddlnbeiaaDoor.Ff
open Go.RowKit Go.Proofs.YtkimndddlnbeiaaDoorW.PrintWords Go.Proofs.YtkimndddlnbeiaaDoor.Ex
set_option linter.unusedVariables false
set_option linter.unusedSimpArgs false
set_option maxRecDepth 100000
theorem rpast_calls {W : World} {LV PV : Value} {ls : List La} {ps : List Pa} (h1 : Src W LV .la ls) (h2 : Src W PV .pa ps) (q v pr kind seq : Int) :
    Calls Tryd.prog 21 #[.agg #[.int .i64 q, .int .i64 v, .int .i64 pr, LV, PV], .int .i64 kind, .int .i64 seq] W fun e w1 => e = .returned (.int .i64 (pastS kind seq ps)) ∧ Below W.heap.size W w1 := by
  obtain ⟨ρ, e1, e2, hS⟩ := start2 h1 h2
  have hlen : ps.length ≤ 9223372036854775807 := by obtain ⟨_, _, _, h, _⟩ := h2; exact h.2
  refine (calls_awp (f := 21) (vs := [.agg #[.int .i64 q, .int .i64 v, .int .i64 pr, LV, PV], .int .i64 kind, .int .i64 seq]) (cx_ok (C := []) (nt := 38) spc_nil) mixed_ok Tryd.func21 rfl rfl hS (avs := [.agg [.v (.int .i64 q), .v (.int .i64 v), .v (.int .i64 pr), .row 0, .row 1], .one (.v (.int .i64 kind)), .one (.v (.int .i64 seq))])
    (fun ρ' h => ⟨⟨_, rfl, rfl, rfl, rfl, row_rel h (by simp [findR]) e1 h1, row_rel h (by simp [findR]) e2 h2, trivial⟩, rfl, rfl, trivial⟩) (le_of_ble (by kernel_rfl)) (K := fun v A => v = .one (.v (.int .i64 (pastS kind seq ps)))) ?_).mono ?_
  · ((conv => whnf) <;> repeat (refine obl_ ?_; conv => whnf))
    refine LoopP.introR (cx_ok spc_nil) mixed_ok (ι := Nat) (fun k => ⟨[(7, .one (.v (.int .i64 (k : Int)))), (3, .one (.ptr 13 0)), (1, .one (.v (.int .i64 kind))), (2, .one (.v (.int .i64 seq)))], [(13, 28, [.v (.int .i64 q), .v (.int .i64 v), .v (.int .i64 pr), .row 0, .row 1])], [(0, some ⟨.la, ls, false⟩), (1, some ⟨.pa, ps, false⟩)]⟩) (fun k => k ≤ ps.length ∧ pastS kind seq ps = fi (pastP kind seq) (ps.drop k) k) (fun k => ps.length - k) 0 ⟨Nat.zero_le _, by simp [pastS]⟩ ⟨[], by (refine ⟨?_, ?_, ?_, by kernel_rfl⟩ <;> repeat' (first | exact trivial | exact rfl | assumption | apply And.intro))⟩ ?_
    rintro k ⟨hk, hfi⟩
    ((conv => whnf) <;> repeat (refine obl_ ?_; conv => whnf))
    refine cond_ (fun h => ?_) (fun h => ?_)
    · have hlt : k < ps.length := by have := of_decide_eq_true h; omega
      have i1 : 0 ≤ (k : Int) := by omega
      have i2 : (k : Int) < (ps.length : Int) := by omega
      have yes : pastP kind seq (ps.getD k zPa) = true → pastS kind seq ps = (k : Int) := fun hp => hfi.trans (fi_yes zPa hlt hp _)
      have no : pastP kind seq (ps.getD k zPa) = false → k + 1 ≤ ps.length ∧ pastS kind seq ps = fi (pastP kind seq) (ps.drop (k + 1)) ((k + 1 : Nat) : Int) := fun hp => ⟨hlt, by rw [hfi, fi_no zPa hlt hp]; simp⟩
      ((conv => whnf) <;> repeat (refine obl_ ?_; conv => whnf))
      refine cond_ (fun ha => ?_) (fun ha => ?_)
      · have ha' : ((ps.getD k zPa).seq == seq) = true := ha
        ((conv => whnf) <;> repeat (refine obl_ ?_; conv => whnf))
        refine cond_ (fun hb => ?_) (fun hb => ?_)
        · ((conv => whnf) <;> repeat (refine obl_ ?_; conv => whnf))
          exact int_ (yes (by unfold pastP; rw [ha', hb]; rfl)).symm
        · ((conv => whnf) <;> repeat (refine obl_ ?_; conv => whnf))
          refine cond_ (fun hd => ?_) (fun hd => ?_)
          · have hd' : ((ps.getD k zPa).kind == kind) = true := hd
            ((conv => whnf) <;> repeat (refine obl_ ?_; conv => whnf))
            exact int_ (yes (by unfold pastP; rw [ha', hb, hd']; rfl)).symm
          · have hd' : ((ps.getD k zPa).kind == kind) = false := hd
            ((conv => whnf) <;> repeat (refine obl_ ?_; conv => whnf))
            refine ⟨k + 1, no (by unfold pastP; rw [ha', hb, hd']; rfl), by omega, [], ?_⟩
            (refine ⟨?_, ?_, ?_, by kernel_rfl⟩ <;> repeat' (first | exact trivial | exact rfl | assumption | apply And.intro))
            exact up_ (by omega)
      · have ha' : ((ps.getD k zPa).seq == seq) = false := ha
        ((conv => whnf) <;> repeat (refine obl_ ?_; conv => whnf))
        refine ⟨k + 1, no (by unfold pastP; rw [ha']; rfl), by omega, [], ?_⟩
        (refine ⟨?_, ?_, ?_, by kernel_rfl⟩ <;> repeat' (first | exact trivial | exact rfl | assumption | apply And.intro))
        exact up_ (by omega)
    · have := of_decide_eq_false h
      ((conv => whnf) <;> repeat (refine obl_ ?_; conv => whnf))
      exact int_ (hfi.trans (fi_end (by omega) _)).symm
  · rintro e w1 ⟨x, v, A1, ρ1, a1, rfl, hv, rfl, hS1, _⟩
    exact ⟨by rw [show x = _ from hv], hS1.rel.bel⟩
def spPastD : Sp := spStV 2 fun q v ls ps ns => .int .i64 (match ns with | [a, b] => pastS a b ps | _ => 0)
theorem rpast_ok {g : G} {bs : Nat} : SpOk Tryd.prog g bs 21 spPastD := spStV_ok ⟨_, Tryd.func21, by decide +kernel, rfl⟩ (fun W LV PV ls ps q v pr ns hn h1 h2 => by
  match ns, hn with
  | [a, b], _ => exact rpast_calls h1 h2 q v pr a b)
def CV : List (Nat × Sp) := [(44, spAri fun a b => a * b)]
theorem cv_ok {g : G} {n : Nat} : ∀ f sp, lookC CV f = some sp → SpOk Tryd.prog g n f sp := spc_cons rmul_ok spc_nil
theorem rvalD_calls (a b : Int) (ha : I64 a) (hb : I64 b) (W : World) : Calls Tryd.prog 23 #[.int .i64 a, .int .i64 b] W fun e w1 => e = .returned (.int .i64 (valD a b)) ∧ Below W.heap.size W w1 := by
  refine (calls_awp (f := 23) (vs := [.int .i64 a, .int .i64 b]) (cx_ok (C := CV) (nt := 17) cv_ok) mixed_ok Tryd.func23 rfl rfl (start0 W) (avs := [.one (.v (.int .i64 a)), .one (.v (.int .i64 b))]) (fun ρ' h => ⟨rfl, rfl, trivial⟩) (le_of_ble (by kernel_rfl)) (K := fun v A => v = .one (.v (.int .i64 (valD a b)))) ?_).mono ?_
  · ((conv => whnf) <;> repeat (refine obl_ ?_; conv => whnf))
    refine cond_ (fun h => ?_) (fun h => ?_)
    · have h' := not_t h
      ((conv => whnf) <;> repeat (refine obl_ ?_; conv => whnf))
      exact int_ (by unfold valD; rw [if_pos h'])
    · have h' := not_f h
      rw [fitV_t h']
      ((conv => whnf) <;> repeat (refine obl_ ?_; conv => whnf))
      have h2 : ¬ fitB (a * b) = false := by
        have h3 : fitB (a * b) = true := h'
        rw [h3]
        decide
      exact int_ (by unfold valD; rw [if_neg h2])
  · rintro e w1 ⟨x, v, A1, ρ1, a1, rfl, hv, rfl, hS1, _⟩
    exact ⟨by rw [show x = _ from hv], hS1.rel.bel⟩
def spValD : Sp := fun d args k => match args with
  | [.one (.v (.int .i64 a)), .one (.v (.int .i64 b))] => .ob (I64 a ∧ I64 b) (k (.one (.v (.int .i64 (valD a b)))))
  | _ => .fail
theorem rvalD_ok {g : G} {bs : Nat} : SpOk Tryd.prog g bs 23 spValD := sp_val ⟨_, Tryd.func23, by decide +kernel, rfl⟩ (by
  intro d args k A r h hb
  unfold spValD at h hb
  split at h
  · rename_i a b
    simp only [M.go] at h
    simp only [M.obl] at hb
    refine ⟨_, h, hb.2, fun ρ a0 w vs hR hv => ?_⟩
    match vs, hv with
    | [v1, v2], ⟨k1, k2, _⟩ =>
      have k1' : v1 = _ := k1
      have k2' : v2 = _ := k2
      subst k1' k2'
      refine (rvalD_calls a b hb.1.1 hb.1.2 w).mono ?_
      rintro e w1 ⟨rfl, hbel⟩
      exact ⟨_, rfl, fun ρ' => rfl, hbel⟩
  · cases h)
def CM : List (Nat × Sp) := [(45, spMD Md.md)]
theorem cm_ok {g : G} {n : Nat} : ∀ f sp, lookC CM f = some sp → SpOk Tryd.prog g n f sp := spc_cons rmd_ok spc_nil
theorem rshare_calls (p : Pa) (q : Int) (W : World) (hq : I64 q) : Calls Tryd.prog 25 #[.agg #[.int .i64 p.seq, .int .i64 p.kind, .string p.lot, .int .i64 p.qty, .int .i64 p.value, .int .i64 p.used, .int .i64 p.uval], .int .i64 q] W fun e w1 => e = .returned (.int .i64 (partS (wr (p.value - p.uval)) q (wr (p.qty - p.used)))) ∧ Below W.heap.size W w1 := by
  refine (calls_awp (f := 25) (vs := [.agg #[.int .i64 p.seq, .int .i64 p.kind, .string p.lot, .int .i64 p.qty, .int .i64 p.value, .int .i64 p.used, .int .i64 p.uval], .int .i64 q]) (cx_ok (C := CM) (nt := 31) cm_ok) mixed_ok Tryd.func25 rfl rfl (start0 W) (avs := [.agg [.v (.int .i64 p.seq), .v (.int .i64 p.kind), .v (.string p.lot), .v (.int .i64 p.qty), .v (.int .i64 p.value), .v (.int .i64 p.used), .v (.int .i64 p.uval)], .one (.v (.int .i64 q))]) (fun _ _ => ⟨⟨_, rfl, rfl, rfl, rfl, rfl, rfl, rfl, rfl, trivial⟩, rfl, trivial⟩) (le_of_ble (by kernel_rfl)) (K := fun x A => x = .one (.v (.int .i64 (partS (wr (p.value - p.uval)) q (wr (p.qty - p.used)))))) ?_).mono ?_
  · ((conv => whnf) <;> repeat (refine obl_ ?_; conv => whnf))
    refine cond_ (fun h => ?_) (fun h => ?_)
    · have h' := beq_iff_eq.1 h
      ((conv => whnf) <;> repeat (refine obl_ ?_; conv => whnf))
      exact int_ (partS_1 h')
    · have h' : ¬ q = wr (p.qty - p.used) := fun e => beq_ne h e
      ((conv => whnf) <;> repeat (refine obl_ ?_; conv => whnf))
      exact int_ (partS_2 h')
  · rintro e w1 ⟨x, v, A1, ρ1, a1, rfl, hv, rfl, hS1, _⟩
    exact ⟨by rw [show x = _ from hv], hS1.rel.bel⟩
theorem rshare_ok {g : G} {bs : Nat} : SpOk Tryd.prog g bs 25 spShare := sp_val ⟨_, Tryd.func25, by decide +kernel, rfl⟩ (by
  intro d args k A r h hb
  unfold spShare at h hb
  split at h
  · rename_i seq kind lot qty value used uval q
    simp only [M.go] at h
    simp only [M.obl] at hb
    refine ⟨_, h, hb.2, fun ρ a0 w vs hR hv => ?_⟩
    match vs, hv with
    | [v1, v2], ⟨⟨us, e1, hu⟩, h2, _⟩ =>
      match us, hu with
      | [u1, u2, u3, u4, u5, u6, u7], ⟨k1, k2, k3, k4, k5, k6, k7, _⟩ =>
        have e2 : v2 = _ := h2
        simp only [L.rel] at k1 k2 k3 k4 k5 k6 k7
        subst e1 e2 k1 k2 k3 k4 k5 k6 k7
        refine (rshare_calls ⟨seq, kind, lot, qty, value, used, uval⟩ q w hb.1).mono ?_
        rintro e w1 ⟨rfl, hbel⟩
        exact ⟨_, rfl, fun ρ' => rfl, hbel⟩
  · cases h)
def CRD : List (Nat × Sp) := [(20, spOne), (21, spPastD), (24, spWit), (23, spValD), (25, spShare)]
theorem crd_ok {g : G} {n : Nat} : ∀ f sp, lookC CRD f = some sp → SpOk Tryd.prog g n f sp := spc_cons rone_ok (spc_cons rpast_ok (spc_cons rwit_ok (spc_cons rvalD_ok (spc_cons rshare_ok spc_nil))))
theorem crd_at {g : G} {b nt : Nat} : CxOk Tryd.prog g ⟨tab, CRD, b, nt⟩ := ⟨tab_ok, elt_ok, crd_ok⟩
/-- What the reference's step yields: no layers. -/
def StepN (r : Int × St × Co) (x : AV) (A : AS) : Prop := (r.1 ≠ 0 ∧ x = .tup [(true, [.v (.int .i64 0), .v (.int .i64 0), .v (.int .i64 0), .v (.slice none 0 0), .v (.slice none 0 0)]), (true, [.v (.int .i64 0), .v (.int .i64 0), .v (.int .i64 0), .v (.int .i64 0)]), (false, [.v (.int .i64 r.1)])]) ∨
  (r.1 = 0 ∧ ∃ k2, x = .tup [(true, [.v (.int .i64 r.2.1.q), .v (.int .i64 r.2.1.v), .v (.int .i64 r.2.1.pr), .v (.slice none 0 0), .row k2]), (true, [.v (.int .i64 r.2.2.seq), .v (.int .i64 r.2.2.qty), .v (.int .i64 r.2.2.value), .v (.int .i64 r.2.2.var)]), (false, [.v (.int .i64 0)])] ∧ r.2.1.la = [] ∧ findR A.rw k2 = some (some ⟨.pa, r.2.1.pa, true⟩))
theorem stepN {W w1 : World} {ρ1 : Env} {A1 : AS} {a1 : Act} {x : Value} {v : AV} {r : Int × St × Co} (hS : Sat (gW W) ρ1 A1 a1 w1) (hv : v.rel ρ1 x) (hk : StepN r v A1) (hz : r.1 ≠ 0 → r.2.1 = zSt ∧ r.2.2 = zC 0) : StepW W w1 r (.returned x) := by
  rcases hk with h | ⟨h0, k2, rfl, hl, f2⟩
  · exact stepW hS hv (.inl h) hz
  · obtain ⟨us, eu, hu⟩ := hv
    match us, hu with
    | [u1, u2, u3], ⟨⟨vs1, c1, d1⟩, ⟨vs2, c2, d2⟩, c3, _⟩ =>
      match vs1, d1, vs2, d2 with
      | [a1, a2, a3, a4, a5], ⟨b1, b2, b3, b4, b5, _⟩, [a6, a7, a8, a9], ⟨b6, b7, b8, b9, _⟩ =>
        simp only [L.rel] at b1 b2 b3 b4 b5 b6 b7 b8 b9
        have c3' : u3 = _ := c3
        obtain ⟨b5, _⟩ := b5
        subst eu c1 c2 c3' b1 b2 b3 b4 b5 b6 b7 b8 b9
        exact ⟨_, _, by rw [h0]; rfl, by rw [hl]; exact ⟨rfl, .inl ⟨rfl, rfl⟩⟩, (hS.ownR f2).mono (fun b _ hb => gW_mine hb), (fun b hb => (by cases hb)), (fun b _ hb => (by cases hb)), hS.rel.bel, fun h => absurd h0 h⟩
end Go.Proofs.YtkimndddlnbeiaaDoor.Ff

/- accountingref36.Step, plain: its ways. No program in sight. -/
namespace Go.Proofs.YtkimndddlnbeiaaDoor.Ff
open Go.RowKit Go.Proofs.YtkimndddlnbeiaaDoorW.PrintWords Go.Proofs.YtkimndddlnbeiaaDoor.Ex
set_option linter.unusedVariables false
set_option linter.unusedSimpArgs false
set_option maxRecDepth 100000
/-- The end of the reference's step. -/
def finR (s : St) (m : Mv) (cq pr : Int) (var : Int → Int) (pa : Int → List Pa) : Int × St × Co :=
  if wr (s.q + cq) < 0 then (21, zSt, zC 0) else
  if 1000000000 < wr (s.q + cq) then (4, zSt, zC 0) else
  if farS (valD (wr (s.q + cq)) pr) = true then (4, zSt, zC 0) else
  if farS (var (wr (valD (wr (s.q + cq)) pr - s.v))) = true then (4, zSt, zC 0) else
  (0, ⟨wr (s.q + cq), valD (wr (s.q + cq)) pr, pr, [], pa (wr (valD (wr (s.q + cq)) pr - s.v))⟩, ⟨m.seq, cq, wr (valD (wr (s.q + cq)) pr - s.v), var (wr (valD (wr (s.q + cq)) pr - s.v))⟩)
section
variable {s : St} {m : Mv} {cq pr : Int} {var : Int → Int} {pa : Int → List Pa}
theorem finR_1 (h : wr (s.q + cq) < 0) : finR s m cq pr var pa = (21, zSt, zC 0) := by unfold finR; rw [if_pos h]
theorem finR_2 (h : ¬ wr (s.q + cq) < 0) (h2 : 1000000000 < wr (s.q + cq)) : finR s m cq pr var pa = (4, zSt, zC 0) := by unfold finR; rw [if_neg h, if_pos h2]
theorem finR_3 (h : ¬ wr (s.q + cq) < 0) (h2 : ¬ 1000000000 < wr (s.q + cq)) (h3 : farS (valD (wr (s.q + cq)) pr) = true) : finR s m cq pr var pa = (4, zSt, zC 0) := by unfold finR; rw [if_neg h, if_neg h2, if_pos h3]
theorem finR_4 (h : ¬ wr (s.q + cq) < 0) (h2 : ¬ 1000000000 < wr (s.q + cq)) (h3 : ¬ farS (valD (wr (s.q + cq)) pr) = true) (h4 : farS (var (wr (valD (wr (s.q + cq)) pr - s.v))) = true) : finR s m cq pr var pa = (4, zSt, zC 0) := by unfold finR; rw [if_neg h, if_neg h2, if_neg h3, if_pos h4]
theorem finR_5 (h : ¬ wr (s.q + cq) < 0) (h2 : ¬ 1000000000 < wr (s.q + cq)) (h3 : ¬ farS (valD (wr (s.q + cq)) pr) = true) (h4 : ¬ farS (var (wr (valD (wr (s.q + cq)) pr - s.v))) = true) : finR s m cq pr var pa = (0, ⟨wr (s.q + cq), valD (wr (s.q + cq)) pr, pr, [], pa (wr (valD (wr (s.q + cq)) pr - s.v))⟩, ⟨m.seq, cq, wr (valD (wr (s.q + cq)) pr - s.v), var (wr (valD (wr (s.q + cq)) pr - s.v))⟩) := by unfold finR; rw [if_neg h, if_neg h2, if_neg h3, if_neg h4]
end
theorem or_split {a b : Prop} [Decidable a] [Decidable b] {α : Type} {x y : α} : (if a ∨ b then x else y) = if a then x else if b then x else y := by
  by_cases h : a <;> by_cases k : b <;> simp [h, k]
section
variable {s : St} {m : Mv}
theorem stepDR_0 (h : oneM m ≠ 0) : stepDR s m = (oneM m, zSt, zC 0) := by unfold stepDR; simp only; rw [if_pos h]
theorem stepDR_k (h : ¬ oneM m ≠ 0) (k : knF s.pa m.seq = true) : stepDR s m = (8, zSt, zC 0) := by unfold stepDR; simp only; rw [if_neg h, if_pos k]
theorem stepDR_t1 (h : ¬ oneM m ≠ 0) (k : ¬ knF s.pa m.seq = true) (e : m.kind = 1) : stepDR s m = finR s m m.qty s.pr (fun cv => wr (m.cost - cv)) (fun cv => s.pa ++ [⟨m.seq, m.kind, m.lot, m.qty, m.cost, 0, 0⟩]) := by
  unfold stepDR finR; simp only; rw [if_neg h, if_neg k]; simp only [e, Int.reduceEq, reduceIte, or_self, or_false, false_or, true_or, or_true, false_and, true_and]; rw [or_split]
theorem stepDR_t2 (h : ¬ oneM m ≠ 0) (k : ¬ knF s.pa m.seq = true) (e : m.kind = 2) : stepDR s m = finR s m (wr (0 - m.qty)) s.pr (fun cv => 0) (fun cv => s.pa ++ [⟨m.seq, m.kind, m.lot, m.qty, wr (0 - cv), 0, 0⟩]) := by
  unfold stepDR finR; simp only; rw [if_neg h, if_neg k]; simp only [e, Int.reduceEq, reduceIte, or_self, or_false, false_or, true_or, or_true, false_and, true_and]; rw [or_split]
theorem stepDR_a {n : Int} (h : ¬ oneM m ≠ 0) (k : ¬ knF s.pa m.seq = true) (e : m.kind = 3 ∧ n = 2 ∨ (m.kind = 4 ∨ m.kind = 5) ∧ n = 1) (f : findS n m.ref s.pa < 0) : stepDR s m = (28, zSt, zC 0) := by
  unfold stepDR; simp only; rw [if_neg h, if_neg k]
  rcases e with ⟨e, rfl⟩ | ⟨e | e, rfl⟩ <;> simp only [e, f, Int.reduceEq, reduceIte, or_self, or_false, false_or, true_or, or_true, false_and, true_and]
theorem stepDR_b {n : Int} {p : Pa} (h : ¬ oneM m ≠ 0) (k : ¬ knF s.pa m.seq = true) (e : m.kind = 3 ∧ n = 2 ∨ (m.kind = 4 ∨ m.kind = 5) ∧ n = 1) (f : ¬ findS n m.ref s.pa < 0) (hp : s.pa.getD (findS n m.ref s.pa).toNat zPa = p) (hq : wr (p.qty - p.used) < m.qty) : stepDR s m = (21, zSt, zC 0) := by
  subst hp; unfold stepDR; simp only; rw [if_neg h, if_neg k]
  rcases e with ⟨e, rfl⟩ | ⟨e | e, rfl⟩ <;> simp only [e, f, hq, Int.reduceEq, reduceIte, or_self, or_false, false_or, true_or, or_true, false_and, true_and]
theorem stepDR_t3 {p : Pa} (h : ¬ oneM m ≠ 0) (k : ¬ knF s.pa m.seq = true) (e : m.kind = 3) (f : ¬ findS 2 m.ref s.pa < 0) (hp : s.pa.getD (findS 2 m.ref s.pa).toNat zPa = p) (hq : ¬ wr (p.qty - p.used) < m.qty) : stepDR s m = finR s m m.qty s.pr (fun cv => wr (partS (wr (p.value - p.uval)) m.qty (wr (p.qty - p.used)) - cv)) (fun cv => s.pa.set (findS 2 m.ref s.pa).toNat { p with used := wr (p.used + m.qty), uval := wr (p.uval + partS (wr (p.value - p.uval)) m.qty (wr (p.qty - p.used))) }) := by
  subst hp; unfold stepDR finR; simp only; rw [if_neg h, if_neg k]; simp only [e, f, hq, Int.reduceEq, reduceIte, or_self, or_false, false_or, true_or, or_true, false_and, true_and]; rw [or_split]
theorem stepDR_t4 {p : Pa} (h : ¬ oneM m ≠ 0) (k : ¬ knF s.pa m.seq = true) (e : m.kind = 4) (f : ¬ findS 1 m.ref s.pa < 0) (hp : s.pa.getD (findS 1 m.ref s.pa).toNat zPa = p) (hq : ¬ wr (p.qty - p.used) < m.qty) : stepDR s m = finR s m (wr (0 - m.qty)) s.pr (fun cv => wr (wr (0 - cv) - m.cost)) (fun cv => s.pa.set (findS 1 m.ref s.pa).toNat { p with used := wr (p.used + m.qty) }) := by
  subst hp; unfold stepDR finR; simp only; rw [if_neg h, if_neg k]; simp only [e, f, hq, Int.reduceEq, reduceIte, or_self, or_false, false_or, true_or, or_true, false_and, true_and]; rw [or_split]
theorem stepDR_t5 {p : Pa} (h : ¬ oneM m ≠ 0) (k : ¬ knF s.pa m.seq = true) (e : m.kind = 5) (f : ¬ findS 1 m.ref s.pa < 0) (hp : s.pa.getD (findS 1 m.ref s.pa).toNat zPa = p) (hq : ¬ wr (p.qty - p.used) < m.qty) : stepDR s m = finR s m 0 s.pr (fun cv => m.cost) (fun cv => s.pa) := by
  subst hp; unfold stepDR finR; simp only; rw [if_neg h, if_neg k]; simp only [e, f, hq, Int.reduceEq, reduceIte, or_self, or_false, false_or, true_or, or_true, false_and, true_and]; rw [or_split]
theorem stepDR_t6 (h : ¬ oneM m ≠ 0) (k : ¬ knF s.pa m.seq = true) (e : m.kind = 6) : stepDR s m = finR s m 0 m.cost (fun cv => wr (0 - cv)) (fun cv => s.pa) := by
  unfold stepDR finR; simp only; rw [if_neg h, if_neg k]; simp only [e, Int.reduceEq, reduceIte, or_self, or_false, false_or, true_or, or_true, false_and, true_and]; rw [or_split]
theorem ite_z {c : Prop} [Decidable c] {x y : Int × St × Co} (hx : x.1 ≠ 0 → x.2.1 = zSt ∧ x.2.2 = zC 0) (hy : y.1 ≠ 0 → y.2.1 = zSt ∧ y.2.2 = zC 0) : (if c then x else y).1 ≠ 0 → (if c then x else y).2.1 = zSt ∧ (if c then x else y).2.2 = zC 0 := by
  split
  · exact hx
  · exact hy
theorem stepDR_z : (stepDR s m).1 ≠ 0 → (stepDR s m).2.1 = zSt ∧ (stepDR s m).2.2 = zC 0 := by
  unfold stepDR
  exact ite_z (fun _ => ⟨rfl, rfl⟩) (ite_z (fun _ => ⟨rfl, rfl⟩) (ite_z (fun _ => ⟨rfl, rfl⟩) (ite_z (fun _ => ⟨rfl, rfl⟩) (ite_z (fun _ => ⟨rfl, rfl⟩) (ite_z (fun _ => ⟨rfl, rfl⟩) (ite_z (fun _ => ⟨rfl, rfl⟩) (fun h => absurd rfl h)))))))
end
end Go.Proofs.YtkimndddlnbeiaaDoor.Ff

/- accountingref36.Step. No condition but 64 bits. -/
namespace Go.Proofs.YtkimndddlnbeiaaDoor.Ff
open Go.RowKit Go.Proofs.YtkimndddlnbeiaaDoorW.PrintWords Go.Proofs.YtkimndddlnbeiaaDoor.Ex
set_option linter.unusedVariables false
set_option linter.unusedSimpArgs false
set_option maxRecDepth 100000
theorem nn_t {b : Bool} (h : (!(!b)) = true) : b = true := by simpa using h
theorem nn_f {b : Bool} (h : (!(!b)) = false) : ¬ b = true := by simpa using h
set_option maxHeartbeats 4000000 in
theorem rstepD_calls {W : World} {LV PV : Value} (s : St) (m : Mv) (h1 : Src W LV .la s.la) (h2 : Src W PV .pa s.pa) (hs : StI s) (hm : MvI m) (hp : I64 s.pr) (n1 : s.la.length < 400000000) (n2 : s.pa.length < 1000000000) (z1 : m.item.size ≤ 140737488351232) (z2 : m.lot.size ≤ 140737488351232) :
    Calls Tryd.prog 11 #[.agg #[.int .i64 s.q, .int .i64 s.v, .int .i64 s.pr, LV, PV], .agg (mvC m).toArray] W fun e w1 => StepW W w1 (stepDR s m) e := by
  obtain ⟨ρ, e1, e2, hS⟩ := start2 h1 h2
  refine (calls_awp (f := 11) (vs := [.agg #[.int .i64 s.q, .int .i64 s.v, .int .i64 s.pr, LV, PV], .agg (mvC m).toArray]) (cx_ok (C := CRD) (nt := 239) crd_ok) mixed_ok Tryd.func11 rfl rfl hS (avs := [.agg [.v (.int .i64 s.q), .v (.int .i64 s.v), .v (.int .i64 s.pr), .row 0, .row 1], .agg (mvL m)])
    (fun ρ' h => ⟨⟨_, rfl, rfl, rfl, rfl, row_rel h (by simp [findR]) e1 h1, row_rel h (by simp [findR]) e2 h2, trivial⟩, mvL_args m ρ', trivial⟩) (le_of_ble (by kernel_rfl)) (K := fun v A1 => StepN (stepDR s m) v A1) ?_).mono ?_
  · unfold mvL
    have l1 : s.la.length ≤ 1000000000 := by omega
    have l2 : s.pa.length ≤ 1000000000 := by omega
    have hqty := hm.qty
    have hcost := hm.cost
    have hq0 := hs.q
    ((conv => whnf) <;> repeat (refine obl_ ?_; conv => whnf))
    refine cond_ (fun ho => ?_) (fun ho => ?_)
    · have ho' : oneM m ≠ 0 := bne_iff_ne.1 ho
      rw [stepDR_0 ho']
      ((conv => whnf) <;> repeat (refine obl_ ?_; conv => whnf))
      exact .inl ⟨ho', rfl⟩
    have ho' : ¬ oneM m ≠ 0 := fun e => e (by simpa using ho)
    ((conv => whnf) <;> repeat (refine obl_ ?_; conv => whnf))
    refine cond_ (fun ha => ?_) (fun ha => ?_)
    · have hkn : knF s.pa m.seq = true := by
        unfold knF
        rw [← pastS_kn]
        exact ha
      rw [stepDR_k ho' hkn]
      ((conv => whnf) <;> repeat (refine obl_ ?_; conv => whnf))
      exact .inl ⟨by decide, rfl⟩
    have hkn : ¬ knF s.pa m.seq = true := by
      unfold knF
      rw [← pastS_kn]
      intro e
      have e2 := of_decide_eq_true e
      have e3 := of_decide_eq_false ha
      exact e3 e2
    have F := one_f (Classical.not_not.1 ho')
    have h6 : m.kind = 1 ∨ m.kind = 2 ∨ m.kind = 3 ∨ m.kind = 4 ∨ m.kind = 5 ∨ m.kind = 6 := by have := F.kind; omega
    rcases h6 with k | k | k | k | k | k
    · ((conv => whnf) <;> repeat (refine obl_ ?_; conv => whnf))
      refine cond_ (fun h => absurd (k.symm.trans (beq_iff_eq.1 h)) (by decide)) (fun _ => ?_)
      ((conv => whnf) <;> repeat (refine obl_ ?_; conv => whnf))
      refine cond_ (fun h => absurd (k.symm.trans (beq_iff_eq.1 h)) (by decide)) (fun _ => ?_)
      ((conv => whnf) <;> repeat (refine obl_ ?_; conv => whnf))
      refine cond_ (fun h => absurd (k.symm.trans (beq_iff_eq.1 h)) (by decide)) (fun _ => ?_)
      ((conv => whnf) <;> repeat (refine obl_ ?_; conv => whnf))
      have T := stepDR_t1 ho' hkn k
      refine cond_ (fun _ => ?_) (fun h => (beq_ne h k).elim)
      ((conv => whnf) <;> repeat (refine obl_ ?_; conv => whnf))
      refine cond_ (fun _ => ?_) (fun h => (beq_ne h k).elim)
      ((conv => whnf) <;> repeat (refine obl_ ?_; conv => whnf))
      refine cond_ (fun c1 => ?_) (fun c1 => ?_)
      · rw [T.trans (finR_1 (of_decide_eq_true c1))]
        ((conv => whnf) <;> repeat (refine obl_ ?_; conv => whnf))
        exact .inl ⟨by decide, rfl⟩
      have c1' : ¬ wr (s.q + m.qty) < 0 := of_decide_eq_false c1
      have iq : I64 (wr (s.q + m.qty)) := i64_wrap _
      ((conv => whnf) <;> repeat (refine obl_ ?_; conv => whnf))
      refine cond_ (fun c2 => ?_) (fun c2 => ?_)
      · rw [T.trans (finR_2 c1' (of_decide_eq_true c2))]
        ((conv => whnf) <;> repeat (refine obl_ ?_; conv => whnf))
        exact .inl ⟨by decide, rfl⟩
      have c2' : ¬ 1000000000 < wr (s.q + m.qty) := of_decide_eq_false c2
      ((conv => whnf) <;> repeat (refine obl_ ?_; conv => whnf))
      refine cond_ (fun c3 => ?_) (fun c3 => ?_)
      · have c3' : farS (valD (wr (s.q + m.qty)) s.pr) = true := nn_t c3
        rw [T.trans (finR_3 c1' c2' c3')]
        ((conv => whnf) <;> repeat (refine obl_ ?_; conv => whnf))
        exact .inl ⟨by decide, rfl⟩
      have c3' : ¬ farS (valD (wr (s.q + m.qty)) s.pr) = true := nn_f c3
      ((conv => whnf) <;> repeat (refine obl_ ?_; conv => whnf))
      refine cond_ (fun _ => ?_) (fun h => (beq_ne h k).elim)
      ((conv => whnf) <;> repeat (refine obl_ ?_; conv => whnf))
      refine cond_ (fun c4 => ?_) (fun c4 => ?_)
      · have c4' : farS (wr (m.cost - wr (valD (wr (s.q + m.qty)) s.pr - s.v))) = true := nn_t c4
        rw [T.trans (finR_4 c1' c2' c3' c4')]
        ((conv => whnf) <;> repeat (refine obl_ ?_; conv => whnf))
        exact .inl ⟨by decide, rfl⟩
      have c4' : ¬ farS (wr (m.cost - wr (valD (wr (s.q + m.qty)) s.pr - s.v))) = true := nn_f c4
      rw [T.trans (finR_5 c1' c2' c3' c4')]
      ((conv => whnf) <;> repeat (refine obl_ ?_; conv => whnf))
      exact .inr ⟨rfl, _, rfl, rfl, rfl⟩
    · ((conv => whnf) <;> repeat (refine obl_ ?_; conv => whnf))
      refine cond_ (fun h => absurd (k.symm.trans (beq_iff_eq.1 h)) (by decide)) (fun _ => ?_)
      ((conv => whnf) <;> repeat (refine obl_ ?_; conv => whnf))
      refine cond_ (fun h => absurd (k.symm.trans (beq_iff_eq.1 h)) (by decide)) (fun _ => ?_)
      ((conv => whnf) <;> repeat (refine obl_ ?_; conv => whnf))
      refine cond_ (fun h => absurd (k.symm.trans (beq_iff_eq.1 h)) (by decide)) (fun _ => ?_)
      ((conv => whnf) <;> repeat (refine obl_ ?_; conv => whnf))
      have T := stepDR_t2 ho' hkn k
      refine cond_ (fun h => absurd (k.symm.trans (beq_iff_eq.1 h)) (by decide)) (fun _ => ?_)
      ((conv => whnf) <;> repeat (refine obl_ ?_; conv => whnf))
      refine cond_ (fun h => absurd (k.symm.trans (beq_iff_eq.1 h)) (by decide)) (fun _ => ?_)
      ((conv => whnf) <;> repeat (refine obl_ ?_; conv => whnf))
      refine cond_ (fun _ => ?_) (fun h => (beq_ne h k).elim)
      ((conv => whnf) <;> repeat (refine obl_ ?_; conv => whnf))
      refine cond_ (fun _ => ?_) (fun h => (beq_ne h k).elim)
      ((conv => whnf) <;> repeat (refine obl_ ?_; conv => whnf))
      refine cond_ (fun c1 => ?_) (fun c1 => ?_)
      · rw [T.trans (finR_1 (of_decide_eq_true c1))]
        ((conv => whnf) <;> repeat (refine obl_ ?_; conv => whnf))
        exact .inl ⟨by decide, rfl⟩
      have c1' : ¬ wr (s.q + wr (0 - m.qty)) < 0 := of_decide_eq_false c1
      have iq : I64 (wr (s.q + wr (0 - m.qty))) := i64_wrap _
      ((conv => whnf) <;> repeat (refine obl_ ?_; conv => whnf))
      refine cond_ (fun c2 => ?_) (fun c2 => ?_)
      · rw [T.trans (finR_2 c1' (of_decide_eq_true c2))]
        ((conv => whnf) <;> repeat (refine obl_ ?_; conv => whnf))
        exact .inl ⟨by decide, rfl⟩
      have c2' : ¬ 1000000000 < wr (s.q + wr (0 - m.qty)) := of_decide_eq_false c2
      ((conv => whnf) <;> repeat (refine obl_ ?_; conv => whnf))
      refine cond_ (fun c3 => ?_) (fun c3 => ?_)
      · have c3' : farS (valD (wr (s.q + wr (0 - m.qty))) s.pr) = true := nn_t c3
        rw [T.trans (finR_3 c1' c2' c3')]
        ((conv => whnf) <;> repeat (refine obl_ ?_; conv => whnf))
        exact .inl ⟨by decide, rfl⟩
      have c3' : ¬ farS (valD (wr (s.q + wr (0 - m.qty))) s.pr) = true := nn_f c3
      ((conv => whnf) <;> repeat (refine obl_ ?_; conv => whnf))
      refine cond_ (fun h => absurd (k.symm.trans (beq_iff_eq.1 h)) (by decide)) (fun _ => ?_)
      ((conv => whnf) <;> repeat (refine obl_ ?_; conv => whnf))
      refine cond_ (fun _ => ?_) (fun h => (beq_ne h k).elim)
      ((conv => whnf) <;> repeat (refine obl_ ?_; conv => whnf))
      have c4' : ¬ farS (0) = true := by decide
      try refine cond_ (fun c4 => absurd c4 (by decide)) (fun c4 => ?_)
      rw [T.trans (finR_5 c1' c2' c3' c4')]
      ((conv => whnf) <;> repeat (refine obl_ ?_; conv => whnf))
      exact .inr ⟨rfl, _, rfl, rfl, rfl⟩
    · ((conv => whnf) <;> repeat (refine obl_ ?_; conv => whnf))
      refine cond_ (fun _ => ?_) (fun h => (beq_ne h k).elim)
      ((conv => whnf) <;> repeat (refine obl_ ?_; conv => whnf))
      refine InlP.intro (X' := ⟨tab, CRD, 2000, 35⟩) crd_at mixed_ok Tryd.func22 (by kernel_rfl) rfl rfl (le_of_ble (by kernel_rfl)) (by kernel_rfl) ?_
      ((conv => whnf) <;> repeat (refine obl_ ?_; conv => whnf))
      refine cond_ (fun _ => ?_) (fun h => (beq_ne h k).elim)
      ((conv => whnf) <;> repeat (refine obl_ ?_; conv => whnf))
      have e2 := pastS_find (kind := 2) (seq := m.ref) (by decide) s.pa
      refine cond_ (fun hf => ?_) (fun hf => ?_)
      · have hf' : pastS 2 m.ref s.pa < 0 := of_decide_eq_true hf
        rw [stepDR_a ho' hkn (.inl ⟨k, rfl⟩) (by rw [← e2]; exact hf')]
        ((conv => whnf) <;> repeat (refine obl_ ?_; conv => whnf))
        exact .inl ⟨by decide, rfl⟩
      have hf' : ¬ findS 2 m.ref s.pa < 0 := by
        rw [← e2]
        exact of_decide_eq_false hf
      have hzz := find_lt hf'
      rw [← e2] at hzz
      obtain ⟨hz0, hz1, hz2⟩ := hzz
      ((conv => whnf) <;> repeat (refine obl_ ?_; conv => whnf))
      refine cond_ (fun hq => ?_) (fun hq => ?_)
      · have hq' : wr ((s.pa.getD (pastS 2 m.ref s.pa).toNat zPa).qty - (s.pa.getD (pastS 2 m.ref s.pa).toNat zPa).used) < m.qty := of_decide_eq_true hq
        rw [stepDR_b ho' hkn (.inl ⟨k, rfl⟩) hf' (by rw [e2]) hq']
        ((conv => whnf) <;> repeat (refine obl_ ?_; conv => whnf))
        exact .inl ⟨by decide, rfl⟩
      have hq' : ¬ wr ((s.pa.getD (pastS 2 m.ref s.pa).toNat zPa).qty - (s.pa.getD (pastS 2 m.ref s.pa).toNat zPa).used) < m.qty := of_decide_eq_false hq
      have T := stepDR_t3 ho' hkn k hf' (show s.pa.getD (findS 2 m.ref s.pa).toNat zPa = s.pa.getD (pastS 2 m.ref s.pa).toNat zPa by rw [e2]) hq'
      rw [← e2] at T
      ((conv => whnf) <;> repeat (refine obl_ ?_; conv => whnf))
      refine cond_ (fun h => absurd (k.symm.trans (beq_iff_eq.1 h)) (by decide)) (fun _ => ?_)
      ((conv => whnf) <;> repeat (refine obl_ ?_; conv => whnf))
      refine cond_ (fun _ => ?_) (fun h => (beq_ne h k).elim)
      ((conv => whnf) <;> repeat (refine obl_ ?_; conv => whnf))
      refine cond_ (fun c1 => ?_) (fun c1 => ?_)
      · rw [T.trans (finR_1 (of_decide_eq_true c1))]
        ((conv => whnf) <;> repeat (refine obl_ ?_; conv => whnf))
        exact .inl ⟨by decide, rfl⟩
      have c1' : ¬ wr (s.q + m.qty) < 0 := of_decide_eq_false c1
      have iq : I64 (wr (s.q + m.qty)) := i64_wrap _
      ((conv => whnf) <;> repeat (refine obl_ ?_; conv => whnf))
      refine cond_ (fun c2 => ?_) (fun c2 => ?_)
      · rw [T.trans (finR_2 c1' (of_decide_eq_true c2))]
        ((conv => whnf) <;> repeat (refine obl_ ?_; conv => whnf))
        exact .inl ⟨by decide, rfl⟩
      have c2' : ¬ 1000000000 < wr (s.q + m.qty) := of_decide_eq_false c2
      ((conv => whnf) <;> repeat (refine obl_ ?_; conv => whnf))
      refine cond_ (fun c3 => ?_) (fun c3 => ?_)
      · have c3' : farS (valD (wr (s.q + m.qty)) s.pr) = true := nn_t c3
        rw [T.trans (finR_3 c1' c2' c3')]
        ((conv => whnf) <;> repeat (refine obl_ ?_; conv => whnf))
        exact .inl ⟨by decide, rfl⟩
      have c3' : ¬ farS (valD (wr (s.q + m.qty)) s.pr) = true := nn_f c3
      ((conv => whnf) <;> repeat (refine obl_ ?_; conv => whnf))
      refine cond_ (fun h => absurd (k.symm.trans (beq_iff_eq.1 h)) (by decide)) (fun _ => ?_)
      ((conv => whnf) <;> repeat (refine obl_ ?_; conv => whnf))
      refine cond_ (fun h => absurd (k.symm.trans (beq_iff_eq.1 h)) (by decide)) (fun _ => ?_)
      ((conv => whnf) <;> repeat (refine obl_ ?_; conv => whnf))
      refine cond_ (fun _ => ?_) (fun h => (beq_ne h k).elim)
      ((conv => whnf) <;> repeat (refine obl_ ?_; conv => whnf))
      refine cond_ (fun c4 => ?_) (fun c4 => ?_)
      · have c4' : farS (wr (partS (wr ((s.pa.getD (pastS 2 m.ref s.pa).toNat zPa).value - (s.pa.getD (pastS 2 m.ref s.pa).toNat zPa).uval)) m.qty (wr ((s.pa.getD (pastS 2 m.ref s.pa).toNat zPa).qty - (s.pa.getD (pastS 2 m.ref s.pa).toNat zPa).used)) - wr (valD (wr (s.q + m.qty)) s.pr - s.v))) = true := nn_t c4
        rw [T.trans (finR_4 c1' c2' c3' c4')]
        ((conv => whnf) <;> repeat (refine obl_ ?_; conv => whnf))
        exact .inl ⟨by decide, rfl⟩
      have c4' : ¬ farS (wr (partS (wr ((s.pa.getD (pastS 2 m.ref s.pa).toNat zPa).value - (s.pa.getD (pastS 2 m.ref s.pa).toNat zPa).uval)) m.qty (wr ((s.pa.getD (pastS 2 m.ref s.pa).toNat zPa).qty - (s.pa.getD (pastS 2 m.ref s.pa).toNat zPa).used)) - wr (valD (wr (s.q + m.qty)) s.pr - s.v))) = true := nn_f c4
      rw [T.trans (finR_5 c1' c2' c3' c4')]
      ((conv => whnf) <;> repeat (refine obl_ ?_; conv => whnf))
      refine .inr ⟨rfl, _, rfl, rfl, ?_⟩
      exact row_eq (pa_back hz2 _ _)
    · ((conv => whnf) <;> repeat (refine obl_ ?_; conv => whnf))
      refine cond_ (fun h => absurd (k.symm.trans (beq_iff_eq.1 h)) (by decide)) (fun _ => ?_)
      ((conv => whnf) <;> repeat (refine obl_ ?_; conv => whnf))
      refine cond_ (fun _ => ?_) (fun h => (beq_ne h k).elim)
      ((conv => whnf) <;> repeat (refine obl_ ?_; conv => whnf))
      refine InlP.intro (X' := ⟨tab, CRD, 2000, 35⟩) crd_at mixed_ok Tryd.func22 (by kernel_rfl) rfl rfl (le_of_ble (by kernel_rfl)) (by kernel_rfl) ?_
      ((conv => whnf) <;> repeat (refine obl_ ?_; conv => whnf))
      refine cond_ (fun h => absurd (k.symm.trans (beq_iff_eq.1 h)) (by decide)) (fun _ => ?_)
      ((conv => whnf) <;> repeat (refine obl_ ?_; conv => whnf))
      have e2 := pastS_find (kind := 1) (seq := m.ref) (by decide) s.pa
      refine cond_ (fun hf => ?_) (fun hf => ?_)
      · have hf' : pastS 1 m.ref s.pa < 0 := of_decide_eq_true hf
        rw [stepDR_a ho' hkn (.inr ⟨.inl k, rfl⟩) (by rw [← e2]; exact hf')]
        ((conv => whnf) <;> repeat (refine obl_ ?_; conv => whnf))
        exact .inl ⟨by decide, rfl⟩
      have hf' : ¬ findS 1 m.ref s.pa < 0 := by
        rw [← e2]
        exact of_decide_eq_false hf
      have hzz := find_lt hf'
      rw [← e2] at hzz
      obtain ⟨hz0, hz1, hz2⟩ := hzz
      ((conv => whnf) <;> repeat (refine obl_ ?_; conv => whnf))
      refine cond_ (fun hq => ?_) (fun hq => ?_)
      · have hq' : wr ((s.pa.getD (pastS 1 m.ref s.pa).toNat zPa).qty - (s.pa.getD (pastS 1 m.ref s.pa).toNat zPa).used) < m.qty := of_decide_eq_true hq
        rw [stepDR_b ho' hkn (.inr ⟨.inl k, rfl⟩) hf' (by rw [e2]) hq']
        ((conv => whnf) <;> repeat (refine obl_ ?_; conv => whnf))
        exact .inl ⟨by decide, rfl⟩
      have hq' : ¬ wr ((s.pa.getD (pastS 1 m.ref s.pa).toNat zPa).qty - (s.pa.getD (pastS 1 m.ref s.pa).toNat zPa).used) < m.qty := of_decide_eq_false hq
      have T := stepDR_t4 ho' hkn k hf' (show s.pa.getD (findS 1 m.ref s.pa).toNat zPa = s.pa.getD (pastS 1 m.ref s.pa).toNat zPa by rw [e2]) hq'
      rw [← e2] at T
      ((conv => whnf) <;> repeat (refine obl_ ?_; conv => whnf))
      refine cond_ (fun h => absurd (k.symm.trans (beq_iff_eq.1 h)) (by decide)) (fun _ => ?_)
      ((conv => whnf) <;> repeat (refine obl_ ?_; conv => whnf))
      refine cond_ (fun h => absurd (k.symm.trans (beq_iff_eq.1 h)) (by decide)) (fun _ => ?_)
      ((conv => whnf) <;> repeat (refine obl_ ?_; conv => whnf))
      refine cond_ (fun h => absurd (k.symm.trans (beq_iff_eq.1 h)) (by decide)) (fun _ => ?_)
      ((conv => whnf) <;> repeat (refine obl_ ?_; conv => whnf))
      refine cond_ (fun _ => ?_) (fun h => (beq_ne h k).elim)
      ((conv => whnf) <;> repeat (refine obl_ ?_; conv => whnf))
      refine cond_ (fun c1 => ?_) (fun c1 => ?_)
      · rw [T.trans (finR_1 (of_decide_eq_true c1))]
        ((conv => whnf) <;> repeat (refine obl_ ?_; conv => whnf))
        exact .inl ⟨by decide, rfl⟩
      have c1' : ¬ wr (s.q + wr (0 - m.qty)) < 0 := of_decide_eq_false c1
      have iq : I64 (wr (s.q + wr (0 - m.qty))) := i64_wrap _
      ((conv => whnf) <;> repeat (refine obl_ ?_; conv => whnf))
      refine cond_ (fun c2 => ?_) (fun c2 => ?_)
      · rw [T.trans (finR_2 c1' (of_decide_eq_true c2))]
        ((conv => whnf) <;> repeat (refine obl_ ?_; conv => whnf))
        exact .inl ⟨by decide, rfl⟩
      have c2' : ¬ 1000000000 < wr (s.q + wr (0 - m.qty)) := of_decide_eq_false c2
      ((conv => whnf) <;> repeat (refine obl_ ?_; conv => whnf))
      refine cond_ (fun c3 => ?_) (fun c3 => ?_)
      · have c3' : farS (valD (wr (s.q + wr (0 - m.qty))) s.pr) = true := nn_t c3
        rw [T.trans (finR_3 c1' c2' c3')]
        ((conv => whnf) <;> repeat (refine obl_ ?_; conv => whnf))
        exact .inl ⟨by decide, rfl⟩
      have c3' : ¬ farS (valD (wr (s.q + wr (0 - m.qty))) s.pr) = true := nn_f c3
      ((conv => whnf) <;> repeat (refine obl_ ?_; conv => whnf))
      refine cond_ (fun h => absurd (k.symm.trans (beq_iff_eq.1 h)) (by decide)) (fun _ => ?_)
      ((conv => whnf) <;> repeat (refine obl_ ?_; conv => whnf))
      refine cond_ (fun h => absurd (k.symm.trans (beq_iff_eq.1 h)) (by decide)) (fun _ => ?_)
      ((conv => whnf) <;> repeat (refine obl_ ?_; conv => whnf))
      refine cond_ (fun h => absurd (k.symm.trans (beq_iff_eq.1 h)) (by decide)) (fun _ => ?_)
      ((conv => whnf) <;> repeat (refine obl_ ?_; conv => whnf))
      refine cond_ (fun _ => ?_) (fun h => (beq_ne h k).elim)
      ((conv => whnf) <;> repeat (refine obl_ ?_; conv => whnf))
      refine cond_ (fun c4 => ?_) (fun c4 => ?_)
      · have c4' : farS (wr (wr (0 - wr (valD (wr (s.q + wr (0 - m.qty))) s.pr - s.v)) - m.cost)) = true := nn_t c4
        rw [T.trans (finR_4 c1' c2' c3' c4')]
        ((conv => whnf) <;> repeat (refine obl_ ?_; conv => whnf))
        exact .inl ⟨by decide, rfl⟩
      have c4' : ¬ farS (wr (wr (0 - wr (valD (wr (s.q + wr (0 - m.qty))) s.pr - s.v)) - m.cost)) = true := nn_f c4
      rw [T.trans (finR_5 c1' c2' c3' c4')]
      ((conv => whnf) <;> repeat (refine obl_ ?_; conv => whnf))
      exact .inr ⟨rfl, _, rfl, rfl, rfl⟩
    · ((conv => whnf) <;> repeat (refine obl_ ?_; conv => whnf))
      refine cond_ (fun h => absurd (k.symm.trans (beq_iff_eq.1 h)) (by decide)) (fun _ => ?_)
      ((conv => whnf) <;> repeat (refine obl_ ?_; conv => whnf))
      refine cond_ (fun h => absurd (k.symm.trans (beq_iff_eq.1 h)) (by decide)) (fun _ => ?_)
      ((conv => whnf) <;> repeat (refine obl_ ?_; conv => whnf))
      refine cond_ (fun _ => ?_) (fun h => (beq_ne h k).elim)
      ((conv => whnf) <;> repeat (refine obl_ ?_; conv => whnf))
      refine InlP.intro (X' := ⟨tab, CRD, 2000, 35⟩) crd_at mixed_ok Tryd.func22 (by kernel_rfl) rfl rfl (le_of_ble (by kernel_rfl)) (by kernel_rfl) ?_
      ((conv => whnf) <;> repeat (refine obl_ ?_; conv => whnf))
      refine cond_ (fun h => absurd (k.symm.trans (beq_iff_eq.1 h)) (by decide)) (fun _ => ?_)
      ((conv => whnf) <;> repeat (refine obl_ ?_; conv => whnf))
      have e2 := pastS_find (kind := 1) (seq := m.ref) (by decide) s.pa
      refine cond_ (fun hf => ?_) (fun hf => ?_)
      · have hf' : pastS 1 m.ref s.pa < 0 := of_decide_eq_true hf
        rw [stepDR_a ho' hkn (.inr ⟨.inr k, rfl⟩) (by rw [← e2]; exact hf')]
        ((conv => whnf) <;> repeat (refine obl_ ?_; conv => whnf))
        exact .inl ⟨by decide, rfl⟩
      have hf' : ¬ findS 1 m.ref s.pa < 0 := by
        rw [← e2]
        exact of_decide_eq_false hf
      have hzz := find_lt hf'
      rw [← e2] at hzz
      obtain ⟨hz0, hz1, hz2⟩ := hzz
      ((conv => whnf) <;> repeat (refine obl_ ?_; conv => whnf))
      refine cond_ (fun hq => ?_) (fun hq => ?_)
      · have hq' : wr ((s.pa.getD (pastS 1 m.ref s.pa).toNat zPa).qty - (s.pa.getD (pastS 1 m.ref s.pa).toNat zPa).used) < m.qty := of_decide_eq_true hq
        rw [stepDR_b ho' hkn (.inr ⟨.inr k, rfl⟩) hf' (by rw [e2]) hq']
        ((conv => whnf) <;> repeat (refine obl_ ?_; conv => whnf))
        exact .inl ⟨by decide, rfl⟩
      have hq' : ¬ wr ((s.pa.getD (pastS 1 m.ref s.pa).toNat zPa).qty - (s.pa.getD (pastS 1 m.ref s.pa).toNat zPa).used) < m.qty := of_decide_eq_false hq
      have T := stepDR_t5 ho' hkn k hf' (show s.pa.getD (findS 1 m.ref s.pa).toNat zPa = s.pa.getD (pastS 1 m.ref s.pa).toNat zPa by rw [e2]) hq'
      skip
      ((conv => whnf) <;> repeat (refine obl_ ?_; conv => whnf))
      refine cond_ (fun h => absurd (k.symm.trans (beq_iff_eq.1 h)) (by decide)) (fun _ => ?_)
      ((conv => whnf) <;> repeat (refine obl_ ?_; conv => whnf))
      refine cond_ (fun h => absurd (k.symm.trans (beq_iff_eq.1 h)) (by decide)) (fun _ => ?_)
      ((conv => whnf) <;> repeat (refine obl_ ?_; conv => whnf))
      refine cond_ (fun h => absurd (k.symm.trans (beq_iff_eq.1 h)) (by decide)) (fun _ => ?_)
      ((conv => whnf) <;> repeat (refine obl_ ?_; conv => whnf))
      refine cond_ (fun h => absurd (k.symm.trans (beq_iff_eq.1 h)) (by decide)) (fun _ => ?_)
      ((conv => whnf) <;> repeat (refine obl_ ?_; conv => whnf))
      refine cond_ (fun h => absurd (k.symm.trans (beq_iff_eq.1 h)) (by decide)) (fun _ => ?_)
      ((conv => whnf) <;> repeat (refine obl_ ?_; conv => whnf))
      refine cond_ (fun c1 => ?_) (fun c1 => ?_)
      · rw [T.trans (finR_1 (of_decide_eq_true c1))]
        ((conv => whnf) <;> repeat (refine obl_ ?_; conv => whnf))
        exact .inl ⟨by decide, rfl⟩
      have c1' : ¬ wr (s.q + 0) < 0 := of_decide_eq_false c1
      have iq : I64 (wr (s.q + 0)) := i64_wrap _
      ((conv => whnf) <;> repeat (refine obl_ ?_; conv => whnf))
      refine cond_ (fun c2 => ?_) (fun c2 => ?_)
      · rw [T.trans (finR_2 c1' (of_decide_eq_true c2))]
        ((conv => whnf) <;> repeat (refine obl_ ?_; conv => whnf))
        exact .inl ⟨by decide, rfl⟩
      have c2' : ¬ 1000000000 < wr (s.q + 0) := of_decide_eq_false c2
      ((conv => whnf) <;> repeat (refine obl_ ?_; conv => whnf))
      refine cond_ (fun c3 => ?_) (fun c3 => ?_)
      · have c3' : farS (valD (wr (s.q + 0)) s.pr) = true := nn_t c3
        rw [T.trans (finR_3 c1' c2' c3')]
        ((conv => whnf) <;> repeat (refine obl_ ?_; conv => whnf))
        exact .inl ⟨by decide, rfl⟩
      have c3' : ¬ farS (valD (wr (s.q + 0)) s.pr) = true := nn_f c3
      ((conv => whnf) <;> repeat (refine obl_ ?_; conv => whnf))
      refine cond_ (fun h => absurd (k.symm.trans (beq_iff_eq.1 h)) (by decide)) (fun _ => ?_)
      ((conv => whnf) <;> repeat (refine obl_ ?_; conv => whnf))
      refine cond_ (fun h => absurd (k.symm.trans (beq_iff_eq.1 h)) (by decide)) (fun _ => ?_)
      ((conv => whnf) <;> repeat (refine obl_ ?_; conv => whnf))
      refine cond_ (fun h => absurd (k.symm.trans (beq_iff_eq.1 h)) (by decide)) (fun _ => ?_)
      ((conv => whnf) <;> repeat (refine obl_ ?_; conv => whnf))
      refine cond_ (fun h => absurd (k.symm.trans (beq_iff_eq.1 h)) (by decide)) (fun _ => ?_)
      ((conv => whnf) <;> repeat (refine obl_ ?_; conv => whnf))
      refine cond_ (fun _ => ?_) (fun h => (beq_ne h k).elim)
      ((conv => whnf) <;> repeat (refine obl_ ?_; conv => whnf))
      refine cond_ (fun c4 => ?_) (fun c4 => ?_)
      · have c4' : farS (m.cost) = true := nn_t c4
        rw [T.trans (finR_4 c1' c2' c3' c4')]
        ((conv => whnf) <;> repeat (refine obl_ ?_; conv => whnf))
        exact .inl ⟨by decide, rfl⟩
      have c4' : ¬ farS (m.cost) = true := nn_f c4
      rw [T.trans (finR_5 c1' c2' c3' c4')]
      ((conv => whnf) <;> repeat (refine obl_ ?_; conv => whnf))
      exact .inr ⟨rfl, _, rfl, rfl, rfl⟩
    · ((conv => whnf) <;> repeat (refine obl_ ?_; conv => whnf))
      refine cond_ (fun h => absurd (k.symm.trans (beq_iff_eq.1 h)) (by decide)) (fun _ => ?_)
      ((conv => whnf) <;> repeat (refine obl_ ?_; conv => whnf))
      refine cond_ (fun h => absurd (k.symm.trans (beq_iff_eq.1 h)) (by decide)) (fun _ => ?_)
      ((conv => whnf) <;> repeat (refine obl_ ?_; conv => whnf))
      refine cond_ (fun h => absurd (k.symm.trans (beq_iff_eq.1 h)) (by decide)) (fun _ => ?_)
      ((conv => whnf) <;> repeat (refine obl_ ?_; conv => whnf))
      have T := stepDR_t6 ho' hkn k
      refine cond_ (fun h => absurd (k.symm.trans (beq_iff_eq.1 h)) (by decide)) (fun _ => ?_)
      ((conv => whnf) <;> repeat (refine obl_ ?_; conv => whnf))
      refine cond_ (fun h => absurd (k.symm.trans (beq_iff_eq.1 h)) (by decide)) (fun _ => ?_)
      ((conv => whnf) <;> repeat (refine obl_ ?_; conv => whnf))
      refine cond_ (fun h => absurd (k.symm.trans (beq_iff_eq.1 h)) (by decide)) (fun _ => ?_)
      ((conv => whnf) <;> repeat (refine obl_ ?_; conv => whnf))
      refine cond_ (fun h => absurd (k.symm.trans (beq_iff_eq.1 h)) (by decide)) (fun _ => ?_)
      ((conv => whnf) <;> repeat (refine obl_ ?_; conv => whnf))
      refine cond_ (fun _ => ?_) (fun h => (beq_ne h k).elim)
      ((conv => whnf) <;> repeat (refine obl_ ?_; conv => whnf))
      refine cond_ (fun c1 => ?_) (fun c1 => ?_)
      · rw [T.trans (finR_1 (of_decide_eq_true c1))]
        ((conv => whnf) <;> repeat (refine obl_ ?_; conv => whnf))
        exact .inl ⟨by decide, rfl⟩
      have c1' : ¬ wr (s.q + 0) < 0 := of_decide_eq_false c1
      have iq : I64 (wr (s.q + 0)) := i64_wrap _
      ((conv => whnf) <;> repeat (refine obl_ ?_; conv => whnf))
      refine cond_ (fun c2 => ?_) (fun c2 => ?_)
      · rw [T.trans (finR_2 c1' (of_decide_eq_true c2))]
        ((conv => whnf) <;> repeat (refine obl_ ?_; conv => whnf))
        exact .inl ⟨by decide, rfl⟩
      have c2' : ¬ 1000000000 < wr (s.q + 0) := of_decide_eq_false c2
      ((conv => whnf) <;> repeat (refine obl_ ?_; conv => whnf))
      refine cond_ (fun c3 => ?_) (fun c3 => ?_)
      · have c3' : farS (valD (wr (s.q + 0)) m.cost) = true := nn_t c3
        rw [T.trans (finR_3 c1' c2' c3')]
        ((conv => whnf) <;> repeat (refine obl_ ?_; conv => whnf))
        exact .inl ⟨by decide, rfl⟩
      have c3' : ¬ farS (valD (wr (s.q + 0)) m.cost) = true := nn_f c3
      ((conv => whnf) <;> repeat (refine obl_ ?_; conv => whnf))
      refine cond_ (fun h => absurd (k.symm.trans (beq_iff_eq.1 h)) (by decide)) (fun _ => ?_)
      ((conv => whnf) <;> repeat (refine obl_ ?_; conv => whnf))
      refine cond_ (fun h => absurd (k.symm.trans (beq_iff_eq.1 h)) (by decide)) (fun _ => ?_)
      ((conv => whnf) <;> repeat (refine obl_ ?_; conv => whnf))
      refine cond_ (fun h => absurd (k.symm.trans (beq_iff_eq.1 h)) (by decide)) (fun _ => ?_)
      ((conv => whnf) <;> repeat (refine obl_ ?_; conv => whnf))
      refine cond_ (fun h => absurd (k.symm.trans (beq_iff_eq.1 h)) (by decide)) (fun _ => ?_)
      ((conv => whnf) <;> repeat (refine obl_ ?_; conv => whnf))
      refine cond_ (fun h => absurd (k.symm.trans (beq_iff_eq.1 h)) (by decide)) (fun _ => ?_)
      ((conv => whnf) <;> repeat (refine obl_ ?_; conv => whnf))
      refine cond_ (fun _ => ?_) (fun h => (beq_ne h k).elim)
      ((conv => whnf) <;> repeat (refine obl_ ?_; conv => whnf))
      refine cond_ (fun c4 => ?_) (fun c4 => ?_)
      · have c4' : farS (wr (0 - wr (valD (wr (s.q + 0)) m.cost - s.v))) = true := nn_t c4
        rw [T.trans (finR_4 c1' c2' c3' c4')]
        ((conv => whnf) <;> repeat (refine obl_ ?_; conv => whnf))
        exact .inl ⟨by decide, rfl⟩
      have c4' : ¬ farS (wr (0 - wr (valD (wr (s.q + 0)) m.cost - s.v))) = true := nn_f c4
      rw [T.trans (finR_5 c1' c2' c3' c4')]
      ((conv => whnf) <;> repeat (refine obl_ ?_; conv => whnf))
      exact .inr ⟨rfl, _, rfl, rfl, rfl⟩
  · rintro e w1 ⟨x, v, A1, ρ1, a1, rfl, hv, hk, hS1, _⟩
    exact stepN hS1 hv hk stepDR_z
end Go.Proofs.YtkimndddlnbeiaaDoor.Ff

/- standard: the steps as callees; the law's own functions light and move. No condition but 64 bits. -/
namespace Go.Proofs.YtkimndddlnbeiaaDoor.Ff
open Go.RowKit Go.Proofs.YtkimndddlnbeiaaDoorW.PrintWords Go.Proofs.YtkimndddlnbeiaaDoor.Ex
set_option linter.unusedVariables false
set_option linter.unusedSimpArgs false
set_option maxRecDepth 100000
theorem moveD_pa {s : St} {m : Mv} (hs : StI s) (hm : MvI m) : (∀ x ∈ (moveD s m).2.2.2, PaI x) ∧ (moveD s m).2.2.2.length ≤ s.pa.length + 1 := by
  have hP2 := getD_all hs.pa (findS 2 m.ref s.pa).toNat zPa_i
  have hP1 := getD_all hs.pa (findS 1 m.ref s.pa).toNat zPa_i
  obtain ⟨b1, b2, b3, b4, b5⟩ := hm
  have f : ∀ {n : Int}, ¬ fitB n = false → I64 n := fun h => fit_iff.1 (by revert h; cases fitB _ <;> simp)
  generalize hr : moveD s m = r
  unfold moveD at hr
  simp only at hr
  repeat' split at hr
  all_goals subst hr
  all_goals dsimp only
  all_goals first
    | exact ⟨hs.pa, Nat.le_succ _⟩
    | exact ⟨app_all hs.pa (one_all ⟨b1, b2, b3, b4, i64_0, i64_0⟩), by simp⟩
    | exact ⟨app_all hs.pa (one_all ⟨b1, b2, b3, f (by assumption), i64_0, i64_0⟩), by simp⟩
    | exact ⟨set_all hs.pa ⟨hP2.1, hP2.2.1, hP2.2.2.1, hP2.2.2.2.1, i64_wrap _, i64_wrap _⟩, by simp⟩
    | exact ⟨set_all hs.pa ⟨hP1.1, hP1.2.1, hP1.2.2.1, hP1.2.2.2.1, i64_wrap _, hP1.2.2.2.2.2⟩, by simp⟩
theorem stepD_f : StepF stepD where
  int := fun s m hs hm => by
    by_cases h : (stepD s m).1 = 0
    · have K := stepD_ok h
      rw [K.eq]
      exact ⟨i64_wrap _, fit_iff.1 K.fit, hs.la, (moveD_pa hs hm).1⟩
    · rw [(stepD_z h).1]
      exact zSt_int
  la := fun s m => by
    by_cases h : (stepD s m).1 = 0
    · rw [(stepD_ok h).eq]
      exact Nat.le_succ _
    · rw [(stepD_z h).1]
      exact Nat.zero_le _
  pa := fun s m => by
    unfold stepD
    simp only
    repeat' split
    all_goals first
      | exact Nat.zero_le _
      | skip
    unfold moveD
    simp only
    repeat' split
    all_goals simp
/-- What a call of a step asks. -/
structure SmD (s : St) (m : Mv) : Prop where
  sm : SmI s m
  inv : InvD s
theorem InvD.pr64 {s : St} (h : InvD s) : I64 s.pr := ⟨by have := h.p0; omega, by have := h.p1; omega⟩
theorem stpD_ok {g : G} {bs : Nat} (hL : Laid g.W0) (hS : ∀ i, ¬ g.S i) : SpOk Tryd.prog g bs 10 (spStep SmD stepD) := step_ok' ⟨_, Tryd.func10, by decide +kernel, rfl⟩ (fun ρ A a W hR s m LV PV h1 h2 h => dstep_calls (laid_of hL hS hR.kept.2) s m h1 h2 h.sm.si h.sm.mi h.inv h.sm.la h.sm.pa h.sm.item h.sm.lot)
theorem stpDR_ok {g : G} {bs : Nat} : SpOk Tryd.prog g bs 11 (spStep SmD stepD) := step_ok' ⟨_, Tryd.func11, by decide +kernel, rfl⟩ (fun ρ A a W hR s m LV PV h1 h2 h => by
  rw [← stepDR_eq h.inv]
  exact rstepD_calls s m h1 h2 h.sm.si h.sm.mi h.inv.pr64 h.sm.la h.sm.pa h.sm.item h.sm.lot)
/-- The law's guard. -/
def lightB (p : Int) (l : List Mv) : Bool := !(decide (p < 0)) && !(decide (1000000000000 < p)) && !(decide ((40 : Int) < l.length)) && l.all fun m => !(decide ((100 : Int) < m.item.size)) && !(decide ((100 : Int) < m.lot.size))
theorem light_t {p : Int} {l : List Mv} (h : lightB p l = true) : 0 ≤ p ∧ p ≤ 1000000000000 ∧ l.length ≤ 40 ∧ ∀ m ∈ l, m.item.size ≤ 100 ∧ m.lot.size ≤ 100 := by
  unfold lightB at h
  simp only [Bool.and_eq_true, Bool.not_eq_true', decide_eq_false_iff_not, List.all_eq_true] at h
  obtain ⟨⟨⟨h1, h2⟩, h3⟩, h4⟩ := h
  refine ⟨by omega, by omega, by omega, fun m hm => ?_⟩
  have := h4 m hm
  omega
theorem all_yes {α : Type} {p : α → Bool} {l : List α} {k : Nat} (d : α) (h : k < l.length) (hp : p (l.getD k d) = true) : (l.drop k).all p = (l.drop (k + 1)).all p := by
  rw [List.drop_eq_getElem_cons h]
  rw [List.getD_eq_getElem?_getD, List.getElem?_eq_getElem h] at hp
  have hp' : p l[k] = true := hp
  rw [List.all_cons, hp', Bool.true_and]
theorem all_no {α : Type} {p : α → Bool} {l : List α} {k : Nat} (d : α) (h : k < l.length) (hp : p (l.getD k d) = false) : (l.drop k).all p = false := by
  rw [List.drop_eq_getElem_cons h]
  rw [List.getD_eq_getElem?_getD, List.getElem?_eq_getElem h] at hp
  have hp' : p l[k] = false := hp
  rw [List.all_cons, hp', Bool.false_and]
theorem light_calls {W : World} {V : Value} {l : List Mv} (h1 : Src W V .mv l) (p : Int) :
    Calls Tryd.prog 8 #[.int .i64 p, V] W fun e w1 => e = .returned (.bool (lightB p l)) ∧ Below W.heap.size W w1 := by
  obtain ⟨ρ, e1, hS⟩ := start1 h1
  have hlen : l.length ≤ 9223372036854775807 := by obtain ⟨_, _, _, h, _⟩ := h1; exact h.2
  refine (calls_awp (f := 8) (vs := [.int .i64 p, V]) (cx_ok (C := []) (nt := 39) spc_nil) mixed_ok Tryd.func8 rfl rfl hS (avs := [.one (.v (.int .i64 p)), .one (.row 0)])
    (fun ρ' h => ⟨rfl, row_rel h (by simp [findR]) e1 h1, trivial⟩) (le_of_ble (by kernel_rfl)) (K := fun v A => v = .one (.v (.bool (lightB p l)))) ?_).mono ?_
  · ((conv => whnf) <;> repeat (refine obl_ ?_; conv => whnf))
    refine cond_ (fun a1 => ?_) (fun a1 => ?_)
    · ((conv => whnf) <;> repeat (refine obl_ ?_; conv => whnf))
      exact bool_ (by unfold lightB; rw [show decide (p < 0) = true from a1]; rfl)
    have a1' : decide (p < 0) = false := a1
    ((conv => whnf) <;> repeat (refine obl_ ?_; conv => whnf))
    refine cond_ (fun a2 => ?_) (fun a2 => ?_)
    · ((conv => whnf) <;> repeat (refine obl_ ?_; conv => whnf))
      exact bool_ (by unfold lightB; rw [a1', show decide (1000000000000 < p) = true from a2]; rfl)
    have a2' : decide (1000000000000 < p) = false := a2
    ((conv => whnf) <;> repeat (refine obl_ ?_; conv => whnf))
    refine cond_ (fun a3 => ?_) (fun a3 => ?_)
    · ((conv => whnf) <;> repeat (refine obl_ ?_; conv => whnf))
      exact bool_ (by unfold lightB; rw [a1', a2', show decide ((40 : Int) < l.length) = true from a3]; rfl)
    have a3' : decide ((40 : Int) < l.length) = false := a3
    have hB : lightB p l = l.all fun m => !(decide ((100 : Int) < m.item.size)) && !(decide ((100 : Int) < m.lot.size)) := by
      unfold lightB
      rw [a1', a2', a3']
      rfl
    ((conv => whnf) <;> repeat (refine obl_ ?_; conv => whnf))
    refine LoopP.introR (cx_ok spc_nil) mixed_ok (ι := Nat) (fun k => ⟨[(5, .one (.v (.int .i64 (k : Int)))), (1, .one (.row 0))], [], [(0, some ⟨.mv, l, false⟩)]⟩) (fun k => k ≤ l.length ∧ lightB p l = (l.drop k).all fun m => !(decide ((100 : Int) < m.item.size)) && !(decide ((100 : Int) < m.lot.size))) (fun k => l.length - k) 0 ⟨Nat.zero_le _, hB⟩ ⟨[], by (refine ⟨?_, ?_, ?_, by kernel_rfl⟩ <;> repeat' (first | exact trivial | exact rfl | assumption | apply And.intro))⟩ ?_
    rintro k ⟨hk, hfi⟩
    ((conv => whnf) <;> repeat (refine obl_ ?_; conv => whnf))
    refine cond_ (fun h => ?_) (fun h => ?_)
    · have hlt : k < l.length := by have := of_decide_eq_true h; omega
      have i1 : 0 ≤ (k : Int) := by omega
      have i2 : (k : Int) < (l.length : Int) := by omega
      ((conv => whnf) <;> repeat (refine obl_ ?_; conv => whnf))
      refine cond_ (fun b1 => ?_) (fun b1 => ?_)
      · ((conv => whnf) <;> repeat (refine obl_ ?_; conv => whnf))
        exact bool_ (by rw [hfi, all_no zMv hlt]; rw [show decide ((100 : Int) < (l.getD k zMv).item.size) = true from b1]; rfl)
      have b1' : decide ((100 : Int) < (l.getD k zMv).item.size) = false := b1
      ((conv => whnf) <;> repeat (refine obl_ ?_; conv => whnf))
      refine cond_ (fun b2 => ?_) (fun b2 => ?_)
      · ((conv => whnf) <;> repeat (refine obl_ ?_; conv => whnf))
        exact bool_ (by rw [hfi, all_no zMv hlt]; rw [show decide ((100 : Int) < (l.getD k zMv).lot.size) = true from b2, Bool.not_true, Bool.and_false])
      have b2' : decide ((100 : Int) < (l.getD k zMv).lot.size) = false := b2
      ((conv => whnf) <;> repeat (refine obl_ ?_; conv => whnf))
      refine ⟨k + 1, ⟨hlt, by rw [hfi, all_yes zMv hlt]; rw [b1', b2']; rfl⟩, by omega, [], ?_⟩
      (refine ⟨?_, ?_, ?_, by kernel_rfl⟩ <;> repeat' (first | exact trivial | exact rfl | assumption | apply And.intro))
      exact up_ (by omega)
    · have := of_decide_eq_false h
      ((conv => whnf) <;> repeat (refine obl_ ?_; conv => whnf))
      exact bool_ (by rw [hfi, List.drop_eq_nil_of_le (by omega)]; rfl)
  · rintro e w1 ⟨x, v, A1, ρ1, a1, rfl, hv, rfl, hS1, _⟩
    exact ⟨by rw [show x = _ from hv], hS1.rel.bel⟩
def spLight : Sp := fun d args k => match args with
  | [.one (.v (.int .i64 p)), .one x] => rdRow .mv x fun l => k (.one (.v (.bool (lightB p l))))
  | _ => .fail
theorem light_ok {g : G} {bs : Nat} : SpOk Tryd.prog g bs 8 spLight := sp_val ⟨_, Tryd.func8, by decide +kernel, rfl⟩ (by
  intro d args k A r h hb
  unfold spLight at h hb
  split at h
  · rename_i p x
    obtain ⟨l, h1, hb1, hp⟩ := rdRow_s h hb
    refine ⟨_, h1, hb1, fun ρ a0 w vs hR hv => ?_⟩
    match vs, hv with
    | [v1, v2], ⟨k1, k2, _⟩ =>
      have k1' : v1 = _ := k1
      subst k1'
      refine (light_calls (hp _ _ _ _ _ hR k2) p).mono ?_
      rintro e w1 ⟨rfl, hbel⟩
      exact ⟨_, rfl, fun ρ' => rfl, hbel⟩
  · cases h)
def lMv (seq kind qty cost ref : Int) : Mv := ⟨seq, 5, ⟨#[120]⟩, kind, qty, cost, ⟨#[]⟩, ref⟩
theorem lmove_calls (a b c d e' : Int) (W : World) :
    Calls Tryd.prog 13 #[.int .i64 a, .int .i64 b, .int .i64 c, .int .i64 d, .int .i64 e'] W fun e w1 => e = .returned (.agg (mvC (lMv a b c d e')).toArray) ∧ Below W.heap.size W w1 := by
  refine (calls_awp (f := 13) (vs := [.int .i64 a, .int .i64 b, .int .i64 c, .int .i64 d, .int .i64 e']) (cx_ok (C := []) (nt := 17) spc_nil) mixed_ok Tryd.func13 rfl rfl (start0 W) (avs := [.one (.v (.int .i64 a)), .one (.v (.int .i64 b)), .one (.v (.int .i64 c)), .one (.v (.int .i64 d)), .one (.v (.int .i64 e'))])
    (fun ρ' h => ⟨rfl, rfl, rfl, rfl, rfl, trivial⟩) (le_of_ble (by kernel_rfl)) (K := fun v A => v = .agg (mvL (lMv a b c d e'))) ?_).mono ?_
  · ((conv => whnf) <;> repeat (refine obl_ ?_; conv => whnf))
    exact rfl
  · rintro e w1 ⟨x, v, A1, ρ1, a1, rfl, hv, rfl, hS1, _⟩
    obtain ⟨us, eu, hu⟩ := hv
    match us, hu with
    | [w1', w2, w3, w4, w5, w6, w7, w8], ⟨j1, j2, j3, j4, j5, j6, j7, j8, _⟩ =>
      simp only [L.rel] at j1 j2 j3 j4 j5 j6 j7 j8
      subst eu j1 j2 j3 j4 j5 j6 j7 j8
      exact ⟨rfl, hS1.rel.bel⟩
def spLMove : Sp := fun d args k => match args with
  | [.one (.v (.int .i64 a)), .one (.v (.int .i64 b)), .one (.v (.int .i64 c)), .one (.v (.int .i64 d)), .one (.v (.int .i64 e))] => k (.agg [.v (.int .i64 a), .v (.int .i64 5), .v (.string ⟨#[120]⟩), .v (.int .i64 b), .v (.int .i64 c), .v (.int .i64 d), .v (.string ⟨#[]⟩), .v (.int .i64 e)])
  | _ => .fail
theorem lmove_ok {g : G} {bs : Nat} : SpOk Tryd.prog g bs 13 spLMove := sp_val ⟨_, Tryd.func13, by decide +kernel, rfl⟩ (by
  intro d args k A r h hb
  unfold spLMove at h hb
  split at h
  · rename_i a b c d e
    refine ⟨_, h, hb, fun ρ a0 w vs hR hv => ?_⟩
    match vs, hv with
    | [v1, v2, v3, v4, v5], ⟨k1, k2, k3, k4, k5, _⟩ =>
      have k1' : v1 = _ := k1
      have k2' : v2 = _ := k2
      have k3' : v3 = _ := k3
      have k4' : v4 = _ := k4
      have k5' : v5 = _ := k5
      subst k1' k2' k3' k4' k5'
      refine (lmove_calls a b c d e w).mono ?_
      rintro e w1 ⟨rfl, hbel⟩
      exact ⟨_, rfl, fun ρ' => ⟨_, rfl, rfl, rfl, rfl, rfl, rfl, rfl, rfl, rfl, trivial⟩, hbel⟩
  · cases h)
end Go.Proofs.YtkimndddlnbeiaaDoor.Ff

/- standard: the chapter's examples hold; the law's callees. No condition. -/
namespace Go.Proofs.YtkimndddlnbeiaaDoor.Ff
open Go.RowKit Go.Proofs.YtkimndddlnbeiaaDoorW.PrintWords Go.Proofs.YtkimndddlnbeiaaDoor.Ex
set_option linter.unusedVariables false
set_option linter.unusedSimpArgs false
set_option maxRecDepth 100000
theorem br_t {b : Bool} {p q : Prop} (hb : b = true) (h : p) : Br b p q := by subst hb; exact h
def stA (p : Int) : St := ⟨0, 0, p, [], []⟩
theorem stA_inv {p : Int} (h : 0 ≤ p) (h1 : p ≤ 1000000000000) : InvD (stA p) := ⟨fun x hx => (by cases hx), rfl, Int.le_refl _, by show (0 : Int) ≤ _; decide, h, h1, by show (0 : Int) = 0 * p; rw [Int.zero_mul], by show (0 : Int) ≤ _; decide⟩
theorem stA_int {p : Int} : StI (stA p) := ⟨i64_0, i64_0, fun x hx => (by cases hx), fun x hx => (by cases hx)⟩
theorem stA_pl {p : Int} : PlI (stA p) 0 := ⟨stA_int, Nat.le_refl _, Nat.le_refl _⟩
theorem lMv_i {a b c d e : Int} (ha : I64 a) (hb : I64 b) (hc : I64 c) (hd : I64 d) (he : I64 e) : MvI (lMv a b c d e) := ⟨ha, hb, hc, hd, he⟩
theorem smD {s : St} {a b c d e : Int} {n : Nat} (hp : PlI s n) (hn : n ≤ 100) (hI : InvD s) (hm : MvI (lMv a b c d e)) : SmD s (lMv a b c d e) :=
  ⟨⟨by have := hp.la; omega, by have := hp.pa; omega, by show (1 : Nat) ≤ _; decide, by show (0 : Nat) ≤ _; decide, hp.int, hm⟩, hI⟩
/-- What is known of a stock after some steps. -/
structure Kn (s : St) (n : Nat) : Prop where
  pl : PlI s n
  inv : InvD s
theorem Kn.step {s : St} {n : Nat} (h : Kn s n) {m : Mv} (hm : MvI m) (h0 : (stepD s m).1 = 0) : Kn (stepD s m).2.1 (n + 1) := by
  have := h.pl.next stepD_f hm
  rw [if_pos h0] at this
  exact ⟨this, stepD_inv h.inv h0⟩
theorem Kn.to {s t : St} {n : Nat} {m : Mv} {c : Co} (h : Kn s n) (hm : MvI m) (e : stepD s m = (0, t, c)) : Kn t (n + 1) := by
  have := h.step hm (by rw [e])
  rw [e] at this
  exact this
theorem stA_kn {p : Int} (h : 0 ≤ p) (h1 : p ≤ 1000000000000) : Kn (stA p) 0 := ⟨stA_pl, stA_inv h h1⟩
def lv1 : St := ⟨8, 80, 10, [], [⟨1, 1, ⟨#[]⟩, 8, 90, 0, 0⟩]⟩
def lv2 : St := ⟨5, 50, 10, [], [⟨1, 1, ⟨#[]⟩, 8, 90, 0, 0⟩, ⟨2, 2, ⟨#[]⟩, 3, 30, 0, 0⟩]⟩
def lv3 : St := ⟨5, 60, 12, [], [⟨1, 1, ⟨#[]⟩, 8, 90, 0, 0⟩, ⟨2, 2, ⟨#[]⟩, 3, 30, 0, 0⟩]⟩
def lv4 : St := ⟨7, 84, 12, [], [⟨1, 1, ⟨#[]⟩, 8, 90, 0, 0⟩, ⟨2, 2, ⟨#[]⟩, 3, 30, 2, 20⟩]⟩
def lv5 : St := ⟨6, 72, 12, [], [⟨1, 1, ⟨#[]⟩, 8, 90, 1, 0⟩, ⟨2, 2, ⟨#[]⟩, 3, 30, 2, 20⟩]⟩
def lv0 : St := stA 10
theorem live1 : stepD lv0 (lMv 1 1 8 90 0) = (0, lv1, ⟨1, 8, 80, 10⟩) := by kernel_rfl
theorem live2 : stepD lv1 (lMv 2 2 3 0 0) = (0, lv2, ⟨2, -3, -30, 0⟩) := by kernel_rfl
theorem live3 : stepD lv2 (lMv 3 6 0 12 0) = (0, lv3, ⟨3, 0, 10, -10⟩) := by kernel_rfl
theorem live4 : stepD lv3 (lMv 4 3 2 0 2) = (0, lv4, ⟨4, 2, 24, -4⟩) := by kernel_rfl
theorem live5 : stepD lv4 (lMv 5 4 1 11 1) = (0, lv5, ⟨5, -1, -12, 1⟩) := by kernel_rfl
theorem live6 : stepD lv5 (lMv 6 5 0 7 1) = (0, lv5, ⟨6, 0, 0, 7⟩) := by kernel_rfl
theorem live7 : stepD lv4 (lMv 5 3 2 0 2) = (21, zSt, zC 0) := by kernel_rfl
theorem lm1 : MvI (lMv 1 1 8 90 0) := by constructor <;> simp [lMv, I64]
theorem lm2 : MvI (lMv 2 2 3 0 0) := by constructor <;> simp [lMv, I64]
theorem lm3 : MvI (lMv 3 6 0 12 0) := by constructor <;> simp [lMv, I64]
theorem lm4 : MvI (lMv 4 3 2 0 2) := by constructor <;> simp [lMv, I64]
theorem lm5 : MvI (lMv 5 4 1 11 1) := by constructor <;> simp [lMv, I64]
theorem lm6 : MvI (lMv 6 5 0 7 1) := by constructor <;> simp [lMv, I64]
theorem lm7 : MvI (lMv 5 3 2 0 2) := by constructor <;> simp [lMv, I64]
theorem kn0 : Kn lv0 0 := stA_kn (by decide) (by decide)
theorem kn1 : Kn lv1 1 := kn0.to lm1 live1
theorem kn2 : Kn lv2 2 := kn1.to lm2 live2
theorem kn3 : Kn lv3 3 := kn2.to lm3 live3
theorem kn4 : Kn lv4 4 := kn3.to lm4 live4
theorem kn5 : Kn lv5 5 := kn4.to lm5 live5
def CS : List (Nat × Sp) := [(10, spStep SmD stepD), (13, spLMove)]
theorem cs_ok {g : G} {n : Nat} (hL : Laid g.W0) (hS : ∀ i, ¬ g.S i) : ∀ f sp, lookC CS f = some sp → SpOk Tryd.prog g n f sp := spc_cons (stpD_ok hL hS) (spc_cons lmove_ok spc_nil)
theorem lives_calls {W : World} (hL : Laid W) : Calls Tryd.prog 9 #[] W fun e w1 => e = .returned (.bool true) ∧ Below W.heap.size W w1 := by
  have hg : ∀ i, ¬ (gW W).S i := fun i h => h
  refine (calls_awp (f := 9) (vs := []) (cx_ok (C := CS) (nt := 143) (cs_ok hL hg)) mixed_ok Tryd.func9 rfl rfl (start0 W) (avs := []) (fun _ _ => trivial) (le_of_ble (by kernel_rfl)) (K := fun x A => x = .one (.v (.bool true))) ?_).mono ?_
  · ((conv => whnf) <;> repeat (refine obl_ ?_; conv => whnf))
    show SmD lv0 (lMv 1 1 8 90 0) ∧ (stepM (stepD lv0 (lMv 1 1 8 90 0)) _ _).cps _ _
    rw [live1]
    refine ⟨smD kn0.pl (by decide) kn0.inv lm1, ?_⟩
    ((conv => whnf) <;> repeat (refine obl_ ?_; conv => whnf))
    show SmD lv1 (lMv 2 2 3 0 0) ∧ (stepM (stepD lv1 (lMv 2 2 3 0 0)) _ _).cpsL _ _
    rw [live2]
    refine ⟨smD kn1.pl (by decide) kn1.inv lm2, ?_⟩
    ((conv => whnf) <;> repeat (refine obl_ ?_; conv => whnf))
    show SmD lv2 (lMv 3 6 0 12 0) ∧ (stepM (stepD lv2 (lMv 3 6 0 12 0)) _ _).cpsL _ _
    rw [live3]
    refine ⟨smD kn2.pl (by decide) kn2.inv lm3, ?_⟩
    ((conv => whnf) <;> repeat (refine obl_ ?_; conv => whnf))
    show SmD lv3 (lMv 4 3 2 0 2) ∧ (stepM (stepD lv3 (lMv 4 3 2 0 2)) _ _).cpsL _ _
    rw [live4]
    refine ⟨smD kn3.pl (by decide) kn3.inv lm4, ?_⟩
    ((conv => whnf) <;> repeat (refine obl_ ?_; conv => whnf))
    show SmD lv4 (lMv 5 4 1 11 1) ∧ (stepM (stepD lv4 (lMv 5 4 1 11 1)) _ _).cpsL _ _
    rw [live5]
    refine ⟨smD kn4.pl (by decide) kn4.inv lm5, ?_⟩
    ((conv => whnf) <;> repeat (refine obl_ ?_; conv => whnf))
    show SmD lv5 (lMv 6 5 0 7 1) ∧ (stepM (stepD lv5 (lMv 6 5 0 7 1)) _ _).cpsL _ _
    rw [live6]
    refine ⟨smD kn5.pl (by decide) kn5.inv lm6, ?_⟩
    ((conv => whnf) <;> repeat (refine obl_ ?_; conv => whnf))
    show SmD lv4 (lMv 5 3 2 0 2) ∧ (stepM (stepD lv4 (lMv 5 3 2 0 2)) _ _).cpsL _ _
    rw [live7]
    refine ⟨smD kn4.pl (by decide) kn4.inv lm7, ?_⟩
    ((conv => whnf) <;> repeat (refine obl_ ?_; conv => whnf))
    exact rfl
  · rintro e w1 ⟨x, v, A1, ρ1, a1, rfl, hv, rfl, hS1, _⟩
    exact ⟨by rw [show x = _ from hv], hS1.rel.bel⟩
theorem lives_ok {g : G} {bs : Nat} (hL : Laid g.W0) (hS : ∀ i, ¬ g.S i) : SpOk Tryd.prog g bs 9 spTrue := true_ok hL hS ⟨_, Tryd.func9, by decide +kernel, rfl⟩ (fun W h => lives_calls h)
def CL : List (Nat × Sp) := [(10, spStep SmD stepD), (11, spStep SmD stepD), (12, spSame), (9, spTrue), (8, spLight), (13, spLMove)]
theorem cl_ok {g : G} {n : Nat} (hL : Laid g.W0) (hS : ∀ i, ¬ g.S i) : ∀ f sp, lookC CL f = some sp → SpOk Tryd.prog g n f sp := spc_cons (stpD_ok hL hS) (spc_cons stpDR_ok (spc_cons same_ok (spc_cons (lives_ok hL hS) (spc_cons light_ok (spc_cons lmove_ok spc_nil)))))
end Go.Proofs.YtkimndddlnbeiaaDoor.Ff

/- The law StandardSteps, walked. No condition but 64 bits. -/
namespace Go.Proofs.YtkimndddlnbeiaaDoor.Ff
open Go.RowKit Go.Proofs.YtkimndddlnbeiaaDoorW.PrintWords Go.Proofs.YtkimndddlnbeiaaDoor.Ex
set_option linter.unusedVariables false
set_option linter.unusedSimpArgs false
set_option maxRecDepth 100000
theorem Kn.next {s : St} {n : Nat} (h : Kn s n) {m : Mv} (hm : MvI m) : Kn (if (stepD s m).1 = 0 then (stepD s m).2.1 else s) (n + 1) := by
  have := h.pl.next stepD_f hm
  refine ⟨this, ?_⟩
  split
  · rename_i h0
    exact stepD_inv h.inv h0
  · exact h.inv
theorem Kn.sm {s : St} {n : Nat} (h : Kn s n) (hn : n ≤ 1000) {l : List Mv} (hl : MvsI l) {k : Nat} (hk : k < l.length) : SmD s (l.getD k zMv) :=
  ⟨hl.sm hk h.pl.int (by have := h.pl.la; omega) (by have := h.pl.pa; omega), h.inv⟩
theorem StandardSteps_calls {W : World} {V : Value} {p : Int} {l : List Mv} (hL : Laid W) (h1 : Src W V .mv l) (hl : MvsI l) :
    Calls Tryd.prog 3 #[.int .i64 p, V] W fun e w1 => e = .returned (.bool true) ∧ Below W.heap.size W w1 := by
  obtain ⟨ρ, e1, hS⟩ := start1 h1
  have hg : ∀ i, ¬ (gW W).S i := fun i h => h
  refine (calls_awp (f := 3) (vs := [.int .i64 p, V]) (cx_ok (C := CL) (nt := 68) (cl_ok hL hg)) mixed_ok Tryd.func3 rfl rfl hS (avs := [.one (.v (.int .i64 p)), .one (.row 0)])
    (fun ρ' h => ⟨rfl, row_rel h (by simp [findR]) e1 h1, trivial⟩) (le_of_ble (by kernel_rfl)) (K := fun x A => x = .one (.v (.bool true))) ?_).mono ?_
  · ((conv => whnf) <;> repeat (refine obl_ ?_; conv => whnf))
    refine cond_ (fun h => ?_) (fun h => ?_)
    · ((conv => whnf) <;> repeat (refine obl_ ?_; conv => whnf))
      exact rfl
    have hB : lightB p l = true := not_f h
    obtain ⟨p0, p1, hlen, _⟩ := light_t hB
    ((conv => whnf) <;> repeat (refine obl_ ?_; conv => whnf))
    refine LoopP.introR (cx_ok (cl_ok hL hg)) mixed_ok (ι := Nat × St) (fun k => ⟨[(7, .one (.v (.int .i64 (k.1 : Int)))), (6, .one (.ptr 16 0)), (5, .one (.ptr 15 0)), (4, .one (.v (.bool false))), (1, .one (.row 0))], [(16, 28, stockL k.2 5002 5003), (15, 28, stockL k.2 5000 5001)], [(0, some ⟨.mv, l, false⟩), (5000, some ⟨.la, k.2.la, true⟩), (5001, some ⟨.pa, k.2.pa, true⟩), (5002, some ⟨.la, k.2.la, true⟩), (5003, some ⟨.pa, k.2.pa, true⟩)]⟩) (fun k => k.1 ≤ l.length ∧ Kn k.2 k.1) (fun k => l.length - k.1) (0, stA p) ⟨Nat.zero_le _, stA_kn p0 p1⟩ ⟨[(5000, none), (5001, none), (5002, none), (5003, none)], by (refine ⟨?_, ?_, ?_, by kernel_rfl⟩ <;> repeat' (first | exact trivial | exact rfl | assumption | apply And.intro))⟩ ?_
    rintro ⟨k, s⟩ ⟨hk, hs⟩
    simp only at hk hs
    ((conv => whnf) <;> repeat (refine obl_ ?_; conv => whnf))
    refine cond_ (fun h => ?_) (fun h => ?_)
    · have hlt : k < l.length := by have := of_decide_eq_true h; simp only at this; omega
      have i1 : 0 ≤ (k : Int) := by omega
      have i2 : (k : Int) < (l.length : Int) := by omega
      have hsm : SmD s (l.getD k zMv) := hs.sm (by omega) hl hlt
      have hs2 := hs.next hsm.sm.mi
      ((conv => whnf) <;> repeat (refine obl_ ?_; conv => whnf))
      refine cond_ (fun h => absurd h (by simp)) (fun _ => ?_)
      ((conv => whnf) <;> repeat (refine obl_ ?_; conv => whnf))
      refine cond_ (fun h => absurd h (by simp)) (fun _ => ?_)
      ((conv => whnf) <;> repeat (refine obl_ ?_; conv => whnf))
      refine cond_ (fun h3 => ?_) (fun h3 => ?_)
      · have h3' : (stepD s (l.getD k zMv)).1 = 0 := beq_iff_eq.1 h3
        rw [if_pos h3'] at hs2
        ((conv => whnf) <;> repeat (refine obl_ ?_; conv => whnf))
        refine ⟨(k + 1, (stepD s (l.getD k zMv)).2.1), ⟨by simp only; omega, hs2⟩, by simp only; omega, [(5000, some 45), (5001, some 545), (5002, some 55), (5003, some 555)], ?_⟩
        (refine ⟨?_, ?_, ?_, by kernel_rfl⟩ <;> repeat' (first | exact trivial | exact rfl | assumption | apply And.intro))
        exact up_ (by omega)
      · have h3' : ¬ (stepD s (l.getD k zMv)).1 = 0 := fun e => beq_ne h3 e
        rw [if_neg h3'] at hs2
        ((conv => whnf) <;> repeat (refine obl_ ?_; conv => whnf))
        refine ⟨(k + 1, s), ⟨by simp only; omega, hs2⟩, by simp only; omega, [], ?_⟩
        (refine ⟨?_, ?_, ?_, by kernel_rfl⟩ <;> repeat' (first | exact trivial | exact rfl | assumption | apply And.intro))
        exact up_ (by omega)
    · ((conv => whnf) <;> repeat (refine obl_ ?_; conv => whnf))
      exact rfl
  · rintro e w1 ⟨x, v, A1, ρ1, a1, rfl, hv, rfl, hS1, _⟩
    exact ⟨by rw [show x = _ from hv], hS1.rel.bel⟩
end Go.Proofs.YtkimndddlnbeiaaDoor.Ff
