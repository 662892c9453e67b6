/- The executor and what hangs on it, merged (AxG, AxH, AxI, AxJ): a verified abstract run of code over memory, and the walks by it; each theorem names its conditions. -/
import Derived.Test.YticcaknflnldgaaDoorX1
/- average: the steps as callees; the law's own functions. No condition but 64 bits. -/
namespace Go.Proofs.YticcaknflnldgaaDoor.Ff
open Go.RowKit Go.Proofs.YticcaknflnldgaaDoorW.PrintWords Go.Proofs.YticcaknflnldgaaDoor.Ex
set_option linter.unusedVariables false
set_option linter.unusedSimpArgs false
set_option maxRecDepth 100000
def stepNM (r : Int × St × Co) (d : Nat) (k : AV → M) : M :=
  kNewR d ⟨.pa, r.2.1.pa, true⟩ fun _ => k (.tup [(true, [.v (.int .i64 r.2.1.q), .v (.int .i64 r.2.1.v), .v (.int .i64 r.2.1.pr), .v (.slice none 0 0), .row d]), (true, [.v (.int .i64 r.2.2.seq), .v (.int .i64 r.2.2.qty), .v (.int .i64 r.2.2.value), .v (.int .i64 r.2.2.var)]), (false, [.v (.int .i64 r.1)])])
def spStepN (P : St → Mv → Prop) (stp : St → Mv → Int × St × Co) : Sp := fun d args k => match args with
  | [.agg [.v (.int .i64 q), .v (.int .i64 v), .v (.int .i64 pr), .v (.slice none 0 0), y], .agg [.v (.int .i64 m1), .v (.int .i64 m2), .v (.string m3), .v (.int .i64 m4), .v (.int .i64 m5), .v (.int .i64 m6), .v (.string m7), .v (.int .i64 m8)]] =>
    rdRow .pa y fun pa => .ob (P ⟨q, v, pr, [], pa⟩ ⟨m1, m2, m3, m4, m5, m6, m7, m8⟩) (stepNM (stp ⟨q, v, pr, [], pa⟩ ⟨m1, m2, m3, m4, m5, m6, m7, m8⟩) d k)
  | _ => .fail
theorem stepN_ok {g : G} {bs f : Nat} {P : St → Mv → Prop} {stp : St → Mv → Int × St × Co} (hfn : FnOk Tryd.prog f) (hc : ∀ ρ A a W, Rel g ρ A a W → ∀ (s : St) (m : Mv) PV, Src W PV .pa s.pa → P s m → Calls Tryd.prog f #[.agg #[.int .i64 s.q, .int .i64 s.v, .int .i64 s.pr, .slice none 0 0, PV], .agg (mvC m).toArray] W fun e w1 => StepV W w1 (stp s m) e) : SpOk Tryd.prog g bs f (spStepN P stp) := sp_new1 hfn (by
  intro d args k A r h hb
  unfold spStepN at h hb
  split at h
  · rename_i q v pr y m1 m2 m3 m4 m5 m6 m7 m8
    obtain ⟨pa, h2, hb2, hp⟩ := rdRow_s h hb
    simp only [M.go] at h2
    simp only [M.obl] at hb2
    refine ⟨_, _, _, h2, hb2.2, fun ρ a0 w vs hR hv => ?_⟩
    match vs, hv ρ (Agree.refl _ _) with
    | [v1, v2], ⟨⟨us, e1, hu⟩, ⟨ws, e2, hw⟩, _⟩ =>
      match us, hu, ws, hw with
      | [u1, u2, u3, u4, u5], ⟨k1, k2, k3, k4, k5, _⟩, [w1, w2, w3, w4, w5, w6, w7, w8], ⟨j1, j2, j3, j4, j5, j6, j7, j8, _⟩ =>
        simp only [L.rel] at k1 k2 k3 k4 j1 j2 j3 j4 j5 j6 j7 j8
        subst e1 e2 k1 k2 k3 k4 j1 j2 j3 j4 j5 j6 j7 j8
        refine (hc ρ A a0 w hR ⟨q, v, pr, [], pa⟩ ⟨m1, m2, m3, m4, m5, m6, m7, m8⟩ u5 (hp _ _ _ _ _ hR k5) hb2.1).mono ?_
        rintro e w1 ⟨V2, rfl, o2, hbel⟩
        exact ⟨_, V2, rfl, fun ρ' _ r2 => ⟨_, rfl, ⟨_, rfl, rfl, rfl, rfl, rfl, own_row o2 r2, trivial⟩, ⟨_, rfl, rfl, rfl, rfl, rfl, trivial⟩, rfl, trivial⟩, o2, hbel⟩
  · cases h)
theorem stpA_ok {g : G} {bs : Nat} (hL : Laid g.W0) (hS : ∀ i, ¬ g.S i) : SpOk Tryd.prog g bs 12 (spStepN SmA stepA) := stepN_ok ⟨_, Tryd.func12, by decide +kernel, rfl⟩ (fun ρ A a W hR s m PV h2 h => astep_calls (laid_of hL hS hR.kept.2) s m h2 h.sm.si h.sm.mi h.sm.pa h.sm.item h.sm.lot)
theorem stpAR_ok {g : G} {bs : Nat} : SpOk Tryd.prog g bs 13 (spStepN SmA stepA) := stepN_ok ⟨_, Tryd.func13, by decide +kernel, rfl⟩ (fun ρ A a W hR s m PV h2 h => rstepA_calls s m h2 h.sm.si h.sm.mi h.sm.pa h.sm.item h.sm.lot)
/-- The law's guard. -/
def largeB (l : List Mv) : Bool := decide ((40 : Int) < l.length) || l.any fun m => decide (100 < wr ((m.item.size : Int) + m.lot.size))
theorem large_f {l : List Mv} (h : largeB l = false) : l.length ≤ 40 := by
  unfold largeB at h
  rw [Bool.or_eq_false_iff] at h
  have := of_decide_eq_false h.1
  omega
theorem large_calls {W : World} {V : Value} {l : List Mv} (h1 : Src W V .mv l) :
    Calls Tryd.prog 10 #[V] W fun e w1 => e = .returned (.bool (largeB l)) ∧ Below W.heap.size W w1 := by
  obtain ⟨ρ, e1, hS⟩ := start1 h1
  have hlen : l.length ≤ 9223372036854775807 := by obtain ⟨_, _, _, h, _⟩ := h1; exact h.2
  refine (calls_awp (f := 10) (vs := [V]) (cx_ok (C := []) (nt := 27) spc_nil) mixed_ok Tryd.func10 rfl rfl hS (avs := [.one (.row 0)])
    (fun ρ' h => ⟨row_rel h (by simp [findR]) e1 h1, trivial⟩) (le_of_ble (by kernel_rfl)) (K := fun v A => v = .one (.v (.bool (largeB l)))) ?_).mono ?_
  · ((conv => whnf) <;> repeat (refine obl_ ?_; conv => whnf))
    refine cond_ (fun a3 => ?_) (fun a3 => ?_)
    · ((conv => whnf) <;> repeat (refine obl_ ?_; conv => whnf))
      exact bool_ (by unfold largeB; rw [show decide ((40 : Int) < l.length) = true from a3]; rfl)
    have hB : largeB l = l.any fun m => decide (100 < wr ((m.item.size : Int) + m.lot.size)) := by
      unfold largeB
      rw [show decide ((40 : Int) < l.length) = false from a3]
      rfl
    ((conv => whnf) <;> repeat (refine obl_ ?_; conv => whnf))
    refine LoopP.introR (cx_ok spc_nil) mixed_ok (ι := Nat) (fun k => ⟨[(3, .one (.v (.int .i64 (k : Int)))), (0, .one (.row 0))], [], [(0, some ⟨.mv, l, false⟩)]⟩) (fun k => k ≤ l.length ∧ largeB l = (l.drop k).any fun m => decide (100 < wr ((m.item.size : Int) + m.lot.size))) (fun k => l.length - k) 0 ⟨Nat.zero_le _, hB⟩ ⟨[], by (refine ⟨?_, ?_, ?_, by kernel_rfl⟩ <;> repeat' (first | exact trivial | exact rfl | assumption | apply And.intro))⟩ ?_
    rintro k ⟨hk, hfi⟩
    ((conv => whnf) <;> repeat (refine obl_ ?_; conv => whnf))
    refine cond_ (fun h => ?_) (fun h => ?_)
    · have hlt : k < l.length := by have := of_decide_eq_true h; omega
      have i1 : 0 ≤ (k : Int) := by omega
      have i2 : (k : Int) < (l.length : Int) := by omega
      ((conv => whnf) <;> repeat (refine obl_ ?_; conv => whnf))
      refine cond_ (fun b1 => ?_) (fun b1 => ?_)
      · ((conv => whnf) <;> repeat (refine obl_ ?_; conv => whnf))
        exact bool_ (hfi.trans (any_yes zMv hlt b1)).symm
      ((conv => whnf) <;> repeat (refine obl_ ?_; conv => whnf))
      refine ⟨k + 1, ⟨hlt, by rw [hfi, any_no zMv hlt b1]⟩, by omega, [], ?_⟩
      (refine ⟨?_, ?_, ?_, by kernel_rfl⟩ <;> repeat' (first | exact trivial | exact rfl | assumption | apply And.intro))
      exact up_ (by omega)
    · have := of_decide_eq_false h
      ((conv => whnf) <;> repeat (refine obl_ ?_; conv => whnf))
      exact bool_ (hfi.trans (any_end (by omega))).symm
  · rintro e w1 ⟨x, v, A1, ρ1, a1, rfl, hv, rfl, hS1, _⟩
    exact ⟨by rw [show x = _ from hv], hS1.rel.bel⟩
def spLarge : Sp := fun d args k => match args with
  | [.one x] => rdRow .mv x fun l => k (.one (.v (.bool (largeB l))))
  | _ => .fail
theorem large_ok {g : G} {bs : Nat} : SpOk Tryd.prog g bs 10 spLarge := sp_val ⟨_, Tryd.func10, by decide +kernel, rfl⟩ (by
  intro d args k A r h hb
  unfold spLarge at h hb
  split at h
  · rename_i x
    obtain ⟨l, h1, hb1, hp⟩ := rdRow_s h hb
    refine ⟨_, h1, hb1, fun ρ a0 w vs hR hv => ?_⟩
    match vs, hv with
    | [v1], ⟨k1, _⟩ =>
      refine (large_calls (hp _ _ _ _ _ hR k1)).mono ?_
      rintro e w1 ⟨rfl, hbel⟩
      exact ⟨_, rfl, fun ρ' => rfl, hbel⟩
  · cases h)
theorem used_calls {W : World} {LV PV : Value} {ls : List La} {ps : List Pa} (h1 : Src W LV .la ls) (h2 : Src W PV .pa ps) (q v pr : Int) :
    Calls Tryd.prog 16 #[.agg #[.int .i64 q, .int .i64 v, .int .i64 pr, LV, PV]] W fun e w1 => e = .returned (.bool (usedB ps)) ∧ Below W.heap.size W w1 := by
  obtain ⟨ρ, e1, e2, hS⟩ := start2 h1 h2
  have hlen : ps.length ≤ 9223372036854775807 := by obtain ⟨_, _, _, h, _⟩ := h2; exact h.2
  refine (calls_awp (f := 16) (vs := [.agg #[.int .i64 q, .int .i64 v, .int .i64 pr, LV, PV]]) (cx_ok (C := []) (nt := 27) spc_nil) mixed_ok Tryd.func16 rfl rfl hS (avs := [.agg [.v (.int .i64 q), .v (.int .i64 v), .v (.int .i64 pr), .row 0, .row 1]])
    (fun ρ' h => ⟨⟨_, rfl, rfl, rfl, rfl, row_rel h (by simp [findR]) e1 h1, row_rel h (by simp [findR]) e2 h2, trivial⟩, trivial⟩) (le_of_ble (by kernel_rfl)) (K := fun v A => v = .one (.v (.bool (usedB ps)))) ?_).mono ?_
  · ((conv => whnf) <;> repeat (refine obl_ ?_; conv => whnf))
    refine LoopP.introR (cx_ok spc_nil) mixed_ok (ι := Nat) (fun k => ⟨[(3, .one (.v (.int .i64 (k : Int)))), (1, .one (.ptr 11 0))], [(11, 28, [.v (.int .i64 q), .v (.int .i64 v), .v (.int .i64 pr), .row 0, .row 1])], [(0, some ⟨.la, ls, false⟩), (1, some ⟨.pa, ps, false⟩)]⟩) (fun k => k ≤ ps.length ∧ usedB ps = (ps.drop k).any fun p => decide (99 ≤ p.seq) && decide (p.seq ≤ 102)) (fun k => ps.length - k) 0 ⟨Nat.zero_le _, rfl⟩ ⟨[], by (refine ⟨?_, ?_, ?_, by kernel_rfl⟩ <;> repeat' (first | exact trivial | exact rfl | assumption | apply And.intro))⟩ ?_
    rintro k ⟨hk, hfi⟩
    ((conv => whnf) <;> repeat (refine obl_ ?_; conv => whnf))
    refine cond_ (fun h => ?_) (fun h => ?_)
    · have hlt : k < ps.length := by have := of_decide_eq_true h; omega
      have i1 : 0 ≤ (k : Int) := by omega
      have i2 : (k : Int) < (ps.length : Int) := by omega
      ((conv => whnf) <;> repeat (refine obl_ ?_; conv => whnf))
      refine cond_ (fun b1 => ?_) (fun b1 => ?_)
      · have b1' : decide (99 ≤ (ps.getD k zPa).seq) = true := b1
        ((conv => whnf) <;> repeat (refine obl_ ?_; conv => whnf))
        refine cond_ (fun b2 => ?_) (fun b2 => ?_)
        · have b2' : decide ((ps.getD k zPa).seq ≤ 102) = true := b2
          ((conv => whnf) <;> repeat (refine obl_ ?_; conv => whnf))
          exact bool_ (hfi.trans (any_yes zPa hlt (by rw [b1', b2']; rfl))).symm
        · have b2' : decide ((ps.getD k zPa).seq ≤ 102) = false := b2
          ((conv => whnf) <;> repeat (refine obl_ ?_; conv => whnf))
          refine ⟨k + 1, ⟨hlt, by rw [hfi, any_no zPa hlt (by rw [b2', Bool.and_false])]⟩, by omega, [], ?_⟩
          (refine ⟨?_, ?_, ?_, by kernel_rfl⟩ <;> repeat' (first | exact trivial | exact rfl | assumption | apply And.intro))
          exact up_ (by omega)
      · have b1' : decide (99 ≤ (ps.getD k zPa).seq) = false := b1
        ((conv => whnf) <;> repeat (refine obl_ ?_; conv => whnf))
        refine ⟨k + 1, ⟨hlt, by rw [hfi, any_no zPa hlt (by rw [b1', Bool.false_and])]⟩, by omega, [], ?_⟩
        (refine ⟨?_, ?_, ?_, by kernel_rfl⟩ <;> repeat' (first | exact trivial | exact rfl | assumption | apply And.intro))
        exact up_ (by omega)
    · have := of_decide_eq_false h
      ((conv => whnf) <;> repeat (refine obl_ ?_; conv => whnf))
      exact bool_ (hfi.trans (any_end (by omega))).symm
  · rintro e w1 ⟨x, v, A1, ρ1, a1, rfl, hv, rfl, hS1, _⟩
    exact ⟨by rw [show x = _ from hv], hS1.rel.bel⟩
def spUsed : Sp := spStV 0 fun q v ls ps ns => .bool (usedB ps)
theorem used_ok {g : G} {bs : Nat} : SpOk Tryd.prog g bs 16 spUsed := spStV_ok ⟨_, Tryd.func16, by decide +kernel, rfl⟩ (fun W LV PV ls ps q v pr ns hn h1 h2 => by
  match ns, hn with
  | [], _ => exact used_calls h1 h2 q v pr)
def spCmp : Sp := fun d args k => match args with
  | [.one (.v (.int .i64 a)), .one (.v (.int .i64 b)), .one (.v (.int .i64 c)), .one (.v (.int .i64 e))] => .ob (I64 a ∧ I64 b ∧ I64 c ∧ I64 e) (k (.one (.v (.int .i64 (Md.mdCmp a b c e)))))
  | _ => .fail
theorem cmp_ok {g : G} {bs : Nat} : SpOk Tryd.prog g bs 17 spCmp := sp_val ⟨_, Tryd.func17, by decide +kernel, rfl⟩ (by
  intro d args k A r h hb
  unfold spCmp at h hb
  split at h
  · rename_i a b c e
    simp only [M.go] at h
    simp only [M.obl] at hb
    refine ⟨_, h, hb.2, fun ρ a0 w vs hR hv => ?_⟩
    match vs, hv with
    | [v1, v2, v3, v4], ⟨k1, k2, k3, k4, _⟩ =>
      have k1' : v1 = _ := k1
      have k2' : v2 = _ := k2
      have k3' : v3 = _ := k3
      have k4' : v4 = _ := k4
      subst k1' k2' k3' k4'
      refine (Md.Cmp_calls a b c e (Md.mdCmp a b c e) w (if_pos hb.1)).mono ?_
      rintro e' w1 ⟨rfl, hbel⟩
      exact ⟨_, rfl, fun ρ' => rfl, hbel⟩
  · cases h)
def lMv (seq kind qty cost ref : Int) : Mv := ⟨seq, 46021, ⟨#[120]⟩, kind, qty, cost, ⟨#[]⟩, ref⟩
theorem lmove_calls (a b c d e' : Int) (W : World) :
    Calls Tryd.prog 18 #[.int .i64 a, .int .i64 b, .int .i64 c, .int .i64 d, .int .i64 e'] W fun e w1 => e = .returned (.agg (mvC (lMv a b c d e')).toArray) ∧ Below W.heap.size W w1 := by
  refine (calls_awp (f := 18) (vs := [.int .i64 a, .int .i64 b, .int .i64 c, .int .i64 d, .int .i64 e']) (cx_ok (C := []) (nt := 17) spc_nil) mixed_ok Tryd.func18 rfl rfl (start0 W) (avs := [.one (.v (.int .i64 a)), .one (.v (.int .i64 b)), .one (.v (.int .i64 c)), .one (.v (.int .i64 d)), .one (.v (.int .i64 e'))])
    (fun ρ' h => ⟨rfl, rfl, rfl, rfl, rfl, trivial⟩) (le_of_ble (by kernel_rfl)) (K := fun v A => v = .agg (mvL (lMv a b c d e'))) ?_).mono ?_
  · ((conv => whnf) <;> repeat (refine obl_ ?_; conv => whnf))
    exact rfl
  · rintro e w1 ⟨x, v, A1, ρ1, a1, rfl, hv, rfl, hS1, _⟩
    obtain ⟨us, eu, hu⟩ := hv
    match us, hu with
    | [w1', w2, w3, w4, w5, w6, w7, w8], ⟨j1, j2, j3, j4, j5, j6, j7, j8, _⟩ =>
      simp only [L.rel] at j1 j2 j3 j4 j5 j6 j7 j8
      subst eu j1 j2 j3 j4 j5 j6 j7 j8
      exact ⟨rfl, hS1.rel.bel⟩
def spLMove : Sp := fun d args k => match args with
  | [.one (.v (.int .i64 a)), .one (.v (.int .i64 b)), .one (.v (.int .i64 c)), .one (.v (.int .i64 d)), .one (.v (.int .i64 e))] => k (.agg [.v (.int .i64 a), .v (.int .i64 46021), .v (.string ⟨#[120]⟩), .v (.int .i64 b), .v (.int .i64 c), .v (.int .i64 d), .v (.string ⟨#[]⟩), .v (.int .i64 e)])
  | _ => .fail
theorem lmove_ok {g : G} {bs : Nat} : SpOk Tryd.prog g bs 18 spLMove := sp_val ⟨_, Tryd.func18, by decide +kernel, rfl⟩ (by
  intro d args k A r h hb
  unfold spLMove at h hb
  split at h
  · rename_i a b c d e
    refine ⟨_, h, hb, fun ρ a0 w vs hR hv => ?_⟩
    match vs, hv with
    | [v1, v2, v3, v4, v5], ⟨k1, k2, k3, k4, k5, _⟩ =>
      have k1' : v1 = _ := k1
      have k2' : v2 = _ := k2
      have k3' : v3 = _ := k3
      have k4' : v4 = _ := k4
      have k5' : v5 = _ := k5
      subst k1' k2' k3' k4' k5'
      refine (lmove_calls a b c d e w).mono ?_
      rintro e w1 ⟨rfl, hbel⟩
      exact ⟨_, rfl, fun ρ' => ⟨_, rfl, rfl, rfl, rfl, rfl, rfl, rfl, rfl, rfl, trivial⟩, hbel⟩
  · cases h)
end Go.Proofs.YticcaknflnldgaaDoor.Ff

/- average: the chapter's examples hold. No condition. -/
namespace Go.Proofs.YticcaknflnldgaaDoor.Ff
open Go.RowKit Go.Proofs.YticcaknflnldgaaDoorW.PrintWords Go.Proofs.YticcaknflnldgaaDoor.Ex
set_option linter.unusedVariables false
set_option linter.unusedSimpArgs false
set_option maxRecDepth 100000
theorem br_t {b : Bool} {p q : Prop} (hb : b = true) (h : p) : Br b p q := by subst hb; exact h
theorem smA {s : St} {a b c d e : Int} {n : Nat} (hp : Kn s n) (hn : n ≤ 100) (hm : MvI (lMv a b c d e)) : SmA s (lMv a b c d e) := hp.sm1 (by omega) hm (by show (1 : Nat) ≤ _; decide) (by show (0 : Nat) ≤ _; decide)
def lv0 : St := zSt
def lv1 : St := ⟨10, 100, 0, [], [⟨1, 1, ⟨#[]⟩, 10, 100, 0, 0⟩]⟩
def lv2 : St := ⟨15, 180, 0, [], [⟨1, 1, ⟨#[]⟩, 10, 100, 0, 0⟩, ⟨2, 1, ⟨#[]⟩, 5, 80, 0, 0⟩]⟩
def lv3 : St := ⟨11, 132, 0, [], [⟨1, 1, ⟨#[]⟩, 10, 100, 0, 0⟩, ⟨2, 1, ⟨#[]⟩, 5, 80, 0, 0⟩, ⟨3, 2, ⟨#[]⟩, 4, 48, 0, 0⟩]⟩
def lv4 : St := ⟨12, 144, 0, [], [⟨1, 1, ⟨#[]⟩, 10, 100, 0, 0⟩, ⟨2, 1, ⟨#[]⟩, 5, 80, 0, 0⟩, ⟨3, 2, ⟨#[]⟩, 4, 48, 1, 12⟩]⟩
def lv5 : St := ⟨7, 84, 0, [], [⟨1, 1, ⟨#[]⟩, 10, 100, 0, 0⟩, ⟨2, 1, ⟨#[]⟩, 5, 80, 5, 0⟩, ⟨3, 2, ⟨#[]⟩, 4, 48, 1, 12⟩]⟩
def lv6 : St := ⟨7, 105, 0, [], [⟨1, 1, ⟨#[]⟩, 10, 100, 0, 0⟩, ⟨2, 1, ⟨#[]⟩, 5, 80, 5, 0⟩, ⟨3, 2, ⟨#[]⟩, 4, 48, 1, 12⟩]⟩
theorem live1 : stepA lv0 (lMv 1 1 10 100 0) = (0, lv1, ⟨1, 10, 100, 0⟩) := by kernel_rfl
theorem live2 : stepA lv1 (lMv 2 1 5 80 0) = (0, lv2, ⟨2, 5, 80, 0⟩) := by kernel_rfl
theorem live3 : stepA lv2 (lMv 3 2 4 0 0) = (0, lv3, ⟨3, -4, -48, 0⟩) := by kernel_rfl
theorem live4 : stepA lv3 (lMv 4 3 1 0 3) = (0, lv4, ⟨4, 1, 12, 0⟩) := by kernel_rfl
theorem live5 : stepA lv4 (lMv 5 4 5 70 2) = (0, lv5, ⟨5, -5, -60, -10⟩) := by kernel_rfl
theorem live6 : stepA lv5 (lMv 6 5 0 30 1) = (0, lv6, ⟨6, 0, 21, 9⟩) := by kernel_rfl
theorem live7 : stepA lv6 (lMv 7 6 0 1 0) = (10, zSt, zC 0) := by kernel_rfl
theorem live8 : stepA lv6 (lMv 7 2 8 0 0) = (21, zSt, zC 0) := by kernel_rfl
theorem lm1 : MvI (lMv 1 1 10 100 0) := by constructor <;> simp [lMv, I64]
theorem lm2 : MvI (lMv 2 1 5 80 0) := by constructor <;> simp [lMv, I64]
theorem lm3 : MvI (lMv 3 2 4 0 0) := by constructor <;> simp [lMv, I64]
theorem lm4 : MvI (lMv 4 3 1 0 3) := by constructor <;> simp [lMv, I64]
theorem lm5 : MvI (lMv 5 4 5 70 2) := by constructor <;> simp [lMv, I64]
theorem lm6 : MvI (lMv 6 5 0 30 1) := by constructor <;> simp [lMv, I64]
theorem lm7 : MvI (lMv 7 6 0 1 0) := by constructor <;> simp [lMv, I64]
theorem lm8 : MvI (lMv 7 2 8 0 0) := by constructor <;> simp [lMv, I64]
theorem kn0 : Kn lv0 0 := zSt_kn
theorem kn1 : Kn lv1 1 := kn0.to lm1 live1
theorem kn2 : Kn lv2 2 := kn1.to lm2 live2
theorem kn3 : Kn lv3 3 := kn2.to lm3 live3
theorem kn4 : Kn lv4 4 := kn3.to lm4 live4
theorem kn5 : Kn lv5 5 := kn4.to lm5 live5
theorem kn6 : Kn lv6 6 := kn5.to lm6 live6
def CS : List (Nat × Sp) := [(12, spStepN SmA stepA), (18, spLMove)]
theorem cs_ok {g : G} {n : Nat} (hL : Laid g.W0) (hS : ∀ i, ¬ g.S i) : ∀ f sp, lookC CS f = some sp → SpOk Tryd.prog g n f sp := spc_cons (stpA_ok hL hS) (spc_cons lmove_ok spc_nil)
theorem lives_calls {W : World} (hL : Laid W) : Calls Tryd.prog 11 #[] W fun e w1 => e = .returned (.bool true) ∧ Below W.heap.size W w1 := by
  have hg : ∀ i, ¬ (gW W).S i := fun i h => h
  refine (calls_awp (f := 11) (vs := []) (cx_ok (C := CS) (nt := 144) (cs_ok hL hg)) mixed_ok Tryd.func11 rfl rfl (start0 W) (avs := []) (fun _ _ => trivial) (le_of_ble (by kernel_rfl)) (K := fun x A => x = .one (.v (.bool true))) ?_).mono ?_
  · ((conv => whnf) <;> repeat (refine obl_ ?_; conv => whnf))
    show SmA lv0 (lMv 1 1 10 100 0) ∧ (stepNM (stepA lv0 (lMv 1 1 10 100 0)) _ _).cps _ _
    rw [live1]
    refine ⟨smA kn0 (by decide) lm1, ?_⟩
    ((conv => whnf) <;> repeat (refine obl_ ?_; conv => whnf))
    show SmA lv1 (lMv 2 1 5 80 0) ∧ (stepNM (stepA lv1 (lMv 2 1 5 80 0)) _ _).cpsL _ _
    rw [live2]
    refine ⟨smA kn1 (by decide) lm2, ?_⟩
    ((conv => whnf) <;> repeat (refine obl_ ?_; conv => whnf))
    show SmA lv2 (lMv 3 2 4 0 0) ∧ (stepNM (stepA lv2 (lMv 3 2 4 0 0)) _ _).cpsL _ _
    rw [live3]
    refine ⟨smA kn2 (by decide) lm3, ?_⟩
    ((conv => whnf) <;> repeat (refine obl_ ?_; conv => whnf))
    show SmA lv3 (lMv 4 3 1 0 3) ∧ (stepNM (stepA lv3 (lMv 4 3 1 0 3)) _ _).cpsL _ _
    rw [live4]
    refine ⟨smA kn3 (by decide) lm4, ?_⟩
    ((conv => whnf) <;> repeat (refine obl_ ?_; conv => whnf))
    show SmA lv4 (lMv 5 4 5 70 2) ∧ (stepNM (stepA lv4 (lMv 5 4 5 70 2)) _ _).cpsL _ _
    rw [live5]
    refine ⟨smA kn4 (by decide) lm5, ?_⟩
    ((conv => whnf) <;> repeat (refine obl_ ?_; conv => whnf))
    show SmA lv5 (lMv 6 5 0 30 1) ∧ (stepNM (stepA lv5 (lMv 6 5 0 30 1)) _ _).cpsL _ _
    rw [live6]
    refine ⟨smA kn5 (by decide) lm6, ?_⟩
    ((conv => whnf) <;> repeat (refine obl_ ?_; conv => whnf))
    show SmA lv6 (lMv 7 6 0 1 0) ∧ (stepNM (stepA lv6 (lMv 7 6 0 1 0)) _ _).cpsL _ _
    rw [live7]
    refine ⟨smA kn6 (by decide) lm7, ?_⟩
    ((conv => whnf) <;> repeat (refine obl_ ?_; conv => whnf))
    show SmA lv6 (lMv 7 2 8 0 0) ∧ (stepNM (stepA lv6 (lMv 7 2 8 0 0)) _ _).cpsL _ _
    rw [live8]
    refine ⟨smA kn6 (by decide) lm8, ?_⟩
    ((conv => whnf) <;> repeat (refine obl_ ?_; conv => whnf))
    exact rfl
  · rintro e w1 ⟨x, v, A1, ρ1, a1, rfl, hv, rfl, hS1, _⟩
    exact ⟨by rw [show x = _ from hv], hS1.rel.bel⟩
theorem lives_ok {g : G} {bs : Nat} (hL : Laid g.W0) (hS : ∀ i, ¬ g.S i) : SpOk Tryd.prog g bs 11 spTrue := true_ok hL hS ⟨_, Tryd.func11, by decide +kernel, rfl⟩ (fun W h => lives_calls h)
end Go.Proofs.YticcaknflnldgaaDoor.Ff

/- average: movements played; the callees of the laws. No condition but 64 bits. -/
namespace Go.Proofs.YticcaknflnldgaaDoor.Ff
open Go.RowKit Go.Proofs.YticcaknflnldgaaDoorW.PrintWords Go.Proofs.YticcaknflnldgaaDoor.Ex
set_option linter.unusedVariables false
set_option linter.unusedSimpArgs false
set_option maxRecDepth 100000
def sumC (f : Co → Int) : List Co → Int
  | [] => 0
  | x :: r => f x + sumC f r
theorem sumC_app (f : Co → Int) : ∀ (l r : List Co), sumC f (l ++ r) = sumC f l + sumC f r
  | [], r => by simp [sumC]
  | x :: l, r => by simp only [List.cons_append, sumC, sumC_app f l r]; omega
theorem zCo_def : RK.co.fk.dft = (⟨0, 0, 0, 0⟩ : Co) := rfl
theorem sumC_step {f : Co → Int} {l : List Co} {k : Nat} (h : k < l.length) : sumC f (l.take (k + 1)) = sumC f (l.take k) + f (l.getD k (zC 0)) := by
  have e : l.take (k + 1) = l.take k ++ [l.getD k (zC 0)] := by
    rw [List.take_add_one, List.getElem?_eq_getElem h, List.getD_eq_getElem?_getD, List.getElem?_eq_getElem h]
    rfl
  rw [e, sumC_app]
  simp [sumC]
theorem sumC_le {f : Co → Int} {M : Int} : ∀ {l : List Co}, (∀ c ∈ l, -M ≤ f c ∧ f c ≤ M) → -(M * l.length) ≤ sumC f l ∧ sumC f l ≤ M * l.length
  | [], _ => by simp [sumC]
  | x :: r, h => by
    have h1 := h x List.mem_cons_self
    have h2 := sumC_le (l := r) (fun c hc => h c (List.mem_cons_of_mem _ hc))
    simp only [sumC, List.length_cons]
    have : M * ((r.length + 1 : Nat) : Int) = M * r.length + M := by rw [Int.natCast_succ, Int.mul_add, Int.mul_one]
    omega
/-- Movements played: the stock and the costs of those that succeed. -/
def playF2 : List Mv → St × List Co → St × List Co
  | [], x => x
  | m :: r, x => playF2 r (if (stepA x.1 m).1 = 0 then ((stepA x.1 m).2.1, x.2 ++ [(stepA x.1 m).2.2]) else x)
theorem playF2_drop {l : List Mv} {k : Nat} (h : k < l.length) (x : St × List Co) : playF2 (l.drop k) x = playF2 (l.drop (k + 1)) (if (stepA x.1 (l.getD k zMv)).1 = 0 then ((stepA x.1 (l.getD k zMv)).2.1, x.2 ++ [(stepA x.1 (l.getD k zMv)).2.2]) else x) := by
  rw [List.drop_eq_getElem_cons h, List.getD_eq_getElem?_getD, List.getElem?_eq_getElem h]
  rfl
def playA (l : List Mv) : St × List Co := playF2 l (zSt, [])
/-- What is known of a stock and the costs so far. -/
structure PlA (s : St) (cs : List Co) (n : Nat) : Prop where
  kn : Kn s n
  len : cs.length ≤ n
  q : sumC Co.qty cs = s.q
  v : sumC Co.value cs = s.v
  cq : ∀ c ∈ cs, -1000000000 ≤ c.qty ∧ c.qty ≤ 1000000000
  cv : ∀ c ∈ cs, -1000000000000000 ≤ c.value ∧ c.value ≤ 1000000000000000
theorem app_cs {p : Co → Prop} {l : List Co} {y : Co} (h : ∀ c ∈ l, p c) (hy : p y) : ∀ c ∈ l ++ [y], p c := fun c hc => (List.mem_append.1 hc).elim (h c) (fun e => by rw [List.mem_singleton.1 e]; exact hy)
theorem PlA.next {s : St} {cs : List Co} {n : Nat} (h : PlA s cs n) {m : Mv} (hm : MvI m) : PlA (if (stepA s m).1 = 0 then ((stepA s m).2.1, cs ++ [(stepA s m).2.2]) else (s, cs)).1 (if (stepA s m).1 = 0 then ((stepA s m).2.1, cs ++ [(stepA s m).2.2]) else (s, cs)).2 (n + 1) := by
  have k := h.kn.next hm
  by_cases h0 : (stepA s m).1 = 0
  · rw [if_pos h0] at k ⊢
    have S := stA h.kn.inv h0
    refine ⟨k, by simp only [List.length_append, List.length_singleton]; have := h.len; omega, ?_, ?_, app_cs h.cq S.q1, app_cs h.cv S.v1⟩
    · simp only [sumC_app, sumC]
      rw [h.q, S.q]
      omega
    · simp only [sumC_app, sumC]
      rw [h.v, S.v]
      omega
  · rw [if_neg h0] at k ⊢
    exact ⟨k, Nat.le_succ_of_le h.len, h.q, h.v, h.cq, h.cv⟩
theorem playF2_pl : ∀ {l : List Mv} {x : St × List Co} {n : Nat}, PlA x.1 x.2 n → (∀ m ∈ l, MvI m) → PlA (playF2 l x).1 (playF2 l x).2 (n + l.length)
  | [], x, n, h, _ => h
  | m :: r, x, n, h, hm => by
    have := playF2_pl (l := r) (h.next (hm m List.mem_cons_self)) (fun y hy => hm y (List.mem_cons_of_mem _ hy))
    rw [show n + (m :: r).length = n + 1 + r.length from by simp only [List.length_cons]; omega]
    exact this
theorem zSt_plA : PlA zSt [] 0 := ⟨zSt_kn, Nat.le_refl _, rfl, rfl, fun c hc => (by cases hc), fun c hc => (by cases hc)⟩
theorem playA_pl {l : List Mv} (h : MvsI l) : PlA (playA l).1 (playA l).2 l.length := by
  have := playF2_pl (l := l) (x := (zSt, [])) (n := 0) zSt_plA (fun m hm => (h m hm).1)
  rw [Nat.zero_add] at this
  exact this
def CP : List (Nat × Sp) := [(12, spStepN SmA stepA)]
theorem cp_ok {g : G} {n : Nat} (hL : Laid g.W0) (hS : ∀ i, ¬ g.S i) : ∀ f sp, lookC CP f = some sp → SpOk Tryd.prog g n f sp := spc_cons (stpA_ok hL hS) spc_nil
def NewPC (W w1 : World) (s : St) (cs : List Co) (e : Ending) : Prop := ∃ V1 V2, e = .returned (.tuple #[.agg #[.int .i64 s.q, .int .i64 s.v, .int .i64 s.pr, .slice none 0 0, V1], V2]) ∧ OwnR w1 (fun b => W.heap.size ≤ b) .pa V1 s.pa ∧ OwnR w1 (fun b => W.heap.size ≤ b) .co V2 cs ∧ Apart V1 V2 ∧ Apart V2 V1 ∧ Below W.heap.size W w1
theorem play_calls {W : World} {V : Value} {l : List Mv} (hL : Laid W) (h1 : Src W V .mv l) (hl : MvsI l) (h40 : l.length ≤ 40) :
    Calls Tryd.prog 15 #[V] W fun e w1 => NewPC W w1 (playA l).1 (playA l).2 e := by
  obtain ⟨ρ, e1, hS⟩ := start1 h1
  have hg : ∀ i, ¬ (gW W).S i := fun i h => h
  refine (calls_awp (f := 15) (vs := [V]) (cx_ok (C := CP) (nt := 37) (cp_ok hL hg)) mixed_ok Tryd.func15 rfl rfl hS (avs := [.one (.row 0)])
    (fun ρ' h => ⟨row_rel h (by simp [findR]) e1 h1, trivial⟩) (le_of_ble (by kernel_rfl)) (K := fun x A => ∃ k1 k2, k1 ≠ k2 ∧ x = .tup [(true, [.v (.int .i64 (playA l).1.q), .v (.int .i64 (playA l).1.v), .v (.int .i64 (playA l).1.pr), .v (.slice none 0 0), .row k1]), (false, [.row k2])] ∧ findR A.rw k1 = some (some ⟨.pa, (playA l).1.pa, true⟩) ∧ findR A.rw k2 = some (some ⟨.co, (playA l).2, true⟩)) ?_).mono ?_
  · ((conv => whnf) <;> repeat (refine obl_ ?_; conv => whnf))
    refine LoopP.introR (cx_ok (cp_ok hL hg)) mixed_ok (ι := Nat × St × List Co) (fun k => ⟨[(6, .one (.v (.int .i64 (k.1 : Int)))), (5, .one (.row 5001)), (4, .one (.ptr 14 0)), (2, .one (.ptr 12 0)), (0, .one (.row 0))], [(14, 28, stockN k.2.1 5000), (12, 28, zStk)], [(0, some ⟨.mv, l, false⟩), (5000, some ⟨.pa, k.2.1.pa, true⟩), (5001, some ⟨.co, k.2.2, true⟩)]⟩) (fun k => k.1 ≤ l.length ∧ PlA k.2.1 k.2.2 k.1 ∧ playA l = playF2 (l.drop k.1) k.2) (fun k => l.length - k.1) (0, zSt, []) ⟨Nat.zero_le _, zSt_plA, rfl⟩ ⟨[(5000, none), (5001, some 21)], by (refine ⟨?_, ?_, ?_, by kernel_rfl⟩ <;> repeat' (first | exact trivial | exact rfl | assumption | apply And.intro))⟩ ?_
    rintro ⟨k, s, cs⟩ ⟨hk, hs, hp⟩
    simp only at hk hs hp
    have lcs : cs.length ≤ 1000 := by have := hs.len; omega
    ((conv => whnf) <;> repeat (refine obl_ ?_; conv => whnf))
    refine cond_ (fun h => ?_) (fun h => ?_)
    · have hlt : k < l.length := by have := of_decide_eq_true h; simp only at this; omega
      have i1 : 0 ≤ (k : Int) := by omega
      have i2 : (k : Int) < (l.length : Int) := by omega
      have hla : s.la = [] := hs.kn.inv.la
      obtain ⟨sq, sv, sp, sl, spa⟩ := s
      simp only at hla
      subst hla
      have hsm : SmA ⟨sq, sv, sp, [], spa⟩ (l.getD k zMv) := hs.kn.sm (by omega) hl hlt
      have hs2 := hs.next hsm.sm.mi
      have hp2 := hp.trans (playF2_drop hlt (⟨sq, sv, sp, [], spa⟩, cs))
      simp only at hp2
      ((conv => whnf) <;> repeat (refine obl_ ?_; conv => whnf))
      refine cond_ (fun h3 => ?_) (fun h3 => ?_)
      · have h0 : (stepA ⟨sq, sv, sp, [], spa⟩ (l.getD k zMv)).1 = 0 := beq_iff_eq.1 h3
        rw [if_pos h0] at hs2 hp2
        ((conv => whnf) <;> repeat (refine obl_ ?_; conv => whnf))
        refine ⟨(k + 1, (stepA ⟨sq, sv, sp, [], spa⟩ (l.getD k zMv)).2.1, cs ++ [(stepA ⟨sq, sv, sp, [], spa⟩ (l.getD k zMv)).2.2]), ⟨by simp only; omega, hs2, hp2⟩, by simp only; omega, [(5000, some 34), (5001, some 44)], ?_⟩
        (refine ⟨?_, ?_, ?_, by kernel_rfl⟩ <;> repeat' (first | exact trivial | exact rfl | assumption | apply And.intro))
        exact up_ (by omega)
      · have h0 : ¬ (stepA ⟨sq, sv, sp, [], spa⟩ (l.getD k zMv)).1 = 0 := fun e => beq_ne h3 e
        rw [if_neg h0] at hs2 hp2
        ((conv => whnf) <;> repeat (refine obl_ ?_; conv => whnf))
        refine ⟨(k + 1, ⟨sq, sv, sp, [], spa⟩, cs), ⟨by simp only; omega, hs2, hp2⟩, by simp only; omega, [], ?_⟩
        (refine ⟨?_, ?_, ?_, by kernel_rfl⟩ <;> repeat' (first | exact trivial | exact rfl | assumption | apply And.intro))
        exact up_ (by omega)
    · have hge := of_decide_eq_false h
      have e : playA l = (s, cs) := by
        rw [hp, List.drop_eq_nil_of_le (by simp only at hge; omega)]
        rfl
      rw [e]
      ((conv => whnf) <;> repeat (refine obl_ ?_; conv => whnf))
      exact ⟨_, _, (by decide : (5000 : Nat) ≠ 5001), rfl, rfl, rfl⟩
  · rintro e w1 ⟨x, u, A1, ρ1, a1, rfl, hv, ⟨k1, k2, hne, rfl, f1, f2⟩, hS1, _⟩
    obtain ⟨us, eu, hu⟩ := hv
    match us, hu with
    | [u1, u2], ⟨⟨vs1, c1, d1⟩, c2, _⟩ =>
      match vs1, d1 with
      | [a1, a2, a3, a4, a5], ⟨b1, b2, b3, b4, b5, _⟩ =>
        simp only [L.rel] at b1 b2 b3 b4 b5
        obtain ⟨c2, _⟩ : (L.row k2).rel ρ1 u2 := c2
        obtain ⟨b5, _⟩ := b5
        subst eu c1 c2 b1 b2 b3 b4 b5
        exact ⟨_, _, rfl, (hS1.ownR f1).mono (fun b _ hb => gW_mine hb), (hS1.ownR f2).mono (fun b _ hb => gW_mine hb), hS1.apart f1 f2 rfl rfl hne, hS1.apart f2 f1 rfl rfl (Ne.symm hne), hS1.rel.bel⟩
def spPlayA : Sp := fun d args k => match args with
  | [.one x] => rdRow .mv x fun l => .ob (l.length ≤ 40 ∧ MvsI l) (new2 d ⟨.pa, (playA l).1.pa, true⟩ ⟨.co, (playA l).2, true⟩ (k (.tup [(true, [.v (.int .i64 (playA l).1.q), .v (.int .i64 (playA l).1.v), .v (.int .i64 (playA l).1.pr), .v (.slice none 0 0), .row d]), (false, [.row (d + 500)])])))
  | _ => .fail
theorem play_ok {g : G} {bs : Nat} (hL : Laid g.W0) (hS : ∀ i, ¬ g.S i) : SpOk Tryd.prog g bs 15 spPlayA := sp_new2 ⟨_, Tryd.func15, by decide +kernel, rfl⟩ (by
  intro d args k A r h hb
  unfold spPlayA at h hb
  split at h
  · rename_i x
    obtain ⟨l, h1, hb1, hp⟩ := rdRow_s h hb
    simp only [M.go] at h1
    simp only [M.obl] at hb1
    refine ⟨_, _, _, _, _, h1, hb1.2, fun ρ a0 w vs hR hv => ?_⟩
    match vs, hv with
    | [v1], ⟨k1, _⟩ =>
      refine (play_calls (laid_of hL hS hR.kept.2) (hp _ _ _ _ _ hR k1) hb1.1.2 hb1.1.1).mono ?_
      rintro e w1 ⟨V1, V2, rfl, o1, o2, a1, a2, hbel⟩
      exact ⟨_, V1, V2, rfl, fun ρ' r1 r2 => ⟨_, rfl, ⟨_, rfl, rfl, rfl, rfl, rfl, own_row o1 r1, trivial⟩, own_row o2 r2, trivial⟩, o1, o2, a1, a2, hbel⟩
  · cases h)
def CL : List (Nat × Sp) := [(12, spStepN SmA stepA), (13, spStepN SmA stepA), (14, spSame), (11, spTrue), (10, spLarge), (15, spPlayA), (16, spUsed), (17, spCmp)]
theorem cl_ok {g : G} {n : Nat} (hL : Laid g.W0) (hS : ∀ i, ¬ g.S i) : ∀ f sp, lookC CL f = some sp → SpOk Tryd.prog g n f sp := spc_cons (stpA_ok hL hS) (spc_cons stpAR_ok (spc_cons same_ok (spc_cons (lives_ok hL hS) (spc_cons large_ok (spc_cons (play_ok hL hS) (spc_cons used_ok (spc_cons cmp_ok spc_nil)))))))
end Go.Proofs.YticcaknflnldgaaDoor.Ff

/- The law AverageSteps, walked. No condition but 64 bits. -/
namespace Go.Proofs.YticcaknflnldgaaDoor.Ff
open Go.RowKit Go.Proofs.YticcaknflnldgaaDoorW.PrintWords Go.Proofs.YticcaknflnldgaaDoor.Ex
set_option linter.unusedVariables false
set_option linter.unusedSimpArgs false
set_option maxRecDepth 100000
/-- The stock that is played, without layers. -/
def s0 (l : List Mv) : St := ⟨(playA l).1.q, (playA l).1.v, (playA l).1.pr, [], (playA l).1.pa⟩
theorem s0_eq {l : List Mv} (h : MvsI l) : (playA l).1 = s0 l := by
  have := (playA_pl h).kn.inv.la
  unfold s0
  generalize (playA l).1 = s at *
  obtain ⟨a, b, c, d, e⟩ := s
  simp only at this
  subst this
  rfl
theorem s0_pl {l : List Mv} (h : MvsI l) : PlA (s0 l) (playA l).2 l.length := by
  rw [← s0_eq h]
  exact playA_pl h
theorem bne_no {a b : Int} (h : (a != b) = true) (e : a = b) : False := by rw [e] at h; simp at h
theorem bne_eq {a b : Int} (h : (a != b) = false) : a = b := by simpa using h
theorem stepA_la {s : St} {m : Mv} (h : s.la = []) : (stepA s m).2.1 = ⟨(stepA s m).2.1.q, (stepA s m).2.1.v, (stepA s m).2.1.pr, [], (stepA s m).2.1.pa⟩ := by
  have e : (stepA s m).2.1.la = [] := by
    unfold stepA
    simp only
    repeat' split
    all_goals first | rfl | exact h
  generalize (stepA s m).2.1 = t at *
  obtain ⟨a, b, c, d, f⟩ := t
  simp only at e
  subst e
  rfl
theorem AverageSteps_calls {W : World} {V : Value} {l : List Mv} (hL : Laid W) (h1 : Src W V .mv l) (hl : MvsI l) :
    Calls Tryd.prog 3 #[V] W fun e w1 => e = .returned (.bool true) ∧ Below W.heap.size W w1 := by
  obtain ⟨ρ, e1, hS⟩ := start1 h1
  have hg : ∀ i, ¬ (gW W).S i := fun i h => h
  refine (calls_awp (f := 3) (vs := [V]) (cx_ok (C := CL) (nt := 62) (cl_ok hL hg)) mixed_ok Tryd.func3 rfl rfl hS (avs := [.one (.row 0)])
    (fun ρ' h => ⟨row_rel h (by simp [findR]) e1 h1, trivial⟩) (le_of_ble (by kernel_rfl)) (K := fun x A => x = .one (.v (.bool true))) ?_).mono ?_
  · ((conv => whnf) <;> repeat (refine obl_ ?_; conv => whnf))
    refine cond_ (fun h => ?_) (fun h => ?_)
    · ((conv => whnf) <;> repeat (refine obl_ ?_; conv => whnf))
      exact rfl
    have hB : largeB l = false := h
    have hlen := large_f hB
    ((conv => whnf) <;> repeat (refine obl_ ?_; conv => whnf))
    refine LoopP.introR (cx_ok (cl_ok hL hg)) mixed_ok (ι := Nat × St) (fun k => ⟨[(5, .one (.v (.int .i64 (k.1 : Int)))), (4, .one (.ptr 14 0)), (3, .one (.ptr 13 0)), (2, .one (.v (.bool false))), (0, .one (.row 0))], [(14, 28, stockN k.2 5001), (13, 28, stockN k.2 5000)], [(0, some ⟨.mv, l, false⟩), (5000, some ⟨.pa, k.2.pa, true⟩), (5001, some ⟨.pa, k.2.pa, true⟩)]⟩) (fun k => k.1 ≤ l.length ∧ Kn k.2 k.1) (fun k => l.length - k.1) (0, zSt) ⟨Nat.zero_le _, zSt_kn⟩ ⟨[(5000, none), (5001, none)], by (refine ⟨?_, ?_, ?_, by kernel_rfl⟩ <;> repeat' (first | exact trivial | exact rfl | assumption | apply And.intro))⟩ ?_
    rintro ⟨k, s⟩ ⟨hk, hs⟩
    simp only at hk hs
    ((conv => whnf) <;> repeat (refine obl_ ?_; conv => whnf))
    refine cond_ (fun h => ?_) (fun h => ?_)
    · have hlt : k < l.length := by have := of_decide_eq_true h; simp only at this; omega
      have i1 : 0 ≤ (k : Int) := by omega
      have i2 : (k : Int) < (l.length : Int) := by omega
      have hla : s.la = [] := hs.inv.la
      obtain ⟨sq, sv, sp, sl, spa⟩ := s
      simp only at hla
      subst hla
      have hsm : SmA ⟨sq, sv, sp, [], spa⟩ (l.getD k zMv) := hs.sm (by omega) hl hlt
      have hs2 := hs.next hsm.sm.mi
      have hla2 : (stepA ⟨sq, sv, sp, [], spa⟩ (l.getD k zMv)).2.1 = ⟨(stepA ⟨sq, sv, sp, [], spa⟩ (l.getD k zMv)).2.1.q, (stepA ⟨sq, sv, sp, [], spa⟩ (l.getD k zMv)).2.1.v, (stepA ⟨sq, sv, sp, [], spa⟩ (l.getD k zMv)).2.1.pr, [], (stepA ⟨sq, sv, sp, [], spa⟩ (l.getD k zMv)).2.1.pa⟩ := stepA_la rfl
      ((conv => whnf) <;> repeat (refine obl_ ?_; conv => whnf))
      refine cond_ (fun h => absurd h (by simp)) (fun _ => ?_)
      ((conv => whnf) <;> repeat (refine obl_ ?_; conv => whnf))
      refine cond_ (fun h => absurd h (by simp)) (fun _ => ?_)
      ((conv => whnf) <;> repeat (refine obl_ ?_; conv => whnf))
      refine cond_ (fun h3 => ?_) (fun h3 => ?_)
      · have h0 : (stepA ⟨sq, sv, sp, [], spa⟩ (l.getD k zMv)).1 = 0 := beq_iff_eq.1 h3
        rw [if_pos h0] at hs2
        ((conv => whnf) <;> repeat (refine obl_ ?_; conv => whnf))
        refine ⟨(k + 1, (stepA ⟨sq, sv, sp, [], spa⟩ (l.getD k zMv)).2.1), ⟨by simp only; omega, hs2⟩, by simp only; omega, [(5000, some 39), (5001, some 49)], ?_⟩
        (refine ⟨?_, ?_, ?_, by kernel_rfl⟩ <;> repeat' (first | exact trivial | exact rfl | assumption | apply And.intro))
        exact up_ (by omega)
      · have h0 : ¬ (stepA ⟨sq, sv, sp, [], spa⟩ (l.getD k zMv)).1 = 0 := fun e => beq_ne h3 e
        rw [if_neg h0] at hs2
        ((conv => whnf) <;> repeat (refine obl_ ?_; conv => whnf))
        refine ⟨(k + 1, ⟨sq, sv, sp, [], spa⟩), ⟨by simp only; omega, hs2⟩, by simp only; omega, [], ?_⟩
        (refine ⟨?_, ?_, ?_, by kernel_rfl⟩ <;> repeat' (first | exact trivial | exact rfl | assumption | apply And.intro))
        exact up_ (by omega)
    · ((conv => whnf) <;> repeat (refine obl_ ?_; conv => whnf))
      exact rfl
  · rintro e w1 ⟨x, v, A1, ρ1, a1, rfl, hv, rfl, hS1, _⟩
    exact ⟨by rw [show x = _ from hv], hS1.rel.bel⟩
end Go.Proofs.YticcaknflnldgaaDoor.Ff
