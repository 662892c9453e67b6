/- The executor and what hangs on it, merged (LuL): a verified abstract run of code over memory, and the walks by it; each theorem names its conditions. -/
import Derived.Test.YtcjdkaigimcofaaDoorX2
/- The law LotsApart, walked. No condition but 64 bits. -/
namespace Go.Proofs.YtcjdkaigimcofaaDoor.Ff
open Go.RowKit Go.Proofs.YtcjdkaigimcofaaDoorW.PrintWords Go.Proofs.YtcjdkaigimcofaaDoor.Ex
set_option linter.unusedVariables false
set_option linter.unusedSimpArgs false
set_option maxRecDepth 100000
def laEqB (a b : La) : Bool := a.seq == b.seq && (strEq a.lot b.lot && (a.qty == b.qty && (a.value == b.value && true)))
theorem laEqB_self (a : La) : laEqB a a = true := by simp [laEqB, strEq_self]
def amongB (ls : List La) (x : La) : Bool := ls.any fun y => laEqB y x
theorem amongB_mem {ls : List La} {x : La} (h : x ∈ ls) : amongB ls x = true := List.any_eq_true.2 ⟨x, h, laEqB_self x⟩
theorem startL {W : World} {V : Value} {l : List La} (h1 : Src W V .la l) : ∃ ρ : Env, ρ.r 0 = V ∧ Sat (gW W) ρ ⟨[], [], [(0, some ⟨.la, l, false⟩)]⟩ ⟨#[], []⟩ W :=
  ⟨_, rfl, (Sat.base (gW W) env0).newRead (d := 0) rfl h1 (fun _ _ _ h => h)⟩
theorem among_calls {W : World} {V : Value} {ls : List La} (h1 : Src W V .la ls) (x : La) :
    Calls Tryd.prog 15 #[V, .agg #[.int .i64 x.seq, .string x.lot, .int .i64 x.qty, .int .i64 x.value]] W fun e w1 => e = .returned (.bool (amongB ls x)) ∧ Below W.heap.size W w1 := by
  obtain ⟨ρ, e1, hS⟩ := startL h1
  have hlen : ls.length ≤ 9223372036854775807 := by obtain ⟨_, _, _, h, _⟩ := h1; exact h.2
  refine (calls_awp (f := 15) (vs := [V, .agg #[.int .i64 x.seq, .string x.lot, .int .i64 x.qty, .int .i64 x.value]]) (cx_ok (C := []) (nt := 18) spc_nil) mixed_ok Tryd.func15 rfl rfl hS (avs := [.one (.row 0), .agg [.v (.int .i64 x.seq), .v (.string x.lot), .v (.int .i64 x.qty), .v (.int .i64 x.value)]])
    (fun ρ' h => ⟨row_rel h (by simp [findR]) e1 h1, ⟨_, rfl, rfl, rfl, rfl, rfl, trivial⟩, trivial⟩) (le_of_ble (by kernel_rfl)) (K := fun y A => y = .one (.v (.bool (amongB ls x)))) ?_).mono ?_
  · ((conv => whnf) <;> repeat (refine obl_ ?_; conv => whnf))
    refine LoopP.introR (cx_ok spc_nil) mixed_ok (ι := Nat) (fun k => ⟨[(5, .one (.v (.int .i64 (k : Int)))), (3, .one (.ptr 13 0)), (0, .one (.row 0))], [(13, 40, [.v (.int .i64 x.seq), .v (.string x.lot), .v (.int .i64 x.qty), .v (.int .i64 x.value)])], [(0, some ⟨.la, ls, false⟩)]⟩) (fun k => k ≤ ls.length ∧ amongB ls x = (ls.drop k).any fun y => laEqB y x) (fun k => ls.length - k) 0 ⟨Nat.zero_le _, rfl⟩ ⟨[], by (refine ⟨?_, ?_, ?_, by kernel_rfl⟩ <;> repeat' (first | exact trivial | exact rfl | assumption | apply And.intro))⟩ ?_
    rintro k ⟨hk, hf⟩
    ((conv => whnf) <;> repeat (refine obl_ ?_; conv => whnf))
    refine cond_ (fun h => ?_) (fun h => ?_)
    · have hlt : k < ls.length := by have := of_decide_eq_true h; omega
      have j1 : 0 ≤ (k : Int) := by omega
      have j2 : (k : Int) < (ls.length : Int) := by omega
      ((conv => whnf) <;> repeat (refine obl_ ?_; conv => whnf))
      refine cond_ (fun h3 => ?_) (fun h3 => ?_)
      · have h3' : laEqB (ls.getD k zLa) x = true := h3
        ((conv => whnf) <;> repeat (refine obl_ ?_; conv => whnf))
        exact bool_ (hf.trans (any_yes zLa hlt h3')).symm
      · have h3' : laEqB (ls.getD k zLa) x = false := h3
        ((conv => whnf) <;> repeat (refine obl_ ?_; conv => whnf))
        refine ⟨k + 1, ⟨hlt, hf.trans (any_no zLa hlt h3')⟩, by omega, [], ?_⟩
        (refine ⟨?_, ?_, ?_, by kernel_rfl⟩ <;> repeat' (first | exact trivial | exact rfl | assumption | apply And.intro))
        exact up_ (by omega)
    · have := of_decide_eq_false h
      ((conv => whnf) <;> repeat (refine obl_ ?_; conv => whnf))
      exact bool_ (hf.trans (any_end (by omega))).symm
  · rintro e w1 ⟨y, u, A1, ρ1, a1, rfl, hv, rfl, hS1, _⟩
    exact ⟨by rw [show y = _ from hv], hS1.rel.bel⟩
def spAmong : Sp := fun d args k => match args with
  | [.one x, .agg [.v (.int .i64 a), .v (.string b), .v (.int .i64 c), .v (.int .i64 e)]] => rdRow .la x fun ls => k (.one (.v (.bool (amongB ls ⟨a, b, c, e⟩))))
  | _ => .fail
theorem among_ok {g : G} {bs : Nat} : SpOk Tryd.prog g bs 15 spAmong := sp_val ⟨_, Tryd.func15, by decide +kernel, rfl⟩ (by
  intro d args k A r h hb
  unfold spAmong at h hb
  split at h
  · rename_i x a b c e
    obtain ⟨ls, h1, hb1, hl⟩ := rdRow_s h hb
    refine ⟨_, h1, hb1, fun ρ a0 w vs hR hv => ?_⟩
    match vs, hv with
    | [v1, v2], ⟨k1, ⟨us, e2, hu⟩, _⟩ =>
      match us, hu with
      | [u1, u2, u3, u4], ⟨j1, j2, j3, j4, _⟩ =>
        simp only [L.rel] at j1 j2 j3 j4
        subst e2 j1 j2 j3 j4
        refine (among_calls (hl _ _ _ _ _ hR k1) ⟨a, b, c, e⟩).mono ?_
        rintro e w1 ⟨rfl, hbel⟩
        exact ⟨_, rfl, fun ρ' => rfl, hbel⟩
  · cases h)
/-! ### plain: at most one lot -/
def cnt (p : La → Bool) (l : List La) : Nat := (l.filter p).length
theorem cnt_step {p : La → Bool} {l : List La} {k : Nat} (h : k < l.length) : cnt p (l.take (k + 1)) = cnt p (l.take k) + (if p (l.getD k zLa) = true then 1 else 0) := by
  have e : l.take (k + 1) = l.take k ++ [l.getD k zLa] := by
    rw [List.take_add_one, List.getElem?_eq_getElem h, List.getD_eq_getElem?_getD, List.getElem?_eq_getElem h]
    rfl
  unfold cnt
  rw [e, List.filter_append, List.length_append]
  congr 1
  by_cases hp : p (l.getD k zLa) = true
  · rw [if_pos hp, List.filter_cons_of_pos hp]
    rfl
  · rw [if_neg hp, List.filter_cons_of_neg hp]
    rfl
theorem cnt_le (p : La → Bool) (l : List La) (k : Nat) : cnt p (l.take k) ≤ k := by
  unfold cnt
  have := List.length_filter_le p (l.take k)
  have : (l.take k).length ≤ k := by simp; omega
  omega
theorem cnt_one {A X C B : List La} (hA : ∀ x ∈ A, x ∈ B) (hC : ∀ x ∈ C, x ∈ B) (hX : X.length ≤ 1) : cnt (fun x => !amongB B x) (A ++ X ++ C) ≤ 1 := by
  have z : ∀ D : List La, (∀ x ∈ D, x ∈ B) → D.filter (fun x => !amongB B x) = [] := fun D h => List.filter_eq_nil_iff.2 fun x hx => by
    rw [amongB_mem (h x hx)]
    decide
  unfold cnt
  rw [List.filter_append, List.filter_append, z A hA, z C hC, List.nil_append, List.append_nil]
  have := List.length_filter_le (fun x => !amongB B x) X
  omega
def qtyG (lot : ByteArray) (la : List La) : Int := match la.find? fun l => strEq l.lot lot with
  | some x => x.qty
  | none => 0
theorem qtyR_g (lot : ByteArray) (la : List La) : qtyR lot la = qtyG lot la := by
  have key : ∀ (la : List La) (j : Nat), (fi (fun l => strEq l.lot lot) la (j : Int) = -1 ∧ la.find? (fun l => strEq l.lot lot) = none) ∨ ∃ k, k < la.length ∧ fi (fun l => strEq l.lot lot) la (j : Int) = ((j + k : Nat) : Int) ∧ la.find? (fun l => strEq l.lot lot) = some (la.getD k zLa) := by
    intro la
    induction la with
    | nil => exact fun j => .inl ⟨rfl, rfl⟩
    | cons x r ih =>
      intro j
      simp only [fi]
      by_cases h : strEq x.lot lot = true
      · exact .inr ⟨0, by simp, by rw [if_pos h]; simp, by rw [List.find?_cons_of_pos (p := fun l : La => strEq l.lot lot) h]; rfl⟩
      · rw [if_neg h, List.find?_cons_of_neg (p := fun l : La => strEq l.lot lot) h]
        rcases ih (j + 1) with ⟨a, b⟩ | ⟨k, a, b, c⟩
        · exact .inl ⟨by rw [← a]; congr 1, b⟩
        · refine .inr ⟨k + 1, by simp; omega, ?_, by rw [c]; rfl⟩
          rw [show ((j : Int) + 1) = ((j + 1 : Nat) : Int) from rfl, b]
          congr 1
          omega
  unfold qtyG qtyR lotR
  rcases key la 0 with ⟨a, b⟩ | ⟨k, a, b, c⟩
  · rw [show (0 : Int) = ((0 : Nat) : Int) from rfl, a, b]
    rfl
  · rw [show (0 : Int) = ((0 : Nat) : Int) from rfl, b, c, if_neg (by omega)]
    simp
theorem qtyR_far {A X Y C : List La} {lot lot0 : ByteArray} (hX : ∀ x ∈ X, x.lot = lot0) (hY : ∀ x ∈ Y, x.lot = lot0) (h : lot ≠ lot0) : qtyR lot (A ++ X ++ C) = qtyR lot (A ++ Y ++ C) := by
  have z : ∀ D : List La, (∀ x ∈ D, x.lot = lot0) → D.find? (fun l => strEq l.lot lot) = none := fun D hD => List.find?_eq_none.2 fun x hx e => h (by rw [← hD x hx]; exact (strEq_iff.1 e).symm)
  rw [qtyR_g, qtyR_g]
  unfold qtyG
  rw [List.find?_append, List.find?_append, List.find?_append, List.find?_append, z X hX, z Y hY]
theorem apart_ok {s : St} {m : Mv} (hI : Inv s) (h : (stpF s m).1 = 0) (lot other : ByteArray) : cnt (fun x => !amongB (stpF s m).2.1.la x) s.la ≤ 1 ∧ cnt (fun x => !amongB s.la x) (stpF s m).2.1.la ≤ 1 ∧ (qtyR lot s.la = qtyR lot (stpF s m).2.1.la ∨ qtyR other s.la = qtyR other (stpF s m).2.1.la ∨ lot = other) := by
  have K : StepOk knF true s m := step_ok hI h
  have e : (stpF s m).2.1.la = (moveS true s m).2.2.1 := by
    have : stpF s m = _ := K.eq
    rw [this]
  obtain ⟨lot0, A, X, C, Y, hc, hr, hy⟩ := K.ok.one
  have hx : X.length ≤ 1 ∧ ∀ x ∈ X, x.lot = lot0 := by
    rcases hc.x with ⟨_, y, rfl, hy⟩ | ⟨_, rfl⟩
    · exact ⟨Nat.le_refl _, fun x hx => by rw [List.mem_singleton.1 hx]; exact hy⟩
    · exact ⟨Nat.zero_le _, fun x hx => (by cases hx)⟩
  have hy' : Y.length ≤ 1 ∧ ∀ x ∈ Y, x.lot = lot0 := by
    rcases hy with rfl | ⟨y, rfl, hy⟩
    · exact ⟨Nat.zero_le _, fun x hx => (by cases hx)⟩
    · exact ⟨Nat.le_refl _, fun x hx => by rw [List.mem_singleton.1 hx]; exact hy⟩
  rw [e, hr]
  refine ⟨?_, ?_, ?_⟩
  · have := cnt_one (A := A) (X := X) (C := C) (B := A ++ Y ++ C) (fun x h => by simp [h]) (fun x h => by simp [h]) hx.1
    rw [← hc.eq] at this
    exact this
  · have := cnt_one (A := A) (X := Y) (C := C) (B := s.la) (fun x h => by rw [hc.eq]; simp [h]) (fun x h => by rw [hc.eq]; simp [h]) hy'.1
    exact this
  · by_cases h1 : lot = lot0
    · by_cases h2 : other = lot0
      · exact .inr (.inr (h1.trans h2.symm))
      · refine .inr (.inl ?_)
        have := qtyR_far (A := A) (C := C) hx.2 hy'.2 h2
        rw [← hc.eq] at this
        exact this
    · refine .inl ?_
      have := qtyR_far (A := A) (C := C) hx.2 hy'.2 h1
      rw [← hc.eq] at this
      exact this
def CM : List (Nat × Sp) := (15, spAmong) :: CL
theorem cm_ok {g : G} {n : Nat} (hL : Laid g.W0) (hS : ∀ i, ¬ g.S i) : ∀ f sp, lookC CM f = some sp → SpOk Tryd.prog g n f sp := spc_cons among_ok (cl_ok hL hS)
set_option maxHeartbeats 1000000 in
theorem LotsApart_calls {W : World} {V : Value} {l : List Mv} {m : Mv} {lot other : ByteArray} (hL : Laid W) (h1 : Src W V .mv l) (hl : MvsI l) (hm : MvI m) (z1 : m.item.size ≤ 140737488351232) (z2 : m.lot.size ≤ 140737488351232) :
    Calls Tryd.prog 5 #[V, .agg (mvC m).toArray, .string lot, .string other] W fun e w1 => e = .returned (.bool true) ∧ Below W.heap.size W w1 := by
  obtain ⟨ρ, e1, hS⟩ := start1 h1
  have hg : ∀ i, ¬ (gW W).S i := fun i h => h
  refine (calls_awp (f := 5) (vs := [V, .agg (mvC m).toArray, .string lot, .string other]) (cx_ok (C := CM) (nt := 105) (cm_ok hL hg)) mixed_ok Tryd.func5 rfl rfl hS (avs := [.one (.row 0), .agg (mvL m), .one (.v (.string lot)), .one (.v (.string other))])
    (fun ρ' h => ⟨row_rel h (by simp [findR]) e1 h1, mvL_args m ρ', rfl, rfl, trivial⟩) (le_of_ble (by kernel_rfl)) (K := fun x A => x = .one (.v (.bool true))) ?_).mono ?_
  · have hs := playS_pl hl
    have hI := playS_inv l
    have n1 : (playS l).pa.length ≤ 1000000000 := by have := hs.pa; omega
    have hsm : SmI (playS l) m := hs.sm (by omega) hm z1 z2
    have hs2 := hs.step stpF_f hm
    have m1 := hs.la
    have m2 := hs2.la
    unfold mvL
    ((conv => whnf) <;> repeat (refine obl_ ?_; conv => whnf))
    refine cond_ (fun h => ?_) (fun h => ?_)
    · have h' : (stpF (playS l) m).1 ≠ 0 := bne_iff_ne.1 h
      have hz : (stpF (playS l) m).2.1 = zSt := (stepS_z h').1
      have hz2 : ((stpF (playS l) m).2.1.la.length : Int) = 0 := by rw [hz]; rfl
      ((conv => whnf) <;> repeat (refine obl_ ?_; conv => whnf))
      refine cond_ (fun _ => ?_) (fun h => (beq_ne h hz2).elim)
      ((conv => whnf) <;> repeat (refine obl_ ?_; conv => whnf))
      exact rfl
    have h' : (stpF (playS l) m).1 = 0 := bne_f h
    obtain ⟨p1, p2, p3⟩ := apart_ok hI h' lot other
    ((conv => whnf) <;> repeat (refine obl_ ?_; conv => whnf))
    refine LoopP.introR (cx_ok (cm_ok hL hg)) mixed_ok (ι := Nat) (fun i => ⟨[(14, .one (.v (.int .i64 (i : Int)))), (13, .one (.v (.int .i64 ((cnt (fun x => !amongB (stpF (playS l) m).2.1.la x) ((playS l).la.take i) : Nat) : Int)))), (10, .one (.ptr 20 0)), (9, .one (.ptr 19 0)), (8, .one (.v (.bool false))), (3, .one (.v (.string other))), (2, .one (.v (.string lot)))], [(20, 26, stockL (stpF (playS l) m).2.1 6000 6001), (19, 26, stockL (playS l) 5000 5001)], [(5000, some ⟨.la, (playS l).la, true⟩), (5001, some ⟨.pa, (playS l).pa, true⟩), (6000, some ⟨.la, (stpF (playS l) m).2.1.la, true⟩), (6001, some ⟨.pa, (stpF (playS l) m).2.1.pa, true⟩)]⟩) (fun i => i ≤ (playS l).la.length) (fun i => (playS l).la.length - i) 0 (Nat.zero_le _) ⟨[(5000, some 29), (5001, some 529), (6000, some 33), (6001, some 533)], by (refine ⟨?_, ?_, ?_, by kernel_rfl⟩ <;> repeat' (first | exact trivial | exact rfl | assumption | apply And.intro))⟩ ?_
    intro i hi
    ((conv => whnf) <;> repeat (refine obl_ ?_; conv => whnf))
    refine cond_ (fun h => ?_) (fun h => ?_)
    · have hil : i < (playS l).la.length := by have := of_decide_eq_true h; omega
      have j1 : 0 ≤ (i : Int) := by omega
      have j2 : (i : Int) < ((playS l).la.length : Int) := by omega
      have cs := cnt_step (p := fun x => !amongB (stpF (playS l) m).2.1.la x) hil
      have cl := cnt_le (fun x => !amongB (stpF (playS l) m).2.1.la x) (playS l).la i
      ((conv => whnf) <;> repeat (refine obl_ ?_; conv => whnf))
      refine cond_ (fun h5 => ?_) (fun h5 => ?_)
      · have h5' : (!amongB (stpF (playS l) m).2.1.la ((playS l).la.getD i zLa)) = true := h5
        rw [if_pos h5'] at cs
        ((conv => whnf) <;> repeat (refine obl_ ?_; conv => whnf))
        refine ⟨i + 1, hil, by omega, [], ?_⟩
        (refine ⟨?_, ?_, ?_, by kernel_rfl⟩ <;> repeat' (first | exact trivial | exact rfl | assumption | apply And.intro))
        · exact up_ (by omega)
        · exact int_ (by rw [cs]; exact wrap_succ (by omega))
      · have h5' : ¬ (!amongB (stpF (playS l) m).2.1.la ((playS l).la.getD i zLa)) = true := Bool.eq_false_iff.1 h5
        rw [if_neg h5', Nat.add_zero] at cs
        ((conv => whnf) <;> repeat (refine obl_ ?_; conv => whnf))
        refine ⟨i + 1, hil, by omega, [], ?_⟩
        (refine ⟨?_, ?_, ?_, by kernel_rfl⟩ <;> repeat' (first | exact trivial | exact rfl | assumption | apply And.intro))
        · exact up_ (by omega)
        · exact int_ (by rw [cs]; rfl)
    have hii : (playS l).la.take i = (playS l).la := List.take_of_length_le (by have := of_decide_eq_false h; omega)
    rw [hii]
    clear hi h
    ((conv => whnf) <;> repeat (refine obl_ ?_; conv => whnf))
    refine LoopP.introR (cx_ok (cm_ok hL hg)) mixed_ok (ι := Nat) (fun i => ⟨[(16, .one (.v (.int .i64 (i : Int)))), (15, .one (.v (.int .i64 ((cnt (fun x => !amongB (playS l).la x) ((stpF (playS l) m).2.1.la.take i) : Nat) : Int)))), (13, .one (.v (.int .i64 ((cnt (fun x => !amongB (stpF (playS l) m).2.1.la x) (playS l).la : Nat) : Int)))), (10, .one (.ptr 20 0)), (9, .one (.ptr 19 0)), (8, .one (.v (.bool false))), (3, .one (.v (.string other))), (2, .one (.v (.string lot)))], [(20, 26, stockL (stpF (playS l) m).2.1 6000 6001), (19, 26, stockL (playS l) 5000 5001)], [(5000, some ⟨.la, (playS l).la, true⟩), (5001, some ⟨.pa, (playS l).pa, true⟩), (6000, some ⟨.la, (stpF (playS l) m).2.1.la, true⟩), (6001, some ⟨.pa, (stpF (playS l) m).2.1.pa, true⟩)]⟩) (fun i => i ≤ (stpF (playS l) m).2.1.la.length) (fun i => (stpF (playS l) m).2.1.la.length - i) 0 (Nat.zero_le _) ⟨[], by (refine ⟨?_, ?_, ?_, by kernel_rfl⟩ <;> repeat' (first | exact trivial | exact rfl | assumption | apply And.intro))⟩ ?_
    intro i hi
    ((conv => whnf) <;> repeat (refine obl_ ?_; conv => whnf))
    refine cond_ (fun h => ?_) (fun h => ?_)
    · have hil : i < (stpF (playS l) m).2.1.la.length := by have := of_decide_eq_true h; omega
      have j1 : 0 ≤ (i : Int) := by omega
      have j2 : (i : Int) < ((stpF (playS l) m).2.1.la.length : Int) := by omega
      have cs := cnt_step (p := fun x => !amongB (playS l).la x) hil
      have cl := cnt_le (fun x => !amongB (playS l).la x) (stpF (playS l) m).2.1.la i
      ((conv => whnf) <;> repeat (refine obl_ ?_; conv => whnf))
      refine cond_ (fun h5 => ?_) (fun h5 => ?_)
      · have h5' : (!amongB (playS l).la ((stpF (playS l) m).2.1.la.getD i zLa)) = true := h5
        rw [if_pos h5'] at cs
        ((conv => whnf) <;> repeat (refine obl_ ?_; conv => whnf))
        refine ⟨i + 1, hil, by omega, [], ?_⟩
        (refine ⟨?_, ?_, ?_, by kernel_rfl⟩ <;> repeat' (first | exact trivial | exact rfl | assumption | apply And.intro))
        · exact up_ (by omega)
        · exact int_ (by rw [cs]; exact wrap_succ (by omega))
      · have h5' : ¬ (!amongB (playS l).la ((stpF (playS l) m).2.1.la.getD i zLa)) = true := Bool.eq_false_iff.1 h5
        rw [if_neg h5', Nat.add_zero] at cs
        ((conv => whnf) <;> repeat (refine obl_ ?_; conv => whnf))
        refine ⟨i + 1, hil, by omega, [], ?_⟩
        (refine ⟨?_, ?_, ?_, by kernel_rfl⟩ <;> repeat' (first | exact trivial | exact rfl | assumption | apply And.intro))
        · exact up_ (by omega)
        · exact int_ (by rw [cs]; rfl)
    have hii : (stpF (playS l) m).2.1.la.take i = (stpF (playS l) m).2.1.la := List.take_of_length_le (by have := of_decide_eq_false h; omega)
    rw [hii]
    clear hi h
    have fin1 : decide (((cnt (fun x => !amongB (stpF (playS l) m).2.1.la x) (playS l).la : Nat) : Int) ≤ 1) = true := decide_eq_true (by omega)
    have fin2 : decide (((cnt (fun x => !amongB (playS l).la x) (stpF (playS l) m).2.1.la : Nat) : Int) ≤ 1) = true := decide_eq_true (by omega)
    ((conv => whnf) <;> repeat (refine obl_ ?_; conv => whnf))
    refine cond_ (fun h => ?_) (fun h => ?_)
    · ((conv => whnf) <;> repeat (refine obl_ ?_; conv => whnf))
      refine br_t fin1 ?_
      ((conv => whnf) <;> repeat (refine obl_ ?_; conv => whnf))
      refine br_t fin2 ?_
      ((conv => whnf) <;> repeat (refine obl_ ?_; conv => whnf))
      exact rfl
    · have q1 : ¬ qtyR lot (playS l).la = qtyR lot (stpF (playS l) m).2.1.la := fun e => beq_ne h e
      ((conv => whnf) <;> repeat (refine obl_ ?_; conv => whnf))
      refine cond_ (fun h => ?_) (fun h => ?_)
      · ((conv => whnf) <;> repeat (refine obl_ ?_; conv => whnf))
        refine br_t fin1 ?_
        ((conv => whnf) <;> repeat (refine obl_ ?_; conv => whnf))
        refine br_t fin2 ?_
        ((conv => whnf) <;> repeat (refine obl_ ?_; conv => whnf))
        exact rfl
      · have q2 : ¬ qtyR other (playS l).la = qtyR other (stpF (playS l) m).2.1.la := fun e => beq_ne h e
        have q3 : strEq lot other = true := strEq_of ((p3.resolve_left q1).resolve_left q2)
        ((conv => whnf) <;> repeat (refine obl_ ?_; conv => whnf))
        refine br_t fin1 ?_
        ((conv => whnf) <;> repeat (refine obl_ ?_; conv => whnf))
        refine br_t fin2 ?_
        ((conv => whnf) <;> repeat (refine obl_ ?_; conv => whnf))
        refine br_t q3 ?_
        ((conv => whnf) <;> repeat (refine obl_ ?_; conv => whnf))
        exact rfl
  · rintro e w1 ⟨x, v, A1, ρ1, a1, rfl, hv, rfl, hS1, _⟩
    exact ⟨by rw [show x = _ from hv], hS1.rel.bel⟩
end Go.Proofs.YtcjdkaigimcofaaDoor.Ff
