/- The executor and what hangs on it, merged (LuL, LuM, LuN, LuO): a verified abstract run of code over memory, and the walks by it; each theorem names its conditions. -/
import Derived.Test.YtcjdkaigimcofaaDoorX2
/- The law LotsApart, walked. No condition but 64 bits. -/
namespace Go.Proofs.YtcjdkaigimcofaaDoor.Ff
open Go.RowKit Go.Proofs.YtcjdkaigimcofaaDoorW.PrintWords Go.Proofs.YtcjdkaigimcofaaDoor.Ex
set_option linter.unusedVariables false
set_option linter.unusedSimpArgs false
set_option maxRecDepth 100000
def laEqB (a b : La) : Bool := a.seq == b.seq && (strEq a.lot b.lot && (a.qty == b.qty && (a.value == b.value && true)))
theorem laEqB_self (a : La) : laEqB a a = true := by simp [laEqB, strEq_self]
def amongB (ls : List La) (x : La) : Bool := ls.any fun y => laEqB y x
theorem amongB_mem {ls : List La} {x : La} (h : x ∈ ls) : amongB ls x = true := List.any_eq_true.2 ⟨x, h, laEqB_self x⟩
theorem startL {W : World} {V : Value} {l : List La} (h1 : Src W V .la l) : ∃ ρ : Env, ρ.r 0 = V ∧ Sat (gW W) ρ ⟨[], [], [(0, some ⟨.la, l, false⟩)]⟩ ⟨#[], []⟩ W :=
  ⟨_, rfl, (Sat.base (gW W) env0).newRead (d := 0) rfl h1 (fun _ _ _ h => h)⟩
theorem among_calls {W : World} {V : Value} {ls : List La} (h1 : Src W V .la ls) (x : La) :
    Calls Tryd.prog 15 #[V, .agg #[.int .i64 x.seq, .string x.lot, .int .i64 x.qty, .int .i64 x.value]] W fun e w1 => e = .returned (.bool (amongB ls x)) ∧ Below W.heap.size W w1 := by
  obtain ⟨ρ, e1, hS⟩ := startL h1
  have hlen : ls.length ≤ 9223372036854775807 := by obtain ⟨_, _, _, h, _⟩ := h1; exact h.2
  refine (calls_awp (f := 15) (vs := [V, .agg #[.int .i64 x.seq, .string x.lot, .int .i64 x.qty, .int .i64 x.value]]) (cx_ok (C := []) (nt := 18) spc_nil) mixed_ok Tryd.func15 rfl rfl hS (avs := [.one (.row 0), .agg [.v (.int .i64 x.seq), .v (.string x.lot), .v (.int .i64 x.qty), .v (.int .i64 x.value)]])
    (fun ρ' h => ⟨row_rel h (by simp [findR]) e1 h1, ⟨_, rfl, rfl, rfl, rfl, rfl, trivial⟩, trivial⟩) (le_of_ble (by kernel_rfl)) (K := fun y A => y = .one (.v (.bool (amongB ls x)))) ?_).mono ?_
  · ((conv => whnf) <;> repeat (refine obl_ ?_; conv => whnf))
    refine LoopP.introR (cx_ok spc_nil) mixed_ok (ι := Nat) (fun k => ⟨[(5, .one (.v (.int .i64 (k : Int)))), (3, .one (.ptr 13 0)), (0, .one (.row 0))], [(13, 40, [.v (.int .i64 x.seq), .v (.string x.lot), .v (.int .i64 x.qty), .v (.int .i64 x.value)])], [(0, some ⟨.la, ls, false⟩)]⟩) (fun k => k ≤ ls.length ∧ amongB ls x = (ls.drop k).any fun y => laEqB y x) (fun k => ls.length - k) 0 ⟨Nat.zero_le _, rfl⟩ ⟨[], by (refine ⟨?_, ?_, ?_, by kernel_rfl⟩ <;> repeat' (first | exact trivial | exact rfl | assumption | apply And.intro))⟩ ?_
    rintro k ⟨hk, hf⟩
    ((conv => whnf) <;> repeat (refine obl_ ?_; conv => whnf))
    refine cond_ (fun h => ?_) (fun h => ?_)
    · have hlt : k < ls.length := by have := of_decide_eq_true h; omega
      have j1 : 0 ≤ (k : Int) := by omega
      have j2 : (k : Int) < (ls.length : Int) := by omega
      ((conv => whnf) <;> repeat (refine obl_ ?_; conv => whnf))
      refine cond_ (fun h3 => ?_) (fun h3 => ?_)
      · have h3' : laEqB (ls.getD k zLa) x = true := h3
        ((conv => whnf) <;> repeat (refine obl_ ?_; conv => whnf))
        exact bool_ (hf.trans (any_yes zLa hlt h3')).symm
      · have h3' : laEqB (ls.getD k zLa) x = false := h3
        ((conv => whnf) <;> repeat (refine obl_ ?_; conv => whnf))
        refine ⟨k + 1, ⟨hlt, hf.trans (any_no zLa hlt h3')⟩, by omega, [], ?_⟩
        (refine ⟨?_, ?_, ?_, by kernel_rfl⟩ <;> repeat' (first | exact trivial | exact rfl | assumption | apply And.intro))
        exact up_ (by omega)
    · have := of_decide_eq_false h
      ((conv => whnf) <;> repeat (refine obl_ ?_; conv => whnf))
      exact bool_ (hf.trans (any_end (by omega))).symm
  · rintro e w1 ⟨y, u, A1, ρ1, a1, rfl, hv, rfl, hS1, _⟩
    exact ⟨by rw [show y = _ from hv], hS1.rel.bel⟩
def spAmong : Sp := fun d args k => match args with
  | [.one x, .agg [.v (.int .i64 a), .v (.string b), .v (.int .i64 c), .v (.int .i64 e)]] => rdRow .la x fun ls => k (.one (.v (.bool (amongB ls ⟨a, b, c, e⟩))))
  | _ => .fail
theorem among_ok {g : G} {bs : Nat} : SpOk Tryd.prog g bs 15 spAmong := sp_val ⟨_, Tryd.func15, by decide +kernel, rfl⟩ (by
  intro d args k A r h hb
  unfold spAmong at h hb
  split at h
  · rename_i x a b c e
    obtain ⟨ls, h1, hb1, hl⟩ := rdRow_s h hb
    refine ⟨_, h1, hb1, fun ρ a0 w vs hR hv => ?_⟩
    match vs, hv with
    | [v1, v2], ⟨k1, ⟨us, e2, hu⟩, _⟩ =>
      match us, hu with
      | [u1, u2, u3, u4], ⟨j1, j2, j3, j4, _⟩ =>
        simp only [L.rel] at j1 j2 j3 j4
        subst e2 j1 j2 j3 j4
        refine (among_calls (hl _ _ _ _ _ hR k1) ⟨a, b, c, e⟩).mono ?_
        rintro e w1 ⟨rfl, hbel⟩
        exact ⟨_, rfl, fun ρ' => rfl, hbel⟩
  · cases h)
/-! ### plain: at most one lot -/
def cnt (p : La → Bool) (l : List La) : Nat := (l.filter p).length
theorem cnt_step {p : La → Bool} {l : List La} {k : Nat} (h : k < l.length) : cnt p (l.take (k + 1)) = cnt p (l.take k) + (if p (l.getD k zLa) = true then 1 else 0) := by
  have e : l.take (k + 1) = l.take k ++ [l.getD k zLa] := by
    rw [List.take_add_one, List.getElem?_eq_getElem h, List.getD_eq_getElem?_getD, List.getElem?_eq_getElem h]
    rfl
  unfold cnt
  rw [e, List.filter_append, List.length_append]
  congr 1
  by_cases hp : p (l.getD k zLa) = true
  · rw [if_pos hp, List.filter_cons_of_pos hp]
    rfl
  · rw [if_neg hp, List.filter_cons_of_neg hp]
    rfl
theorem cnt_le (p : La → Bool) (l : List La) (k : Nat) : cnt p (l.take k) ≤ k := by
  unfold cnt
  have := List.length_filter_le p (l.take k)
  have : (l.take k).length ≤ k := by simp; omega
  omega
theorem cnt_one {A X C B : List La} (hA : ∀ x ∈ A, x ∈ B) (hC : ∀ x ∈ C, x ∈ B) (hX : X.length ≤ 1) : cnt (fun x => !amongB B x) (A ++ X ++ C) ≤ 1 := by
  have z : ∀ D : List La, (∀ x ∈ D, x ∈ B) → D.filter (fun x => !amongB B x) = [] := fun D h => List.filter_eq_nil_iff.2 fun x hx => by
    rw [amongB_mem (h x hx)]
    decide
  unfold cnt
  rw [List.filter_append, List.filter_append, z A hA, z C hC, List.nil_append, List.append_nil]
  have := List.length_filter_le (fun x => !amongB B x) X
  omega
def qtyG (lot : ByteArray) (la : List La) : Int := match la.find? fun l => strEq l.lot lot with
  | some x => x.qty
  | none => 0
theorem qtyR_g (lot : ByteArray) (la : List La) : qtyR lot la = qtyG lot la := by
  have key : ∀ (la : List La) (j : Nat), (fi (fun l => strEq l.lot lot) la (j : Int) = -1 ∧ la.find? (fun l => strEq l.lot lot) = none) ∨ ∃ k, k < la.length ∧ fi (fun l => strEq l.lot lot) la (j : Int) = ((j + k : Nat) : Int) ∧ la.find? (fun l => strEq l.lot lot) = some (la.getD k zLa) := by
    intro la
    induction la with
    | nil => exact fun j => .inl ⟨rfl, rfl⟩
    | cons x r ih =>
      intro j
      simp only [fi]
      by_cases h : strEq x.lot lot = true
      · exact .inr ⟨0, by simp, by rw [if_pos h]; simp, by rw [List.find?_cons_of_pos (p := fun l : La => strEq l.lot lot) h]; rfl⟩
      · rw [if_neg h, List.find?_cons_of_neg (p := fun l : La => strEq l.lot lot) h]
        rcases ih (j + 1) with ⟨a, b⟩ | ⟨k, a, b, c⟩
        · exact .inl ⟨by rw [← a]; congr 1, b⟩
        · refine .inr ⟨k + 1, by simp; omega, ?_, by rw [c]; rfl⟩
          rw [show ((j : Int) + 1) = ((j + 1 : Nat) : Int) from rfl, b]
          congr 1
          omega
  unfold qtyG qtyR lotR
  rcases key la 0 with ⟨a, b⟩ | ⟨k, a, b, c⟩
  · rw [show (0 : Int) = ((0 : Nat) : Int) from rfl, a, b]
    rfl
  · rw [show (0 : Int) = ((0 : Nat) : Int) from rfl, b, c, if_neg (by omega)]
    simp
theorem qtyR_far {A X Y C : List La} {lot lot0 : ByteArray} (hX : ∀ x ∈ X, x.lot = lot0) (hY : ∀ x ∈ Y, x.lot = lot0) (h : lot ≠ lot0) : qtyR lot (A ++ X ++ C) = qtyR lot (A ++ Y ++ C) := by
  have z : ∀ D : List La, (∀ x ∈ D, x.lot = lot0) → D.find? (fun l => strEq l.lot lot) = none := fun D hD => List.find?_eq_none.2 fun x hx e => h (by rw [← hD x hx]; exact (strEq_iff.1 e).symm)
  rw [qtyR_g, qtyR_g]
  unfold qtyG
  rw [List.find?_append, List.find?_append, List.find?_append, List.find?_append, z X hX, z Y hY]
theorem apart_ok {s : St} {m : Mv} (hI : Inv s) (h : (stpF s m).1 = 0) (lot other : ByteArray) : cnt (fun x => !amongB (stpF s m).2.1.la x) s.la ≤ 1 ∧ cnt (fun x => !amongB s.la x) (stpF s m).2.1.la ≤ 1 ∧ (qtyR lot s.la = qtyR lot (stpF s m).2.1.la ∨ qtyR other s.la = qtyR other (stpF s m).2.1.la ∨ lot = other) := by
  have K : StepOk knF true s m := step_ok hI h
  have e : (stpF s m).2.1.la = (moveS true s m).2.2.1 := by
    have : stpF s m = _ := K.eq
    rw [this]
  obtain ⟨lot0, A, X, C, Y, hc, hr, hy⟩ := K.ok.one
  have hx : X.length ≤ 1 ∧ ∀ x ∈ X, x.lot = lot0 := by
    rcases hc.x with ⟨_, y, rfl, hy⟩ | ⟨_, rfl⟩
    · exact ⟨Nat.le_refl _, fun x hx => by rw [List.mem_singleton.1 hx]; exact hy⟩
    · exact ⟨Nat.zero_le _, fun x hx => (by cases hx)⟩
  have hy' : Y.length ≤ 1 ∧ ∀ x ∈ Y, x.lot = lot0 := by
    rcases hy with rfl | ⟨y, rfl, hy⟩
    · exact ⟨Nat.zero_le _, fun x hx => (by cases hx)⟩
    · exact ⟨Nat.le_refl _, fun x hx => by rw [List.mem_singleton.1 hx]; exact hy⟩
  rw [e, hr]
  refine ⟨?_, ?_, ?_⟩
  · have := cnt_one (A := A) (X := X) (C := C) (B := A ++ Y ++ C) (fun x h => by simp [h]) (fun x h => by simp [h]) hx.1
    rw [← hc.eq] at this
    exact this
  · have := cnt_one (A := A) (X := Y) (C := C) (B := s.la) (fun x h => by rw [hc.eq]; simp [h]) (fun x h => by rw [hc.eq]; simp [h]) hy'.1
    exact this
  · by_cases h1 : lot = lot0
    · by_cases h2 : other = lot0
      · exact .inr (.inr (h1.trans h2.symm))
      · refine .inr (.inl ?_)
        have := qtyR_far (A := A) (C := C) hx.2 hy'.2 h2
        rw [← hc.eq] at this
        exact this
    · refine .inl ?_
      have := qtyR_far (A := A) (C := C) hx.2 hy'.2 h1
      rw [← hc.eq] at this
      exact this
def CM : List (Nat × Sp) := (15, spAmong) :: CL
theorem cm_ok {g : G} {n : Nat} (hL : Laid g.W0) (hS : ∀ i, ¬ g.S i) : ∀ f sp, lookC CM f = some sp → SpOk Tryd.prog g n f sp := spc_cons among_ok (cl_ok hL hS)
set_option maxHeartbeats 1000000 in
theorem LotsApart_calls {W : World} {V : Value} {l : List Mv} {m : Mv} {lot other : ByteArray} (hL : Laid W) (h1 : Src W V .mv l) (hl : MvsI l) (hm : MvI m) (z1 : m.item.size ≤ 140737488351232) (z2 : m.lot.size ≤ 140737488351232) :
    Calls Tryd.prog 5 #[V, .agg (mvC m).toArray, .string lot, .string other] W fun e w1 => e = .returned (.bool true) ∧ Below W.heap.size W w1 := by
  obtain ⟨ρ, e1, hS⟩ := start1 h1
  have hg : ∀ i, ¬ (gW W).S i := fun i h => h
  refine (calls_awp (f := 5) (vs := [V, .agg (mvC m).toArray, .string lot, .string other]) (cx_ok (C := CM) (nt := 105) (cm_ok hL hg)) mixed_ok Tryd.func5 rfl rfl hS (avs := [.one (.row 0), .agg (mvL m), .one (.v (.string lot)), .one (.v (.string other))])
    (fun ρ' h => ⟨row_rel h (by simp [findR]) e1 h1, mvL_args m ρ', rfl, rfl, trivial⟩) (le_of_ble (by kernel_rfl)) (K := fun x A => x = .one (.v (.bool true))) ?_).mono ?_
  · have hs := playS_pl hl
    have hI := playS_inv l
    have n1 : (playS l).pa.length ≤ 1000000000 := by have := hs.pa; omega
    have hsm : SmI (playS l) m := hs.sm (by omega) hm z1 z2
    have hs2 := hs.step stpF_f hm
    have m1 := hs.la
    have m2 := hs2.la
    unfold mvL
    ((conv => whnf) <;> repeat (refine obl_ ?_; conv => whnf))
    refine cond_ (fun h => ?_) (fun h => ?_)
    · have h' : (stpF (playS l) m).1 ≠ 0 := bne_iff_ne.1 h
      have hz : (stpF (playS l) m).2.1 = zSt := (stepS_z h').1
      have hz2 : ((stpF (playS l) m).2.1.la.length : Int) = 0 := by rw [hz]; rfl
      ((conv => whnf) <;> repeat (refine obl_ ?_; conv => whnf))
      refine cond_ (fun _ => ?_) (fun h => (beq_ne h hz2).elim)
      ((conv => whnf) <;> repeat (refine obl_ ?_; conv => whnf))
      exact rfl
    have h' : (stpF (playS l) m).1 = 0 := bne_f h
    obtain ⟨p1, p2, p3⟩ := apart_ok hI h' lot other
    ((conv => whnf) <;> repeat (refine obl_ ?_; conv => whnf))
    refine LoopP.introR (cx_ok (cm_ok hL hg)) mixed_ok (ι := Nat) (fun i => ⟨[(14, .one (.v (.int .i64 (i : Int)))), (13, .one (.v (.int .i64 ((cnt (fun x => !amongB (stpF (playS l) m).2.1.la x) ((playS l).la.take i) : Nat) : Int)))), (10, .one (.ptr 20 0)), (9, .one (.ptr 19 0)), (8, .one (.v (.bool false))), (3, .one (.v (.string other))), (2, .one (.v (.string lot)))], [(20, 26, stockL (stpF (playS l) m).2.1 6000 6001), (19, 26, stockL (playS l) 5000 5001)], [(5000, some ⟨.la, (playS l).la, true⟩), (5001, some ⟨.pa, (playS l).pa, true⟩), (6000, some ⟨.la, (stpF (playS l) m).2.1.la, true⟩), (6001, some ⟨.pa, (stpF (playS l) m).2.1.pa, true⟩)]⟩) (fun i => i ≤ (playS l).la.length) (fun i => (playS l).la.length - i) 0 (Nat.zero_le _) ⟨[(5000, some 29), (5001, some 529), (6000, some 33), (6001, some 533)], by (refine ⟨?_, ?_, ?_, by kernel_rfl⟩ <;> repeat' (first | exact trivial | exact rfl | assumption | apply And.intro))⟩ ?_
    intro i hi
    ((conv => whnf) <;> repeat (refine obl_ ?_; conv => whnf))
    refine cond_ (fun h => ?_) (fun h => ?_)
    · have hil : i < (playS l).la.length := by have := of_decide_eq_true h; omega
      have j1 : 0 ≤ (i : Int) := by omega
      have j2 : (i : Int) < ((playS l).la.length : Int) := by omega
      have cs := cnt_step (p := fun x => !amongB (stpF (playS l) m).2.1.la x) hil
      have cl := cnt_le (fun x => !amongB (stpF (playS l) m).2.1.la x) (playS l).la i
      ((conv => whnf) <;> repeat (refine obl_ ?_; conv => whnf))
      refine cond_ (fun h5 => ?_) (fun h5 => ?_)
      · have h5' : (!amongB (stpF (playS l) m).2.1.la ((playS l).la.getD i zLa)) = true := h5
        rw [if_pos h5'] at cs
        ((conv => whnf) <;> repeat (refine obl_ ?_; conv => whnf))
        refine ⟨i + 1, hil, by omega, [], ?_⟩
        (refine ⟨?_, ?_, ?_, by kernel_rfl⟩ <;> repeat' (first | exact trivial | exact rfl | assumption | apply And.intro))
        · exact up_ (by omega)
        · exact int_ (by rw [cs]; exact wrap_succ (by omega))
      · have h5' : ¬ (!amongB (stpF (playS l) m).2.1.la ((playS l).la.getD i zLa)) = true := Bool.eq_false_iff.1 h5
        rw [if_neg h5', Nat.add_zero] at cs
        ((conv => whnf) <;> repeat (refine obl_ ?_; conv => whnf))
        refine ⟨i + 1, hil, by omega, [], ?_⟩
        (refine ⟨?_, ?_, ?_, by kernel_rfl⟩ <;> repeat' (first | exact trivial | exact rfl | assumption | apply And.intro))
        · exact up_ (by omega)
        · exact int_ (by rw [cs]; rfl)
    have hii : (playS l).la.take i = (playS l).la := List.take_of_length_le (by have := of_decide_eq_false h; omega)
    rw [hii]
    clear hi h
    ((conv => whnf) <;> repeat (refine obl_ ?_; conv => whnf))
    refine LoopP.introR (cx_ok (cm_ok hL hg)) mixed_ok (ι := Nat) (fun i => ⟨[(16, .one (.v (.int .i64 (i : Int)))), (15, .one (.v (.int .i64 ((cnt (fun x => !amongB (playS l).la x) ((stpF (playS l) m).2.1.la.take i) : Nat) : Int)))), (13, .one (.v (.int .i64 ((cnt (fun x => !amongB (stpF (playS l) m).2.1.la x) (playS l).la : Nat) : Int)))), (10, .one (.ptr 20 0)), (9, .one (.ptr 19 0)), (8, .one (.v (.bool false))), (3, .one (.v (.string other))), (2, .one (.v (.string lot)))], [(20, 26, stockL (stpF (playS l) m).2.1 6000 6001), (19, 26, stockL (playS l) 5000 5001)], [(5000, some ⟨.la, (playS l).la, true⟩), (5001, some ⟨.pa, (playS l).pa, true⟩), (6000, some ⟨.la, (stpF (playS l) m).2.1.la, true⟩), (6001, some ⟨.pa, (stpF (playS l) m).2.1.pa, true⟩)]⟩) (fun i => i ≤ (stpF (playS l) m).2.1.la.length) (fun i => (stpF (playS l) m).2.1.la.length - i) 0 (Nat.zero_le _) ⟨[], by (refine ⟨?_, ?_, ?_, by kernel_rfl⟩ <;> repeat' (first | exact trivial | exact rfl | assumption | apply And.intro))⟩ ?_
    intro i hi
    ((conv => whnf) <;> repeat (refine obl_ ?_; conv => whnf))
    refine cond_ (fun h => ?_) (fun h => ?_)
    · have hil : i < (stpF (playS l) m).2.1.la.length := by have := of_decide_eq_true h; omega
      have j1 : 0 ≤ (i : Int) := by omega
      have j2 : (i : Int) < ((stpF (playS l) m).2.1.la.length : Int) := by omega
      have cs := cnt_step (p := fun x => !amongB (playS l).la x) hil
      have cl := cnt_le (fun x => !amongB (playS l).la x) (stpF (playS l) m).2.1.la i
      ((conv => whnf) <;> repeat (refine obl_ ?_; conv => whnf))
      refine cond_ (fun h5 => ?_) (fun h5 => ?_)
      · have h5' : (!amongB (playS l).la ((stpF (playS l) m).2.1.la.getD i zLa)) = true := h5
        rw [if_pos h5'] at cs
        ((conv => whnf) <;> repeat (refine obl_ ?_; conv => whnf))
        refine ⟨i + 1, hil, by omega, [], ?_⟩
        (refine ⟨?_, ?_, ?_, by kernel_rfl⟩ <;> repeat' (first | exact trivial | exact rfl | assumption | apply And.intro))
        · exact up_ (by omega)
        · exact int_ (by rw [cs]; exact wrap_succ (by omega))
      · have h5' : ¬ (!amongB (playS l).la ((stpF (playS l) m).2.1.la.getD i zLa)) = true := Bool.eq_false_iff.1 h5
        rw [if_neg h5', Nat.add_zero] at cs
        ((conv => whnf) <;> repeat (refine obl_ ?_; conv => whnf))
        refine ⟨i + 1, hil, by omega, [], ?_⟩
        (refine ⟨?_, ?_, ?_, by kernel_rfl⟩ <;> repeat' (first | exact trivial | exact rfl | assumption | apply And.intro))
        · exact up_ (by omega)
        · exact int_ (by rw [cs]; rfl)
    have hii : (stpF (playS l) m).2.1.la.take i = (stpF (playS l) m).2.1.la := List.take_of_length_le (by have := of_decide_eq_false h; omega)
    rw [hii]
    clear hi h
    have fin1 : decide (((cnt (fun x => !amongB (stpF (playS l) m).2.1.la x) (playS l).la : Nat) : Int) ≤ 1) = true := decide_eq_true (by omega)
    have fin2 : decide (((cnt (fun x => !amongB (playS l).la x) (stpF (playS l) m).2.1.la : Nat) : Int) ≤ 1) = true := decide_eq_true (by omega)
    ((conv => whnf) <;> repeat (refine obl_ ?_; conv => whnf))
    refine cond_ (fun h => ?_) (fun h => ?_)
    · ((conv => whnf) <;> repeat (refine obl_ ?_; conv => whnf))
      refine br_t fin1 ?_
      ((conv => whnf) <;> repeat (refine obl_ ?_; conv => whnf))
      refine br_t fin2 ?_
      ((conv => whnf) <;> repeat (refine obl_ ?_; conv => whnf))
      exact rfl
    · have q1 : ¬ qtyR lot (playS l).la = qtyR lot (stpF (playS l) m).2.1.la := fun e => beq_ne h e
      ((conv => whnf) <;> repeat (refine obl_ ?_; conv => whnf))
      refine cond_ (fun h => ?_) (fun h => ?_)
      · ((conv => whnf) <;> repeat (refine obl_ ?_; conv => whnf))
        refine br_t fin1 ?_
        ((conv => whnf) <;> repeat (refine obl_ ?_; conv => whnf))
        refine br_t fin2 ?_
        ((conv => whnf) <;> repeat (refine obl_ ?_; conv => whnf))
        exact rfl
      · have q2 : ¬ qtyR other (playS l).la = qtyR other (stpF (playS l) m).2.1.la := fun e => beq_ne h e
        have q3 : strEq lot other = true := strEq_of ((p3.resolve_left q1).resolve_left q2)
        ((conv => whnf) <;> repeat (refine obl_ ?_; conv => whnf))
        refine br_t fin1 ?_
        ((conv => whnf) <;> repeat (refine obl_ ?_; conv => whnf))
        refine br_t fin2 ?_
        ((conv => whnf) <;> repeat (refine obl_ ?_; conv => whnf))
        refine br_t q3 ?_
        ((conv => whnf) <;> repeat (refine obl_ ?_; conv => whnf))
        exact rfl
  · rintro e w1 ⟨x, v, A1, ρ1, a1, rfl, hv, rfl, hS1, _⟩
    exact ⟨by rw [show x = _ from hv], hS1.rel.bel⟩
end Go.Proofs.YtcjdkaigimcofaaDoor.Ff

/- lots: an issue of a lot under a number that is not used, and its returns. No program in sight. No condition. -/
namespace Go.Proofs.YtcjdkaigimcofaaDoor.Ff
open Go.RowKit Go.Proofs.YtcjdkaigimcofaaDoorW.PrintWords Go.Proofs.YtcjdkaigimcofaaDoor.Ex
set_option linter.unusedVariables false
set_option linter.unusedSimpArgs false
/-! ### lots are codes -/
structure Cod (s : St) : Prop where
  la : ∀ x ∈ s.la, Co.codeB x.lot = true
  pa : ∀ p ∈ s.pa, Co.codeB p.lot = true
theorem addS_lots {p : ByteArray → Prop} {la : List La} {lot : ByteArray} {q v : Int} (h : ∀ x ∈ la, p x.lot) (hl : p lot) : ∀ x ∈ addS la lot q v, p x.lot := by
  intro x hx
  unfold addS at hx
  split at hx
  · rename_i ho
    rcases List.mem_or_eq_of_mem_set hx with h1 | rfl
    · exact h x h1
    · exact h (la.getD (atL lot la) zLa) (getD_mem zLa ((at_le lot la).2 ho))
  · rcases List.mem_append.1 hx with h1 | h1
    · exact h x (List.mem_of_mem_take h1)
    · rcases List.mem_cons.1 h1 with rfl | h1
      · exact hl
      · exact h x (List.mem_of_mem_drop h1)
theorem takeS_lots {p : ByteArray → Prop} {la : List La} {i : Nat} {q : Int} (h : ∀ x ∈ la, p x.lot) : ∀ x ∈ (takeS la i q).1, p x.lot := by
  intro x hx
  unfold takeS at hx
  simp only at hx
  split at hx
  · rcases List.mem_append.1 hx with h1 | h1
    · exact h x (List.mem_of_mem_take h1)
    · exact h x (List.mem_of_mem_drop h1)
  · by_cases hi : i < la.length
    · rcases List.mem_or_eq_of_mem_set hx with h1 | rfl
      · exact h x h1
      · exact h (la.getD i zLa) (getD_mem zLa hi)
    · simp only at hx
      rw [List.set_eq_of_length_le (by omega)] at hx
      exact h x hx
theorem ok_mem {la : List La} {lot : ByteArray} (h : okL' lot la = true) : ∃ x ∈ la, x.lot = lot := by
  obtain ⟨A, B, e, en, hA, hB⟩ := find_split lot la 0
  rcases hB with ⟨h2, y, C, rfl, hy⟩ | ⟨h2, _⟩
  · exact ⟨y, by rw [e]; simp, hy⟩
  · have : okL' lot la = false := h2
    rw [h] at this
    cases this
theorem lot_code {m : Mv} (h : oneM m = 0) (hn : ¬ noLot m.lot = true) : Co.codeB m.lot = true := by
  have e : Co.lotB m.kind m.lot = true := by
    unfold oneM Co.oneS at h
    repeat' split at h
    all_goals first | assumption | (simp at h; done)
  unfold Co.lotB at e
  split at e
  · rename_i h0
    exfalso
    apply hn
    have : m.lot = ⟨#[]⟩ := by
      have hd : m.lot.data = #[] := Array.eq_empty_of_size_eq_zero h0
      exact ByteArray.ext hd
    exact strEq_of this
  · simp only [Bool.and_eq_true] at e
    exact e.1
theorem step_cod {s : St} {m : Mv} (hI : Inv s) (hC : Cod s) (h : (stpF s m).1 = 0) : Cod (stpF s m).2.1 := by
  have K : StepOk knF true s m := step_ok hI h
  have e : stpF s m = _ := K.eq
  rw [e]
  have h0 := K.mv
  have h1 := K.one
  have hF := one_f h1
  suffices hg : (∀ x ∈ (moveS true s m).2.2.1, Co.codeB x.lot = true) ∧ (∀ p ∈ (moveS true s m).2.2.2, Co.codeB p.lot = true) from ⟨hg.1, hg.2⟩
  have z : ∀ {i : Nat}, i < s.pa.length → Co.codeB (s.pa.getD i zPa).lot = true := fun hi => hC.pa _ (getD_mem zPa hi)
  by_cases k1 : m.kind = 1
  · by_cases hn : noLot m.lot = true
    · rw [moveS_1e k1 hn]; exact ⟨hC.la, hC.pa⟩
    · rw [moveS_1 k1 hn]
      exact ⟨addS_lots (p := fun b => Co.codeB b = true) hC.la (lot_code h1 hn), app_all hC.pa (one_all (lot_code h1 hn))⟩
  by_cases k2 : m.kind = 2
  · by_cases hn : okL' m.lot s.la = false ∨ noLot m.lot = true
    · rw [moveS_2e k2 hn]; exact ⟨hC.la, hC.pa⟩
    by_cases hq : qtyL m.lot s.la < m.qty
    · rw [moveS_2f k2 hn hq]; exact ⟨hC.la, hC.pa⟩
    · rw [moveS_2 k2 hn hq]
      exact ⟨takeS_lots (p := fun b => Co.codeB b = true) hC.la, app_all hC.pa (one_all (lot_code h1 fun e => hn (.inr e)))⟩
  by_cases k3 : m.kind = 3
  · by_cases hf : findS 2 m.ref s.pa < 0
    · rw [moveS_3a k3 hf]; exact ⟨hC.la, hC.pa⟩
    obtain ⟨_, _, z2⟩ := find_lt hf
    by_cases hl : wr ((s.pa.getD (findS 2 m.ref s.pa).toNat zPa).qty - (s.pa.getD (findS 2 m.ref s.pa).toNat zPa).used) < m.qty
    · rw [moveS_3b k3 hf rfl hl]; exact ⟨hC.la, hC.pa⟩
    · rw [moveS_3 k3 hf rfl hl]
      refine ⟨addS_lots (p := fun b => Co.codeB b = true) hC.la (z z2), set_all hC.pa ?_⟩
      exact z z2
  by_cases k4 : m.kind = 4
  · by_cases hf : findS 1 m.ref s.pa < 0
    · rw [moveS_4a k4 hf]; exact ⟨hC.la, hC.pa⟩
    obtain ⟨_, _, z2⟩ := find_lt hf
    by_cases hl : wr ((s.pa.getD (findS 1 m.ref s.pa).toNat zPa).qty - (s.pa.getD (findS 1 m.ref s.pa).toNat zPa).used) < m.qty
    · rw [moveS_4b k4 hf rfl hl]; exact ⟨hC.la, hC.pa⟩
    by_cases hq : qtyL (s.pa.getD (findS 1 m.ref s.pa).toNat zPa).lot s.la < m.qty
    · rw [moveS_4c k4 hf rfl hl hq]; exact ⟨hC.la, hC.pa⟩
    · rw [moveS_4 k4 hf rfl hl hq]
      refine ⟨takeS_lots (p := fun b => Co.codeB b = true) hC.la, set_all hC.pa ?_⟩
      exact z z2
  by_cases k5 : m.kind = 5
  · by_cases hf : findS 1 m.ref s.pa < 0
    · rw [moveS_5a k5 hf]; exact ⟨hC.la, hC.pa⟩
    obtain ⟨_, _, z2⟩ := find_lt hf
    by_cases hl : (true = true ∧ wr ((s.pa.getD (findS 1 m.ref s.pa).toNat zPa).qty - (s.pa.getD (findS 1 m.ref s.pa).toNat zPa).used) < m.qty)
    · rw [moveS_5b k5 hf rfl hl]; exact ⟨hC.la, hC.pa⟩
    by_cases hq : minS (s.pa.getD (findS 1 m.ref s.pa).toNat zPa).qty (qtyL (s.pa.getD (findS 1 m.ref s.pa).toNat zPa).lot s.la) = 0
    · rw [moveS_5c k5 hf rfl hl hq]; exact ⟨hC.la, hC.pa⟩
    · rw [moveS_5 k5 hf rfl hl hq]
      exact ⟨addS_lots (p := fun b => Co.codeB b = true) hC.la (z z2), hC.pa⟩
  rw [moveS_0 k1 k2 k3 k4 k5]; exact ⟨hC.la, hC.pa⟩
theorem play_cod : ∀ (l : List Mv) (s : St), Inv s → Cod s → Cod (playF stpF l s)
  | [], s, _, h => h
  | m :: r, s, hI, h => by
    refine play_cod r _ (hI.next m) ?_
    split
    · rename_i h1
      exact step_cod hI h h1
    · exact h
theorem playS_cod (l : List Mv) : Cod (playS l) := play_cod _ _ zSt_inv ⟨fun x hx => (by cases hx), fun x hx => (by cases hx)⟩
/-! ### where a lot is, when it is known -/
theorem findL_pre {lot : ByteArray} : ∀ {A R : List La} {k : Nat}, (∀ x ∈ A, Lt x.lot lot) → findL lot (A ++ R) k = findL lot R (k + A.length)
  | [], R, k, _ => rfl
  | x :: A, R, k, h => by
    have hx := h x List.mem_cons_self
    have h2 : strGt x.lot lot = false := Bool.eq_false_iff.2 fun e => lt_irr _ (lt_trans' hx (gt_iff.1 e))
    simp only [List.cons_append, findL]
    rw [if_neg (by rw [lt_noeq hx]; decide), if_neg (by rw [h2]; decide), findL_pre (fun y hy => h y (List.mem_cons_of_mem _ hy))]
    congr 1
    simp only [List.length_cons]
    omega
theorem cut_mk {A X C : List La} {lot : ByteArray} (hA : ∀ x ∈ A, Lt x.lot lot) (hC : ∀ x ∈ C, Lt lot x.lot) (hX : X = [] ∨ ∃ y, X = [y] ∧ y.lot = lot) : Cut (A ++ X ++ C) lot A X C := by
  have hf : findL lot (A ++ X ++ C) 0 = findL lot (X ++ C) (0 + A.length) := by rw [List.append_assoc]; exact findL_pre hA
  rcases hX with rfl | ⟨y, rfl, hy⟩
  · have e : findL lot (A ++ [] ++ C) 0 = (A.length, false) := by
      rw [hf]
      match C, hC with
      | [], _ => simp [findL]
      | c :: C, hC =>
        have hc := hC c List.mem_cons_self
        simp only [List.nil_append, findL]
        rw [if_neg (by rw [gt_noeq hc]; decide), if_pos (gt_iff.2 hc)]
        simp
    exact ⟨rfl, hA, hC, by unfold atL; rw [e], .inr ⟨by unfold okL'; rw [e], rfl⟩⟩
  · have e : findL lot (A ++ [y] ++ C) 0 = (A.length, true) := by
      rw [hf]
      show findL lot (y :: C) _ = _
      simp only [findL]
      rw [if_pos (strEq_of hy)]
      simp
    exact ⟨rfl, hA, hC, by unfold atL; rw [e], .inl ⟨by unfold okL'; rw [e], y, rfl, hy⟩⟩
/-! ### the movements of the laws -/
theorem one_l2 {n q : Int} {lot : ByteArray} (h0 : 1 ≤ q) (h1 : q ≤ 1000000000) (hc : Co.codeB lot = true) : oneM (lMv n 2 q 0 lot 0) = 0 := by
  have c4 : Co.qtyB 2 q = true := by unfold Co.qtyB; rw [if_neg (by decide)]; exact decide_eq_true ⟨h0, h1⟩
  have c6 : Co.lotB 2 lot = true := by unfold Co.lotB; split; · rfl
                                       · rw [hc]; rfl
  show Co.oneS 0 ⟨#[120]⟩ 2 q 0 lot 0 = 0
  unfold Co.oneS
  rw [if_pos (by decide), if_pos (by kernel_rfl), if_pos (by decide), if_pos c4, if_pos (by decide), if_pos c6, if_pos (by decide)]
theorem one_l3 {n q r : Int} (h0 : 1 ≤ q) (h1 : q ≤ 1000000000) (h2 : 1 ≤ r) : oneM (lMv n 3 q 0 ⟨#[]⟩ r) = 0 := by
  have c4 : Co.qtyB 3 q = true := by unfold Co.qtyB; rw [if_neg (by decide)]; exact decide_eq_true ⟨h0, h1⟩
  have c7 : Co.refsB 3 r = true := by unfold Co.refsB; rw [if_pos (by decide)]; exact decide_eq_true h2
  show Co.oneS 0 ⟨#[120]⟩ 3 q 0 ⟨#[]⟩ r = 0
  unfold Co.oneS
  rw [if_pos (by decide), if_pos (by kernel_rfl), if_pos (by decide), if_pos c4, if_pos (by decide), if_pos (by kernel_rfl), if_pos c7]
theorem over_id {q v var : Int} {la : List La} (h1 : ∀ x ∈ la, 0 ≤ x.value) (h2 : sumV la = v) (h3 : v ≤ 1000000000000000) (hq : q ≤ 1000000000) (hw : -1000000000000000 ≤ var ∧ var ≤ 1000000000000000) : overS q v var la = false := by
  have h0 := sumF_nn h1
  have h2' : sumF La.value la = v := h2
  refine over_no.2 ⟨fun x hx => ?_, hq, far_no.2 (by omega), far_no.2 hw⟩
  have := sumF_mem h1 x hx
  have := h1 x hx
  exact far_no.2 (by omega)
theorem issue_run {s : St} {n q : Int} {lot : ByteArray} (hI : Inv s) (hk : knR s.pa n = false) (h0 : 1 ≤ q) (h1 : q ≤ qtyL lot s.la) (hc : Co.codeB lot = true) (hn : ¬ noLot lot = true) :
    stpF s (lMv n 2 q 0 lot 0) = (0, ⟨s.q - q, s.v - (takeS s.la (atL lot s.la) q).2, s.pr, (takeS s.la (atL lot s.la) q).1, s.pa ++ [⟨n, 2, lot, q, (takeS s.la (atL lot s.la) q).2, 0, 0⟩]⟩, ⟨n, -q, -(takeS s.la (atL lot s.la) q).2, 0⟩) := by
  have q1 := hI.q1
  have v1 := hI.v1
  have v0 := hI.v0
  have q0 := hI.q0
  have K := take_ok (lot := lot) hI h0 h1
  have ho : okL' lot s.la = true := by
    by_cases e : okL' lot s.la = true
    · exact e
    · exfalso
      unfold qtyL at h1
      rw [if_neg e] at h1
      omega
  have hq2 : q ≤ s.q := by
    have hx := hI.q
    have k1 := K.q
    have := sumF_nn (f := La.qty) (l := (takeS s.la (atL lot s.la) q).1) (fun x hx => by have := (K.la x hx).q; omega)
    simp only [sumQ] at hx k1
    omega
  have hno : ¬ (okL' lot s.la = false ∨ noLot lot = true) := by
    rintro (e | e)
    · rw [e] at ho
      cases ho
    · exact hn e
  have e2 := moveS_2 (lc := true) (s := s) (m := lMv n 2 q 0 lot 0) rfl hno (by show ¬ qtyL lot s.la < q; omega)
  have k2 := K.v
  have k3 := K.v0
  have k4 := K.v1
  have k5 := K.la
  have ev := hI.v
  simp only [lMv] at e2
  generalize takeS s.la (atL lot s.la) q = r at *
  have w1 : wr (0 - q) = -q := by rw [wr_id (by omega) (by omega)]; omega
  have w2 : wr (0 - r.2) = -r.2 := by rw [wr_id (by omega) (by omega)]; omega
  rw [w1, w2] at e2
  have w3 : wr (s.q + -q) = s.q - q := by rw [wr_id (by omega) (by omega)]; omega
  have w4 : wr (s.v + -r.2) = s.v - r.2 := by rw [wr_id (by omega) (by omega)]; omega
  have h1' := one_l2 (n := n) (lot := lot) h0 (by omega : q ≤ 1000000000) hc
  have hk2 : ¬ knF s.pa n = true := by rw [kn_eq hI.pa, hk]; decide
  unfold stpF
  rw [stepS_5 (by rw [h1']; decide) hk2 (by simp only [lMv]; rw [e2]; exact fun h => h rfl) ?_]
  · simp only [lMv]
    rw [e2]
    simp only [w3, w4]
  · simp only [lMv]
    rw [e2]
    simp only [w3, w4]
    rw [over_id (fun x hx => (k5 x hx).v) (by rw [k2]; omega) (by omega) (by omega) (by omega)]
    decide
theorem back_run {s : St} {P : List Pa} {m n Q V u w b : Int} {e : ByteArray} (hI : Inv s) (hp : s.pa = P ++ [⟨n, 2, e, Q, V, u, w⟩]) (hn : knR P n = false) (hm : knR s.pa m = false) (n0 : 1 ≤ n) (h0 : 1 ≤ b) (h1 : b ≤ Q - u) (hq : s.q + b ≤ 1000000000) (hv : s.v + partS (V - w) b (Q - u) ≤ 1000000000000000) :
    stpF s (lMv m 3 b 0 ⟨#[]⟩ n) = (0, ⟨s.q + b, s.v + partS (V - w) b (Q - u), s.pr, addS s.la e b (partS (V - w) b (Q - u)), P ++ [⟨n, 2, e, Q, V, u + b, w + partS (V - w) b (Q - u)⟩]⟩, ⟨m, b, partS (V - w) b (Q - u), 0⟩) := by
  have q1 := hI.q1
  have v1 := hI.v1
  have v0 := hI.v0
  have q0 := hI.q0
  have hf : findS 2 n s.pa = P.length := by rw [hp]; exact find_last hn
  have hg : s.pa.getD (findS 2 n s.pa).toNat zPa = ⟨n, 2, e, Q, V, u, w⟩ := by rw [hf, Int.toNat_natCast, hp]; exact get_last _ _
  obtain ⟨p1, p2, p3, p4, p5, p6, p7, p8⟩ := hI.pa ⟨n, 2, e, Q, V, u, w⟩ (by rw [hp]; simp)
  simp only at p2 p3 p4 p5 p6 p7 p8
  have w1 : wr (Q - u) = Q - u := wr_id (by omega) (by omega)
  have w2 : wr (V - w) = V - w := wr_id (by omega) (by omega)
  have e3 := moveS_3 (lc := true) (s := s) (m := lMv m 3 b 0 ⟨#[]⟩ n) rfl (by show ¬ findS 2 n s.pa < 0; omega) hg (by show ¬ wr (Q - u) < b; omega)
  simp only [lMv] at e3
  rw [w1, w2, hf, Int.toNat_natCast, hp] at e3
  have t := part_le (v := V - w) (n := b) (o := Q - u) (by omega) (by omega) (by omega) (by omega) (by omega)
  generalize partS (V - w) b (Q - u) = y at *
  rw [wr_id (x := u + b) (by omega) (by omega), wr_id (x := w + y) (by omega) (by omega), set_last] at e3
  have K := add_ok (lot := e) (q := b) (v := y) hI (by omega) (by omega) t.1 (by omega) (.inr h0)
  have ev := hI.v
  have ho := one_l3 (n := m) (r := n) h0 (by omega : b ≤ 1000000000) n0
  have hk2 : ¬ knF s.pa m = true := by rw [kn_eq hI.pa, hm]; decide
  have w3 : wr (s.q + b) = s.q + b := wr_id (by omega) (by omega)
  have w4 : wr (s.v + y) = s.v + y := wr_id (by omega) (by omega)
  unfold stpF
  rw [stepS_5 (by rw [ho]; decide) hk2 (by simp only [lMv]; rw [e3]; exact fun h => h rfl) ?_]
  · simp only [lMv]
    rw [e3]
    simp only [w3, w4]
  · simp only [lMv]
    rw [e3]
    simp only [w3, w4]
    rw [over_id (fun x hx => (K.p x hx).v) (by rw [K.v]; omega) (by omega) (by omega) (by omega)]
    decide
end Go.Proofs.YtcjdkaigimcofaaDoor.Ff

/- The law LotsUndo, walked. No condition but 64 bits. -/
namespace Go.Proofs.YtcjdkaigimcofaaDoor.Ff
open Go.RowKit Go.Proofs.YtcjdkaigimcofaaDoorW.PrintWords Go.Proofs.YtcjdkaigimcofaaDoor.Ex
set_option linter.unusedVariables false
set_option linter.unusedSimpArgs false
set_option maxRecDepth 100000
theorem add_nil {A C : List La} {lot : ByteArray} (hA : ∀ x ∈ A, Lt x.lot lot) (hC : ∀ x ∈ C, Lt lot x.lot) (q v : Int) : addS (A ++ [] ++ C) lot q v = A ++ [⟨0, lot, wr (0 + q), wr (0 + v)⟩] ++ C := by
  rcases (cut_mk (X := []) hA hC (.inl rfl)).add q v with ⟨_, y, e, _⟩ | ⟨_, _, e⟩
  · cases e
  · exact e
theorem add_one {A C : List La} {lot : ByteArray} {y : La} (hA : ∀ x ∈ A, Lt x.lot lot) (hC : ∀ x ∈ C, Lt lot x.lot) (hy : y.lot = lot) (q v : Int) : addS (A ++ [y] ++ C) lot q v = A ++ [{ y with qty := wr (y.qty + q), value := wr (y.value + v) }] ++ C := by
  rcases (cut_mk (X := [y]) hA hC (.inr ⟨y, rfl, hy⟩)).add q v with ⟨_, y', e, _, h⟩ | ⟨_, e, _⟩
  · cases e
    exact h
  · cases e
theorem lay_back {s : St} {lot : ByteArray} {q part b z : Int} (hI : Inv s) (q1 : q ≤ qtyL lot s.la) (p0 : 1 ≤ part) (p1 : part < q) (hb : b = q - part) (z0 : 0 ≤ z) (z1 : z ≤ (takeS s.la (atL lot s.la) q).2) :
    addS (addS (takeS s.la (atL lot s.la) q).1 lot part z) lot b ((takeS s.la (atL lot s.la) q).2 - z) = s.la := by
  obtain ⟨A, X, C, K⟩ := cut hI.so lot
  rcases K.qty with ⟨_, y, e, hy, hqt⟩ | ⟨_, _, hqt⟩
  rotate_left
  · omega
  have hm : y ∈ s.la := by rw [K.eq, e]; simp
  have yq := hI.lq hm
  have yv := hI.lv hm
  have yz := hI.z y hm
  have t := part_le (v := y.value) (n := q) (o := y.qty) (by omega) (by omega) (by omega) (by omega) (by omega)
  rw [K.take e q] at z1 ⊢
  simp only at z1 ⊢
  have hs : s.la = A ++ [y] ++ C := by rw [← e]; exact K.eq
  rw [hs]
  obtain ⟨ys, yl, yy, yw⟩ := y
  simp only at yq yv yz t hy hqt z1 ⊢
  subst hy yz
  by_cases h : yy = q
  · subst h
    rw [if_pos rfl, add_nil K.a K.c, add_one K.a K.c rfl]
    rw [part_all] at z1 ⊢
    simp only
    rw [wr_id (x := 0 + part) (by omega) (by omega), wr_id (x := 0 + z) (by omega) (by omega), wr_id (by omega) (by omega), wr_id (by omega) (by omega)]
    congr 5 <;> omega
  · rw [if_neg h, add_one K.a K.c rfl, add_one K.a K.c rfl]
    generalize partS yw q yy = P at *
    simp only
    rw [wr_id (x := yy - q) (by omega) (by omega), wr_id (x := yw - P) (by omega) (by omega), wr_id (x := yy - q + part) (by omega) (by omega), wr_id (x := yw - P + z) (by omega) (by omega), wr_id (by omega) (by omega), wr_id (by omega) (by omega)]
    congr 5 <;> omega
theorem undo_ok {s : St} {n m q part b : Int} {lot : ByteArray} {t u v : Int × St × Co} (hI : Inv s) (hC : Cod s) (hl : ¬ noLot lot = true) (q0 : 2 ≤ q) (q1 : q ≤ qtyL lot s.la) (p0 : 1 ≤ part) (p1 : part < q) (hb : b = q - part) (hn : knR s.pa n = false) (n0 : 1 ≤ n) (ht : stpF s (lMv n 2 q 0 lot 0) = t) (hm : knR t.2.1.pa m = false) (hu : stpF t.2.1 (lMv m 3 part 0 ⟨#[]⟩ n) = u) (hv : stpF u.2.1 (lMv m 3 b 0 ⟨#[]⟩ n) = v) :
    t.1 = 0 ∧ u.1 = 0 ∧ v.1 = 0 ∧ v.2.1.q = s.q ∧ v.2.1.v = s.v ∧ v.2.1.la = s.la := by
  have iq1 := hI.q1
  have iv1 := hI.v1
  have hc : Co.codeB lot = true := by
    have ho : okL' lot s.la = true := by
      by_cases e : okL' lot s.la = true
      · exact e
      · exfalso
        unfold qtyL at q1
        rw [if_neg e] at q1
        omega
    obtain ⟨x, hx, rfl⟩ := ok_mem ho
    exact hC.la x hx
  have R := issue_run hI hn (by omega) q1 hc hl
  have B := fun z h0 h1 => lay_back (z := z) hI q1 p0 p1 hb h0 h1
  have t0 : t.1 = 0 := by rw [← ht, R]
  have F := stF hI (by rw [ht]; exact t0)
  rw [ht] at R
  have it : Inv t.2.1 := by rw [← ht]; exact F.inv
  have tv0 := it.v0
  generalize takeS s.la (atL lot s.la) q = r at R B
  have t1 : t.2.1.q = s.q - q := by rw [R]
  have t2 : t.2.1.v = s.v - r.2 := by rw [R]
  have t4 : t.2.1.la = r.1 := by rw [R]
  have t3 : t.2.1.pa = s.pa ++ [⟨n, 2, lot, q, r.2, 0, 0⟩] := by rw [R]
  have hp := it.pa ⟨n, 2, lot, q, r.2, 0, 0⟩ (by rw [t3]; simp)
  have hp1 := hp.w1
  have hp2 := hp.v1
  simp only at hp1 hp2
  have y := part_le (v := r.2 - 0) (n := part) (o := q - 0) (by omega) (by omega) (by omega) (by omega) (by omega)
  have R2 := back_run it t3 hn hm n0 p0 (by omega) (by omega) (by omega)
  generalize hy : partS (r.2 - 0) part (q - 0) = z at *
  have u0 : u.1 = 0 := by rw [← hu, R2]
  have iu : Inv u.2.1 := by rw [← hu]; exact (stF it (by rw [hu]; exact u0)).inv
  rw [hu] at R2
  have u1 : u.2.1.q = s.q - q + part := by rw [R2]; show t.2.1.q + part = _; omega
  have u2 : u.2.1.v = s.v - r.2 + z := by rw [R2]; show t.2.1.v + z = _; omega
  have u4 : u.2.1.la = addS r.1 lot part z := by rw [R2]; show addS t.2.1.la lot part z = _; rw [t4]
  have u3 : u.2.1.pa = s.pa ++ [⟨n, 2, lot, q, r.2, 0 + part, 0 + z⟩] := by rw [R2]
  have hmP : knR (s.pa ++ [⟨n, 2, lot, q, r.2, 0, 0⟩]) m = false := by rw [← t3]; exact hm
  have hm2 : knR u.2.1.pa m = false := by rw [u3]; exact (kn_last (P := s.pa) (p := ⟨n, 2, lot, q, r.2, 0, 0⟩) (p' := ⟨n, 2, lot, q, r.2, 0 + part, 0 + z⟩) rfl rfl m).trans hmP
  have e : partS (r.2 - (0 + z)) b (q - (0 + part)) = r.2 - z := by rw [show q - (0 + part) = b from by omega, part_all]; omega
  have R3 := back_run (b := b) iu u3 hn hm2 n0 (by omega) (by omega) (by omega) (by rw [e]; omega)
  rw [e] at R3
  have v0 : v.1 = 0 := by rw [← hv, R3]
  rw [hv] at R3
  have w1 : v.2.1.q = s.q := by rw [R3]; show u.2.1.q + b = _; omega
  have w2 : v.2.1.v = s.v := by rw [R3]; show u.2.1.v + (r.2 - z) = _; omega
  have w3 : v.2.1.la = s.la := by
    rw [R3]
    show addS u.2.1.la lot b (r.2 - z) = _
    rw [u4]
    exact B z y.1 (by omega)
  exact ⟨t0, u0, v0, w1, w2, w3⟩
theorem lMv_i {n k q r : Int} {b : ByteArray} (h1 : I64 n) (h2 : I64 k) (h3 : I64 q) (h4 : I64 r) : MvI (lMv n k q 0 b r) := ⟨h1, h2, h3, i64_0, h4⟩
theorem LotsUndo_calls {W : World} {V : Value} {l : List Mv} {lot : ByteArray} {q part : Int} (hL : Laid W) (h1 : Src W V .mv l) (hl : MvsI l) (hz : lot.size ≤ 140737488351232) (hq : I64 q) (hpart : I64 part) :
    Calls Tryd.prog 7 #[V, .string lot, .int .i64 q, .int .i64 part] W fun e w1 => e = .returned (.bool true) ∧ Below W.heap.size W w1 := by
  obtain ⟨ρ, e1, hS⟩ := start1 h1
  have hg : ∀ i, ¬ (gW W).S i := fun i h => h
  refine (calls_awp (f := 7) (vs := [V, .string lot, .int .i64 q, .int .i64 part]) (cx_ok (C := CL) (nt := 135) (cl_ok hL hg)) mixed_ok Tryd.func7 rfl rfl hS (avs := [.one (.row 0), .one (.v (.string lot)), .one (.v (.int .i64 q)), .one (.v (.int .i64 part))])
    (fun ρ' h => ⟨row_rel h (by simp [findR]) e1 h1, rfl, rfl, rfl, trivial⟩) (le_of_ble (by kernel_rfl)) (K := fun x A => x = .one (.v (.bool true))) ?_).mono ?_
  · have hI := playS_inv l
    have hC := playS_cod l
    have hs := playS_pl hl
    have n1 : (playS l).pa.length ≤ 1000000000 := by have := hs.pa; omega
    obtain ⟨u1, u2⟩ := unused_i hs (by omega)
    have hk := (unused_kn (playS l).pa).1
    have z0 : (⟨#[]⟩ : ByteArray).size ≤ 140737488351232 := by show (0 : Nat) ≤ _; decide
    have hm : MvI (lMv (unusedS (playS l).pa) 2 q 0 lot 0) := lMv_i u1 (by simp [I64]) hq i64_0
    have hsm : SmI (playS l) (lMv (unusedS (playS l).pa) 2 q 0 lot 0) := hs.sm (by omega) hm (lMv_z hz).1 (lMv_z hz).2
    have hs2 := hs.step stpF_f hm
    have n2 : (stpF (playS l) (lMv (unusedS (playS l).pa) 2 q 0 lot 0)).2.1.pa.length ≤ 1000000000 := by have := hs2.pa; omega
    obtain ⟨v1, v2⟩ := unused_i hs2 (by omega)
    have hk2 := (unused_kn (stpF (playS l) (lMv (unusedS (playS l).pa) 2 q 0 lot 0)).2.1.pa).1
    have hm2 : MvI (lMv (unusedS (stpF (playS l) (lMv (unusedS (playS l).pa) 2 q 0 lot 0)).2.1.pa) 3 part 0 ⟨#[]⟩ (unusedS (playS l).pa)) := lMv_i v1 (by simp [I64]) hpart u1
    have hsm2 : SmI (stpF (playS l) (lMv (unusedS (playS l).pa) 2 q 0 lot 0)).2.1 (lMv (unusedS (stpF (playS l) (lMv (unusedS (playS l).pa) 2 q 0 lot 0)).2.1.pa) 3 part 0 ⟨#[]⟩ (unusedS (playS l).pa)) := hs2.sm (by omega) hm2 (lMv_z z0).1 (lMv_z z0).2
    have hs3 := hs2.step stpF_f hm2
    have hm3 : MvI (lMv (unusedS (stpF (playS l) (lMv (unusedS (playS l).pa) 2 q 0 lot 0)).2.1.pa) 3 (wr (q - part)) 0 ⟨#[]⟩ (unusedS (playS l).pa)) := lMv_i v1 (by simp [I64]) (i64_wrap _) u1
    have hsm3 : SmI (stpF (stpF (playS l) (lMv (unusedS (playS l).pa) 2 q 0 lot 0)).2.1 (lMv (unusedS (stpF (playS l) (lMv (unusedS (playS l).pa) 2 q 0 lot 0)).2.1.pa) 3 part 0 ⟨#[]⟩ (unusedS (playS l).pa))).2.1 (lMv (unusedS (stpF (playS l) (lMv (unusedS (playS l).pa) 2 q 0 lot 0)).2.1.pa) 3 (wr (q - part)) 0 ⟨#[]⟩ (unusedS (playS l).pa)) := hs3.sm (by omega) hm3 (lMv_z z0).1 (lMv_z z0).2
    have hs4 := hs3.step stpF_f hm3
    have m0 := hs.la
    have m3 := hs4.la
    have iq1 := hI.q1
    have eq := qtyR_eq hI lot
    ((conv => whnf) <;> repeat (refine obl_ ?_; conv => whnf))
    refine cond_ (fun h => ?_) (fun h => ?_)
    · ((conv => whnf) <;> repeat (refine obl_ ?_; conv => whnf))
      exact rfl
    have x0 : ¬ noLot lot = true := fun e => Bool.eq_false_iff.1 h e
    ((conv => whnf) <;> repeat (refine obl_ ?_; conv => whnf))
    refine cond_ (fun h => ?_) (fun h => ?_)
    · ((conv => whnf) <;> repeat (refine obl_ ?_; conv => whnf))
      exact rfl
    have x1 : ¬ q < 2 := of_decide_eq_false h
    ((conv => whnf) <;> repeat (refine obl_ ?_; conv => whnf))
    refine cond_ (fun h => ?_) (fun h => ?_)
    · ((conv => whnf) <;> repeat (refine obl_ ?_; conv => whnf))
      exact rfl
    have x2 : ¬ qtyR lot (playS l).la < q := of_decide_eq_false h
    ((conv => whnf) <;> repeat (refine obl_ ?_; conv => whnf))
    refine cond_ (fun h => ?_) (fun h => ?_)
    · ((conv => whnf) <;> repeat (refine obl_ ?_; conv => whnf))
      exact rfl
    have x3 : ¬ part < 1 := of_decide_eq_false h
    ((conv => whnf) <;> repeat (refine obl_ ?_; conv => whnf))
    refine cond_ (fun h => ?_) (fun h => ?_)
    · ((conv => whnf) <;> repeat (refine obl_ ?_; conv => whnf))
      exact rfl
    have x4 : ¬ q ≤ part := of_decide_eq_false h
    obtain ⟨r1, r2, r3, r4, r5, r6⟩ := undo_ok (b := wr (q - part)) hI hC x0 (by omega) (by omega) (by omega) (by omega) (wr_id (by omega) (by omega)) hk u2 rfl hk2 rfl rfl
    have r7 : ((stpF (stpF (stpF (playS l) (lMv (unusedS (playS l).pa) 2 q 0 lot 0)).2.1 (lMv (unusedS (stpF (playS l) (lMv (unusedS (playS l).pa) 2 q 0 lot 0)).2.1.pa) 3 part 0 ⟨#[]⟩ (unusedS (playS l).pa))).2.1 (lMv (unusedS (stpF (playS l) (lMv (unusedS (playS l).pa) 2 q 0 lot 0)).2.1.pa) 3 (wr (q - part)) 0 ⟨#[]⟩ (unusedS (playS l).pa))).2.1.la.length : Int) = ((playS l).la.length : Int) := by rw [r6]
    ((conv => whnf) <;> repeat (refine obl_ ?_; conv => whnf))
    refine cond_ (fun h => (ne_of r1 h).elim) (fun _ => ?_)
    ((conv => whnf) <;> repeat (refine obl_ ?_; conv => whnf))
    refine cond_ (fun h => (ne_of r2 h).elim) (fun _ => ?_)
    ((conv => whnf) <;> repeat (refine obl_ ?_; conv => whnf))
    refine cond_ (fun h => (ne_of r3 h).elim) (fun _ => ?_)
    ((conv => whnf) <;> repeat (refine obl_ ?_; conv => whnf))
    refine cond_ (fun h => (ne_of r4 h).elim) (fun _ => ?_)
    ((conv => whnf) <;> repeat (refine obl_ ?_; conv => whnf))
    refine cond_ (fun h => (ne_of r5 h).elim) (fun _ => ?_)
    ((conv => whnf) <;> repeat (refine obl_ ?_; conv => whnf))
    refine cond_ (fun h => (ne_of r7 h).elim) (fun _ => ?_)
    ((conv => whnf) <;> repeat (refine obl_ ?_; conv => whnf))
    have r8 : (playS l).la.length ≤ 1000000 := by omega
    refine LoopP.introR (cx_ok (cl_ok hL hg)) mixed_ok (ι := Nat) (fun i => ⟨[(21, .one (.v (.int .i64 (i : Int)))), (18, .one (.ptr 28 0)), (9, .one (.ptr 19 0)), (8, .one (.v (.bool false)))], [(28, 26, stockL (stpF (stpF (stpF (playS l) (lMv (unusedS (playS l).pa) 2 q 0 lot 0)).2.1 (lMv (unusedS (stpF (playS l) (lMv (unusedS (playS l).pa) 2 q 0 lot 0)).2.1.pa) 3 part 0 ⟨#[]⟩ (unusedS (playS l).pa))).2.1 (lMv (unusedS (stpF (playS l) (lMv (unusedS (playS l).pa) 2 q 0 lot 0)).2.1.pa) 3 (wr (q - part)) 0 ⟨#[]⟩ (unusedS (playS l).pa))).2.1 6000 6001), (19, 26, stockL (playS l) 5000 5001)], [(5000, some ⟨.la, (playS l).la, true⟩), (5001, some ⟨.pa, (playS l).pa, true⟩), (6000, some ⟨.la, (stpF (stpF (stpF (playS l) (lMv (unusedS (playS l).pa) 2 q 0 lot 0)).2.1 (lMv (unusedS (stpF (playS l) (lMv (unusedS (playS l).pa) 2 q 0 lot 0)).2.1.pa) 3 part 0 ⟨#[]⟩ (unusedS (playS l).pa))).2.1 (lMv (unusedS (stpF (playS l) (lMv (unusedS (playS l).pa) 2 q 0 lot 0)).2.1.pa) 3 (wr (q - part)) 0 ⟨#[]⟩ (unusedS (playS l).pa))).2.1.la, true⟩), (6001, some ⟨.pa, (stpF (stpF (stpF (playS l) (lMv (unusedS (playS l).pa) 2 q 0 lot 0)).2.1 (lMv (unusedS (stpF (playS l) (lMv (unusedS (playS l).pa) 2 q 0 lot 0)).2.1.pa) 3 part 0 ⟨#[]⟩ (unusedS (playS l).pa))).2.1 (lMv (unusedS (stpF (playS l) (lMv (unusedS (playS l).pa) 2 q 0 lot 0)).2.1.pa) 3 (wr (q - part)) 0 ⟨#[]⟩ (unusedS (playS l).pa))).2.1.pa, true⟩)]⟩) (fun i => i ≤ (playS l).la.length) (fun i => (playS l).la.length - i) 0 (Nat.zero_le _) ⟨[(5000, some 33), (5001, some 533), (6000, some 89), (6001, some 589)], by (refine ⟨?_, ?_, ?_, by kernel_rfl⟩ <;> repeat' (first | exact trivial | exact rfl | assumption | apply And.intro))⟩ ?_
    intro i hi
    ((conv => whnf) <;> repeat (refine obl_ ?_; conv => whnf))
    refine cond_ (fun h => ?_) (fun h => ?_)
    · have hil : i < (playS l).la.length := by have := of_decide_eq_true h; omega
      have j1 : 0 ≤ (i : Int) := by omega
      have j2 : (i : Int) < ((playS l).la.length : Int) := by omega
      have j3 : (i : Int) < ((stpF (stpF (stpF (playS l) (lMv (unusedS (playS l).pa) 2 q 0 lot 0)).2.1 (lMv (unusedS (stpF (playS l) (lMv (unusedS (playS l).pa) 2 q 0 lot 0)).2.1.pa) 3 part 0 ⟨#[]⟩ (unusedS (playS l).pa))).2.1 (lMv (unusedS (stpF (playS l) (lMv (unusedS (playS l).pa) 2 q 0 lot 0)).2.1.pa) 3 (wr (q - part)) 0 ⟨#[]⟩ (unusedS (playS l).pa))).2.1.la.length : Int) := by omega
      have e5 : laEqB ((playS l).la.getD i zLa) ((stpF (stpF (stpF (playS l) (lMv (unusedS (playS l).pa) 2 q 0 lot 0)).2.1 (lMv (unusedS (stpF (playS l) (lMv (unusedS (playS l).pa) 2 q 0 lot 0)).2.1.pa) 3 part 0 ⟨#[]⟩ (unusedS (playS l).pa))).2.1 (lMv (unusedS (stpF (playS l) (lMv (unusedS (playS l).pa) 2 q 0 lot 0)).2.1.pa) 3 (wr (q - part)) 0 ⟨#[]⟩ (unusedS (playS l).pa))).2.1.la.getD i zLa) = true := by rw [r6]; exact laEqB_self _
      ((conv => whnf) <;> repeat (refine obl_ ?_; conv => whnf))
      refine cond_ (fun h5 => absurd e5 (not_t h5)) (fun _ => ?_)
      ((conv => whnf) <;> repeat (refine obl_ ?_; conv => whnf))
      refine ⟨i + 1, hil, by omega, [], ?_⟩
      (refine ⟨?_, ?_, ?_, by kernel_rfl⟩ <;> repeat' (first | exact trivial | exact rfl | assumption | apply And.intro))
      exact up_ (by omega)
    ((conv => whnf) <;> repeat (refine obl_ ?_; conv => whnf))
    exact rfl
  · rintro e w1 ⟨x, v, A1, ρ1, a1, rfl, hv, rfl, hS1, _⟩
    exact ⟨by rw [show x = _ from hv], hS1.rel.bel⟩
end Go.Proofs.YtcjdkaigimcofaaDoor.Ff

/- The law LotsEmpty, walked. No condition but 64 bits. -/
namespace Go.Proofs.YtcjdkaigimcofaaDoor.Ff
open Go.RowKit Go.Proofs.YtcjdkaigimcofaaDoorW.PrintWords Go.Proofs.YtcjdkaigimcofaaDoor.Ex
set_option linter.unusedVariables false
set_option linter.unusedSimpArgs false
set_option maxRecDepth 100000
theorem empty_ok {s : St} {n m q b : Int} {lot : ByteArray} {t u : Int × St × Co} (hI : Inv s) (hC : Cod s) (hl : ¬ noLot lot = true) (q0 : 1 ≤ q) (q1 : q < qtyL lot s.la) (hb : b = qtyL lot s.la - q) (hn : knR s.pa n = false) (ht : stpF s (lMv n 2 q 0 lot 0) = t) (hm : knR t.2.1.pa m = false) (hu : stpF t.2.1 (lMv m 2 b 0 lot 0) = u) :
    t.1 = 0 ∧ u.1 = 0 ∧ Inv t.2.1 ∧ Inv u.2.1 ∧ qtyR lot u.2.1.la = 0 ∧ (u.2.1.la.length : Int) = (s.la.length : Int) - 1 ∧ t.2.1.v = s.v + t.2.2.value ∧ u.2.1.v = t.2.1.v + u.2.2.value := by
  have hc : Co.codeB lot = true := by
    have ho : okL' lot s.la = true := by
      by_cases e : okL' lot s.la = true
      · exact e
      · exfalso
        unfold qtyL at q1
        rw [if_neg e] at q1
        omega
    obtain ⟨x, hx, rfl⟩ := ok_mem ho
    exact hC.la x hx
  have R := issue_run hI hn q0 (by omega) hc hl
  have t0 : t.1 = 0 := by rw [← ht, R]
  have F := stF hI (by rw [ht]; exact t0)
  rw [ht] at R
  have it : Inv t.2.1 := by rw [← ht]; exact F.inv
  obtain ⟨A, X, C, K⟩ := cut hI.so lot
  rcases K.qty with ⟨_, y, e, hy, hqt⟩ | ⟨_, _, hqt⟩
  rotate_left
  · omega
  have hx : y ∈ s.la := by rw [K.eq, e]; simp
  have yq := hI.lq hx
  have t4 : t.2.1.la = A ++ [{ y with qty := wr (y.qty - q), value := wr (y.value - partS y.value q y.qty) }] ++ C := by
    rw [R]
    show (takeS s.la (atL lot s.la) q).1 = _
    rw [K.take e q]
    show (if y.qty = q then _ else _) = _
    rw [if_neg (by omega)]
  have wq : wr (y.qty - q) = b := by rw [wr_id (by omega) (by omega)]; omega
  rw [wq] at t4
  generalize hy1 : ({ y with qty := b, value := wr (y.value - partS y.value q y.qty) } : La) = y1 at t4
  have y1q : y1.qty = b := by rw [← hy1]
  have y1l : y1.lot = lot := by rw [← hy1]; exact hy
  have K2 : Cut t.2.1.la lot A [y1] C := by rw [t4]; exact cut_mk K.a K.c (.inr ⟨y1, rfl, y1l⟩)
  have q2 : qtyL lot t.2.1.la = b := by
    rcases K2.qty with ⟨_, y', e', _, h⟩ | ⟨_, e', _⟩
    · cases e'
      rw [h, y1q]
    · cases e'
  have R2 := issue_run it hm (by omega : 1 ≤ b) (by omega) hc hl
  have u0 : u.1 = 0 := by rw [← hu, R2]
  have G := stF it (by rw [hu]; exact u0)
  rw [hu] at R2
  have iu : Inv u.2.1 := by rw [← hu]; exact G.inv
  have u4 : u.2.1.la = A ++ [] ++ C := by
    rw [R2]
    show (takeS t.2.1.la (atL lot t.2.1.la) b).1 = _
    rw [K2.take rfl b]
    show (if y1.qty = b then _ else _) = _
    rw [if_pos y1q]
  have K3 : Cut u.2.1.la lot A [] C := by rw [u4]; exact cut_mk K.a K.c (.inl rfl)
  have fv := F.v
  have gv := G.v
  rw [ht] at fv
  rw [hu] at gv
  refine ⟨t0, u0, it, iu, ?_, ?_, fv, gv⟩
  · rw [qtyR_eq iu]
    rcases K3.qty with ⟨_, y', e', _, h⟩ | ⟨_, _, h⟩
    · cases e'
    · exact h
  · rw [u4, K.eq, e]
    simp only [List.length_append, List.length_cons, List.length_nil]
    omega
theorem LotsEmpty_calls {W : World} {V : Value} {l : List Mv} {lot : ByteArray} {q : Int} (hL : Laid W) (h1 : Src W V .mv l) (hl : MvsI l) (hz : lot.size ≤ 140737488351232) (hq : I64 q) :
    Calls Tryd.prog 6 #[V, .string lot, .int .i64 q] W fun e w1 => e = .returned (.bool true) ∧ Below W.heap.size W w1 := by
  obtain ⟨ρ, e1, hS⟩ := start1 h1
  have hg : ∀ i, ¬ (gW W).S i := fun i h => h
  refine (calls_awp (f := 6) (vs := [V, .string lot, .int .i64 q]) (cx_ok (C := CL) (nt := 117) (cl_ok hL hg)) mixed_ok Tryd.func6 rfl rfl hS (avs := [.one (.row 0), .one (.v (.string lot)), .one (.v (.int .i64 q))])
    (fun ρ' h => ⟨row_rel h (by simp [findR]) e1 h1, rfl, rfl, trivial⟩) (le_of_ble (by kernel_rfl)) (K := fun x A => x = .one (.v (.bool true))) ?_).mono ?_
  · have hI := playS_inv l
    have hC := playS_cod l
    have hs := playS_pl hl
    have n1 : (playS l).pa.length ≤ 1000000000 := by have := hs.pa; omega
    obtain ⟨u1, u2⟩ := unused_i hs (by omega)
    have hk := (unused_kn (playS l).pa).1
    have hm : MvI (lMv (unusedS (playS l).pa) 2 q 0 lot 0) := lMv_i u1 (by simp [I64]) hq i64_0
    have hsm : SmI (playS l) (lMv (unusedS (playS l).pa) 2 q 0 lot 0) := hs.sm (by omega) hm (lMv_z hz).1 (lMv_z hz).2
    have hs2 := hs.step stpF_f hm
    have n2 : (stpF (playS l) (lMv (unusedS (playS l).pa) 2 q 0 lot 0)).2.1.pa.length ≤ 1000000000 := by have := hs2.pa; omega
    obtain ⟨v1, v2⟩ := unused_i hs2 (by omega)
    have hk2 := (unused_kn (stpF (playS l) (lMv (unusedS (playS l).pa) 2 q 0 lot 0)).2.1.pa).1
    have hm2 : MvI (lMv (unusedS (stpF (playS l) (lMv (unusedS (playS l).pa) 2 q 0 lot 0)).2.1.pa) 2 (wr (qtyR lot (playS l).la - q)) 0 lot 0) := lMv_i v1 (by simp [I64]) (i64_wrap _) i64_0
    have hsm2 : SmI (stpF (playS l) (lMv (unusedS (playS l).pa) 2 q 0 lot 0)).2.1 (lMv (unusedS (stpF (playS l) (lMv (unusedS (playS l).pa) 2 q 0 lot 0)).2.1.pa) 2 (wr (qtyR lot (playS l).la - q)) 0 lot 0) := hs2.sm (by omega) hm2 (lMv_z hz).1 (lMv_z hz).2
    have hs3 := hs2.step stpF_f hm2
    have m0 := hs.la
    have m2 := hs3.la
    have eq := qtyR_eq hI lot
    have iv0 := hI.v0
    have iv1 := hI.v1
    have iq1 := hI.q1
    ((conv => whnf) <;> repeat (refine obl_ ?_; conv => whnf))
    refine cond_ (fun h => ?_) (fun h => ?_)
    · ((conv => whnf) <;> repeat (refine obl_ ?_; conv => whnf))
      exact rfl
    have x0 : ¬ noLot lot = true := fun e => Bool.eq_false_iff.1 h e
    ((conv => whnf) <;> repeat (refine obl_ ?_; conv => whnf))
    refine cond_ (fun h => ?_) (fun h => ?_)
    · ((conv => whnf) <;> repeat (refine obl_ ?_; conv => whnf))
      exact rfl
    have x1 : ¬ q < 1 := of_decide_eq_false h
    ((conv => whnf) <;> repeat (refine obl_ ?_; conv => whnf))
    refine cond_ (fun h => ?_) (fun h => ?_)
    · ((conv => whnf) <;> repeat (refine obl_ ?_; conv => whnf))
      exact rfl
    have x2 : ¬ qtyR lot (playS l).la ≤ q := of_decide_eq_false h
    have x3 : qtyL lot (playS l).la ≤ 1000000000 := by
      obtain ⟨A, X, C, K⟩ := cut hI.so lot
      rcases K.qty with ⟨_, y, e, hy, hqt⟩ | ⟨_, _, hqt⟩
      · have := hI.lq (x := y) (by rw [K.eq, e]; simp)
        omega
      · omega
    have wb : wr (qtyR lot (playS l).la - q) = qtyL lot (playS l).la - q := by rw [eq]; exact wr_id (by omega) (by omega)
    obtain ⟨r1, r2, it, iu, r3, r4, r5, r6⟩ := empty_ok hI hC x0 (by omega) (by omega) wb hk rfl hk2 rfl
    have tv0 := it.v0
    have tv1 := it.v1
    have uv0 := iu.v0
    have uv1 := iu.v1
    have uv := iu.v
    simp only [sumV] at uv
    have sv := fun j => sumF_take (f := La.value) (l := (stpF (stpF (playS l) (lMv (unusedS (playS l).pa) 2 q 0 lot 0)).2.1 (lMv (unusedS (stpF (playS l) (lMv (unusedS (playS l).pa) 2 q 0 lot 0)).2.1.pa) 2 (wr (qtyR lot (playS l).la - q)) 0 lot 0)).2.1.la) (fun x hx => (iu.la x hx).v) j
    have r7 : ((stpF (stpF (playS l) (lMv (unusedS (playS l).pa) 2 q 0 lot 0)).2.1 (lMv (unusedS (stpF (playS l) (lMv (unusedS (playS l).pa) 2 q 0 lot 0)).2.1.pa) 2 (wr (qtyR lot (playS l).la - q)) 0 lot 0)).2.1.la.length : Int) = wr (((playS l).la.length : Int) - 1) := r4.trans (wr_id (by omega) (by omega)).symm
    have r8 : (stpF (stpF (playS l) (lMv (unusedS (playS l).pa) 2 q 0 lot 0)).2.1 (lMv (unusedS (stpF (playS l) (lMv (unusedS (playS l).pa) 2 q 0 lot 0)).2.1.pa) 2 (wr (qtyR lot (playS l).la - q)) 0 lot 0)).2.1.v = wr (wr ((playS l).v + (stpF (playS l) (lMv (unusedS (playS l).pa) 2 q 0 lot 0)).2.2.value) + (stpF (stpF (playS l) (lMv (unusedS (playS l).pa) 2 q 0 lot 0)).2.1 (lMv (unusedS (stpF (playS l) (lMv (unusedS (playS l).pa) 2 q 0 lot 0)).2.1.pa) 2 (wr (qtyR lot (playS l).la - q)) 0 lot 0)).2.2.value) := by
      rw [wr_id (x := (playS l).v + (stpF (playS l) (lMv (unusedS (playS l).pa) 2 q 0 lot 0)).2.2.value) (by omega) (by omega)]
      exact (show (stpF (stpF (playS l) (lMv (unusedS (playS l).pa) 2 q 0 lot 0)).2.1 (lMv (unusedS (stpF (playS l) (lMv (unusedS (playS l).pa) 2 q 0 lot 0)).2.1.pa) 2 (wr (qtyR lot (playS l).la - q)) 0 lot 0)).2.1.v = (playS l).v + (stpF (playS l) (lMv (unusedS (playS l).pa) 2 q 0 lot 0)).2.2.value + (stpF (stpF (playS l) (lMv (unusedS (playS l).pa) 2 q 0 lot 0)).2.1 (lMv (unusedS (stpF (playS l) (lMv (unusedS (playS l).pa) 2 q 0 lot 0)).2.1.pa) 2 (wr (qtyR lot (playS l).la - q)) 0 lot 0)).2.2.value by omega).trans (wr_id (by omega) (by omega)).symm
    ((conv => whnf) <;> repeat (refine obl_ ?_; conv => whnf))
    refine LoopP.introR (cx_ok (cl_ok hL hg)) mixed_ok (ι := Nat) (fun j => ⟨[(16, .one (.v (.int .i64 (j : Int)))), (15, .one (.v (.int .i64 (sumF La.value ((stpF (stpF (playS l) (lMv (unusedS (playS l).pa) 2 q 0 lot 0)).2.1 (lMv (unusedS (stpF (playS l) (lMv (unusedS (playS l).pa) 2 q 0 lot 0)).2.1.pa) 2 (wr (qtyR lot (playS l).la - q)) 0 lot 0)).2.1.la.take j))))), (14, .one (.v (.int .i64 (stpF (stpF (playS l) (lMv (unusedS (playS l).pa) 2 q 0 lot 0)).2.1 (lMv (unusedS (stpF (playS l) (lMv (unusedS (playS l).pa) 2 q 0 lot 0)).2.1.pa) 2 (wr (qtyR lot (playS l).la - q)) 0 lot 0)).1))), (13, .one (.ptr 23 0)), (12, .one (.ptr 22 0)), (11, .one (.v (.int .i64 (stpF (playS l) (lMv (unusedS (playS l).pa) 2 q 0 lot 0)).1))), (10, .one (.ptr 20 0)), (7, .one (.ptr 17 0)), (6, .one (.v (.bool false))), (1, .one (.v (.string lot)))], [(23, 28, costL (stpF (stpF (playS l) (lMv (unusedS (playS l).pa) 2 q 0 lot 0)).2.1 (lMv (unusedS (stpF (playS l) (lMv (unusedS (playS l).pa) 2 q 0 lot 0)).2.1.pa) 2 (wr (qtyR lot (playS l).la - q)) 0 lot 0)).2.2), (22, 26, stockL (stpF (stpF (playS l) (lMv (unusedS (playS l).pa) 2 q 0 lot 0)).2.1 (lMv (unusedS (stpF (playS l) (lMv (unusedS (playS l).pa) 2 q 0 lot 0)).2.1.pa) 2 (wr (qtyR lot (playS l).la - q)) 0 lot 0)).2.1 6000 6001), (20, 28, costL (stpF (playS l) (lMv (unusedS (playS l).pa) 2 q 0 lot 0)).2.2), (17, 26, stockL (playS l) 5000 5001)], [(5000, some ⟨.la, (playS l).la, true⟩), (5001, some ⟨.pa, (playS l).pa, true⟩), (6000, some ⟨.la, (stpF (stpF (playS l) (lMv (unusedS (playS l).pa) 2 q 0 lot 0)).2.1 (lMv (unusedS (stpF (playS l) (lMv (unusedS (playS l).pa) 2 q 0 lot 0)).2.1.pa) 2 (wr (qtyR lot (playS l).la - q)) 0 lot 0)).2.1.la, true⟩), (6001, some ⟨.pa, (stpF (stpF (playS l) (lMv (unusedS (playS l).pa) 2 q 0 lot 0)).2.1 (lMv (unusedS (stpF (playS l) (lMv (unusedS (playS l).pa) 2 q 0 lot 0)).2.1.pa) 2 (wr (qtyR lot (playS l).la - q)) 0 lot 0)).2.1.pa, true⟩)]⟩) (fun j => j ≤ (stpF (stpF (playS l) (lMv (unusedS (playS l).pa) 2 q 0 lot 0)).2.1 (lMv (unusedS (stpF (playS l) (lMv (unusedS (playS l).pa) 2 q 0 lot 0)).2.1.pa) 2 (wr (qtyR lot (playS l).la - q)) 0 lot 0)).2.1.la.length) (fun j => (stpF (stpF (playS l) (lMv (unusedS (playS l).pa) 2 q 0 lot 0)).2.1 (lMv (unusedS (stpF (playS l) (lMv (unusedS (playS l).pa) 2 q 0 lot 0)).2.1.pa) 2 (wr (qtyR lot (playS l).la - q)) 0 lot 0)).2.1.la.length - j) 0 (Nat.zero_le _) ⟨[(5000, some 28), (5001, some 528), (6000, some 64), (6001, some 564)], by (refine ⟨?_, ?_, ?_, by kernel_rfl⟩ <;> repeat' (first | exact trivial | exact rfl | assumption | apply And.intro))⟩ ?_
    intro j hj
    ((conv => whnf) <;> repeat (refine obl_ ?_; conv => whnf))
    refine cond_ (fun h => ?_) (fun h => ?_)
    · have hjl : j < (stpF (stpF (playS l) (lMv (unusedS (playS l).pa) 2 q 0 lot 0)).2.1 (lMv (unusedS (stpF (playS l) (lMv (unusedS (playS l).pa) 2 q 0 lot 0)).2.1.pa) 2 (wr (qtyR lot (playS l).la - q)) 0 lot 0)).2.1.la.length := by have := of_decide_eq_true h; omega
      have j1 : 0 ≤ (j : Int) := by omega
      have j2 : (j : Int) < ((stpF (stpF (playS l) (lMv (unusedS (playS l).pa) 2 q 0 lot 0)).2.1 (lMv (unusedS (stpF (playS l) (lMv (unusedS (playS l).pa) 2 q 0 lot 0)).2.1.pa) 2 (wr (qtyR lot (playS l).la - q)) 0 lot 0)).2.1.la.length : Int) := by omega
      have t1 := sumF_step (f := La.value) hjl
      have s3 := sv j
      have s4 := sv (j + 1)
      have w1 : wr (sumF La.value ((stpF (stpF (playS l) (lMv (unusedS (playS l).pa) 2 q 0 lot 0)).2.1 (lMv (unusedS (stpF (playS l) (lMv (unusedS (playS l).pa) 2 q 0 lot 0)).2.1.pa) 2 (wr (qtyR lot (playS l).la - q)) 0 lot 0)).2.1.la.take j) + ((stpF (stpF (playS l) (lMv (unusedS (playS l).pa) 2 q 0 lot 0)).2.1 (lMv (unusedS (stpF (playS l) (lMv (unusedS (playS l).pa) 2 q 0 lot 0)).2.1.pa) 2 (wr (qtyR lot (playS l).la - q)) 0 lot 0)).2.1.la.getD j zLa).value) = sumF La.value ((stpF (stpF (playS l) (lMv (unusedS (playS l).pa) 2 q 0 lot 0)).2.1 (lMv (unusedS (stpF (playS l) (lMv (unusedS (playS l).pa) 2 q 0 lot 0)).2.1.pa) 2 (wr (qtyR lot (playS l).la - q)) 0 lot 0)).2.1.la.take (j + 1)) := by rw [t1]; exact wrap_id (by omega) (by omega)
      ((conv => whnf) <;> repeat (refine obl_ ?_; conv => whnf))
      refine ⟨j + 1, hjl, by omega, [], ?_⟩
      (refine ⟨?_, ?_, ?_, by kernel_rfl⟩ <;> repeat' (first | exact trivial | exact rfl | assumption | apply And.intro))
      · exact up_ (by omega)
      · exact int_ w1
    have hge := of_decide_eq_false h
    have hall : (stpF (stpF (playS l) (lMv (unusedS (playS l).pa) 2 q 0 lot 0)).2.1 (lMv (unusedS (stpF (playS l) (lMv (unusedS (playS l).pa) 2 q 0 lot 0)).2.1.pa) 2 (wr (qtyR lot (playS l).la - q)) 0 lot 0)).2.1.la.take j = (stpF (stpF (playS l) (lMv (unusedS (playS l).pa) 2 q 0 lot 0)).2.1 (lMv (unusedS (stpF (playS l) (lMv (unusedS (playS l).pa) 2 q 0 lot 0)).2.1.pa) 2 (wr (qtyR lot (playS l).la - q)) 0 lot 0)).2.1.la := List.take_of_length_le (by omega)
    rw [hall]
    ((conv => whnf) <;> repeat (refine obl_ ?_; conv => whnf))
    refine cond_ (fun _ => ?_) (fun h => (beq_ne h r1).elim)
    ((conv => whnf) <;> repeat (refine obl_ ?_; conv => whnf))
    refine cond_ (fun _ => ?_) (fun h => (beq_ne h r2).elim)
    ((conv => whnf) <;> repeat (refine obl_ ?_; conv => whnf))
    refine cond_ (fun _ => ?_) (fun h => (beq_ne h r3).elim)
    ((conv => whnf) <;> repeat (refine obl_ ?_; conv => whnf))
    refine cond_ (fun _ => ?_) (fun h => (beq_ne h r7).elim)
    ((conv => whnf) <;> repeat (refine obl_ ?_; conv => whnf))
    refine cond_ (fun _ => ?_) (fun h => (beq_ne h uv).elim)
    ((conv => whnf) <;> repeat (refine obl_ ?_; conv => whnf))
    refine cond_ (fun _ => ?_) (fun h => (beq_ne h r8).elim)
    ((conv => whnf) <;> repeat (refine obl_ ?_; conv => whnf))
    exact rfl
  · rintro e w1 ⟨x, v, A1, ρ1, a1, rfl, hv, rfl, hS1, _⟩
    exact ⟨by rw [show x = _ from hv], hS1.rel.bel⟩
end Go.Proofs.YtcjdkaigimcofaaDoor.Ff
