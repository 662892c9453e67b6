/- The executor and what hangs on it, merged (LtU, LtV, LtW, LtX, LtY, LtZ, LuA, LuB, LuC, LuD, LuE, LuF, BaE, LuG, LuH): a verified abstract run of code over memory, and the walks by it; each theorem names its conditions. -/
import Derived.Test.YtcjdkaigimcofaaDoorX1
/- lots: the movements, as do performs them. No condition but 64 bits. -/
namespace Go.Proofs.YtcjdkaigimcofaaDoor.Ff
open Go.RowKit Go.Proofs.YtcjdkaigimcofaaDoorW.PrintWords Go.Proofs.YtcjdkaigimcofaaDoor.Ex
set_option linter.unusedVariables false
set_option linter.unusedSimpArgs false
set_option maxRecDepth 100000
theorem at_le (lot : ByteArray) (la : List La) : atL lot la ≤ la.length ∧ (okL' lot la = true → atL lot la < la.length) := by
  obtain ⟨A, B, e, en, hA, hB⟩ := find_split lot la 0
  have e1 : atL lot la = 0 + A.length := en
  have e2 : la.length = A.length + B.length := by rw [e, List.length_append]
  refine ⟨by omega, fun ho => ?_⟩
  rcases hB with ⟨h2, y, C, rfl, _⟩ | ⟨h2, _⟩
  · simp at e2
    omega
  · have : okL' lot la = false := h2
    rw [ho] at this
    cases this
/-- Room made for an element. -/
def cpy (la : List La) (z w : Int) : List La := ((la ++ [zLa]).take w.toNat) ++ (((la ++ [zLa]).take (la ++ [zLa]).length).drop z.toNat).take ((la ++ [zLa]).length - w.toNat)
theorem cpy_eq {la : List La} {n : Nat} {z w : Int} (hn : n ≤ la.length) (hz : z = n) (hw : w = (n : Int) + 1) : cpy la z w = (la ++ [zLa]).take (n + 1) ++ la.drop n := by
  subst hz hw
  have e1 : ((la ++ [zLa]).take (la ++ [zLa]).length).drop n = la.drop n ++ [zLa] := by rw [List.take_length, List.drop_append_of_le_length hn]
  have e2 : (la ++ [zLa]).length - (n + 1) = (la.drop n).length := by simp
  unfold cpy
  rw [show ((n : Int) + 1).toNat = n + 1 from by omega, Int.toNat_natCast, e1, e2]
  congr 1
  exact List.take_left' rfl
theorem cpy_len {la : List La} {n : Nat} {z w : Int} (hn : n ≤ la.length) (hz : z = n) (hw : w = (n : Int) + 1) : (cpy la z w).length = la.length + 1 := by
  rw [cpy_eq hn hz hw]
  simp
  omega
theorem cpy_set {la : List La} {n : Nat} {z w : Int} (hn : n ≤ la.length) (hz : z = n) (hw : w = (n : Int) + 1) (y : La) : (cpy la z w).set n y = la.take n ++ y :: la.drop n := by
  have h1 : ((la ++ [zLa]).take (n + 1)).length = n + 1 := by simp; omega
  have h2 : (la ++ [zLa]).take (n + 1) = la.take n ++ [(la ++ [zLa]).getD n zLa] := by
    rw [List.take_add_one, List.getElem?_eq_getElem (by simp; omega), List.getD_eq_getElem?_getD, List.getElem?_eq_getElem (by simp; omega), List.take_append_of_le_length hn]
    rfl
  have h3 : (la.take n).length = n := by simp; omega
  rw [cpy_eq hn hz hw, h2, List.append_assoc, List.set_append, if_neg (by omega), h3, Nat.sub_self]
  rfl
theorem takeS_1 {la : List La} {i : Nat} {q : Int} (h : (la.getD i zLa).qty = q) : takeS la i q = (la.take i ++ la.drop (i + 1), partS (la.getD i zLa).value q (la.getD i zLa).qty) := by
  unfold takeS; simp only; rw [if_pos h]
theorem takeS_2 {la : List La} {i : Nat} {q : Int} (h : ¬ (la.getD i zLa).qty = q) : takeS la i q = (la.set i { la.getD i zLa with qty := wr ((la.getD i zLa).qty - q), value := wr ((la.getD i zLa).value - partS (la.getD i zLa).value q (la.getD i zLa).qty) }, partS (la.getD i zLa).value q (la.getD i zLa).qty) := by
  unfold takeS; simp only; rw [if_neg h]
theorem take_rm {l : List La} {z : Int} (h0 : 0 ≤ z) (h : z < l.length) (hn : l.length < 1000000000) (y w : La) : ([] ++ ((((l.set z.toNat y).set z.toNat w).take z.toNat).drop 0)) ++ ((((l.set z.toNat y).set z.toNat w).take (((l.set z.toNat y).set z.toNat w).length)).drop (wr (z + 1)).toNat) = l.take z.toNat ++ l.drop (z.toNat + 1) := by
  rw [wr_at h0 h hn, show (z + 1).toNat = z.toNat + 1 from by omega, List.set_set, List.take_length, List.drop_zero, List.nil_append, List.take_set_of_le (Nat.le_refl _), List.drop_set_of_lt (by omega)]
theorem take_rm2 {l : List La} {z : Int} (h0 : 0 ≤ z) (h : z < l.length) (hn : l.length < 1000000000) (y w : La) : (((l.set z.toNat y).set z.toNat w).take z.toNat) ++ ((((l.set z.toNat y).set z.toNat w).take (((l.set z.toNat y).set z.toNat w).length)).drop (wr (z + 1)).toNat) = l.take z.toNat ++ l.drop (z.toNat + 1) := by
  have := take_rm h0 h hn y w
  rw [List.drop_zero, List.nil_append] at this
  exact this
theorem take_q {l : List La} {Z : Nat} (h : Z < l.length) (a b : Int) : (((l.set Z { l.getD Z zLa with qty := a }).set Z { (l.set Z { l.getD Z zLa with qty := a }).getD Z zLa with value := b }).getD Z zLa).qty = a := by
  rw [getD_set (by simpa using h), getD_set h]
theorem take_up2 {l : List La} {Z : Nat} (h : Z < l.length) (a v : Int) : (l.set Z { l.getD Z zLa with qty := a }).set Z { (l.set Z { l.getD Z zLa with qty := a }).getD Z zLa with value := wr (((l.set Z { l.getD Z zLa with qty := a }).getD Z zLa).value - v) } = l.set Z { l.getD Z zLa with qty := a, value := wr ((l.getD Z zLa).value - v) } := by
  rw [List.set_set, getD_set h]
theorem add_facts {la : List La} {n : Nat} (h : n ≤ la.length) (hl : la.length < 400000000) : wr ((n : Int) + 1) = (n : Int) + 1 ∧ 0 ≤ wr ((n : Int) + 1) ∧ wr ((n : Int) + 1) ≤ ((la ++ [zLa]).length : Int) ∧ 0 ≤ (n : Int) ∧ (n : Int) ≤ ((la ++ [zLa]).length : Int) ∧ (la ++ [zLa]).length - (wr ((n : Int) + 1)).toNat ≤ (((la ++ [zLa]).take (la ++ [zLa]).length).drop (n : Int).toNat).length ∧ (n : Int) < ((cpy la (n : Int) (wr ((n : Int) + 1))).length : Int) := by
  have w1 : wr ((n : Int) + 1) = (n : Int) + 1 := wrap_id (by omega) (by omega)
  have hL : ((la ++ [zLa]).length : Int) = la.length + 1 := by simp
  refine ⟨w1, by omega, by omega, by omega, by omega, ?_, ?_⟩
  · rw [List.take_length, List.length_drop, w1]
    omega
  · rw [cpy_len h rfl w1]
    omega
theorem old_facts {la : List La} {n : Nat} (h : n < la.length) : 0 ≤ (n : Int) ∧ (n : Int) < (la.length : Int) := ⟨by omega, by omega⟩
theorem add_new {la : List La} {lot : ByteArray} (h : atL lot la ≤ la.length) (w : wr ((atL lot la : Int) + 1) = (atL lot la : Int) + 1) (ho : okL' lot la = false) (q v : Int) : (((cpy la (atL lot la : Int) (wr ((atL lot la : Int) + 1))).set (atL lot la : Int).toNat ⟨0, lot, 0, 0⟩).set (atL lot la : Int).toNat { ((cpy la (atL lot la : Int) (wr ((atL lot la : Int) + 1))).set (atL lot la : Int).toNat ⟨0, lot, 0, 0⟩).getD (atL lot la : Int).toNat zLa with qty := wr ((((cpy la (atL lot la : Int) (wr ((atL lot la : Int) + 1))).set (atL lot la : Int).toNat ⟨0, lot, 0, 0⟩).getD (atL lot la : Int).toNat zLa).qty + q) }).set (atL lot la : Int).toNat { (((cpy la (atL lot la : Int) (wr ((atL lot la : Int) + 1))).set (atL lot la : Int).toNat ⟨0, lot, 0, 0⟩).set (atL lot la : Int).toNat { ((cpy la (atL lot la : Int) (wr ((atL lot la : Int) + 1))).set (atL lot la : Int).toNat ⟨0, lot, 0, 0⟩).getD (atL lot la : Int).toNat zLa with qty := wr ((((cpy la (atL lot la : Int) (wr ((atL lot la : Int) + 1))).set (atL lot la : Int).toNat ⟨0, lot, 0, 0⟩).getD (atL lot la : Int).toNat zLa).qty + q) }).getD (atL lot la : Int).toNat zLa with value := wr (((((cpy la (atL lot la : Int) (wr ((atL lot la : Int) + 1))).set (atL lot la : Int).toNat ⟨0, lot, 0, 0⟩).set (atL lot la : Int).toNat { ((cpy la (atL lot la : Int) (wr ((atL lot la : Int) + 1))).set (atL lot la : Int).toNat ⟨0, lot, 0, 0⟩).getD (atL lot la : Int).toNat zLa with qty := wr ((((cpy la (atL lot la : Int) (wr ((atL lot la : Int) + 1))).set (atL lot la : Int).toNat ⟨0, lot, 0, 0⟩).getD (atL lot la : Int).toNat zLa).qty + q) }).getD (atL lot la : Int).toNat zLa).value + v) } = addS la lot q v := by
  rw [Int.toNat_natCast, cpy_set h rfl w]
  have hl : atL lot la < (la.take (atL lot la) ++ (⟨0, lot, 0, 0⟩ : La) :: la.drop (atL lot la)).length := by simp; omega
  rw [List.set_set, getD_set (by simpa using hl)]
  have hg : (la.take (atL lot la) ++ (⟨0, lot, 0, 0⟩ : La) :: la.drop (atL lot la)).getD (atL lot la) zLa = ⟨0, lot, 0, 0⟩ := by
    rw [List.getD_eq_getElem?_getD, List.getElem?_append_right (by simp; omega)]
    simp [Nat.min_eq_left h]
  rw [hg]
  have hs : ∀ y : La, (la.take (atL lot la) ++ (⟨0, lot, 0, 0⟩ : La) :: la.drop (atL lot la)).set (atL lot la) y = la.take (atL lot la) ++ y :: la.drop (atL lot la) := fun y => by
    have h3 : (la.take (atL lot la)).length = atL lot la := by simp; omega
    rw [List.set_append, if_neg (by omega), h3, Nat.sub_self]
    rfl
  rw [hs]
  unfold addS
  rw [if_neg (by rw [ho]; decide)]
theorem add_old {la : List La} {lot : ByteArray} (h : atL lot la < la.length) (ho : okL' lot la = true) (q v : Int) : (la.set (atL lot la : Int).toNat { la.getD (atL lot la : Int).toNat zLa with qty := wr ((la.getD (atL lot la : Int).toNat zLa).qty + q) }).set (atL lot la : Int).toNat { (la.set (atL lot la : Int).toNat { la.getD (atL lot la : Int).toNat zLa with qty := wr ((la.getD (atL lot la : Int).toNat zLa).qty + q) }).getD (atL lot la : Int).toNat zLa with value := wr (((la.set (atL lot la : Int).toNat { la.getD (atL lot la : Int).toNat zLa with qty := wr ((la.getD (atL lot la : Int).toNat zLa).qty + q) }).getD (atL lot la : Int).toNat zLa).value + v) } = addS la lot q v := by
  rw [Int.toNat_natCast, List.set_set, getD_set h]
  unfold addS
  rw [if_pos ho]
theorem receive_inl {g : G} (hL : Laid g.W0) (hg : ∀ i, ¬ g.S i) {s : St} {m : Mv} {tm : List (Nat × AV)} (hs : StI s) (hm : MvI m) (n1 : s.la.length < 400000000) (n2 : s.pa.length < 1000000000) (t7 : Ex.look tm 7 = .one (.ptr 1006 0)) (t5 : Ex.look tm 5 = .one (.ptr 15 0)) (t4 : Ex.look tm 4 = .one (.ptr 14 0)) (t3 : Ex.look tm 3 = .one (.ptr 13 0)) (h' : m.kind = 1) :
    InlP Tryd.prog g (cx CF 71) (some 28) 22 [.one (.ptr 1006 0), .agg (mvL m)] ⟨tm, BLo s m, RWo s⟩ (fun A1 => ∃ i : Unit, True ∧ ∃ σ, LeR (cx CF 71).base σ A1 (IT s m (moveS true s m))) := by
  have l1 : s.la.length ≤ 1000000000 := by omega
  have l2 : s.pa.length ≤ 1000000000 := by omega
  have k0 := h'
  refine InlP.intro (X' := ⟨tab, CF, 2000, 49⟩) (cf_at hL hg) mixed_ok Tryd.func22 (by kernel_rfl) rfl rfl (le_of_ble (by kernel_rfl)) (by kernel_rfl) ?_
  ((conv => whnf) <;> repeat (refine obl_ ?_; conv => whnf))
  refine cond_ (fun _ => ?_) (fun h => (beq_ne h k0).elim)
  ((conv => whnf) <;> repeat (refine obl_ ?_; conv => whnf))
  refine InlP.intro (X' := ⟨tab, CF, 3000, 28⟩) (cf_at hL hg) mixed_ok Tryd.func37 (by kernel_rfl) rfl rfl (le_of_ble (by kernel_rfl)) (by kernel_rfl) ?_
  ((conv => whnf) <;> repeat (refine obl_ ?_; conv => whnf))
  refine cond_ (fun hn => ?_) (fun hn => ?_)
  · rw [moveS_1e h' hn]
    ((conv => whnf) <;> repeat (refine obl_ ?_; conv => whnf))
    refine ⟨(), trivial, [], ?_⟩
    (refine ⟨?_, ?_, ?_, by kernel_rfl⟩ <;> repeat' (first | exact trivial | exact rfl | assumption | apply And.intro))
  · rw [moveS_1 h' (fun e => by rw [show strEq m.lot ⟨#[]⟩ = true from e] at hn; cases hn)]
    ((conv => whnf) <;> repeat (refine obl_ ?_; conv => whnf))
    refine InlP.weak (ι := Unit) (fun _ => ⟨[(5, .one (.v (.int .i64 0))), (4, .one (.ptr 3004 0)), (3, .one (.ptr 3003 0)), (0, .one (.ptr 1006 0))], ((3004, 28, zCo) :: (3003, 33, mvL m) :: (2004, 28, zCo) :: (2003, 33, mvL m) :: (2002, 53, [.ptr 1006 0]) :: BLk 3900 1901 s m), [(1900, none), (3900, some ⟨.la, addS s.la m.lot m.qty m.cost, true⟩), (1901, some ⟨.pa, s.pa, true⟩)]⟩) (fun _ => True) ?_ (fun _ _ => ?_)
    · obtain ⟨a1, a2⟩ := at_le m.lot s.la
      refine InlP.intro (X' := ⟨tab, CF, 4000, 81⟩) (cf_at hL hg) mixed_ok Tryd.func59 (by kernel_rfl) rfl rfl (le_of_ble (by kernel_rfl)) (by kernel_rfl) ?_
      ((conv => whnf) <;> repeat (refine obl_ ?_; conv => whnf))
      refine cond_ (fun ho => ?_) (fun ho => ?_)
      · have ho' : okL' m.lot s.la = false := by
          have : (!okL' m.lot s.la) = true := ho
          simpa using this
        obtain ⟨w1, o1, o2, o3, o4, o6, o7⟩ := add_facts a1 n1
        ((conv => whnf) <;> repeat (refine obl_ ?_; conv => whnf))
        refine ⟨(), trivial, [(3900, some 4026)], ?_⟩
        (refine ⟨?_, ?_, ?_, by kernel_rfl⟩ <;> repeat' (first | exact trivial | exact rfl | assumption | apply And.intro))
        exact add_new a1 w1 ho' (m.qty) (m.cost)
      · have ho' : okL' m.lot s.la = true := by
          have : (!okL' m.lot s.la) = false := ho
          simpa using this
        have a3 := a2 ho'
        obtain ⟨o3, o5⟩ := old_facts a3
        ((conv => whnf) <;> repeat (refine obl_ ?_; conv => whnf))
        refine ⟨(), trivial, [(3900, some 1900)], ?_⟩
        (refine ⟨?_, ?_, ?_, by kernel_rfl⟩ <;> repeat' (first | exact trivial | exact rfl | assumption | apply And.intro))
        exact add_old a3 ho' (m.qty) (m.cost)
    · ((conv => whnf) <;> repeat (refine obl_ ?_; conv => whnf))
      refine InlP.intro (X' := ⟨tab, CF, 5000, 27⟩) (cf_at hL hg) mixed_ok Tryd.func60 (by kernel_rfl) rfl rfl (le_of_ble (by kernel_rfl)) (by kernel_rfl) ?_
      ((conv => whnf) <;> repeat (refine obl_ ?_; conv => whnf))
      refine ⟨(), trivial, [(1900, some 3900), (1901, some 5023)], ?_⟩
      (refine ⟨?_, ?_, ?_, by kernel_rfl⟩ <;> repeat' (first | exact trivial | exact rfl | assumption | apply And.intro))
def pB1 (pa : List Pa) (Z : Nat) (q : Int) : List Pa := pa.set Z { pa.getD Z zPa with used := wr ((pa.getD Z zPa).used + q) }
def pB2 (pa : List Pa) (Z : Nat) (q v : Int) : List Pa := (pB1 pa Z q).set Z { (pB1 pa Z q).getD Z zPa with uval := wr (((pB1 pa Z q).getD Z zPa).uval + v) }
theorem pB1_get {pa : List Pa} {Z : Nat} (h : Z < pa.length) (q : Int) : (pB1 pa Z q).getD Z zPa = { pa.getD Z zPa with used := wr ((pa.getD Z zPa).used + q) } := getD_set h
theorem pB2_eq {pa : List Pa} {Z : Nat} (h : Z < pa.length) (q v : Int) : pB2 pa Z q v = pa.set Z { pa.getD Z zPa with used := wr ((pa.getD Z zPa).used + q), uval := wr ((pa.getD Z zPa).uval + v) } := by
  unfold pB2
  rw [pB1_get h]
  unfold pB1
  rw [List.set_set]
theorem pB2_lot {pa : List Pa} {Z : Nat} (h : Z < pa.length) (q v : Int) : ((pB2 pa Z q v).getD Z zPa).lot = (pa.getD Z zPa).lot := by
  rw [pB2_eq h, getD_set h]
theorem pB1_lot {pa : List Pa} {Z : Nat} (h : Z < pa.length) (q : Int) : ((pB1 pa Z q).getD Z zPa).lot = (pa.getD Z zPa).lot := by
  rw [pB1_get h]
end Go.Proofs.YtcjdkaigimcofaaDoor.Ff

/- lots: a return by a customer. No condition but 64 bits. -/
namespace Go.Proofs.YtcjdkaigimcofaaDoor.Ff
open Go.RowKit Go.Proofs.YtcjdkaigimcofaaDoorW.PrintWords Go.Proofs.YtcjdkaigimcofaaDoor.Ex
set_option linter.unusedVariables false
set_option linter.unusedSimpArgs false
set_option maxRecDepth 100000
set_option maxHeartbeats 1000000 in
theorem back_inl {g : G} (hL : Laid g.W0) (hg : ∀ i, ¬ g.S i) {s : St} {m : Mv} {tm : List (Nat × AV)} (hs : StI s) (hm : MvI m) (n1 : s.la.length < 400000000) (n2 : s.pa.length < 1000000000) (t7 : Ex.look tm 7 = .one (.ptr 1006 0)) (t5 : Ex.look tm 5 = .one (.ptr 15 0)) (t4 : Ex.look tm 4 = .one (.ptr 14 0)) (t3 : Ex.look tm 3 = .one (.ptr 13 0)) (h' : m.kind = 3) :
    InlP Tryd.prog g (cx CF 71) (some 28) 22 [.one (.ptr 1006 0), .agg (mvL m)] ⟨tm, BLo s m, RWo s⟩ (fun A1 => ∃ i : Unit, True ∧ ∃ σ, LeR (cx CF 71).base σ A1 (IT s m (moveS true s m))) := by
  have l1 : s.la.length ≤ 1000000000 := by omega
  have l2 : s.pa.length ≤ 1000000000 := by omega
  have k0 := h'
  refine InlP.intro (X' := ⟨tab, CF, 2000, 49⟩) (cf_at hL hg) mixed_ok Tryd.func22 (by kernel_rfl) rfl rfl (le_of_ble (by kernel_rfl)) (by kernel_rfl) ?_
  ((conv => whnf) <;> repeat (refine obl_ ?_; conv => whnf))
  refine cond_ (fun h => absurd (k0.symm.trans (beq_iff_eq.1 h)) (by decide)) (fun _ => ?_)
  ((conv => whnf) <;> repeat (refine obl_ ?_; conv => whnf))
  refine cond_ (fun h => absurd (k0.symm.trans (beq_iff_eq.1 h)) (by decide)) (fun _ => ?_)
  ((conv => whnf) <;> repeat (refine obl_ ?_; conv => whnf))
  refine cond_ (fun _ => ?_) (fun h => (beq_ne h k0).elim)
  ((conv => whnf) <;> repeat (refine obl_ ?_; conv => whnf))
  have e2 := pastS_find (kind := 2) (seq := m.ref) (by decide) s.pa
  refine InlP.intro (X' := ⟨tab, CF, 3000, 38⟩) (cf_at hL hg) mixed_ok Tryd.func36 (by kernel_rfl) rfl rfl (le_of_ble (by kernel_rfl)) (by kernel_rfl) ?_
  ((conv => whnf) <;> repeat (refine obl_ ?_; conv => whnf))
  refine pastd_inl hL hg n2 (by kernel_rfl) (fun hf => ?_) (fun y0 y1 hq => ?_)
  · rw [moveS_3a h' (by rw [← e2]; exact hf)]
    ((conv => whnf) <;> repeat (refine obl_ ?_; conv => whnf))
    refine ⟨(), trivial, [], ?_⟩
    (refine ⟨?_, ?_, ?_, by kernel_rfl⟩ <;> repeat' (first | exact trivial | exact rfl | assumption | apply And.intro))
  · rw [e2] at y0 y1 hq ⊢
    clear hq
    have hf' : ¬ (findS 2 m.ref s.pa) < 0 := by omega
    obtain ⟨hz0, hz1, hz2⟩ := find_lt hf'
    have hP := hs.pa _ (getD_mem zPa hz2)
    have hqty := hm.qty
    have hcost := hm.cost
    have hP1 := hP.2.2.1
    have hP2 := hP.2.2.2.1
    ((conv => whnf) <;> repeat (refine obl_ ?_; conv => whnf))
    refine cond_ (fun hq => ?_) (fun hq => ?_)
    · have hq' : wr ((s.pa.getD (findS 2 m.ref s.pa).toNat zPa).qty - (s.pa.getD (findS 2 m.ref s.pa).toNat zPa).used) < m.qty := of_decide_eq_true hq
      rw [moveS_3b h' hf' rfl hq']
      ((conv => whnf) <;> repeat (refine obl_ ?_; conv => whnf))
      refine ⟨(), trivial, [], ?_⟩
      (refine ⟨?_, ?_, ?_, by kernel_rfl⟩ <;> repeat' (first | exact trivial | exact rfl | assumption | apply And.intro))
    · have hq' : ¬ wr ((s.pa.getD (findS 2 m.ref s.pa).toNat zPa).qty - (s.pa.getD (findS 2 m.ref s.pa).toNat zPa).used) < m.qty := of_decide_eq_false hq
      ((conv => whnf) <;> repeat (refine obl_ ?_; conv => whnf))
      refine InlP.intro (X' := ⟨tab, CF, 4000, 60⟩) (cf_at hL hg) mixed_ok Tryd.func39 (by kernel_rfl) rfl rfl (le_of_ble (by kernel_rfl)) (by kernel_rfl) ?_
      ((conv => whnf) <;> repeat (refine obl_ ?_; conv => whnf))
      have hlot := pB2_lot hz2 m.qty (partS (wr ((s.pa.getD (findS 2 m.ref s.pa).toNat zPa).value - (s.pa.getD (findS 2 m.ref s.pa).toNat zPa).uval)) m.qty (wr ((s.pa.getD (findS 2 m.ref s.pa).toNat zPa).qty - (s.pa.getD (findS 2 m.ref s.pa).toNat zPa).used)))
      show InlP _ _ _ _ _ [.one (.ptr 1006 0), .one (.v (.string ((pB2 s.pa (findS 2 m.ref s.pa).toNat m.qty (partS (wr ((s.pa.getD (findS 2 m.ref s.pa).toNat zPa).value - (s.pa.getD (findS 2 m.ref s.pa).toNat zPa).uval)) m.qty (wr ((s.pa.getD (findS 2 m.ref s.pa).toNat zPa).qty - (s.pa.getD (findS 2 m.ref s.pa).toNat zPa).used)))).getD (findS 2 m.ref s.pa).toNat zPa).lot)), .one (.v (.int .i64 m.qty)), .one (.v (.int .i64 (partS (wr ((s.pa.getD (findS 2 m.ref s.pa).toNat zPa).value - (s.pa.getD (findS 2 m.ref s.pa).toNat zPa).uval)) m.qty (wr ((s.pa.getD (findS 2 m.ref s.pa).toNat zPa).qty - (s.pa.getD (findS 2 m.ref s.pa).toNat zPa).used)))))] _ _
      rw [hlot]
      refine InlP.weak (ι := Unit) (fun _ => ⟨[(8, .one (.v (.int .i64 (partS (wr ((s.pa.getD (findS 2 m.ref s.pa).toNat zPa).value - (s.pa.getD (findS 2 m.ref s.pa).toNat zPa).uval)) m.qty (wr ((s.pa.getD (findS 2 m.ref s.pa).toNat zPa).qty - (s.pa.getD (findS 2 m.ref s.pa).toNat zPa).used)))))), (7, .one (.v (.int .i64 0))), (6, .one (.ptr 4006 0)), (4, .one (.ptr 4004 0)), (0, .one (.ptr 1006 0))], ((4006, 28, zCo) :: (4004, 33, mvL m) :: (3006, 28, zCo) :: (2004, 28, zCo) :: (2003, 33, mvL m) :: (2002, 53, [.ptr 1006 0]) :: BLk 5900 1901 s m), [(1900, none), (5900, some ⟨.la, addS s.la (s.pa.getD (findS 2 m.ref s.pa).toNat zPa).lot m.qty (partS (wr ((s.pa.getD (findS 2 m.ref s.pa).toNat zPa).value - (s.pa.getD (findS 2 m.ref s.pa).toNat zPa).uval)) m.qty (wr ((s.pa.getD (findS 2 m.ref s.pa).toNat zPa).qty - (s.pa.getD (findS 2 m.ref s.pa).toNat zPa).used))), true⟩), (1901, some ⟨.pa, pB2 s.pa (findS 2 m.ref s.pa).toNat m.qty (partS (wr ((s.pa.getD (findS 2 m.ref s.pa).toNat zPa).value - (s.pa.getD (findS 2 m.ref s.pa).toNat zPa).uval)) m.qty (wr ((s.pa.getD (findS 2 m.ref s.pa).toNat zPa).qty - (s.pa.getD (findS 2 m.ref s.pa).toNat zPa).used))), true⟩)]⟩) (fun _ => True) ?_ (fun _ _ => ?_)
      · obtain ⟨a1, a2⟩ := at_le (s.pa.getD (findS 2 m.ref s.pa).toNat zPa).lot s.la
        refine InlP.intro (X' := ⟨tab, CF, 6000, 81⟩) (cf_at hL hg) mixed_ok Tryd.func59 (by kernel_rfl) rfl rfl (le_of_ble (by kernel_rfl)) (by kernel_rfl) ?_
        ((conv => whnf) <;> repeat (refine obl_ ?_; conv => whnf))
        refine cond_ (fun ho => ?_) (fun ho => ?_)
        · have ho' : okL' (s.pa.getD (findS 2 m.ref s.pa).toNat zPa).lot s.la = false := by
            have : (!okL' (s.pa.getD (findS 2 m.ref s.pa).toNat zPa).lot s.la) = true := ho
            simpa using this
          obtain ⟨w1, o1, o2, o3, o4, o6, o7⟩ := add_facts a1 n1
          ((conv => whnf) <;> repeat (refine obl_ ?_; conv => whnf))
          refine ⟨(), trivial, [(5900, some 6026)], ?_⟩
          (refine ⟨?_, ?_, ?_, by kernel_rfl⟩ <;> repeat' (first | exact trivial | exact rfl | assumption | apply And.intro))
          exact add_new a1 w1 ho' (m.qty) ((partS (wr ((s.pa.getD (findS 2 m.ref s.pa).toNat zPa).value - (s.pa.getD (findS 2 m.ref s.pa).toNat zPa).uval)) m.qty (wr ((s.pa.getD (findS 2 m.ref s.pa).toNat zPa).qty - (s.pa.getD (findS 2 m.ref s.pa).toNat zPa).used))))
        · have ho' : okL' (s.pa.getD (findS 2 m.ref s.pa).toNat zPa).lot s.la = true := by
            have : (!okL' (s.pa.getD (findS 2 m.ref s.pa).toNat zPa).lot s.la) = false := ho
            simpa using this
          have a3 := a2 ho'
          obtain ⟨o3, o5⟩ := old_facts a3
          ((conv => whnf) <;> repeat (refine obl_ ?_; conv => whnf))
          refine ⟨(), trivial, [(5900, some 1900)], ?_⟩
          (refine ⟨?_, ?_, ?_, by kernel_rfl⟩ <;> repeat' (first | exact trivial | exact rfl | assumption | apply And.intro))
          exact add_old a3 ho' (m.qty) ((partS (wr ((s.pa.getD (findS 2 m.ref s.pa).toNat zPa).value - (s.pa.getD (findS 2 m.ref s.pa).toNat zPa).uval)) m.qty (wr ((s.pa.getD (findS 2 m.ref s.pa).toNat zPa).qty - (s.pa.getD (findS 2 m.ref s.pa).toNat zPa).used))))
      · ((conv => whnf) <;> repeat (refine obl_ ?_; conv => whnf))
        rw [moveS_3 h' hf' rfl hq', ← pB2_eq hz2]
        refine ⟨(), trivial, [(1900, some 5900)], ?_⟩
        (refine ⟨?_, ?_, ?_, by kernel_rfl⟩ <;> repeat' (first | exact trivial | exact rfl | assumption | apply And.intro))
end Go.Proofs.YtcjdkaigimcofaaDoor.Ff

/- lots: landed costs. No condition but 64 bits. -/
namespace Go.Proofs.YtcjdkaigimcofaaDoor.Ff
open Go.RowKit Go.Proofs.YtcjdkaigimcofaaDoorW.PrintWords Go.Proofs.YtcjdkaigimcofaaDoor.Ex
set_option linter.unusedVariables false
set_option linter.unusedSimpArgs false
set_option maxRecDepth 100000
theorem minS_i {a b : Int} (h : I64 a) (k : I64 b) : I64 (minS a b) := by
  unfold minS
  split
  · exact k
  · exact h
theorem qtyL_i {la : List La} (h : ∀ x ∈ la, LaI x) (lot : ByteArray) : I64 (qtyL lot la) := by
  unfold qtyL
  split
  · exact (getD_all h _ zLa_i).2.1
  · exact i64_0
set_option maxHeartbeats 1000000 in
theorem land_inl {g : G} (hL : Laid g.W0) (hg : ∀ i, ¬ g.S i) {s : St} {m : Mv} {tm : List (Nat × AV)} (hs : StI s) (hm : MvI m) (n1 : s.la.length < 400000000) (n2 : s.pa.length < 1000000000) (t7 : Ex.look tm 7 = .one (.ptr 1006 0)) (t5 : Ex.look tm 5 = .one (.ptr 15 0)) (t4 : Ex.look tm 4 = .one (.ptr 14 0)) (t3 : Ex.look tm 3 = .one (.ptr 13 0)) (h' : m.kind = 5) :
    InlP Tryd.prog g (cx CF 71) (some 28) 22 [.one (.ptr 1006 0), .agg (mvL m)] ⟨tm, BLo s m, RWo s⟩ (fun A1 => ∃ i : Unit, True ∧ ∃ σ, LeR (cx CF 71).base σ A1 (IT s m (moveS true s m))) := by
  have l1 : s.la.length ≤ 1000000000 := by omega
  have l2 : s.pa.length ≤ 1000000000 := by omega
  have k0 := h'
  refine InlP.intro (X' := ⟨tab, CF, 2000, 49⟩) (cf_at hL hg) mixed_ok Tryd.func22 (by kernel_rfl) rfl rfl (le_of_ble (by kernel_rfl)) (by kernel_rfl) ?_
  ((conv => whnf) <;> repeat (refine obl_ ?_; conv => whnf))
  refine cond_ (fun h => absurd (k0.symm.trans (beq_iff_eq.1 h)) (by decide)) (fun _ => ?_)
  ((conv => whnf) <;> repeat (refine obl_ ?_; conv => whnf))
  refine cond_ (fun h => absurd (k0.symm.trans (beq_iff_eq.1 h)) (by decide)) (fun _ => ?_)
  ((conv => whnf) <;> repeat (refine obl_ ?_; conv => whnf))
  refine cond_ (fun h => absurd (k0.symm.trans (beq_iff_eq.1 h)) (by decide)) (fun _ => ?_)
  ((conv => whnf) <;> repeat (refine obl_ ?_; conv => whnf))
  refine cond_ (fun h => absurd (k0.symm.trans (beq_iff_eq.1 h)) (by decide)) (fun _ => ?_)
  ((conv => whnf) <;> repeat (refine obl_ ?_; conv => whnf))
  refine cond_ (fun _ => ?_) (fun h => (beq_ne h k0).elim)
  ((conv => whnf) <;> repeat (refine obl_ ?_; conv => whnf))
  have e2 := pastS_find (kind := 1) (seq := m.ref) (by decide) s.pa
  refine InlP.intro (X' := ⟨tab, CF, 3000, 38⟩) (cf_at hL hg) mixed_ok Tryd.func36 (by kernel_rfl) rfl rfl (le_of_ble (by kernel_rfl)) (by kernel_rfl) ?_
  ((conv => whnf) <;> repeat (refine obl_ ?_; conv => whnf))
  refine pastd_inl hL hg n2 (by kernel_rfl) (fun hf => ?_) (fun y0 y1 hq => ?_)
  · rw [moveS_5a h' (by rw [← e2]; exact hf)]
    ((conv => whnf) <;> repeat (refine obl_ ?_; conv => whnf))
    refine ⟨(), trivial, [], ?_⟩
    (refine ⟨?_, ?_, ?_, by kernel_rfl⟩ <;> repeat' (first | exact trivial | exact rfl | assumption | apply And.intro))
  · rw [e2] at y0 y1 hq ⊢
    clear hq
    have hf' : ¬ (findS 1 m.ref s.pa) < 0 := by omega
    obtain ⟨hz0, hz1, hz2⟩ := find_lt hf'
    have hP := hs.pa _ (getD_mem zPa hz2)
    have hqty := hm.qty
    have hcost := hm.cost
    have hP1 := hP.2.2.1
    have hP2 := hP.2.2.2.1
    ((conv => whnf) <;> repeat (refine obl_ ?_; conv => whnf))
    refine cond_ (fun hq => ?_) (fun hq => ?_)
    · have hq' : wr ((s.pa.getD (findS 1 m.ref s.pa).toNat zPa).qty - (s.pa.getD (findS 1 m.ref s.pa).toNat zPa).used) < m.qty := of_decide_eq_true hq
      rw [moveS_5b h' hf' rfl ⟨rfl, hq'⟩]
      ((conv => whnf) <;> repeat (refine obl_ ?_; conv => whnf))
      refine ⟨(), trivial, [], ?_⟩
      (refine ⟨?_, ?_, ?_, by kernel_rfl⟩ <;> repeat' (first | exact trivial | exact rfl | assumption | apply And.intro))
    · have hq' : ¬ wr ((s.pa.getD (findS 1 m.ref s.pa).toNat zPa).qty - (s.pa.getD (findS 1 m.ref s.pa).toNat zPa).used) < m.qty := of_decide_eq_false hq
      have hmin : I64 (minS (s.pa.getD (findS 1 m.ref s.pa).toNat zPa).qty (qtyL (s.pa.getD (findS 1 m.ref s.pa).toNat zPa).lot s.la)) := minS_i hP1 (qtyL_i hs.la _)
      ((conv => whnf) <;> repeat (refine obl_ ?_; conv => whnf))
      refine InlP.intro (X' := ⟨tab, CF, 4000, 47⟩) (cf_at hL hg) mixed_ok Tryd.func41 (by kernel_rfl) rfl rfl (le_of_ble (by kernel_rfl)) (by kernel_rfl) ?_
      ((conv => whnf) <;> repeat (refine obl_ ?_; conv => whnf))
      refine cond_ (fun h0 => ?_) (fun h0 => ?_)
      · have h0' : (minS (s.pa.getD (findS 1 m.ref s.pa).toNat zPa).qty (qtyL (s.pa.getD (findS 1 m.ref s.pa).toNat zPa).lot s.la)) = 0 := beq_iff_eq.1 h0
        rw [moveS_5c h' hf' rfl (fun e => hq' e.2) h0']
        ((conv => whnf) <;> repeat (refine obl_ ?_; conv => whnf))
        refine ⟨(), trivial, [], ?_⟩
        (refine ⟨?_, ?_, ?_, by kernel_rfl⟩ <;> repeat' (first | exact trivial | exact rfl | assumption | apply And.intro))
      · have h0' : ¬ (minS (s.pa.getD (findS 1 m.ref s.pa).toNat zPa).qty (qtyL (s.pa.getD (findS 1 m.ref s.pa).toNat zPa).lot s.la)) = 0 := fun e => beq_ne h0 e
        ((conv => whnf) <;> repeat (refine obl_ ?_; conv => whnf))
        show InlP _ _ _ _ _ [.one (.ptr 1006 0), .one (.v (.string (s.pa.getD (findS 1 m.ref s.pa).toNat zPa).lot)), .one (.v (.int .i64 0)), .one (.v (.int .i64 (partS m.cost (minS (s.pa.getD (findS 1 m.ref s.pa).toNat zPa).qty (qtyL (s.pa.getD (findS 1 m.ref s.pa).toNat zPa).lot s.la)) (s.pa.getD (findS 1 m.ref s.pa).toNat zPa).qty)))] _ _
        refine InlP.weak (ι := Unit) (fun _ => ⟨[(9, .one (.v (.int .i64 (partS m.cost (minS (s.pa.getD (findS 1 m.ref s.pa).toNat zPa).qty (qtyL (s.pa.getD (findS 1 m.ref s.pa).toNat zPa).lot s.la)) (s.pa.getD (findS 1 m.ref s.pa).toNat zPa).qty)))), (7, .one (.v (.int .i64 0))), (6, .one (.ptr 4006 0)), (4, .one (.ptr 4004 0)), (0, .one (.ptr 1006 0))], ((4006, 28, zCo) :: (4004, 33, mvL m) :: (3006, 28, zCo) :: (2004, 28, zCo) :: (2003, 33, mvL m) :: (2002, 53, [.ptr 1006 0]) :: BLk 5900 1901 s m), [(1900, none), (5900, some ⟨.la, addS s.la (s.pa.getD (findS 1 m.ref s.pa).toNat zPa).lot 0 (partS m.cost (minS (s.pa.getD (findS 1 m.ref s.pa).toNat zPa).qty (qtyL (s.pa.getD (findS 1 m.ref s.pa).toNat zPa).lot s.la)) (s.pa.getD (findS 1 m.ref s.pa).toNat zPa).qty), true⟩), (1901, some ⟨.pa, s.pa, true⟩)]⟩) (fun _ => True) ?_ (fun _ _ => ?_)
        · obtain ⟨a1, a2⟩ := at_le (s.pa.getD (findS 1 m.ref s.pa).toNat zPa).lot s.la
          refine InlP.intro (X' := ⟨tab, CF, 6000, 81⟩) (cf_at hL hg) mixed_ok Tryd.func59 (by kernel_rfl) rfl rfl (le_of_ble (by kernel_rfl)) (by kernel_rfl) ?_
          ((conv => whnf) <;> repeat (refine obl_ ?_; conv => whnf))
          refine cond_ (fun ho => ?_) (fun ho => ?_)
          · have ho' : okL' (s.pa.getD (findS 1 m.ref s.pa).toNat zPa).lot s.la = false := by
              have : (!okL' (s.pa.getD (findS 1 m.ref s.pa).toNat zPa).lot s.la) = true := ho
              simpa using this
            obtain ⟨w1, o1, o2, o3, o4, o6, o7⟩ := add_facts a1 n1
            ((conv => whnf) <;> repeat (refine obl_ ?_; conv => whnf))
            refine ⟨(), trivial, [(5900, some 6026)], ?_⟩
            (refine ⟨?_, ?_, ?_, by kernel_rfl⟩ <;> repeat' (first | exact trivial | exact rfl | assumption | apply And.intro))
            exact add_new a1 w1 ho' (0) ((partS m.cost (minS (s.pa.getD (findS 1 m.ref s.pa).toNat zPa).qty (qtyL (s.pa.getD (findS 1 m.ref s.pa).toNat zPa).lot s.la)) (s.pa.getD (findS 1 m.ref s.pa).toNat zPa).qty))
          · have ho' : okL' (s.pa.getD (findS 1 m.ref s.pa).toNat zPa).lot s.la = true := by
              have : (!okL' (s.pa.getD (findS 1 m.ref s.pa).toNat zPa).lot s.la) = false := ho
              simpa using this
            have a3 := a2 ho'
            obtain ⟨o3, o5⟩ := old_facts a3
            ((conv => whnf) <;> repeat (refine obl_ ?_; conv => whnf))
            refine ⟨(), trivial, [(5900, some 1900)], ?_⟩
            (refine ⟨?_, ?_, ?_, by kernel_rfl⟩ <;> repeat' (first | exact trivial | exact rfl | assumption | apply And.intro))
            exact add_old a3 ho' (0) ((partS m.cost (minS (s.pa.getD (findS 1 m.ref s.pa).toNat zPa).qty (qtyL (s.pa.getD (findS 1 m.ref s.pa).toNat zPa).lot s.la)) (s.pa.getD (findS 1 m.ref s.pa).toNat zPa).qty))
        · ((conv => whnf) <;> repeat (refine obl_ ?_; conv => whnf))
          rw [moveS_5 h' hf' rfl (fun e => hq' e.2) h0']
          refine ⟨(), trivial, [(1900, some 5900)], ?_⟩
          (refine ⟨?_, ?_, ?_, by kernel_rfl⟩ <;> repeat' (first | exact trivial | exact rfl | assumption | apply And.intro))
end Go.Proofs.YtcjdkaigimcofaaDoor.Ff

/- lots: an issue. No condition but 64 bits. -/
namespace Go.Proofs.YtcjdkaigimcofaaDoor.Ff
open Go.RowKit Go.Proofs.YtcjdkaigimcofaaDoorW.PrintWords Go.Proofs.YtcjdkaigimcofaaDoor.Ex
set_option linter.unusedVariables false
set_option linter.unusedSimpArgs false
set_option maxRecDepth 100000
theorem take_facts {la : List La} {n : Nat} (h : n < la.length) (hl : la.length < 400000000) : 0 ≤ (n : Int) ∧ (n : Int) < (la.length : Int) ∧ n < la.length ∧ wr ((n : Int) + 1) = (n : Int) + 1 ∧ 0 ≤ wr ((n : Int) + 1) ∧ wr ((n : Int) + 1) ≤ (la.length : Int) ∧ (n : Int) ≤ (la.length : Int) := by
  have w1 : wr ((n : Int) + 1) = (n : Int) + 1 := wrap_id (by omega) (by omega)
  exact ⟨by omega, by omega, h, w1, by omega, by omega, by omega⟩
set_option maxHeartbeats 1000000 in
theorem issue_inl {g : G} (hL : Laid g.W0) (hg : ∀ i, ¬ g.S i) {s : St} {m : Mv} {tm : List (Nat × AV)} (hs : StI s) (hm : MvI m) (n1 : s.la.length < 400000000) (n2 : s.pa.length < 1000000000) (t7 : Ex.look tm 7 = .one (.ptr 1006 0)) (t5 : Ex.look tm 5 = .one (.ptr 15 0)) (t4 : Ex.look tm 4 = .one (.ptr 14 0)) (t3 : Ex.look tm 3 = .one (.ptr 13 0)) (h' : m.kind = 2) :
    InlP Tryd.prog g (cx CF 71) (some 28) 22 [.one (.ptr 1006 0), .agg (mvL m)] ⟨tm, BLo s m, RWo s⟩ (fun A1 => ∃ i : Unit, True ∧ ∃ σ, LeR (cx CF 71).base σ A1 (IT s m (moveS true s m))) := by
  have l1 : s.la.length ≤ 1000000000 := by omega
  have l2 : s.pa.length ≤ 1000000000 := by omega
  have k0 := h'
  refine InlP.intro (X' := ⟨tab, CF, 2000, 49⟩) (cf_at hL hg) mixed_ok Tryd.func22 (by kernel_rfl) rfl rfl (le_of_ble (by kernel_rfl)) (by kernel_rfl) ?_
  ((conv => whnf) <;> repeat (refine obl_ ?_; conv => whnf))
  refine cond_ (fun h => absurd (k0.symm.trans (beq_iff_eq.1 h)) (by decide)) (fun _ => ?_)
  ((conv => whnf) <;> repeat (refine obl_ ?_; conv => whnf))
  refine cond_ (fun _ => ?_) (fun h => (beq_ne h k0).elim)
  ((conv => whnf) <;> repeat (refine obl_ ?_; conv => whnf))
  have hqty := hm.qty
  refine InlP.intro (X' := ⟨tab, CF, 3000, 50⟩) (cf_at hL hg) mixed_ok Tryd.func38 (by kernel_rfl) rfl rfl (le_of_ble (by kernel_rfl)) (by kernel_rfl) ?_
  ((conv => whnf) <;> repeat (refine obl_ ?_; conv => whnf))
  refine cond_ (fun ho => ?_) (fun ho => ?_)
  · have ho' : okL' m.lot s.la = false := by
      have : (!okL' m.lot s.la) = true := ho
      simpa using this
    rw [moveS_2e h' (.inl ho')]
    ((conv => whnf) <;> repeat (refine obl_ ?_; conv => whnf))
    refine ⟨(), trivial, [], ?_⟩
    (refine ⟨?_, ?_, ?_, by kernel_rfl⟩ <;> repeat' (first | exact trivial | exact rfl | assumption | apply And.intro))
  have ho' : okL' m.lot s.la = true := by
    have : (!okL' m.lot s.la) = false := ho
    simpa using this
  have a3 := (at_le m.lot s.la).2 ho'
  ((conv => whnf) <;> repeat (refine obl_ ?_; conv => whnf))
  refine cond_ (fun hn => ?_) (fun hn => ?_)
  · rw [moveS_2e h' (.inr hn)]
    ((conv => whnf) <;> repeat (refine obl_ ?_; conv => whnf))
    refine ⟨(), trivial, [], ?_⟩
    (refine ⟨?_, ?_, ?_, by kernel_rfl⟩ <;> repeat' (first | exact trivial | exact rfl | assumption | apply And.intro))
  have hn' : ¬ (okL' m.lot s.la = false ∨ noLot m.lot = true) := by
    rintro (e | e)
    · rw [ho'] at e
      cases e
    · rw [show strEq m.lot ⟨#[]⟩ = true from e] at hn
      cases hn
  ((conv => whnf) <;> repeat (refine obl_ ?_; conv => whnf))
  refine cond_ (fun hlt => ?_) (fun hlt => ?_)
  · rw [moveS_2f h' hn' (of_decide_eq_true hlt)]
    ((conv => whnf) <;> repeat (refine obl_ ?_; conv => whnf))
    refine ⟨(), trivial, [], ?_⟩
    (refine ⟨?_, ?_, ?_, by kernel_rfl⟩ <;> repeat' (first | exact trivial | exact rfl | assumption | apply And.intro))
  rw [moveS_2 h' hn' (of_decide_eq_false hlt)]
  ((conv => whnf) <;> repeat (refine obl_ ?_; conv => whnf))
  refine InlP.weak (ι := Unit) (fun _ => ⟨[(39, .one (.v (.int .i64 (takeS s.la (atL m.lot s.la) m.qty).2))), (5, .one (.v (.int .i64 0))), (4, .one (.ptr 3004 0)), (3, .one (.ptr 3003 0)), (0, .one (.ptr 1006 0))], ((3004, 28, zCo) :: (3003, 33, mvL m) :: (2004, 28, zCo) :: (2003, 33, mvL m) :: (2002, 53, [.ptr 1006 0]) :: BLk 3900 1901 s m), [(1900, none), (3900, some ⟨.la, (takeS s.la (atL m.lot s.la) m.qty).1, true⟩), (1901, some ⟨.pa, s.pa, true⟩)]⟩) (fun _ => True) ?_ (fun _ _ => ?_)
  · obtain ⟨hy0, hy1, hy2, hw, hw1, hw2, hy3⟩ := take_facts a3 n1
    have hX := hs.la _ (getD_mem zLa a3)
    have hX1 := hX.2.1
    have hX2 := hX.2.2
    refine InlP.intro (X' := ⟨tab, CF, 4000, 76⟩) (cf_at hL hg) mixed_ok Tryd.func63 (by kernel_rfl) rfl rfl (le_of_ble (by kernel_rfl)) (by kernel_rfl) ?_
    ((conv => whnf) <;> repeat (refine obl_ ?_; conv => whnf))
    refine cond_ (fun hz => ?_) (fun hz => ?_)
    · have hz' : wr ((s.la.getD (atL m.lot s.la) zLa).qty - m.qty) = 0 := (take_q a3 _ _).symm.trans (beq_iff_eq.1 hz)
      rw [takeS_1 ((wr0 hX1 hqty).1 hz')]
      ((conv => whnf) <;> repeat (refine obl_ ?_; conv => whnf))
      refine ⟨(), trivial, [(3900, some 4071)], ?_⟩
      (refine ⟨?_, ?_, ?_, by kernel_rfl⟩ <;> repeat' (first | exact trivial | exact rfl | assumption | apply And.intro))
      exact take_rm2 hy0 hy1 (by omega) _ _
    · have hz' : ¬ (s.la.getD (atL m.lot s.la) zLa).qty = m.qty := fun e => beq_ne hz ((take_q a3 _ _).trans ((wr0 hX1 hqty).2 e))
      rw [takeS_2 hz']
      ((conv => whnf) <;> repeat (refine obl_ ?_; conv => whnf))
      refine ⟨(), trivial, [(3900, some 1900)], ?_⟩
      (refine ⟨?_, ?_, ?_, by kernel_rfl⟩ <;> repeat' (first | exact trivial | exact rfl | assumption | apply And.intro))
      exact take_up2 a3 _ _
  · ((conv => whnf) <;> repeat (refine obl_ ?_; conv => whnf))
    refine InlP.intro (X' := ⟨tab, CF, 5000, 27⟩) (cf_at hL hg) mixed_ok Tryd.func60 (by kernel_rfl) rfl rfl (le_of_ble (by kernel_rfl)) (by kernel_rfl) ?_
    ((conv => whnf) <;> repeat (refine obl_ ?_; conv => whnf))
    refine ⟨(), trivial, [(1900, some 3900), (1901, some 5023)], ?_⟩
    (refine ⟨?_, ?_, ?_, by kernel_rfl⟩ <;> repeat' (first | exact trivial | exact rfl | assumption | apply And.intro))
end Go.Proofs.YtcjdkaigimcofaaDoor.Ff

/- lots: a return to the supplier; a movement of no kind. No condition but 64 bits. -/
namespace Go.Proofs.YtcjdkaigimcofaaDoor.Ff
open Go.RowKit Go.Proofs.YtcjdkaigimcofaaDoorW.PrintWords Go.Proofs.YtcjdkaigimcofaaDoor.Ex
set_option linter.unusedVariables false
set_option linter.unusedSimpArgs false
set_option maxRecDepth 100000
set_option maxHeartbeats 1000000 in
theorem send_inl {g : G} (hL : Laid g.W0) (hg : ∀ i, ¬ g.S i) {s : St} {m : Mv} {tm : List (Nat × AV)} (hs : StI s) (hm : MvI m) (n1 : s.la.length < 400000000) (n2 : s.pa.length < 1000000000) (t7 : Ex.look tm 7 = .one (.ptr 1006 0)) (t5 : Ex.look tm 5 = .one (.ptr 15 0)) (t4 : Ex.look tm 4 = .one (.ptr 14 0)) (t3 : Ex.look tm 3 = .one (.ptr 13 0)) (h' : m.kind = 4) (hpos : 0 < m.qty) :
    InlP Tryd.prog g (cx CF 71) (some 28) 22 [.one (.ptr 1006 0), .agg (mvL m)] ⟨tm, BLo s m, RWo s⟩ (fun A1 => ∃ i : Unit, True ∧ ∃ σ, LeR (cx CF 71).base σ A1 (IT s m (moveS true s m))) := by
  have l1 : s.la.length ≤ 1000000000 := by omega
  have l2 : s.pa.length ≤ 1000000000 := by omega
  have k0 := h'
  refine InlP.intro (X' := ⟨tab, CF, 2000, 49⟩) (cf_at hL hg) mixed_ok Tryd.func22 (by kernel_rfl) rfl rfl (le_of_ble (by kernel_rfl)) (by kernel_rfl) ?_
  ((conv => whnf) <;> repeat (refine obl_ ?_; conv => whnf))
  refine cond_ (fun h => absurd (k0.symm.trans (beq_iff_eq.1 h)) (by decide)) (fun _ => ?_)
  ((conv => whnf) <;> repeat (refine obl_ ?_; conv => whnf))
  refine cond_ (fun h => absurd (k0.symm.trans (beq_iff_eq.1 h)) (by decide)) (fun _ => ?_)
  ((conv => whnf) <;> repeat (refine obl_ ?_; conv => whnf))
  refine cond_ (fun h => absurd (k0.symm.trans (beq_iff_eq.1 h)) (by decide)) (fun _ => ?_)
  ((conv => whnf) <;> repeat (refine obl_ ?_; conv => whnf))
  refine cond_ (fun _ => ?_) (fun h => (beq_ne h k0).elim)
  ((conv => whnf) <;> repeat (refine obl_ ?_; conv => whnf))
  have e2 := pastS_find (kind := 1) (seq := m.ref) (by decide) s.pa
  refine InlP.intro (X' := ⟨tab, CF, 3000, 38⟩) (cf_at hL hg) mixed_ok Tryd.func36 (by kernel_rfl) rfl rfl (le_of_ble (by kernel_rfl)) (by kernel_rfl) ?_
  ((conv => whnf) <;> repeat (refine obl_ ?_; conv => whnf))
  refine pastd_inl hL hg n2 (by kernel_rfl) (fun hf => ?_) (fun y0 y1 hq => ?_)
  · rw [moveS_4a h' (by rw [← e2]; exact hf)]
    ((conv => whnf) <;> repeat (refine obl_ ?_; conv => whnf))
    refine ⟨(), trivial, [], ?_⟩
    (refine ⟨?_, ?_, ?_, by kernel_rfl⟩ <;> repeat' (first | exact trivial | exact rfl | assumption | apply And.intro))
  · rw [e2] at y0 y1 hq ⊢
    clear hq
    have hf' : ¬ (findS 1 m.ref s.pa) < 0 := by omega
    obtain ⟨hz0, hz1, hz2⟩ := find_lt hf'
    have hP := hs.pa _ (getD_mem zPa hz2)
    have hqty := hm.qty
    have hcost := hm.cost
    have hP1 := hP.2.2.1
    have hP2 := hP.2.2.2.1
    ((conv => whnf) <;> repeat (refine obl_ ?_; conv => whnf))
    refine cond_ (fun hq => ?_) (fun hq => ?_)
    · have hq' : wr ((s.pa.getD (findS 1 m.ref s.pa).toNat zPa).qty - (s.pa.getD (findS 1 m.ref s.pa).toNat zPa).used) < m.qty := of_decide_eq_true hq
      rw [moveS_4b h' hf' rfl hq']
      ((conv => whnf) <;> repeat (refine obl_ ?_; conv => whnf))
      refine ⟨(), trivial, [], ?_⟩
      (refine ⟨?_, ?_, ?_, by kernel_rfl⟩ <;> repeat' (first | exact trivial | exact rfl | assumption | apply And.intro))
    · have hq' : ¬ wr ((s.pa.getD (findS 1 m.ref s.pa).toNat zPa).qty - (s.pa.getD (findS 1 m.ref s.pa).toNat zPa).used) < m.qty := of_decide_eq_false hq
      ((conv => whnf) <;> repeat (refine obl_ ?_; conv => whnf))
      refine InlP.intro (X' := ⟨tab, CF, 4000, 46⟩) (cf_at hL hg) mixed_ok Tryd.func40 (by kernel_rfl) rfl rfl (le_of_ble (by kernel_rfl)) (by kernel_rfl) ?_
      ((conv => whnf) <;> repeat (refine obl_ ?_; conv => whnf))
      refine cond_ (fun hlt => ?_) (fun hlt => ?_)
      · have hlt' : qtyL (s.pa.getD (findS 1 m.ref s.pa).toNat zPa).lot s.la < m.qty := of_decide_eq_true hlt
        rw [moveS_4c h' hf' rfl hq' hlt']
        ((conv => whnf) <;> repeat (refine obl_ ?_; conv => whnf))
        refine ⟨(), trivial, [], ?_⟩
        (refine ⟨?_, ?_, ?_, by kernel_rfl⟩ <;> repeat' (first | exact trivial | exact rfl | assumption | apply And.intro))
      have hlt' : ¬ qtyL (s.pa.getD (findS 1 m.ref s.pa).toNat zPa).lot s.la < m.qty := of_decide_eq_false hlt
      have ho' : okL' (s.pa.getD (findS 1 m.ref s.pa).toNat zPa).lot s.la = true := by
        by_cases e : okL' (s.pa.getD (findS 1 m.ref s.pa).toNat zPa).lot s.la = true
        · exact e
        · exfalso
          apply hlt'
          unfold qtyL
          rw [if_neg e]
          exact hpos
      have a3 := (at_le (s.pa.getD (findS 1 m.ref s.pa).toNat zPa).lot s.la).2 ho'
      have hlot := pB1_lot hz2 m.qty
      ((conv => whnf) <;> repeat (refine obl_ ?_; conv => whnf))
      show InlP _ _ _ _ _ [.one (.ptr 1006 0), .one (.v (.string ((pB1 s.pa (findS 1 m.ref s.pa).toNat m.qty).getD (findS 1 m.ref s.pa).toNat zPa).lot)), .one (.v (.int .i64 m.qty))] _ _
      rw [hlot]
      refine InlP.weak (ι := Unit) (fun _ => ⟨[(35, .one (.v (.int .i64 (takeS s.la (atL (s.pa.getD (findS 1 m.ref s.pa).toNat zPa).lot s.la) m.qty).2))), (7, .one (.v (.int .i64 0))), (6, .one (.ptr 4006 0)), (4, .one (.ptr 4004 0)), (0, .one (.ptr 1006 0))], ((4006, 28, zCo) :: (4004, 33, mvL m) :: (3006, 28, zCo) :: (2004, 28, zCo) :: (2003, 33, mvL m) :: (2002, 53, [.ptr 1006 0]) :: BLk 5900 1901 s m), [(1900, none), (5900, some ⟨.la, (takeS s.la (atL (s.pa.getD (findS 1 m.ref s.pa).toNat zPa).lot s.la) m.qty).1, true⟩), (1901, some ⟨.pa, pB1 s.pa (findS 1 m.ref s.pa).toNat m.qty, true⟩)]⟩) (fun _ => True) ?_ (fun _ _ => ?_)
      · obtain ⟨hy0, hy1, hy2, hw, hw1, hw2, hy3⟩ := take_facts a3 n1
        have hX := hs.la _ (getD_mem zLa a3)
        have hX1 := hX.2.1
        have hX2 := hX.2.2
        refine InlP.intro (X' := ⟨tab, CF, 6000, 76⟩) (cf_at hL hg) mixed_ok Tryd.func63 (by kernel_rfl) rfl rfl (le_of_ble (by kernel_rfl)) (by kernel_rfl) ?_
        ((conv => whnf) <;> repeat (refine obl_ ?_; conv => whnf))
        refine cond_ (fun hz => ?_) (fun hz => ?_)
        · have hz' : wr ((s.la.getD (atL (s.pa.getD (findS 1 m.ref s.pa).toNat zPa).lot s.la) zLa).qty - m.qty) = 0 := (take_q a3 _ _).symm.trans (beq_iff_eq.1 hz)
          rw [takeS_1 ((wr0 hX1 hqty).1 hz')]
          ((conv => whnf) <;> repeat (refine obl_ ?_; conv => whnf))
          refine ⟨(), trivial, [(5900, some 6071)], ?_⟩
          (refine ⟨?_, ?_, ?_, by kernel_rfl⟩ <;> repeat' (first | exact trivial | exact rfl | assumption | apply And.intro))
          exact take_rm2 hy0 hy1 (by omega) _ _
        · have hz' : ¬ (s.la.getD (atL (s.pa.getD (findS 1 m.ref s.pa).toNat zPa).lot s.la) zLa).qty = m.qty := fun e => beq_ne hz ((take_q a3 _ _).trans ((wr0 hX1 hqty).2 e))
          rw [takeS_2 hz']
          ((conv => whnf) <;> repeat (refine obl_ ?_; conv => whnf))
          refine ⟨(), trivial, [(5900, some 1900)], ?_⟩
          (refine ⟨?_, ?_, ?_, by kernel_rfl⟩ <;> repeat' (first | exact trivial | exact rfl | assumption | apply And.intro))
          exact take_up2 a3 _ _
      · ((conv => whnf) <;> repeat (refine obl_ ?_; conv => whnf))
        rw [moveS_4 h' hf' rfl hq' hlt']
        refine ⟨(), trivial, [(1900, some 5900)], ?_⟩
        (refine ⟨?_, ?_, ?_, by kernel_rfl⟩ <;> repeat' (first | exact trivial | exact rfl | assumption | apply And.intro))
theorem none_inl {g : G} (hL : Laid g.W0) (hg : ∀ i, ¬ g.S i) {s : St} {m : Mv} {tm : List (Nat × AV)} (hs : StI s) (hm : MvI m) (n1 : s.la.length < 400000000) (n2 : s.pa.length < 1000000000) (t7 : Ex.look tm 7 = .one (.ptr 1006 0)) (t5 : Ex.look tm 5 = .one (.ptr 15 0)) (t4 : Ex.look tm 4 = .one (.ptr 14 0)) (t3 : Ex.look tm 3 = .one (.ptr 13 0)) (k1 : m.kind ≠ 1) (k2 : m.kind ≠ 2) (k3 : m.kind ≠ 3) (k4 : m.kind ≠ 4) (k5 : m.kind ≠ 5) :
    InlP Tryd.prog g (cx CF 71) (some 28) 22 [.one (.ptr 1006 0), .agg (mvL m)] ⟨tm, BLo s m, RWo s⟩ (fun A1 => ∃ i : Unit, True ∧ ∃ σ, LeR (cx CF 71).base σ A1 (IT s m (moveS true s m))) := by
  have l1 : s.la.length ≤ 1000000000 := by omega
  have l2 : s.pa.length ≤ 1000000000 := by omega
  refine InlP.intro (X' := ⟨tab, CF, 2000, 49⟩) (cf_at hL hg) mixed_ok Tryd.func22 (by kernel_rfl) rfl rfl (le_of_ble (by kernel_rfl)) (by kernel_rfl) ?_
  ((conv => whnf) <;> repeat (refine obl_ ?_; conv => whnf))
  refine cond_ (fun h => absurd (beq_iff_eq.1 h) k1) (fun _ => ?_)
  ((conv => whnf) <;> repeat (refine obl_ ?_; conv => whnf))
  refine cond_ (fun h => absurd (beq_iff_eq.1 h) k2) (fun _ => ?_)
  ((conv => whnf) <;> repeat (refine obl_ ?_; conv => whnf))
  refine cond_ (fun h => absurd (beq_iff_eq.1 h) k3) (fun _ => ?_)
  ((conv => whnf) <;> repeat (refine obl_ ?_; conv => whnf))
  refine cond_ (fun h => absurd (beq_iff_eq.1 h) k4) (fun _ => ?_)
  ((conv => whnf) <;> repeat (refine obl_ ?_; conv => whnf))
  refine cond_ (fun h => absurd (beq_iff_eq.1 h) k5) (fun _ => ?_)
  ((conv => whnf) <;> repeat (refine obl_ ?_; conv => whnf))
  rw [moveS_0 k1 k2 k3 k4 k5]
  refine ⟨(), trivial, [], ?_⟩
  (refine ⟨?_, ?_, ?_, by kernel_rfl⟩ <;> repeat' (first | exact trivial | exact rfl | assumption | apply And.intro))
end Go.Proofs.YtcjdkaigimcofaaDoor.Ff

/- lots.Step. No condition but 64 bits. -/
namespace Go.Proofs.YtcjdkaigimcofaaDoor.Ff
open Go.RowKit Go.Proofs.YtcjdkaigimcofaaDoorW.PrintWords Go.Proofs.YtcjdkaigimcofaaDoor.Ex
set_option linter.unusedVariables false
set_option linter.unusedSimpArgs false
set_option maxRecDepth 100000
theorem addS_len (la : List La) (lot : ByteArray) (q v : Int) : (addS la lot q v).length ≤ la.length + 1 := by
  have := (at_le lot la).1
  unfold addS
  split
  · simp
  · simp
    omega
theorem takeS_len (la : List La) (i : Nat) (q : Int) : (takeS la i q).1.length ≤ la.length := by
  unfold takeS
  simp only
  split
  · simp
    omega
  · simp
theorem moveS_grow {lc : Bool} {s : St} {m : Mv} : (moveS lc s m).2.2.1.length ≤ s.la.length + 1 ∧ (moveS lc s m).2.2.2.length ≤ s.pa.length + 1 := by
  generalize hr : moveS lc s m = r
  unfold moveS at hr
  simp only at hr
  repeat' split at hr
  all_goals subst hr
  all_goals first
    | exact ⟨Nat.le_succ _, Nat.le_succ _⟩
    | exact ⟨addS_len _ _ _ _, by simp⟩
    | exact ⟨Nat.le_succ_of_le (takeS_len _ _ _), by simp⟩
theorem moveS_len {lc : Bool} {s : St} {m : Mv} (n1 : s.la.length < 400000000) : (moveS lc s m).2.2.1.length < 1000000000 := by
  have := (moveS_grow (lc := lc) (s := s) (m := m)).1
  omega
theorem moveS_seq {lc : Bool} {s : St} {m : Mv} (h : (moveS lc s m).1 = 0) : (moveS lc s m).2.1.seq = m.seq := by
  generalize hr : moveS lc s m = r at *
  unfold moveS at hr
  simp only at hr
  repeat' split at hr
  all_goals subst hr
  all_goals first
    | rfl
    | exact absurd h (by simp)
theorem fstep_calls {W : World} {LV PV : Value} (hL : Laid W) (s : St) (m : Mv) (h1 : Src W LV .la s.la) (h2 : Src W PV .pa s.pa) (hs : StI s) (hm : MvI m) (n1 : s.la.length < 400000000) (n2 : s.pa.length < 1000000000) (z1 : m.item.size ≤ 140737488351232) (z2 : m.lot.size ≤ 140737488351232) :
    Calls Tryd.prog 10 #[.agg #[.int .i64 s.q, .int .i64 s.v, .int .i64 s.pr, LV, PV], .agg (mvC m).toArray] W fun e w1 => StepW W w1 (stepS knF true s m) e := by
  obtain ⟨ρ, e1, e2, hS⟩ := start2 h1 h2
  have hg : ∀ i, ¬ (gW W).S i := fun i h => h
  refine (calls_awp (f := 10) (vs := [.agg #[.int .i64 s.q, .int .i64 s.v, .int .i64 s.pr, LV, PV], .agg (mvC m).toArray]) (cx_ok (C := CF) (nt := 71) (cf_ok hL hg)) mixed_ok Tryd.func10 rfl rfl hS (avs := [.agg [.v (.int .i64 s.q), .v (.int .i64 s.v), .v (.int .i64 s.pr), .row 0, .row 1], .agg (mvL m)])
    (fun ρ' h => ⟨⟨_, rfl, rfl, rfl, rfl, row_rel h (by simp [findR]) e1 h1, row_rel h (by simp [findR]) e2 h2, trivial⟩, mvL_args m ρ', trivial⟩) (le_of_ble (by kernel_rfl)) (K := fun v A1 => StepK (stepS knF true s m) v A1) ?_).mono ?_
  · unfold mvL
    have l1 : s.la.length ≤ 1000000000 := by omega
    have l2 : s.pa.length ≤ 1000000000 := by omega
    ((conv => whnf) <;> repeat (refine obl_ ?_; conv => whnf))
    refine InlP.weak (ι := Unit) (fun _ => ⟨[(10, .one (.ptr 1006 0)), (6, .one (.v (.int .i64 0))), (5, .one (.ptr 15 0)), (4, .one (.ptr 14 0)), (3, .one (.ptr 13 0))], BLo s m, RWo s⟩) (fun _ => True) ?_ (fun _ _ => ?_)
    · refine InlP.intro (X' := ⟨tab, CF, 1000, 40⟩) (cf_at hL hg) mixed_ok Tryd.func19 (by kernel_rfl) rfl rfl (le_of_ble (by kernel_rfl)) (by kernel_rfl) ?_
      have r1 : s.la.length = (List.replicate (s.la.length : Int).toNat zLa).length := by simp
      have r2 : s.pa.length = (List.replicate (s.pa.length : Int).toNat zPa).length := by simp
      ((conv => whnf) <;> repeat (refine obl_ ?_; conv => whnf))
      refine ⟨(), trivial, [(1900, some 1012), (1901, some 1016)], ?_⟩
      (refine ⟨?_, ?_, ?_, by kernel_rfl⟩ <;> repeat' (first | exact trivial | exact rfl | assumption | apply And.intro))
    ((conv => whnf) <;> repeat (refine obl_ ?_; conv => whnf))
    refine cond_ (fun ho => ?_) (fun ho => ?_)
    · have ho' : oneM m ≠ 0 := bne_iff_ne.1 ho
      rw [stepS_1 ho']
      ((conv => whnf) <;> repeat (refine obl_ ?_; conv => whnf))
      exact .inl ⟨ho', rfl⟩
    have ho' : ¬ oneM m ≠ 0 := fun e => e (by simpa using ho)
    ((conv => whnf) <;> repeat (refine obl_ ?_; conv => whnf))
    refine past_inl hL hg n2 (by kernel_rfl) (fun hz => ?_) (fun z0 z1 _ => ?_)
    rotate_left
    · have hkn : knF s.pa m.seq = true := by
        unfold knF
        rw [← pastS_kn]
        exact decide_eq_true z0
      rw [stepS_2 ho' hkn]
      ((conv => whnf) <;> repeat (refine obl_ ?_; conv => whnf))
      exact .inl ⟨by decide, rfl⟩
    have hkn : ¬ knF s.pa m.seq = true := by
      unfold knF
      rw [← pastS_kn]
      simp
      omega
    ((conv => whnf) <;> repeat (refine obl_ ?_; conv => whnf))
    refine InlP.weak (ι := Unit) (fun _ => IT s m (moveS true s m)) (fun _ => True) ?_ (fun _ _ => ?_)
    · by_cases k1 : m.kind = 1
      · exact receive_inl hL hg hs hm n1 n2 rfl rfl rfl rfl k1
      by_cases k2 : m.kind = 2
      · exact issue_inl hL hg hs hm n1 n2 rfl rfl rfl rfl k2
      by_cases k3 : m.kind = 3
      · exact back_inl hL hg hs hm n1 n2 rfl rfl rfl rfl k3
      by_cases k4 : m.kind = 4
      · exact send_inl hL hg hs hm n1 n2 rfl rfl rfl rfl k4 (by have := (one_f (Classical.not_not.1 ho')).qty (by omega); omega)
      by_cases k5 : m.kind = 5
      · exact land_inl hL hg hs hm n1 n2 rfl rfl rfl rfl k5
      exact none_inl hL hg hs hm n1 n2 rfl rfl rfl rfl k1 k2 k3 k4 k5
    ((conv => whnf) <;> repeat (refine obl_ ?_; conv => whnf))
    refine cond_ (fun he => ?_) (fun he => ?_)
    · have he' : (moveS true s m).1 ≠ 0 := bne_iff_ne.1 he
      rw [stepS_3 ho' hkn he']
      ((conv => whnf) <;> repeat (refine obl_ ?_; conv => whnf))
      exact .inl ⟨he', rfl⟩
    have he0 : (moveS true s m).1 = 0 := by
      have : ((moveS true s m).1 != 0) = false := he
      simpa using this
    have he' : ¬ (moveS true s m).1 ≠ 0 := fun e => e he0
    ((conv => whnf) <;> repeat (refine obl_ ?_; conv => whnf))
    refine InlP.weak (ι := Unit) (fun _ => ⟨[(63, .one (.v (.bool (overS (wr (s.q + (moveS true s m).2.1.qty)) (wr (s.v + (moveS true s m).2.1.value)) (moveS true s m).2.1.var (moveS true s m).2.2.1)))), (7, .one (.ptr 1006 0)), (5, .one (.ptr 15 0)), (4, .one (.ptr 14 0))], BLt s m (moveS true s m), RWt (moveS true s m)⟩) (fun _ => True) (over_inl hL hg (moveS_len n1) rfl rfl rfl) (fun _ _ => ?_)
    ((conv => whnf) <;> repeat (refine obl_ ?_; conv => whnf))
    refine cond_ (fun hv => ?_) (fun hv => ?_)
    · rw [stepS_4 ho' hkn he' hv]
      ((conv => whnf) <;> repeat (refine obl_ ?_; conv => whnf))
      exact .inl ⟨by decide, rfl⟩
    · rw [stepS_5 ho' hkn he' (by rw [hv]; decide)]
      ((conv => whnf) <;> repeat (refine obl_ ?_; conv => whnf))
      rw [moveS_seq he0]
      refine .inr ⟨rfl, _, _, ?_, rfl, rfl, rfl⟩
      decide
  · rintro e w1 ⟨x, v, A1, ρ1, a1, rfl, hv, hk, hS1, _⟩
    exact stepW hS1 hv hk stepS_z
end Go.Proofs.YtcjdkaigimcofaaDoor.Ff

/- accountingref37: what reads a stock by a lot; what makes layers anew. No condition but 64 bits. -/
namespace Go.Proofs.YtcjdkaigimcofaaDoor.Ff
open Go.RowKit Go.Proofs.YtcjdkaigimcofaaDoorW.PrintWords Go.Proofs.YtcjdkaigimcofaaDoor.Ex
set_option linter.unusedVariables false
set_option linter.unusedSimpArgs false
set_option maxRecDepth 100000
/-- A callee that reads and yields one row of its own (beside what it was given). -/
theorem sp_new1 {P : Program} {g : G} {bs f : Nat} {sp : Sp} (hfn : FnOk P f) (h : ∀ d args (k : AV → M) (A : AS) (r : AV × AS), (sp d args k).go A = some r → (sp d args k).obl A → ∃ av rk1 xs1, (kNewR d ⟨rk1, xs1, true⟩ fun _ => k av).go A = some r ∧ (kNewR d ⟨rk1, xs1, true⟩ fun _ => k av).obl A ∧
      ∀ ρ a w vs, Rel g ρ A a w → (∀ ρ', Agree A ρ ρ' → Args ρ' args vs) → Calls P f vs.toArray w fun e w1 => ∃ x V1, e = .returned x ∧ (∀ ρ' : Env, Agree A ρ ρ' → ρ'.r d = V1 → av.rel ρ' x) ∧ OwnR w1 (fun b => w.heap.size ≤ b) rk1 V1 xs1 ∧ Below w.heap.size w w1) : SpOk P g bs f sp := by
  refine ⟨hfn, fun d hd args k A r hg hb => ?_⟩
  obtain ⟨av, rk1, xs1, k1, k2, k3⟩ := h d args k A r hg hb
  obtain ⟨h0, j1, j2⟩ := kNewR_go k1 k2
  refine ⟨av, _, j1, j2, fun ρ a w vs hS hargs => (k3 ρ a w vs hS.rel hargs).mono ?_⟩
  rintro e w1 ⟨x, V1, rfl, hx, o1, hbel⟩
  have hS1 := hS.below hbel
  have hmine : ∀ b, w.heap.size ≤ b → g.mine b := fun b hb => ⟨Nat.le_trans (Nat.le_trans g.rb0 hS.rel.kept.1) hb, .inr (Nat.le_trans hS.rel.kept.1 hb)⟩
  have s1 := hS1.newRow (d := d) (R := ⟨rk1, xs1, true⟩) (v := V1) h0 (by unfold Row.rel; rw [if_pos rfl]; exact o1.mono (fun b _ => hmine b)) (fun l hl e => by
      have := o1.ok _ e
      exact (hS.rel.fresh this).1 l hl rfl) (fun j R' hj hw b hb => (hS.rel.fresh (o1.ok b hb)).2 j R' hj hw)
  refine ⟨x, _, rfl, fun ρ' h' => hx ρ' ?_ ?_, s1, fun l hl => ⟨rfl, ?_⟩⟩
  · have h1 := agree_setR h'
    exact ⟨h1.1, fun j hj => (h1.2 j hj).trans (if_neg (fun e => hj (by rw [e]; exact h0)))⟩
  · have := h'.2 d (by simp only; rw [findR_set, if_pos rfl]; simp)
    rw [this]
    exact if_pos rfl
  · simp only
    rw [if_neg (by omega)]
theorem rfind_calls {W : World} {LV PV : Value} {ls : List La} {ps : List Pa} (h1 : Src W LV .la ls) (h2 : Src W PV .pa ps) (q v pr : Int) (lot : ByteArray) :
    Calls Tryd.prog 28 #[.agg #[.int .i64 q, .int .i64 v, .int .i64 pr, LV, PV], .string lot] W fun e w1 => e = .returned (.int .i64 (lotR lot ls)) ∧ Below W.heap.size W w1 := by
  obtain ⟨ρ, e1, e2, hS⟩ := start2 h1 h2
  have hlen : ls.length ≤ 9223372036854775807 := by obtain ⟨_, _, _, h, _⟩ := h1; exact h.2
  refine (calls_awp (f := 28) (vs := [.agg #[.int .i64 q, .int .i64 v, .int .i64 pr, LV, PV], .string lot]) (cx_ok (C := []) (nt := 22) spc_nil) mixed_ok Tryd.func28 rfl rfl hS (avs := [.agg [.v (.int .i64 q), .v (.int .i64 v), .v (.int .i64 pr), .row 0, .row 1], .one (.v (.string lot))])
    (fun ρ' h => ⟨⟨_, rfl, rfl, rfl, rfl, row_rel h (by simp [findR]) e1 h1, row_rel h (by simp [findR]) e2 h2, trivial⟩, rfl, trivial⟩) (le_of_ble (by kernel_rfl)) (K := fun x A => x = .one (.v (.int .i64 (lotR lot ls)))) ?_).mono ?_
  · ((conv => whnf) <;> repeat (refine obl_ ?_; conv => whnf))
    refine LoopP.introR (cx_ok spc_nil) mixed_ok (ι := Nat) (fun k => ⟨[(5, .one (.v (.int .i64 (k : Int)))), (2, .one (.ptr 12 0)), (1, .one (.v (.string lot)))], [(12, 26, [.v (.int .i64 q), .v (.int .i64 v), .v (.int .i64 pr), .row 0, .row 1])], [(0, some ⟨.la, ls, false⟩), (1, some ⟨.pa, ps, false⟩)]⟩) (fun k => k ≤ ls.length ∧ lotR lot ls = fi (fun l => strEq l.lot lot) (ls.drop k) k) (fun k => ls.length - k) 0 ⟨Nat.zero_le _, rfl⟩ ⟨[], by (refine ⟨?_, ?_, ?_, by kernel_rfl⟩ <;> repeat' (first | exact trivial | exact rfl | assumption | apply And.intro))⟩ ?_
    rintro k ⟨hk, hf⟩
    ((conv => whnf) <;> repeat (refine obl_ ?_; conv => whnf))
    refine cond_ (fun h => ?_) (fun h => ?_)
    · have hlt : k < ls.length := by have := of_decide_eq_true h; omega
      have j1 : 0 ≤ (k : Int) := by omega
      have j2 : (k : Int) < (ls.length : Int) := by omega
      ((conv => whnf) <;> repeat (refine obl_ ?_; conv => whnf))
      refine cond_ (fun h3 => ?_) (fun h3 => ?_)
      · have h3' : strEq (ls.getD k zLa).lot lot = true := h3
        ((conv => whnf) <;> repeat (refine obl_ ?_; conv => whnf))
        exact int_ (hf.trans (fi_yes zLa hlt h3' _)).symm
      · have h3' : strEq (ls.getD k zLa).lot lot = false := h3
        ((conv => whnf) <;> repeat (refine obl_ ?_; conv => whnf))
        refine ⟨k + 1, ⟨hlt, by rw [hf, fi_no zLa hlt h3']; simp⟩, by omega, [], ?_⟩
        (refine ⟨?_, ?_, ?_, by kernel_rfl⟩ <;> repeat' (first | exact trivial | exact rfl | assumption | apply And.intro))
        exact up_ (by omega)
    · have := of_decide_eq_false h
      ((conv => whnf) <;> repeat (refine obl_ ?_; conv => whnf))
      exact int_ (hf.trans (fi_end (by omega) _)).symm
  · rintro e w1 ⟨x, u, A1, ρ1, a1, rfl, hv, rfl, hS1, _⟩
    exact ⟨by rw [show x = _ from hv], hS1.rel.bel⟩
/-- A callee that reads a stock by a lot. -/
def spStL (f : List La → ByteArray → Int) : Sp := fun d args k => match args with
  | [.agg [.v (.int .i64 q), .v (.int .i64 v), .v (.int .i64 pr), x, y], .one (.v (.string lot))] => rdRow .la x fun ls => rdRow .pa y fun ps => k (.one (.v (.int .i64 (f ls lot))))
  | _ => .fail
theorem spStL_ok {g : G} {bs F : Nat} {f : List La → ByteArray → Int} (hfn : FnOk Tryd.prog F) (hc : ∀ W LV PV (ls : List La) (ps : List Pa) q v pr lot, Src W LV .la ls → Src W PV .pa ps → Calls Tryd.prog F #[.agg #[.int .i64 q, .int .i64 v, .int .i64 pr, LV, PV], .string lot] W fun e w1 => e = .returned (.int .i64 (f ls lot)) ∧ Below W.heap.size W w1) : SpOk Tryd.prog g bs F (spStL f) := sp_val hfn (by
  intro d args k A r h hb
  unfold spStL at h hb
  split at h
  · rename_i q v pr x y lot
    obtain ⟨ls, h1, hb1, hl⟩ := rdRow_s h hb
    obtain ⟨ps, h2, hb2, hp⟩ := rdRow_s h1 hb1
    refine ⟨_, h2, hb2, fun ρ a0 w vs hR hv => ?_⟩
    match vs, hv with
    | [v1, v2], ⟨⟨us, e1, hu⟩, k6, _⟩ =>
      match us, hu with
      | [u1, u2, u3, u4, u5], ⟨k1, k2, k3, k4, k5, _⟩ =>
        simp only [L.rel] at k1 k2 k3
        have k6' : v2 = _ := k6
        subst e1 k1 k2 k3 k6'
        refine (hc w u4 u5 ls ps q v pr lot (hl _ _ _ _ _ hR k4) (hp _ _ _ _ _ hR k5)).mono ?_
        rintro e w1 ⟨rfl, hbel⟩
        exact ⟨_, rfl, fun ρ' => rfl, hbel⟩
  · cases h)
theorem rfind_ok {g : G} {bs : Nat} : SpOk Tryd.prog g bs 28 (spStL fun ls lot => lotR lot ls) := spStL_ok ⟨_, Tryd.func28, by decide +kernel, rfl⟩ (fun W LV PV ls ps q v pr lot h1 h2 => rfind_calls h1 h2 q v pr lot)
def CQ : List (Nat × Sp) := [(28, spStL fun ls lot => lotR lot ls)]
theorem cq_ok {g : G} {n : Nat} : ∀ f sp, lookC CQ f = some sp → SpOk Tryd.prog g n f sp := spc_cons rfind_ok spc_nil
theorem lotR_lt {lot : ByteArray} {la : List La} (h : ¬ lotR lot la < 0) : 0 ≤ lotR lot la ∧ lotR lot la < (la.length : Int) ∧ (lotR lot la).toNat < la.length := by
  rcases fi_cases (fun l : La => strEq l.lot lot) zLa la 0 (Int.le_refl _) with ⟨e, _⟩ | ⟨k, h1, h2, _⟩
  · have : lotR lot la = -1 := e
    omega
  · have : lotR lot la = 0 + k := h2
    omega
theorem rqty_calls {W : World} {LV PV : Value} {ls : List La} {ps : List Pa} (h1 : Src W LV .la ls) (h2 : Src W PV .pa ps) (q v pr : Int) (lot : ByteArray) :
    Calls Tryd.prog 16 #[.agg #[.int .i64 q, .int .i64 v, .int .i64 pr, LV, PV], .string lot] W fun e w1 => e = .returned (.int .i64 (qtyR lot ls)) ∧ Below W.heap.size W w1 := by
  obtain ⟨ρ, e1, e2, hS⟩ := start2 h1 h2
  refine (calls_awp (f := 16) (vs := [.agg #[.int .i64 q, .int .i64 v, .int .i64 pr, LV, PV], .string lot]) (cx_ok (C := CQ) (nt := 17) cq_ok) mixed_ok Tryd.func16 rfl rfl hS (avs := [.agg [.v (.int .i64 q), .v (.int .i64 v), .v (.int .i64 pr), .row 0, .row 1], .one (.v (.string lot))])
    (fun ρ' h => ⟨⟨_, rfl, rfl, rfl, rfl, row_rel h (by simp [findR]) e1 h1, row_rel h (by simp [findR]) e2 h2, trivial⟩, rfl, trivial⟩) (le_of_ble (by kernel_rfl)) (K := fun x A => x = .one (.v (.int .i64 (qtyR lot ls)))) ?_).mono ?_
  · ((conv => whnf) <;> repeat (refine obl_ ?_; conv => whnf))
    refine cond_ (fun h => ?_) (fun h => ?_)
    · have h' : lotR lot ls < 0 := of_decide_eq_true h
      ((conv => whnf) <;> repeat (refine obl_ ?_; conv => whnf))
      exact int_ (by unfold qtyR; rw [if_pos h'])
    · have h' : ¬ lotR lot ls < 0 := of_decide_eq_false h
      obtain ⟨j1, j2, j3⟩ := lotR_lt h'
      ((conv => whnf) <;> repeat (refine obl_ ?_; conv => whnf))
      exact int_ (by unfold qtyR; rw [if_neg h']; rfl)
  · rintro e w1 ⟨x, u, A1, ρ1, a1, rfl, hv, rfl, hS1, _⟩
    exact ⟨by rw [show x = _ from hv], hS1.rel.bel⟩
theorem rqty_ok {g : G} {bs : Nat} : SpOk Tryd.prog g bs 16 (spStL fun ls lot => qtyR lot ls) := spStL_ok ⟨_, Tryd.func16, by decide +kernel, rfl⟩ (fun W LV PV ls ps q v pr lot h1 h2 => rqty_calls h1 h2 q v pr lot)
theorem rval_calls {W : World} {LV PV : Value} {ls : List La} {ps : List Pa} (h1 : Src W LV .la ls) (h2 : Src W PV .pa ps) (q v pr : Int) (lot : ByteArray) :
    Calls Tryd.prog 70 #[.agg #[.int .i64 q, .int .i64 v, .int .i64 pr, LV, PV], .string lot] W fun e w1 => e = .returned (.int .i64 (valR lot ls)) ∧ Below W.heap.size W w1 := by
  obtain ⟨ρ, e1, e2, hS⟩ := start2 h1 h2
  refine (calls_awp (f := 70) (vs := [.agg #[.int .i64 q, .int .i64 v, .int .i64 pr, LV, PV], .string lot]) (cx_ok (C := CQ) (nt := 17) cq_ok) mixed_ok Tryd.func70 rfl rfl hS (avs := [.agg [.v (.int .i64 q), .v (.int .i64 v), .v (.int .i64 pr), .row 0, .row 1], .one (.v (.string lot))])
    (fun ρ' h => ⟨⟨_, rfl, rfl, rfl, rfl, row_rel h (by simp [findR]) e1 h1, row_rel h (by simp [findR]) e2 h2, trivial⟩, rfl, trivial⟩) (le_of_ble (by kernel_rfl)) (K := fun x A => x = .one (.v (.int .i64 (valR lot ls)))) ?_).mono ?_
  · ((conv => whnf) <;> repeat (refine obl_ ?_; conv => whnf))
    refine cond_ (fun h => ?_) (fun h => ?_)
    · have h' : lotR lot ls < 0 := of_decide_eq_true h
      ((conv => whnf) <;> repeat (refine obl_ ?_; conv => whnf))
      exact int_ (by unfold valR; rw [if_pos h'])
    · have h' : ¬ lotR lot ls < 0 := of_decide_eq_false h
      obtain ⟨j1, j2, j3⟩ := lotR_lt h'
      ((conv => whnf) <;> repeat (refine obl_ ?_; conv => whnf))
      exact int_ (by unfold valR; rw [if_neg h']; rfl)
  · rintro e w1 ⟨x, u, A1, ρ1, a1, rfl, hv, rfl, hS1, _⟩
    exact ⟨by rw [show x = _ from hv], hS1.rel.bel⟩
theorem rval_ok {g : G} {bs : Nat} : SpOk Tryd.prog g bs 70 (spStL fun ls lot => valR lot ls) := spStL_ok ⟨_, Tryd.func70, by decide +kernel, rfl⟩ (fun W LV PV ls ps q v pr lot h1 h2 => rval_calls h1 h2 q v pr lot)
end Go.Proofs.YtcjdkaigimcofaaDoor.Ff

/- accountingref37.add: layers made anew. No condition but 64 bits. -/
namespace Go.Proofs.YtcjdkaigimcofaaDoor.Ff
open Go.RowKit Go.Proofs.YtcjdkaigimcofaaDoorW.PrintWords Go.Proofs.YtcjdkaigimcofaaDoor.Ex
set_option linter.unusedVariables false
set_option linter.unusedSimpArgs false
set_option maxRecDepth 100000
theorem not_t {a : Bool} (h : (!a) = true) : ¬ a = true := by cases a <;> simp_all
theorem not_f {a : Bool} (h : (!a) = false) : a = true := by cases a <;> simp_all
theorem putR_drop {lot : ByteArray} {Q V : Int} {la : List La} {k : Nat} (h : k < la.length) (d : Bool) : putR lot Q V (la.drop k) d = (if (!d && !strLt (la.getD k zLa).lot lot) = true then [⟨0, lot, Q, V⟩] else []) ++ ((if strEq (la.getD k zLa).lot lot = true then [] else [la.getD k zLa]) ++ putR lot Q V (la.drop (k + 1)) (d || !strLt (la.getD k zLa).lot lot)) := by
  rw [List.drop_eq_getElem_cons h, List.getD_eq_getElem?_getD, List.getElem?_eq_getElem h]
  rfl
theorem putR_end {lot : ByteArray} {Q V : Int} {la : List La} {k : Nat} (h : la.length ≤ k) (d : Bool) : putR lot Q V (la.drop k) d = if d = true then [] else [⟨0, lot, Q, V⟩] := by
  rw [List.drop_eq_nil_of_le h]
  rfl
def CA : List (Nat × Sp) := [(16, spStL fun ls lot => qtyR lot ls), (70, spStL fun ls lot => valR lot ls)]
theorem ca_ok {g : G} {n : Nat} : ∀ f sp, lookC CA f = some sp → SpOk Tryd.prog g n f sp := spc_cons rqty_ok (spc_cons rval_ok spc_nil)
theorem ca_at {g : G} {b nt : Nat} : CxOk Tryd.prog g ⟨tab, CA, b, nt⟩ := ⟨tab_ok, elt_ok, ca_ok⟩
theorem add_calls {W : World} {LV PV : Value} {ls : List La} {ps : List Pa} (h1 : Src W LV .la ls) (h2 : Src W PV .pa ps) (hlen : ls.length < 400000010) (q v pr a b : Int) (lot : ByteArray) :
    Calls Tryd.prog 49 #[.agg #[.int .i64 q, .int .i64 v, .int .i64 pr, LV, PV], .string lot, .int .i64 a, .int .i64 b] W fun e w1 => ∃ V1, e = .returned (.agg #[.int .i64 q, .int .i64 v, .int .i64 pr, V1, PV]) ∧ OwnR w1 (fun b => W.heap.size ≤ b) .la V1 (addR ls lot a b) ∧ Below W.heap.size W w1 := by
  obtain ⟨ρ, e1, e2, hS⟩ := start2 h1 h2
  refine (calls_awp (f := 49) (vs := [.agg #[.int .i64 q, .int .i64 v, .int .i64 pr, LV, PV], .string lot, .int .i64 a, .int .i64 b]) (cx_ok (C := CA) (nt := 22) ca_ok) mixed_ok Tryd.func49 rfl rfl hS (avs := [.agg [.v (.int .i64 q), .v (.int .i64 v), .v (.int .i64 pr), .row 0, .row 1], .one (.v (.string lot)), .one (.v (.int .i64 a)), .one (.v (.int .i64 b))])
    (fun ρ' h => ⟨⟨_, rfl, rfl, rfl, rfl, row_rel h (by simp [findR]) e1 h1, row_rel h (by simp [findR]) e2 h2, trivial⟩, rfl, rfl, rfl, trivial⟩) (le_of_ble (by kernel_rfl)) (K := fun x A => ∃ k1, x = .agg [.v (.int .i64 q), .v (.int .i64 v), .v (.int .i64 pr), .row k1, .row 1] ∧ findR A.rw k1 = some (some ⟨.la, addR ls lot a b, true⟩)) ?_).mono ?_
  · ((conv => whnf) <;> repeat (refine obl_ ?_; conv => whnf))
    refine InlP.intro (X' := ⟨tab, CA, 2000, 68⟩) ca_at mixed_ok Tryd.func69 (by kernel_rfl) rfl rfl (le_of_ble (by kernel_rfl)) (by kernel_rfl) ?_
    ((conv => whnf) <;> repeat (refine obl_ ?_; conv => whnf))
    refine LoopP.introR ca_at mixed_ok (ι := Nat × List La × Bool) (fun k => ⟨[(11, .one (.v (.int .i64 (k.1 : Int)))), (10, .one (.v (.bool k.2.2))), (9, .one (.row 2900)), (8, .one (.ptr 2008 0)), (4, .one (.ptr 2004 0)), (3, .one (.v (.int .i64 (wr (valR lot ls + b))))), (2, .one (.v (.int .i64 (wr (qtyR lot ls + a))))), (1, .one (.v (.string lot)))], [(2008, 26, zStk), (2004, 26, [.v (.int .i64 q), .v (.int .i64 v), .v (.int .i64 pr), .row 0, .row 1]), (18, 26, zStk), (14, 26, [.v (.int .i64 q), .v (.int .i64 v), .v (.int .i64 pr), .row 0, .row 1])], [(0, some ⟨.la, ls, false⟩), (1, some ⟨.pa, ps, false⟩), (2900, some ⟨.la, k.2.1, true⟩)]⟩) (fun k => k.1 ≤ ls.length ∧ addR ls lot a b = k.2.1 ++ putR lot (wr (qtyR lot ls + a)) (wr (valR lot ls + b)) (ls.drop k.1) k.2.2 ∧ k.2.1.length ≤ 2 * k.1) (fun k => ls.length - k.1) (0, [], wr (qtyR lot ls + a) == 0) ⟨Nat.zero_le _, rfl, Nat.le_refl _⟩ ⟨[(2900, none)], by (refine ⟨?_, ?_, ?_, by kernel_rfl⟩ <;> repeat' (first | exact trivial | exact rfl | assumption | apply And.intro))⟩ ?_
    rintro ⟨k, o, d⟩ ⟨hk, hp, hl⟩
    simp only at hk hp hl
    ((conv => whnf) <;> repeat (refine obl_ ?_; conv => whnf))
    refine cond_ (fun h => ?_) (fun h => ?_)
    · have hlt : k < ls.length := by have := of_decide_eq_true h; simp only at this; omega
      have j1 : 0 ≤ (k : Int) := by omega
      have j2 : (k : Int) < (ls.length : Int) := by omega
      have m1 : o.length + 1 ≤ 1000000000 := by omega
      have m2 : o.length + 1 + 1 ≤ 1000000000 := by omega
      rw [putR_drop hlt] at hp
      cases d
      · ((conv => whnf) <;> repeat (refine obl_ ?_; conv => whnf))
        refine cond_ (fun h5 => ?_) (fun h5 => ?_)
        · have h5' : (!strLt (ls.getD k zLa).lot lot) = true := h5
          rw [h5', if_pos (by decide)] at hp
          rw [show (false || true) = true from rfl] at hp
          ((conv => whnf) <;> repeat (refine obl_ ?_; conv => whnf))
          refine cond_ (fun h6 => ?_) (fun h6 => ?_)
          · have h6' : ¬ strEq (ls.getD k zLa).lot lot = true := not_t h6
            rw [if_neg h6'] at hp
            ((conv => whnf) <;> repeat (refine obl_ ?_; conv => whnf))
            refine ⟨(k + 1, o ++ [⟨0, lot, wr (qtyR lot ls + a), wr (valR lot ls + b)⟩] ++ [ls.getD k zLa], true), ⟨hlt, by rw [hp]; simp, by simp; omega⟩, by simp only; omega, [(2900, some 2055)], ?_⟩
            (refine ⟨?_, ?_, ?_, by kernel_rfl⟩ <;> repeat' (first | exact trivial | exact rfl | assumption | apply And.intro))
            exact up_ (by omega)
          · have h6' : strEq (ls.getD k zLa).lot lot = true := not_f h6
            rw [if_pos h6'] at hp
            ((conv => whnf) <;> repeat (refine obl_ ?_; conv => whnf))
            refine ⟨(k + 1, o ++ [⟨0, lot, wr (qtyR lot ls + a), wr (valR lot ls + b)⟩], true), ⟨hlt, by rw [hp]; simp, by simp only; first | omega | (simp; omega)⟩, by simp only; omega, [(2900, some 2039)], ?_⟩
            (refine ⟨?_, ?_, ?_, by kernel_rfl⟩ <;> repeat' (first | exact trivial | exact rfl | assumption | apply And.intro))
            exact up_ (by omega)
        · have h5' : (!strLt (ls.getD k zLa).lot lot) = false := h5
          rw [h5', if_neg (by decide)] at hp
          rw [show (false || false) = false from rfl] at hp
          ((conv => whnf) <;> repeat (refine obl_ ?_; conv => whnf))
          refine cond_ (fun h6 => ?_) (fun h6 => ?_)
          · have h6' : ¬ strEq (ls.getD k zLa).lot lot = true := not_t h6
            rw [if_neg h6'] at hp
            ((conv => whnf) <;> repeat (refine obl_ ?_; conv => whnf))
            refine ⟨(k + 1, o ++ [ls.getD k zLa], false), ⟨hlt, by rw [hp]; simp, by simp; omega⟩, by simp only; omega, [(2900, some 2055)], ?_⟩
            (refine ⟨?_, ?_, ?_, by kernel_rfl⟩ <;> repeat' (first | exact trivial | exact rfl | assumption | apply And.intro))
            exact up_ (by omega)
          · have h6' : strEq (ls.getD k zLa).lot lot = true := not_f h6
            rw [if_pos h6'] at hp
            ((conv => whnf) <;> repeat (refine obl_ ?_; conv => whnf))
            refine ⟨(k + 1, o, false), ⟨hlt, by rw [hp]; simp, by simp only; first | omega | (simp; omega)⟩, by simp only; omega, [], ?_⟩
            (refine ⟨?_, ?_, ?_, by kernel_rfl⟩ <;> repeat' (first | exact trivial | exact rfl | assumption | apply And.intro))
            exact up_ (by omega)
      · rw [if_neg (by simp)] at hp
        rw [show (true || !strLt (ls.getD k zLa).lot lot) = true from rfl] at hp
        ((conv => whnf) <;> repeat (refine obl_ ?_; conv => whnf))
        refine cond_ (fun h6 => ?_) (fun h6 => ?_)
        · have h6' : ¬ strEq (ls.getD k zLa).lot lot = true := not_t h6
          rw [if_neg h6'] at hp
          ((conv => whnf) <;> repeat (refine obl_ ?_; conv => whnf))
          refine ⟨(k + 1, o ++ [ls.getD k zLa], true), ⟨hlt, by rw [hp]; simp, by simp; omega⟩, by simp only; omega, [(2900, some 2055)], ?_⟩
          (refine ⟨?_, ?_, ?_, by kernel_rfl⟩ <;> repeat' (first | exact trivial | exact rfl | assumption | apply And.intro))
          exact up_ (by omega)
        · have h6' : strEq (ls.getD k zLa).lot lot = true := not_f h6
          rw [if_pos h6'] at hp
          ((conv => whnf) <;> repeat (refine obl_ ?_; conv => whnf))
          refine ⟨(k + 1, o, true), ⟨hlt, by rw [hp]; simp, by simp only; first | omega | (simp; omega)⟩, by simp only; omega, [], ?_⟩
          (refine ⟨?_, ?_, ?_, by kernel_rfl⟩ <;> repeat' (first | exact trivial | exact rfl | assumption | apply And.intro))
          exact up_ (by omega)
    · have hge := of_decide_eq_false h
      rw [putR_end (by simp only at hge; omega)] at hp
      have m1 : o.length + 1 ≤ 1000000000 := by omega
      cases d
      · ((conv => whnf) <;> repeat (refine obl_ ?_; conv => whnf))
        rw [if_neg (by decide)] at hp
        rw [hp]
        exact ⟨_, rfl, rfl⟩
      · ((conv => whnf) <;> repeat (refine obl_ ?_; conv => whnf))
        rw [if_pos rfl, List.append_nil] at hp
        rw [hp]
        exact ⟨_, rfl, rfl⟩
  · rintro e w1 ⟨x, u, A1, ρ1, a1, rfl, hv, ⟨k1, rfl, f1⟩, hS1, hpin⟩
    obtain ⟨us, eu, hu⟩ := hv
    match us, hu with
    | [u1, u2, u3, u4, u5], ⟨c1, c2, c3, c4, c5, _⟩ =>
      simp only [L.rel] at c1 c2 c3 c4 c5
      obtain ⟨c4, _⟩ := c4
      obtain ⟨c5, _⟩ := c5
      rw [(hpin 1 (by decide)).2, e2] at c5
      subst eu c1 c2 c3 c4 c5
      exact ⟨_, rfl, (hS1.ownR f1).mono (fun b _ hb => gW_mine hb), hS1.rel.bel⟩
end Go.Proofs.YtcjdkaigimcofaaDoor.Ff

/- accountingref37.move. No condition but 64 bits. -/
namespace Go.Proofs.YtcjdkaigimcofaaDoor.Ff
open Go.RowKit Go.Proofs.YtcjdkaigimcofaaDoorW.PrintWords Go.Proofs.YtcjdkaigimcofaaDoor.Ex
set_option linter.unusedVariables false
set_option linter.unusedSimpArgs false
set_option maxRecDepth 100000
def spAddR : Sp := fun d args k => match args with
  | [.agg [.v (.int .i64 q), .v (.int .i64 v), .v (.int .i64 pr), x, y], .one (.v (.string lot)), .one (.v (.int .i64 a)), .one (.v (.int .i64 b))] => rdRow .la x fun ls => rdRow .pa y fun ps => .ob (ls.length < 400000010) (kNewR d ⟨.la, addR ls lot a b, true⟩ fun _ => k (.agg [.v (.int .i64 q), .v (.int .i64 v), .v (.int .i64 pr), .row d, y]))
  | _ => .fail
theorem radd_ok {g : G} {bs : Nat} : SpOk Tryd.prog g bs 49 spAddR := sp_new1 ⟨_, Tryd.func49, by decide +kernel, rfl⟩ (by
  intro d args k A r h hb
  unfold spAddR at h hb
  split at h
  · rename_i q v pr x y lot a b
    obtain ⟨ls, h1, hb1, hl⟩ := rdRow_s h hb
    obtain ⟨ps, h2, hb2, hp⟩ := rdRow_s h1 hb1
    simp only [M.go] at h2
    simp only [M.obl] at hb2
    refine ⟨_, _, _, h2, hb2.2, fun ρ a0 w vs hR hv => ?_⟩
    match vs, hv ρ (Agree.refl _ _), hv with
    | [v1, v2, v3, v4], ⟨⟨us, e1, hu⟩, k6, k7, k8, _⟩, hv =>
      match us, hu with
      | [u1, u2, u3, u4, u5], ⟨k1, k2, k3, k4, k5, _⟩ =>
        simp only [L.rel] at k1 k2 k3
        have k6' : v2 = _ := k6
        have k7' : v3 = _ := k7
        have k8' : v4 = _ := k8
        subst e1 k1 k2 k3 k6' k7' k8'
        refine (add_calls (hl _ _ _ _ _ hR k4) (hp _ _ _ _ _ hR k5) hb2.1 q v pr a b lot).mono ?_
        rintro e w1 ⟨V1, rfl, o1, hbel⟩
        refine ⟨_, V1, rfl, fun ρ' h' hd => ⟨_, rfl, rfl, rfl, rfl, own_row o1 hd, ?_, trivial⟩, o1, hbel⟩
        obtain ⟨⟨us', e1', hu'⟩, _⟩ := hv ρ' h'
        injection e1' with e1'
        have e2' := List.toArray_inj e1'
        match us', hu' with
        | [_, _, _, _, u5'], ⟨_, _, _, _, k5', _⟩ =>
          injection e2' with _ e2'
          injection e2' with _ e2'
          injection e2' with _ e2'
          injection e2' with _ e2'
          injection e2' with e2' _
          rw [e2']
          exact k5'
  · cases h)
def CR : List (Nat × Sp) := [(48, spFind), (71, spPart), (73, spShare), (28, spStL fun ls lot => lotR lot ls), (16, spStL fun ls lot => qtyR lot ls), (70, spStL fun ls lot => valR lot ls), (49, spAddR)]
theorem cr_ok {g : G} {n : Nat} : ∀ f sp, lookC CR f = some sp → SpOk Tryd.prog g n f sp := spc_cons find_ok (spc_cons rpart_ok (spc_cons share_ok (spc_cons rfind_ok (spc_cons rqty_ok (spc_cons rval_ok (spc_cons radd_ok spc_nil))))))
theorem cx_at {g : G} {b nt : Nat} : CxOk Tryd.prog g ⟨tab, CR, b, nt⟩ := ⟨tab_ok, elt_ok, cr_ok⟩
theorem qtyR_i {la : List La} (h : ∀ x ∈ la, LaI x) (lot : ByteArray) : I64 (qtyR lot la) := by
  unfold qtyR
  split
  · exact i64_0
  · exact (getD_all h _ zLa_i).2.1
theorem valR_i {la : List La} (h : ∀ x ∈ la, LaI x) (lot : ByteArray) : I64 (valR lot la) := by
  unfold valR
  split
  · exact i64_0
  · exact (getD_all h _ zLa_i).2.2
/-! ### the reference's movement, case by case -/
section
variable {s : St} {m : Mv}
theorem moveR_1e (h : m.kind = 1) (h2 : noLot m.lot = true) : moveR s m = (22, zC 0, s.la, s.pa) := by
  unfold moveR; rw [if_pos h, if_pos h2]
theorem moveR_1 (h : m.kind = 1) (h2 : ¬ noLot m.lot = true) : moveR s m = (0, ⟨m.seq, m.qty, m.cost, 0⟩, addR s.la m.lot m.qty m.cost, s.pa ++ [⟨m.seq, m.kind, m.lot, m.qty, m.cost, 0, 0⟩]) := by
  unfold moveR; rw [if_pos h, if_neg h2]
theorem moveR_2e (h : m.kind = 2) (h2 : noLot m.lot = true ∨ lotR m.lot s.la < 0) : moveR s m = (22, zC 0, s.la, s.pa) := by
  unfold moveR; rw [if_neg (by omega), if_pos h, if_pos h2]
theorem moveR_2f (h : m.kind = 2) (h2 : ¬ (noLot m.lot = true ∨ lotR m.lot s.la < 0)) (h3 : qtyR m.lot s.la < m.qty) : moveR s m = (21, zC 0, s.la, s.pa) := by
  unfold moveR; rw [if_neg (by omega), if_pos h, if_neg h2, if_pos h3]
theorem moveR_2 (h : m.kind = 2) (h2 : ¬ (noLot m.lot = true ∨ lotR m.lot s.la < 0)) (h3 : ¬ qtyR m.lot s.la < m.qty) {a : Int} (ha : partS (valR m.lot s.la) m.qty (qtyR m.lot s.la) = a) : moveR s m = (0, ⟨m.seq, wr (0 - m.qty), wr (0 - a), 0⟩, addR s.la m.lot (wr (0 - m.qty)) (wr (0 - a)), s.pa ++ [⟨m.seq, m.kind, m.lot, m.qty, a, 0, 0⟩]) := by
  subst ha; unfold moveR; rw [if_neg (by omega), if_pos h, if_neg h2, if_neg h3]
theorem moveR_3a (h : m.kind = 3) (h2 : findS 2 m.ref s.pa < 0) : moveR s m = (28, zC 0, s.la, s.pa) := by
  unfold moveR; simp only; rw [if_neg (by omega), if_neg (by omega), if_pos h, if_pos h2]
theorem moveR_3b (h : m.kind = 3) (hk : ¬ findS 2 m.ref s.pa < 0) {p : Pa} (hp : s.pa.getD (findS 2 m.ref s.pa).toNat zPa = p) (h2 : wr (p.qty - p.used) < m.qty) : moveR s m = (21, zC 0, s.la, s.pa) := by
  unfold moveR; simp only; rw [if_neg (by omega), if_neg (by omega), if_pos h, if_neg hk, hp, if_pos h2]
theorem moveR_3 (h : m.kind = 3) (hk : ¬ findS 2 m.ref s.pa < 0) {p : Pa} (hp : s.pa.getD (findS 2 m.ref s.pa).toNat zPa = p) (h2 : ¬ wr (p.qty - p.used) < m.qty) : moveR s m = (0, ⟨m.seq, m.qty, partS (wr (p.value - p.uval)) m.qty (wr (p.qty - p.used)), 0⟩, addR s.la p.lot m.qty (partS (wr (p.value - p.uval)) m.qty (wr (p.qty - p.used))), s.pa.set (findS 2 m.ref s.pa).toNat { p with used := wr (p.used + m.qty), uval := wr (p.uval + partS (wr (p.value - p.uval)) m.qty (wr (p.qty - p.used))) }) := by
  unfold moveR; simp only; rw [if_neg (by omega), if_neg (by omega), if_pos h, if_neg hk, hp, if_neg h2]
theorem moveR_4a (h : m.kind = 4) (h2 : findS 1 m.ref s.pa < 0) : moveR s m = (28, zC 0, s.la, s.pa) := by
  unfold moveR; simp only; rw [if_neg (by omega), if_neg (by omega), if_neg (by omega), if_pos h, if_pos h2]
theorem moveR_4b (h : m.kind = 4) (hk : ¬ findS 1 m.ref s.pa < 0) {p : Pa} (hp : s.pa.getD (findS 1 m.ref s.pa).toNat zPa = p) (h2 : wr (p.qty - p.used) < m.qty) : moveR s m = (21, zC 0, s.la, s.pa) := by
  unfold moveR; simp only; rw [if_neg (by omega), if_neg (by omega), if_neg (by omega), if_pos h, if_neg hk, hp, if_pos h2]
theorem moveR_4c (h : m.kind = 4) (hk : ¬ findS 1 m.ref s.pa < 0) {p : Pa} (hp : s.pa.getD (findS 1 m.ref s.pa).toNat zPa = p) (h2 : ¬ wr (p.qty - p.used) < m.qty) (h3 : qtyR p.lot s.la < m.qty) : moveR s m = (21, zC 0, s.la, s.pa) := by
  unfold moveR; simp only; rw [if_neg (by omega), if_neg (by omega), if_neg (by omega), if_pos h, if_neg hk, hp, if_neg h2, if_pos h3]
theorem moveR_4 (h : m.kind = 4) (hk : ¬ findS 1 m.ref s.pa < 0) {p : Pa} (hp : s.pa.getD (findS 1 m.ref s.pa).toNat zPa = p) (h2 : ¬ wr (p.qty - p.used) < m.qty) (h3 : ¬ qtyR p.lot s.la < m.qty) {a : Int} (ha : partS (valR p.lot s.la) m.qty (qtyR p.lot s.la) = a) : moveR s m = (0, ⟨m.seq, wr (0 - m.qty), wr (0 - a), wr (a - m.cost)⟩, addR s.la p.lot (wr (0 - m.qty)) (wr (0 - a)), s.pa.set (findS 1 m.ref s.pa).toNat { p with used := wr (p.used + m.qty) }) := by
  subst ha; unfold moveR; simp only; rw [if_neg (by omega), if_neg (by omega), if_neg (by omega), if_pos h, if_neg hk, hp, if_neg h2, if_neg h3]
theorem moveR_5a (h : m.kind = 5) (h2 : findS 1 m.ref s.pa < 0) : moveR s m = (28, zC 0, s.la, s.pa) := by
  unfold moveR; simp only; rw [if_neg (by omega), if_neg (by omega), if_neg (by omega), if_neg (by omega), if_pos h, if_pos h2]
theorem moveR_5c (h : m.kind = 5) (hk : ¬ findS 1 m.ref s.pa < 0) {p : Pa} (hp : s.pa.getD (findS 1 m.ref s.pa).toNat zPa = p) (h3 : minS p.qty (qtyR p.lot s.la) = 0) : moveR s m = (0, ⟨m.seq, 0, 0, m.cost⟩, s.la, s.pa) := by
  unfold moveR; simp only; rw [if_neg (by omega), if_neg (by omega), if_neg (by omega), if_neg (by omega), if_pos h, if_neg hk, hp, if_pos h3]
theorem moveR_5 (h : m.kind = 5) (hk : ¬ findS 1 m.ref s.pa < 0) {p : Pa} (hp : s.pa.getD (findS 1 m.ref s.pa).toNat zPa = p) (h3 : ¬ minS p.qty (qtyR p.lot s.la) = 0) {a : Int} (ha : partS m.cost (minS p.qty (qtyR p.lot s.la)) p.qty = a) : moveR s m = (0, ⟨m.seq, 0, a, wr (m.cost - a)⟩, addR s.la p.lot 0 a, s.pa) := by
  subst ha; unfold moveR; simp only; rw [if_neg (by omega), if_neg (by omega), if_neg (by omega), if_neg (by omega), if_pos h, if_neg hk, hp, if_neg h3]
theorem moveR_0 (h1 : m.kind ≠ 1) (h2 : m.kind ≠ 2) (h3 : m.kind ≠ 3) (h4 : m.kind ≠ 4) (h5 : m.kind ≠ 5) : moveR s m = (10, zC 0, s.la, s.pa) := by
  unfold moveR; rw [if_neg h1, if_neg h2, if_neg h3, if_neg h4, if_neg h5]
end
end Go.Proofs.YtcjdkaigimcofaaDoor.Ff

/- accountingref37.move, walked. No condition but 64 bits. -/
namespace Go.Proofs.YtcjdkaigimcofaaDoor.Ff
open Go.RowKit Go.Proofs.YtcjdkaigimcofaaDoorW.PrintWords Go.Proofs.YtcjdkaigimcofaaDoor.Ex
set_option linter.unusedVariables false
set_option linter.unusedSimpArgs false
set_option maxRecDepth 100000
theorem nolot_t {b : ByteArray} (h : strEq b ⟨#[]⟩ = true) : noLot b = true := h
theorem nolot_f {b : ByteArray} (h : strEq b ⟨#[]⟩ = false) : ¬ noLot b = true := fun e => by rw [show strEq b ⟨#[]⟩ = true from e] at h; cases h
theorem rmove1 {g : G} (s : St) (m : Mv) (hs : StI s) (hm : MvI m) (n1 : s.la.length < 400000000) (n2 : s.pa.length < 1000000000) (h' : m.kind = 1) :
    awp Tryd.prog g (cx CR 77) (Func.body Tryd.f26 |>.getD .skip) ⟨argTm 0 [.agg [.v (.int .i64 s.q), .v (.int .i64 s.v), .v (.int .i64 s.pr), .row 0, .row 1], .agg (mvL m)], [], [(0, some ⟨.la, s.la, true⟩), (1, some ⟨.pa, s.pa, true⟩)]⟩ (fun e A1 => match e with | .e _ => False | _ => ResP tab (Func.results Tryd.f26).toList A1 (fun v => MoveK s.q s.v s.pr (moveR s m) v A1)) := by
  have l1 : s.la.length < 400000010 := by omega
  have l2 : s.pa.length ≤ 1000000000 := by omega
  have hqty := hm.qty
  have hcost := hm.cost
  have k0 := h'
  unfold mvL
  ((conv => whnf) <;> repeat (refine obl_ ?_; conv => whnf))
  refine cond_ (fun _ => ?_) (fun h => (beq_ne h k0).elim)
  ((conv => whnf) <;> repeat (refine obl_ ?_; conv => whnf))
  refine cond_ (fun hn => ?_) (fun hn => ?_)
  · rw [moveR_1e h' (nolot_t hn)]
    ((conv => whnf) <;> repeat (refine obl_ ?_; conv => whnf))
    (refine ⟨_, _, ?_, rfl, rfl, rfl⟩; decide)
  · have e1 := moveR_1 (s := s) h' (nolot_f hn)
    rw [h'] at e1
    rw [e1]
    ((conv => whnf) <;> repeat (refine obl_ ?_; conv => whnf))
    (refine ⟨_, _, ?_, rfl, rfl, rfl⟩; decide)
theorem rmove2 {g : G} (s : St) (m : Mv) (hs : StI s) (hm : MvI m) (n1 : s.la.length < 400000000) (n2 : s.pa.length < 1000000000) (h' : m.kind = 2) :
    awp Tryd.prog g (cx CR 77) (Func.body Tryd.f26 |>.getD .skip) ⟨argTm 0 [.agg [.v (.int .i64 s.q), .v (.int .i64 s.v), .v (.int .i64 s.pr), .row 0, .row 1], .agg (mvL m)], [], [(0, some ⟨.la, s.la, true⟩), (1, some ⟨.pa, s.pa, true⟩)]⟩ (fun e A1 => match e with | .e _ => False | _ => ResP tab (Func.results Tryd.f26).toList A1 (fun v => MoveK s.q s.v s.pr (moveR s m) v A1)) := by
  have l1 : s.la.length < 400000010 := by omega
  have l2 : s.pa.length ≤ 1000000000 := by omega
  have hqty := hm.qty
  have hcost := hm.cost
  have k0 := h'
  unfold mvL
  ((conv => whnf) <;> repeat (refine obl_ ?_; conv => whnf))
  refine cond_ (fun h => absurd (k0.symm.trans (beq_iff_eq.1 h)) (by decide)) (fun _ => ?_)
  ((conv => whnf) <;> repeat (refine obl_ ?_; conv => whnf))
  refine cond_ (fun _ => ?_) (fun h => (beq_ne h k0).elim)
  ((conv => whnf) <;> repeat (refine obl_ ?_; conv => whnf))
  refine InlP.intro (X' := ⟨tab, CR, 1000, 69⟩) cx_at mixed_ok Tryd.func50 (by kernel_rfl) rfl rfl (le_of_ble (by kernel_rfl)) (by kernel_rfl) ?_
  ((conv => whnf) <;> repeat (refine obl_ ?_; conv => whnf))
  refine cond_ (fun hn => ?_) (fun hn => ?_)
  · rw [moveR_2e h' (.inl (nolot_t hn))]
    ((conv => whnf) <;> repeat (refine obl_ ?_; conv => whnf))
    (refine ⟨_, _, ?_, rfl, rfl, rfl⟩; decide)
  have hn' := nolot_f hn
  ((conv => whnf) <;> repeat (refine obl_ ?_; conv => whnf))
  refine cond_ (fun hf => ?_) (fun hf => ?_)
  · rw [moveR_2e h' (.inr (of_decide_eq_true hf))]
    ((conv => whnf) <;> repeat (refine obl_ ?_; conv => whnf))
    (refine ⟨_, _, ?_, rfl, rfl, rfl⟩; decide)
  have hf' : ¬ (noLot m.lot = true ∨ lotR m.lot s.la < 0) := fun e => e.elim hn' (of_decide_eq_false hf)
  ((conv => whnf) <;> repeat (refine obl_ ?_; conv => whnf))
  refine cond_ (fun hq => ?_) (fun hq => ?_)
  · rw [moveR_2f h' hf' (of_decide_eq_true hq)]
    ((conv => whnf) <;> repeat (refine obl_ ?_; conv => whnf))
    (refine ⟨_, _, ?_, rfl, rfl, rfl⟩; decide)
  have v1 := valR_i hs.la m.lot
  have v2 := qtyR_i hs.la m.lot
  have e1 := moveR_2 (s := s) h' hf' (of_decide_eq_false hq) rfl
  rw [h'] at e1
  rw [e1]
  ((conv => whnf) <;> repeat (refine obl_ ?_; conv => whnf))
  (refine ⟨_, _, ?_, rfl, rfl, rfl⟩; decide)
theorem rmove3 {g : G} (s : St) (m : Mv) (hs : StI s) (hm : MvI m) (n1 : s.la.length < 400000000) (n2 : s.pa.length < 1000000000) (h' : m.kind = 3) :
    awp Tryd.prog g (cx CR 77) (Func.body Tryd.f26 |>.getD .skip) ⟨argTm 0 [.agg [.v (.int .i64 s.q), .v (.int .i64 s.v), .v (.int .i64 s.pr), .row 0, .row 1], .agg (mvL m)], [], [(0, some ⟨.la, s.la, true⟩), (1, some ⟨.pa, s.pa, true⟩)]⟩ (fun e A1 => match e with | .e _ => False | _ => ResP tab (Func.results Tryd.f26).toList A1 (fun v => MoveK s.q s.v s.pr (moveR s m) v A1)) := by
  have l1 : s.la.length < 400000010 := by omega
  have l2 : s.pa.length ≤ 1000000000 := by omega
  have hqty := hm.qty
  have hcost := hm.cost
  have k0 := h'
  unfold mvL
  ((conv => whnf) <;> repeat (refine obl_ ?_; conv => whnf))
  refine cond_ (fun h => absurd (k0.symm.trans (beq_iff_eq.1 h)) (by decide)) (fun _ => ?_)
  ((conv => whnf) <;> repeat (refine obl_ ?_; conv => whnf))
  refine cond_ (fun h => absurd (k0.symm.trans (beq_iff_eq.1 h)) (by decide)) (fun _ => ?_)
  ((conv => whnf) <;> repeat (refine obl_ ?_; conv => whnf))
  refine cond_ (fun _ => ?_) (fun h => (beq_ne h k0).elim)
  ((conv => whnf) <;> repeat (refine obl_ ?_; conv => whnf))
  refine InlP.intro (X' := ⟨tab, CR, 1000, 71⟩) cx_at mixed_ok Tryd.func51 (by kernel_rfl) rfl rfl (le_of_ble (by kernel_rfl)) (by kernel_rfl) ?_
  ((conv => whnf) <;> repeat (refine obl_ ?_; conv => whnf))
  refine InlP.intro (X' := ⟨tab, CR, 2000, 35⟩) cx_at mixed_ok Tryd.func72 (by kernel_rfl) rfl rfl (le_of_ble (by kernel_rfl)) (by kernel_rfl) ?_
  ((conv => whnf) <;> repeat (refine obl_ ?_; conv => whnf))
  refine cond_ (fun _ => ?_) (fun h => (beq_ne h k0).elim)
  ((conv => whnf) <;> repeat (refine obl_ ?_; conv => whnf))
  refine cond_ (fun hf => ?_) (fun hf => ?_)
  · have hf' : (findS 2 m.ref s.pa) < 0 := of_decide_eq_true hf
    rw [moveR_3a h' hf']
    ((conv => whnf) <;> repeat (refine obl_ ?_; conv => whnf))
    (refine ⟨_, _, ?_, rfl, rfl, rfl⟩; decide)
  have hf' : ¬ (findS 2 m.ref s.pa) < 0 := of_decide_eq_false hf
  obtain ⟨hz0, hz1, hz2⟩ := find_lt hf'
  have hP := hs.pa _ (getD_mem zPa hz2)
  ((conv => whnf) <;> repeat (refine obl_ ?_; conv => whnf))
  refine cond_ (fun hq => ?_) (fun hq => ?_)
  · rw [moveR_3b h' hf' rfl (of_decide_eq_true hq)]
    ((conv => whnf) <;> repeat (refine obl_ ?_; conv => whnf))
    (refine ⟨_, _, ?_, rfl, rfl, rfl⟩; decide)
  have hq' := of_decide_eq_false hq
  have hlot := pB2_lot hz2 m.qty (partS (wr ((s.pa.getD (findS 2 m.ref s.pa).toNat zPa).value - (s.pa.getD (findS 2 m.ref s.pa).toNat zPa).uval)) m.qty (wr ((s.pa.getD (findS 2 m.ref s.pa).toNat zPa).qty - (s.pa.getD (findS 2 m.ref s.pa).toNat zPa).used)))
  have hpa := pB2_eq hz2 m.qty (partS (wr ((s.pa.getD (findS 2 m.ref s.pa).toNat zPa).value - (s.pa.getD (findS 2 m.ref s.pa).toNat zPa).uval)) m.qty (wr ((s.pa.getD (findS 2 m.ref s.pa).toNat zPa).qty - (s.pa.getD (findS 2 m.ref s.pa).toNat zPa).used)))
  rw [moveR_3 h' hf' rfl hq', ← pB2_eq hz2, ← hlot]
  ((conv => whnf) <;> repeat (refine obl_ ?_; conv => whnf))
  (refine ⟨_, _, ?_, rfl, rfl, rfl⟩; decide)
theorem rmove4 {g : G} (s : St) (m : Mv) (hs : StI s) (hm : MvI m) (n1 : s.la.length < 400000000) (n2 : s.pa.length < 1000000000) (h' : m.kind = 4) :
    awp Tryd.prog g (cx CR 77) (Func.body Tryd.f26 |>.getD .skip) ⟨argTm 0 [.agg [.v (.int .i64 s.q), .v (.int .i64 s.v), .v (.int .i64 s.pr), .row 0, .row 1], .agg (mvL m)], [], [(0, some ⟨.la, s.la, true⟩), (1, some ⟨.pa, s.pa, true⟩)]⟩ (fun e A1 => match e with | .e _ => False | _ => ResP tab (Func.results Tryd.f26).toList A1 (fun v => MoveK s.q s.v s.pr (moveR s m) v A1)) := by
  have l1 : s.la.length < 400000010 := by omega
  have l2 : s.pa.length ≤ 1000000000 := by omega
  have hqty := hm.qty
  have hcost := hm.cost
  have k0 := h'
  unfold mvL
  ((conv => whnf) <;> repeat (refine obl_ ?_; conv => whnf))
  refine cond_ (fun h => absurd (k0.symm.trans (beq_iff_eq.1 h)) (by decide)) (fun _ => ?_)
  ((conv => whnf) <;> repeat (refine obl_ ?_; conv => whnf))
  refine cond_ (fun h => absurd (k0.symm.trans (beq_iff_eq.1 h)) (by decide)) (fun _ => ?_)
  ((conv => whnf) <;> repeat (refine obl_ ?_; conv => whnf))
  refine cond_ (fun h => absurd (k0.symm.trans (beq_iff_eq.1 h)) (by decide)) (fun _ => ?_)
  ((conv => whnf) <;> repeat (refine obl_ ?_; conv => whnf))
  refine cond_ (fun _ => ?_) (fun h => (beq_ne h k0).elim)
  ((conv => whnf) <;> repeat (refine obl_ ?_; conv => whnf))
  refine InlP.intro (X' := ⟨tab, CR, 1000, 77⟩) cx_at mixed_ok Tryd.func52 (by kernel_rfl) rfl rfl (le_of_ble (by kernel_rfl)) (by kernel_rfl) ?_
  ((conv => whnf) <;> repeat (refine obl_ ?_; conv => whnf))
  refine InlP.intro (X' := ⟨tab, CR, 2000, 35⟩) cx_at mixed_ok Tryd.func72 (by kernel_rfl) rfl rfl (le_of_ble (by kernel_rfl)) (by kernel_rfl) ?_
  ((conv => whnf) <;> repeat (refine obl_ ?_; conv => whnf))
  refine cond_ (fun h => absurd (k0.symm.trans (beq_iff_eq.1 h)) (by decide)) (fun _ => ?_)
  ((conv => whnf) <;> repeat (refine obl_ ?_; conv => whnf))
  refine cond_ (fun hf => ?_) (fun hf => ?_)
  · have hf' : (findS 1 m.ref s.pa) < 0 := of_decide_eq_true hf
    rw [moveR_4a h' hf']
    ((conv => whnf) <;> repeat (refine obl_ ?_; conv => whnf))
    (refine ⟨_, _, ?_, rfl, rfl, rfl⟩; decide)
  have hf' : ¬ (findS 1 m.ref s.pa) < 0 := of_decide_eq_false hf
  obtain ⟨hz0, hz1, hz2⟩ := find_lt hf'
  have hP := hs.pa _ (getD_mem zPa hz2)
  ((conv => whnf) <;> repeat (refine obl_ ?_; conv => whnf))
  refine cond_ (fun hq => ?_) (fun hq => ?_)
  · rw [moveR_4b h' hf' rfl (of_decide_eq_true hq)]
    ((conv => whnf) <;> repeat (refine obl_ ?_; conv => whnf))
    (refine ⟨_, _, ?_, rfl, rfl, rfl⟩; decide)
  have hq' := of_decide_eq_false hq
  ((conv => whnf) <;> repeat (refine obl_ ?_; conv => whnf))
  refine cond_ (fun hlt => ?_) (fun hlt => ?_)
  · rw [moveR_4c h' hf' rfl hq' (of_decide_eq_true hlt)]
    ((conv => whnf) <;> repeat (refine obl_ ?_; conv => whnf))
    (refine ⟨_, _, ?_, rfl, rfl, rfl⟩; decide)
  have v1 := valR_i hs.la (s.pa.getD (findS 1 m.ref s.pa).toNat zPa).lot
  have v2 := qtyR_i hs.la (s.pa.getD (findS 1 m.ref s.pa).toNat zPa).lot
  rw [moveR_4 h' hf' rfl hq' (of_decide_eq_false hlt) rfl]
  ((conv => whnf) <;> repeat (refine obl_ ?_; conv => whnf))
  (refine ⟨_, _, ?_, rfl, rfl, rfl⟩; decide)
theorem rmove5 {g : G} (s : St) (m : Mv) (hs : StI s) (hm : MvI m) (n1 : s.la.length < 400000000) (n2 : s.pa.length < 1000000000) (h' : m.kind = 5) :
    awp Tryd.prog g (cx CR 77) (Func.body Tryd.f26 |>.getD .skip) ⟨argTm 0 [.agg [.v (.int .i64 s.q), .v (.int .i64 s.v), .v (.int .i64 s.pr), .row 0, .row 1], .agg (mvL m)], [], [(0, some ⟨.la, s.la, true⟩), (1, some ⟨.pa, s.pa, true⟩)]⟩ (fun e A1 => match e with | .e _ => False | _ => ResP tab (Func.results Tryd.f26).toList A1 (fun v => MoveK s.q s.v s.pr (moveR s m) v A1)) := by
  have l1 : s.la.length < 400000010 := by omega
  have l2 : s.pa.length ≤ 1000000000 := by omega
  have hqty := hm.qty
  have hcost := hm.cost
  have k0 := h'
  unfold mvL
  ((conv => whnf) <;> repeat (refine obl_ ?_; conv => whnf))
  refine cond_ (fun h => absurd (k0.symm.trans (beq_iff_eq.1 h)) (by decide)) (fun _ => ?_)
  ((conv => whnf) <;> repeat (refine obl_ ?_; conv => whnf))
  refine cond_ (fun h => absurd (k0.symm.trans (beq_iff_eq.1 h)) (by decide)) (fun _ => ?_)
  ((conv => whnf) <;> repeat (refine obl_ ?_; conv => whnf))
  refine cond_ (fun h => absurd (k0.symm.trans (beq_iff_eq.1 h)) (by decide)) (fun _ => ?_)
  ((conv => whnf) <;> repeat (refine obl_ ?_; conv => whnf))
  refine cond_ (fun h => absurd (k0.symm.trans (beq_iff_eq.1 h)) (by decide)) (fun _ => ?_)
  ((conv => whnf) <;> repeat (refine obl_ ?_; conv => whnf))
  refine cond_ (fun _ => ?_) (fun h => (beq_ne h k0).elim)
  ((conv => whnf) <;> repeat (refine obl_ ?_; conv => whnf))
  refine InlP.intro (X' := ⟨tab, CR, 1000, 58⟩) cx_at mixed_ok Tryd.func53 (by kernel_rfl) rfl rfl (le_of_ble (by kernel_rfl)) (by kernel_rfl) ?_
  ((conv => whnf) <;> repeat (refine obl_ ?_; conv => whnf))
  refine cond_ (fun hf => ?_) (fun hf => ?_)
  · have hf' : (findS 1 m.ref s.pa) < 0 := of_decide_eq_true hf
    rw [moveR_5a h' hf']
    ((conv => whnf) <;> repeat (refine obl_ ?_; conv => whnf))
    (refine ⟨_, _, ?_, rfl, rfl, rfl⟩; decide)
  have hf' : ¬ (findS 1 m.ref s.pa) < 0 := of_decide_eq_false hf
  obtain ⟨hz0, hz1, hz2⟩ := find_lt hf'
  have hP := hs.pa _ (getD_mem zPa hz2)
  have hP1 := hP.2.2.1
  ((conv => whnf) <;> repeat (refine obl_ ?_; conv => whnf))
  refine cond_ (fun h0 => ?_) (fun h0 => ?_)
  · have h0' : minS (s.pa.getD (findS 1 m.ref s.pa).toNat zPa).qty (qtyR (s.pa.getD (findS 1 m.ref s.pa).toNat zPa).lot s.la) = 0 := beq_iff_eq.1 h0
    rw [moveR_5c h' hf' rfl h0']
    ((conv => whnf) <;> repeat (refine obl_ ?_; conv => whnf))
    (refine ⟨_, _, ?_, rfl, rfl, rfl⟩; decide)
  have h0' : ¬ minS (s.pa.getD (findS 1 m.ref s.pa).toNat zPa).qty (qtyR (s.pa.getD (findS 1 m.ref s.pa).toNat zPa).lot s.la) = 0 := fun e => beq_ne h0 e
  have hmin : I64 (minS (s.pa.getD (findS 1 m.ref s.pa).toNat zPa).qty (qtyR (s.pa.getD (findS 1 m.ref s.pa).toNat zPa).lot s.la)) := minS_i hP1 (qtyR_i hs.la _)
  rw [moveR_5 h' hf' rfl h0' rfl]
  ((conv => whnf) <;> repeat (refine obl_ ?_; conv => whnf))
  (refine ⟨_, _, ?_, rfl, rfl, rfl⟩; decide)
theorem rmove0 {g : G} (s : St) (m : Mv) (hs : StI s) (hm : MvI m) (n1 : s.la.length < 400000000) (n2 : s.pa.length < 1000000000) (k1 : m.kind ≠ 1) (k2 : m.kind ≠ 2) (k3 : m.kind ≠ 3) (k4 : m.kind ≠ 4) (k5 : m.kind ≠ 5) :
    awp Tryd.prog g (cx CR 77) (Func.body Tryd.f26 |>.getD .skip) ⟨argTm 0 [.agg [.v (.int .i64 s.q), .v (.int .i64 s.v), .v (.int .i64 s.pr), .row 0, .row 1], .agg (mvL m)], [], [(0, some ⟨.la, s.la, true⟩), (1, some ⟨.pa, s.pa, true⟩)]⟩ (fun e A1 => match e with | .e _ => False | _ => ResP tab (Func.results Tryd.f26).toList A1 (fun v => MoveK s.q s.v s.pr (moveR s m) v A1)) := by
  have l1 : s.la.length < 400000010 := by omega
  have l2 : s.pa.length ≤ 1000000000 := by omega
  have hqty := hm.qty
  have hcost := hm.cost
  unfold mvL
  ((conv => whnf) <;> repeat (refine obl_ ?_; conv => whnf))
  refine cond_ (fun h => absurd (beq_iff_eq.1 h) k1) (fun _ => ?_)
  ((conv => whnf) <;> repeat (refine obl_ ?_; conv => whnf))
  refine cond_ (fun h => absurd (beq_iff_eq.1 h) k2) (fun _ => ?_)
  ((conv => whnf) <;> repeat (refine obl_ ?_; conv => whnf))
  refine cond_ (fun h => absurd (beq_iff_eq.1 h) k3) (fun _ => ?_)
  ((conv => whnf) <;> repeat (refine obl_ ?_; conv => whnf))
  refine cond_ (fun h => absurd (beq_iff_eq.1 h) k4) (fun _ => ?_)
  ((conv => whnf) <;> repeat (refine obl_ ?_; conv => whnf))
  refine cond_ (fun h => absurd (beq_iff_eq.1 h) k5) (fun _ => ?_)
  ((conv => whnf) <;> repeat (refine obl_ ?_; conv => whnf))
  rw [moveR_0 k1 k2 k3 k4 k5]
  (refine ⟨_, _, ?_, rfl, rfl, rfl⟩; decide)
theorem rmove_awp {g : G} (s : St) (m : Mv) (hs : StI s) (hm : MvI m) (n1 : s.la.length < 400000000) (n2 : s.pa.length < 1000000000) :
    awp Tryd.prog g (cx CR 77) (Func.body Tryd.f26 |>.getD .skip) ⟨argTm 0 [.agg [.v (.int .i64 s.q), .v (.int .i64 s.v), .v (.int .i64 s.pr), .row 0, .row 1], .agg (mvL m)], [], [(0, some ⟨.la, s.la, true⟩), (1, some ⟨.pa, s.pa, true⟩)]⟩ (fun e A1 => match e with | .e _ => False | _ => ResP tab (Func.results Tryd.f26).toList A1 (fun v => MoveK s.q s.v s.pr (moveR s m) v A1)) := by
  by_cases k1 : m.kind = 1
  · exact rmove1 s m hs hm n1 n2 k1
  by_cases k2 : m.kind = 2
  · exact rmove2 s m hs hm n1 n2 k2
  by_cases k3 : m.kind = 3
  · exact rmove3 s m hs hm n1 n2 k3
  by_cases k4 : m.kind = 4
  · exact rmove4 s m hs hm n1 n2 k4
  by_cases k5 : m.kind = 5
  · exact rmove5 s m hs hm n1 n2 k5
  exact rmove0 s m hs hm n1 n2 k1 k2 k3 k4 k5
end Go.Proofs.YtcjdkaigimcofaaDoor.Ff

/- accountingref37.Step. No condition but 64 bits. -/
namespace Go.Proofs.YtcjdkaigimcofaaDoor.Ff
open Go.RowKit Go.Proofs.YtcjdkaigimcofaaDoorW.PrintWords Go.Proofs.YtcjdkaigimcofaaDoor.Ex
set_option linter.unusedVariables false
set_option linter.unusedSimpArgs false
set_option maxRecDepth 100000
theorem addR_len (la : List La) (lot : ByteArray) (q v : Int) : (addR la lot q v).length ≤ la.length + 1 := by
  unfold addR
  have h : ∀ (la : List La) (Q V : Int) (d : Bool), (putR lot Q V la d).length ≤ la.length + (if d = true then 0 else 1) := by
    intro la Q V
    induction la with
    | nil =>
      intro d
      cases d <;> simp [putR]
    | cons x r ih =>
      intro d
      have h1 := ih true
      have h2 := ih d
      unfold putR
      cases d <;> cases strLt x.lot lot <;> simp at h1 h2 ⊢ <;> split <;> simp <;> omega
  have := h la (wr (qtyR lot la + q)) (wr (valR lot la + v)) (wr (qtyR lot la + q) == 0)
  split at this <;> omega
theorem moveR_seq {s : St} {m : Mv} (h : (moveR s m).1 = 0) : (moveR s m).2.1.seq = m.seq := by
  generalize hr : moveR s m = r at *
  unfold moveR at hr
  simp only at hr
  repeat' split at hr
  all_goals subst hr
  all_goals first
    | rfl
    | exact absurd h (by simp)
theorem rmove_calls {W : World} {LV PV : Value} {p1 p2 : Nat → Prop} (s : St) (m : Mv) (h1 : OwnR W p1 .la LV s.la) (h2 : OwnR W p2 .pa PV s.pa) (ha : Apart PV LV) (hs : StI s) (hm : MvI m) (n1 : s.la.length < 400000000) (n2 : s.pa.length < 1000000000) :
    Calls Tryd.prog 26 #[.agg #[.int .i64 s.q, .int .i64 s.v, .int .i64 s.pr, LV, PV], .agg (mvC m).toArray] W fun e w1 => ∃ V1 V2, e = .returned (.tuple #[.agg #[.int .i64 s.q, .int .i64 s.v, .int .i64 s.pr, V1, V2], .agg #[.int .i64 0, .int .i64 (moveR s m).2.1.qty, .int .i64 (moveR s m).2.1.value, .int .i64 (moveR s m).2.1.var], .int .i64 (moveR s m).1]) ∧
      OwnR w1 (fun b => S2 LV PV b ∨ W.heap.size ≤ b) .la V1 (moveR s m).2.2.1 ∧ OwnR w1 (fun b => S2 LV PV b ∨ W.heap.size ≤ b) .pa V2 (moveR s m).2.2.2 ∧ Apart V1 V2 ∧ Apart V2 V1 ∧ Chg W w1 (S2 LV PV) := by
  obtain ⟨ρ, e1, e2, hS⟩ := start2own (S := S2 LV PV) (h1.mono fun b hb _ => ⟨Nat.zero_le _, .inl (.inl hb)⟩) (h2.mono fun b hb _ => ⟨Nat.zero_le _, .inl (.inr hb)⟩) ha
  refine (calls_awp (f := 26) (vs := [.agg #[.int .i64 s.q, .int .i64 s.v, .int .i64 s.pr, LV, PV], .agg (mvC m).toArray]) (cx_ok cr_ok) mixed_ok Tryd.func26 rfl rfl hS (avs := [.agg [.v (.int .i64 s.q), .v (.int .i64 s.v), .v (.int .i64 s.pr), .row 0, .row 1], .agg (mvL m)])
    (fun ρ' h => ⟨⟨_, rfl, rfl, rfl, rfl, row_own h (by simp [findR]) e1 h1, row_own h (by simp [findR]) e2 h2, trivial⟩, mvL_args m ρ', trivial⟩) (le_of_ble (by kernel_rfl)) (K := fun v A1 => MoveK s.q s.v s.pr (moveR s m) v A1) (rmove_awp s m hs hm n1 n2)).mono ?_
  rintro e w1 ⟨x, v, A1, ρ1, a1, rfl, hv, ⟨k1, k2, hne, rfl, f1, f2⟩, hS1, _⟩
  obtain ⟨us, eu, hu⟩ := hv
  match us, hu with
  | [u1, u2, u3], ⟨⟨vs1, c1, d1⟩, ⟨vs2, c2, d2⟩, c3, _⟩ =>
    match vs1, d1, vs2, d2 with
    | [a1, a2, a3, a4, a5], ⟨b1, b2, b3, b4, b5, _⟩, [a6, a7, a8, a9], ⟨b6, b7, b8, b9, _⟩ =>
      simp only [L.rel] at b1 b2 b3 b4 b5 b6 b7 b8 b9
      have c3' : u3 = _ := c3
      obtain ⟨b4, _⟩ := b4
      obtain ⟨b5, _⟩ := b5
      subst eu c1 c2 c3' b1 b2 b3 b4 b5 b6 b7 b8 b9
      refine ⟨_, _, rfl, (hS1.ownR f1).mono (fun b _ hb => hb.2), (hS1.ownR f2).mono (fun b _ hb => hb.2), hS1.apart f1 f2 rfl rfl hne, hS1.apart f2 f1 rfl rfl (Ne.symm hne), hS1.chg⟩
def moveM (s : St) (m : Mv) (r1 r2 d : Nat) (k : AV → M) : M := .ob (StI s ∧ MvI m ∧ s.la.length < 400000000 ∧ s.pa.length < 1000000000) (.wr (.r r1) (.row none) (.wr (.r r2) (.row none)
  (new2 d ⟨.la, (moveR s m).2.2.1, true⟩ ⟨.pa, (moveR s m).2.2.2, true⟩ (k (.tup [(true, [.v (.int .i64 s.q), .v (.int .i64 s.v), .v (.int .i64 s.pr), .row d, .row (d + 500)]), (true, [.v (.int .i64 0), .v (.int .i64 (moveR s m).2.1.qty), .v (.int .i64 (moveR s m).2.1.value), .v (.int .i64 (moveR s m).2.1.var)]), (false, [.v (.int .i64 (moveR s m).1)])])))))
def spMove : Sp := fun d args k => match args with
  | [.agg [.v (.int .i64 q), .v (.int .i64 v), .v (.int .i64 pr), .row r1, .row r2], .agg [.v (.int .i64 m1), .v (.int .i64 m2), .v (.string m3), .v (.int .i64 m4), .v (.int .i64 m5), .v (.int .i64 m6), .v (.string m7), .v (.int .i64 m8)]] =>
    match Nat.beq r1 r2 with
    | false => rdOwn .la r1 fun la => rdOwn .pa r2 fun pa => moveM ⟨q, v, pr, la, pa⟩ ⟨m1, m2, m3, m4, m5, m6, m7, m8⟩ r1 r2 d k
    | true => .fail
  | _ => .fail
theorem rmove_ok {g : G} {bs : Nat} : SpOk Tryd.prog g bs 26 spMove := sp_kill2 ⟨_, Tryd.func26, by decide +kernel, rfl⟩ (by
  intro d args k A r h hb
  unfold spMove at h hb
  split at h
  · rename_i q v pr r1 r2 m1 m2 m3 m4 m5 m6 m7 m8
    split at h
    · rename_i e5
      simp only [e5] at hb
      obtain ⟨la, f1, h1, hb1⟩ := rdOwn_s h hb
      obtain ⟨pa, f2, h2, hb2⟩ := rdOwn_s h1 hb1
      unfold moveM at h2 hb2
      simp only [M.go, AS.set] at h2
      simp only [M.obl, AS.set] at hb2
      refine ⟨_, r1, r2, _, _, _, _, _, _, f1, rfl, f2, rfl, Nat.ne_of_beq_eq_false e5, h2, hb2.2, fun ρ a0 w vs hR hv => ?_⟩
      have o1 := hR.rw r1 _ f1
      have o2 := hR.rw r2 _ f2
      unfold Row.rel at o1 o2
      rw [if_pos rfl] at o1 o2
      match vs, hv with
      | [v1, v2], ⟨⟨us, c1, hu⟩, ⟨ws, c2, hw⟩, _⟩ =>
        match us, hu, ws, hw with
        | [u1, u2, u3, u4, u5], ⟨b1, b2, b3, b4, b5, _⟩, [w1, w2, w3, w4, w5, w6, w7, w8], ⟨j1, j2, j3, j4, j5, j6, j7, j8, _⟩ =>
          simp only [L.rel] at b1 b2 b3 b4 b5 j1 j2 j3 j4 j5 j6 j7 j8
          obtain ⟨b4, _⟩ := b4
          obtain ⟨b5, _⟩ := b5
          subst c1 c2 b1 b2 b3 b4 b5 j1 j2 j3 j4 j5 j6 j7 j8
          refine (rmove_calls ⟨q, v, pr, la, pa⟩ ⟨m1, m2, m3, m4, m5, m6, m7, m8⟩ o1 o2 (fun b hb => hR.rr r2 _ r1 _ f2 f1 rfl rfl (Ne.symm (Nat.ne_of_beq_eq_false e5)) b hb) hb2.1.1 hb2.1.2.1 hb2.1.2.2.1 hb2.1.2.2.2).mono ?_
          rintro e w1 ⟨V1, V2, rfl, p1, p2, a1, a2, hc⟩
          exact ⟨_, V1, V2, rfl, fun ρ' r1 r2 => ⟨_, rfl, ⟨_, rfl, rfl, rfl, rfl, own_row p1 r1, own_row p2 r2, trivial⟩, ⟨_, rfl, rfl, rfl, rfl, rfl, trivial⟩, rfl, trivial⟩, p1, p2, a1, a2, hc⟩
    · cases h
  · cases h)
section
variable {s : St} {m : Mv}
theorem stepR_1 (h : oneM m ≠ 0) : stepR s m = (oneM m, zSt, zC 0) := by
  unfold stepR; simp only; rw [if_pos h]
theorem stepR_2 (h : ¬ oneM m ≠ 0) (h2 : knR s.pa m.seq = true) : stepR s m = (8, zSt, zC 0) := by
  unfold stepR; simp only; rw [if_neg h, if_pos h2]
theorem stepR_3 (h : ¬ oneM m ≠ 0) (h2 : ¬ knR s.pa m.seq = true) (h3 : (moveR s m).1 ≠ 0) : stepR s m = ((moveR s m).1, zSt, zC 0) := by
  unfold stepR; simp only; rw [if_neg h, if_neg h2, if_pos h3]
theorem stepR_4 (h : ¬ oneM m ≠ 0) (h2 : ¬ knR s.pa m.seq = true) (h3 : ¬ (moveR s m).1 ≠ 0) (h4 : overS (wr (s.q + (moveR s m).2.1.qty)) (wr (s.v + (moveR s m).2.1.value)) (moveR s m).2.1.var (moveR s m).2.2.1 = true) : stepR s m = (4, zSt, zC 0) := by
  unfold stepR; simp only; rw [if_neg h, if_neg h2, if_neg h3, if_pos h4]
theorem stepR_5 (h : ¬ oneM m ≠ 0) (h2 : ¬ knR s.pa m.seq = true) (h3 : ¬ (moveR s m).1 ≠ 0) (h4 : ¬ overS (wr (s.q + (moveR s m).2.1.qty)) (wr (s.v + (moveR s m).2.1.value)) (moveR s m).2.1.var (moveR s m).2.2.1 = true) : stepR s m = (0, ⟨wr (s.q + (moveR s m).2.1.qty), wr (s.v + (moveR s m).2.1.value), s.pr, (moveR s m).2.2.1, (moveR s m).2.2.2⟩, (moveR s m).2.1) := by
  unfold stepR; simp only; rw [if_neg h, if_neg h2, if_neg h3, if_neg h4]
end
theorem stepR_z {s : St} {m : Mv} (h : (stepR s m).1 ≠ 0) : (stepR s m).2.1 = zSt ∧ (stepR s m).2.2 = zC 0 := by
  by_cases h1 : oneM m ≠ 0
  · rw [stepR_1 h1]; exact ⟨rfl, rfl⟩
  by_cases h2 : knR s.pa m.seq = true
  · rw [stepR_2 h1 h2]; exact ⟨rfl, rfl⟩
  by_cases h3 : (moveR s m).1 ≠ 0
  · rw [stepR_3 h1 h2 h3]; exact ⟨rfl, rfl⟩
  by_cases h4 : overS (wr (s.q + (moveR s m).2.1.qty)) (wr (s.v + (moveR s m).2.1.value)) (moveR s m).2.1.var (moveR s m).2.2.1 = true
  · rw [stepR_4 h1 h2 h3 h4]; exact ⟨rfl, rfl⟩
  · rw [stepR_5 h1 h2 h3 h4] at h; exact absurd rfl h
def CS : List (Nat × Sp) := [(48, spFind), (27, spFits), (18, spClone), (26, spMove), (24, spOne)]
theorem cs_ok {g : G} {n : Nat} : ∀ f sp, lookC CS f = some sp → SpOk Tryd.prog g n f sp := spc_cons find_ok (spc_cons fits_ok (spc_cons Clone_ok (spc_cons rmove_ok (spc_cons rone_ok spc_nil))))
theorem cs_at {g : G} {b nt : Nat} : CxOk Tryd.prog g ⟨tab, CS, b, nt⟩ := ⟨tab_ok, elt_ok, cs_ok⟩
theorem rstep_calls {W : World} {LV PV : Value} (s : St) (m : Mv) (h1 : Src W LV .la s.la) (h2 : Src W PV .pa s.pa) (hs : StI s) (hm : MvI m) (n1 : s.la.length < 400000000) (n2 : s.pa.length < 1000000000) (z1 : m.item.size ≤ 140737488351232) (z2 : m.lot.size ≤ 140737488351232) :
    Calls Tryd.prog 11 #[.agg #[.int .i64 s.q, .int .i64 s.v, .int .i64 s.pr, LV, PV], .agg (mvC m).toArray] W fun e w1 => StepW W w1 (stepR s m) e := by
  obtain ⟨ρ, e1, e2, hS⟩ := start2 h1 h2
  refine (calls_awp (f := 11) (vs := [.agg #[.int .i64 s.q, .int .i64 s.v, .int .i64 s.pr, LV, PV], .agg (mvC m).toArray]) (cx_ok cs_ok) mixed_ok Tryd.func11 rfl rfl hS (avs := [.agg [.v (.int .i64 s.q), .v (.int .i64 s.v), .v (.int .i64 s.pr), .row 0, .row 1], .agg (mvL m)])
    (fun ρ' h => ⟨⟨_, rfl, rfl, rfl, rfl, row_rel h (by simp [findR]) e1 h1, row_rel h (by simp [findR]) e2 h2, trivial⟩, mvL_args m ρ', trivial⟩) (le_of_ble (by kernel_rfl)) (K := fun v A1 => StepK (stepR s m) v A1) ?_).mono ?_
  · unfold mvL
    ((conv => whnf) <;> repeat (refine obl_ ?_; conv => whnf))
    refine cond_ (fun ho => ?_) (fun ho => ?_)
    · have ho' : oneM m ≠ 0 := bne_iff_ne.1 ho
      rw [stepR_1 ho']
      ((conv => whnf) <;> repeat (refine obl_ ?_; conv => whnf))
      exact .inl ⟨ho', rfl⟩
    have ho' : ¬ oneM m ≠ 0 := fun e => by
      have : (oneM m != 0) = false := ho
      simp at this
      exact e this
    ((conv => whnf) <;> repeat (refine obl_ ?_; conv => whnf))
    refine InlP.intro (X' := ⟨tab, CS, 1000, 15⟩) cs_at mixed_ok Tryd.func25 (by kernel_rfl) rfl rfl (le_of_ble (by kernel_rfl)) (by kernel_rfl) ?_
    ((conv => whnf) <;> repeat (refine obl_ ?_; conv => whnf))
    refine cond_ (fun hk => ?_) (fun hk => ?_)
    · have hk' : decide (0 ≤ findS 1 m.seq s.pa) = true := hk
      rw [stepR_2 ho' (by unfold knR; rw [hk', Bool.true_or])]
      ((conv => whnf) <;> repeat (refine obl_ ?_; conv => whnf))
      exact .inl ⟨by decide, rfl⟩
    have hk' : decide (0 ≤ findS 1 m.seq s.pa) = false := hk
    ((conv => whnf) <;> repeat (refine obl_ ?_; conv => whnf))
    refine cond_ (fun hk2 => ?_) (fun hk2 => ?_)
    · have hk2' : decide (0 ≤ findS 2 m.seq s.pa) = true := hk2
      rw [stepR_2 ho' (by unfold knR; rw [hk2', Bool.or_true])]
      ((conv => whnf) <;> repeat (refine obl_ ?_; conv => whnf))
      exact .inl ⟨by decide, rfl⟩
    have hk2' : decide (0 ≤ findS 2 m.seq s.pa) = false := hk2
    have hkn : ¬ knR s.pa m.seq = true := by unfold knR; rw [hk', hk2']; decide
    ((conv => whnf) <;> repeat (refine obl_ ?_; conv => whnf))
    refine cond_ (fun he => ?_) (fun he => ?_)
    · have he' : (moveR s m).1 ≠ 0 := bne_iff_ne.1 he
      rw [stepR_3 ho' hkn he']
      ((conv => whnf) <;> repeat (refine obl_ ?_; conv => whnf))
      exact .inl ⟨he', rfl⟩
    have he' : ¬ (moveR s m).1 ≠ 0 := fun e => by
      have : ((moveR s m).1 != 0) = false := he
      simp at this
      exact e this
    ((conv => whnf) <;> repeat (refine obl_ ?_; conv => whnf))
    refine cond_ (fun hv => ?_) (fun hv => ?_)
    · have hv' : overS (wr (s.q + (moveR s m).2.1.qty)) (wr (s.v + (moveR s m).2.1.value)) (moveR s m).2.1.var (moveR s m).2.2.1 = true := by
        have : (!(!overS (wr (s.q + (moveR s m).2.1.qty)) (wr (s.v + (moveR s m).2.1.value)) (moveR s m).2.1.var (moveR s m).2.2.1)) = true := hv
        simpa using this
      rw [stepR_4 ho' hkn he' hv']
      ((conv => whnf) <;> repeat (refine obl_ ?_; conv => whnf))
      exact .inl ⟨by decide, rfl⟩
    have hv' : ¬ overS (wr (s.q + (moveR s m).2.1.qty)) (wr (s.v + (moveR s m).2.1.value)) (moveR s m).2.1.var (moveR s m).2.2.1 = true := by
      have : (!(!overS (wr (s.q + (moveR s m).2.1.qty)) (wr (s.v + (moveR s m).2.1.value)) (moveR s m).2.1.var (moveR s m).2.2.1)) = false := hv
      simpa using this
    rw [stepR_5 ho' hkn he' hv']
    ((conv => whnf) <;> repeat (refine obl_ ?_; conv => whnf))
    rw [moveR_seq (Classical.not_not.1 he')]
    refine .inr ⟨rfl, _, _, ?_, rfl, rfl, rfl⟩
    decide
  · rintro e w1 ⟨x, v, A1, ρ1, a1, rfl, hv, hk, hS1, _⟩
    exact stepW hS1 hv hk stepR_z
end Go.Proofs.YtcjdkaigimcofaaDoor.Ff

/- lots: the steps as callees. No condition but 64 bits. -/
namespace Go.Proofs.YtcjdkaigimcofaaDoor.Ff
open Go.RowKit Go.Proofs.YtcjdkaigimcofaaDoorW.PrintWords Go.Proofs.YtcjdkaigimcofaaDoor.Ex
set_option linter.unusedVariables false
set_option linter.unusedSimpArgs false
set_option maxRecDepth 100000
theorem takeS_int {la : List La} (h : ∀ x ∈ la, LaI x) (i : Nat) (q : Int) : (∀ x ∈ (takeS la i q).1, LaI x) ∧ I64 (takeS la i q).2 := by
  have hx : LaI (la.getD i zLa) := getD_all h i zLa_i
  unfold takeS
  simp only
  split
  · exact ⟨app_all (fun x hx => h x (List.mem_of_mem_take hx)) (fun x hx => h x (List.mem_of_mem_drop hx)), partS_i64 hx.2.2⟩
  · exact ⟨set_all h ⟨hx.1, i64_wrap _, i64_wrap _⟩, partS_i64 hx.2.2⟩
theorem addS_int {la : List La} (h : ∀ x ∈ la, LaI x) (lot : ByteArray) (q v : Int) : ∀ x ∈ addS la lot q v, LaI x := by
  have hx : LaI (la.getD (atL lot la) zLa) := getD_all h _ zLa_i
  unfold addS
  split
  · refine set_all h ?_
    exact ⟨hx.1, i64_wrap _, i64_wrap _⟩
  · refine app_all (fun x hx => h x (List.mem_of_mem_take hx)) (fun x hx => ?_)
    rcases List.mem_cons.1 hx with rfl | hx
    · exact ⟨i64_0, i64_wrap _, i64_wrap _⟩
    · exact h x (List.mem_of_mem_drop hx)
theorem moveS_int {lc : Bool} {s : St} {m : Mv} (hs : StI s) (hm : MvI m) : (∀ x ∈ (moveS lc s m).2.2.1, LaI x) ∧ (∀ x ∈ (moveS lc s m).2.2.2, PaI x) := by
  have hP2 := getD_all hs.pa (findS 2 m.ref s.pa).toNat zPa_i
  have hP1 := getD_all hs.pa (findS 1 m.ref s.pa).toNat zPa_i
  obtain ⟨b1, b2, b3, b4, b5⟩ := hm
  have t := fun lot => takeS_int hs.la (atL lot s.la) m.qty
  generalize hr : moveS lc s m = r
  unfold moveS at hr
  simp only at hr
  repeat' split at hr
  all_goals subst hr
  all_goals first
    | exact ⟨hs.la, hs.pa⟩
    | exact ⟨addS_int hs.la _ _ _, app_all hs.pa (one_all ⟨b1, b2, b3, b4, i64_0, i64_0⟩)⟩
    | exact ⟨(t _).1, app_all hs.pa (one_all ⟨b1, b2, b3, (t _).2, i64_0, i64_0⟩)⟩
    | exact ⟨addS_int hs.la _ _ _, hs.pa⟩
    | (refine ⟨addS_int hs.la _ _ _, set_all hs.pa ?_⟩; exact ⟨hP2.1, hP2.2.1, hP2.2.2.1, hP2.2.2.2.1, i64_wrap _, i64_wrap _⟩)
    | (refine ⟨(t _).1, set_all hs.pa ?_⟩; exact ⟨hP1.1, hP1.2.1, hP1.2.2.1, hP1.2.2.2.1, i64_wrap _, hP1.2.2.2.2.2⟩)
theorem stepS_f {kn : List Pa → Int → Bool} {lc : Bool} : StepF (stepS kn lc) where
  int := fun s m hs hm => by
    unfold stepS
    simp only
    repeat' split
    all_goals first
      | exact zSt_int
      | exact ⟨i64_wrap _, i64_wrap _, (moveS_int hs hm).1, (moveS_int hs hm).2⟩
  la := fun s m => by
    unfold stepS
    simp only
    repeat' split
    all_goals first
      | exact Nat.zero_le _
      | exact moveS_grow.1
  pa := fun s m => by
    unfold stepS
    simp only
    repeat' split
    all_goals first
      | exact Nat.zero_le _
      | exact moveS_grow.2
/-- The chapter's step. -/
def stpF : St → Mv → Int × St × Co := stepS knF true
theorem stpF_f : StepF stpF := stepS_f
theorem stpF_ok {g : G} {bs : Nat} (hL : Laid g.W0) (hS : ∀ i, ¬ g.S i) : SpOk Tryd.prog g bs 10 (spStep SmI stpF) := step_ok' ⟨_, Tryd.func10, by decide +kernel, rfl⟩ (fun ρ A a W hR s m LV PV h1 h2 h => fstep_calls (laid_of hL hS hR.kept.2) s m h1 h2 h.si h.mi h.la h.pa h.item h.lot)
theorem step_eq {s : St} {m : Mv} (hI : Inv s) : stpF s m = stepR s m := step_eq' hI
/-- The reference's step, told as the program's: on a stock in order. -/
def SmR (s : St) (m : Mv) : Prop := SmI s m ∧ Inv s
theorem stpR_ok {g : G} {bs : Nat} : SpOk Tryd.prog g bs 11 (spStep SmR stpF) := step_ok' ⟨_, Tryd.func11, by decide +kernel, rfl⟩ (fun ρ A a W hR s m LV PV h1 h2 h => by
  rw [step_eq h.2]
  exact rstep_calls s m h1 h2 h.1.si h.1.mi h.1.la h.1.pa h.1.item h.1.lot)
theorem Inv.next {s : St} (h : Inv s) (m : Mv) : Inv (if (stpF s m).1 = 0 then (stpF s m).2.1 else s) := by
  split
  · rename_i h1
    exact (step_ok h h1).inv
  · exact h
theorem play_inv : ∀ (l : List Mv) (s : St), Inv s → Inv (playF stpF l s)
  | [], s, h => h
  | m :: r, s, h => play_inv r _ (h.next m)
theorem play_pl : ∀ (l : List Mv) (s : St) (k : Nat), (∀ m ∈ l, MvI m) → PlI s k → PlI (playF stpF l s) (k + l.length)
  | [], s, k, _, h => h
  | m :: r, s, k, hl, h => by
    have := play_pl r _ (k + 1) (fun x hx => hl x (List.mem_cons_of_mem _ hx)) (h.next stpF_f (hl m List.mem_cons_self))
    simp only [List.length_cons]
    rw [show k + (r.length + 1) = k + 1 + r.length from by omega]
    exact this
/-- What a step without an error has done. -/
structure StF (s : St) (m : Mv) : Prop where
  one : OneF m
  inv : Inv (stpF s m).2.1
  seq : (stpF s m).2.2.seq = m.seq
  q : (stpF s m).2.1.q = s.q + (stpF s m).2.2.qty
  v : (stpF s m).2.1.v = s.v + (stpF s m).2.2.value
  q1 : -1000000000 ≤ (stpF s m).2.2.qty ∧ (stpF s m).2.2.qty ≤ 1000000000
  v1 : -1000000000000000 ≤ (stpF s m).2.2.value ∧ (stpF s m).2.2.value ≤ 1000000000000000
  pay : m.kind = 1 ∨ m.kind = 5 → (stpF s m).2.2.value + (stpF s m).2.2.var = m.cost
  pay4 : m.kind = 4 → (stpF s m).2.2.value + (stpF s m).2.2.var = -m.cost
theorem stF {s : St} {m : Mv} (hI : Inv s) (h : (stpF s m).1 = 0) : StF s m := by
  have K : StepOk knF true s m := step_ok hI h
  have e : stpF s m = (0, ⟨s.q + (moveS true s m).2.1.qty, s.v + (moveS true s m).2.1.value, s.pr, (moveS true s m).2.2.1, (moveS true s m).2.2.2⟩, (moveS true s m).2.1) := K.eq
  have M := K.ok
  have i : Inv (stpF s m).2.1 := K.inv
  rw [e] at i
  refine ⟨one_f K.one, by rw [e]; exact i, ?_, ?_, ?_, ?_, ?_, ?_, ?_⟩
  all_goals rw [e]
  · exact M.seq
  · exact M.q1
  · exact M.v1
  · exact M.pay
  · exact M.pay4
end Go.Proofs.YtcjdkaigimcofaaDoor.Ff

/- The law's own functions: movements played, a number that is not used. No condition but 64 bits. -/
namespace Go.Proofs.YtcjdkaigimcofaaDoor.Ff
open Go.RowKit Go.Proofs.YtcjdkaigimcofaaDoorW.PrintWords Go.Proofs.YtcjdkaigimcofaaDoor.Ex
set_option linter.unusedVariables false
set_option linter.unusedSimpArgs false
set_option maxRecDepth 100000
def CP : List (Nat × Sp) := [(10, spStep SmI stpF)]
theorem cp_ok {g : G} {n : Nat} (hL : Laid g.W0) (hS : ∀ i, ¬ g.S i) : ∀ f sp, lookC CP f = some sp → SpOk Tryd.prog g n f sp := spc_cons (stpF_ok hL hS) spc_nil
def playS (l : List Mv) : St := playF stpF (l.take 60) zSt
theorem play_calls {W : World} {V : Value} {l : List Mv} (hL : Laid W) (h1 : Src W V .mv l) (hl : MvsI l) :
    Calls Tryd.prog 14 #[V] W fun e w1 => NewSt W w1 (playS l).q (playS l).v (playS l).pr (playS l).la (playS l).pa e := by
  obtain ⟨ρ, e1, hS⟩ := start1 h1
  have hg : ∀ i, ¬ (gW W).S i := fun i h => h
  have n1 : l.length ≤ 9223372036854775807 := by obtain ⟨_, _, _, h, _⟩ := h1; exact h.2
  refine (calls_awp (f := 14) (vs := [V]) (cx_ok (C := CP) (nt := 33) (cp_ok hL hg)) mixed_ok Tryd.func14 rfl rfl hS (avs := [.one (.row 0)])
    (fun ρ' h => ⟨row_rel h (by simp [findR]) e1 h1, trivial⟩) (le_of_ble (by kernel_rfl)) (K := fun x A => ∃ k1 k2, k1 ≠ k2 ∧ x = .agg [.v (.int .i64 (playS l).q), .v (.int .i64 (playS l).v), .v (.int .i64 (playS l).pr), .row k1, .row k2] ∧ findR A.rw k1 = some (some ⟨.la, (playS l).la, true⟩) ∧ findR A.rw k2 = some (some ⟨.pa, (playS l).pa, true⟩)) ?_).mono ?_
  · ((conv => whnf) <;> repeat (refine obl_ ?_; conv => whnf))
    refine LoopP.introR (cx_ok (cp_ok hL hg)) mixed_ok (ι := Nat × St) (fun k => ⟨[(4, .one (.v (.int .i64 (k.1 : Int)))), (3, .one (.ptr 13 0)), (2, .one (.ptr 12 0)), (0, .one (.row 0))], [(13, 26, [.v (.int .i64 k.2.q), .v (.int .i64 k.2.v), .v (.int .i64 k.2.pr), .row 5000, .row 5001]), (12, 26, [.v (.int .i64 0), .v (.int .i64 0), .v (.int .i64 0), .v (.slice none 0 0), .v (.slice none 0 0)])], [(0, some ⟨.mv, l, false⟩), (5000, some ⟨.la, k.2.la, true⟩), (5001, some ⟨.pa, k.2.pa, true⟩)]⟩) (fun k => k.1 ≤ (l.take 60).length ∧ playS l = playF stpF ((l.take 60).drop k.1) k.2 ∧ PlI k.2 k.1) (fun k => 60 - k.1) (0, zSt) ⟨Nat.zero_le _, rfl, zSt_pl⟩ ⟨[(5000, none), (5001, none)], by (refine ⟨?_, ?_, ?_, by kernel_rfl⟩ <;> repeat' (first | exact trivial | exact rfl | assumption | apply And.intro))⟩ ?_
    rintro ⟨k, s⟩ ⟨hk, hp, hs⟩
    simp only at hk hp hs
    have hk' : k ≤ 60 ∧ k ≤ l.length := by simp at hk; omega
    ((conv => whnf) <;> repeat (refine obl_ ?_; conv => whnf))
    refine cond_ (fun h => ?_) (fun h => ?_)
    · have hlt := of_decide_eq_true h
      have i1 : 0 ≤ (k : Int) := by omega
      ((conv => whnf) <;> repeat (refine obl_ ?_; conv => whnf))
      refine cond_ (fun h2 => ?_) (fun h2 => ?_)
      · have hlt2 := of_decide_eq_true h2
        have hk2 : k < (l.take 60).length := by simp; omega
        have hkl : k < l.length := by omega
        have hsm : SmI s (l.getD k zMv) := hl.sm hkl hs.int (by have := hs.la; omega) (by have := hs.pa; omega)
        have hp2 := hp.trans (playF_drop hk2 s)
        have hs2 := hs.next stpF_f hsm.mi
        rw [show (l.take 60).getD k zMv = l.getD k zMv from by rw [List.getD_eq_getElem?_getD, List.getElem?_take_of_lt (by omega), ← List.getD_eq_getElem?_getD]] at hp2
        ((conv => whnf) <;> repeat (refine obl_ ?_; conv => whnf))
        refine cond_ (fun h3 => ?_) (fun h3 => ?_)
        · have h3' : (stpF s (l.getD k zMv)).1 = 0 := beq_iff_eq.1 h3
          rw [if_pos h3'] at hp2 hs2
          ((conv => whnf) <;> repeat (refine obl_ ?_; conv => whnf))
          refine ⟨(k + 1, (stpF s (l.getD k zMv)).2.1), ⟨hk2, hp2, hs2⟩, by omega, [(5000, some 35), (5001, some 535)], ?_⟩
          (refine ⟨?_, ?_, ?_, by kernel_rfl⟩ <;> repeat' (first | exact trivial | exact rfl | assumption | apply And.intro))
          exact up_ (by omega)
        · have h3' : ¬ (stpF s (l.getD k zMv)).1 = 0 := fun e => beq_ne h3 e
          rw [if_neg h3'] at hp2 hs2
          ((conv => whnf) <;> repeat (refine obl_ ?_; conv => whnf))
          refine ⟨(k + 1, s), ⟨hk2, hp2, hs2⟩, by omega, [], ?_⟩
          (refine ⟨?_, ?_, ?_, by kernel_rfl⟩ <;> repeat' (first | exact trivial | exact rfl | assumption | apply And.intro))
          exact up_ (by omega)
      · have hge := of_decide_eq_false h2
        have e : (l.take 60).drop k = [] := List.drop_eq_nil_of_le (by simp; omega)
        rw [e] at hp
        rw [show playS l = s from hp]
        ((conv => whnf) <;> repeat (refine obl_ ?_; conv => whnf))
        refine ⟨_, _, ?_, rfl, rfl, rfl⟩
        decide
    · have hge := of_decide_eq_false h
      have e : (l.take 60).drop k = [] := List.drop_eq_nil_of_le (by simp; omega)
      rw [e] at hp
      rw [show playS l = s from hp]
      ((conv => whnf) <;> repeat (refine obl_ ?_; conv => whnf))
      refine ⟨_, _, ?_, rfl, rfl, rfl⟩
      decide
  · rintro e w1 ⟨x, u, A1, ρ1, a1, rfl, hv, ⟨k1, k2, hne, e, f1, f2⟩, hS1, _⟩
    exact newSt hS1 hv e f1 f2 hne
def spPlay : Sp := fun d args k => match args with
  | [.one x] => rdRow .mv x fun l => .ob (MvsI l) (new2 d ⟨.la, (playS l).la, true⟩ ⟨.pa, (playS l).pa, true⟩ (k (.agg [.v (.int .i64 (playS l).q), .v (.int .i64 (playS l).v), .v (.int .i64 (playS l).pr), .row d, .row (d + 500)])))
  | _ => .fail
theorem play_ok {g : G} {bs : Nat} (hL : Laid g.W0) (hS : ∀ i, ¬ g.S i) : SpOk Tryd.prog g bs 14 spPlay := sp_new2 ⟨_, Tryd.func14, by decide +kernel, rfl⟩ (by
  intro d args k A r h hb
  unfold spPlay at h hb
  split at h
  · rename_i x
    obtain ⟨l, h1, hb1, hl⟩ := rdRow_s h hb
    simp only [M.go] at h1
    simp only [M.obl] at hb1
    refine ⟨_, _, _, _, _, h1, hb1.2, fun ρ a0 w vs hR hv => ?_⟩
    match vs, hv with
    | [v1], ⟨k1, _⟩ =>
      refine (play_calls (laid_of hL hS hR.kept.2) (hl _ _ _ _ _ hR k1) hb1.1).mono ?_
      rintro e w1 ⟨V1, V2, rfl, o1, o2, a1, a2, hbel⟩
      exact ⟨_, V1, V2, rfl, fun ρ' r1 r2 => ⟨_, rfl, rfl, rfl, rfl, own_row o1 r1, own_row o2 r2, trivial⟩, o1, o2, a1, a2, hbel⟩
  · cases h)
def CU : List (Nat × Sp) := [(48, spFind)]
theorem cu_ok {g : G} {n : Nat} : ∀ f sp, lookC CU f = some sp → SpOk Tryd.prog g n f sp := spc_cons find_ok spc_nil
theorem unused_calls {W : World} {LV PV : Value} {ls : List La} {ps : List Pa} (h1 : Src W LV .la ls) (h2 : Src W PV .pa ps) (q v pr : Int) (hlen : ps.length ≤ 1000000000) :
    Calls Tryd.prog 17 #[.agg #[.int .i64 q, .int .i64 v, .int .i64 pr, LV, PV]] W fun e w1 => e = .returned (.int .i64 (unusedS ps)) ∧ Below W.heap.size W w1 := by
  obtain ⟨ρ, e1, e2, hS⟩ := start2 h1 h2
  refine (calls_awp (f := 17) (vs := [.agg #[.int .i64 q, .int .i64 v, .int .i64 pr, LV, PV]]) (cx_ok (C := CU) (nt := 20) cu_ok) mixed_ok Tryd.func17 rfl rfl hS (avs := [.agg [.v (.int .i64 q), .v (.int .i64 v), .v (.int .i64 pr), .row 0, .row 1]])
    (fun ρ' h => ⟨⟨_, rfl, rfl, rfl, rfl, row_rel h (by simp [findR]) e1 h1, row_rel h (by simp [findR]) e2 h2, trivial⟩, trivial⟩) (le_of_ble (by kernel_rfl)) (K := fun x A => x = .one (.v (.int .i64 (unusedS ps)))) ?_).mono ?_
  · ((conv => whnf) <;> repeat (refine obl_ ?_; conv => whnf))
    refine LoopP.introR (cx_ok cu_ok) mixed_ok (ι := Nat) (fun k => ⟨[(3, .one (.v (.int .i64 ((k + 1 : Nat) : Int)))), (2, .one (.v (.int .i64 0))), (1, .one (.ptr 11 0))], [(11, 26, [.v (.int .i64 q), .v (.int .i64 v), .v (.int .i64 pr), .row 0, .row 1])], [(0, some ⟨.la, ls, false⟩), (1, some ⟨.pa, ps, false⟩)]⟩) (fun k => k ≤ ps.length ∧ unusedS ps = unuF ps (k + 1) (ps.length - k)) (fun k => ps.length - k) 0 ⟨Nat.zero_le _, rfl⟩ ⟨[], by (refine ⟨?_, ?_, ?_, by kernel_rfl⟩ <;> repeat' (first | exact trivial | exact rfl | assumption | apply And.intro))⟩ ?_
    rintro k ⟨hk, hu⟩
    ((conv => whnf) <;> repeat (refine obl_ ?_; conv => whnf))
    refine cond_ (fun h => ?_) (fun h => ?_)
    · have hlt := of_decide_eq_true h
      have hlt' : k < ps.length := by omega
      rw [show ps.length - k = (ps.length - (k + 1)) + 1 from by omega] at hu
      unfold unuF at hu
      ((conv => whnf) <;> repeat (refine obl_ ?_; conv => whnf))
      refine InlP.intro (X' := ⟨tab, CU, 1000, 15⟩) ⟨tab_ok, elt_ok, cu_ok⟩ mixed_ok Tryd.func25 (by kernel_rfl) rfl rfl (le_of_ble (by kernel_rfl)) (by kernel_rfl) ?_
      ((conv => whnf) <;> repeat (refine obl_ ?_; conv => whnf))
      refine cond_ (fun hx => ?_) (fun hx => ?_)
      · have hx' : decide (0 ≤ findS 1 ((k + 1 : Nat) : Int) ps) = true := hx
        have hkn : knR ps ((k + 1 : Nat) : Int) = true := by unfold knR; rw [hx']; rfl
        rw [if_pos hkn] at hu
        ((conv => whnf) <;> repeat (refine obl_ ?_; conv => whnf))
        refine ⟨k + 1, ⟨hlt', hu⟩, by omega, [], ?_⟩
        (refine ⟨?_, ?_, ?_, by kernel_rfl⟩ <;> repeat' (first | exact trivial | exact rfl | assumption | apply And.intro))
        exact up_ (k := k + 1) (by omega)
      · have hx' : decide (0 ≤ findS 1 ((k + 1 : Nat) : Int) ps) = false := hx
        ((conv => whnf) <;> repeat (refine obl_ ?_; conv => whnf))
        refine cond_ (fun hy => ?_) (fun hy => ?_)
        · have hy' : (!decide (0 ≤ findS 2 ((k + 1 : Nat) : Int) ps)) = true := hy
          have hkn : ¬ knR ps ((k + 1 : Nat) : Int) = true := by unfold knR; rw [hx']; simpa using hy'
          rw [if_neg hkn] at hu
          ((conv => whnf) <;> repeat (refine obl_ ?_; conv => whnf))
          exact int_ hu.symm
        · have hy' : (!decide (0 ≤ findS 2 ((k + 1 : Nat) : Int) ps)) = false := hy
          have hkn : knR ps ((k + 1 : Nat) : Int) = true := by unfold knR; rw [hx']; simpa using hy'
          rw [if_pos hkn] at hu
          ((conv => whnf) <;> repeat (refine obl_ ?_; conv => whnf))
          refine ⟨k + 1, ⟨hlt', hu⟩, by omega, [], ?_⟩
          (refine ⟨?_, ?_, ?_, by kernel_rfl⟩ <;> repeat' (first | exact trivial | exact rfl | assumption | apply And.intro))
          exact up_ (k := k + 1) (by omega)
    · have hge := of_decide_eq_false h
      rw [show ps.length - k = 0 from by omega] at hu
      unfold unuF at hu
      ((conv => whnf) <;> repeat (refine obl_ ?_; conv => whnf))
      exact int_ (by rw [hu, wrap_succ (by omega)]; omega)
  · rintro e w1 ⟨x, v, A1, ρ1, a1, rfl, hv, rfl, hS1, _⟩
    exact ⟨by rw [show x = _ from hv], hS1.rel.bel⟩
def spUnused : Sp := fun d args k => match args with
  | [.agg [.v (.int .i64 q), .v (.int .i64 v), .v (.int .i64 pr), x, y]] => rdRow .la x fun la => rdRow .pa y fun pa => .ob (pa.length ≤ 1000000000) (k (.one (.v (.int .i64 (unusedS pa)))))
  | _ => .fail
theorem unused_ok {g : G} {bs : Nat} : SpOk Tryd.prog g bs 17 spUnused := sp_val ⟨_, Tryd.func17, by decide +kernel, rfl⟩ (by
  intro d args k A r h hb
  unfold spUnused at h hb
  split at h
  · rename_i q v pr x y
    obtain ⟨la, h1, hb1, hl⟩ := rdRow_s h hb
    obtain ⟨pa, h2, hb2, hp⟩ := rdRow_s h1 hb1
    simp only [M.go] at h2
    simp only [M.obl] at hb2
    refine ⟨_, h2, hb2.2, fun ρ a0 w vs hR hv => ?_⟩
    match vs, hv with
    | [v1], ⟨⟨us, e1, hu⟩, _⟩ =>
      match us, hu with
      | [u1, u2, u3, u4, u5], ⟨k1, k2, k3, k4, k5, _⟩ =>
        simp only [L.rel] at k1 k2 k3
        subst e1 k1 k2 k3
        refine (unused_calls (hl _ _ _ _ _ hR k4) (hp _ _ _ _ _ hR k5) _ _ _ hb2.1).mono ?_
        rintro e w1 ⟨rfl, hbel⟩
        exact ⟨_, rfl, fun ρ' => rfl, hbel⟩
  · cases h)
theorem at60 {l : List Mv} {k : Nat} (h : k < 60) : (l.take 60).getD k zMv = l.getD k zMv := by rw [List.getD_eq_getElem?_getD, List.getElem?_take_of_lt h, ← List.getD_eq_getElem?_getD]
end Go.Proofs.YtcjdkaigimcofaaDoor.Ff

/- lots: what is played is in order; the law's callees. No condition but 64 bits. -/
namespace Go.Proofs.YtcjdkaigimcofaaDoor.Ff
open Go.RowKit Go.Proofs.YtcjdkaigimcofaaDoorW.PrintWords Go.Proofs.YtcjdkaigimcofaaDoor.Ex
set_option linter.unusedVariables false
set_option linter.unusedSimpArgs false
set_option maxRecDepth 100000
theorem playS_inv (l : List Mv) : Inv (playS l) := play_inv _ _ zSt_inv
theorem playS_pl {l : List Mv} (h : MvsI l) : PlI (playS l) 60 := by
  have := play_pl (l.take 60) zSt 0 (fun m hm => (h m (List.mem_of_mem_take hm)).1) zSt_pl
  refine ⟨this.int, ?_, ?_⟩
  · have := this.la
    simp at this
    unfold playS
    omega
  · have := this.pa
    simp at this
    unfold playS
    omega
end Go.Proofs.YtcjdkaigimcofaaDoor.Ff

/- lots: the chapter's examples hold; the law's callees. No condition. -/
namespace Go.Proofs.YtcjdkaigimcofaaDoor.Ff
open Go.RowKit Go.Proofs.YtcjdkaigimcofaaDoorW.PrintWords Go.Proofs.YtcjdkaigimcofaaDoor.Ex
set_option linter.unusedVariables false
set_option linter.unusedSimpArgs false
set_option maxRecDepth 100000
def lMv (seq kind qty cost : Int) (lot : ByteArray) (ref : Int) : Mv := ⟨seq, 0, ⟨#[120]⟩, kind, qty, cost, lot, ref⟩
def lv1 : St := ⟨4, 10, 0, [⟨0, ⟨#[98]⟩, 4, 10⟩], [⟨1, 1, ⟨#[98]⟩, 4, 10, 0, 0⟩]⟩
def lv2 : St := ⟨6, 18, 0, [⟨0, ⟨#[97]⟩, 2, 8⟩, ⟨0, ⟨#[98]⟩, 4, 10⟩], [⟨1, 1, ⟨#[98]⟩, 4, 10, 0, 0⟩, ⟨2, 1, ⟨#[97]⟩, 2, 8, 0, 0⟩]⟩
def lv3 : St := ⟨5, 16, 0, [⟨0, ⟨#[97]⟩, 2, 8⟩, ⟨0, ⟨#[98]⟩, 3, 8⟩], [⟨1, 1, ⟨#[98]⟩, 4, 10, 0, 0⟩, ⟨2, 1, ⟨#[97]⟩, 2, 8, 0, 0⟩, ⟨3, 2, ⟨#[98]⟩, 1, 2, 0, 0⟩]⟩
theorem live1 : stpF zSt (lMv 1 1 4 10 ⟨#[98]⟩ 0) = (0, lv1, ⟨1, 4, 10, 0⟩) := by kernel_rfl
theorem live2 : stpF lv1 (lMv 2 1 2 8 ⟨#[97]⟩ 0) = (0, lv2, ⟨2, 2, 8, 0⟩) := by kernel_rfl
theorem live3 : stpF lv2 (lMv 3 2 1 0 ⟨#[98]⟩ 0) = (0, lv3, ⟨3, -1, -2, 0⟩) := by kernel_rfl
theorem live4 : stpF lv2 (lMv 3 2 1 0 ⟨#[99]⟩ 0) = (22, zSt, zC 0) := by kernel_rfl
theorem lMv_z {n k q c r : Int} {b : ByteArray} (h : b.size ≤ 140737488351232) : (lMv n k q c b r).item.size ≤ 140737488351232 ∧ (lMv n k q c b r).lot.size ≤ 140737488351232 := ⟨by show (1 : Nat) ≤ 140737488351232; decide, h⟩
theorem br_t {b : Bool} {p q : Prop} (hb : b = true) (h : p) : Br b p q := by subst hb; exact h
theorem c1_ : SmI zSt (lMv 1 1 4 10 ⟨#[98]⟩ 0) := by
  have b1 : (⟨#[98]⟩ : ByteArray).size ≤ 140737488351232 := by show (1 : Nat) ≤ _; decide
  have b2 : (⟨#[97]⟩ : ByteArray).size ≤ 140737488351232 := by show (1 : Nat) ≤ _; decide
  have b3 : (⟨#[99]⟩ : ByteArray).size ≤ 140737488351232 := by show (1 : Nat) ≤ _; decide
  exact ⟨by simp [zSt], by simp [zSt], (lMv_z b1).1, b1, zSt_int, by constructor <;> simp [lMv, I64]⟩
theorem c2_ : SmI lv1 (lMv 2 1 2 8 ⟨#[97]⟩ 0) := by
  have b1 : (⟨#[98]⟩ : ByteArray).size ≤ 140737488351232 := by show (1 : Nat) ≤ _; decide
  have b2 : (⟨#[97]⟩ : ByteArray).size ≤ 140737488351232 := by show (1 : Nat) ≤ _; decide
  have b3 : (⟨#[99]⟩ : ByteArray).size ≤ 140737488351232 := by show (1 : Nat) ≤ _; decide
  exact ⟨by simp [lv1], by simp [lv1], (lMv_z b2).1, b2, by constructor <;> simp [lv1, I64, LaI, PaI], by constructor <;> simp [lMv, I64]⟩
theorem c3_ : SmI lv2 (lMv 3 2 1 0 ⟨#[98]⟩ 0) := by
  have b1 : (⟨#[98]⟩ : ByteArray).size ≤ 140737488351232 := by show (1 : Nat) ≤ _; decide
  have b2 : (⟨#[97]⟩ : ByteArray).size ≤ 140737488351232 := by show (1 : Nat) ≤ _; decide
  have b3 : (⟨#[99]⟩ : ByteArray).size ≤ 140737488351232 := by show (1 : Nat) ≤ _; decide
  exact ⟨by simp [lv2], by simp [lv2], (lMv_z b1).1, b1, by constructor <;> simp [lv2, I64, LaI, PaI], by constructor <;> simp [lMv, I64]⟩
theorem c4_ : SmI lv2 (lMv 3 2 1 0 ⟨#[99]⟩ 0) := by
  have b1 : (⟨#[98]⟩ : ByteArray).size ≤ 140737488351232 := by show (1 : Nat) ≤ _; decide
  have b2 : (⟨#[97]⟩ : ByteArray).size ≤ 140737488351232 := by show (1 : Nat) ≤ _; decide
  have b3 : (⟨#[99]⟩ : ByteArray).size ≤ 140737488351232 := by show (1 : Nat) ≤ _; decide
  exact ⟨by simp [lv2], by simp [lv2], (lMv_z b3).1, b3, by constructor <;> simp [lv2, I64, LaI, PaI], by constructor <;> simp [lMv, I64]⟩
theorem lives_calls {W : World} (hL : Laid W) : Calls Tryd.prog 13 #[] W fun e w1 => e = .returned (.bool true) ∧ Below W.heap.size W w1 := by
  have hg : ∀ i, ¬ (gW W).S i := fun i h => h
  have o0 : (0 : Int) ≤ 0 := Int.le_refl _
  have o2 : (0 : Int) ≤ 1 := by decide
  have o1 : (0 : Int) < (lv3.la.length : Int) := by decide
  have o3 : (1 : Int) < (lv3.la.length : Int) := by decide
  refine (calls_awp (f := 13) (vs := []) (cx_ok (C := CP) (nt := 81) (cp_ok hL hg)) mixed_ok Tryd.func13 rfl rfl (start0 W) (avs := []) (fun _ _ => trivial) (le_of_ble (by kernel_rfl)) (K := fun x A => x = .one (.v (.bool true))) ?_).mono ?_
  · ((conv => whnf) <;> repeat (refine obl_ ?_; conv => whnf))
    show SmI zSt (lMv 1 1 4 10 ⟨#[98]⟩ 0) ∧ (stepM (stpF zSt (lMv 1 1 4 10 ⟨#[98]⟩ 0)) _ _).cps _ _
    rw [live1]
    refine ⟨c1_, ?_⟩
    ((conv => whnf) <;> repeat (refine obl_ ?_; conv => whnf))
    show SmI lv1 (lMv 2 1 2 8 ⟨#[97]⟩ 0) ∧ (stepM (stpF lv1 (lMv 2 1 2 8 ⟨#[97]⟩ 0)) _ _).cps _ _
    rw [live2]
    refine ⟨c2_, ?_⟩
    ((conv => whnf) <;> repeat (refine obl_ ?_; conv => whnf))
    show SmI lv2 (lMv 3 2 1 0 ⟨#[98]⟩ 0) ∧ (stepM (stpF lv2 (lMv 3 2 1 0 ⟨#[98]⟩ 0)) _ _).cps _ _
    rw [live3]
    refine ⟨c3_, ?_⟩
    ((conv => whnf) <;> repeat (refine obl_ ?_; conv => whnf))
    show SmI lv2 (lMv 3 2 1 0 ⟨#[99]⟩ 0) ∧ (stepM (stpF lv2 (lMv 3 2 1 0 ⟨#[99]⟩ 0)) _ _).cps _ _
    rw [live4]
    refine ⟨c4_, ?_⟩
    ((conv => whnf) <;> repeat (refine obl_ ?_; conv => whnf))
    refine br_t (by kernel_rfl) ?_
    ((conv => whnf) <;> repeat (refine obl_ ?_; conv => whnf))
    kernel_rfl
  · rintro e w1 ⟨x, v, A1, ρ1, a1, rfl, hv, rfl, hS1, _⟩
    exact ⟨by rw [show x = _ from hv], hS1.rel.bel⟩
theorem lives_ok {g : G} {bs : Nat} (hL : Laid g.W0) (hS : ∀ i, ¬ g.S i) : SpOk Tryd.prog g bs 13 spTrue := true_ok hL hS ⟨_, Tryd.func13, by decide +kernel, rfl⟩ (fun W h => lives_calls h)
def CL : List (Nat × Sp) := [(10, spStep SmI stpF), (11, spStep SmR stpF), (12, spSame), (13, spTrue), (14, spPlay), (17, spUnused), (18, spClone), (16, spStL fun ls lot => qtyR lot ls)]
theorem cl_ok {g : G} {n : Nat} (hL : Laid g.W0) (hS : ∀ i, ¬ g.S i) : ∀ f sp, lookC CL f = some sp → SpOk Tryd.prog g n f sp := spc_cons (stpF_ok hL hS) (spc_cons stpR_ok (spc_cons same_ok (spc_cons (lives_ok hL hS) (spc_cons (play_ok hL hS) (spc_cons unused_ok (spc_cons Clone_ok (spc_cons rqty_ok spc_nil)))))))
theorem LotsSteps_calls {W : World} {V : Value} {l : List Mv} (hL : Laid W) (h1 : Src W V .mv l) (hl : MvsI l) :
    Calls Tryd.prog 3 #[V] W fun e w1 => e = .returned (.bool true) ∧ Below W.heap.size W w1 := by
  obtain ⟨ρ, e1, hS⟩ := start1 h1
  have hg : ∀ i, ¬ (gW W).S i := fun i h => h
  refine (calls_awp (f := 3) (vs := [V]) (cx_ok (C := CL) (nt := 63) (cl_ok hL hg)) mixed_ok Tryd.func3 rfl rfl hS (avs := [.one (.row 0)])
    (fun ρ' h => ⟨row_rel h (by simp [findR]) e1 h1, trivial⟩) (le_of_ble (by kernel_rfl)) (K := fun x A => x = .one (.v (.bool true))) ?_).mono ?_
  · ((conv => whnf) <;> repeat (refine obl_ ?_; conv => whnf))
    refine LoopP.introR (cx_ok (cl_ok hL hg)) mixed_ok (ι := Nat × St) (fun k => ⟨[(5, .one (.v (.int .i64 (k.1 : Int)))), (4, .one (.ptr 14 0)), (3, .one (.ptr 13 0)), (2, .one (.v (.bool false))), (0, .one (.row 0))], [(14, 26, [.v (.int .i64 k.2.q), .v (.int .i64 k.2.v), .v (.int .i64 k.2.pr), .row 5002, .row 5003]), (13, 26, [.v (.int .i64 k.2.q), .v (.int .i64 k.2.v), .v (.int .i64 k.2.pr), .row 5000, .row 5001])], [(0, some ⟨.mv, l, false⟩), (5000, some ⟨.la, k.2.la, true⟩), (5001, some ⟨.pa, k.2.pa, true⟩), (5002, some ⟨.la, k.2.la, true⟩), (5003, some ⟨.pa, k.2.pa, true⟩)]⟩) (fun k => k.1 ≤ 60 ∧ k.1 ≤ l.length ∧ PlI k.2 k.1 ∧ Inv k.2) (fun k => 60 - k.1) (0, zSt) ⟨Nat.zero_le _, Nat.zero_le _, zSt_pl, zSt_inv⟩ ⟨[(5000, none), (5001, none), (5002, none), (5003, none)], by (refine ⟨?_, ?_, ?_, by kernel_rfl⟩ <;> repeat' (first | exact trivial | exact rfl | assumption | apply And.intro))⟩ ?_
    rintro ⟨k, s⟩ ⟨hk, hkl, hs, hI⟩
    simp only at hk hkl hs hI
    ((conv => whnf) <;> repeat (refine obl_ ?_; conv => whnf))
    refine cond_ (fun h => ?_) (fun h => ?_)
    · have hlt := of_decide_eq_true h
      have i1 : 0 ≤ (k : Int) := by omega
      ((conv => whnf) <;> repeat (refine obl_ ?_; conv => whnf))
      refine cond_ (fun h2 => ?_) (fun h2 => ?_)
      · have hlt2 := of_decide_eq_true h2
        have hkl : k < l.length := by omega
        have hsm : SmI s (l.getD k zMv) := hl.sm hkl hs.int (by have := hs.la; omega) (by have := hs.pa; omega)
        have hs2 := hs.next stpF_f hsm.mi
        have hI2 := hI.next (l.getD k zMv)
        have hsr : SmR s (l.getD k zMv) := ⟨hsm, hI⟩
        ((conv => whnf) <;> repeat (refine obl_ ?_; conv => whnf))
        refine cond_ (fun h => absurd h (by simp)) (fun _ => ?_)
        ((conv => whnf) <;> repeat (refine obl_ ?_; conv => whnf))
        refine cond_ (fun h => absurd h (by simp)) (fun _ => ?_)
        ((conv => whnf) <;> repeat (refine obl_ ?_; conv => whnf))
        refine cond_ (fun h3 => ?_) (fun h3 => ?_)
        · have h3' : (stpF s (l.getD k zMv)).1 = 0 := beq_iff_eq.1 h3
          rw [if_pos h3'] at hs2 hI2
          ((conv => whnf) <;> repeat (refine obl_ ?_; conv => whnf))
          refine ⟨(k + 1, (stpF s (l.getD k zMv)).2.1), ⟨by simp only; omega, by simp only; omega, hs2, hI2⟩, by simp only; omega, [(5000, some 40), (5001, some 540), (5002, some 50), (5003, some 550)], ?_⟩
          (refine ⟨?_, ?_, ?_, by kernel_rfl⟩ <;> repeat' (first | exact trivial | exact rfl | assumption | apply And.intro))
          exact up_ (by omega)
        · have h3' : ¬ (stpF s (l.getD k zMv)).1 = 0 := fun e => beq_ne h3 e
          rw [if_neg h3'] at hs2 hI2
          ((conv => whnf) <;> repeat (refine obl_ ?_; conv => whnf))
          refine ⟨(k + 1, s), ⟨by simp only; omega, by simp only; omega, hs2, hI2⟩, by simp only; omega, [], ?_⟩
          (refine ⟨?_, ?_, ?_, by kernel_rfl⟩ <;> repeat' (first | exact trivial | exact rfl | assumption | apply And.intro))
          exact up_ (by omega)
      · ((conv => whnf) <;> repeat (refine obl_ ?_; conv => whnf))
        exact rfl
    · ((conv => whnf) <;> repeat (refine obl_ ?_; conv => whnf))
      exact rfl
  · rintro e w1 ⟨x, v, A1, ρ1, a1, rfl, hv, rfl, hS1, _⟩
    exact ⟨by rw [show x = _ from hv], hS1.rel.bel⟩
end Go.Proofs.YtcjdkaigimcofaaDoor.Ff
