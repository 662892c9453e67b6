/- The executor and what hangs on it, merged (AxP, AxQ): a verified abstract run of code over memory, and the walks by it; each theorem names its conditions. -/
import Derived.Test.YticcaknflnldgaaDoorX2
/- average, plain: the lots of the movements change nothing but what is kept of them. No program in sight. No condition. -/
namespace Go.Proofs.YticcaknflnldgaaDoor.Ff
open Go.RowKit Go.Proofs.YticcaknflnldgaaDoorW.PrintWords Go.Proofs.YticcaknflnldgaaDoor.Ex
set_option linter.unusedVariables false
set_option linter.unusedSimpArgs false
set_option maxRecDepth 100000
def plM (m : Mv) : Mv := if m.kind = 1 ∨ m.kind = 2 then { m with lot := ⟨#[]⟩ } else m
def plP (p : Pa) : Pa := { p with lot := ⟨#[]⟩ }
def plS (s : St) : St := ⟨s.q, s.v, s.pr, s.la, s.pa.map plP⟩
theorem plP_z : plP zPa = zPa := rfl
theorem fi_map {p : Pa → Bool} (h : ∀ x, p (plP x) = p x) : ∀ (l : List Pa) (j : Int), fi p (l.map plP) j = fi p l j
  | [], _ => rfl
  | x :: r, j => by
    simp only [List.map_cons, fi]
    rw [h x, fi_map h r]
theorem find_map (k n : Int) (l : List Pa) : findS k n (l.map plP) = findS k n l := fi_map (p := fun p => p.kind == k && p.seq == n) (fun _ => rfl) l 0
theorem knF_map (l : List Pa) (n : Int) : knF (l.map plP) n = knF l n := by
  unfold knF
  rw [fi_map (p := fun p => p.seq == n) (fun _ => rfl) l 0]
theorem getD_map (l : List Pa) (i : Nat) : (l.map plP).getD i zPa = plP (l.getD i zPa) := by
  rw [List.getD_eq_getElem?_getD, List.getD_eq_getElem?_getD, List.getElem?_map]
  cases l[i]? <;> rfl
theorem plM_f {m : Mv} : (plM m).seq = m.seq ∧ (plM m).kind = m.kind ∧ (plM m).qty = m.qty ∧ (plM m).cost = m.cost ∧ (plM m).ref = m.ref ∧ (plM m).day = m.day ∧ (plM m).item = m.item := by
  unfold plM
  split <;> exact ⟨rfl, rfl, rfl, rfl, rfl, rfl, rfl⟩
theorem plM_lot {m : Mv} (h : m.kind = 1 ∨ m.kind = 2) : (plM m).lot = ⟨#[]⟩ := by
  unfold plM
  rw [if_pos h]
theorem one_pl {m : Mv} (h : oneM m ≠ 22) : oneM (plM m) = oneM m := by
  by_cases k : m.kind = 1 ∨ m.kind = 2
  · have e : plM m = { m with lot := ⟨#[]⟩ } := if_pos k
    have l1 : Co.lotB m.kind ⟨#[]⟩ = true := by
      unfold Co.lotB
      exact if_pos rfl
    rw [e]
    revert h
    show Co.oneS m.day m.item m.kind m.qty m.cost m.lot m.ref ≠ 22 → Co.oneS m.day m.item m.kind m.qty m.cost ⟨#[]⟩ m.ref = Co.oneS m.day m.item m.kind m.qty m.cost m.lot m.ref
    unfold Co.oneS
    rw [if_pos l1]
    by_cases h1 : Co.dayB m.day = true
    · rw [if_pos h1, if_pos h1]
      by_cases h2 : Co.codeB m.item = true
      · rw [if_pos h2, if_pos h2]
        by_cases h3 : Co.kindB m.kind = true
        · rw [if_pos h3, if_pos h3]
          by_cases h4 : Co.qtyB m.kind m.qty = true
          · rw [if_pos h4, if_pos h4]
            by_cases h5 : Co.costB m.kind m.cost = true
            · rw [if_pos h5, if_pos h5]
              by_cases h6 : Co.lotB m.kind m.lot = true
              · rw [if_pos h6]
                exact fun _ => rfl
              · rw [if_neg h6]
                exact fun h => absurd rfl h
            · rw [if_neg h5, if_neg h5]
              exact fun _ => rfl
          · rw [if_neg h4, if_neg h4]
            exact fun _ => rfl
        · rw [if_neg h3, if_neg h3]
          exact fun _ => rfl
      · rw [if_neg h2, if_neg h2]
        exact fun _ => rfl
    · rw [if_neg h1, if_neg h1]
      exact fun _ => rfl
  · rw [show plM m = m from if_neg k]
theorem move_pl (s : St) (m : Mv) : moveA (plS s) (plM m) = ((moveA s m).1, (moveA s m).2.1, (moveA s m).2.2.map plP) := by
  obtain ⟨f1, f2, f3, f4, f5, f6, f7⟩ := plM_f (m := m)
  have g2 : findS 2 (plM m).ref (plS s).pa = findS 2 m.ref s.pa := by rw [f5]; exact find_map _ _ _
  have g1 : findS 1 (plM m).ref (plS s).pa = findS 1 m.ref s.pa := by rw [f5]; exact find_map _ _ _
  have d2 : (plS s).pa.getD (findS 2 m.ref s.pa).toNat zPa = plP (s.pa.getD (findS 2 m.ref s.pa).toNat zPa) := getD_map _ _
  have d1 : (plS s).pa.getD (findS 1 m.ref s.pa).toNat zPa = plP (s.pa.getD (findS 1 m.ref s.pa).toNat zPa) := getD_map _ _
  by_cases k1 : m.kind = 1
  · rw [moveA_1 (f2.trans k1), moveA_1 k1, f1, f2, f3, f4, plM_lot (.inl k1)]
    simp only [List.map_append]
    rfl
  by_cases k2 : m.kind = 2
  · by_cases h : s.q < m.qty
    · rw [moveA_2a k2 h, moveA_2a (f2.trans k2) (by rw [f3]; exact h)]
      rfl
    · rw [moveA_2 k2 h, moveA_2 (f2.trans k2) (by rw [f3]; exact h), f1, f2, f3, plM_lot (.inr k2)]
      simp only [List.map_append]
      rfl
  by_cases k3 : m.kind = 3
  · by_cases h : findS 2 m.ref s.pa < 0
    · rw [moveA_3a k3 h, moveA_3a (f2.trans k3) (by rw [g2]; exact h)]
      rfl
    · by_cases hq : wr ((s.pa.getD (findS 2 m.ref s.pa).toNat zPa).qty - (s.pa.getD (findS 2 m.ref s.pa).toNat zPa).used) < m.qty
      · rw [moveA_3b k3 h rfl hq, moveA_3b (p := plP (s.pa.getD (findS 2 m.ref s.pa).toNat zPa)) (f2.trans k3) (by rw [g2]; exact h) (by rw [g2]; exact d2) (by rw [f3]; exact hq)]
        rfl
      · rw [moveA_3 k3 h rfl hq, moveA_3 (p := plP (s.pa.getD (findS 2 m.ref s.pa).toNat zPa)) (f2.trans k3) (by rw [g2]; exact h) (by rw [g2]; exact d2) (by rw [f3]; exact hq), f1, f3, g2]
        simp only [List.map_set]
        rfl
  by_cases k4 : m.kind = 4
  · by_cases h : findS 1 m.ref s.pa < 0
    · rw [moveA_4a k4 h, moveA_4a (f2.trans k4) (by rw [g1]; exact h)]
      rfl
    · by_cases hq : wr ((s.pa.getD (findS 1 m.ref s.pa).toNat zPa).qty - (s.pa.getD (findS 1 m.ref s.pa).toNat zPa).used) < m.qty
      · rw [moveA_4b k4 h rfl hq, moveA_4b (p := plP (s.pa.getD (findS 1 m.ref s.pa).toNat zPa)) (f2.trans k4) (by rw [g1]; exact h) (by rw [g1]; exact d1) (by rw [f3]; exact hq)]
        rfl
      · by_cases hl : s.q < m.qty
        · rw [moveA_4c k4 h rfl hq hl, moveA_4c (p := plP (s.pa.getD (findS 1 m.ref s.pa).toNat zPa)) (f2.trans k4) (by rw [g1]; exact h) (by rw [g1]; exact d1) (by rw [f3]; exact hq) (by rw [f3]; exact hl)]
          rfl
        · rw [moveA_4 k4 h rfl hq hl, moveA_4 (p := plP (s.pa.getD (findS 1 m.ref s.pa).toNat zPa)) (f2.trans k4) (by rw [g1]; exact h) (by rw [g1]; exact d1) (by rw [f3]; exact hq) (by rw [f3]; exact hl), f1, f3, f4, g1]
          simp only [List.map_set]
          rfl
  by_cases k5 : m.kind = 5
  · by_cases h : findS 1 m.ref s.pa < 0
    · rw [moveA_5a k5 h, moveA_5a (f2.trans k5) (by rw [g1]; exact h)]
      rfl
    · by_cases hq : wr ((s.pa.getD (findS 1 m.ref s.pa).toNat zPa).qty - (s.pa.getD (findS 1 m.ref s.pa).toNat zPa).used) < m.qty
      · rw [moveA_5b k5 h rfl hq, moveA_5b (p := plP (s.pa.getD (findS 1 m.ref s.pa).toNat zPa)) (f2.trans k5) (by rw [g1]; exact h) (by rw [g1]; exact d1) (by rw [f3]; exact hq)]
        rfl
      · rw [moveA_5 k5 h rfl hq, moveA_5 (p := plP (s.pa.getD (findS 1 m.ref s.pa).toNat zPa)) (f2.trans k5) (by rw [g1]; exact h) (by rw [g1]; exact d1) (by rw [f3]; exact hq), f1, f4]
        rfl
  have n1 : ∀ {t : St} {x : Mv}, x.kind = m.kind → moveA t x = (10, zC 0, t.pa) := fun {t} {x} e => by
    unfold moveA
    rw [if_neg (by omega), if_neg (by omega), if_neg (by omega), if_neg (by omega), if_neg (by omega)]
  rw [n1 f2, n1 rfl]
  rfl
theorem zSt_pl' : plS zSt = zSt := rfl
theorem step_pl {s : St} {m : Mv} (h : (stepA s m).1 ≠ 22) : stepA (plS s) (plM m) = ((stepA s m).1, plS (stepA s m).2.1, (stepA s m).2.2) := by
  obtain ⟨f1, f2, f3, f4, f5, f6, f7⟩ := plM_f (m := m)
  by_cases h1 : oneM m ≠ 0
  · have ho : oneM m ≠ 22 := fun e => h (by rw [stepA_1 h1]; exact e)
    rw [stepA_1 h1, stepA_1 (by rw [one_pl ho]; exact h1), one_pl ho]
    rfl
  have ho : oneM (plM m) = oneM m := one_pl (fun e => h1 (by rw [e]; decide))
  by_cases h2 : knF s.pa m.seq = true
  · rw [stepA_2 h1 h2, stepA_2 (by rw [ho]; exact h1) (by rw [f1]; exact (knF_map _ _).trans h2)]
    rfl
  have h2' : ¬ knF (plS s).pa (plM m).seq = true := by rw [f1, show knF (plS s).pa m.seq = knF s.pa m.seq from knF_map _ _]; exact h2
  have M := move_pl s m
  by_cases h3 : (moveA s m).1 ≠ 0
  · rw [stepA_3 rfl h1 h2 h3, stepA_3 M (by rw [ho]; exact h1) h2' h3]
    rfl
  by_cases h4 : 1000000000 < wr (s.q + (moveA s m).2.1.qty) ∨ farS (wr (s.v + (moveA s m).2.1.value)) = true ∨ farS (moveA s m).2.1.var = true
  · rw [stepA_4 rfl h1 h2 h3 h4, stepA_4 M (by rw [ho]; exact h1) h2' h3 h4]
    rfl
  have o2 : ¬ 1000000000 < wr (s.q + (moveA s m).2.1.qty) := fun e => h4 (.inl e)
  have o3 : farS (wr (s.v + (moveA s m).2.1.value)) = false := Bool.eq_false_iff.2 fun e => h4 (.inr (.inl e))
  have o4 : farS (moveA s m).2.1.var = false := Bool.eq_false_iff.2 fun e => h4 (.inr (.inr e))
  rw [stepA_5 rfl h1 h2 h3 o2 o3 o4, stepA_5 M (by rw [ho]; exact h1) h2' h3 o2 o3 o4]
  rfl
theorem Kn.blank {s : St} {n : Nat} (h : Kn s n) : Kn (plS s) n := by
  have hp : ∀ {p : Pa → Prop}, (∀ x, p x → p (plP x)) → (∀ x ∈ s.pa, p x) → ∀ x ∈ (plS s).pa, p x := fun {p} hf hx x hm => by
    obtain ⟨y, hy, rfl⟩ := List.mem_map.1 hm
    exact hf y (hx y hy)
  exact ⟨⟨⟨h.pl.int.q, h.pl.int.v, h.pl.int.la, hp (fun x hx => hx) h.pl.int.pa⟩, h.pl.la, by rw [show (plS s).pa = s.pa.map plP from rfl, List.length_map]; exact h.pl.pa⟩,
    ⟨hp (fun x hx => ⟨hx.kind, hx.q0, hx.q1, hx.u0, hx.u1, hx.w0, hx.w1, hx.v1⟩) h.inv.pa, h.inv.la, h.inv.q0, h.inv.q1, h.inv.v0, h.inv.v1, h.inv.z⟩⟩
theorem plM_z {m : Mv} (h : MvI m) (z1 : m.item.size ≤ 140737488351232) (z2 : m.lot.size ≤ 140737488351232) : MvI (plM m) ∧ (plM m).item.size ≤ 140737488351232 ∧ (plM m).lot.size ≤ 140737488351232 := by
  unfold plM
  split
  · exact ⟨⟨h.seq, h.kind, h.qty, h.cost, h.ref⟩, z1, by show (0 : Nat) ≤ _; decide⟩
  · exact ⟨h, z1, z2⟩
theorem mapM_get {l : List Mv} {k : Nat} (h : k < l.length) : (l.map plM).getD k zMv = plM (l.getD k zMv) := by
  rw [List.getD_eq_getElem?_getD, List.getD_eq_getElem?_getD, List.getElem?_map, List.getElem?_eq_getElem h]
  rfl
theorem mapM_step {l : List Mv} {k : Nat} (h : k < l.length) : (l.take (k + 1)).map plM = (l.take k).map plM ++ [plM (l.getD k zMv)] := by
  rw [List.take_add_one, List.getElem?_eq_getElem h, List.map_append, List.getD_eq_getElem?_getD, List.getElem?_eq_getElem h]
  rfl
theorem plM_1 {m : Mv} (h : m.kind = 1 ∨ m.kind = 2) : plM m = ⟨m.seq, m.day, m.item, m.kind, m.qty, m.cost, ⟨#[]⟩, m.ref⟩ := by
  unfold plM
  rw [if_pos h]
theorem plM_2 {m : Mv} (h : ¬ (m.kind = 1 ∨ m.kind = 2)) : plM m = m := if_neg h
theorem cno {b : Bool} (c : b = false) (h : b = true) : False := by rw [c] at h; cases h
end Go.Proofs.YticcaknflnldgaaDoor.Ff

/- The law AverageLots, walked. No condition but 64 bits. -/
namespace Go.Proofs.YticcaknflnldgaaDoor.Ff
open Go.RowKit Go.Proofs.YticcaknflnldgaaDoorW.PrintWords Go.Proofs.YticcaknflnldgaaDoor.Ex
set_option linter.unusedVariables false
set_option linter.unusedSimpArgs false
set_option maxRecDepth 100000
set_option maxHeartbeats 4000000 in
theorem AverageLots_calls {W : World} {V : Value} {l : List Mv} (hL : Laid W) (h1 : Src W V .mv l) (hl : MvsI l) :
    Calls Tryd.prog 7 #[V] W fun e w1 => e = .returned (.bool true) ∧ Below W.heap.size W w1 := by
  obtain ⟨ρ, e1, hS⟩ := start1 h1
  have hg : ∀ i, ¬ (gW W).S i := fun i h => h
  refine (calls_awp (f := 7) (vs := [V]) (cx_ok (C := CL) (nt := 99) (cl_ok hL hg)) mixed_ok Tryd.func7 rfl rfl hS (avs := [.one (.row 0)])
    (fun ρ' h => ⟨row_rel h (by simp [findR]) e1 h1, trivial⟩) (le_of_ble (by kernel_rfl)) (K := fun x A => x = .one (.v (.bool true))) ?_).mono ?_
  · ((conv => whnf) <;> repeat (refine obl_ ?_; conv => whnf))
    refine cond_ (fun h => ?_) (fun h => ?_)
    · ((conv => whnf) <;> repeat (refine obl_ ?_; conv => whnf))
      exact rfl
    have hB : largeB l = false := h
    have hlen := large_f hB
    ((conv => whnf) <;> repeat (refine obl_ ?_; conv => whnf))
    refine LoopP.introR (cx_ok (cl_ok hL hg)) mixed_ok (ι := Nat) (fun k => ⟨[(4, .one (.v (.int .i64 (k : Int)))), (3, .one (.row 5001)), (2, .one (.v (.bool false))), (0, .one (.row 0))], [], [(0, some ⟨.mv, l, false⟩), (5001, some ⟨.mv, (l.take k).map plM, true⟩)]⟩) (fun k => k ≤ l.length) (fun k => l.length - k) 0 (Nat.zero_le _) ⟨[(5001, some 28)], by (refine ⟨?_, ?_, ?_, by kernel_rfl⟩ <;> repeat' (first | exact trivial | exact rfl | assumption | apply And.intro))⟩ ?_
    intro k hk
    have lcs : ((l.take k).map plM).length ≤ 1000 := by rw [List.length_map, List.length_take]; omega
    ((conv => whnf) <;> repeat (refine obl_ ?_; conv => whnf))
    refine cond_ (fun h => ?_) (fun h => ?_)
    · have hlt : k < l.length := by have := of_decide_eq_true h; omega
      have i1 : 0 ≤ (k : Int) := by omega
      have i2 : (k : Int) < (l.length : Int) := by omega
      have ms := mapM_step hlt
      ((conv => whnf) <;> repeat (refine obl_ ?_; conv => whnf))
      refine cond_ (fun h1 => ?_) (fun h1 => ?_)
      · have h1' : (l.getD k zMv).kind = 1 := beq_iff_eq.1 h1
        rw [plM_1 (.inl h1')] at ms
        ((conv => whnf) <;> repeat (refine obl_ ?_; conv => whnf))
        refine ⟨k + 1, hlt, by omega, [(5001, some 51)], ?_⟩
        (refine ⟨?_, ?_, ?_, by kernel_rfl⟩ <;> repeat' (first | exact trivial | exact rfl | assumption | apply And.intro))
        · exact up_ (by omega)
        · exact ms.symm
      ((conv => whnf) <;> repeat (refine obl_ ?_; conv => whnf))
      refine cond_ (fun h2 => ?_) (fun h2 => ?_)
      · have h2' : (l.getD k zMv).kind = 2 := beq_iff_eq.1 h2
        rw [plM_1 (.inr h2')] at ms
        ((conv => whnf) <;> repeat (refine obl_ ?_; conv => whnf))
        refine ⟨k + 1, hlt, by omega, [(5001, some 51)], ?_⟩
        (refine ⟨?_, ?_, ?_, by kernel_rfl⟩ <;> repeat' (first | exact trivial | exact rfl | assumption | apply And.intro))
        · exact up_ (by omega)
        · exact ms.symm
      rw [plM_2 (m := l.getD k zMv) (fun e => e.elim (fun e => beq_ne h1 e) (fun e => beq_ne h2 e))] at ms
      ((conv => whnf) <;> repeat (refine obl_ ?_; conv => whnf))
      refine ⟨k + 1, hlt, by omega, [(5001, some 51)], ?_⟩
      (refine ⟨?_, ?_, ?_, by kernel_rfl⟩ <;> repeat' (first | exact trivial | exact rfl | assumption | apply And.intro))
      · exact up_ (by omega)
      · exact ms.symm
    have hge := of_decide_eq_false h
    have e0 : l.take k = l := List.take_of_length_le (by omega)
    rw [e0]
    clear lcs
    ((conv => whnf) <;> repeat (refine obl_ ?_; conv => whnf))
    refine LoopP.introR (cx_ok (cl_ok hL hg)) mixed_ok (ι := Nat × St × St) (fun k => ⟨[(8, .one (.v (.int .i64 (k.1 : Int)))), (7, .one (.ptr 17 0)), (6, .one (.ptr 16 0)), (3, .one (.row 5001)), (2, .one (.v (.bool false))), (0, .one (.row 0))], [(17, 28, stockN k.2.2 5003), (16, 28, stockN k.2.1 5002)], [(0, some ⟨.mv, l, false⟩), (5001, some ⟨.mv, l.map plM, true⟩), (5002, some ⟨.pa, k.2.1.pa, true⟩), (5003, some ⟨.pa, k.2.2.pa, true⟩)]⟩) (fun k => k.1 ≤ l.length ∧ Kn k.2.1 k.1 ∧ k.2.2 = plS k.2.1) (fun k => l.length - k.1) (0, zSt, zSt) ⟨Nat.zero_le _, zSt_kn, rfl⟩ ⟨[(5002, none), (5003, none)], by (refine ⟨?_, ?_, ?_, by kernel_rfl⟩ <;> repeat' (first | exact trivial | exact rfl | assumption | apply And.intro))⟩ ?_
    clear hge e0 h hk k
    rintro ⟨k, s, t⟩ ⟨hk, hs, ht⟩
    simp only at hk hs ht
    ((conv => whnf) <;> repeat (refine obl_ ?_; conv => whnf))
    refine cond_ (fun h => ?_) (fun h => ?_)
    · have hlt : k < l.length := by have := of_decide_eq_true h; simp only at this; omega
      have i1 : 0 ≤ (k : Int) := by omega
      have i2 : (k : Int) < (l.length : Int) := by omega
      have i3 : (k : Int) < ((l.map plM).length : Int) := by rw [List.length_map]; omega
      have hla : s.la = [] := hs.inv.la
      have hta : t.la = [] := by rw [ht]; exact hla
      have hts : Kn t k := by rw [ht]; exact hs.blank
      obtain ⟨sq, sv, sp, sl, spa⟩ := s
      obtain ⟨tq, tv, tp, tl, tpa⟩ := t
      simp only at hla hta
      subst hla hta
      have hsm : SmA ⟨sq, sv, sp, [], spa⟩ (l.getD k zMv) := hs.sm (by omega) hl hlt
      have hm' := mapM_get hlt
      have hz := plM_z hsm.sm.mi hsm.sm.item hsm.sm.lot
      have htm : SmA ⟨tq, tv, tp, [], tpa⟩ ((l.map plM).getD k zMv) := by
        rw [hm']
        exact hts.sm1 (by omega) hz.1 hz.2.1 hz.2.2
      have hs2 := hs.next hsm.sm.mi
      have hrel : (stepA ⟨sq, sv, sp, [], spa⟩ (l.getD k zMv)).1 ≠ 22 → (stepA ⟨tq, tv, tp, [], tpa⟩ ((l.map plM).getD k zMv)) = ((stepA ⟨sq, sv, sp, [], spa⟩ (l.getD k zMv)).1, plS (stepA ⟨sq, sv, sp, [], spa⟩ (l.getD k zMv)).2.1, (stepA ⟨sq, sv, sp, [], spa⟩ (l.getD k zMv)).2.2) := fun h => by
        rw [hm', ht]
        exact step_pl h
      ((conv => whnf) <;> repeat (refine obl_ ?_; conv => whnf))
      refine cond_ (fun h22 => ?_) (fun h22 => ?_)
      · have h22' : (stepA ⟨sq, sv, sp, [], spa⟩ (l.getD k zMv)).1 = 22 := beq_iff_eq.1 h22
        rw [if_neg (by rw [h22']; decide)] at hs2
        ((conv => whnf) <;> repeat (refine obl_ ?_; conv => whnf))
        refine ⟨(k + 1, ⟨sq, sv, sp, [], spa⟩, ⟨tq, tv, tp, [], tpa⟩), ⟨by simp only; omega, hs2, ht⟩, by simp only; omega, [], ?_⟩
        (refine ⟨?_, ?_, ?_, by kernel_rfl⟩ <;> repeat' (first | exact trivial | exact rfl | assumption | apply And.intro))
        exact up_ (by omega)
      have R := hrel (fun e => beq_ne h22 e)
      have r1 : (stepA ⟨sq, sv, sp, [], spa⟩ (l.getD k zMv)).1 = (stepA ⟨tq, tv, tp, [], tpa⟩ ((l.map plM).getD k zMv)).1 := by rw [R]
      have r2 : (stepA ⟨tq, tv, tp, [], tpa⟩ ((l.map plM).getD k zMv)).2.2 = (stepA ⟨sq, sv, sp, [], spa⟩ (l.getD k zMv)).2.2 := by rw [R]
      have r3 : (stepA ⟨sq, sv, sp, [], spa⟩ (l.getD k zMv)).2.1.q = (stepA ⟨tq, tv, tp, [], tpa⟩ ((l.map plM).getD k zMv)).2.1.q := by rw [R]; rfl
      have r4 : (stepA ⟨sq, sv, sp, [], spa⟩ (l.getD k zMv)).2.1.v = (stepA ⟨tq, tv, tp, [], tpa⟩ ((l.map plM).getD k zMv)).2.1.v := by rw [R]; rfl
      have r5 : (stepA ⟨tq, tv, tp, [], tpa⟩ ((l.map plM).getD k zMv)).2.1 = plS (stepA ⟨sq, sv, sp, [], spa⟩ (l.getD k zMv)).2.1 := by rw [R]
      have rc : (!((stepA ⟨sq, sv, sp, [], spa⟩ (l.getD k zMv)).2.2.seq == (stepA ⟨tq, tv, tp, [], tpa⟩ ((l.map plM).getD k zMv)).2.2.seq && ((stepA ⟨sq, sv, sp, [], spa⟩ (l.getD k zMv)).2.2.qty == (stepA ⟨tq, tv, tp, [], tpa⟩ ((l.map plM).getD k zMv)).2.2.qty && ((stepA ⟨sq, sv, sp, [], spa⟩ (l.getD k zMv)).2.2.value == (stepA ⟨tq, tv, tp, [], tpa⟩ ((l.map plM).getD k zMv)).2.2.value && ((stepA ⟨sq, sv, sp, [], spa⟩ (l.getD k zMv)).2.2.var == (stepA ⟨tq, tv, tp, [], tpa⟩ ((l.map plM).getD k zMv)).2.2.var && true))))) = false := by rw [r2]; simp
      ((conv => whnf) <;> repeat (refine obl_ ?_; conv => whnf))
      refine cond_ (fun h => (bne_no h r1).elim) (fun _ => ?_)
      ((conv => whnf) <;> repeat (refine obl_ ?_; conv => whnf))
      refine cond_ (fun h => (cno rc h).elim) (fun _ => ?_)
      ((conv => whnf) <;> repeat (refine obl_ ?_; conv => whnf))
      refine cond_ (fun h => (bne_no h r3).elim) (fun _ => ?_)
      ((conv => whnf) <;> repeat (refine obl_ ?_; conv => whnf))
      refine cond_ (fun h => (bne_no h r4).elim) (fun _ => ?_)
      ((conv => whnf) <;> repeat (refine obl_ ?_; conv => whnf))
      refine cond_ (fun h3 => ?_) (fun h3 => ?_)
      · have h0 : (stepA ⟨sq, sv, sp, [], spa⟩ (l.getD k zMv)).1 = 0 := beq_iff_eq.1 h3
        rw [if_pos h0] at hs2
        ((conv => whnf) <;> repeat (refine obl_ ?_; conv => whnf))
        refine ⟨(k + 1, (stepA ⟨sq, sv, sp, [], spa⟩ (l.getD k zMv)).2.1, (stepA ⟨tq, tv, tp, [], tpa⟩ ((l.map plM).getD k zMv)).2.1), ⟨by simp only; omega, hs2, r5⟩, by simp only; omega, [(5002, some 66), (5003, some 76)], ?_⟩
        (refine ⟨?_, ?_, ?_, by kernel_rfl⟩ <;> repeat' (first | exact trivial | exact rfl | assumption | apply And.intro))
        exact up_ (by omega)
      · have h0 : ¬ (stepA ⟨sq, sv, sp, [], spa⟩ (l.getD k zMv)).1 = 0 := fun e => beq_ne h3 e
        rw [if_neg h0] at hs2
        ((conv => whnf) <;> repeat (refine obl_ ?_; conv => whnf))
        refine ⟨(k + 1, ⟨sq, sv, sp, [], spa⟩, ⟨tq, tv, tp, [], tpa⟩), ⟨by simp only; omega, hs2, ht⟩, by simp only; omega, [], ?_⟩
        (refine ⟨?_, ?_, ?_, by kernel_rfl⟩ <;> repeat' (first | exact trivial | exact rfl | assumption | apply And.intro))
        exact up_ (by omega)
    · ((conv => whnf) <;> repeat (refine obl_ ?_; conv => whnf))
      exact rfl
  · rintro e w1 ⟨x, v, A1, ρ1, a1, rfl, hv, rfl, hS1, _⟩
    exact ⟨by rw [show x = _ from hv], hS1.rel.bel⟩
end Go.Proofs.YticcaknflnldgaaDoor.Ff
