/- The executor and what hangs on it, merged (FfR, FfS, FfT): a verified abstract run of code over memory, and the walks by it; each theorem names its conditions. -/
import Derived.Test.YtclohjmakcfikaaDoorX1
/- Chapter 34, the plain law of a step: a movement keeps the stock in order. No program in sight. No condition. -/
namespace Go.Proofs.YtclohjmakcfikaaDoor.Ff
open Go.RowKit Go.Proofs.YtclohjmakcfikaaDoorW.PrintWords Go.Proofs.YtclohjmakcfikaaDoor.Ex
set_option linter.unusedVariables false
set_option linter.unusedSimpArgs false
/-- What moves.One lets in. -/
structure OneF (m : Mv) : Prop where
  kind : 1 ≤ m.kind ∧ m.kind ≤ 6
  qty : m.kind ≤ 4 → 1 ≤ m.qty ∧ m.qty ≤ 1000000000
  qty0 : 5 ≤ m.kind → m.qty = 0
  cost0 : m.kind = 2 ∨ m.kind = 3 → m.cost = 0
  cost5 : m.kind = 5 → 1 ≤ m.cost
  cost : 0 ≤ m.cost ∧ m.cost ≤ 1000000000000
theorem one_f {m : Mv} (h : oneM m = 0) : OneF m := by
  have e : Co.kindB m.kind = true ∧ Co.qtyB m.kind m.qty = true ∧ Co.costB m.kind m.cost = true := by
    unfold oneM Co.oneS at h
    repeat' split at h
    all_goals first | exact ⟨by assumption, by assumption, by assumption⟩ | (simp at h; done)
  obtain ⟨h1, h2, h3⟩ := e
  unfold Co.kindB at h1
  have h1 := of_decide_eq_true h1
  unfold Co.qtyB at h2
  unfold Co.costB at h3
  refine ⟨h1, fun h => ?_, fun h => ?_, fun h => ?_, fun h => ?_, ?_⟩
  · rw [if_neg (by omega)] at h2
    exact of_decide_eq_true h2
  · rw [if_pos (by omega)] at h2
    exact of_decide_eq_true h2
  · rw [if_pos h] at h3
    exact of_decide_eq_true h3
  · rw [if_neg (by omega), if_pos h] at h3
    exact (of_decide_eq_true h3).1
  · split at h3
    · have := of_decide_eq_true h3
      omega
    · split at h3
      · have := of_decide_eq_true h3
        omega
      · exact of_decide_eq_true h3
theorem far_no {n : Int} : farS n = false ↔ -1000000000000000 ≤ n ∧ n ≤ 1000000000000000 := by
  unfold farS
  simp only [Bool.or_eq_false_iff, decide_eq_false_iff_not]
  omega
theorem sg_nn {s : Int} (h : 0 ≤ s) : 0 ≤ (Md.sg false s).1 ∧ (Md.sg false s).1 ≤ 9223372036854775807 := by
  unfold Md.sg
  simp only [Bool.false_eq_true, if_false]
  split <;> simp <;> omega
theorem part_nn {v n o : Int} (hv : 0 ≤ v) (hV : v ≤ 9223372036854775807) (hn : 0 ≤ n) (ho : 0 < o) : 0 ≤ partS v n o ∧ partS v n o ≤ 9223372036854775807 := by
  unfold partS
  split
  · exact ⟨hv, hV⟩
  · have hP : ((v.natAbs : Int) * n.natAbs) = v * n := by rw [Int.natAbs_of_nonneg hv, Int.natAbs_of_nonneg hn]
    have ho' : (o.natAbs : Int) = o := Int.natAbs_of_nonneg (by omega)
    have d1 : decide (v < 0) = false := decide_eq_false (by omega)
    have d2 : decide (n < 0) = false := decide_eq_false (by omega)
    have d3 : decide (o < 0) = false := decide_eq_false (by omega)
    have q0 : 0 ≤ (v * n) / o := Int.ediv_nonneg (Int.mul_nonneg hv hn) (by omega)
    unfold Md.md
    rw [if_neg (by omega), if_neg (by omega)]
    simp only [hP, ho', d1, d2, d3]
    rw [show (decide (v * n ≠ 0) && ((false != false) != false)) = false from by simp]
    refine sg_nn ?_
    split <;> omega
structure MoveOk (s : St) (m : Mv) (r : Int × Co × List La × List Pa) : Prop where
  seq : r.2.1.seq = m.seq
  q : sumQ r.2.2.1 = s.q + r.2.1.qty
  v : sumV r.2.2.1 = s.v + r.2.1.value
  q1 : -1000000000 ≤ r.2.1.qty ∧ r.2.1.qty ≤ 1000000000
  v1 : -1000000000000000 ≤ r.2.1.value ∧ r.2.1.value ≤ 1000000000000000
  la : ∀ x ∈ r.2.2.1, Pos x
  pa : ∀ p ∈ r.2.2.2, PaOk p
  pay : m.kind = 1 ∨ m.kind = 5 → r.2.1.value + r.2.1.var = m.cost
  pay4 : m.kind = 4 → r.2.1.value + r.2.1.var = -m.cost
theorem move_ok {lc : Bool} {s : St} {m : Mv} (hI : Inv s) (h1 : oneM m = 0) (h : (moveS lc s m).1 = 0) (hf : ∀ x ∈ (moveS lc s m).2.2.1, farS x.value = false) : MoveOk s m (moveS lc s m) := by
  have F := one_f h1
  have hk := F.kind
  have c := F.cost
  have q0 := hI.q0
  have q1 := hI.q1
  have v0 := hI.v0
  have v1 := hI.v1
  have eq : s.q = sumF La.qty s.la := hI.q
  have ev : s.v = sumF La.value s.la := hI.v
  by_cases k1 : m.kind = 1
  · have hq := F.qty (by omega)
    rw [moveS_1 k1]
    refine ⟨rfl, ?_, ?_, ⟨by simp only; omega, by simp only; omega⟩, ⟨by simp only; omega, by simp only; omega⟩, app_all hI.la (one_all ⟨hq.1, c.1⟩), app_all hI.pa (one_all ⟨.inl k1, hq.1, hq.2, Int.le_refl _, by simp only; omega, Int.le_refl _, c.1, by simp only; omega⟩), fun _ => by simp, fun h => by omega⟩
    · simp only [sumQ, sumF_app, sumF]; omega
    · simp only [sumV, sumF_app, sumF]; omega
  by_cases k2 : m.kind = 2
  · have hq := F.qty (by omega)
    by_cases hlt : s.q < m.qty
    · rw [moveS_2e k2 hlt] at h
      exact absurd h (by simp)
    · obtain ⟨i1, i2, i3, i4, _⟩ := issue_ok s.la m.qty 0 hI.la (by omega) (by simp only [sumQ]; omega) (by simp only [sumQ]; omega) (Int.le_refl _) (by simp only [sumV]; omega)
      have nn := sumF_nn (f := La.value) (l := (issueS s.la m.qty 0).1) (fun x hx => (i1 x hx).v)
      rw [moveS_2 k2 hlt]
      simp only [sumQ] at i2
      simp only [sumV] at i4
      have z0 : 0 ≤ (issueS s.la m.qty 0).2 ∧ (issueS s.la m.qty 0).2 ≤ s.v := by omega
      have w1 : wr (0 - m.qty) = -m.qty := by rw [wr_id (by omega) (by omega)]; omega
      have w2 : wr (0 - (issueS s.la m.qty 0).2) = -(issueS s.la m.qty 0).2 := by rw [wr_id (by omega) (by omega)]; omega
      rw [w1, w2]
      refine ⟨rfl, by simp only [sumQ]; omega, by simp only [sumV]; omega, ⟨by simp only; omega, by simp only; omega⟩, ⟨by simp only; omega, by simp only; omega⟩, i1, app_all hI.pa (one_all ⟨.inr k2, hq.1, hq.2, Int.le_refl _, by simp only; omega, Int.le_refl _, z0.1, by simp only; omega⟩), fun h => by omega, fun h => by omega⟩
  by_cases k3 : m.kind = 3
  · have hq := F.qty (by omega)
    by_cases hf : findS 2 m.ref s.pa < 0
    · rw [moveS_3a k3 hf] at h
      exact absurd h (by simp)
    obtain ⟨z0, z1, z2⟩ := find_lt hf
    have P := hI.pa _ (getD_mem zPa z2)
    generalize hp : s.pa.getD (findS 2 m.ref s.pa).toNat zPa = p at *
    obtain ⟨p1, p2, p3, p4, p5, p6, p7, p8⟩ := P
    have w1 : wr (p.qty - p.used) = p.qty - p.used := wr_id (by omega) (by omega)
    by_cases hl : wr (p.qty - p.used) < m.qty
    · rw [moveS_3b k3 hf (by rw [hp]; exact hl)] at h
      exact absurd h (by simp)
    rw [moveS_3 k3 hf hp hl]
    rw [w1] at hl ⊢
    have w2 : wr (p.value - p.uval) = p.value - p.uval := wr_id (by omega) (by omega)
    rw [w2]
    have t := part_le (v := p.value - p.uval) (n := m.qty) (o := p.qty - p.used) (by omega) (by omega) (by omega) (by omega) (by omega)
    generalize partS (p.value - p.uval) m.qty (p.qty - p.used) = y at *
    rw [wr_id (x := p.used + m.qty) (by omega) (by omega), wr_id (x := p.uval + y) (by omega) (by omega)]
    refine ⟨rfl, ?_, ?_, ⟨by simp only; omega, by simp only; omega⟩, ⟨by simp only; omega, by simp only; omega⟩, app_all hI.la (one_all ⟨hq.1, t.1⟩), set_all hI.pa ?_, fun h => by omega, fun h => by omega⟩
    · simp only [sumQ, sumF_app, sumF]; omega
    · simp only [sumV, sumF_app, sumF]; omega
    · exact ⟨p1, p2, p3, by simp only; omega, by simp only; omega, by simp only; omega, by simp only; omega, p8⟩
  by_cases k4 : m.kind = 4
  · have hq := F.qty (by omega)
    by_cases hf : findS 1 m.ref s.pa < 0
    · rw [moveS_4a k4 hf] at h
      exact absurd h (by simp)
    obtain ⟨z0, z1, z2⟩ := find_lt hf
    have P := hI.pa _ (getD_mem zPa z2)
    generalize hp : s.pa.getD (findS 1 m.ref s.pa).toNat zPa = p at *
    obtain ⟨p1, p2, p3, p4, p5, p6, p7, p8⟩ := P
    have w1 : wr (p.qty - p.used) = p.qty - p.used := wr_id (by omega) (by omega)
    by_cases hl : wr (p.qty - p.used) < m.qty
    · rw [moveS_4b k4 hf hp hl] at h
      exact absurd h (by simp)
    by_cases hi : layerS m.ref s.la < 0
    · rw [moveS_4c k4 hf hp hl hi] at h
      exact absurd h (by simp)
    obtain ⟨y0, y1, y2⟩ := layer_lt hi
    have hx := getD_mem zLa y2
    by_cases hxq : (s.la.getD (layerS m.ref s.la).toNat zLa).qty < m.qty
    · rw [moveS_4d k4 hf hp hl hi hxq] at h
      exact absurd h (by simp)
    rw [moveS_4 k4 hf hp hl hi hxq]
    rw [w1] at hl
    rw [wr_id (x := p.used + m.qty) (by omega) (by omega)]
    have hpa : ∀ p' ∈ s.pa.set (findS 1 m.ref s.pa).toNat { p with used := p.used + m.qty }, PaOk p' := by
      refine set_all hI.pa ?_
      exact ⟨p1, p2, p3, by simp only; omega, by simp only; omega, p6, p7, p8⟩
    have xq := hI.lq hx
    have xv := hI.lv hx
    generalize hi' : (layerS m.ref s.la).toNat = i at *
    have t := part_le (v := (s.la.getD i zLa).value) (n := m.qty) (o := (s.la.getD i zLa).qty) (by omega) (by omega) (by omega) (by omega) (by omega)
    have w3 : wr (0 - m.qty) = -m.qty := by rw [wr_id (by omega) (by omega)]; omega
    by_cases he : (s.la.getD i zLa).qty = m.qty
    · rw [takeS_1 he] at *
      simp only at *
      have r1 := sumF_rm La.qty s.la i y2
      have r2 := sumF_rm La.value s.la i y2
      rw [show partS (s.la.getD i zLa).value m.qty (s.la.getD i zLa).qty = (s.la.getD i zLa).value from by rw [he, part_all]]
      have w4 : wr (0 - (s.la.getD i zLa).value) = -(s.la.getD i zLa).value := by rw [wr_id (by omega) (by omega)]; omega
      rw [w3, w4, wr_id (x := (s.la.getD i zLa).value - m.cost) (by omega) (by omega)]
      exact ⟨rfl, by simp only [sumQ]; omega, by simp only [sumV]; omega, ⟨by simp only; omega, by simp only; omega⟩, ⟨by simp only; omega, by simp only; omega⟩, app_all (fun x hx => hI.la x (List.mem_of_mem_take hx)) (fun x hx => hI.la x (List.mem_of_mem_drop hx)), hpa, fun h => by omega, fun _ => by simp only; omega⟩
    · rw [takeS_2 he] at *
      simp only at *
      generalize partS (s.la.getD i zLa).value m.qty (s.la.getD i zLa).qty = y at *
      rw [wr_id (x := (s.la.getD i zLa).qty - m.qty) (by omega) (by omega), wr_id (x := (s.la.getD i zLa).value - y) (by omega) (by omega)]
      have r1 := sumF_set La.qty s.la i { s.la.getD i zLa with qty := (s.la.getD i zLa).qty - m.qty, value := (s.la.getD i zLa).value - y } y2
      have r2 := sumF_set La.value s.la i { s.la.getD i zLa with qty := (s.la.getD i zLa).qty - m.qty, value := (s.la.getD i zLa).value - y } y2
      simp only at r1 r2
      have w4 : wr (0 - y) = -y := by rw [wr_id (by omega) (by omega)]; omega
      rw [w3, w4, wr_id (x := y - m.cost) (by omega) (by omega)]
      exact ⟨rfl, by simp only [sumQ]; omega, by simp only [sumV]; omega, ⟨by simp only; omega, by simp only; omega⟩, ⟨by simp only; omega, by simp only; omega⟩, set_all hI.la ⟨by simp only; omega, by simp only; omega⟩, hpa, fun h => by omega, fun _ => by simp only; omega⟩
  by_cases k5 : m.kind = 5
  · have hq := F.qty0 (by omega)
    by_cases hfd : findS 1 m.ref s.pa < 0
    · rw [moveS_5a k5 hfd] at h
      exact absurd h (by simp)
    obtain ⟨z0, z1, z2⟩ := find_lt hfd
    have P := hI.pa _ (getD_mem zPa z2)
    generalize hp : s.pa.getD (findS 1 m.ref s.pa).toNat zPa = p at *
    obtain ⟨p1, p2, p3, p4, p5, p6, p7, p8⟩ := P
    have w1 : wr (p.qty - p.used) = p.qty - p.used := wr_id (by omega) (by omega)
    have hl : ¬ (lc = true ∧ wr (p.qty - p.used) < m.qty) := fun e => by omega
    by_cases hi : layerS m.ref s.la < 0
    · rw [moveS_5c k5 hfd hp hl hi]
      exact ⟨rfl, by simp only [sumQ]; omega, by simp only [sumV]; omega, ⟨by simp only; omega, by simp only; omega⟩, ⟨by simp only; omega, by simp only; omega⟩, hI.la, hI.pa, fun _ => by simp only; omega, fun h => by omega⟩
    obtain ⟨y0, y1, y2⟩ := layer_lt hi
    have hx := getD_mem zLa y2
    have xq := hI.lq hx
    have xv := hI.lv hx
    rw [moveS_5 k5 hfd hp hl hi rfl] at hf ⊢
    generalize hi' : (layerS m.ref s.la).toNat = i at *
    have t := part_nn (v := m.cost) (n := (s.la.getD i zLa).qty) (o := p.qty) (by omega) (by omega) (by omega) (by omega)
    simp only at hf
    generalize partS m.cost (s.la.getD i zLa).qty p.qty = y at *
    have hff := far_no.1 (hf _ (List.mem_set y2 _))
    simp only at hff
    have hy : wr ((s.la.getD i zLa).value + y) = (s.la.getD i zLa).value + y := by
      unfold wr at hff ⊢
      rw [IntKind.wrap_i64] at hff ⊢
      omega
    rw [hy] at hff ⊢
    rw [wr_id (x := m.cost - y) (by omega) (by omega)]
    have r1 := sumF_set La.qty s.la i { s.la.getD i zLa with value := (s.la.getD i zLa).value + y } y2
    have r2 := sumF_set La.value s.la i { s.la.getD i zLa with value := (s.la.getD i zLa).value + y } y2
    simp only at r1 r2
    exact ⟨rfl, by simp only [sumQ]; omega, by simp only [sumV]; omega, ⟨by simp only; omega, by simp only; omega⟩, ⟨by simp only; omega, by simp only; omega⟩, set_all hI.la ⟨by simp only; omega, by simp only; omega⟩, hI.pa, fun _ => by simp only; omega, fun h => by omega⟩
  rw [moveS_0 k1 k2 k3 k4 k5] at h
  exact absurd h (by simp)
end Go.Proofs.YtclohjmakcfikaaDoor.Ff

/- Chapter 34, the plain law of a step, whole: the two steps are one on a stock in order. No program in sight. No condition. -/
namespace Go.Proofs.YtclohjmakcfikaaDoor.Ff
open Go.RowKit Go.Proofs.YtclohjmakcfikaaDoorW.PrintWords Go.Proofs.YtclohjmakcfikaaDoor.Ex
set_option linter.unusedVariables false
set_option linter.unusedSimpArgs false
theorem over_no {q v var : Int} {la : List La} : overS q v var la = false ↔ (∀ x ∈ la, farS x.value = false) ∧ q ≤ 1000000000 ∧ farS v = false ∧ farS var = false := by
  unfold overS
  simp only [Bool.or_eq_false_iff, List.any_eq_false, decide_eq_false_iff_not, Bool.not_eq_true]
  constructor
  · rintro ⟨⟨⟨h1, h2⟩, h3⟩, h4⟩
    exact ⟨h1, by omega, h3, h4⟩
  · rintro ⟨h1, h2, h3, h4⟩
    exact ⟨⟨⟨h1, by omega⟩, h3⟩, h4⟩
/-- A step without an error. -/
structure StepOk (kn : List Pa → Int → Bool) (lc : Bool) (s : St) (m : Mv) : Prop where
  one : oneM m = 0
  kno : ¬ kn s.pa m.seq = true
  mv : (moveS lc s m).1 = 0
  ok : MoveOk s m (moveS lc s m)
  eq : stepS kn lc s m = (0, ⟨s.q + (moveS lc s m).2.1.qty, s.v + (moveS lc s m).2.1.value, s.pr, (moveS lc s m).2.2.1, (moveS lc s m).2.2.2⟩, (moveS lc s m).2.1)
  inv : Inv (stepS kn lc s m).2.1
theorem step_ok {kn : List Pa → Int → Bool} {lc : Bool} {s : St} {m : Mv} (hI : Inv s) (h : (stepS kn lc s m).1 = 0) : StepOk kn lc s m := by
  by_cases h1 : oneM m ≠ 0
  · rw [stepS_1 h1] at h
    exact absurd h h1
  by_cases h2 : kn s.pa m.seq = true
  · rw [stepS_2 h1 h2] at h
    exact absurd h (by simp)
  by_cases h3 : (moveS lc s m).1 ≠ 0
  · rw [stepS_3 h1 h2 h3] at h
    exact absurd h h3
  by_cases h4 : overS (wr (s.q + (moveS lc s m).2.1.qty)) (wr (s.v + (moveS lc s m).2.1.value)) (moveS lc s m).2.1.var (moveS lc s m).2.2.1 = true
  · rw [stepS_4 h1 h2 h3 h4] at h
    exact absurd h (by simp)
  have h1' : oneM m = 0 := Classical.not_not.1 h1
  have h3' : (moveS lc s m).1 = 0 := Classical.not_not.1 h3
  obtain ⟨o1, o2, o3, o4⟩ := over_no.1 (Bool.eq_false_iff.2 h4)
  have M := move_ok hI h1' h3' o1
  have q0 := hI.q0
  have q1 := hI.q1
  have v0 := hI.v0
  have v1 := hI.v1
  have mq := M.q1
  have mv := M.v1
  have e1 : wr (s.q + (moveS lc s m).2.1.qty) = s.q + (moveS lc s m).2.1.qty := wr_id (by omega) (by omega)
  have e2 : wr (s.v + (moveS lc s m).2.1.value) = s.v + (moveS lc s m).2.1.value := wr_id (by omega) (by omega)
  have e := stepS_5 h1 h2 h3 h4
  rw [e1, e2] at e
  rw [e1] at o2
  rw [e2] at o3
  refine ⟨h1', h2, h3', M, e, ?_⟩
  rw [e]
  exact ⟨M.pa, M.la, M.q.symm, o2, M.v.symm, (far_no.1 o3).2⟩
theorem fi_any {α : Type} (p : α → Bool) : ∀ (l : List α) (j : Int), 0 ≤ j → (0 ≤ fi p l j ↔ l.any p = true)
  | [], j, _ => by simp [fi]
  | x :: r, j, h => by
    have e : fi p (x :: r) j = if p x = true then j else fi p r (j + 1) := rfl
    rw [e, List.any_cons, Bool.or_eq_true]
    by_cases hx : p x = true
    · rw [if_pos hx]
      exact ⟨fun _ => .inl hx, fun _ => h⟩
    · rw [if_neg hx, fi_any p r (j + 1) (by omega)]
      exact ⟨.inr, fun k => k.elim (fun k => absurd k hx) id⟩
theorem kn_eq {pa : List Pa} (h : ∀ p ∈ pa, PaOk p) (seq : Int) : knF pa seq = knR pa seq := by
  unfold knF knR findS
  rw [Bool.eq_iff_iff]
  simp only [Bool.or_eq_true, decide_eq_true_eq, fi_any _ _ _ (Int.le_refl _), List.any_eq_true, Bool.and_eq_true, beq_iff_eq]
  constructor
  · rintro ⟨p, hp, e⟩
    rcases (h p hp).kind with k | k
    · exact .inl ⟨p, hp, k, e⟩
    · exact .inr ⟨p, hp, k, e⟩
  · rintro (⟨p, hp, _, e⟩ | ⟨p, hp, _, e⟩)
    · exact ⟨p, hp, e⟩
    · exact ⟨p, hp, e⟩
theorem move_lc {s : St} {m : Mv} (hI : Inv s) (h1 : oneM m = 0) : moveS true s m = moveS false s m := by
  have F := one_f h1
  have hk := F.kind
  by_cases k5 : m.kind = 5
  · have hq := F.qty0 (by omega)
    by_cases hf : findS 1 m.ref s.pa < 0
    · rw [moveS_5a k5 hf, moveS_5a k5 hf]
    obtain ⟨z0, z1, z2⟩ := find_lt hf
    have P := hI.pa _ (getD_mem zPa z2)
    generalize hp : s.pa.getD (findS 1 m.ref s.pa).toNat zPa = p at *
    obtain ⟨p1, p2, p3, p4, p5, p6, p7, p8⟩ := P
    have w1 : wr (p.qty - p.used) = p.qty - p.used := wr_id (by omega) (by omega)
    by_cases hi : layerS m.ref s.la < 0
    · rw [moveS_5c k5 hf hp (by omega) hi, moveS_5c k5 hf hp (by omega) hi]
    · rw [moveS_5 k5 hf hp (by omega) hi rfl, moveS_5 k5 hf hp (by omega) hi rfl]
  · unfold moveS
    simp only [if_neg k5]
theorem step_eq {s : St} {m : Mv} (hI : Inv s) : stpF s m = stpR s m := by
  unfold stpF stpR
  by_cases h1 : oneM m ≠ 0
  · rw [stepS_1 h1, stepS_1 h1]
  · have e := move_lc hI (Classical.not_not.1 h1)
    unfold stepS
    rw [e, kn_eq hI.pa]
theorem Inv.next {s : St} (h : Inv s) (m : Mv) : Inv (if (stpF s m).1 = 0 then (stpF s m).2.1 else s) := by
  split
  · rename_i h1
    exact (step_ok h h1).inv
  · exact h
theorem play_inv : ∀ (l : List Mv) (s : St), Inv s → Inv (playF stpF l s)
  | [], s, h => h
  | m :: r, s, h => play_inv r _ (h.next m)
theorem play_pl : ∀ (l : List Mv) (s : St) (k : Nat), (∀ m ∈ l, MvI m) → PlI s k → PlI (playF stpF l s) (k + l.length)
  | [], s, k, _, h => h
  | m :: r, s, k, hl, h => by
    have := play_pl r _ (k + 1) (fun x hx => hl x (List.mem_cons_of_mem _ hx)) (h.next stpF_f (hl m List.mem_cons_self))
    simp only [List.length_cons]
    rw [show k + (r.length + 1) = k + 1 + r.length from by omega]
    exact this
theorem playS_inv (l : List Mv) : Inv (playS l) := play_inv _ _ zSt_inv
theorem playS_pl {l : List Mv} (h : MvsI l) : PlI (playS l) 60 := by
  have := play_pl (l.take 60) zSt 0 (fun m hm => (h m (List.mem_of_mem_take hm)).1) zSt_pl
  refine ⟨this.int, ?_, ?_⟩
  · have := this.la
    simp at this
    unfold playS
    omega
  · have := this.pa
    simp at this
    unfold playS
    omega
/-- The reference's step, told as the program's: on a stock in order. -/
def SmR (s : St) (m : Mv) : Prop := SmI s m ∧ Inv s
theorem stpR_ok {g : G} {bs : Nat} : SpOk Tryd.prog g bs 11 (spStep SmR stpF) := step_ok' ⟨_, Tryd.func11, by decide +kernel, rfl⟩ (fun ρ A a W hR s m LV PV h1 h2 h => by
  rw [step_eq h.2]
  exact rstep_calls s m h1 h2 h.1.si h.1.mi h.1.la h.1.pa h.1.item h.1.lot)
end Go.Proofs.YtclohjmakcfikaaDoor.Ff

/- The law FifoSteps, walked. No condition but 64 bits. -/
namespace Go.Proofs.YtclohjmakcfikaaDoor.Ff
open Go.RowKit Go.Proofs.YtclohjmakcfikaaDoorW.PrintWords Go.Proofs.YtclohjmakcfikaaDoor.Ex
set_option linter.unusedVariables false
set_option linter.unusedSimpArgs false
set_option maxRecDepth 100000
def spUnused : Sp := fun d args k => match args with
  | [.agg [.v (.int .i64 q), .v (.int .i64 v), .v (.int .i64 pr), x, y]] => rdRow .la x fun la => rdRow .pa y fun pa => .ob (pa.length ≤ 1000000000) (k (.one (.v (.int .i64 (unusedS pa)))))
  | _ => .fail
theorem unused_ok {g : G} {bs : Nat} : SpOk Tryd.prog g bs 15 spUnused := sp_val ⟨_, Tryd.func15, by decide +kernel, rfl⟩ (by
  intro d args k A r h hb
  unfold spUnused at h hb
  split at h
  · rename_i q v pr x y
    obtain ⟨la, h1, hb1, hl⟩ := rdRow_s h hb
    obtain ⟨pa, h2, hb2, hp⟩ := rdRow_s h1 hb1
    simp only [M.go] at h2
    simp only [M.obl] at hb2
    refine ⟨_, h2, hb2.2, fun ρ a0 w vs hR hv => ?_⟩
    match vs, hv with
    | [v1], ⟨⟨us, e1, hu⟩, _⟩ =>
      match us, hu with
      | [u1, u2, u3, u4, u5], ⟨k1, k2, k3, k4, k5, _⟩ =>
        simp only [L.rel] at k1 k2 k3
        subst e1 k1 k2 k3
        refine (unused_calls (hl _ _ _ _ _ hR k4) (hp _ _ _ _ _ hR k5) _ _ _ hb2.1).mono ?_
        rintro e w1 ⟨rfl, hbel⟩
        exact ⟨_, rfl, fun ρ' => rfl, hbel⟩
  · cases h)
theorem lives_ok {g : G} {bs : Nat} (hL : Laid g.W0) (hS : ∀ i, ¬ g.S i) : SpOk Tryd.prog g bs 13 spTrue := true_ok hL hS ⟨_, Tryd.func13, by decide +kernel, rfl⟩ (fun W h => lives_calls h)
def CL : List (Nat × Sp) := [(10, spStep SmI stpF), (11, spStep SmR stpF), (12, spSame), (13, spTrue), (14, spPlay), (15, spUnused), (16, spClone)]
theorem cl_ok {g : G} {n : Nat} (hL : Laid g.W0) (hS : ∀ i, ¬ g.S i) : ∀ f sp, lookC CL f = some sp → SpOk Tryd.prog g n f sp := spc_cons (stpF_ok hL hS) (spc_cons stpR_ok (spc_cons same_ok (spc_cons (lives_ok hL hS) (spc_cons (play_ok hL hS) (spc_cons unused_ok (spc_cons Clone_ok spc_nil))))))
theorem at60 {l : List Mv} {k : Nat} (h : k < 60) : (l.take 60).getD k zMv = l.getD k zMv := by rw [List.getD_eq_getElem?_getD, List.getElem?_take_of_lt h, ← List.getD_eq_getElem?_getD]
theorem FifoSteps_calls {W : World} {V : Value} {l : List Mv} (hL : Laid W) (h1 : Src W V .mv l) (hl : MvsI l) :
    Calls Tryd.prog 3 #[V] W fun e w1 => e = .returned (.bool true) ∧ Below W.heap.size W w1 := by
  obtain ⟨ρ, e1, hS⟩ := start1 h1
  have hg : ∀ i, ¬ (gW W).S i := fun i h => h
  refine (calls_awp (f := 3) (vs := [V]) (cx_ok (C := CL) (nt := 63) (cl_ok hL hg)) mixed_ok Tryd.func3 rfl rfl hS (avs := [.one (.row 0)])
    (fun ρ' h => ⟨row_rel h (by simp [findR]) e1 h1, trivial⟩) (le_of_ble (by kernel_rfl)) (K := fun x A => x = .one (.v (.bool true))) ?_).mono ?_
  · ((conv => whnf) <;> repeat (refine obl_ ?_; conv => whnf))
    refine LoopP.introR (cx_ok (cl_ok hL hg)) mixed_ok (ι := Nat × St) (fun k => ⟨[(5, .one (.v (.int .i64 (k.1 : Int)))), (4, .one (.ptr 14 0)), (3, .one (.ptr 13 0)), (2, .one (.v (.bool false))), (0, .one (.row 0))], [(14, 26, [.v (.int .i64 k.2.q), .v (.int .i64 k.2.v), .v (.int .i64 k.2.pr), .row 5002, .row 5003]), (13, 26, [.v (.int .i64 k.2.q), .v (.int .i64 k.2.v), .v (.int .i64 k.2.pr), .row 5000, .row 5001])], [(0, some ⟨.mv, l, false⟩), (5000, some ⟨.la, k.2.la, true⟩), (5001, some ⟨.pa, k.2.pa, true⟩), (5002, some ⟨.la, k.2.la, true⟩), (5003, some ⟨.pa, k.2.pa, true⟩)]⟩) (fun k => k.1 ≤ 60 ∧ k.1 ≤ l.length ∧ PlI k.2 k.1 ∧ Inv k.2) (fun k => 60 - k.1) (0, zSt) ⟨Nat.zero_le _, Nat.zero_le _, zSt_pl, zSt_inv⟩ ⟨[(5000, none), (5001, none), (5002, none), (5003, none)], by (refine ⟨?_, ?_, ?_, by kernel_rfl⟩ <;> repeat' (first | exact trivial | exact rfl | assumption | apply And.intro))⟩ ?_
    rintro ⟨k, s⟩ ⟨hk, hkl, hs, hI⟩
    simp only at hk hkl hs hI
    ((conv => whnf) <;> repeat (refine obl_ ?_; conv => whnf))
    refine cond_ (fun h => ?_) (fun h => ?_)
    · have hlt := of_decide_eq_true h
      have i1 : 0 ≤ (k : Int) := by omega
      ((conv => whnf) <;> repeat (refine obl_ ?_; conv => whnf))
      refine cond_ (fun h2 => ?_) (fun h2 => ?_)
      · have hlt2 := of_decide_eq_true h2
        have hkl : k < l.length := by omega
        have hsm : SmI s (l.getD k zMv) := hl.sm hkl hs.int (by have := hs.la; omega) (by have := hs.pa; omega)
        have hs2 := hs.next stpF_f hsm.mi
        have hI2 := hI.next (l.getD k zMv)
        have hsr : SmR s (l.getD k zMv) := ⟨hsm, hI⟩
        ((conv => whnf) <;> repeat (refine obl_ ?_; conv => whnf))
        refine cond_ (fun h => absurd h (by simp)) (fun _ => ?_)
        ((conv => whnf) <;> repeat (refine obl_ ?_; conv => whnf))
        refine cond_ (fun h => absurd h (by simp)) (fun _ => ?_)
        ((conv => whnf) <;> repeat (refine obl_ ?_; conv => whnf))
        refine cond_ (fun h3 => ?_) (fun h3 => ?_)
        · have h3' : (stpF s (l.getD k zMv)).1 = 0 := beq_iff_eq.1 h3
          rw [if_pos h3'] at hs2 hI2
          ((conv => whnf) <;> repeat (refine obl_ ?_; conv => whnf))
          refine ⟨(k + 1, (stpF s (l.getD k zMv)).2.1), ⟨by simp only; omega, by simp only; omega, hs2, hI2⟩, by simp only; omega, [(5000, some 40), (5001, some 540), (5002, some 50), (5003, some 550)], ?_⟩
          (refine ⟨?_, ?_, ?_, by kernel_rfl⟩ <;> repeat' (first | exact trivial | exact rfl | assumption | apply And.intro))
          exact up_ (by omega)
        · have h3' : ¬ (stpF s (l.getD k zMv)).1 = 0 := fun e => beq_ne h3 e
          rw [if_neg h3'] at hs2 hI2
          ((conv => whnf) <;> repeat (refine obl_ ?_; conv => whnf))
          refine ⟨(k + 1, s), ⟨by simp only; omega, by simp only; omega, hs2, hI2⟩, by simp only; omega, [], ?_⟩
          (refine ⟨?_, ?_, ?_, by kernel_rfl⟩ <;> repeat' (first | exact trivial | exact rfl | assumption | apply And.intro))
          exact up_ (by omega)
      · ((conv => whnf) <;> repeat (refine obl_ ?_; conv => whnf))
        exact rfl
    · ((conv => whnf) <;> repeat (refine obl_ ?_; conv => whnf))
      exact rfl
  · rintro e w1 ⟨x, v, A1, ρ1, a1, rfl, hv, rfl, hS1, _⟩
    exact ⟨by rw [show x = _ from hv], hS1.rel.bel⟩
end Go.Proofs.YtclohjmakcfikaaDoor.Ff
