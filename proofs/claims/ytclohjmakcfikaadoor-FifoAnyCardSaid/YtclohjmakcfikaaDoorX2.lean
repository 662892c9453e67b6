/- The executor and what hangs on it, merged (FfR, FfS, FfT, FfU, FfV, FfW): a verified abstract run of code over memory, and the walks by it; each theorem names its conditions. -/
import Derived.Test.YtclohjmakcfikaaDoorX1
/- Chapter 34, the plain law of a step: a movement keeps the stock in order. No program in sight. No condition. -/
namespace Go.Proofs.YtclohjmakcfikaaDoor.Ff
open Go.RowKit Go.Proofs.YtclohjmakcfikaaDoorW.PrintWords Go.Proofs.YtclohjmakcfikaaDoor.Ex
set_option linter.unusedVariables false
set_option linter.unusedSimpArgs false
/-- What moves.One lets in. -/
structure OneF (m : Mv) : Prop where
  kind : 1 ≤ m.kind ∧ m.kind ≤ 6
  qty : m.kind ≤ 4 → 1 ≤ m.qty ∧ m.qty ≤ 1000000000
  qty0 : 5 ≤ m.kind → m.qty = 0
  cost0 : m.kind = 2 ∨ m.kind = 3 → m.cost = 0
  cost5 : m.kind = 5 → 1 ≤ m.cost
  cost : 0 ≤ m.cost ∧ m.cost ≤ 1000000000000
theorem one_f {m : Mv} (h : oneM m = 0) : OneF m := by
  have e : Co.kindB m.kind = true ∧ Co.qtyB m.kind m.qty = true ∧ Co.costB m.kind m.cost = true := by
    unfold oneM Co.oneS at h
    repeat' split at h
    all_goals first | exact ⟨by assumption, by assumption, by assumption⟩ | (simp at h; done)
  obtain ⟨h1, h2, h3⟩ := e
  unfold Co.kindB at h1
  have h1 := of_decide_eq_true h1
  unfold Co.qtyB at h2
  unfold Co.costB at h3
  refine ⟨h1, fun h => ?_, fun h => ?_, fun h => ?_, fun h => ?_, ?_⟩
  · rw [if_neg (by omega)] at h2
    exact of_decide_eq_true h2
  · rw [if_pos (by omega)] at h2
    exact of_decide_eq_true h2
  · rw [if_pos h] at h3
    exact of_decide_eq_true h3
  · rw [if_neg (by omega), if_pos h] at h3
    exact (of_decide_eq_true h3).1
  · split at h3
    · have := of_decide_eq_true h3
      omega
    · split at h3
      · have := of_decide_eq_true h3
        omega
      · exact of_decide_eq_true h3
theorem far_no {n : Int} : farS n = false ↔ -1000000000000000 ≤ n ∧ n ≤ 1000000000000000 := by
  unfold farS
  simp only [Bool.or_eq_false_iff, decide_eq_false_iff_not]
  omega
theorem sg_nn {s : Int} (h : 0 ≤ s) : 0 ≤ (Md.sg false s).1 ∧ (Md.sg false s).1 ≤ 9223372036854775807 := by
  unfold Md.sg
  simp only [Bool.false_eq_true, if_false]
  split <;> simp <;> omega
theorem part_nn {v n o : Int} (hv : 0 ≤ v) (hV : v ≤ 9223372036854775807) (hn : 0 ≤ n) (ho : 0 < o) : 0 ≤ partS v n o ∧ partS v n o ≤ 9223372036854775807 := by
  unfold partS
  split
  · exact ⟨hv, hV⟩
  · have hP : ((v.natAbs : Int) * n.natAbs) = v * n := by rw [Int.natAbs_of_nonneg hv, Int.natAbs_of_nonneg hn]
    have ho' : (o.natAbs : Int) = o := Int.natAbs_of_nonneg (by omega)
    have d1 : decide (v < 0) = false := decide_eq_false (by omega)
    have d2 : decide (n < 0) = false := decide_eq_false (by omega)
    have d3 : decide (o < 0) = false := decide_eq_false (by omega)
    have q0 : 0 ≤ (v * n) / o := Int.ediv_nonneg (Int.mul_nonneg hv hn) (by omega)
    unfold Md.md
    rw [if_neg (by omega), if_neg (by omega)]
    simp only [hP, ho', d1, d2, d3]
    rw [show (decide (v * n ≠ 0) && ((false != false) != false)) = false from by simp]
    refine sg_nn ?_
    split <;> omega
structure MoveOk (s : St) (m : Mv) (r : Int × Co × List La × List Pa) : Prop where
  seq : r.2.1.seq = m.seq
  q : sumQ r.2.2.1 = s.q + r.2.1.qty
  v : sumV r.2.2.1 = s.v + r.2.1.value
  q1 : -1000000000 ≤ r.2.1.qty ∧ r.2.1.qty ≤ 1000000000
  v1 : -1000000000000000 ≤ r.2.1.value ∧ r.2.1.value ≤ 1000000000000000
  la : ∀ x ∈ r.2.2.1, Pos x
  pa : ∀ p ∈ r.2.2.2, PaOk p
  pay : m.kind = 1 ∨ m.kind = 5 → r.2.1.value + r.2.1.var = m.cost
  pay4 : m.kind = 4 → r.2.1.value + r.2.1.var = -m.cost
theorem move_ok {lc : Bool} {s : St} {m : Mv} (hI : Inv s) (h1 : oneM m = 0) (h : (moveS lc s m).1 = 0) (hf : ∀ x ∈ (moveS lc s m).2.2.1, farS x.value = false) : MoveOk s m (moveS lc s m) := by
  have F := one_f h1
  have hk := F.kind
  have c := F.cost
  have q0 := hI.q0
  have q1 := hI.q1
  have v0 := hI.v0
  have v1 := hI.v1
  have eq : s.q = sumF La.qty s.la := hI.q
  have ev : s.v = sumF La.value s.la := hI.v
  by_cases k1 : m.kind = 1
  · have hq := F.qty (by omega)
    rw [moveS_1 k1]
    refine ⟨rfl, ?_, ?_, ⟨by simp only; omega, by simp only; omega⟩, ⟨by simp only; omega, by simp only; omega⟩, app_all hI.la (one_all ⟨hq.1, c.1⟩), app_all hI.pa (one_all ⟨.inl k1, hq.1, hq.2, Int.le_refl _, by simp only; omega, Int.le_refl _, c.1, by simp only; omega⟩), fun _ => by simp, fun h => by omega⟩
    · simp only [sumQ, sumF_app, sumF]; omega
    · simp only [sumV, sumF_app, sumF]; omega
  by_cases k2 : m.kind = 2
  · have hq := F.qty (by omega)
    by_cases hlt : s.q < m.qty
    · rw [moveS_2e k2 hlt] at h
      exact absurd h (by simp)
    · obtain ⟨i1, i2, i3, i4, _⟩ := issue_ok s.la m.qty 0 hI.la (by omega) (by simp only [sumQ]; omega) (by simp only [sumQ]; omega) (Int.le_refl _) (by simp only [sumV]; omega)
      have nn := sumF_nn (f := La.value) (l := (issueS s.la m.qty 0).1) (fun x hx => (i1 x hx).v)
      rw [moveS_2 k2 hlt]
      simp only [sumQ] at i2
      simp only [sumV] at i4
      have z0 : 0 ≤ (issueS s.la m.qty 0).2 ∧ (issueS s.la m.qty 0).2 ≤ s.v := by omega
      have w1 : wr (0 - m.qty) = -m.qty := by rw [wr_id (by omega) (by omega)]; omega
      have w2 : wr (0 - (issueS s.la m.qty 0).2) = -(issueS s.la m.qty 0).2 := by rw [wr_id (by omega) (by omega)]; omega
      rw [w1, w2]
      refine ⟨rfl, by simp only [sumQ]; omega, by simp only [sumV]; omega, ⟨by simp only; omega, by simp only; omega⟩, ⟨by simp only; omega, by simp only; omega⟩, i1, app_all hI.pa (one_all ⟨.inr k2, hq.1, hq.2, Int.le_refl _, by simp only; omega, Int.le_refl _, z0.1, by simp only; omega⟩), fun h => by omega, fun h => by omega⟩
  by_cases k3 : m.kind = 3
  · have hq := F.qty (by omega)
    by_cases hf : findS 2 m.ref s.pa < 0
    · rw [moveS_3a k3 hf] at h
      exact absurd h (by simp)
    obtain ⟨z0, z1, z2⟩ := find_lt hf
    have P := hI.pa _ (getD_mem zPa z2)
    generalize hp : s.pa.getD (findS 2 m.ref s.pa).toNat zPa = p at *
    obtain ⟨p1, p2, p3, p4, p5, p6, p7, p8⟩ := P
    have w1 : wr (p.qty - p.used) = p.qty - p.used := wr_id (by omega) (by omega)
    by_cases hl : wr (p.qty - p.used) < m.qty
    · rw [moveS_3b k3 hf (by rw [hp]; exact hl)] at h
      exact absurd h (by simp)
    rw [moveS_3 k3 hf hp hl]
    rw [w1] at hl ⊢
    have w2 : wr (p.value - p.uval) = p.value - p.uval := wr_id (by omega) (by omega)
    rw [w2]
    have t := part_le (v := p.value - p.uval) (n := m.qty) (o := p.qty - p.used) (by omega) (by omega) (by omega) (by omega) (by omega)
    generalize partS (p.value - p.uval) m.qty (p.qty - p.used) = y at *
    rw [wr_id (x := p.used + m.qty) (by omega) (by omega), wr_id (x := p.uval + y) (by omega) (by omega)]
    refine ⟨rfl, ?_, ?_, ⟨by simp only; omega, by simp only; omega⟩, ⟨by simp only; omega, by simp only; omega⟩, app_all hI.la (one_all ⟨hq.1, t.1⟩), set_all hI.pa ?_, fun h => by omega, fun h => by omega⟩
    · simp only [sumQ, sumF_app, sumF]; omega
    · simp only [sumV, sumF_app, sumF]; omega
    · exact ⟨p1, p2, p3, by simp only; omega, by simp only; omega, by simp only; omega, by simp only; omega, p8⟩
  by_cases k4 : m.kind = 4
  · have hq := F.qty (by omega)
    by_cases hf : findS 1 m.ref s.pa < 0
    · rw [moveS_4a k4 hf] at h
      exact absurd h (by simp)
    obtain ⟨z0, z1, z2⟩ := find_lt hf
    have P := hI.pa _ (getD_mem zPa z2)
    generalize hp : s.pa.getD (findS 1 m.ref s.pa).toNat zPa = p at *
    obtain ⟨p1, p2, p3, p4, p5, p6, p7, p8⟩ := P
    have w1 : wr (p.qty - p.used) = p.qty - p.used := wr_id (by omega) (by omega)
    by_cases hl : wr (p.qty - p.used) < m.qty
    · rw [moveS_4b k4 hf hp hl] at h
      exact absurd h (by simp)
    by_cases hi : layerS m.ref s.la < 0
    · rw [moveS_4c k4 hf hp hl hi] at h
      exact absurd h (by simp)
    obtain ⟨y0, y1, y2⟩ := layer_lt hi
    have hx := getD_mem zLa y2
    by_cases hxq : (s.la.getD (layerS m.ref s.la).toNat zLa).qty < m.qty
    · rw [moveS_4d k4 hf hp hl hi hxq] at h
      exact absurd h (by simp)
    rw [moveS_4 k4 hf hp hl hi hxq]
    rw [w1] at hl
    rw [wr_id (x := p.used + m.qty) (by omega) (by omega)]
    have hpa : ∀ p' ∈ s.pa.set (findS 1 m.ref s.pa).toNat { p with used := p.used + m.qty }, PaOk p' := by
      refine set_all hI.pa ?_
      exact ⟨p1, p2, p3, by simp only; omega, by simp only; omega, p6, p7, p8⟩
    have xq := hI.lq hx
    have xv := hI.lv hx
    generalize hi' : (layerS m.ref s.la).toNat = i at *
    have t := part_le (v := (s.la.getD i zLa).value) (n := m.qty) (o := (s.la.getD i zLa).qty) (by omega) (by omega) (by omega) (by omega) (by omega)
    have w3 : wr (0 - m.qty) = -m.qty := by rw [wr_id (by omega) (by omega)]; omega
    by_cases he : (s.la.getD i zLa).qty = m.qty
    · rw [takeS_1 he] at *
      simp only at *
      have r1 := sumF_rm La.qty s.la i y2
      have r2 := sumF_rm La.value s.la i y2
      rw [show partS (s.la.getD i zLa).value m.qty (s.la.getD i zLa).qty = (s.la.getD i zLa).value from by rw [he, part_all]]
      have w4 : wr (0 - (s.la.getD i zLa).value) = -(s.la.getD i zLa).value := by rw [wr_id (by omega) (by omega)]; omega
      rw [w3, w4, wr_id (x := (s.la.getD i zLa).value - m.cost) (by omega) (by omega)]
      exact ⟨rfl, by simp only [sumQ]; omega, by simp only [sumV]; omega, ⟨by simp only; omega, by simp only; omega⟩, ⟨by simp only; omega, by simp only; omega⟩, app_all (fun x hx => hI.la x (List.mem_of_mem_take hx)) (fun x hx => hI.la x (List.mem_of_mem_drop hx)), hpa, fun h => by omega, fun _ => by simp only; omega⟩
    · rw [takeS_2 he] at *
      simp only at *
      generalize partS (s.la.getD i zLa).value m.qty (s.la.getD i zLa).qty = y at *
      rw [wr_id (x := (s.la.getD i zLa).qty - m.qty) (by omega) (by omega), wr_id (x := (s.la.getD i zLa).value - y) (by omega) (by omega)]
      have r1 := sumF_set La.qty s.la i { s.la.getD i zLa with qty := (s.la.getD i zLa).qty - m.qty, value := (s.la.getD i zLa).value - y } y2
      have r2 := sumF_set La.value s.la i { s.la.getD i zLa with qty := (s.la.getD i zLa).qty - m.qty, value := (s.la.getD i zLa).value - y } y2
      simp only at r1 r2
      have w4 : wr (0 - y) = -y := by rw [wr_id (by omega) (by omega)]; omega
      rw [w3, w4, wr_id (x := y - m.cost) (by omega) (by omega)]
      exact ⟨rfl, by simp only [sumQ]; omega, by simp only [sumV]; omega, ⟨by simp only; omega, by simp only; omega⟩, ⟨by simp only; omega, by simp only; omega⟩, set_all hI.la ⟨by simp only; omega, by simp only; omega⟩, hpa, fun h => by omega, fun _ => by simp only; omega⟩
  by_cases k5 : m.kind = 5
  · have hq := F.qty0 (by omega)
    by_cases hfd : findS 1 m.ref s.pa < 0
    · rw [moveS_5a k5 hfd] at h
      exact absurd h (by simp)
    obtain ⟨z0, z1, z2⟩ := find_lt hfd
    have P := hI.pa _ (getD_mem zPa z2)
    generalize hp : s.pa.getD (findS 1 m.ref s.pa).toNat zPa = p at *
    obtain ⟨p1, p2, p3, p4, p5, p6, p7, p8⟩ := P
    have w1 : wr (p.qty - p.used) = p.qty - p.used := wr_id (by omega) (by omega)
    have hl : ¬ (lc = true ∧ wr (p.qty - p.used) < m.qty) := fun e => by omega
    by_cases hi : layerS m.ref s.la < 0
    · rw [moveS_5c k5 hfd hp hl hi]
      exact ⟨rfl, by simp only [sumQ]; omega, by simp only [sumV]; omega, ⟨by simp only; omega, by simp only; omega⟩, ⟨by simp only; omega, by simp only; omega⟩, hI.la, hI.pa, fun _ => by simp only; omega, fun h => by omega⟩
    obtain ⟨y0, y1, y2⟩ := layer_lt hi
    have hx := getD_mem zLa y2
    have xq := hI.lq hx
    have xv := hI.lv hx
    rw [moveS_5 k5 hfd hp hl hi rfl] at hf ⊢
    generalize hi' : (layerS m.ref s.la).toNat = i at *
    have t := part_nn (v := m.cost) (n := (s.la.getD i zLa).qty) (o := p.qty) (by omega) (by omega) (by omega) (by omega)
    simp only at hf
    generalize partS m.cost (s.la.getD i zLa).qty p.qty = y at *
    have hff := far_no.1 (hf _ (List.mem_set y2 _))
    simp only at hff
    have hy : wr ((s.la.getD i zLa).value + y) = (s.la.getD i zLa).value + y := by
      unfold wr at hff ⊢
      rw [IntKind.wrap_i64] at hff ⊢
      omega
    rw [hy] at hff ⊢
    rw [wr_id (x := m.cost - y) (by omega) (by omega)]
    have r1 := sumF_set La.qty s.la i { s.la.getD i zLa with value := (s.la.getD i zLa).value + y } y2
    have r2 := sumF_set La.value s.la i { s.la.getD i zLa with value := (s.la.getD i zLa).value + y } y2
    simp only at r1 r2
    exact ⟨rfl, by simp only [sumQ]; omega, by simp only [sumV]; omega, ⟨by simp only; omega, by simp only; omega⟩, ⟨by simp only; omega, by simp only; omega⟩, set_all hI.la ⟨by simp only; omega, by simp only; omega⟩, hI.pa, fun _ => by simp only; omega, fun h => by omega⟩
  rw [moveS_0 k1 k2 k3 k4 k5] at h
  exact absurd h (by simp)
end Go.Proofs.YtclohjmakcfikaaDoor.Ff

/- Chapter 34, the plain law of a step, whole: the two steps are one on a stock in order. No program in sight. No condition. -/
namespace Go.Proofs.YtclohjmakcfikaaDoor.Ff
open Go.RowKit Go.Proofs.YtclohjmakcfikaaDoorW.PrintWords Go.Proofs.YtclohjmakcfikaaDoor.Ex
set_option linter.unusedVariables false
set_option linter.unusedSimpArgs false
theorem over_no {q v var : Int} {la : List La} : overS q v var la = false ↔ (∀ x ∈ la, farS x.value = false) ∧ q ≤ 1000000000 ∧ farS v = false ∧ farS var = false := by
  unfold overS
  simp only [Bool.or_eq_false_iff, List.any_eq_false, decide_eq_false_iff_not, Bool.not_eq_true]
  constructor
  · rintro ⟨⟨⟨h1, h2⟩, h3⟩, h4⟩
    exact ⟨h1, by omega, h3, h4⟩
  · rintro ⟨h1, h2, h3, h4⟩
    exact ⟨⟨⟨h1, by omega⟩, h3⟩, h4⟩
/-- A step without an error. -/
structure StepOk (kn : List Pa → Int → Bool) (lc : Bool) (s : St) (m : Mv) : Prop where
  one : oneM m = 0
  kno : ¬ kn s.pa m.seq = true
  mv : (moveS lc s m).1 = 0
  ok : MoveOk s m (moveS lc s m)
  eq : stepS kn lc s m = (0, ⟨s.q + (moveS lc s m).2.1.qty, s.v + (moveS lc s m).2.1.value, s.pr, (moveS lc s m).2.2.1, (moveS lc s m).2.2.2⟩, (moveS lc s m).2.1)
  inv : Inv (stepS kn lc s m).2.1
theorem step_ok {kn : List Pa → Int → Bool} {lc : Bool} {s : St} {m : Mv} (hI : Inv s) (h : (stepS kn lc s m).1 = 0) : StepOk kn lc s m := by
  by_cases h1 : oneM m ≠ 0
  · rw [stepS_1 h1] at h
    exact absurd h h1
  by_cases h2 : kn s.pa m.seq = true
  · rw [stepS_2 h1 h2] at h
    exact absurd h (by simp)
  by_cases h3 : (moveS lc s m).1 ≠ 0
  · rw [stepS_3 h1 h2 h3] at h
    exact absurd h h3
  by_cases h4 : overS (wr (s.q + (moveS lc s m).2.1.qty)) (wr (s.v + (moveS lc s m).2.1.value)) (moveS lc s m).2.1.var (moveS lc s m).2.2.1 = true
  · rw [stepS_4 h1 h2 h3 h4] at h
    exact absurd h (by simp)
  have h1' : oneM m = 0 := Classical.not_not.1 h1
  have h3' : (moveS lc s m).1 = 0 := Classical.not_not.1 h3
  obtain ⟨o1, o2, o3, o4⟩ := over_no.1 (Bool.eq_false_iff.2 h4)
  have M := move_ok hI h1' h3' o1
  have q0 := hI.q0
  have q1 := hI.q1
  have v0 := hI.v0
  have v1 := hI.v1
  have mq := M.q1
  have mv := M.v1
  have e1 : wr (s.q + (moveS lc s m).2.1.qty) = s.q + (moveS lc s m).2.1.qty := wr_id (by omega) (by omega)
  have e2 : wr (s.v + (moveS lc s m).2.1.value) = s.v + (moveS lc s m).2.1.value := wr_id (by omega) (by omega)
  have e := stepS_5 h1 h2 h3 h4
  rw [e1, e2] at e
  rw [e1] at o2
  rw [e2] at o3
  refine ⟨h1', h2, h3', M, e, ?_⟩
  rw [e]
  exact ⟨M.pa, M.la, M.q.symm, o2, M.v.symm, (far_no.1 o3).2⟩
theorem fi_any {α : Type} (p : α → Bool) : ∀ (l : List α) (j : Int), 0 ≤ j → (0 ≤ fi p l j ↔ l.any p = true)
  | [], j, _ => by simp [fi]
  | x :: r, j, h => by
    have e : fi p (x :: r) j = if p x = true then j else fi p r (j + 1) := rfl
    rw [e, List.any_cons, Bool.or_eq_true]
    by_cases hx : p x = true
    · rw [if_pos hx]
      exact ⟨fun _ => .inl hx, fun _ => h⟩
    · rw [if_neg hx, fi_any p r (j + 1) (by omega)]
      exact ⟨.inr, fun k => k.elim (fun k => absurd k hx) id⟩
theorem kn_eq {pa : List Pa} (h : ∀ p ∈ pa, PaOk p) (seq : Int) : knF pa seq = knR pa seq := by
  unfold knF knR findS
  rw [Bool.eq_iff_iff]
  simp only [Bool.or_eq_true, decide_eq_true_eq, fi_any _ _ _ (Int.le_refl _), List.any_eq_true, Bool.and_eq_true, beq_iff_eq]
  constructor
  · rintro ⟨p, hp, e⟩
    rcases (h p hp).kind with k | k
    · exact .inl ⟨p, hp, k, e⟩
    · exact .inr ⟨p, hp, k, e⟩
  · rintro (⟨p, hp, _, e⟩ | ⟨p, hp, _, e⟩)
    · exact ⟨p, hp, e⟩
    · exact ⟨p, hp, e⟩
theorem move_lc {s : St} {m : Mv} (hI : Inv s) (h1 : oneM m = 0) : moveS true s m = moveS false s m := by
  have F := one_f h1
  have hk := F.kind
  by_cases k5 : m.kind = 5
  · have hq := F.qty0 (by omega)
    by_cases hf : findS 1 m.ref s.pa < 0
    · rw [moveS_5a k5 hf, moveS_5a k5 hf]
    obtain ⟨z0, z1, z2⟩ := find_lt hf
    have P := hI.pa _ (getD_mem zPa z2)
    generalize hp : s.pa.getD (findS 1 m.ref s.pa).toNat zPa = p at *
    obtain ⟨p1, p2, p3, p4, p5, p6, p7, p8⟩ := P
    have w1 : wr (p.qty - p.used) = p.qty - p.used := wr_id (by omega) (by omega)
    by_cases hi : layerS m.ref s.la < 0
    · rw [moveS_5c k5 hf hp (by omega) hi, moveS_5c k5 hf hp (by omega) hi]
    · rw [moveS_5 k5 hf hp (by omega) hi rfl, moveS_5 k5 hf hp (by omega) hi rfl]
  · unfold moveS
    simp only [if_neg k5]
theorem step_eq {s : St} {m : Mv} (hI : Inv s) : stpF s m = stpR s m := by
  unfold stpF stpR
  by_cases h1 : oneM m ≠ 0
  · rw [stepS_1 h1, stepS_1 h1]
  · have e := move_lc hI (Classical.not_not.1 h1)
    unfold stepS
    rw [e, kn_eq hI.pa]
theorem Inv.next {s : St} (h : Inv s) (m : Mv) : Inv (if (stpF s m).1 = 0 then (stpF s m).2.1 else s) := by
  split
  · rename_i h1
    exact (step_ok h h1).inv
  · exact h
theorem play_inv : ∀ (l : List Mv) (s : St), Inv s → Inv (playF stpF l s)
  | [], s, h => h
  | m :: r, s, h => play_inv r _ (h.next m)
theorem play_pl : ∀ (l : List Mv) (s : St) (k : Nat), (∀ m ∈ l, MvI m) → PlI s k → PlI (playF stpF l s) (k + l.length)
  | [], s, k, _, h => h
  | m :: r, s, k, hl, h => by
    have := play_pl r _ (k + 1) (fun x hx => hl x (List.mem_cons_of_mem _ hx)) (h.next stpF_f (hl m List.mem_cons_self))
    simp only [List.length_cons]
    rw [show k + (r.length + 1) = k + 1 + r.length from by omega]
    exact this
theorem playS_inv (l : List Mv) : Inv (playS l) := play_inv _ _ zSt_inv
theorem playS_pl {l : List Mv} (h : MvsI l) : PlI (playS l) 60 := by
  have := play_pl (l.take 60) zSt 0 (fun m hm => (h m (List.mem_of_mem_take hm)).1) zSt_pl
  refine ⟨this.int, ?_, ?_⟩
  · have := this.la
    simp at this
    unfold playS
    omega
  · have := this.pa
    simp at this
    unfold playS
    omega
/-- The reference's step, told as the program's: on a stock in order. -/
def SmR (s : St) (m : Mv) : Prop := SmI s m ∧ Inv s
theorem stpR_ok {g : G} {bs : Nat} : SpOk Tryd.prog g bs 11 (spStep SmR stpF) := step_ok' ⟨_, Tryd.func11, by decide +kernel, rfl⟩ (fun ρ A a W hR s m LV PV h1 h2 h => by
  rw [step_eq h.2]
  exact rstep_calls s m h1 h2 h.1.si h.1.mi h.1.la h.1.pa h.1.item h.1.lot)
end Go.Proofs.YtclohjmakcfikaaDoor.Ff

/- The law FifoSteps, walked. No condition but 64 bits. -/
namespace Go.Proofs.YtclohjmakcfikaaDoor.Ff
open Go.RowKit Go.Proofs.YtclohjmakcfikaaDoorW.PrintWords Go.Proofs.YtclohjmakcfikaaDoor.Ex
set_option linter.unusedVariables false
set_option linter.unusedSimpArgs false
set_option maxRecDepth 100000
def spUnused : Sp := fun d args k => match args with
  | [.agg [.v (.int .i64 q), .v (.int .i64 v), .v (.int .i64 pr), x, y]] => rdRow .la x fun la => rdRow .pa y fun pa => .ob (pa.length ≤ 1000000000) (k (.one (.v (.int .i64 (unusedS pa)))))
  | _ => .fail
theorem unused_ok {g : G} {bs : Nat} : SpOk Tryd.prog g bs 15 spUnused := sp_val ⟨_, Tryd.func15, by decide +kernel, rfl⟩ (by
  intro d args k A r h hb
  unfold spUnused at h hb
  split at h
  · rename_i q v pr x y
    obtain ⟨la, h1, hb1, hl⟩ := rdRow_s h hb
    obtain ⟨pa, h2, hb2, hp⟩ := rdRow_s h1 hb1
    simp only [M.go] at h2
    simp only [M.obl] at hb2
    refine ⟨_, h2, hb2.2, fun ρ a0 w vs hR hv => ?_⟩
    match vs, hv with
    | [v1], ⟨⟨us, e1, hu⟩, _⟩ =>
      match us, hu with
      | [u1, u2, u3, u4, u5], ⟨k1, k2, k3, k4, k5, _⟩ =>
        simp only [L.rel] at k1 k2 k3
        subst e1 k1 k2 k3
        refine (unused_calls (hl _ _ _ _ _ hR k4) (hp _ _ _ _ _ hR k5) _ _ _ hb2.1).mono ?_
        rintro e w1 ⟨rfl, hbel⟩
        exact ⟨_, rfl, fun ρ' => rfl, hbel⟩
  · cases h)
theorem lives_ok {g : G} {bs : Nat} (hL : Laid g.W0) (hS : ∀ i, ¬ g.S i) : SpOk Tryd.prog g bs 13 spTrue := true_ok hL hS ⟨_, Tryd.func13, by decide +kernel, rfl⟩ (fun W h => lives_calls h)
def CL : List (Nat × Sp) := [(10, spStep SmI stpF), (11, spStep SmR stpF), (12, spSame), (13, spTrue), (14, spPlay), (15, spUnused), (16, spClone)]
theorem cl_ok {g : G} {n : Nat} (hL : Laid g.W0) (hS : ∀ i, ¬ g.S i) : ∀ f sp, lookC CL f = some sp → SpOk Tryd.prog g n f sp := spc_cons (stpF_ok hL hS) (spc_cons stpR_ok (spc_cons same_ok (spc_cons (lives_ok hL hS) (spc_cons (play_ok hL hS) (spc_cons unused_ok (spc_cons Clone_ok spc_nil))))))
theorem at60 {l : List Mv} {k : Nat} (h : k < 60) : (l.take 60).getD k zMv = l.getD k zMv := by rw [List.getD_eq_getElem?_getD, List.getElem?_take_of_lt h, ← List.getD_eq_getElem?_getD]
theorem FifoSteps_calls {W : World} {V : Value} {l : List Mv} (hL : Laid W) (h1 : Src W V .mv l) (hl : MvsI l) :
    Calls Tryd.prog 3 #[V] W fun e w1 => e = .returned (.bool true) ∧ Below W.heap.size W w1 := by
  obtain ⟨ρ, e1, hS⟩ := start1 h1
  have hg : ∀ i, ¬ (gW W).S i := fun i h => h
  refine (calls_awp (f := 3) (vs := [V]) (cx_ok (C := CL) (nt := 63) (cl_ok hL hg)) mixed_ok Tryd.func3 rfl rfl hS (avs := [.one (.row 0)])
    (fun ρ' h => ⟨row_rel h (by simp [findR]) e1 h1, trivial⟩) (le_of_ble (by kernel_rfl)) (K := fun x A => x = .one (.v (.bool true))) ?_).mono ?_
  · ((conv => whnf) <;> repeat (refine obl_ ?_; conv => whnf))
    refine LoopP.introR (cx_ok (cl_ok hL hg)) mixed_ok (ι := Nat × St) (fun k => ⟨[(5, .one (.v (.int .i64 (k.1 : Int)))), (4, .one (.ptr 14 0)), (3, .one (.ptr 13 0)), (2, .one (.v (.bool false))), (0, .one (.row 0))], [(14, 26, [.v (.int .i64 k.2.q), .v (.int .i64 k.2.v), .v (.int .i64 k.2.pr), .row 5002, .row 5003]), (13, 26, [.v (.int .i64 k.2.q), .v (.int .i64 k.2.v), .v (.int .i64 k.2.pr), .row 5000, .row 5001])], [(0, some ⟨.mv, l, false⟩), (5000, some ⟨.la, k.2.la, true⟩), (5001, some ⟨.pa, k.2.pa, true⟩), (5002, some ⟨.la, k.2.la, true⟩), (5003, some ⟨.pa, k.2.pa, true⟩)]⟩) (fun k => k.1 ≤ 60 ∧ k.1 ≤ l.length ∧ PlI k.2 k.1 ∧ Inv k.2) (fun k => 60 - k.1) (0, zSt) ⟨Nat.zero_le _, Nat.zero_le _, zSt_pl, zSt_inv⟩ ⟨[(5000, none), (5001, none), (5002, none), (5003, none)], by (refine ⟨?_, ?_, ?_, by kernel_rfl⟩ <;> repeat' (first | exact trivial | exact rfl | assumption | apply And.intro))⟩ ?_
    rintro ⟨k, s⟩ ⟨hk, hkl, hs, hI⟩
    simp only at hk hkl hs hI
    ((conv => whnf) <;> repeat (refine obl_ ?_; conv => whnf))
    refine cond_ (fun h => ?_) (fun h => ?_)
    · have hlt := of_decide_eq_true h
      have i1 : 0 ≤ (k : Int) := by omega
      ((conv => whnf) <;> repeat (refine obl_ ?_; conv => whnf))
      refine cond_ (fun h2 => ?_) (fun h2 => ?_)
      · have hlt2 := of_decide_eq_true h2
        have hkl : k < l.length := by omega
        have hsm : SmI s (l.getD k zMv) := hl.sm hkl hs.int (by have := hs.la; omega) (by have := hs.pa; omega)
        have hs2 := hs.next stpF_f hsm.mi
        have hI2 := hI.next (l.getD k zMv)
        have hsr : SmR s (l.getD k zMv) := ⟨hsm, hI⟩
        ((conv => whnf) <;> repeat (refine obl_ ?_; conv => whnf))
        refine cond_ (fun h => absurd h (by simp)) (fun _ => ?_)
        ((conv => whnf) <;> repeat (refine obl_ ?_; conv => whnf))
        refine cond_ (fun h => absurd h (by simp)) (fun _ => ?_)
        ((conv => whnf) <;> repeat (refine obl_ ?_; conv => whnf))
        refine cond_ (fun h3 => ?_) (fun h3 => ?_)
        · have h3' : (stpF s (l.getD k zMv)).1 = 0 := beq_iff_eq.1 h3
          rw [if_pos h3'] at hs2 hI2
          ((conv => whnf) <;> repeat (refine obl_ ?_; conv => whnf))
          refine ⟨(k + 1, (stpF s (l.getD k zMv)).2.1), ⟨by simp only; omega, by simp only; omega, hs2, hI2⟩, by simp only; omega, [(5000, some 40), (5001, some 540), (5002, some 50), (5003, some 550)], ?_⟩
          (refine ⟨?_, ?_, ?_, by kernel_rfl⟩ <;> repeat' (first | exact trivial | exact rfl | assumption | apply And.intro))
          exact up_ (by omega)
        · have h3' : ¬ (stpF s (l.getD k zMv)).1 = 0 := fun e => beq_ne h3 e
          rw [if_neg h3'] at hs2 hI2
          ((conv => whnf) <;> repeat (refine obl_ ?_; conv => whnf))
          refine ⟨(k + 1, s), ⟨by simp only; omega, by simp only; omega, hs2, hI2⟩, by simp only; omega, [], ?_⟩
          (refine ⟨?_, ?_, ?_, by kernel_rfl⟩ <;> repeat' (first | exact trivial | exact rfl | assumption | apply And.intro))
          exact up_ (by omega)
      · ((conv => whnf) <;> repeat (refine obl_ ?_; conv => whnf))
        exact rfl
    · ((conv => whnf) <;> repeat (refine obl_ ?_; conv => whnf))
      exact rfl
  · rintro e w1 ⟨x, v, A1, ρ1, a1, rfl, hv, rfl, hS1, _⟩
    exact ⟨by rw [show x = _ from hv], hS1.rel.bel⟩
end Go.Proofs.YtclohjmakcfikaaDoor.Ff

/- The law FifoSums, walked. No condition but 64 bits. -/
namespace Go.Proofs.YtclohjmakcfikaaDoor.Ff
open Go.RowKit Go.Proofs.YtclohjmakcfikaaDoorW.PrintWords Go.Proofs.YtclohjmakcfikaaDoor.Ex
set_option linter.unusedVariables false
set_option linter.unusedSimpArgs false
set_option maxRecDepth 100000
/-- What a step without an error has done. -/
structure StF (s : St) (m : Mv) : Prop where
  one : OneF m
  inv : Inv (stpF s m).2.1
  seq : (stpF s m).2.2.seq = m.seq
  q : (stpF s m).2.1.q = s.q + (stpF s m).2.2.qty
  v : (stpF s m).2.1.v = s.v + (stpF s m).2.2.value
  q1 : -1000000000 ≤ (stpF s m).2.2.qty ∧ (stpF s m).2.2.qty ≤ 1000000000
  v1 : -1000000000000000 ≤ (stpF s m).2.2.value ∧ (stpF s m).2.2.value ≤ 1000000000000000
  pay : m.kind = 1 ∨ m.kind = 5 → (stpF s m).2.2.value + (stpF s m).2.2.var = m.cost
  pay4 : m.kind = 4 → (stpF s m).2.2.value + (stpF s m).2.2.var = -m.cost
theorem stF {s : St} {m : Mv} (hI : Inv s) (h : (stpF s m).1 = 0) : StF s m := by
  have K : StepOk knF true s m := step_ok hI h
  have e : stpF s m = (0, ⟨s.q + (moveS true s m).2.1.qty, s.v + (moveS true s m).2.1.value, s.pr, (moveS true s m).2.2.1, (moveS true s m).2.2.2⟩, (moveS true s m).2.1) := K.eq
  have M := K.ok
  have i : Inv (stpF s m).2.1 := K.inv
  rw [e] at i
  refine ⟨one_f K.one, by rw [e]; exact i, ?_, ?_, ?_, ?_, ?_, ?_, ?_⟩
  all_goals rw [e]
  · exact M.seq
  · exact M.q1
  · exact M.v1
  · exact M.pay
  · exact M.pay4
theorem bne_f {a b : Int} (h : (a != b) = false) : a = b := by simpa using h
def stockL (s : St) (a b : Nat) : List L := [.v (.int .i64 s.q), .v (.int .i64 s.v), .v (.int .i64 s.pr), .row a, .row b]
def costL (c : Co) : List L := [.v (.int .i64 c.seq), .v (.int .i64 c.qty), .v (.int .i64 c.value), .v (.int .i64 c.var)]
theorem ne_of {a b : Int} (e : a = b) : (a != b) = true → False := fun h => by rw [e] at h; simp at h
theorem FifoSums_calls {W : World} {V : Value} {l : List Mv} (hL : Laid W) (h1 : Src W V .mv l) (hl : MvsI l) :
    Calls Tryd.prog 4 #[V] W fun e w1 => e = .returned (.bool true) ∧ Below W.heap.size W w1 := by
  obtain ⟨ρ, e1, hS⟩ := start1 h1
  have hg : ∀ i, ¬ (gW W).S i := fun i h => h
  refine (calls_awp (f := 4) (vs := [V]) (cx_ok (C := CL) (nt := 143) (cl_ok hL hg)) mixed_ok Tryd.func4 rfl rfl hS (avs := [.one (.row 0)])
    (fun ρ' h => ⟨row_rel h (by simp [findR]) e1 h1, trivial⟩) (le_of_ble (by kernel_rfl)) (K := fun x A => x = .one (.v (.bool true))) ?_).mono ?_
  · ((conv => whnf) <;> repeat (refine obl_ ?_; conv => whnf))
    refine LoopP.introR (cx_ok (cl_ok hL hg)) mixed_ok (ι := Nat × St) (fun k => ⟨[(4, .one (.v (.int .i64 (k.1 : Int)))), (3, .one (.ptr 13 0)), (2, .one (.v (.bool false))), (0, .one (.row 0))], [(13, 26, stockL k.2 5000 5001)], [(0, some ⟨.mv, l, false⟩), (5000, some ⟨.la, k.2.la, true⟩), (5001, some ⟨.pa, k.2.pa, true⟩)]⟩) (fun k => k.1 ≤ 60 ∧ k.1 ≤ l.length ∧ PlI k.2 k.1 ∧ Inv k.2) (fun k => 60 - k.1) (0, zSt) ⟨Nat.zero_le _, Nat.zero_le _, zSt_pl, zSt_inv⟩ ⟨[(5000, none), (5001, none)], by (refine ⟨?_, ?_, ?_, by kernel_rfl⟩ <;> repeat' (first | exact trivial | exact rfl | assumption | apply And.intro))⟩ ?_
    rintro ⟨k, s⟩ ⟨hk, hkl, hs, hI⟩
    simp only at hk hkl hs hI
    ((conv => whnf) <;> repeat (refine obl_ ?_; conv => whnf))
    refine cond_ (fun h => ?_) (fun h => ?_)
    · have hlt := of_decide_eq_true h
      have i1 : 0 ≤ (k : Int) := by omega
      ((conv => whnf) <;> repeat (refine obl_ ?_; conv => whnf))
      refine cond_ (fun h2 => ?_) (fun h2 => ?_)
      · have hlt2 := of_decide_eq_true h2
        have hkl : k < l.length := by omega
        have hsm : SmI s (l.getD k zMv) := hl.sm hkl hs.int (by have := hs.la; omega) (by have := hs.pa; omega)
        have hs2 := hs.next stpF_f hsm.mi
        have hI2 := hI.next (l.getD k zMv)
        ((conv => whnf) <;> repeat (refine obl_ ?_; conv => whnf))
        refine cond_ (fun h3 => ?_) (fun h3 => ?_)
        · have h3' : ¬ (stpF s (l.getD k zMv)).1 = 0 := bne_iff_ne.1 h3
          rw [if_neg h3'] at hs2 hI2
          ((conv => whnf) <;> repeat (refine obl_ ?_; conv => whnf))
          refine ⟨(k + 1, s), ⟨by simp only; omega, by simp only; omega, hs2, hI2⟩, by simp only; omega, [], ?_⟩
          (refine ⟨?_, ?_, ?_, by kernel_rfl⟩ <;> repeat' (first | exact trivial | exact rfl | assumption | apply And.intro))
          exact up_ (by omega)
        · have h3' : (stpF s (l.getD k zMv)).1 = 0 := bne_f h3
          have F := stF hI h3'
          rw [if_pos h3'] at hs2 hI2
          have tq := F.inv.q
          have tv := F.inv.v
          have tq1 := F.inv.q1
          have tv1 := F.inv.v1
          have n0 := hs2.la
          have n1 := hI.q0
          have n2 := hI.v0
          have n3 := hI.q1
          have n4 := hI.v1
          have fq := F.q1
          have fv := F.v1
          have sq := fun j => sumF_take (f := La.qty) (l := (stpF s (l.getD k zMv)).2.1.la) (fun x hx => by have := (F.inv.la x hx).q; omega) j
          have sv := fun j => sumF_take (f := La.value) (l := (stpF s (l.getD k zMv)).2.1.la) (fun x hx => (F.inv.la x hx).v) j
          ((conv => whnf) <;> repeat (refine obl_ ?_; conv => whnf))
          refine LoopP.introR (cx_ok (cl_ok hL hg)) mixed_ok (ι := Nat) (fun j => ⟨[(10, .one (.v (.int .i64 (j : Int)))), (9, .one (.v (.int .i64 (sumF La.value ((stpF s (l.getD k zMv)).2.1.la.take j))))), (8, .one (.v (.int .i64 (sumF La.qty ((stpF s (l.getD k zMv)).2.1.la.take j))))), (6, .one (.ptr 16 0)), (5, .one (.ptr 15 0)), (4, .one (.v (.int .i64 (k : Int)))), (3, .one (.ptr 13 0)), (2, .one (.v (.bool false))), (0, .one (.row 0))], [(16, 28, costL (stpF s (l.getD k zMv)).2.2), (15, 26, stockL (stpF s (l.getD k zMv)).2.1 6000 6001), (13, 26, stockL s 5000 5001)], [(0, some ⟨.mv, l, false⟩), (5000, some ⟨.la, s.la, true⟩), (5001, some ⟨.pa, s.pa, true⟩), (6000, some ⟨.la, (stpF s (l.getD k zMv)).2.1.la, true⟩), (6001, some ⟨.pa, (stpF s (l.getD k zMv)).2.1.pa, true⟩)]⟩) (fun j => j ≤ (stpF s (l.getD k zMv)).2.1.la.length) (fun j => (stpF s (l.getD k zMv)).2.1.la.length - j) 0 (Nat.zero_le _) ⟨[(6000, some 40), (6001, some 540)], by (refine ⟨?_, ?_, ?_, by kernel_rfl⟩ <;> repeat' (first | exact trivial | exact rfl | assumption | apply And.intro))⟩ ?_
          intro j hj
          ((conv => whnf) <;> repeat (refine obl_ ?_; conv => whnf))
          refine cond_ (fun h4 => ?_) (fun h4 => ?_)
          · have hjl : j < (stpF s (l.getD k zMv)).2.1.la.length := by have := of_decide_eq_true h4; omega
            have j1 : 0 ≤ (j : Int) := by omega
            have j2 : (j : Int) < ((stpF s (l.getD k zMv)).2.1.la.length : Int) := by omega
            have hx := getD_mem zLa hjl
            have x1 := F.inv.lq hx
            have x2 := F.inv.lv hx
            have s1 := sq j
            have s2 := sv j
            have t1 := sumF_step (f := La.qty) hjl
            have t2 := sumF_step (f := La.value) hjl
            have s3 := sq (j + 1)
            have s4 := sv (j + 1)
            simp only [sumQ] at tq
            simp only [sumV] at tv
            have w1 : wr (sumF La.qty ((stpF s (l.getD k zMv)).2.1.la.take j) + ((stpF s (l.getD k zMv)).2.1.la.getD j zLa).qty) = sumF La.qty ((stpF s (l.getD k zMv)).2.1.la.take (j + 1)) := by rw [t1]; exact wrap_id (by omega) (by omega)
            have w2 : wr (sumF La.value ((stpF s (l.getD k zMv)).2.1.la.take j) + ((stpF s (l.getD k zMv)).2.1.la.getD j zLa).value) = sumF La.value ((stpF s (l.getD k zMv)).2.1.la.take (j + 1)) := by rw [t2]; exact wrap_id (by omega) (by omega)
            ((conv => whnf) <;> repeat (refine obl_ ?_; conv => whnf))
            refine cond_ (fun h5 => absurd (of_decide_eq_true h5) (by show ¬ (((stpF s (l.getD k zMv)).2.1.la.getD j zLa).qty < 1); omega)) (fun _ => ?_)
            ((conv => whnf) <;> repeat (refine obl_ ?_; conv => whnf))
            refine ⟨j + 1, hjl, by omega, [], ?_⟩
            (refine ⟨?_, ?_, ?_, by kernel_rfl⟩ <;> repeat' (first | exact trivial | exact rfl | assumption | apply And.intro))
            · exact up_ (by omega)
            · exact int_ w2
            · exact int_ w1
          · have hge := of_decide_eq_false h4
            have hall : (stpF s (l.getD k zMv)).2.1.la.take j = (stpF s (l.getD k zMv)).2.1.la := List.take_of_length_le (by omega)
            rw [hall]
            have e3 : (stpF s (l.getD k zMv)).2.1.q = wr (s.q + (stpF s (l.getD k zMv)).2.2.qty) := F.q.trans (wrap_id (by omega) (by omega)).symm
            have e4 : (stpF s (l.getD k zMv)).2.1.v = wr (s.v + (stpF s (l.getD k zMv)).2.2.value) := F.v.trans (wrap_id (by omega) (by omega)).symm
            have co := F.one.cost
            ((conv => whnf) <;> repeat (refine obl_ ?_; conv => whnf))
            refine cond_ (fun h4 => ?_) (fun h4 => ?_)
            · have k4 : (l.getD k zMv).kind = 4 := beq_iff_eq.1 h4
              have p4 := F.pay4 k4
              have e5 : wr ((stpF s (l.getD k zMv)).2.2.value + (stpF s (l.getD k zMv)).2.2.var) = wr (0 - (l.getD k zMv).cost) := by rw [p4, Int.zero_sub]
              ((conv => whnf) <;> repeat (refine obl_ ?_; conv => whnf))
              refine cond_ (fun h => (ne_of tq h).elim) (fun _ => ?_)
              ((conv => whnf) <;> repeat (refine obl_ ?_; conv => whnf))
              refine cond_ (fun h => (ne_of tv h).elim) (fun _ => ?_)
              ((conv => whnf) <;> repeat (refine obl_ ?_; conv => whnf))
              refine cond_ (fun h => (ne_of e3 h).elim) (fun _ => ?_)
              ((conv => whnf) <;> repeat (refine obl_ ?_; conv => whnf))
              refine cond_ (fun h => (ne_of e4 h).elim) (fun _ => ?_)
              ((conv => whnf) <;> repeat (refine obl_ ?_; conv => whnf))
              refine cond_ (fun h => (ne_of F.seq h).elim) (fun _ => ?_)
              ((conv => whnf) <;> repeat (refine obl_ ?_; conv => whnf))
              refine cond_ (fun h => absurd (k4.symm.trans (beq_iff_eq.1 h)) (by decide)) (fun _ => ?_)
              ((conv => whnf) <;> repeat (refine obl_ ?_; conv => whnf))
              refine cond_ (fun h => absurd (k4.symm.trans (beq_iff_eq.1 h)) (by decide)) (fun _ => ?_)
              ((conv => whnf) <;> repeat (refine obl_ ?_; conv => whnf))
              refine cond_ (fun _ => ?_) (fun h => (beq_ne h k4).elim)
              ((conv => whnf) <;> repeat (refine obl_ ?_; conv => whnf))
              refine cond_ (fun h => (ne_of e5 h).elim) (fun _ => ?_)
              ((conv => whnf) <;> repeat (refine obl_ ?_; conv => whnf))
              refine ⟨(k + 1, (stpF s (l.getD k zMv)).2.1), ⟨by simp only; omega, by simp only; omega, hs2, hI2⟩, by simp only; omega, [(5000, some 6000), (5001, some 6001)], ?_⟩
              (refine ⟨?_, ?_, ?_, by kernel_rfl⟩ <;> repeat' (first | exact trivial | exact rfl | assumption | apply And.intro))
              exact up_ (by omega)
            · ((conv => whnf) <;> repeat (refine obl_ ?_; conv => whnf))
              refine cond_ (fun h => (ne_of tq h).elim) (fun _ => ?_)
              ((conv => whnf) <;> repeat (refine obl_ ?_; conv => whnf))
              refine cond_ (fun h => (ne_of tv h).elim) (fun _ => ?_)
              ((conv => whnf) <;> repeat (refine obl_ ?_; conv => whnf))
              refine cond_ (fun h => (ne_of e3 h).elim) (fun _ => ?_)
              ((conv => whnf) <;> repeat (refine obl_ ?_; conv => whnf))
              refine cond_ (fun h => (ne_of e4 h).elim) (fun _ => ?_)
              ((conv => whnf) <;> repeat (refine obl_ ?_; conv => whnf))
              refine cond_ (fun h => (ne_of F.seq h).elim) (fun _ => ?_)
              ((conv => whnf) <;> repeat (refine obl_ ?_; conv => whnf))
              refine cond_ (fun h6 => ?_) (fun h6 => ?_)
              · have e5 := F.pay (.inl (beq_iff_eq.1 h6))
                have e6 : wr ((stpF s (l.getD k zMv)).2.2.value + (stpF s (l.getD k zMv)).2.2.var) = (l.getD k zMv).cost := by rw [e5]; exact wrap_id (by omega) (by omega)
                ((conv => whnf) <;> repeat (refine obl_ ?_; conv => whnf))
                refine cond_ (fun h => (ne_of e6 h).elim) (fun _ => ?_)
                ((conv => whnf) <;> repeat (refine obl_ ?_; conv => whnf))
                refine ⟨(k + 1, (stpF s (l.getD k zMv)).2.1), ⟨by simp only; omega, by simp only; omega, hs2, hI2⟩, by simp only; omega, [(5000, some 6000), (5001, some 6001)], ?_⟩
                (refine ⟨?_, ?_, ?_, by kernel_rfl⟩ <;> repeat' (first | exact trivial | exact rfl | assumption | apply And.intro))
                exact up_ (by omega)
              ((conv => whnf) <;> repeat (refine obl_ ?_; conv => whnf))
              refine cond_ (fun h6 => ?_) (fun h6 => ?_)
              · have e5 := F.pay (.inr (beq_iff_eq.1 h6))
                have e6 : wr ((stpF s (l.getD k zMv)).2.2.value + (stpF s (l.getD k zMv)).2.2.var) = (l.getD k zMv).cost := by rw [e5]; exact wrap_id (by omega) (by omega)
                ((conv => whnf) <;> repeat (refine obl_ ?_; conv => whnf))
                refine cond_ (fun h => (ne_of e6 h).elim) (fun _ => ?_)
                ((conv => whnf) <;> repeat (refine obl_ ?_; conv => whnf))
                refine ⟨(k + 1, (stpF s (l.getD k zMv)).2.1), ⟨by simp only; omega, by simp only; omega, hs2, hI2⟩, by simp only; omega, [(5000, some 6000), (5001, some 6001)], ?_⟩
                (refine ⟨?_, ?_, ?_, by kernel_rfl⟩ <;> repeat' (first | exact trivial | exact rfl | assumption | apply And.intro))
                exact up_ (by omega)
              ((conv => whnf) <;> repeat (refine obl_ ?_; conv => whnf))
              refine cond_ (fun h6 => absurd (h6.symm.trans h4) (by decide)) (fun _ => ?_)
              ((conv => whnf) <;> repeat (refine obl_ ?_; conv => whnf))
              refine ⟨(k + 1, (stpF s (l.getD k zMv)).2.1), ⟨by simp only; omega, by simp only; omega, hs2, hI2⟩, by simp only; omega, [(5000, some 6000), (5001, some 6001)], ?_⟩
              (refine ⟨?_, ?_, ?_, by kernel_rfl⟩ <;> repeat' (first | exact trivial | exact rfl | assumption | apply And.intro))
              exact up_ (by omega)
      · ((conv => whnf) <;> repeat (refine obl_ ?_; conv => whnf))
        exact rfl
    · ((conv => whnf) <;> repeat (refine obl_ ?_; conv => whnf))
      exact rfl
  · rintro e w1 ⟨x, v, A1, ρ1, a1, rfl, hv, rfl, hS1, _⟩
    exact ⟨by rw [show x = _ from hv], hS1.rel.bel⟩
end Go.Proofs.YtclohjmakcfikaaDoor.Ff

/- Chapter 34: an issue under a number that is not used, and its returns. No program in sight. No condition. -/
namespace Go.Proofs.YtclohjmakcfikaaDoor.Ff
open Go.RowKit Go.Proofs.YtclohjmakcfikaaDoorW.PrintWords Go.Proofs.YtclohjmakcfikaaDoor.Ex
set_option linter.unusedVariables false
set_option linter.unusedSimpArgs false
/-! ### a number that is not used -/
theorem pigeon : ∀ (n : Nat) (l : List Int), (∀ i : Nat, 1 ≤ i → i ≤ n → (i : Int) ∈ l) → n ≤ l.length
  | 0, l, _ => Nat.zero_le _
  | n + 1, l, h => by
    have h1 := h (n + 1) (by omega) (Nat.le_refl _)
    have h2 := pigeon n (l.erase ((n + 1 : Nat) : Int)) (fun i a b => (List.mem_erase_of_ne (by omega)).2 (h i a (by omega)))
    have h3 := List.length_erase_of_mem h1
    have h4 := List.length_pos_of_mem h1
    omega
theorem kn_mem {pa : List Pa} {n : Int} (h : knR pa n = true) : n ∈ pa.map Pa.seq := by
  unfold knR findS at h
  simp only [Bool.or_eq_true, decide_eq_true_eq, fi_any _ _ _ (Int.le_refl _), List.any_eq_true, Bool.and_eq_true, beq_iff_eq] at h
  rcases h with ⟨p, hp, _, e⟩ | ⟨p, hp, _, e⟩
  · exact List.mem_map.2 ⟨p, hp, e⟩
  · exact List.mem_map.2 ⟨p, hp, e⟩
theorem unu_cases (pa : List Pa) : ∀ (f n : Nat), (∃ k : Nat, n ≤ k ∧ k < n + f ∧ unuF pa n f = k ∧ knR pa k = false) ∨ (unuF pa n f = ((n + f : Nat) : Int) ∧ ∀ i : Nat, n ≤ i → i < n + f → knR pa i = true)
  | 0, n => .inr ⟨rfl, fun i h1 h2 => by omega⟩
  | f + 1, n => by
    simp only [unuF]
    by_cases h : knR pa n = true
    · rw [if_pos h]
      rcases unu_cases pa f (n + 1) with ⟨k, a, b, c, d⟩ | ⟨a, b⟩
      · exact .inl ⟨k, by omega, by omega, c, d⟩
      · refine .inr ⟨by rw [a]; congr 1; omega, fun i h1 h2 => ?_⟩
        by_cases e : i = n
        · rw [e]; exact h
        · exact b i (by omega) (by omega)
    · rw [if_neg h]
      exact .inl ⟨n, Nat.le_refl _, by omega, rfl, Bool.eq_false_iff.2 h⟩
theorem unused_kn (pa : List Pa) : knR pa (unusedS pa) = false ∧ 1 ≤ unusedS pa ∧ unusedS pa ≤ pa.length + 1 := by
  unfold unusedS
  rcases unu_cases pa pa.length 1 with ⟨k, a, b, c, d⟩ | ⟨a, b⟩
  · rw [c]
    exact ⟨d, by omega, by omega⟩
  · rw [a]
    refine ⟨?_, by omega, by omega⟩
    cases h : knR pa ((1 + pa.length : Nat) : Int) with
    | false => rfl
    | true =>
      have := pigeon (pa.length + 1) (pa.map Pa.seq) (fun i h1 h2 => by
        by_cases e : i = 1 + pa.length
        · rw [e]; exact kn_mem h
        · exact kn_mem (b i h1 (by omega)))
      rw [List.length_map] at this
      omega
/-! ### the movements of the laws -/
theorem one_x2 {n q : Int} (h0 : 1 ≤ q) (h1 : q ≤ 1000000000) : oneM (xMv n 2 q 0 0) = 0 := by
  have c4 : Co.qtyB 2 q = true := by unfold Co.qtyB; rw [if_neg (by decide)]; exact decide_eq_true ⟨h0, h1⟩
  show Co.oneS 0 ⟨#[120]⟩ 2 q 0 ⟨#[]⟩ 0 = 0
  unfold Co.oneS
  rw [if_pos (by decide), if_pos (by kernel_rfl), if_pos (by decide), if_pos c4, if_pos (by decide), if_pos (by kernel_rfl), if_pos (by decide)]
theorem one_x3 {n q r : Int} (h0 : 1 ≤ q) (h1 : q ≤ 1000000000) (h2 : 1 ≤ r) : oneM (xMv n 3 q 0 r) = 0 := by
  have c4 : Co.qtyB 3 q = true := by unfold Co.qtyB; rw [if_neg (by decide)]; exact decide_eq_true ⟨h0, h1⟩
  have c7 : Co.refsB 3 r = true := by unfold Co.refsB; rw [if_pos (by decide)]; exact decide_eq_true h2
  show Co.oneS 0 ⟨#[120]⟩ 3 q 0 ⟨#[]⟩ r = 0
  unfold Co.oneS
  rw [if_pos (by decide), if_pos (by kernel_rfl), if_pos (by decide), if_pos c4, if_pos (by decide), if_pos (by kernel_rfl), if_pos c7]
theorem over_id {q v var : Int} {la : List La} (h1 : ∀ x ∈ la, 0 ≤ x.value) (h2 : sumV la = v) (h3 : v ≤ 1000000000000000) (hq : q ≤ 1000000000) (hw : -1000000000000000 ≤ var ∧ var ≤ 1000000000000000) : overS q v var la = false := by
  have h0 := sumF_nn h1
  have h2' : sumF La.value la = v := h2
  refine over_no.2 ⟨fun x hx => ?_, hq, far_no.2 (by omega), far_no.2 hw⟩
  have := sumF_mem h1 x hx
  have := h1 x hx
  exact far_no.2 (by omega)
theorem issue_run {s : St} {n q : Int} (hI : Inv s) (hk : knR s.pa n = false) (h0 : 1 ≤ q) (h1 : q ≤ s.q) :
    stpF s (xMv n 2 q 0 0) = (0, ⟨s.q - q, s.v - (issueS s.la q 0).2, s.pr, (issueS s.la q 0).1, s.pa ++ [⟨n, 2, ⟨#[]⟩, q, (issueS s.la q 0).2, 0, 0⟩]⟩, ⟨n, -q, -(issueS s.la q 0).2, 0⟩) := by
  have q1 := hI.q1
  have v1 := hI.v1
  have v0 := hI.v0
  have eq : s.q = sumF La.qty s.la := hI.q
  have ev : s.v = sumF La.value s.la := hI.v
  obtain ⟨i1, i2, i3, i4, _⟩ := issue_ok s.la q 0 hI.la (by omega) (by simp only [sumQ]; omega) (by simp only [sumQ]; omega) (Int.le_refl _) (by simp only [sumV]; omega)
  have nn := sumF_nn (f := La.value) (l := (issueS s.la q 0).1) (fun x hx => (i1 x hx).v)
  simp only [sumQ] at i2
  simp only [sumV] at i4
  have e2 := moveS_2 (lc := true) (s := s) (m := xMv n 2 q 0 0) rfl (by show ¬ s.q < q; omega)
  simp only [xMv] at e2
  generalize issueS s.la q 0 = r at *
  have w1 : wr (0 - q) = -q := by rw [wr_id (by omega) (by omega)]; omega
  have w2 : wr (0 - r.2) = -r.2 := by rw [wr_id (by omega) (by omega)]; omega
  rw [w1, w2] at e2
  have w3 : wr (s.q + -q) = s.q - q := by rw [wr_id (by omega) (by omega)]; omega
  have w4 : wr (s.v + -r.2) = s.v - r.2 := by rw [wr_id (by omega) (by omega)]; omega
  have ho := one_x2 (n := n) h0 (by omega : q ≤ 1000000000)
  have hk2 : ¬ knF s.pa n = true := by rw [kn_eq hI.pa, hk]; decide
  unfold stpF
  rw [stepS_5 (by rw [ho]; decide) hk2 (by simp only [xMv]; rw [e2]; exact fun h => h rfl) ?_]
  · simp only [xMv]
    rw [e2]
    simp only [w3, w4]
  · simp only [xMv]
    rw [e2]
    simp only [w3, w4]
    rw [over_id (fun x hx => (i1 x hx).v) (by simp only [sumV]; omega) (by omega) (by omega) (by omega)]
    decide
theorem issue_short {s : St} {n q : Int} (hI : Inv s) (hk : knR s.pa n = false) (h0 : 1 ≤ q) (h1 : q ≤ 1000000000) (h2 : s.q < q) : stpF s (xMv n 2 q 0 0) = (21, zSt, zC 0) := by
  have e2 := moveS_2e (lc := true) (s := s) (m := xMv n 2 q 0 0) rfl h2
  have ho := one_x2 (n := n) h0 h1
  have hk2 : ¬ knF s.pa n = true := by rw [kn_eq hI.pa, hk]; decide
  unfold stpF
  rw [stepS_3 (by rw [ho]; decide) hk2 (by rw [e2]; show (21 : Int) ≠ 0; decide), e2]
/-! ### returns of the last that is kept -/
theorem fi_last {α : Type} {p : α → Bool} {x : α} : ∀ {l : List α} {k : Int}, l.any p = false → fi p (l ++ [x]) k = if p x = true then k + l.length else -1
  | [], k, _ => by simp [fi]
  | y :: t, k, h => by
    simp only [List.any_cons, Bool.or_eq_false_iff] at h
    simp only [List.cons_append, fi]
    rw [if_neg (by rw [h.1]; decide), fi_last h.2]
    split
    · simp only [List.length_cons]; omega
    · rfl
theorem kn_any {pa : List Pa} {n : Int} (h : knR pa n = false) : pa.any (fun p => p.kind == 2 && p.seq == n) = false := by
  unfold knR findS at h
  simp only [Bool.or_eq_false_iff, decide_eq_false_iff_not, fi_any _ _ _ (Int.le_refl _)] at h
  exact Bool.eq_false_iff.2 h.2
theorem find_last {P : List Pa} {n Q V u w : Int} {e : ByteArray} (h : knR P n = false) : findS 2 n (P ++ [⟨n, 2, e, Q, V, u, w⟩]) = P.length := by
  unfold findS
  rw [fi_last (kn_any h), if_pos (by simp)]
  omega
theorem get_last (P : List Pa) (p : Pa) : (P ++ [p]).getD P.length zPa = p := by simp [List.getD_eq_getElem?_getD]
theorem set_last (P : List Pa) (p p' : Pa) : (P ++ [p]).set P.length p' = P ++ [p'] := by simp
theorem back_run {s : St} {P : List Pa} {m n Q V u w b : Int} {e : ByteArray} (hI : Inv s) (hp : s.pa = P ++ [⟨n, 2, e, Q, V, u, w⟩]) (hn : knR P n = false) (hm : knR s.pa m = false) (n0 : 1 ≤ n) (h0 : 1 ≤ b) (h1 : b ≤ Q - u) (hq : s.q + b ≤ 1000000000) (hv : s.v + partS (V - w) b (Q - u) ≤ 1000000000000000) :
    stpF s (xMv m 3 b 0 n) = (0, ⟨s.q + b, s.v + partS (V - w) b (Q - u), s.pr, s.la ++ [⟨m, e, b, partS (V - w) b (Q - u)⟩], P ++ [⟨n, 2, e, Q, V, u + b, w + partS (V - w) b (Q - u)⟩]⟩, ⟨m, b, partS (V - w) b (Q - u), 0⟩) := by
  have q1 := hI.q1
  have v1 := hI.v1
  have v0 := hI.v0
  have q0 := hI.q0
  have eq : s.q = sumF La.qty s.la := hI.q
  have ev : s.v = sumF La.value s.la := hI.v
  have hf : findS 2 n s.pa = P.length := by rw [hp]; exact find_last hn
  have hg : s.pa.getD (findS 2 n s.pa).toNat zPa = ⟨n, 2, e, Q, V, u, w⟩ := by rw [hf, Int.toNat_natCast, hp]; exact get_last _ _
  obtain ⟨p1, p2, p3, p4, p5, p6, p7, p8⟩ := hI.pa ⟨n, 2, e, Q, V, u, w⟩ (by rw [hp]; simp)
  simp only at p2 p3 p4 p5 p6 p7 p8
  have w1 : wr (Q - u) = Q - u := wr_id (by omega) (by omega)
  have w2 : wr (V - w) = V - w := wr_id (by omega) (by omega)
  have e3 := moveS_3 (lc := true) (s := s) (m := xMv m 3 b 0 n) rfl (by show ¬ findS 2 n s.pa < 0; omega) hg (by show ¬ wr (Q - u) < b; omega)
  simp only [xMv] at e3
  rw [w1, w2, hf, Int.toNat_natCast, hp] at e3
  have t := part_le (v := V - w) (n := b) (o := Q - u) (by omega) (by omega) (by omega) (by omega) (by omega)
  generalize partS (V - w) b (Q - u) = y at *
  rw [wr_id (x := u + b) (by omega) (by omega), wr_id (x := w + y) (by omega) (by omega), set_last] at e3
  have ho := one_x3 (n := m) (r := n) h0 (by omega : b ≤ 1000000000) n0
  have hk2 : ¬ knF s.pa m = true := by rw [kn_eq hI.pa, hm]; decide
  have w3 : wr (s.q + b) = s.q + b := wr_id (by omega) (by omega)
  have w4 : wr (s.v + y) = s.v + y := wr_id (by omega) (by omega)
  unfold stpF
  rw [stepS_5 (by rw [ho]; decide) hk2 (by simp only [xMv]; rw [e3]; exact fun h => h rfl) ?_]
  · simp only [xMv]
    rw [e3]
    simp only [w3, w4]
  · simp only [xMv]
    rw [e3]
    simp only [w3, w4]
    rw [over_id (app_all (fun x hx => (hI.la x hx).v) (one_all t.1)) (by simp only [sumV, sumF_app, sumF]; omega) (by omega) (by omega) (by omega)]
    decide
theorem back_full {s : St} {P : List Pa} {m n Q V w b : Int} {e : ByteArray} (hI : Inv s) (hp : s.pa = P ++ [⟨n, 2, e, Q, V, Q, w⟩]) (hn : knR P n = false) (hm : knR s.pa m = false) (n0 : 1 ≤ n) (h0 : 1 ≤ b) (h1 : b ≤ 1000000000) : stpF s (xMv m 3 b 0 n) = (21, zSt, zC 0) := by
  have hf : findS 2 n s.pa = P.length := by rw [hp]; exact find_last hn
  have hg : s.pa.getD (findS 2 n s.pa).toNat zPa = ⟨n, 2, e, Q, V, Q, w⟩ := by rw [hf, Int.toNat_natCast, hp]; exact get_last _ _
  have e3 := moveS_3b (lc := true) (s := s) (m := xMv m 3 b 0 n) rfl (by show ¬ findS 2 n s.pa < 0; omega) (by
    show wr ((s.pa.getD (findS 2 n s.pa).toNat zPa).qty - (s.pa.getD (findS 2 n s.pa).toNat zPa).used) < b
    rw [hg]
    show wr (Q - Q) < b
    rw [Int.sub_self, wr_id (by omega) (by omega)]
    omega)
  have ho := one_x3 (n := m) (r := n) h0 h1 n0
  have hk2 : ¬ knF s.pa m = true := by rw [kn_eq hI.pa, hm]; decide
  unfold stpF
  rw [stepS_3 (by rw [ho]; decide) hk2 (by rw [e3]; show (21 : Int) ≠ 0; decide), e3]
theorem kn_last {P : List Pa} {p p' : Pa} (h1 : p'.kind = p.kind) (h2 : p'.seq = p.seq) (n : Int) : knR (P ++ [p']) n = knR (P ++ [p]) n := by
  unfold knR findS
  rw [Bool.eq_iff_iff]
  simp only [Bool.or_eq_true, decide_eq_true_eq, fi_any _ _ _ (Int.le_refl _), List.any_append, List.any_cons, List.any_nil, h1, h2]
end Go.Proofs.YtclohjmakcfikaaDoor.Ff

/- The law FifoOldest, walked. No condition but 64 bits. -/
namespace Go.Proofs.YtclohjmakcfikaaDoor.Ff
open Go.RowKit Go.Proofs.YtclohjmakcfikaaDoorW.PrintWords Go.Proofs.YtclohjmakcfikaaDoor.Ex
set_option linter.unusedVariables false
set_option linter.unusedSimpArgs false
set_option maxRecDepth 100000
theorem PlI.step {stp : St → Mv → Int × St × Co} (F : StepF stp) {s : St} {k : Nat} (h : PlI s k) {m : Mv} (hm : MvI m) : PlI (stp s m).2.1 (k + 1) := by
  have h1 := F.la s m
  have h2 := F.pa s m
  have h3 := h.la
  have h4 := h.pa
  exact ⟨F.int s m h.int hm, by omega, by omega⟩
theorem xMv_i {n k q r : Int} (h1 : I64 n) (h2 : I64 k) (h3 : I64 q) (h4 : I64 r) : MvI (xMv n k q 0 r) := ⟨h1, h2, h3, i64_0, h4⟩
theorem xMv_z {n k q c r : Int} : (xMv n k q c r).item.size ≤ 140737488351232 ∧ (xMv n k q c r).lot.size ≤ 140737488351232 := ⟨by show (1 : Nat) ≤ 140737488351232; decide, by show (0 : Nat) ≤ 140737488351232; decide⟩
theorem PlI.sm {s : St} {k : Nat} (h : PlI s k) (hk : k ≤ 1000) {m : Mv} (hm : MvI m) (h1 : m.item.size ≤ 140737488351232) (h2 : m.lot.size ≤ 140737488351232) : SmI s m := ⟨by have := h.la; omega, by have := h.pa; omega, h1, h2, h.int, hm⟩
theorem unused_i {s : St} {k : Nat} (h : PlI s k) (hk : k ≤ 1000) : I64 (unusedS s.pa) ∧ 1 ≤ unusedS s.pa := by
  have := unused_kn s.pa
  have := h.pa
  unfold I64
  omega
/-- The layers that an issue leaves. -/
theorem issue_shape {la : List La} {q : Int} (h : ∀ x ∈ la, Pos x) (h0 : 0 ≤ q) (h1 : q ≤ sumQ la) (h2 : sumQ la ≤ 1000000000) (h4 : sumV la ≤ 1000000000000000) : ∃ n, n + (issueS la q 0).1.length = la.length ∧ ∀ i, i < (issueS la q 0).1.length →
    (la.getD (n + i) zLa).seq = ((issueS la q 0).1.getD i zLa).seq ∧ (la.getD (n + i) zLa).lot = ((issueS la q 0).1.getD i zLa).lot ∧ (0 < i → la.getD (n + i) zLa = (issueS la q 0).1.getD i zLa) ∧ (i = 0 → (la.getD (n + i) zLa).qty - ((issueS la q 0).1.getD i zLa).qty = q - sumQ (la.take n)) := by
  obtain ⟨_, _, _, _, n, hn, hs⟩ := issue_ok la q 0 h h0 h1 h2 (Int.le_refl _) (by omega)
  generalize (issueS la q 0).1 = r at *
  have hd : ∀ i, (la.drop n).getD i zLa = la.getD (n + i) zLa := fun i => by rw [List.getD_eq_getElem?_getD, List.getElem?_drop, ← List.getD_eq_getElem?_getD]
  refine ⟨n, ?_, fun i hi => ?_⟩
  · rcases hs with ⟨e, _⟩ | ⟨x, y, rest, e1, e2, _⟩
    · rw [e, List.length_drop]; omega
    · have : r.length = (la.drop n).length := by rw [e1, e2]; rfl
      rw [this, List.length_drop]; omega
  · rw [← hd]
    rcases hs with ⟨e, e2⟩ | ⟨x, y, rest, e1, e2, e3, e4, e5⟩
    · rw [e]
      exact ⟨rfl, rfl, fun _ => rfl, fun _ => by omega⟩
    · rw [e1, e2]
      cases i with
      | zero => exact ⟨e3.symm, e4.symm, fun h => absurd h (by omega), fun _ => e5⟩
      | succ i => exact ⟨rfl, rfl, fun _ => rfl, fun h => by omega⟩
theorem strEq_of {a b : ByteArray} (h : a = b) : strEq a b = true := by rw [h]; exact strEq_self b
theorem strNe {a b : ByteArray} (e : a = b) (h : (!strEq a b) = true) : False := by rw [strEq_of e] at h; exact absurd h (by decide)
theorem laNe {a b : La} (e : a = b) (h : (!(a.seq == b.seq && (strEq a.lot b.lot && (a.qty == b.qty && (a.value == b.value && true))))) = true) : False := by
  subst e
  simp [strEq_self] at h
theorem FifoOldest_calls {W : World} {V : Value} {l : List Mv} {q : Int} (hL : Laid W) (h1 : Src W V .mv l) (hl : MvsI l) (hq : I64 q) :
    Calls Tryd.prog 5 #[V, .int .i64 q] W fun e w1 => e = .returned (.bool true) ∧ Below W.heap.size W w1 := by
  obtain ⟨ρ, e1, hS⟩ := start1 h1
  have hg : ∀ i, ¬ (gW W).S i := fun i h => h
  refine (calls_awp (f := 5) (vs := [V, .int .i64 q]) (cx_ok (C := CL) (nt := 152) (cl_ok hL hg)) mixed_ok Tryd.func5 rfl rfl hS (avs := [.one (.row 0), .one (.v (.int .i64 q))])
    (fun ρ' h => ⟨row_rel h (by simp [findR]) e1 h1, rfl, trivial⟩) (le_of_ble (by kernel_rfl)) (K := fun x A => x = .one (.v (.bool true))) ?_).mono ?_
  · have hI := playS_inv l
    have hs := playS_pl hl
    have n1 : (playS l).pa.length ≤ 1000000000 := by have := hs.pa; omega
    obtain ⟨u1, u2⟩ := unused_i hs (by omega)
    have hk := (unused_kn (playS l).pa).1
    have hm : MvI (xMv (unusedS (playS l).pa) 2 q 0 0) := xMv_i u1 (by simp [I64]) hq i64_0
    have hsm : SmI (playS l) (xMv (unusedS (playS l).pa) 2 q 0 0) := hs.sm (by omega) hm xMv_z.1 xMv_z.2
    have hs2 := hs.step stpF_f hm
    ((conv => whnf) <;> repeat (refine obl_ ?_; conv => whnf))
    refine cond_ (fun h => ?_) (fun h => ?_)
    · have h' : (stpF (playS l) (xMv (unusedS (playS l).pa) 2 q 0 0)).1 ≠ 0 := bne_iff_ne.1 h
      ((conv => whnf) <;> repeat (refine obl_ ?_; conv => whnf))
      refine cond_ (fun h2 => ?_) (fun h2 => ?_)
      · ((conv => whnf) <;> repeat (refine obl_ ?_; conv => whnf))
        exact rfl
      have h2' := of_decide_eq_false h2
      ((conv => whnf) <;> repeat (refine obl_ ?_; conv => whnf))
      refine cond_ (fun h3 => ?_) (fun h3 => ?_)
      · ((conv => whnf) <;> repeat (refine obl_ ?_; conv => whnf))
        exact rfl
      have h3' := of_decide_eq_false h3
      have hlt : (playS l).q < q := by
        refine Classical.not_not.1 fun hge => h' ?_
        rw [issue_run hI hk (by omega) (by omega)]
      have R := issue_short hI hk (by omega) (by omega) hlt
      have r1 : (stpF (playS l) (xMv (unusedS (playS l).pa) 2 q 0 0)).1 = 21 := by rw [R]
      ((conv => whnf) <;> repeat (refine obl_ ?_; conv => whnf))
      refine cond_ (fun _ => ?_) (fun h => (beq_ne h r1).elim)
      ((conv => whnf) <;> repeat (refine obl_ ?_; conv => whnf))
      refine cond_ (fun _ => ?_) (fun h => absurd hlt (of_decide_eq_false h))
      ((conv => whnf) <;> repeat (refine obl_ ?_; conv => whnf))
      exact rfl
    · have h' : (stpF (playS l) (xMv (unusedS (playS l).pa) 2 q 0 0)).1 = 0 := bne_f h
      have F := stF hI h'
      have fq := F.one.qty (by show (2 : Int) ≤ 4; decide)
      have q0 : 1 ≤ q := fq.1
      have q1 : q ≤ 1000000000 := fq.2
      have hle : q ≤ (playS l).q := by
        refine Classical.not_not.1 fun hge => ?_
        rw [issue_short hI hk q0 q1 (by omega)] at h'
        exact absurd h' (by decide)
      have R := issue_run hI hk q0 hle
      have iq : (playS l).q = sumQ (playS l).la := hI.q
      have iv : (playS l).v = sumV (playS l).la := hI.v
      have iq1 := hI.q1
      have iv1 := hI.v1
      have iv0 := hI.v0
      obtain ⟨n, hn, sh⟩ := issue_shape (la := (playS l).la) (q := q) hI.la (by omega) (by omega) (by omega) (by omega)
      obtain ⟨_, _, z3, z4, _⟩ := issue_ok (playS l).la q 0 hI.la (by omega) (by omega) (by omega) (Int.le_refl _) (by omega)
      have t1 : (stpF (playS l) (xMv (unusedS (playS l).pa) 2 q 0 0)).2.1.q = (playS l).q - q := by rw [R]
      have t2 : (stpF (playS l) (xMv (unusedS (playS l).pa) 2 q 0 0)).2.1.v = (playS l).v - (issueS (playS l).la q 0).2 := by rw [R]
      have t3 : (stpF (playS l) (xMv (unusedS (playS l).pa) 2 q 0 0)).2.1.la = (issueS (playS l).la q 0).1 := by rw [R]
      have t4 : (stpF (playS l) (xMv (unusedS (playS l).pa) 2 q 0 0)).2.2.qty = wr (0 - q) := by rw [R, wr_id (by omega) (by omega)]; show -q = _; omega
      have tv0 := F.inv.v0
      rw [t2] at tv0
      have t5 : (stpF (playS l) (xMv (unusedS (playS l).pa) 2 q 0 0)).2.2.value = wr ((stpF (playS l) (xMv (unusedS (playS l).pa) 2 q 0 0)).2.1.v - (playS l).v) := by rw [t2, wr_id (by omega) (by omega), R]; show -(issueS (playS l).la q 0).2 = _; omega
      have t6 : (stpF (playS l) (xMv (unusedS (playS l).pa) 2 q 0 0)).2.1.q = wr ((playS l).q - q) := by rw [t1, wr_id (by omega) (by omega)]
      rw [← t3] at hn sh
      have ll := hs.la
      have g1 : wr (((playS l).la.length : Int) - ((stpF (playS l) (xMv (unusedS (playS l).pa) 2 q 0 0)).2.1.la.length : Int)) = (n : Int) := by rw [wr_id (by omega) (by omega)]; omega
      have sq := fun j => sumF_take (f := La.qty) (l := (playS l).la) (fun x hx => by have := (hI.la x hx).q; omega) j
      ((conv => whnf) <;> repeat (refine obl_ ?_; conv => whnf))
      refine cond_ (fun h => absurd (of_decide_eq_true h) (show ¬ wr (((playS l).la.length : Int) - ((stpF (playS l) (xMv (unusedS (playS l).pa) 2 q 0 0)).2.1.la.length : Int)) < 0 by rw [g1]; omega)) (fun _ => ?_)
      ((conv => whnf) <;> repeat (refine obl_ ?_; conv => whnf))
      refine cond_ (fun h => (ne_of t4 h).elim) (fun _ => ?_)
      ((conv => whnf) <;> repeat (refine obl_ ?_; conv => whnf))
      refine cond_ (fun h => (ne_of t6 h).elim) (fun _ => ?_)
      ((conv => whnf) <;> repeat (refine obl_ ?_; conv => whnf))
      refine cond_ (fun h => (ne_of t5 h).elim) (fun _ => ?_)
      ((conv => whnf) <;> repeat (refine obl_ ?_; conv => whnf))
      refine LoopP.introR (cx_ok (cl_ok hL hg)) mixed_ok (ι := Nat) (fun j => ⟨[(11, .one (.v (.int .i64 (j : Int)))), (10, .one (.v (.int .i64 (sumQ ((playS l).la.take j))))), (9, .one (.v (.int .i64 (n : Int)))), (6, .one (.ptr 16 0)), (5, .one (.ptr 15 0)), (4, .one (.v (.bool false))), (1, .one (.v (.int .i64 q)))], [(16, 26, stockL (stpF (playS l) (xMv (unusedS (playS l).pa) 2 q 0 0)).2.1 6000 6001), (15, 26, stockL (playS l) 5000 5001)], [(5000, some ⟨.la, (playS l).la, true⟩), (5001, some ⟨.pa, (playS l).pa, true⟩), (6000, some ⟨.la, (stpF (playS l) (xMv (unusedS (playS l).pa) 2 q 0 0)).2.1.la, true⟩), (6001, some ⟨.pa, (stpF (playS l) (xMv (unusedS (playS l).pa) 2 q 0 0)).2.1.pa, true⟩)]⟩) (fun j => j ≤ n) (fun j => n - j) 0 (Nat.zero_le _) ⟨[(5000, some 26), (5001, some 526), (6000, some 33), (6001, some 533)], by (refine ⟨?_, ?_, ?_, by kernel_rfl⟩ <;> repeat' (first | exact trivial | exact rfl | assumption | apply And.intro)); exact int_ g1⟩ ?_
      intro j hj
      ((conv => whnf) <;> repeat (refine obl_ ?_; conv => whnf))
      refine cond_ (fun h => ?_) (fun h => ?_)
      · have hjn : j < n := by have := of_decide_eq_true h; omega
        have hjl : j < (playS l).la.length := by omega
        have j1 : 0 ≤ (j : Int) := by omega
        have j2 : (j : Int) < ((playS l).la.length : Int) := by omega
        have s1 := sq (j + 1)
        have s3 := sumF_step (f := La.qty) hjl
        have s0 : sumF La.qty (playS l).la ≤ 1000000000 := by show sumQ (playS l).la ≤ _; omega
        have w1 : wr (sumQ ((playS l).la.take j) + ((playS l).la.getD j zLa).qty) = sumQ ((playS l).la.take (j + 1)) := by show wr (sumF La.qty ((playS l).la.take j) + _) = sumF La.qty _; rw [s3]; exact wr_id (by omega) (by omega)
        ((conv => whnf) <;> repeat (refine obl_ ?_; conv => whnf))
        refine ⟨j + 1, hjn, by omega, [], ?_⟩
        (refine ⟨?_, ?_, ?_, by kernel_rfl⟩ <;> repeat' (first | exact trivial | exact rfl | assumption | apply And.intro))
        · exact up_ (by omega)
        · exact int_ w1
      have hjn : j = n := by have := of_decide_eq_false h; omega
      subst hjn
      ((conv => whnf) <;> repeat (refine obl_ ?_; conv => whnf))
      refine LoopP.introR (cx_ok (cl_ok hL hg)) mixed_ok (ι := Nat) (fun i => ⟨[(12, .one (.v (.int .i64 (i : Int)))), (10, .one (.v (.int .i64 (sumQ ((playS l).la.take j))))), (9, .one (.v (.int .i64 (j : Int)))), (6, .one (.ptr 16 0)), (5, .one (.ptr 15 0)), (4, .one (.v (.bool false))), (1, .one (.v (.int .i64 q)))], [(16, 26, stockL (stpF (playS l) (xMv (unusedS (playS l).pa) 2 q 0 0)).2.1 6000 6001), (15, 26, stockL (playS l) 5000 5001)], [(5000, some ⟨.la, (playS l).la, true⟩), (5001, some ⟨.pa, (playS l).pa, true⟩), (6000, some ⟨.la, (stpF (playS l) (xMv (unusedS (playS l).pa) 2 q 0 0)).2.1.la, true⟩), (6001, some ⟨.pa, (stpF (playS l) (xMv (unusedS (playS l).pa) 2 q 0 0)).2.1.pa, true⟩)]⟩) (fun i => i ≤ (stpF (playS l) (xMv (unusedS (playS l).pa) 2 q 0 0)).2.1.la.length) (fun i => (stpF (playS l) (xMv (unusedS (playS l).pa) 2 q 0 0)).2.1.la.length - i) 0 (Nat.zero_le _) ⟨[], by (refine ⟨?_, ?_, ?_, by kernel_rfl⟩ <;> repeat' (first | exact trivial | exact rfl | assumption | apply And.intro))⟩ ?_
      intro i hi
      ((conv => whnf) <;> repeat (refine obl_ ?_; conv => whnf))
      refine cond_ (fun h => ?_) (fun h => ?_)
      · have hil : i < (stpF (playS l) (xMv (unusedS (playS l).pa) 2 q 0 0)).2.1.la.length := by have := of_decide_eq_true h; omega
        have hjl : j + i < (playS l).la.length := by omega
        have j1 : 0 ≤ (i : Int) := by omega
        have j2 : (i : Int) < ((stpF (playS l) (xMv (unusedS (playS l).pa) 2 q 0 0)).2.1.la.length : Int) := by omega
        have wn : wr ((j : Int) + (i : Int)) = ((j + i : Nat) : Int) := by rw [wr_id (by omega) (by omega)]; rfl
        have a1 : 0 ≤ wr ((j : Int) + (i : Int)) := by omega
        have a2 : wr ((j : Int) + (i : Int)) < ((playS l).la.length : Int) := by omega
        obtain ⟨b1, b2, b3, b4⟩ := sh i hil
        have wt : (wr ((j : Int) + (i : Int))).toNat = j + i := by omega
        rw [← wt] at b1 b2 b3 b4
        ((conv => whnf) <;> repeat (refine obl_ ?_; conv => whnf))
        refine cond_ (fun h => (ne_of b1 h).elim) (fun _ => ?_)
        ((conv => whnf) <;> repeat (refine obl_ ?_; conv => whnf))
        refine cond_ (fun h => (strNe b2 h).elim) (fun _ => ?_)
        ((conv => whnf) <;> repeat (refine obl_ ?_; conv => whnf))
        refine cond_ (fun h5 => ?_) (fun h5 => ?_)
        · have i0 := of_decide_eq_true h5
          have b3' := b3 (by omega)
          ((conv => whnf) <;> repeat (refine obl_ ?_; conv => whnf))
          refine cond_ (fun h => (laNe b3' h).elim) (fun _ => ?_)
          ((conv => whnf) <;> repeat (refine obl_ ?_; conv => whnf))
          refine cond_ (fun h => absurd (beq_iff_eq.1 h) (by show ¬ (i : Int) = 0; omega)) (fun _ => ?_)
          ((conv => whnf) <;> repeat (refine obl_ ?_; conv => whnf))
          refine ⟨i + 1, hil, by omega, [], ?_⟩
          (refine ⟨?_, ?_, ?_, by kernel_rfl⟩ <;> repeat' (first | exact trivial | exact rfl | assumption | apply And.intro))
          exact up_ (by omega)
        · have i0 : i = 0 := by have := of_decide_eq_false h5; omega
          subst i0
          have b4' := b4 rfl
          have sj := sq j
          have xa := hI.lq (getD_mem zLa (by omega : j + 0 < (playS l).la.length))
          have xb := F.inv.lq (getD_mem zLa hil)
          rw [wt] at b4'
          have c1 : wr (((playS l).la.getD (wr ((j : Int) + ((0 : Nat) : Int))).toNat zLa).qty - ((stpF (playS l) (xMv (unusedS (playS l).pa) 2 q 0 0)).2.1.la.getD 0 zLa).qty) = wr (q - sumQ ((playS l).la.take j)) := by rw [wt, b4']
          ((conv => whnf) <;> repeat (refine obl_ ?_; conv => whnf))
          refine cond_ (fun h => (ne_of c1 h).elim) (fun _ => ?_)
          ((conv => whnf) <;> repeat (refine obl_ ?_; conv => whnf))
          refine ⟨0 + 1, hil, by omega, [], ?_⟩
          (refine ⟨?_, ?_, ?_, by kernel_rfl⟩ <;> repeat' (first | exact trivial | exact rfl | assumption | apply And.intro))
      · ((conv => whnf) <;> repeat (refine obl_ ?_; conv => whnf))
        exact rfl
  · rintro e w1 ⟨x, v, A1, ρ1, a1, rfl, hv, rfl, hS1, _⟩
    exact ⟨by rw [show x = _ from hv], hS1.rel.bel⟩
end Go.Proofs.YtclohjmakcfikaaDoor.Ff
