/- Printed by a program of this session (wip/gen/myprint.py): plain Lean functions that compute what the Go functions compute, and the contracts that say so; each contract names its premises. -/
import Derived.Test.YtghheaimgjkccaaDoorFx0
namespace Go.Proofs.YtghheaimgjkccaaDoor.F
open Go.RowKit Go.Proofs.YtghheaimgjkccaaDoorW.PrintWords Go.Proofs.YtghheaimgjkccaaDoorW.PrintLast Go.Proofs.YtghheaimgjkccaaDoorW.PrintMore
attribute [local go_sem] max2_int min2_int max_two min_two max_three min_three max_four min_four   -- for this text's walks alone
set_option linter.unusedVariables false
set_option linter.unusedSimpArgs false

/-! ### fiscal_Right: function 13 -/
def fiscal_Right.f (a0_0 : Int) : Option (Bool) := if a0_0 ≥ 1 then (some (decide (a0_0 ≤ 12))) else (some false)
set_option maxHeartbeats 8000000 in
set_option maxRecDepth 100000 in
theorem fiscal_Right.calls (a0_0 : Int) (r : Bool) (w : World) (h : fiscal_Right.f a0_0 = some r) :
    Calls Tryd.prog 13 #[.agg #[.int .i64 a0_0]] w fun e w' => e = .returned (.bool r) ∧ Below w.heap.size w w' := by
  have hu23 := Tryd.underlying23
  have HB := Aside0.mk (Below.refl w.heap.size w)
  have H : (if a0_0 ≥ 1 then (some (decide (a0_0 ≤ 12))) else (some false)) = some r := h
  clear h
  by_cases c2 : a0_0 ≥ 1
  · rw [if_pos c2] at H
    have c2b0 : decide (1 ≤ a0_0) = true := decide_eq_true c2
    clear c2
    obtain rfl := Option.some.inj H
    go_enter Tryd.func13, Tryd.ntmps13
    go_wp2_with (first | ((with_reducible refine gate_dst (N := 1) rfl ?_); refine box_event ?hg (N := 1) ?hd (cs := #[.int .i64 a0_0]) (t := 23) ?hr ?_; (case hd => rfl); (case hg => rfl); (case hr => first | (go_simp; done) | (go_simp; rfl)); intro gb101 hg w3 hbox hb; have n0_ := Aside0.mk (below_step (by repeat (first | (with_reducible first | exact HB.out | apply below_alloc | apply pw_below_drewN | apply below_drew1) | exact HB.out)) hb); have n1_ := Aside0.mk (hbox); have n2_ := Aside0.mk ((by rw [hg]; exact (below_size (by repeat (first | (with_reducible first | exact HB.out | apply below_alloc | apply pw_below_drewN | apply below_drew1) | exact HB.out))) : w.heap.size ≤ gb101)); have n3_ := Aside0.mk ((by rw [hg]; exact (below_size (by repeat (first | (with_reducible first | exact HB.out | apply below_alloc | apply pw_below_drewN | apply below_drew1) | exact HB.out))) : w.heap.size ≤ gb101)); clear HB; have HB := n0_; have BK101 := n1_; have GW101 := n2_; have GE101 := n3_; clear n0_ n1_ n2_ n3_; clear hb hbox hg; have hcz4_0 : w3.cell? ⟨gb101, 0, none⟩ = some (.int .i64 a0_0) := (blk_cell BK101.out 0).trans rfl; have hfz4_0 := blk_frozen BK101.out 0))
    go_ret
    exact ⟨by first | rfl | (simp [errW_none, errW_some] <;> rfl) | (simp [*, errW_none, errW_some] <;> rfl), by repeat (first | (with_reducible first | exact HB.out | apply below_alloc | apply pw_below_drewN | apply below_drew1 | refine below_set ?_ GE101.out) | exact HB.out)⟩
  · rw [if_neg c2] at H
    have c2b0 : decide (1 ≤ a0_0) = false := decide_eq_false c2
    clear c2
    obtain rfl := Option.some.inj H
    go_enter Tryd.func13, Tryd.ntmps13
    go_wp2_with (first | ((with_reducible refine gate_dst (N := 1) rfl ?_); refine box_event ?hg (N := 1) ?hd (cs := #[.int .i64 a0_0]) (t := 23) ?hr ?_; (case hd => rfl); (case hg => rfl); (case hr => first | (go_simp; done) | (go_simp; rfl)); intro gb101 hg w5 hbox hb; have n0_ := Aside0.mk (below_step (by repeat (first | (with_reducible first | exact HB.out | apply below_alloc | apply pw_below_drewN | apply below_drew1) | exact HB.out)) hb); have n1_ := Aside0.mk (hbox); have n2_ := Aside0.mk ((by rw [hg]; exact (below_size (by repeat (first | (with_reducible first | exact HB.out | apply below_alloc | apply pw_below_drewN | apply below_drew1) | exact HB.out))) : w.heap.size ≤ gb101)); have n3_ := Aside0.mk ((by rw [hg]; exact (below_size (by repeat (first | (with_reducible first | exact HB.out | apply below_alloc | apply pw_below_drewN | apply below_drew1) | exact HB.out))) : w.heap.size ≤ gb101)); clear HB; have HB := n0_; have BK101 := n1_; have GW101 := n2_; have GE101 := n3_; clear n0_ n1_ n2_ n3_; clear hb hbox hg; have hcz6_0 : w5.cell? ⟨gb101, 0, none⟩ = some (.int .i64 a0_0) := (blk_cell BK101.out 0).trans rfl; have hfz6_0 := blk_frozen BK101.out 0))
    go_ret
    exact ⟨by first | rfl | (simp [errW_none, errW_some] <;> rfl) | (simp [*, errW_none, errW_some] <;> rfl), by repeat (first | (with_reducible first | exact HB.out | apply below_alloc | apply pw_below_drewN | apply below_drew1 | refine below_set ?_ GE101.out) | exact HB.out)⟩

/-! ### days_Leap: function 55 (by hand) -/
def days_Leap.f (a0 : Int) : Option Bool := some (Dy.leapB a0)
theorem days_Leap.calls (a0 : Int) (r : Bool) (w : World) (h : days_Leap.f a0 = some r) :
    Calls Tryd.prog 55 #[.int .i64 a0] w fun e w' => e = .returned (.bool r) ∧ Drawn0 w w' := M.days_Leap.calls a0 r w ((Dy.leap_is a0).trans h)

/-! ### days_Length: function 48 (by hand) -/
def days_Length.f (a0 : Int) (a1 : Int) : Option Int := some (Dy.len a0 a1)
theorem days_Length.calls (a0 : Int) (a1 : Int) (r : Int) (w : World) (hLd : Laid w) (h : days_Length.f a0 a1 = some r) :
    Calls Tryd.prog 48 #[.int .i64 a0, .int .i64 a1] w fun e w' => e = .returned (.int .i64 r) ∧ Drawn0 w w' := M.days_Length.calls a0 a1 r w hLd ((Dy.length_is a0 a1).trans h)

/-! ### days_before: function 52 (by hand) -/
-- walked by hand elsewhere

/-! ### days_Of: function 47 (by hand) -/
def days_Of.f (a0_0 a0_1 a0_2 : Int) : Option (Int × Int) := some (Dy.ofS a0_0 a0_1 a0_2)
theorem days_Of.calls (a0_0 : Int) (a0_1 : Int) (a0_2 : Int) (r1 : Int) (r2 : Int) (w : World) (hLd : Laid w) (h : days_Of.f a0_0 a0_1 a0_2 = some (r1, r2)) :
    Calls Tryd.prog 47 #[.agg #[.int .i64 a0_0, .int .i64 a0_1, .int .i64 a0_2]] w fun e w' => e = .returned (.tuple #[.int .i64 r1, .int .i64 r2]) ∧ Below w.heap.size w w' := M.days_Of.calls 14 a0_0 a0_1 a0_2 r1 r2 w hLd ((Dy.of_is 14 (Nat.le_refl _) a0_0 a0_1 a0_2).trans h)

/-! ### fiscal_begin: function 34 -/
def fiscal_begin.f (a0_0 : Int) (a1 : Int) (a2 : Int) : Option (Int × Bool) := (days_Of.f (wrap64 (a1 + (wrap64 (Int.tdiv (wrap64 ((wrap64 (a0_0 - 1)) + a2)) 12)))) (wrap64 ((Int.tmod (wrap64 ((wrap64 (a0_0 - 1)) + a2)) 12) + 1)) 1).bind fun bt103 => (some (bt103.1, (bt103.2 == 0)))
set_option maxHeartbeats 8000000 in
set_option maxRecDepth 100000 in
theorem fiscal_begin.calls (a0_0 : Int) (a1 : Int) (a2 : Int) (r1 : Int) (r2 : Bool) (w : World) (hLd : Laid w) (h : fiscal_begin.f a0_0 a1 a2 = some (r1, r2)) :
    Calls Tryd.prog 34 #[.agg #[.int .i64 a0_0], .int .i64 a1, .int .i64 a2] w fun e w' => e = .returned (.tuple #[.int .i64 r1, .bool r2]) ∧ Below w.heap.size w w' := by
  have hu23 := Tryd.underlying23
  have hu66 := Tryd.underlying66
  have HB := Aside0.mk (Below.refl w.heap.size w)
  have HLd := Aside0.mk hLd; clear hLd
  have H : ((days_Of.f (wrap64 (a1 + (wrap64 (Int.tdiv (wrap64 ((wrap64 (a0_0 - 1)) + a2)) 12)))) (wrap64 ((Int.tmod (wrap64 ((wrap64 (a0_0 - 1)) + a2)) 12) + 1)) 1).bind fun bt103 => (some (bt103.1, (bt103.2 == 0)))) = some (r1, r2) := h
  clear h
  replace H := Option.bind_eq_some_iff.mp H
  obtain ⟨⟨t103, t104⟩, A40, H⟩ := H
  replace H : (some (t103, (t104 == 0))) = some (r1, r2) := H
  have A4 := Aside0.mk A40
  clear A40
  simp only [Option.some.injEq, Prod.mk.injEq] at H
  obtain ⟨rfl, rfl⟩ := H
  go_enter Tryd.func34, Tryd.ntmps34
  go_wp2_with (first | ((with_reducible refine gate_dst (N := 3) rfl ?_); refine box_event ?hg (N := 3) ?hd (cs := #[.int .i64 a0_0]) (t := 23) ?hr ?_; (case hd => rfl); (case hg => rfl); (case hr => first | (go_simp; done) | (go_simp; rfl)); intro gb102 hg w5 hbox hb; have n0_ := Aside0.mk (below_step (by repeat (first | (with_reducible first | exact HB.out | apply below_alloc | apply pw_below_drewN | apply below_drew1) | exact HB.out)) hb); have n1_ := Aside0.mk (hbox); have n2_ := Aside0.mk ((by rw [hg]; exact (below_size (by repeat (first | (with_reducible first | exact HB.out | apply below_alloc | apply pw_below_drewN | apply below_drew1) | exact HB.out))) : w.heap.size ≤ gb102)); have n3_ := Aside0.mk ((by rw [hg]; exact (below_size (by repeat (first | (with_reducible first | exact HB.out | apply below_alloc | apply pw_below_drewN | apply below_drew1) | exact HB.out))) : w.heap.size ≤ gb102)); clear HB; have HB := n0_; have BK102 := n1_; have GW102 := n2_; have GE102 := n3_; clear n0_ n1_ n2_ n3_; clear hb hbox hg; have hcz6_0 : w5.cell? ⟨gb102, 0, none⟩ = some (.int .i64 a0_0) := (blk_cell BK102.out 0).trans rfl; have hfz6_0 := blk_frozen BK102.out 0) | ((with_reducible refine gate_callee (f := 47) rfl ?_); refine goesL_ (some 25) rfl rfl Tryd.func47 (by kernel_rfl) rfl #[.agg #[.int .i64 (wrap64 (a1 + (wrap64 (Int.tdiv (wrap64 ((wrap64 (a0_0 - 1)) + a2)) 12)))), .int .i64 (wrap64 ((Int.tmod (wrap64 ((wrap64 (a0_0 - 1)) + a2)) 12) + 1)), .int .i64 1]] rfl (by (try simp only [List.map_toArray, List.map_cons, List.map_nil]); first | done | rfl | (simp only [List.length_drop, List.length_take]; rfl)) ?_; (with_reducible refine (days_Of.calls (wrap64 (a1 + (wrap64 (Int.tdiv (wrap64 ((wrap64 (a0_0 - 1)) + a2)) 12)))) (wrap64 ((Int.tmod (wrap64 ((wrap64 (a0_0 - 1)) + a2)) 12) + 1)) 1 t103 t104 _ ?side1 A4.out).mono ?_); (case side1 => first | exact Laid.below HLd.out (by repeat (first | (with_reducible first | exact HB.out | apply below_alloc | apply pw_below_drewN | apply below_drew1 | refine below_set ?_ GE102.out) | exact HB.out)) | (repeat (first | exact HLd.out | apply Laid.drewN | apply Laid.drew))); rintro e w7 ⟨rfl, hb⟩; refine ⟨_, rfl, ?_⟩; have n0_ := Aside0.mk (blk_below (g := gb102) (o := .cells #[.int .i64 a0_0] 23 (0, 0)) (by (with_reducible repeat (first | refine blk_drewN ?_ _ | refine blk_drew ?_ | refine blk_alloc ?_ _)); exact BK102.out) hb); have n1_ := Aside0.mk (below_step (by repeat (first | (with_reducible first | exact HB.out | apply below_alloc | apply pw_below_drewN | apply below_drew1 | refine below_set ?_ GE102.out) | exact HB.out)) hb); clear BK102; clear HB; have BK102 := n0_; have HB := n1_; clear n0_ n1_; (try clear hb); (try clear hb2); (try clear hk); (try clear hi)))
  go_ret2
  exact ⟨by first | rfl | (simp [errW_none, errW_some] <;> rfl) | (simp [*, errW_none, errW_some] <;> rfl), by repeat (first | (with_reducible first | exact HB.out | apply below_alloc | apply pw_below_drewN | apply below_drew1 | refine below_set ?_ GE102.out) | exact HB.out)⟩

/-! ### days_is: function 51 -/
def days_is.f (a0 : Int) : Option (Bool) := if a0 ≥ 0 then (some (decide (a0 ≤ 109572))) else (some false)
set_option maxHeartbeats 8000000 in
set_option maxRecDepth 100000 in
theorem days_is.calls (a0 : Int) (r : Bool) (w : World) (h : days_is.f a0 = some r) :
    Calls Tryd.prog 51 #[.int .i64 a0] w fun e w' => e = .returned (.bool r) ∧ Drawn0 w w' := by
  have H : (if a0 ≥ 0 then (some (decide (a0 ≤ 109572))) else (some false)) = some r := h
  clear h
  by_cases c2 : a0 ≥ 0
  · rw [if_pos c2] at H
    have c2b0 : decide (0 ≤ a0) = true := decide_eq_true c2
    clear c2
    obtain rfl := Option.some.inj H
    go_enter Tryd.func51, Tryd.ntmps51
    go_wp2
    go_ret
    exact ⟨by first | rfl | (simp; done) | (simp [*]; done) | (simp; generalize ByteArray.toList _ = l_; cases l_ <;> rfl), by repeat (first | exact Drawn0.refl _ | apply Drawn0.step)⟩
  · rw [if_neg c2] at H
    have c2b0 : decide (0 ≤ a0) = false := decide_eq_false c2
    clear c2
    obtain rfl := Option.some.inj H
    go_enter Tryd.func51, Tryd.ntmps51
    go_wp2
    go_ret
    exact ⟨by first | rfl | (simp; done) | (simp [*]; done) | (simp; generalize ByteArray.toList _ = l_; cases l_ <;> rfl), by repeat (first | exact Drawn0.refl _ | apply Drawn0.step)⟩

/-! ### days_Date: function 38 (by hand) -/
def days_Date.f (a0 : Int) : Option (Int × Int × Int × Int) := some (Dy.dateS a0)
theorem days_Date.calls (a0 : Int) (r1 : Int) (r2 : Int) (r3 : Int) (r4 : Int) (w : World) (hLd : Laid w) (h : days_Date.f a0 = some (r1, r2, r3, r4)) :
    Calls Tryd.prog 38 #[.int .i64 a0] w fun e w' => e = .returned (.tuple #[.agg #[.int .i64 r1, .int .i64 r2, .int .i64 r3], .int .i64 r4]) ∧ Below w.heap.size w w' := M.days_Date.calls 400 a0 r1 r2 r3 r4 w hLd ((Dy.date_f a0).trans h)

/-! ### days_MonthEnd: function 35 (by hand) -/
theorem eqParts3_ (d : Nat) (a b c a' b' c' : Int) (w : World) : (Op.equalIn (d + 2) 80 (.agg #[.int .i64 a, .int .i64 b, .int .i64 c]) (.agg #[.int .i64 a', .int .i64 b', .int .i64 c'])).run Tryd.prog w = .ok (a == a' && b == b' && c == c') w := by
  have hs : ∀ w, (sizeOf 3).run Tryd.prog w = .ok 1 w := fun _ => by kernel_rfl
  have h0 : ∀ (x y z : Value) w, (part 3 #[x, y, z] 0).run Tryd.prog w = .ok x w := fun _ _ _ _ => by kernel_rfl
  have h1 : ∀ (x y z : Value) w, (part 3 #[x, y, z] 1).run Tryd.prog w = .ok y w := fun _ _ _ _ => by kernel_rfl
  have h2 : ∀ (x y z : Value) w, (part 3 #[x, y, z] 2).run Tryd.prog w = .ok z w := fun _ _ _ _ => by kernel_rfl
  have he : ∀ (x y : Int) w, (Op.equalIn (d + 1) 3 (.int .i64 x) (.int .i64 y)).run Tryd.prog w = .ok (x == y) w := fun x y w => run_equalIn_int w d 3 .i64 .i64 x y Tryd.underlying3
  rw [Op.equalIn]
  simp only [Sem.run_bind, run_underlying Tryd.underlying80, Result.andThen_ok, hs]
  have hr : ∀ (β : Type) (init : β) (f : Nat → β → Sem (ForInStep β)), (forIn [:3] init f : Sem β) = forIn [0, 1, 2] init f := fun β init f => by
    rw [Std.Legacy.Range.forIn_eq_forIn_range']; rfl
  rw [hr]
  simp only [List.forIn_cons, List.forIn_nil, Sem.run_bind, Nat.zero_mul, Nat.one_mul, Nat.reduceMul, h0, Result.andThen_ok, he]
  cases h : (a == a') <;> cases h3 : (b == b') <;> cases h4 : (c == c') <;> simp [h, h3, h4, h1, h2, he]
theorem eqParts_ (a b c : Int) (w : World) : (Op.equalIn 10000 80 (.agg #[.int .i64 a, .int .i64 b, .int .i64 c]) (.agg #[.int .i64 2199, .int .i64 12, .int .i64 31])).run Tryd.prog w = .ok (a == 2199 && b == 12 && c == 31) w := eqParts3_ 9998 a b c 2199 12 31 w
def days_MonthEnd.f (a0 : Int) : Option (Int × Int) := (days_Date.f a0).bind fun bt101 => (if bt101.2.2.2 = 0 then (if (bt101.1 = 2199 ∧ bt101.2.1 = 12 ∧ bt101.2.2.1 = 31) then (some (109572, 0)) else ((days_Length.f bt101.1 bt101.2.1).bind fun t106 => ((days_Of.f bt101.1 bt101.2.1 t106).bind fun bt107 => (some (bt107.1, bt107.2))))) else (some (0, bt101.2.2.2)))
set_option maxHeartbeats 8000000 in
set_option maxRecDepth 100000 in
theorem days_MonthEnd.calls (a0 : Int) (r1 : Int) (r2 : Int) (w : World) (hLd : Laid w) (h : days_MonthEnd.f a0 = some (r1, r2)) :
    Calls Tryd.prog 35 #[.int .i64 a0] w fun e w' => e = .returned (.tuple #[.int .i64 r1, .int .i64 r2]) ∧ Below w.heap.size w w' := by
  have hu66 := Tryd.underlying66
  have HB := Aside0.mk (Below.refl w.heap.size w)
  have HLd := Aside0.mk hLd; clear hLd
  have H : ((days_Date.f a0).bind fun bt101 => (if bt101.2.2.2 = 0 then (if (bt101.1 = 2199 ∧ bt101.2.1 = 12 ∧ bt101.2.2.1 = 31) then (some (109572, 0)) else ((days_Length.f bt101.1 bt101.2.1).bind fun t106 => ((days_Of.f bt101.1 bt101.2.1 t106).bind fun bt107 => (some (bt107.1, bt107.2))))) else (some (0, bt101.2.2.2)))) = some (r1, r2) := h
  clear h
  replace H := Option.bind_eq_some_iff.mp H
  obtain ⟨⟨t101, t102, t103, t104⟩, A20, H⟩ := H
  replace H : (if t104 = 0 then (if (t101 = 2199 ∧ t102 = 12 ∧ t103 = 31) then (some (109572, 0)) else ((days_Length.f t101 t102).bind fun t106 => ((days_Of.f t101 t102 t106).bind fun bt107 => (some (bt107.1, bt107.2))))) else (some (0, t104))) = some (r1, r2) := H
  have A2 := Aside0.mk A20
  clear A20
  by_cases c3 : t104 = 0
  · rw [if_pos c3] at H
    have c3b0 : (t104 == 0) = true := beq_iff_eq.mpr c3
    have c3b1 : (t104 != 0) = false := bne_eq_false_iff_eq.mpr c3
    clear c3
    have hz := eqParts_ t101 t102 t103
    by_cases c4 : (t101 = 2199 ∧ t102 = 12 ∧ t103 = 31)
    · rw [if_pos c4] at H
      have c4b0 : (t101 == 2199 && t102 == 12 && t103 == 31) = true := by rw [c4.1, c4.2.1, c4.2.2]; rfl
      clear c4
      simp only [Option.some.injEq, Prod.mk.injEq] at H
      obtain ⟨rfl, rfl⟩ := H
      go_enter Tryd.func35, Tryd.ntmps35
      go_wp2_with (first | ((with_reducible refine gate_callee (f := 38) rfl ?_); refine goesL_ (some 7) rfl rfl Tryd.func38 (by kernel_rfl) rfl #[.int .i64 a0] rfl (by (try simp only [List.map_toArray, List.map_cons, List.map_nil]); first | done | rfl | (simp only [List.length_drop, List.length_take]; rfl)) ?_; (with_reducible refine (days_Date.calls a0 t101 t102 t103 t104 _ ?side1 A2.out).mono ?_); (case side1 => first | exact Laid.below HLd.out (by repeat (first | (with_reducible first | exact HB.out | apply below_alloc | apply pw_below_drewN | apply below_drew1) | exact HB.out)) | (repeat (first | exact HLd.out | apply Laid.drewN | apply Laid.drew))); rintro e w5 ⟨rfl, hb⟩; refine ⟨_, rfl, ?_⟩; have n0_ := Aside0.mk (below_step (by repeat (first | (with_reducible first | exact HB.out | apply below_alloc | apply pw_below_drewN | apply below_drew1) | exact HB.out)) hb); clear HB; have HB := n0_; clear n0_; (try clear hb); (try clear hb2); (try clear hk); (try clear hi)) | ((with_reducible refine gate_dst (N := 4) rfl ?_); refine box_event ?hg (N := 4) ?hd (cs := #[.int .i64 0, .int .i64 0, .int .i64 0]) (t := 66) ?hr ?_; (case hd => rfl); (case hg => rfl); (case hr => first | (go_simp; done) | (go_simp; rfl)); intro gb105 hg w6 hbox hb; have n0_ := Aside0.mk (below_step (by repeat (first | (with_reducible first | exact HB.out | apply below_alloc | apply pw_below_drewN | apply below_drew1) | exact HB.out)) hb); have n1_ := Aside0.mk (hbox); have n2_ := Aside0.mk ((by rw [hg]; exact (below_size (by repeat (first | (with_reducible first | exact HB.out | apply below_alloc | apply pw_below_drewN | apply below_drew1) | exact HB.out))) : w.heap.size ≤ gb105)); have n3_ := Aside0.mk ((by rw [hg]; exact (below_size (by repeat (first | (with_reducible first | exact HB.out | apply below_alloc | apply pw_below_drewN | apply below_drew1) | exact HB.out))) : w.heap.size ≤ gb105)); clear HB; have HB := n0_; have BK105 := n1_; have GW105 := n2_; have GE105 := n3_; clear n0_ n1_ n2_ n3_; clear hb hbox hg; have hcz7_0 : w6.cell? ⟨gb105, 0, none⟩ = some (.int .i64 0) := (blk_cell BK105.out 0).trans rfl; have hcz7_1 : w6.cell? ⟨gb105, 1, none⟩ = some (.int .i64 0) := (blk_cell BK105.out 1).trans rfl; have hcz7_2 : w6.cell? ⟨gb105, 2, none⟩ = some (.int .i64 0) := (blk_cell BK105.out 2).trans rfl; have hfz7_0 := blk_frozen BK105.out 0; have hfz7_1 := blk_frozen BK105.out 1; have hfz7_2 := blk_frozen BK105.out 2))
      go_ret2
      exact ⟨by first | rfl | (simp [errW_none, errW_some] <;> rfl) | (simp [*, errW_none, errW_some] <;> rfl), by repeat (first | (with_reducible first | exact HB.out | apply below_alloc | apply pw_below_drewN | apply below_drew1 | refine below_set ?_ GE105.out) | exact HB.out)⟩
    · rw [if_neg c4] at H
      have c4b0 : (t101 == 2199 && t102 == 12 && t103 == 31) = false := by
        refine Bool.eq_false_iff.mpr (fun q_ => c4 ?_)
        simp only [Bool.and_eq_true, beq_iff_eq] at q_
        exact ⟨q_.1.1, q_.1.2, q_.2⟩
      replace H := Option.bind_eq_some_iff.mp H
      obtain ⟨t106, A80, H⟩ := H
      replace H : ((days_Of.f t101 t102 t106).bind fun bt107 => (some (bt107.1, bt107.2))) = some (r1, r2) := H
      have A8 := Aside0.mk A80
      clear A80
      replace H := Option.bind_eq_some_iff.mp H
      obtain ⟨⟨t107, t108⟩, A90, H⟩ := H
      replace H : (some (t107, t108)) = some (r1, r2) := H
      have A9 := Aside0.mk A90
      clear A90
      simp only [Option.some.injEq, Prod.mk.injEq] at H
      obtain ⟨rfl, rfl⟩ := H
      go_enter Tryd.func35, Tryd.ntmps35
      go_upto_region 4 with (first | ((with_reducible refine gate_callee (f := 38) rfl ?_); refine goesL_ (some 7) rfl rfl Tryd.func38 (by kernel_rfl) rfl #[.int .i64 a0] rfl (by (try simp only [List.map_toArray, List.map_cons, List.map_nil]); first | done | rfl | (simp only [List.length_drop, List.length_take]; rfl)) ?_; (with_reducible refine (days_Date.calls a0 t101 t102 t103 t104 _ ?side1 A2.out).mono ?_); (case side1 => first | exact Laid.below HLd.out (by repeat (first | (with_reducible first | exact HB.out | apply below_alloc | apply pw_below_drewN | apply below_drew1) | exact HB.out)) | (repeat (first | exact HLd.out | apply Laid.drewN | apply Laid.drew))); rintro e w10 ⟨rfl, hb⟩; refine ⟨_, rfl, ?_⟩; have n0_ := Aside0.mk (below_step (by repeat (first | (with_reducible first | exact HB.out | apply below_alloc | apply pw_below_drewN | apply below_drew1) | exact HB.out)) hb); clear HB; have HB := n0_; clear n0_; (try clear hb); (try clear hb2); (try clear hk); (try clear hi)) | ((with_reducible refine gate_dst (N := 4) rfl ?_); refine box_event ?hg (N := 4) ?hd (cs := #[.int .i64 0, .int .i64 0, .int .i64 0]) (t := 66) ?hr ?_; (case hd => rfl); (case hg => rfl); (case hr => first | (go_simp; done) | (go_simp; rfl)); intro gb105 hg w11 hbox hb; have n0_ := Aside0.mk (below_step (by repeat (first | (with_reducible first | exact HB.out | apply below_alloc | apply pw_below_drewN | apply below_drew1) | exact HB.out)) hb); have n1_ := Aside0.mk (hbox); have n2_ := Aside0.mk ((by rw [hg]; exact (below_size (by repeat (first | (with_reducible first | exact HB.out | apply below_alloc | apply pw_below_drewN | apply below_drew1) | exact HB.out))) : w.heap.size ≤ gb105)); have n3_ := Aside0.mk ((by rw [hg]; exact (below_size (by repeat (first | (with_reducible first | exact HB.out | apply below_alloc | apply pw_below_drewN | apply below_drew1) | exact HB.out))) : w.heap.size ≤ gb105)); clear HB; have HB := n0_; have BK105 := n1_; have GW105 := n2_; have GE105 := n3_; clear n0_ n1_ n2_ n3_; clear hb hbox hg; have hcz12_0 : w11.cell? ⟨gb105, 0, none⟩ = some (.int .i64 0) := (blk_cell BK105.out 0).trans rfl; have hcz12_1 : w11.cell? ⟨gb105, 1, none⟩ = some (.int .i64 0) := (blk_cell BK105.out 1).trans rfl; have hcz12_2 : w11.cell? ⟨gb105, 2, none⟩ = some (.int .i64 0) := (blk_cell BK105.out 2).trans rfl; have hfz12_0 := blk_frozen BK105.out 0; have hfz12_1 := blk_frozen BK105.out 1; have hfz12_2 := blk_frozen BK105.out 2) | ((with_reducible refine gate_callee (f := 48) rfl ?_); refine goesL_ (some 26) rfl rfl Tryd.func48 (by kernel_rfl) rfl #[.int .i64 t101, .int .i64 t102] rfl (by (try simp only [List.map_toArray, List.map_cons, List.map_nil]); first | done | rfl | (simp only [List.length_drop, List.length_take]; rfl)) ?_; (with_reducible refine (days_Length.calls t101 t102 t106 _ ?side1 A8.out).mono ?_); (case side1 => first | exact Laid.below HLd.out (by repeat (first | (with_reducible first | exact HB.out | apply below_alloc | apply pw_below_drewN | apply below_drew1 | refine below_set ?_ GE105.out) | exact HB.out)) | (repeat (first | exact HLd.out | apply Laid.drewN | apply Laid.drew))); rintro e w' ⟨rfl, ⟨nd, rfl⟩⟩; refine ⟨_, rfl, ?_⟩) | ((with_reducible refine gate_callee (f := 47) rfl ?_); refine goesL_ (some 29) rfl rfl Tryd.func47 (by kernel_rfl) rfl #[.agg #[.int .i64 t101, .int .i64 t102, .int .i64 t106]] rfl (by (try simp only [List.map_toArray, List.map_cons, List.map_nil]); first | done | rfl | (simp only [List.length_drop, List.length_take]; rfl)) ?_; (with_reducible refine (days_Of.calls t101 t102 t106 t107 t108 _ ?side1 A9.out).mono ?_); (case side1 => first | exact Laid.below HLd.out (by repeat (first | (with_reducible first | exact HB.out | apply below_alloc | apply pw_below_drewN | apply below_drew1 | refine below_set ?_ GE105.out) | exact HB.out)) | (repeat (first | exact HLd.out | apply Laid.drewN | apply Laid.drew))); rintro e w13 ⟨rfl, hb⟩; refine ⟨_, rfl, ?_⟩; have n0_ := Aside0.mk (blk_below (g := gb105) (o := .cells #[.int .i64 t101, .int .i64 t102, .int .i64 t106] 66 (0, 0)) (by (with_reducible repeat (first | refine blk_drewN ?_ _ | refine blk_drew ?_ | refine blk_alloc ?_ _)); refine blk_put (cs := #[.int .i64 t101, .int .i64 t102, .int .i64 t103]) ?_ 2 _ rfl; (with_reducible repeat (first | refine blk_drewN ?_ _ | refine blk_drew ?_ | refine blk_alloc ?_ _)); refine blk_put (cs := #[.int .i64 t101, .int .i64 t102, .int .i64 0]) ?_ 2 _ rfl; (with_reducible repeat (first | refine blk_drewN ?_ _ | refine blk_drew ?_ | refine blk_alloc ?_ _)); refine blk_put (cs := #[.int .i64 t101, .int .i64 0, .int .i64 0]) ?_ 1 _ rfl; (with_reducible repeat (first | refine blk_drewN ?_ _ | refine blk_drew ?_ | refine blk_alloc ?_ _)); refine blk_put (cs := #[.int .i64 0, .int .i64 0, .int .i64 0]) ?_ 0 _ rfl; (with_reducible repeat (first | refine blk_drewN ?_ _ | refine blk_drew ?_ | refine blk_alloc ?_ _)); exact BK105.out) hb); have n1_ := Aside0.mk (below_step (by repeat (first | (with_reducible first | exact HB.out | apply below_alloc | apply pw_below_drewN | apply below_drew1 | refine below_set ?_ GE105.out) | exact HB.out)) hb); clear BK105; clear HB; have BK105 := n0_; have HB := n1_; clear n0_ n1_; (try clear hb); (try clear hb2); (try clear hk); (try clear hi)))
      have m0_ : (((w11.setCell ⟨gb105, 0, none⟩ (.int .i64 t101)).setCell ⟨gb105, 1, none⟩ (.int .i64 t102)).setCell ⟨gb105, 2, none⟩ (.int .i64 t103)).heap[gb105]? = some (.cells #[.int .i64 t101, .int .i64 t102, .int .i64 t103] 66 (0, 0)) := by
        refine blk_put (cs := #[.int .i64 t101, .int .i64 t102, .int .i64 0]) ?_ 2 _ rfl
        refine blk_put (cs := #[.int .i64 t101, .int .i64 0, .int .i64 0]) ?_ 1 _ rfl
        refine blk_put (cs := #[.int .i64 0, .int .i64 0, .int .i64 0]) ?_ 0 _ rfl
        exact BK105.out
      have m1_ : Below w.heap.size w (((w11.setCell ⟨gb105, 0, none⟩ (.int .i64 t101)).setCell ⟨gb105, 1, none⟩ (.int .i64 t102)).setCell ⟨gb105, 2, none⟩ (.int .i64 t103)) := below_set (below_set (below_set HB.out GE105.out) GE105.out) GE105.out
      skip
      generalize (((w11.setCell ⟨gb105, 0, none⟩ (.int .i64 t101)).setCell ⟨gb105, 1, none⟩ (.int .i64 t102)).setCell ⟨gb105, 2, none⟩ (.int .i64 t103)) = wA at m0_ m1_ ⊢
      have zac0 : wA.cell? ⟨gb105, 0, none⟩ = some (.int .i64 t101) := (blk_cell m0_ 0).trans rfl
      have zac1 : wA.cell? ⟨gb105, 1, none⟩ = some (.int .i64 t102) := (blk_cell m0_ 1).trans rfl
      have zac2 : wA.cell? ⟨gb105, 2, none⟩ = some (.int .i64 t103) := (blk_cell m0_ 2).trans rfl
      have zaf0 := blk_frozen m0_ 0
      have zaf1 := blk_frozen m0_ 1
      have zaf2 := blk_frozen m0_ 2
      go_upto_region 7 with (go_at_call 48; (with_reducible refine (days_Length.calls t101 t102 t106 _ (by exact Laid.below HLd.out m1_) A8.out).mono ?_); rintro e w' ⟨rfl, hd⟩; have k0 : w'.heap[gb105]? = some (.cells #[.int .i64 t101, .int .i64 t102, .int .i64 t103] 66 (0, 0)) := (by obtain ⟨nn, rfl⟩ := hd; exact m0_); have k1 : Below w.heap.size w w' := (by obtain ⟨nn, rfl⟩ := hd; exact pw_below_drewN m1_ nn); clear hd; have zbc0 : w'.cell? ⟨gb105, 0, none⟩ = some (.int .i64 t101) := (blk_cell k0 0).trans rfl; have zbc1 : w'.cell? ⟨gb105, 1, none⟩ = some (.int .i64 t102) := (blk_cell k0 1).trans rfl; have zbc2 : w'.cell? ⟨gb105, 2, none⟩ = some (.int .i64 t103) := (blk_cell k0 2).trans rfl; have zbf0 := blk_frozen k0 0; have zbf1 := blk_frozen k0 1; have zbf2 := blk_frozen k0 2)
      have k2 : (w'.setCell ⟨gb105, 2, none⟩ (.int .i64 t106)).heap[gb105]? = some (.cells #[.int .i64 t101, .int .i64 t102, .int .i64 t106] 66 (0, 0)) := blk_put (cs := #[.int .i64 t101, .int .i64 t102, .int .i64 t103]) k0 2 _ rfl
      have k3 : Below w.heap.size w (w'.setCell ⟨gb105, 2, none⟩ (.int .i64 t106)) := below_set k1 GE105.out
      generalize (w'.setCell ⟨gb105, 2, none⟩ (.int .i64 t106)) = wC at k2 k3 ⊢
      have zdc0 : wC.cell? ⟨gb105, 0, none⟩ = some (.int .i64 t101) := (blk_cell k2 0).trans rfl
      have zdc1 : wC.cell? ⟨gb105, 1, none⟩ = some (.int .i64 t102) := (blk_cell k2 1).trans rfl
      have zdc2 : wC.cell? ⟨gb105, 2, none⟩ = some (.int .i64 t106) := (blk_cell k2 2).trans rfl
      have zdf0 := blk_frozen k2 0
      have zdf1 := blk_frozen k2 1
      have zdf2 := blk_frozen k2 2
      go_wp2_with (go_at_call 47; (with_reducible refine (days_Of.calls t101 t102 t106 t107 t108 _ (by exact Laid.below HLd.out k3) A9.out).mono ?_); rintro e w2 ⟨rfl, hb⟩)
      go_ret2
      exact ⟨rfl, below_step k3 hb⟩
  · rw [if_neg c3] at H
    have c3b0 : (t104 == 0) = false := beq_eq_false_iff_ne.mpr c3
    have c3b1 : (t104 != 0) = true := bne_iff_ne.mpr c3
    simp only [Option.some.injEq, Prod.mk.injEq] at H
    obtain ⟨rfl, rfl⟩ := H
    go_enter Tryd.func35, Tryd.ntmps35
    go_wp2_with (first | ((with_reducible refine gate_callee (f := 38) rfl ?_); refine goesL_ (some 7) rfl rfl Tryd.func38 (by kernel_rfl) rfl #[.int .i64 a0] rfl (by (try simp only [List.map_toArray, List.map_cons, List.map_nil]); first | done | rfl | (simp only [List.length_drop, List.length_take]; rfl)) ?_; (with_reducible refine (days_Date.calls a0 t101 t102 t103 t104 _ ?side1 A2.out).mono ?_); (case side1 => first | exact Laid.below HLd.out (by repeat (first | (with_reducible first | exact HB.out | apply below_alloc | apply pw_below_drewN | apply below_drew1) | exact HB.out)) | (repeat (first | exact HLd.out | apply Laid.drewN | apply Laid.drew))); rintro e w14 ⟨rfl, hb⟩; refine ⟨_, rfl, ?_⟩; have n0_ := Aside0.mk (below_step (by repeat (first | (with_reducible first | exact HB.out | apply below_alloc | apply pw_below_drewN | apply below_drew1) | exact HB.out)) hb); clear HB; have HB := n0_; clear n0_; (try clear hb); (try clear hb2); (try clear hk); (try clear hi)) | ((with_reducible refine gate_dst (N := 4) rfl ?_); refine box_event ?hg (N := 4) ?hd (cs := #[.int .i64 0, .int .i64 0, .int .i64 0]) (t := 66) ?hr ?_; (case hd => rfl); (case hg => rfl); (case hr => first | (go_simp; done) | (go_simp; rfl)); intro gb105 hg w15 hbox hb; have n0_ := Aside0.mk (below_step (by repeat (first | (with_reducible first | exact HB.out | apply below_alloc | apply pw_below_drewN | apply below_drew1) | exact HB.out)) hb); have n1_ := Aside0.mk (hbox); have n2_ := Aside0.mk ((by rw [hg]; exact (below_size (by repeat (first | (with_reducible first | exact HB.out | apply below_alloc | apply pw_below_drewN | apply below_drew1) | exact HB.out))) : w.heap.size ≤ gb105)); have n3_ := Aside0.mk ((by rw [hg]; exact (below_size (by repeat (first | (with_reducible first | exact HB.out | apply below_alloc | apply pw_below_drewN | apply below_drew1) | exact HB.out))) : w.heap.size ≤ gb105)); clear HB; have HB := n0_; have BK105 := n1_; have GW105 := n2_; have GE105 := n3_; clear n0_ n1_ n2_ n3_; clear hb hbox hg; have hcz16_0 : w15.cell? ⟨gb105, 0, none⟩ = some (.int .i64 0) := (blk_cell BK105.out 0).trans rfl; have hcz16_1 : w15.cell? ⟨gb105, 1, none⟩ = some (.int .i64 0) := (blk_cell BK105.out 1).trans rfl; have hcz16_2 : w15.cell? ⟨gb105, 2, none⟩ = some (.int .i64 0) := (blk_cell BK105.out 2).trans rfl; have hfz16_0 := blk_frozen BK105.out 0; have hfz16_1 := blk_frozen BK105.out 1; have hfz16_2 := blk_frozen BK105.out 2))
    go_ret2
    exact ⟨by first | rfl | (simp [errW_none, errW_some] <;> rfl) | (simp [*, errW_none, errW_some] <;> rfl), by repeat (first | (with_reducible first | exact HB.out | apply below_alloc | apply pw_below_drewN | apply below_drew1 | refine below_set ?_ GE105.out) | exact HB.out)⟩


/-! ### fiscal_ends: function 33 -/
def fiscal_ends.j0 : Nat → Int → Bool → Int → Option (Int × Int × Bool)
  | 0, _, _, _ => none
  | k + 1, x1, x14, x106000 => if x14 = true then (some (0, 0, false)) else ((fiscal_begin.f x106000 x1 0).bind fun bt106 => ((fiscal_begin.f x106000 x1 11).bind fun bt108 => (if bt106.2 = true then (if bt108.2 = true then ((days_MonthEnd.f bt108.1).bind fun bt110 => (some (bt106.1, bt110.1, true))) else (some (0, 0, false))) else (some (0, 0, false)))))
def fiscal_ends.f (k : Nat) (a0_0 : Int) (a1 : Int) : Option (Int × Int × Bool) := if a1 < 1900 then (fiscal_ends.j0 k a1 true a0_0) else (fiscal_ends.j0 k a1 (decide (a1 > 2199)) a0_0)
theorem fiscal_ends.mono_l : ∀ k, (∀ y0 y1 y2, LeO (fiscal_ends.j0 k y0 y1 y2) (fiscal_ends.j0 (k + 1) y0 y1 y2))
  | 0 => fun _ _ _ r h => by simp [fiscal_ends.j0] at h
  | k + 1 => by
    have ih0 := fiscal_ends.mono_l k
    · intro y0 y1 y2
      unfold fiscal_ends.j0
      repeat' first
      | (with_reducible exact ih0 _ _ _)
      | (with_reducible exact LeO.refl _)
      | (with_reducible exact LeO.none _)
      | (with_reducible refine LeO.ite ?_ ?_)
      | (with_reducible refine LeO.bind ?_ (fun _ => ?_))
      | exact ih0 _ _ _
      | exact LeO.none _
      | refine LeO.ite ?_ ?_
      | refine LeO.bind ?_ (fun _ => ?_)
theorem fiscal_ends.mono : ∀ a0 a1 k, LeO (fiscal_ends.f k a0 a1) (fiscal_ends.f (k + 1) a0 a1) := by
  intro a0 a1 k
  have ih0 := fiscal_ends.mono_l k
  unfold fiscal_ends.f
  repeat' first
      | (with_reducible exact ih0 _ _ _)
      | (with_reducible exact LeO.refl _)
      | (with_reducible exact LeO.none _)
      | (with_reducible refine LeO.ite ?_ ?_)
      | (with_reducible refine LeO.bind ?_ (fun _ => ?_))
      | exact ih0 _ _ _
      | exact LeO.none _
      | refine LeO.ite ?_ ?_
      | refine LeO.bind ?_ (fun _ => ?_)
set_option maxHeartbeats 8000000 in
set_option maxRecDepth 100000 in
theorem fiscal_ends.calls (k : Nat) (a0_0 : Int) (a1 : Int) (r1 : Int) (r2 : Int) (r3 : Bool) (w : World) (hLd : Laid w) (h : fiscal_ends.f k a0_0 a1 = some (r1, r2, r3)) :
    Calls Tryd.prog 33 #[.agg #[.int .i64 a0_0], .int .i64 a1] w fun e w' => e = .returned (.tuple #[.int .i64 r1, .int .i64 r2, .bool r3]) ∧ Below w.heap.size w w' := by
  have hu23 := Tryd.underlying23
  have HB := Aside0.mk (Below.refl w.heap.size w)
  have HLd := Aside0.mk hLd; clear hLd
  have H : (if a1 < 1900 then (fiscal_ends.j0 k a1 true a0_0) else (fiscal_ends.j0 k a1 (decide (a1 > 2199)) a0_0)) = some (r1, r2, r3) := h
  clear h
  have HC3 := Aside0.mk H
  clear H
  go_enter Tryd.func33, Tryd.ntmps33
  go_upto_region 1 with (first | ((with_reducible refine gate_dst (N := 2) rfl ?_); refine box_event ?hg (N := 2) ?hd (cs := #[.int .i64 a0_0]) (t := 23) ?hr ?_; (case hd => rfl); (case hg => rfl); (case hr => first | (go_simp; done) | (go_simp; rfl)); intro gb105 hg w4 hbox hb; have n0_ := Aside0.mk (below_step (by repeat (first | (with_reducible first | exact HB.out | apply below_alloc | apply pw_below_drewN | apply below_drew1) | exact HB.out)) hb); have n1_ := Aside0.mk (hbox); have n2_ := Aside0.mk ((by rw [hg]; exact (below_size (by repeat (first | (with_reducible first | exact HB.out | apply below_alloc | apply pw_below_drewN | apply below_drew1) | exact HB.out))) : w.heap.size ≤ gb105)); have n3_ := Aside0.mk ((by rw [hg]; exact (below_size (by repeat (first | (with_reducible first | exact HB.out | apply below_alloc | apply pw_below_drewN | apply below_drew1) | exact HB.out))) : w.heap.size ≤ gb105)); clear HB; have HB := n0_; have BK105 := n1_; have GW105 := n2_; have GE105 := n3_; clear n0_ n1_ n2_ n3_; clear hb hbox hg))
  (try simp only [Act.put, List.setIfInBounds_toArray, List.set_cons_zero, List.set_cons_succ])
  go_cut [14] (fun v14 wc => ∃ (kq : Nat) (x14_2 : Bool), v14 = .bool x14_2 ∧ Aside0 (fiscal_ends.j0 kq a1 x14_2 a0_0 = some (r1, r2, r3)) ∧ Aside0 (kq ≤ k) ∧ Aside0 (wc.heap[gb105]? = some (.cells #[.int .i64 a0_0] 23 (0, 0))) ∧ Aside0 (Below w.heap.size w wc))
  case first =>
    have H := HC3.out
    clear HC3
    by_cases c5 : a1 < 1900
    · rw [if_pos c5] at H
      have c5b0 : decide (a1 < 1900) = true := decide_eq_true c5
      clear c5
      (first | rw [c5b0] | (simp only [i64_w, i32_w]; rw [c5b0]) | skip)
      have H' := Aside0.mk H
      clear H
      go_wp2
      go_meet
      case rel => exact ⟨_, (true), (by first | rfl | (simp; done) | (simp [*]; done) | (simp; generalize ByteArray.toList _ = l_; cases l_ <;> rfl)), H', ⟨by first | omega | exact Nat.le_refl _⟩, ⟨by (with_reducible repeat (first | refine blk_drewN ?_ _ | refine blk_drew ?_ | refine blk_alloc ?_ _)); exact BK105.out⟩, ⟨by repeat (first | (with_reducible first | exact HB.out | apply below_alloc | apply pw_below_drewN | apply below_drew1 | refine below_set ?_ GE105.out) | exact HB.out)⟩⟩
    · rw [if_neg c5] at H
      have c5b0 : decide (a1 < 1900) = false := decide_eq_false c5
      clear c5
      (first | rw [c5b0] | (simp only [i64_w, i32_w]; rw [c5b0]) | skip)
      have H' := Aside0.mk H
      clear H
      go_wp2
      go_meet
      case rel => exact ⟨_, (decide (a1 > 2199)), (by first | rfl | (simp; done) | (simp [*]; done) | (simp; generalize ByteArray.toList _ = l_; cases l_ <;> rfl)), H', ⟨by first | omega | exact Nat.le_refl _⟩, ⟨by (with_reducible repeat (first | refine blk_drewN ?_ _ | refine blk_drew ?_ | refine blk_alloc ?_ _)); exact BK105.out⟩, ⟨by repeat (first | (with_reducible first | exact HB.out | apply below_alloc | apply pw_below_drewN | apply below_drew1 | refine below_set ?_ GE105.out) | exact HB.out)⟩⟩
  case rest =>
    clear HC3
    try clear p2
    try clear c3
    try clear c5
    try clear c5b0
    obtain ⟨kq, x14_2, rfl, HA, HJ2, BK105, HB⟩ := hcut
    cases kq with
    | zero => exact absurd HA.out (by simp [fiscal_ends.j0])
    | succ kj2 =>
      have H := HA.out
      clear HA
      simp only [fiscal_ends.j0] at H
      by_cases c6 : x14_2 = true
      · subst c6
        have H1 : (some (0, 0, false)) = some (r1, r2, r3) := by rw [if_pos rfl] at H; exact H
        clear H
        have H := H1
        clear H1
        simp only [Option.some.injEq, Prod.mk.injEq] at H
        obtain ⟨rfl, rfl, rfl⟩ := H
        go_wp2
        go_ret3
        exact ⟨by first | rfl | (simp [errW_none, errW_some] <;> rfl) | (simp [*, errW_none, errW_some] <;> rfl), by repeat (first | (with_reducible first | exact HB.out | apply below_alloc | apply pw_below_drewN | apply below_drew1 | refine below_set ?_ GE105.out) | exact HB.out)⟩
      · replace c6 := Bool.eq_false_iff.mpr c6
        subst c6
        have H1 : ((fiscal_begin.f a0_0 a1 0).bind fun bt106 => ((fiscal_begin.f a0_0 a1 11).bind fun bt108 => (if bt106.2 = true then (if bt108.2 = true then ((days_MonthEnd.f bt108.1).bind fun bt110 => (some (bt106.1, bt110.1, true))) else (some (0, 0, false))) else (some (0, 0, false))))) = some (r1, r2, r3) := by rw [if_neg (show ¬ (false = true) by decide)] at H; exact H
        clear H
        have H := H1
        clear H1
        replace H := Option.bind_eq_some_iff.mp H
        obtain ⟨⟨t106, t107⟩, A70, H⟩ := H
        replace H : ((fiscal_begin.f a0_0 a1 11).bind fun bt108 => (if t107 = true then (if bt108.2 = true then ((days_MonthEnd.f bt108.1).bind fun bt110 => (some (t106, bt110.1, true))) else (some (0, 0, false))) else (some (0, 0, false)))) = some (r1, r2, r3) := H
        have A7 := Aside0.mk A70
        clear A70
        replace H := Option.bind_eq_some_iff.mp H
        obtain ⟨⟨t108, t109⟩, A80, H⟩ := H
        replace H : (if t107 = true then (if t109 = true then ((days_MonthEnd.f t108).bind fun bt110 => (some (t106, bt110.1, true))) else (some (0, 0, false))) else (some (0, 0, false))) = some (r1, r2, r3) := H
        have A8 := Aside0.mk A80
        clear A80
        by_cases c9 : t107 = true
        · subst c9
          have H1 : (if t109 = true then ((days_MonthEnd.f t108).bind fun bt110 => (some (t106, bt110.1, true))) else (some (0, 0, false))) = some (r1, r2, r3) := by rw [if_pos rfl] at H; exact H
          clear H
          have H := H1
          clear H1
          by_cases c10 : t109 = true
          · subst c10
            have H1 : ((days_MonthEnd.f t108).bind fun bt110 => (some (t106, bt110.1, true))) = some (r1, r2, r3) := by rw [if_pos rfl] at H; exact H
            clear H
            have H := H1
            clear H1
            replace H := Option.bind_eq_some_iff.mp H
            obtain ⟨⟨t110, t111⟩, A110, H⟩ := H
            replace H : (some (t106, t110, true)) = some (r1, r2, r3) := H
            have A11 := Aside0.mk A110
            clear A110
            simp only [Option.some.injEq, Prod.mk.injEq] at H
            obtain ⟨rfl, rfl, rfl⟩ := H
            have hcz12_0 : wc.cell? ⟨gb105, 0, none⟩ = some (.int .i64 a0_0) := (blk_cell BK105.out 0).trans rfl
            have hfz12_0 := blk_frozen BK105.out 0
            go_wp2_with (first | ((with_reducible refine gate_callee (f := 34) rfl ?_); refine goesL_ (some 18) rfl rfl Tryd.func34 (by kernel_rfl) rfl #[.agg #[.int .i64 a0_0], .int .i64 a1, .int .i64 0] rfl (by (try simp only [List.map_toArray, List.map_cons, List.map_nil]); first | done | rfl | (simp only [List.length_drop, List.length_take]; rfl)) ?_; (with_reducible refine (fiscal_begin.calls a0_0 a1 0 t106 true _ ?side1 A7.out).mono ?_); (case side1 => first | exact Laid.below HLd.out (by repeat (first | (with_reducible first | exact HB.out | apply below_alloc | apply pw_below_drewN | apply below_drew1 | refine below_set ?_ GE105.out) | exact HB.out)) | (repeat (first | exact HLd.out | apply Laid.drewN | apply Laid.drew))); rintro e w13 ⟨rfl, hb⟩; refine ⟨_, rfl, ?_⟩; have n0_ := Aside0.mk (blk_below (g := gb105) (o := .cells #[.int .i64 a0_0] 23 (0, 0)) (by (with_reducible repeat (first | refine blk_drewN ?_ _ | refine blk_drew ?_ | refine blk_alloc ?_ _)); exact BK105.out) hb); have n1_ := Aside0.mk (below_step (by repeat (first | (with_reducible first | exact HB.out | apply below_alloc | apply pw_below_drewN | apply below_drew1 | refine below_set ?_ GE105.out) | exact HB.out)) hb); clear BK105; clear HB; have BK105 := n0_; have HB := n1_; clear n0_ n1_; (try clear hb); (try clear hb2); (try clear hk); (try clear hi); have hcz14_0 : w13.cell? ⟨gb105, 0, none⟩ = some (.int .i64 a0_0) := (blk_cell BK105.out 0).trans rfl; have hfz14_0 := blk_frozen BK105.out 0) | ((with_reducible refine gate_callee (f := 34) rfl ?_); refine goesL_ (some 24) rfl rfl Tryd.func34 (by kernel_rfl) rfl #[.agg #[.int .i64 a0_0], .int .i64 a1, .int .i64 11] rfl (by (try simp only [List.map_toArray, List.map_cons, List.map_nil]); first | done | rfl | (simp only [List.length_drop, List.length_take]; rfl)) ?_; (with_reducible refine (fiscal_begin.calls a0_0 a1 11 t108 true _ ?side1 A8.out).mono ?_); (case side1 => first | exact Laid.below HLd.out (by repeat (first | (with_reducible first | exact HB.out | apply below_alloc | apply pw_below_drewN | apply below_drew1 | refine below_set ?_ GE105.out) | exact HB.out)) | (repeat (first | exact HLd.out | apply Laid.drewN | apply Laid.drew))); rintro e w15 ⟨rfl, hb⟩; refine ⟨_, rfl, ?_⟩; have n0_ := Aside0.mk (blk_below (g := gb105) (o := .cells #[.int .i64 a0_0] 23 (0, 0)) (by (with_reducible repeat (first | refine blk_drewN ?_ _ | refine blk_drew ?_ | refine blk_alloc ?_ _)); exact BK105.out) hb); have n1_ := Aside0.mk (below_step (by repeat (first | (with_reducible first | exact HB.out | apply below_alloc | apply pw_below_drewN | apply below_drew1 | refine below_set ?_ GE105.out) | exact HB.out)) hb); clear BK105; clear HB; have BK105 := n0_; have HB := n1_; clear n0_ n1_; (try clear hb); (try clear hb2); (try clear hk); (try clear hi)) | ((with_reducible refine gate_callee (f := 35) rfl ?_); refine goesL_ (some 35) rfl rfl Tryd.func35 (by kernel_rfl) rfl #[.int .i64 t108] rfl (by (try simp only [List.map_toArray, List.map_cons, List.map_nil]); first | done | rfl | (simp only [List.length_drop, List.length_take]; rfl)) ?_; (with_reducible refine (days_MonthEnd.calls t108 t110 t111 _ ?side1 A11.out).mono ?_); (case side1 => first | exact Laid.below HLd.out (by repeat (first | (with_reducible first | exact HB.out | apply below_alloc | apply pw_below_drewN | apply below_drew1 | refine below_set ?_ GE105.out) | exact HB.out)) | (repeat (first | exact HLd.out | apply Laid.drewN | apply Laid.drew))); rintro e w16 ⟨rfl, hb⟩; refine ⟨_, rfl, ?_⟩; have n0_ := Aside0.mk (blk_below (g := gb105) (o := .cells #[.int .i64 a0_0] 23 (0, 0)) (by (with_reducible repeat (first | refine blk_drewN ?_ _ | refine blk_drew ?_ | refine blk_alloc ?_ _)); exact BK105.out) hb); have n1_ := Aside0.mk (below_step (by repeat (first | (with_reducible first | exact HB.out | apply below_alloc | apply pw_below_drewN | apply below_drew1 | refine below_set ?_ GE105.out) | exact HB.out)) hb); clear BK105; clear HB; have BK105 := n0_; have HB := n1_; clear n0_ n1_; (try clear hb); (try clear hb2); (try clear hk); (try clear hi)))
            go_ret3
            exact ⟨by first | rfl | (simp [errW_none, errW_some] <;> rfl) | (simp [*, errW_none, errW_some] <;> rfl), by repeat (first | (with_reducible first | exact HB.out | apply below_alloc | apply pw_below_drewN | apply below_drew1 | refine below_set ?_ GE105.out) | exact HB.out)⟩
          · replace c10 := Bool.eq_false_iff.mpr c10
            subst c10
            have H1 : (some (0, 0, false)) = some (r1, r2, r3) := by rw [if_neg (show ¬ (false = true) by decide)] at H; exact H
            clear H
            have H := H1
            clear H1
            simp only [Option.some.injEq, Prod.mk.injEq] at H
            obtain ⟨rfl, rfl, rfl⟩ := H
            have hcz17_0 : wc.cell? ⟨gb105, 0, none⟩ = some (.int .i64 a0_0) := (blk_cell BK105.out 0).trans rfl
            have hfz17_0 := blk_frozen BK105.out 0
            go_wp2_with (first | ((with_reducible refine gate_callee (f := 34) rfl ?_); refine goesL_ (some 18) rfl rfl Tryd.func34 (by kernel_rfl) rfl #[.agg #[.int .i64 a0_0], .int .i64 a1, .int .i64 0] rfl (by (try simp only [List.map_toArray, List.map_cons, List.map_nil]); first | done | rfl | (simp only [List.length_drop, List.length_take]; rfl)) ?_; (with_reducible refine (fiscal_begin.calls a0_0 a1 0 t106 true _ ?side1 A7.out).mono ?_); (case side1 => first | exact Laid.below HLd.out (by repeat (first | (with_reducible first | exact HB.out | apply below_alloc | apply pw_below_drewN | apply below_drew1 | refine below_set ?_ GE105.out) | exact HB.out)) | (repeat (first | exact HLd.out | apply Laid.drewN | apply Laid.drew))); rintro e w18 ⟨rfl, hb⟩; refine ⟨_, rfl, ?_⟩; have n0_ := Aside0.mk (blk_below (g := gb105) (o := .cells #[.int .i64 a0_0] 23 (0, 0)) (by (with_reducible repeat (first | refine blk_drewN ?_ _ | refine blk_drew ?_ | refine blk_alloc ?_ _)); exact BK105.out) hb); have n1_ := Aside0.mk (below_step (by repeat (first | (with_reducible first | exact HB.out | apply below_alloc | apply pw_below_drewN | apply below_drew1 | refine below_set ?_ GE105.out) | exact HB.out)) hb); clear BK105; clear HB; have BK105 := n0_; have HB := n1_; clear n0_ n1_; (try clear hb); (try clear hb2); (try clear hk); (try clear hi); have hcz19_0 : w18.cell? ⟨gb105, 0, none⟩ = some (.int .i64 a0_0) := (blk_cell BK105.out 0).trans rfl; have hfz19_0 := blk_frozen BK105.out 0) | ((with_reducible refine gate_callee (f := 34) rfl ?_); refine goesL_ (some 24) rfl rfl Tryd.func34 (by kernel_rfl) rfl #[.agg #[.int .i64 a0_0], .int .i64 a1, .int .i64 11] rfl (by (try simp only [List.map_toArray, List.map_cons, List.map_nil]); first | done | rfl | (simp only [List.length_drop, List.length_take]; rfl)) ?_; (with_reducible refine (fiscal_begin.calls a0_0 a1 11 t108 false _ ?side1 A8.out).mono ?_); (case side1 => first | exact Laid.below HLd.out (by repeat (first | (with_reducible first | exact HB.out | apply below_alloc | apply pw_below_drewN | apply below_drew1 | refine below_set ?_ GE105.out) | exact HB.out)) | (repeat (first | exact HLd.out | apply Laid.drewN | apply Laid.drew))); rintro e w20 ⟨rfl, hb⟩; refine ⟨_, rfl, ?_⟩; have n0_ := Aside0.mk (blk_below (g := gb105) (o := .cells #[.int .i64 a0_0] 23 (0, 0)) (by (with_reducible repeat (first | refine blk_drewN ?_ _ | refine blk_drew ?_ | refine blk_alloc ?_ _)); exact BK105.out) hb); have n1_ := Aside0.mk (below_step (by repeat (first | (with_reducible first | exact HB.out | apply below_alloc | apply pw_below_drewN | apply below_drew1 | refine below_set ?_ GE105.out) | exact HB.out)) hb); clear BK105; clear HB; have BK105 := n0_; have HB := n1_; clear n0_ n1_; (try clear hb); (try clear hb2); (try clear hk); (try clear hi)))
            go_ret3
            exact ⟨by first | rfl | (simp [errW_none, errW_some] <;> rfl) | (simp [*, errW_none, errW_some] <;> rfl), by repeat (first | (with_reducible first | exact HB.out | apply below_alloc | apply pw_below_drewN | apply below_drew1 | refine below_set ?_ GE105.out) | exact HB.out)⟩
        · replace c9 := Bool.eq_false_iff.mpr c9
          subst c9
          have H1 : (some (0, 0, false)) = some (r1, r2, r3) := by rw [if_neg (show ¬ (false = true) by decide)] at H; exact H
          clear H
          have H := H1
          clear H1
          simp only [Option.some.injEq, Prod.mk.injEq] at H
          obtain ⟨rfl, rfl, rfl⟩ := H
          have hcz21_0 : wc.cell? ⟨gb105, 0, none⟩ = some (.int .i64 a0_0) := (blk_cell BK105.out 0).trans rfl
          have hfz21_0 := blk_frozen BK105.out 0
          go_wp2_with (first | ((with_reducible refine gate_callee (f := 34) rfl ?_); refine goesL_ (some 18) rfl rfl Tryd.func34 (by kernel_rfl) rfl #[.agg #[.int .i64 a0_0], .int .i64 a1, .int .i64 0] rfl (by (try simp only [List.map_toArray, List.map_cons, List.map_nil]); first | done | rfl | (simp only [List.length_drop, List.length_take]; rfl)) ?_; (with_reducible refine (fiscal_begin.calls a0_0 a1 0 t106 false _ ?side1 A7.out).mono ?_); (case side1 => first | exact Laid.below HLd.out (by repeat (first | (with_reducible first | exact HB.out | apply below_alloc | apply pw_below_drewN | apply below_drew1 | refine below_set ?_ GE105.out) | exact HB.out)) | (repeat (first | exact HLd.out | apply Laid.drewN | apply Laid.drew))); rintro e w22 ⟨rfl, hb⟩; refine ⟨_, rfl, ?_⟩; have n0_ := Aside0.mk (blk_below (g := gb105) (o := .cells #[.int .i64 a0_0] 23 (0, 0)) (by (with_reducible repeat (first | refine blk_drewN ?_ _ | refine blk_drew ?_ | refine blk_alloc ?_ _)); exact BK105.out) hb); have n1_ := Aside0.mk (below_step (by repeat (first | (with_reducible first | exact HB.out | apply below_alloc | apply pw_below_drewN | apply below_drew1 | refine below_set ?_ GE105.out) | exact HB.out)) hb); clear BK105; clear HB; have BK105 := n0_; have HB := n1_; clear n0_ n1_; (try clear hb); (try clear hb2); (try clear hk); (try clear hi); have hcz23_0 : w22.cell? ⟨gb105, 0, none⟩ = some (.int .i64 a0_0) := (blk_cell BK105.out 0).trans rfl; have hfz23_0 := blk_frozen BK105.out 0) | ((with_reducible refine gate_callee (f := 34) rfl ?_); refine goesL_ (some 24) rfl rfl Tryd.func34 (by kernel_rfl) rfl #[.agg #[.int .i64 a0_0], .int .i64 a1, .int .i64 11] rfl (by (try simp only [List.map_toArray, List.map_cons, List.map_nil]); first | done | rfl | (simp only [List.length_drop, List.length_take]; rfl)) ?_; (with_reducible refine (fiscal_begin.calls a0_0 a1 11 t108 t109 _ ?side1 A8.out).mono ?_); (case side1 => first | exact Laid.below HLd.out (by repeat (first | (with_reducible first | exact HB.out | apply below_alloc | apply pw_below_drewN | apply below_drew1 | refine below_set ?_ GE105.out) | exact HB.out)) | (repeat (first | exact HLd.out | apply Laid.drewN | apply Laid.drew))); rintro e w24 ⟨rfl, hb⟩; refine ⟨_, rfl, ?_⟩; have n0_ := Aside0.mk (blk_below (g := gb105) (o := .cells #[.int .i64 a0_0] 23 (0, 0)) (by (with_reducible repeat (first | refine blk_drewN ?_ _ | refine blk_drew ?_ | refine blk_alloc ?_ _)); exact BK105.out) hb); have n1_ := Aside0.mk (below_step (by repeat (first | (with_reducible first | exact HB.out | apply below_alloc | apply pw_below_drewN | apply below_drew1 | refine below_set ?_ GE105.out) | exact HB.out)) hb); clear BK105; clear HB; have BK105 := n0_; have HB := n1_; clear n0_ n1_; (try clear hb); (try clear hb2); (try clear hk); (try clear hi)))
          go_ret3
          exact ⟨by first | rfl | (simp [errW_none, errW_some] <;> rfl) | (simp [*, errW_none, errW_some] <;> rfl), by repeat (first | (with_reducible first | exact HB.out | apply below_alloc | apply pw_below_drewN | apply below_drew1 | refine below_set ?_ GE105.out) | exact HB.out)⟩

/-! ### fiscal_exists: function 32 -/
def fiscal_exists.f (k : Nat) (a0_0 : Int) (a1_0 : Int) (a1_1 : Int) : Option (Bool) := (fiscal_ends.f k a0_0 a1_0).bind fun bt114 => (if bt114.2.2 = true then (if a1_1 ≥ 1 then (some (decide (a1_1 ≤ 13))) else (some false)) else (some false))
theorem fiscal_exists.mono : ∀ a0 a1 a2 k, LeO (fiscal_exists.f k a0 a1 a2) (fiscal_exists.f (k + 1) a0 a1 a2) := by
  intro a0 a1 a2 k
  unfold fiscal_exists.f
  repeat' first
      | (with_reducible exact fiscal_ends.mono _ _ _)
      | (with_reducible exact LeO.refl _)
      | (with_reducible exact LeO.none _)
      | (with_reducible refine LeO.ite ?_ ?_)
      | (with_reducible refine LeO.bind ?_ (fun _ => ?_))
      | exact fiscal_ends.mono _ _ _
      | exact LeO.none _
      | refine LeO.ite ?_ ?_
      | refine LeO.bind ?_ (fun _ => ?_)
set_option maxHeartbeats 8000000 in
set_option maxRecDepth 100000 in
theorem fiscal_exists.calls (k : Nat) (a0_0 : Int) (a1_0 : Int) (a1_1 : Int) (r : Bool) (w : World) (hLd : Laid w) (h : fiscal_exists.f k a0_0 a1_0 a1_1 = some r) :
    Calls Tryd.prog 32 #[.agg #[.int .i64 a0_0], .agg #[.int .i64 a1_0, .int .i64 a1_1]] w fun e w' => e = .returned (.bool r) ∧ Below w.heap.size w w' := by
  have hu23 := Tryd.underlying23
  have hu25 := Tryd.underlying25
  have HB := Aside0.mk (Below.refl w.heap.size w)
  have HLd := Aside0.mk hLd; clear hLd
  have H : ((fiscal_ends.f k a0_0 a1_0).bind fun bt114 => (if bt114.2.2 = true then (if a1_1 ≥ 1 then (some (decide (a1_1 ≤ 13))) else (some false)) else (some false))) = some r := h
  clear h
  replace H := Option.bind_eq_some_iff.mp H
  obtain ⟨⟨t114, t115, t116⟩, A30, H⟩ := H
  replace H : (if t116 = true then (if a1_1 ≥ 1 then (some (decide (a1_1 ≤ 13))) else (some false)) else (some false)) = some r := H
  have A3 := Aside0.mk A30
  clear A30
  by_cases c4 : t116 = true
  · subst c4
    have H1 : (if a1_1 ≥ 1 then (some (decide (a1_1 ≤ 13))) else (some false)) = some r := by rw [if_pos rfl] at H; exact H
    clear H
    have H := H1
    clear H1
    by_cases c5 : a1_1 ≥ 1
    · rw [if_pos c5] at H
      have c5b0 : decide (1 ≤ a1_1) = true := decide_eq_true c5
      clear c5
      obtain rfl := Option.some.inj H
      go_enter Tryd.func32, Tryd.ntmps32
      go_wp2_with (first | ((with_reducible refine gate_dst (N := 2) rfl ?_); refine box_event ?hg (N := 2) ?hd (cs := #[.int .i64 a0_0]) (t := 23) ?hr ?_; (case hd => rfl); (case hg => rfl); (case hr => first | (go_simp; done) | (go_simp; rfl)); intro gb112 hg w6 hbox hb; have n0_ := Aside0.mk (below_step (by repeat (first | (with_reducible first | exact HB.out | apply below_alloc | apply pw_below_drewN | apply below_drew1) | exact HB.out)) hb); have n1_ := Aside0.mk (hbox); have n2_ := Aside0.mk ((by rw [hg]; exact (below_size (by repeat (first | (with_reducible first | exact HB.out | apply below_alloc | apply pw_below_drewN | apply below_drew1) | exact HB.out))) : w.heap.size ≤ gb112)); have n3_ := Aside0.mk ((by rw [hg]; exact (below_size (by repeat (first | (with_reducible first | exact HB.out | apply below_alloc | apply pw_below_drewN | apply below_drew1) | exact HB.out))) : w.heap.size ≤ gb112)); clear HB; have HB := n0_; have BK112 := n1_; have GW112 := n2_; have GE112 := n3_; clear n0_ n1_ n2_ n3_; clear hb hbox hg) | ((with_reducible refine gate_dst (N := 3) rfl ?_); refine box_event ?hg (N := 3) ?hd (cs := #[.int .i64 a1_0, .int .i64 a1_1]) (t := 25) ?hr ?_; (case hd => rfl); (case hg => rfl); (case hr => first | (go_simp; done) | (go_simp; rfl)); intro gb113 hg w7 hbox hb; have n0_ := Aside0.mk (blk_below (g := gb112) (o := .cells #[.int .i64 a0_0] 23 (0, 0)) (by (with_reducible repeat (first | refine blk_drewN ?_ _ | refine blk_drew ?_ | refine blk_alloc ?_ _)); exact BK112.out) hb); have n1_ := Aside0.mk (below_step (by repeat (first | (with_reducible first | exact HB.out | apply below_alloc | apply pw_below_drewN | apply below_drew1 | refine below_set ?_ GE112.out) | exact HB.out)) hb); have n2_ := Aside0.mk (hbox); have n3_ := Aside0.mk ((by rw [hg]; exact (below_size (by repeat (first | (with_reducible first | exact HB.out | apply below_alloc | apply pw_below_drewN | apply below_drew1 | refine below_set ?_ GE112.out) | exact HB.out))) : w.heap.size ≤ gb113)); have n4_ := Aside0.mk ((by rw [hg]; exact (below_size (by repeat (first | (with_reducible first | exact HB.out | apply below_alloc | apply pw_below_drewN | apply below_drew1 | refine below_set ?_ GE112.out) | exact HB.out))) : w.heap.size ≤ gb113)); have n5_ := Aside0.mk ((by rw [hg]; exact Nat.ne_of_lt (blk_lt (g := gb112) (o := .cells #[.int .i64 a0_0] 23 (0, 0)) (by (with_reducible repeat (first | refine blk_drewN ?_ _ | refine blk_drew ?_ | refine blk_alloc ?_ _)); exact BK112.out)) : gb112 ≠ gb113)); have n6_ := Aside0.mk ((by rw [hg]; exact Nat.ne_of_gt (blk_lt (g := gb112) (o := .cells #[.int .i64 a0_0] 23 (0, 0)) (by (with_reducible repeat (first | refine blk_drewN ?_ _ | refine blk_drew ?_ | refine blk_alloc ?_ _)); exact BK112.out)) : gb113 ≠ gb112)); clear BK112; clear HB; have BK112 := n0_; have HB := n1_; have BK113 := n2_; have GW113 := n3_; have GE113 := n4_; have NB112_113 := n5_; have NB113_112 := n6_; clear n0_ n1_ n2_ n3_ n4_ n5_ n6_; clear hb hbox hg; have hnb8 := NB112_113.out; have hnc8 := NB113_112.out; have hcz9_0 : w7.cell? ⟨gb112, 0, none⟩ = some (.int .i64 a0_0) := (blk_cell BK112.out 0).trans rfl; have hfz9_0 := blk_frozen BK112.out 0; have hcz10_0 : w7.cell? ⟨gb113, 0, none⟩ = some (.int .i64 a1_0) := (blk_cell BK113.out 0).trans rfl; have hcz10_1 : w7.cell? ⟨gb113, 1, none⟩ = some (.int .i64 a1_1) := (blk_cell BK113.out 1).trans rfl; have hfz10_0 := blk_frozen BK113.out 0; have hfz10_1 := blk_frozen BK113.out 1) | ((with_reducible refine gate_callee (f := 33) rfl ?_); refine goesL_ (some 12) rfl rfl Tryd.func33 (by kernel_rfl) rfl #[.agg #[.int .i64 a0_0], .int .i64 a1_0] rfl (by (try simp only [List.map_toArray, List.map_cons, List.map_nil]); first | done | rfl | (simp only [List.length_drop, List.length_take]; rfl)) ?_; (with_reducible refine (fiscal_ends.calls k a0_0 a1_0 t114 t115 true _ ?side1 A3.out).mono ?_); (case side1 => first | exact Laid.below HLd.out (by repeat (first | (with_reducible first | exact HB.out | apply below_alloc | apply pw_below_drewN | apply below_drew1 | refine below_set ?_ GE112.out | refine below_set ?_ GE113.out) | exact HB.out)) | (repeat (first | exact HLd.out | apply Laid.drewN | apply Laid.drew))); rintro e w11 ⟨rfl, hb⟩; refine ⟨_, rfl, ?_⟩; have n0_ := Aside0.mk (blk_below (g := gb112) (o := .cells #[.int .i64 a0_0] 23 (0, 0)) (by (with_reducible repeat (first | refine blk_drewN ?_ _ | refine blk_drew ?_ | refine blk_alloc ?_ _)); exact BK112.out) hb); have n1_ := Aside0.mk (blk_below (g := gb113) (o := .cells #[.int .i64 a1_0, .int .i64 a1_1] 25 (0, 0)) (by (with_reducible repeat (first | refine blk_drewN ?_ _ | refine blk_drew ?_ | refine blk_alloc ?_ _)); exact BK113.out) hb); have n2_ := Aside0.mk (below_step (by repeat (first | (with_reducible first | exact HB.out | apply below_alloc | apply pw_below_drewN | apply below_drew1 | refine below_set ?_ GE112.out | refine below_set ?_ GE113.out) | exact HB.out)) hb); clear BK112; clear BK113; clear HB; have BK112 := n0_; have BK113 := n1_; have HB := n2_; clear n0_ n1_ n2_; (try clear hb); (try clear hb2); (try clear hk); (try clear hi); have hcz12_0 : w11.cell? ⟨gb113, 0, none⟩ = some (.int .i64 a1_0) := (blk_cell BK113.out 0).trans rfl; have hcz12_1 : w11.cell? ⟨gb113, 1, none⟩ = some (.int .i64 a1_1) := (blk_cell BK113.out 1).trans rfl; have hfz12_0 := blk_frozen BK113.out 0; have hfz12_1 := blk_frozen BK113.out 1))
      go_ret
      exact ⟨by first | rfl | (simp [errW_none, errW_some] <;> rfl) | (simp [*, errW_none, errW_some] <;> rfl), by repeat (first | (with_reducible first | exact HB.out | apply below_alloc | apply pw_below_drewN | apply below_drew1 | refine below_set ?_ GE112.out | refine below_set ?_ GE113.out) | exact HB.out)⟩
    · rw [if_neg c5] at H
      have c5b0 : decide (1 ≤ a1_1) = false := decide_eq_false c5
      clear c5
      obtain rfl := Option.some.inj H
      go_enter Tryd.func32, Tryd.ntmps32
      go_wp2_with (first | ((with_reducible refine gate_dst (N := 2) rfl ?_); refine box_event ?hg (N := 2) ?hd (cs := #[.int .i64 a0_0]) (t := 23) ?hr ?_; (case hd => rfl); (case hg => rfl); (case hr => first | (go_simp; done) | (go_simp; rfl)); intro gb112 hg w13 hbox hb; have n0_ := Aside0.mk (below_step (by repeat (first | (with_reducible first | exact HB.out | apply below_alloc | apply pw_below_drewN | apply below_drew1) | exact HB.out)) hb); have n1_ := Aside0.mk (hbox); have n2_ := Aside0.mk ((by rw [hg]; exact (below_size (by repeat (first | (with_reducible first | exact HB.out | apply below_alloc | apply pw_below_drewN | apply below_drew1) | exact HB.out))) : w.heap.size ≤ gb112)); have n3_ := Aside0.mk ((by rw [hg]; exact (below_size (by repeat (first | (with_reducible first | exact HB.out | apply below_alloc | apply pw_below_drewN | apply below_drew1) | exact HB.out))) : w.heap.size ≤ gb112)); clear HB; have HB := n0_; have BK112 := n1_; have GW112 := n2_; have GE112 := n3_; clear n0_ n1_ n2_ n3_; clear hb hbox hg) | ((with_reducible refine gate_dst (N := 3) rfl ?_); refine box_event ?hg (N := 3) ?hd (cs := #[.int .i64 a1_0, .int .i64 a1_1]) (t := 25) ?hr ?_; (case hd => rfl); (case hg => rfl); (case hr => first | (go_simp; done) | (go_simp; rfl)); intro gb113 hg w14 hbox hb; have n0_ := Aside0.mk (blk_below (g := gb112) (o := .cells #[.int .i64 a0_0] 23 (0, 0)) (by (with_reducible repeat (first | refine blk_drewN ?_ _ | refine blk_drew ?_ | refine blk_alloc ?_ _)); exact BK112.out) hb); have n1_ := Aside0.mk (below_step (by repeat (first | (with_reducible first | exact HB.out | apply below_alloc | apply pw_below_drewN | apply below_drew1 | refine below_set ?_ GE112.out) | exact HB.out)) hb); have n2_ := Aside0.mk (hbox); have n3_ := Aside0.mk ((by rw [hg]; exact (below_size (by repeat (first | (with_reducible first | exact HB.out | apply below_alloc | apply pw_below_drewN | apply below_drew1 | refine below_set ?_ GE112.out) | exact HB.out))) : w.heap.size ≤ gb113)); have n4_ := Aside0.mk ((by rw [hg]; exact (below_size (by repeat (first | (with_reducible first | exact HB.out | apply below_alloc | apply pw_below_drewN | apply below_drew1 | refine below_set ?_ GE112.out) | exact HB.out))) : w.heap.size ≤ gb113)); have n5_ := Aside0.mk ((by rw [hg]; exact Nat.ne_of_lt (blk_lt (g := gb112) (o := .cells #[.int .i64 a0_0] 23 (0, 0)) (by (with_reducible repeat (first | refine blk_drewN ?_ _ | refine blk_drew ?_ | refine blk_alloc ?_ _)); exact BK112.out)) : gb112 ≠ gb113)); have n6_ := Aside0.mk ((by rw [hg]; exact Nat.ne_of_gt (blk_lt (g := gb112) (o := .cells #[.int .i64 a0_0] 23 (0, 0)) (by (with_reducible repeat (first | refine blk_drewN ?_ _ | refine blk_drew ?_ | refine blk_alloc ?_ _)); exact BK112.out)) : gb113 ≠ gb112)); clear BK112; clear HB; have BK112 := n0_; have HB := n1_; have BK113 := n2_; have GW113 := n3_; have GE113 := n4_; have NB112_113 := n5_; have NB113_112 := n6_; clear n0_ n1_ n2_ n3_ n4_ n5_ n6_; clear hb hbox hg; have hnb15 := NB112_113.out; have hnc15 := NB113_112.out; have hcz16_0 : w14.cell? ⟨gb112, 0, none⟩ = some (.int .i64 a0_0) := (blk_cell BK112.out 0).trans rfl; have hfz16_0 := blk_frozen BK112.out 0; have hcz17_0 : w14.cell? ⟨gb113, 0, none⟩ = some (.int .i64 a1_0) := (blk_cell BK113.out 0).trans rfl; have hcz17_1 : w14.cell? ⟨gb113, 1, none⟩ = some (.int .i64 a1_1) := (blk_cell BK113.out 1).trans rfl; have hfz17_0 := blk_frozen BK113.out 0; have hfz17_1 := blk_frozen BK113.out 1) | ((with_reducible refine gate_callee (f := 33) rfl ?_); refine goesL_ (some 12) rfl rfl Tryd.func33 (by kernel_rfl) rfl #[.agg #[.int .i64 a0_0], .int .i64 a1_0] rfl (by (try simp only [List.map_toArray, List.map_cons, List.map_nil]); first | done | rfl | (simp only [List.length_drop, List.length_take]; rfl)) ?_; (with_reducible refine (fiscal_ends.calls k a0_0 a1_0 t114 t115 true _ ?side1 A3.out).mono ?_); (case side1 => first | exact Laid.below HLd.out (by repeat (first | (with_reducible first | exact HB.out | apply below_alloc | apply pw_below_drewN | apply below_drew1 | refine below_set ?_ GE112.out | refine below_set ?_ GE113.out) | exact HB.out)) | (repeat (first | exact HLd.out | apply Laid.drewN | apply Laid.drew))); rintro e w18 ⟨rfl, hb⟩; refine ⟨_, rfl, ?_⟩; have n0_ := Aside0.mk (blk_below (g := gb112) (o := .cells #[.int .i64 a0_0] 23 (0, 0)) (by (with_reducible repeat (first | refine blk_drewN ?_ _ | refine blk_drew ?_ | refine blk_alloc ?_ _)); exact BK112.out) hb); have n1_ := Aside0.mk (blk_below (g := gb113) (o := .cells #[.int .i64 a1_0, .int .i64 a1_1] 25 (0, 0)) (by (with_reducible repeat (first | refine blk_drewN ?_ _ | refine blk_drew ?_ | refine blk_alloc ?_ _)); exact BK113.out) hb); have n2_ := Aside0.mk (below_step (by repeat (first | (with_reducible first | exact HB.out | apply below_alloc | apply pw_below_drewN | apply below_drew1 | refine below_set ?_ GE112.out | refine below_set ?_ GE113.out) | exact HB.out)) hb); clear BK112; clear BK113; clear HB; have BK112 := n0_; have BK113 := n1_; have HB := n2_; clear n0_ n1_ n2_; (try clear hb); (try clear hb2); (try clear hk); (try clear hi); have hcz19_0 : w18.cell? ⟨gb113, 0, none⟩ = some (.int .i64 a1_0) := (blk_cell BK113.out 0).trans rfl; have hcz19_1 : w18.cell? ⟨gb113, 1, none⟩ = some (.int .i64 a1_1) := (blk_cell BK113.out 1).trans rfl; have hfz19_0 := blk_frozen BK113.out 0; have hfz19_1 := blk_frozen BK113.out 1))
      go_ret
      exact ⟨by first | rfl | (simp [errW_none, errW_some] <;> rfl) | (simp [*, errW_none, errW_some] <;> rfl), by repeat (first | (with_reducible first | exact HB.out | apply below_alloc | apply pw_below_drewN | apply below_drew1 | refine below_set ?_ GE112.out | refine below_set ?_ GE113.out) | exact HB.out)⟩
  · replace c4 := Bool.eq_false_iff.mpr c4
    subst c4
    have H1 : (some false) = some r := by rw [if_neg (show ¬ (false = true) by decide)] at H; exact H
    clear H
    have H := H1
    clear H1
    obtain rfl := Option.some.inj H
    go_enter Tryd.func32, Tryd.ntmps32
    go_wp2_with (first | ((with_reducible refine gate_dst (N := 2) rfl ?_); refine box_event ?hg (N := 2) ?hd (cs := #[.int .i64 a0_0]) (t := 23) ?hr ?_; (case hd => rfl); (case hg => rfl); (case hr => first | (go_simp; done) | (go_simp; rfl)); intro gb112 hg w20 hbox hb; have n0_ := Aside0.mk (below_step (by repeat (first | (with_reducible first | exact HB.out | apply below_alloc | apply pw_below_drewN | apply below_drew1) | exact HB.out)) hb); have n1_ := Aside0.mk (hbox); have n2_ := Aside0.mk ((by rw [hg]; exact (below_size (by repeat (first | (with_reducible first | exact HB.out | apply below_alloc | apply pw_below_drewN | apply below_drew1) | exact HB.out))) : w.heap.size ≤ gb112)); have n3_ := Aside0.mk ((by rw [hg]; exact (below_size (by repeat (first | (with_reducible first | exact HB.out | apply below_alloc | apply pw_below_drewN | apply below_drew1) | exact HB.out))) : w.heap.size ≤ gb112)); clear HB; have HB := n0_; have BK112 := n1_; have GW112 := n2_; have GE112 := n3_; clear n0_ n1_ n2_ n3_; clear hb hbox hg) | ((with_reducible refine gate_dst (N := 3) rfl ?_); refine box_event ?hg (N := 3) ?hd (cs := #[.int .i64 a1_0, .int .i64 a1_1]) (t := 25) ?hr ?_; (case hd => rfl); (case hg => rfl); (case hr => first | (go_simp; done) | (go_simp; rfl)); intro gb113 hg w21 hbox hb; have n0_ := Aside0.mk (blk_below (g := gb112) (o := .cells #[.int .i64 a0_0] 23 (0, 0)) (by (with_reducible repeat (first | refine blk_drewN ?_ _ | refine blk_drew ?_ | refine blk_alloc ?_ _)); exact BK112.out) hb); have n1_ := Aside0.mk (below_step (by repeat (first | (with_reducible first | exact HB.out | apply below_alloc | apply pw_below_drewN | apply below_drew1 | refine below_set ?_ GE112.out) | exact HB.out)) hb); have n2_ := Aside0.mk (hbox); have n3_ := Aside0.mk ((by rw [hg]; exact (below_size (by repeat (first | (with_reducible first | exact HB.out | apply below_alloc | apply pw_below_drewN | apply below_drew1 | refine below_set ?_ GE112.out) | exact HB.out))) : w.heap.size ≤ gb113)); have n4_ := Aside0.mk ((by rw [hg]; exact (below_size (by repeat (first | (with_reducible first | exact HB.out | apply below_alloc | apply pw_below_drewN | apply below_drew1 | refine below_set ?_ GE112.out) | exact HB.out))) : w.heap.size ≤ gb113)); have n5_ := Aside0.mk ((by rw [hg]; exact Nat.ne_of_lt (blk_lt (g := gb112) (o := .cells #[.int .i64 a0_0] 23 (0, 0)) (by (with_reducible repeat (first | refine blk_drewN ?_ _ | refine blk_drew ?_ | refine blk_alloc ?_ _)); exact BK112.out)) : gb112 ≠ gb113)); have n6_ := Aside0.mk ((by rw [hg]; exact Nat.ne_of_gt (blk_lt (g := gb112) (o := .cells #[.int .i64 a0_0] 23 (0, 0)) (by (with_reducible repeat (first | refine blk_drewN ?_ _ | refine blk_drew ?_ | refine blk_alloc ?_ _)); exact BK112.out)) : gb113 ≠ gb112)); clear BK112; clear HB; have BK112 := n0_; have HB := n1_; have BK113 := n2_; have GW113 := n3_; have GE113 := n4_; have NB112_113 := n5_; have NB113_112 := n6_; clear n0_ n1_ n2_ n3_ n4_ n5_ n6_; clear hb hbox hg; have hnb22 := NB112_113.out; have hnc22 := NB113_112.out; have hcz23_0 : w21.cell? ⟨gb112, 0, none⟩ = some (.int .i64 a0_0) := (blk_cell BK112.out 0).trans rfl; have hfz23_0 := blk_frozen BK112.out 0; have hcz24_0 : w21.cell? ⟨gb113, 0, none⟩ = some (.int .i64 a1_0) := (blk_cell BK113.out 0).trans rfl; have hcz24_1 : w21.cell? ⟨gb113, 1, none⟩ = some (.int .i64 a1_1) := (blk_cell BK113.out 1).trans rfl; have hfz24_0 := blk_frozen BK113.out 0; have hfz24_1 := blk_frozen BK113.out 1) | ((with_reducible refine gate_callee (f := 33) rfl ?_); refine goesL_ (some 12) rfl rfl Tryd.func33 (by kernel_rfl) rfl #[.agg #[.int .i64 a0_0], .int .i64 a1_0] rfl (by (try simp only [List.map_toArray, List.map_cons, List.map_nil]); first | done | rfl | (simp only [List.length_drop, List.length_take]; rfl)) ?_; (with_reducible refine (fiscal_ends.calls k a0_0 a1_0 t114 t115 false _ ?side1 A3.out).mono ?_); (case side1 => first | exact Laid.below HLd.out (by repeat (first | (with_reducible first | exact HB.out | apply below_alloc | apply pw_below_drewN | apply below_drew1 | refine below_set ?_ GE112.out | refine below_set ?_ GE113.out) | exact HB.out)) | (repeat (first | exact HLd.out | apply Laid.drewN | apply Laid.drew))); rintro e w25 ⟨rfl, hb⟩; refine ⟨_, rfl, ?_⟩; have n0_ := Aside0.mk (blk_below (g := gb112) (o := .cells #[.int .i64 a0_0] 23 (0, 0)) (by (with_reducible repeat (first | refine blk_drewN ?_ _ | refine blk_drew ?_ | refine blk_alloc ?_ _)); exact BK112.out) hb); have n1_ := Aside0.mk (blk_below (g := gb113) (o := .cells #[.int .i64 a1_0, .int .i64 a1_1] 25 (0, 0)) (by (with_reducible repeat (first | refine blk_drewN ?_ _ | refine blk_drew ?_ | refine blk_alloc ?_ _)); exact BK113.out) hb); have n2_ := Aside0.mk (below_step (by repeat (first | (with_reducible first | exact HB.out | apply below_alloc | apply pw_below_drewN | apply below_drew1 | refine below_set ?_ GE112.out | refine below_set ?_ GE113.out) | exact HB.out)) hb); clear BK112; clear BK113; clear HB; have BK112 := n0_; have BK113 := n1_; have HB := n2_; clear n0_ n1_ n2_; (try clear hb); (try clear hb2); (try clear hk); (try clear hi)))
    go_ret
    exact ⟨by first | rfl | (simp [errW_none, errW_some] <;> rfl) | (simp [*, errW_none, errW_some] <;> rfl), by repeat (first | (with_reducible first | exact HB.out | apply below_alloc | apply pw_below_drewN | apply below_drew1 | refine below_set ?_ GE112.out | refine below_set ?_ GE113.out) | exact HB.out)⟩

/-! ### fiscal_Span: function 11 -/
def fiscal_Span.f (k : Nat) (a0_0 : Int) (a1_0 : Int) (a1_1 : Int) : Option (Int × Int × Int) := (fiscal_Right.f a0_0).bind fun t119 => (if t119 = true then ((fiscal_exists.f k a0_0 a1_0 a1_1).bind fun t120 => (if t120 = true then (if a1_1 = 13 then ((fiscal_ends.f k a0_0 a1_0).bind fun bt121 => (some (bt121.2.1, bt121.2.1, 0))) else ((fiscal_begin.f a0_0 a1_0 (wrap64 (a1_1 - 1))).bind fun bt124 => ((days_MonthEnd.f bt124.1).bind fun bt126 => (some (bt124.1, bt126.1, 0))))) else (some (0, 0, 16)))) else (some (0, 0, 2)))
theorem fiscal_Span.mono : ∀ a0 a1 a2 k, LeO (fiscal_Span.f k a0 a1 a2) (fiscal_Span.f (k + 1) a0 a1 a2) := by
  intro a0 a1 a2 k
  unfold fiscal_Span.f
  repeat' first
      | (with_reducible exact fiscal_ends.mono _ _ _)
      | (with_reducible exact fiscal_exists.mono _ _ _ _)
      | (with_reducible exact LeO.refl _)
      | (with_reducible exact LeO.none _)
      | (with_reducible refine LeO.ite ?_ ?_)
      | (with_reducible refine LeO.bind ?_ (fun _ => ?_))
      | exact fiscal_ends.mono _ _ _
      | exact fiscal_exists.mono _ _ _ _
      | exact LeO.none _
      | refine LeO.ite ?_ ?_
      | refine LeO.bind ?_ (fun _ => ?_)
set_option maxHeartbeats 8000000 in
set_option maxRecDepth 100000 in
theorem fiscal_Span.calls (k : Nat) (a0_0 : Int) (a1_0 : Int) (a1_1 : Int) (r1 : Int) (r2 : Int) (r3 : Int) (w : World) (hLd : Laid w) (h : fiscal_Span.f k a0_0 a1_0 a1_1 = some (r1, r2, r3)) :
    Calls Tryd.prog 11 #[.agg #[.int .i64 a0_0], .agg #[.int .i64 a1_0, .int .i64 a1_1]] w fun e w' => e = .returned (.tuple #[.int .i64 r1, .int .i64 r2, .int .i64 r3]) ∧ Below w.heap.size w w' := by
  have hu23 := Tryd.underlying23
  have hu25 := Tryd.underlying25
  have HB := Aside0.mk (Below.refl w.heap.size w)
  have HLd := Aside0.mk hLd; clear hLd
  have H : ((fiscal_Right.f a0_0).bind fun t119 => (if t119 = true then ((fiscal_exists.f k a0_0 a1_0 a1_1).bind fun t120 => (if t120 = true then (if a1_1 = 13 then ((fiscal_ends.f k a0_0 a1_0).bind fun bt121 => (some (bt121.2.1, bt121.2.1, 0))) else ((fiscal_begin.f a0_0 a1_0 (wrap64 (a1_1 - 1))).bind fun bt124 => ((days_MonthEnd.f bt124.1).bind fun bt126 => (some (bt124.1, bt126.1, 0))))) else (some (0, 0, 16)))) else (some (0, 0, 2)))) = some (r1, r2, r3) := h
  clear h
  replace H := Option.bind_eq_some_iff.mp H
  obtain ⟨t119, A30, H⟩ := H
  replace H : (if t119 = true then ((fiscal_exists.f k a0_0 a1_0 a1_1).bind fun t120 => (if t120 = true then (if a1_1 = 13 then ((fiscal_ends.f k a0_0 a1_0).bind fun bt121 => (some (bt121.2.1, bt121.2.1, 0))) else ((fiscal_begin.f a0_0 a1_0 (wrap64 (a1_1 - 1))).bind fun bt124 => ((days_MonthEnd.f bt124.1).bind fun bt126 => (some (bt124.1, bt126.1, 0))))) else (some (0, 0, 16)))) else (some (0, 0, 2))) = some (r1, r2, r3) := H
  have A3 := Aside0.mk A30
  clear A30
  by_cases c4 : t119 = true
  · subst c4
    have H1 : ((fiscal_exists.f k a0_0 a1_0 a1_1).bind fun t120 => (if t120 = true then (if a1_1 = 13 then ((fiscal_ends.f k a0_0 a1_0).bind fun bt121 => (some (bt121.2.1, bt121.2.1, 0))) else ((fiscal_begin.f a0_0 a1_0 (wrap64 (a1_1 - 1))).bind fun bt124 => ((days_MonthEnd.f bt124.1).bind fun bt126 => (some (bt124.1, bt126.1, 0))))) else (some (0, 0, 16)))) = some (r1, r2, r3) := by rw [if_pos rfl] at H; exact H
    clear H
    have H := H1
    clear H1
    replace H := Option.bind_eq_some_iff.mp H
    obtain ⟨t120, A50, H⟩ := H
    replace H : (if t120 = true then (if a1_1 = 13 then ((fiscal_ends.f k a0_0 a1_0).bind fun bt121 => (some (bt121.2.1, bt121.2.1, 0))) else ((fiscal_begin.f a0_0 a1_0 (wrap64 (a1_1 - 1))).bind fun bt124 => ((days_MonthEnd.f bt124.1).bind fun bt126 => (some (bt124.1, bt126.1, 0))))) else (some (0, 0, 16))) = some (r1, r2, r3) := H
    have A5 := Aside0.mk A50
    clear A50
    by_cases c6 : t120 = true
    · subst c6
      have H1 : (if a1_1 = 13 then ((fiscal_ends.f k a0_0 a1_0).bind fun bt121 => (some (bt121.2.1, bt121.2.1, 0))) else ((fiscal_begin.f a0_0 a1_0 (wrap64 (a1_1 - 1))).bind fun bt124 => ((days_MonthEnd.f bt124.1).bind fun bt126 => (some (bt124.1, bt126.1, 0))))) = some (r1, r2, r3) := by rw [if_pos rfl] at H; exact H
      clear H
      have H := H1
      clear H1
      by_cases c7 : a1_1 = 13
      · rw [if_pos c7] at H
        have c7b0 : (a1_1 == 13) = true := beq_iff_eq.mpr c7
        have c7b1 : (a1_1 != 13) = false := bne_eq_false_iff_eq.mpr c7
        clear c7
        replace H := Option.bind_eq_some_iff.mp H
        obtain ⟨⟨t121, t122, t123⟩, A80, H⟩ := H
        replace H : (some (t122, t122, 0)) = some (r1, r2, r3) := H
        have A8 := Aside0.mk A80
        clear A80
        simp only [Option.some.injEq, Prod.mk.injEq] at H
        obtain ⟨rfl, rfl, rfl⟩ := H
        go_enter Tryd.func11, Tryd.ntmps11
        go_wp2_with (first | ((with_reducible refine gate_dst (N := 2) rfl ?_); refine box_event ?hg (N := 2) ?hd (cs := #[.int .i64 a0_0]) (t := 23) ?hr ?_; (case hd => rfl); (case hg => rfl); (case hr => first | (go_simp; done) | (go_simp; rfl)); intro gb117 hg w9 hbox hb; have n0_ := Aside0.mk (below_step (by repeat (first | (with_reducible first | exact HB.out | apply below_alloc | apply pw_below_drewN | apply below_drew1) | exact HB.out)) hb); have n1_ := Aside0.mk (hbox); have n2_ := Aside0.mk ((by rw [hg]; exact (below_size (by repeat (first | (with_reducible first | exact HB.out | apply below_alloc | apply pw_below_drewN | apply below_drew1) | exact HB.out))) : w.heap.size ≤ gb117)); have n3_ := Aside0.mk ((by rw [hg]; exact (below_size (by repeat (first | (with_reducible first | exact HB.out | apply below_alloc | apply pw_below_drewN | apply below_drew1) | exact HB.out))) : w.heap.size ≤ gb117)); clear HB; have HB := n0_; have BK117 := n1_; have GW117 := n2_; have GE117 := n3_; clear n0_ n1_ n2_ n3_; clear hb hbox hg) | ((with_reducible refine gate_dst (N := 3) rfl ?_); refine box_event ?hg (N := 3) ?hd (cs := #[.int .i64 a1_0, .int .i64 a1_1]) (t := 25) ?hr ?_; (case hd => rfl); (case hg => rfl); (case hr => first | (go_simp; done) | (go_simp; rfl)); intro gb118 hg w10 hbox hb; have n0_ := Aside0.mk (blk_below (g := gb117) (o := .cells #[.int .i64 a0_0] 23 (0, 0)) (by (with_reducible repeat (first | refine blk_drewN ?_ _ | refine blk_drew ?_ | refine blk_alloc ?_ _)); exact BK117.out) hb); have n1_ := Aside0.mk (below_step (by repeat (first | (with_reducible first | exact HB.out | apply below_alloc | apply pw_below_drewN | apply below_drew1 | refine below_set ?_ GE117.out) | exact HB.out)) hb); have n2_ := Aside0.mk (hbox); have n3_ := Aside0.mk ((by rw [hg]; exact (below_size (by repeat (first | (with_reducible first | exact HB.out | apply below_alloc | apply pw_below_drewN | apply below_drew1 | refine below_set ?_ GE117.out) | exact HB.out))) : w.heap.size ≤ gb118)); have n4_ := Aside0.mk ((by rw [hg]; exact (below_size (by repeat (first | (with_reducible first | exact HB.out | apply below_alloc | apply pw_below_drewN | apply below_drew1 | refine below_set ?_ GE117.out) | exact HB.out))) : w.heap.size ≤ gb118)); have n5_ := Aside0.mk ((by rw [hg]; exact Nat.ne_of_lt (blk_lt (g := gb117) (o := .cells #[.int .i64 a0_0] 23 (0, 0)) (by (with_reducible repeat (first | refine blk_drewN ?_ _ | refine blk_drew ?_ | refine blk_alloc ?_ _)); exact BK117.out)) : gb117 ≠ gb118)); have n6_ := Aside0.mk ((by rw [hg]; exact Nat.ne_of_gt (blk_lt (g := gb117) (o := .cells #[.int .i64 a0_0] 23 (0, 0)) (by (with_reducible repeat (first | refine blk_drewN ?_ _ | refine blk_drew ?_ | refine blk_alloc ?_ _)); exact BK117.out)) : gb118 ≠ gb117)); clear BK117; clear HB; have BK117 := n0_; have HB := n1_; have BK118 := n2_; have GW118 := n3_; have GE118 := n4_; have NB117_118 := n5_; have NB118_117 := n6_; clear n0_ n1_ n2_ n3_ n4_ n5_ n6_; clear hb hbox hg; have hnb11 := NB117_118.out; have hnc11 := NB118_117.out; have hcz12_0 : w10.cell? ⟨gb117, 0, none⟩ = some (.int .i64 a0_0) := (blk_cell BK117.out 0).trans rfl; have hfz12_0 := blk_frozen BK117.out 0) | ((with_reducible refine gate_callee (f := 13) rfl ?_); refine goesL_ (some 8) rfl rfl Tryd.func13 (by kernel_rfl) rfl #[.agg #[.int .i64 a0_0]] rfl (by (try simp only [List.map_toArray, List.map_cons, List.map_nil]); first | done | rfl | (simp only [List.length_drop, List.length_take]; rfl)) ?_; (with_reducible refine (fiscal_Right.calls a0_0 true _ A3.out).mono ?_); rintro e w13 ⟨rfl, hb⟩; refine ⟨_, rfl, ?_⟩; have n0_ := Aside0.mk (blk_below (g := gb117) (o := .cells #[.int .i64 a0_0] 23 (0, 0)) (by (with_reducible repeat (first | refine blk_drewN ?_ _ | refine blk_drew ?_ | refine blk_alloc ?_ _)); exact BK117.out) hb); have n1_ := Aside0.mk (blk_below (g := gb118) (o := .cells #[.int .i64 a1_0, .int .i64 a1_1] 25 (0, 0)) (by (with_reducible repeat (first | refine blk_drewN ?_ _ | refine blk_drew ?_ | refine blk_alloc ?_ _)); exact BK118.out) hb); have n2_ := Aside0.mk (below_step (by repeat (first | (with_reducible first | exact HB.out | apply below_alloc | apply pw_below_drewN | apply below_drew1 | refine below_set ?_ GE117.out | refine below_set ?_ GE118.out) | exact HB.out)) hb); clear BK117; clear BK118; clear HB; have BK117 := n0_; have BK118 := n1_; have HB := n2_; clear n0_ n1_ n2_; (try clear hb); (try clear hb2); (try clear hk); (try clear hi); have hcz14_0 : w13.cell? ⟨gb117, 0, none⟩ = some (.int .i64 a0_0) := (blk_cell BK117.out 0).trans rfl; have hfz14_0 := blk_frozen BK117.out 0; have hcz15_0 : w13.cell? ⟨gb118, 0, none⟩ = some (.int .i64 a1_0) := (blk_cell BK118.out 0).trans rfl; have hcz15_1 : w13.cell? ⟨gb118, 1, none⟩ = some (.int .i64 a1_1) := (blk_cell BK118.out 1).trans rfl; have hfz15_0 := blk_frozen BK118.out 0; have hfz15_1 := blk_frozen BK118.out 1) | ((with_reducible refine gate_callee (f := 32) rfl ?_); refine goesL_ (some 12) rfl rfl Tryd.func32 (by kernel_rfl) rfl #[.agg #[.int .i64 a0_0], .agg #[.int .i64 a1_0, .int .i64 a1_1]] rfl (by (try simp only [List.map_toArray, List.map_cons, List.map_nil]); first | done | rfl | (simp only [List.length_drop, List.length_take]; rfl)) ?_; (with_reducible refine (fiscal_exists.calls k a0_0 a1_0 a1_1 true _ ?side1 A5.out).mono ?_); (case side1 => first | exact Laid.below HLd.out (by repeat (first | (with_reducible first | exact HB.out | apply below_alloc | apply pw_below_drewN | apply below_drew1 | refine below_set ?_ GE117.out | refine below_set ?_ GE118.out) | exact HB.out)) | (repeat (first | exact HLd.out | apply Laid.drewN | apply Laid.drew))); rintro e w16 ⟨rfl, hb⟩; refine ⟨_, rfl, ?_⟩; have n0_ := Aside0.mk (blk_below (g := gb117) (o := .cells #[.int .i64 a0_0] 23 (0, 0)) (by (with_reducible repeat (first | refine blk_drewN ?_ _ | refine blk_drew ?_ | refine blk_alloc ?_ _)); exact BK117.out) hb); have n1_ := Aside0.mk (blk_below (g := gb118) (o := .cells #[.int .i64 a1_0, .int .i64 a1_1] 25 (0, 0)) (by (with_reducible repeat (first | refine blk_drewN ?_ _ | refine blk_drew ?_ | refine blk_alloc ?_ _)); exact BK118.out) hb); have n2_ := Aside0.mk (below_step (by repeat (first | (with_reducible first | exact HB.out | apply below_alloc | apply pw_below_drewN | apply below_drew1 | refine below_set ?_ GE117.out | refine below_set ?_ GE118.out) | exact HB.out)) hb); clear BK117; clear BK118; clear HB; have BK117 := n0_; have BK118 := n1_; have HB := n2_; clear n0_ n1_ n2_; (try clear hb); (try clear hb2); (try clear hk); (try clear hi); have hcz17_0 : w16.cell? ⟨gb118, 0, none⟩ = some (.int .i64 a1_0) := (blk_cell BK118.out 0).trans rfl; have hcz17_1 : w16.cell? ⟨gb118, 1, none⟩ = some (.int .i64 a1_1) := (blk_cell BK118.out 1).trans rfl; have hfz17_0 := blk_frozen BK118.out 0; have hfz17_1 := blk_frozen BK118.out 1; have hcz18_0 : w16.cell? ⟨gb117, 0, none⟩ = some (.int .i64 a0_0) := (blk_cell BK117.out 0).trans rfl; have hfz18_0 := blk_frozen BK117.out 0) | ((with_reducible refine gate_callee (f := 33) rfl ?_); refine goesL_ (some 21) rfl rfl Tryd.func33 (by kernel_rfl) rfl #[.agg #[.int .i64 a0_0], .int .i64 a1_0] rfl (by (try simp only [List.map_toArray, List.map_cons, List.map_nil]); first | done | rfl | (simp only [List.length_drop, List.length_take]; rfl)) ?_; (with_reducible refine (fiscal_ends.calls k a0_0 a1_0 t121 t122 t123 _ ?side1 A8.out).mono ?_); (case side1 => first | exact Laid.below HLd.out (by repeat (first | (with_reducible first | exact HB.out | apply below_alloc | apply pw_below_drewN | apply below_drew1 | refine below_set ?_ GE117.out | refine below_set ?_ GE118.out) | exact HB.out)) | (repeat (first | exact HLd.out | apply Laid.drewN | apply Laid.drew))); rintro e w19 ⟨rfl, hb⟩; refine ⟨_, rfl, ?_⟩; have n0_ := Aside0.mk (blk_below (g := gb117) (o := .cells #[.int .i64 a0_0] 23 (0, 0)) (by (with_reducible repeat (first | refine blk_drewN ?_ _ | refine blk_drew ?_ | refine blk_alloc ?_ _)); exact BK117.out) hb); have n1_ := Aside0.mk (blk_below (g := gb118) (o := .cells #[.int .i64 a1_0, .int .i64 a1_1] 25 (0, 0)) (by (with_reducible repeat (first | refine blk_drewN ?_ _ | refine blk_drew ?_ | refine blk_alloc ?_ _)); exact BK118.out) hb); have n2_ := Aside0.mk (below_step (by repeat (first | (with_reducible first | exact HB.out | apply below_alloc | apply pw_below_drewN | apply below_drew1 | refine below_set ?_ GE117.out | refine below_set ?_ GE118.out) | exact HB.out)) hb); clear BK117; clear BK118; clear HB; have BK117 := n0_; have BK118 := n1_; have HB := n2_; clear n0_ n1_ n2_; (try clear hb); (try clear hb2); (try clear hk); (try clear hi)))
        go_ret3
        exact ⟨by first | rfl | (simp [errW_none, errW_some] <;> rfl) | (simp [*, errW_none, errW_some] <;> rfl), by repeat (first | (with_reducible first | exact HB.out | apply below_alloc | apply pw_below_drewN | apply below_drew1 | refine below_set ?_ GE117.out | refine below_set ?_ GE118.out) | exact HB.out)⟩
      · rw [if_neg c7] at H
        have c7b0 : (a1_1 == 13) = false := beq_eq_false_iff_ne.mpr c7
        have c7b1 : (a1_1 != 13) = true := bne_iff_ne.mpr c7
        replace H := Option.bind_eq_some_iff.mp H
        obtain ⟨⟨t124, t125⟩, A200, H⟩ := H
        replace H : ((days_MonthEnd.f t124).bind fun bt126 => (some (t124, bt126.1, 0))) = some (r1, r2, r3) := H
        have A20 := Aside0.mk A200
        clear A200
        replace H := Option.bind_eq_some_iff.mp H
        obtain ⟨⟨t126, t127⟩, A210, H⟩ := H
        replace H : (some (t124, t126, 0)) = some (r1, r2, r3) := H
        have A21 := Aside0.mk A210
        clear A210
        simp only [Option.some.injEq, Prod.mk.injEq] at H
        obtain ⟨rfl, rfl, rfl⟩ := H
        go_enter Tryd.func11, Tryd.ntmps11
        go_wp2_with (first | ((with_reducible refine gate_dst (N := 2) rfl ?_); refine box_event ?hg (N := 2) ?hd (cs := #[.int .i64 a0_0]) (t := 23) ?hr ?_; (case hd => rfl); (case hg => rfl); (case hr => first | (go_simp; done) | (go_simp; rfl)); intro gb117 hg w22 hbox hb; have n0_ := Aside0.mk (below_step (by repeat (first | (with_reducible first | exact HB.out | apply below_alloc | apply pw_below_drewN | apply below_drew1) | exact HB.out)) hb); have n1_ := Aside0.mk (hbox); have n2_ := Aside0.mk ((by rw [hg]; exact (below_size (by repeat (first | (with_reducible first | exact HB.out | apply below_alloc | apply pw_below_drewN | apply below_drew1) | exact HB.out))) : w.heap.size ≤ gb117)); have n3_ := Aside0.mk ((by rw [hg]; exact (below_size (by repeat (first | (with_reducible first | exact HB.out | apply below_alloc | apply pw_below_drewN | apply below_drew1) | exact HB.out))) : w.heap.size ≤ gb117)); clear HB; have HB := n0_; have BK117 := n1_; have GW117 := n2_; have GE117 := n3_; clear n0_ n1_ n2_ n3_; clear hb hbox hg) | ((with_reducible refine gate_dst (N := 3) rfl ?_); refine box_event ?hg (N := 3) ?hd (cs := #[.int .i64 a1_0, .int .i64 a1_1]) (t := 25) ?hr ?_; (case hd => rfl); (case hg => rfl); (case hr => first | (go_simp; done) | (go_simp; rfl)); intro gb118 hg w23 hbox hb; have n0_ := Aside0.mk (blk_below (g := gb117) (o := .cells #[.int .i64 a0_0] 23 (0, 0)) (by (with_reducible repeat (first | refine blk_drewN ?_ _ | refine blk_drew ?_ | refine blk_alloc ?_ _)); exact BK117.out) hb); have n1_ := Aside0.mk (below_step (by repeat (first | (with_reducible first | exact HB.out | apply below_alloc | apply pw_below_drewN | apply below_drew1 | refine below_set ?_ GE117.out) | exact HB.out)) hb); have n2_ := Aside0.mk (hbox); have n3_ := Aside0.mk ((by rw [hg]; exact (below_size (by repeat (first | (with_reducible first | exact HB.out | apply below_alloc | apply pw_below_drewN | apply below_drew1 | refine below_set ?_ GE117.out) | exact HB.out))) : w.heap.size ≤ gb118)); have n4_ := Aside0.mk ((by rw [hg]; exact (below_size (by repeat (first | (with_reducible first | exact HB.out | apply below_alloc | apply pw_below_drewN | apply below_drew1 | refine below_set ?_ GE117.out) | exact HB.out))) : w.heap.size ≤ gb118)); have n5_ := Aside0.mk ((by rw [hg]; exact Nat.ne_of_lt (blk_lt (g := gb117) (o := .cells #[.int .i64 a0_0] 23 (0, 0)) (by (with_reducible repeat (first | refine blk_drewN ?_ _ | refine blk_drew ?_ | refine blk_alloc ?_ _)); exact BK117.out)) : gb117 ≠ gb118)); have n6_ := Aside0.mk ((by rw [hg]; exact Nat.ne_of_gt (blk_lt (g := gb117) (o := .cells #[.int .i64 a0_0] 23 (0, 0)) (by (with_reducible repeat (first | refine blk_drewN ?_ _ | refine blk_drew ?_ | refine blk_alloc ?_ _)); exact BK117.out)) : gb118 ≠ gb117)); clear BK117; clear HB; have BK117 := n0_; have HB := n1_; have BK118 := n2_; have GW118 := n3_; have GE118 := n4_; have NB117_118 := n5_; have NB118_117 := n6_; clear n0_ n1_ n2_ n3_ n4_ n5_ n6_; clear hb hbox hg; have hnb24 := NB117_118.out; have hnc24 := NB118_117.out; have hcz25_0 : w23.cell? ⟨gb117, 0, none⟩ = some (.int .i64 a0_0) := (blk_cell BK117.out 0).trans rfl; have hfz25_0 := blk_frozen BK117.out 0) | ((with_reducible refine gate_callee (f := 13) rfl ?_); refine goesL_ (some 8) rfl rfl Tryd.func13 (by kernel_rfl) rfl #[.agg #[.int .i64 a0_0]] rfl (by (try simp only [List.map_toArray, List.map_cons, List.map_nil]); first | done | rfl | (simp only [List.length_drop, List.length_take]; rfl)) ?_; (with_reducible refine (fiscal_Right.calls a0_0 true _ A3.out).mono ?_); rintro e w26 ⟨rfl, hb⟩; refine ⟨_, rfl, ?_⟩; have n0_ := Aside0.mk (blk_below (g := gb117) (o := .cells #[.int .i64 a0_0] 23 (0, 0)) (by (with_reducible repeat (first | refine blk_drewN ?_ _ | refine blk_drew ?_ | refine blk_alloc ?_ _)); exact BK117.out) hb); have n1_ := Aside0.mk (blk_below (g := gb118) (o := .cells #[.int .i64 a1_0, .int .i64 a1_1] 25 (0, 0)) (by (with_reducible repeat (first | refine blk_drewN ?_ _ | refine blk_drew ?_ | refine blk_alloc ?_ _)); exact BK118.out) hb); have n2_ := Aside0.mk (below_step (by repeat (first | (with_reducible first | exact HB.out | apply below_alloc | apply pw_below_drewN | apply below_drew1 | refine below_set ?_ GE117.out | refine below_set ?_ GE118.out) | exact HB.out)) hb); clear BK117; clear BK118; clear HB; have BK117 := n0_; have BK118 := n1_; have HB := n2_; clear n0_ n1_ n2_; (try clear hb); (try clear hb2); (try clear hk); (try clear hi); have hcz27_0 : w26.cell? ⟨gb117, 0, none⟩ = some (.int .i64 a0_0) := (blk_cell BK117.out 0).trans rfl; have hfz27_0 := blk_frozen BK117.out 0; have hcz28_0 : w26.cell? ⟨gb118, 0, none⟩ = some (.int .i64 a1_0) := (blk_cell BK118.out 0).trans rfl; have hcz28_1 : w26.cell? ⟨gb118, 1, none⟩ = some (.int .i64 a1_1) := (blk_cell BK118.out 1).trans rfl; have hfz28_0 := blk_frozen BK118.out 0; have hfz28_1 := blk_frozen BK118.out 1) | ((with_reducible refine gate_callee (f := 32) rfl ?_); refine goesL_ (some 12) rfl rfl Tryd.func32 (by kernel_rfl) rfl #[.agg #[.int .i64 a0_0], .agg #[.int .i64 a1_0, .int .i64 a1_1]] rfl (by (try simp only [List.map_toArray, List.map_cons, List.map_nil]); first | done | rfl | (simp only [List.length_drop, List.length_take]; rfl)) ?_; (with_reducible refine (fiscal_exists.calls k a0_0 a1_0 a1_1 true _ ?side1 A5.out).mono ?_); (case side1 => first | exact Laid.below HLd.out (by repeat (first | (with_reducible first | exact HB.out | apply below_alloc | apply pw_below_drewN | apply below_drew1 | refine below_set ?_ GE117.out | refine below_set ?_ GE118.out) | exact HB.out)) | (repeat (first | exact HLd.out | apply Laid.drewN | apply Laid.drew))); rintro e w29 ⟨rfl, hb⟩; refine ⟨_, rfl, ?_⟩; have n0_ := Aside0.mk (blk_below (g := gb117) (o := .cells #[.int .i64 a0_0] 23 (0, 0)) (by (with_reducible repeat (first | refine blk_drewN ?_ _ | refine blk_drew ?_ | refine blk_alloc ?_ _)); exact BK117.out) hb); have n1_ := Aside0.mk (blk_below (g := gb118) (o := .cells #[.int .i64 a1_0, .int .i64 a1_1] 25 (0, 0)) (by (with_reducible repeat (first | refine blk_drewN ?_ _ | refine blk_drew ?_ | refine blk_alloc ?_ _)); exact BK118.out) hb); have n2_ := Aside0.mk (below_step (by repeat (first | (with_reducible first | exact HB.out | apply below_alloc | apply pw_below_drewN | apply below_drew1 | refine below_set ?_ GE117.out | refine below_set ?_ GE118.out) | exact HB.out)) hb); clear BK117; clear BK118; clear HB; have BK117 := n0_; have BK118 := n1_; have HB := n2_; clear n0_ n1_ n2_; (try clear hb); (try clear hb2); (try clear hk); (try clear hi); have hcz30_0 : w29.cell? ⟨gb118, 0, none⟩ = some (.int .i64 a1_0) := (blk_cell BK118.out 0).trans rfl; have hcz30_1 : w29.cell? ⟨gb118, 1, none⟩ = some (.int .i64 a1_1) := (blk_cell BK118.out 1).trans rfl; have hfz30_0 := blk_frozen BK118.out 0; have hfz30_1 := blk_frozen BK118.out 1; have hcz31_0 : w29.cell? ⟨gb117, 0, none⟩ = some (.int .i64 a0_0) := (blk_cell BK117.out 0).trans rfl; have hfz31_0 := blk_frozen BK117.out 0) | ((with_reducible refine gate_callee (f := 34) rfl ?_); refine goesL_ (some 34) rfl rfl Tryd.func34 (by kernel_rfl) rfl #[.agg #[.int .i64 a0_0], .int .i64 a1_0, .int .i64 (wrap64 (a1_1 - 1))] rfl (by (try simp only [List.map_toArray, List.map_cons, List.map_nil]); first | done | rfl | (simp only [List.length_drop, List.length_take]; rfl)) ?_; (with_reducible refine (fiscal_begin.calls a0_0 a1_0 (wrap64 (a1_1 - 1)) t124 t125 _ ?side1 A20.out).mono ?_); (case side1 => first | exact Laid.below HLd.out (by repeat (first | (with_reducible first | exact HB.out | apply below_alloc | apply pw_below_drewN | apply below_drew1 | refine below_set ?_ GE117.out | refine below_set ?_ GE118.out) | exact HB.out)) | (repeat (first | exact HLd.out | apply Laid.drewN | apply Laid.drew))); rintro e w32 ⟨rfl, hb⟩; refine ⟨_, rfl, ?_⟩; have n0_ := Aside0.mk (blk_below (g := gb117) (o := .cells #[.int .i64 a0_0] 23 (0, 0)) (by (with_reducible repeat (first | refine blk_drewN ?_ _ | refine blk_drew ?_ | refine blk_alloc ?_ _)); exact BK117.out) hb); have n1_ := Aside0.mk (blk_below (g := gb118) (o := .cells #[.int .i64 a1_0, .int .i64 a1_1] 25 (0, 0)) (by (with_reducible repeat (first | refine blk_drewN ?_ _ | refine blk_drew ?_ | refine blk_alloc ?_ _)); exact BK118.out) hb); have n2_ := Aside0.mk (below_step (by repeat (first | (with_reducible first | exact HB.out | apply below_alloc | apply pw_below_drewN | apply below_drew1 | refine below_set ?_ GE117.out | refine below_set ?_ GE118.out) | exact HB.out)) hb); clear BK117; clear BK118; clear HB; have BK117 := n0_; have BK118 := n1_; have HB := n2_; clear n0_ n1_ n2_; (try clear hb); (try clear hb2); (try clear hk); (try clear hi)) | ((with_reducible refine gate_callee (f := 35) rfl ?_); refine goesL_ (some 39) rfl rfl Tryd.func35 (by kernel_rfl) rfl #[.int .i64 t124] rfl (by (try simp only [List.map_toArray, List.map_cons, List.map_nil]); first | done | rfl | (simp only [List.length_drop, List.length_take]; rfl)) ?_; (with_reducible refine (days_MonthEnd.calls t124 t126 t127 _ ?side1 A21.out).mono ?_); (case side1 => first | exact Laid.below HLd.out (by repeat (first | (with_reducible first | exact HB.out | apply below_alloc | apply pw_below_drewN | apply below_drew1 | refine below_set ?_ GE117.out | refine below_set ?_ GE118.out) | exact HB.out)) | (repeat (first | exact HLd.out | apply Laid.drewN | apply Laid.drew))); rintro e w33 ⟨rfl, hb⟩; refine ⟨_, rfl, ?_⟩; have n0_ := Aside0.mk (blk_below (g := gb117) (o := .cells #[.int .i64 a0_0] 23 (0, 0)) (by (with_reducible repeat (first | refine blk_drewN ?_ _ | refine blk_drew ?_ | refine blk_alloc ?_ _)); exact BK117.out) hb); have n1_ := Aside0.mk (blk_below (g := gb118) (o := .cells #[.int .i64 a1_0, .int .i64 a1_1] 25 (0, 0)) (by (with_reducible repeat (first | refine blk_drewN ?_ _ | refine blk_drew ?_ | refine blk_alloc ?_ _)); exact BK118.out) hb); have n2_ := Aside0.mk (below_step (by repeat (first | (with_reducible first | exact HB.out | apply below_alloc | apply pw_below_drewN | apply below_drew1 | refine below_set ?_ GE117.out | refine below_set ?_ GE118.out) | exact HB.out)) hb); clear BK117; clear BK118; clear HB; have BK117 := n0_; have BK118 := n1_; have HB := n2_; clear n0_ n1_ n2_; (try clear hb); (try clear hb2); (try clear hk); (try clear hi)))
        go_ret3
        exact ⟨by first | rfl | (simp [errW_none, errW_some] <;> rfl) | (simp [*, errW_none, errW_some] <;> rfl), by repeat (first | (with_reducible first | exact HB.out | apply below_alloc | apply pw_below_drewN | apply below_drew1 | refine below_set ?_ GE117.out | refine below_set ?_ GE118.out) | exact HB.out)⟩
    · replace c6 := Bool.eq_false_iff.mpr c6
      subst c6
      have H1 : (some (0, 0, 16)) = some (r1, r2, r3) := by rw [if_neg (show ¬ (false = true) by decide)] at H; exact H
      clear H
      have H := H1
      clear H1
      simp only [Option.some.injEq, Prod.mk.injEq] at H
      obtain ⟨rfl, rfl, rfl⟩ := H
      go_enter Tryd.func11, Tryd.ntmps11
      go_wp2_with (first | ((with_reducible refine gate_dst (N := 2) rfl ?_); refine box_event ?hg (N := 2) ?hd (cs := #[.int .i64 a0_0]) (t := 23) ?hr ?_; (case hd => rfl); (case hg => rfl); (case hr => first | (go_simp; done) | (go_simp; rfl)); intro gb117 hg w34 hbox hb; have n0_ := Aside0.mk (below_step (by repeat (first | (with_reducible first | exact HB.out | apply below_alloc | apply pw_below_drewN | apply below_drew1) | exact HB.out)) hb); have n1_ := Aside0.mk (hbox); have n2_ := Aside0.mk ((by rw [hg]; exact (below_size (by repeat (first | (with_reducible first | exact HB.out | apply below_alloc | apply pw_below_drewN | apply below_drew1) | exact HB.out))) : w.heap.size ≤ gb117)); have n3_ := Aside0.mk ((by rw [hg]; exact (below_size (by repeat (first | (with_reducible first | exact HB.out | apply below_alloc | apply pw_below_drewN | apply below_drew1) | exact HB.out))) : w.heap.size ≤ gb117)); clear HB; have HB := n0_; have BK117 := n1_; have GW117 := n2_; have GE117 := n3_; clear n0_ n1_ n2_ n3_; clear hb hbox hg) | ((with_reducible refine gate_dst (N := 3) rfl ?_); refine box_event ?hg (N := 3) ?hd (cs := #[.int .i64 a1_0, .int .i64 a1_1]) (t := 25) ?hr ?_; (case hd => rfl); (case hg => rfl); (case hr => first | (go_simp; done) | (go_simp; rfl)); intro gb118 hg w35 hbox hb; have n0_ := Aside0.mk (blk_below (g := gb117) (o := .cells #[.int .i64 a0_0] 23 (0, 0)) (by (with_reducible repeat (first | refine blk_drewN ?_ _ | refine blk_drew ?_ | refine blk_alloc ?_ _)); exact BK117.out) hb); have n1_ := Aside0.mk (below_step (by repeat (first | (with_reducible first | exact HB.out | apply below_alloc | apply pw_below_drewN | apply below_drew1 | refine below_set ?_ GE117.out) | exact HB.out)) hb); have n2_ := Aside0.mk (hbox); have n3_ := Aside0.mk ((by rw [hg]; exact (below_size (by repeat (first | (with_reducible first | exact HB.out | apply below_alloc | apply pw_below_drewN | apply below_drew1 | refine below_set ?_ GE117.out) | exact HB.out))) : w.heap.size ≤ gb118)); have n4_ := Aside0.mk ((by rw [hg]; exact (below_size (by repeat (first | (with_reducible first | exact HB.out | apply below_alloc | apply pw_below_drewN | apply below_drew1 | refine below_set ?_ GE117.out) | exact HB.out))) : w.heap.size ≤ gb118)); have n5_ := Aside0.mk ((by rw [hg]; exact Nat.ne_of_lt (blk_lt (g := gb117) (o := .cells #[.int .i64 a0_0] 23 (0, 0)) (by (with_reducible repeat (first | refine blk_drewN ?_ _ | refine blk_drew ?_ | refine blk_alloc ?_ _)); exact BK117.out)) : gb117 ≠ gb118)); have n6_ := Aside0.mk ((by rw [hg]; exact Nat.ne_of_gt (blk_lt (g := gb117) (o := .cells #[.int .i64 a0_0] 23 (0, 0)) (by (with_reducible repeat (first | refine blk_drewN ?_ _ | refine blk_drew ?_ | refine blk_alloc ?_ _)); exact BK117.out)) : gb118 ≠ gb117)); clear BK117; clear HB; have BK117 := n0_; have HB := n1_; have BK118 := n2_; have GW118 := n3_; have GE118 := n4_; have NB117_118 := n5_; have NB118_117 := n6_; clear n0_ n1_ n2_ n3_ n4_ n5_ n6_; clear hb hbox hg; have hnb36 := NB117_118.out; have hnc36 := NB118_117.out; have hcz37_0 : w35.cell? ⟨gb117, 0, none⟩ = some (.int .i64 a0_0) := (blk_cell BK117.out 0).trans rfl; have hfz37_0 := blk_frozen BK117.out 0) | ((with_reducible refine gate_callee (f := 13) rfl ?_); refine goesL_ (some 8) rfl rfl Tryd.func13 (by kernel_rfl) rfl #[.agg #[.int .i64 a0_0]] rfl (by (try simp only [List.map_toArray, List.map_cons, List.map_nil]); first | done | rfl | (simp only [List.length_drop, List.length_take]; rfl)) ?_; (with_reducible refine (fiscal_Right.calls a0_0 true _ A3.out).mono ?_); rintro e w38 ⟨rfl, hb⟩; refine ⟨_, rfl, ?_⟩; have n0_ := Aside0.mk (blk_below (g := gb117) (o := .cells #[.int .i64 a0_0] 23 (0, 0)) (by (with_reducible repeat (first | refine blk_drewN ?_ _ | refine blk_drew ?_ | refine blk_alloc ?_ _)); exact BK117.out) hb); have n1_ := Aside0.mk (blk_below (g := gb118) (o := .cells #[.int .i64 a1_0, .int .i64 a1_1] 25 (0, 0)) (by (with_reducible repeat (first | refine blk_drewN ?_ _ | refine blk_drew ?_ | refine blk_alloc ?_ _)); exact BK118.out) hb); have n2_ := Aside0.mk (below_step (by repeat (first | (with_reducible first | exact HB.out | apply below_alloc | apply pw_below_drewN | apply below_drew1 | refine below_set ?_ GE117.out | refine below_set ?_ GE118.out) | exact HB.out)) hb); clear BK117; clear BK118; clear HB; have BK117 := n0_; have BK118 := n1_; have HB := n2_; clear n0_ n1_ n2_; (try clear hb); (try clear hb2); (try clear hk); (try clear hi); have hcz39_0 : w38.cell? ⟨gb117, 0, none⟩ = some (.int .i64 a0_0) := (blk_cell BK117.out 0).trans rfl; have hfz39_0 := blk_frozen BK117.out 0; have hcz40_0 : w38.cell? ⟨gb118, 0, none⟩ = some (.int .i64 a1_0) := (blk_cell BK118.out 0).trans rfl; have hcz40_1 : w38.cell? ⟨gb118, 1, none⟩ = some (.int .i64 a1_1) := (blk_cell BK118.out 1).trans rfl; have hfz40_0 := blk_frozen BK118.out 0; have hfz40_1 := blk_frozen BK118.out 1) | ((with_reducible refine gate_callee (f := 32) rfl ?_); refine goesL_ (some 12) rfl rfl Tryd.func32 (by kernel_rfl) rfl #[.agg #[.int .i64 a0_0], .agg #[.int .i64 a1_0, .int .i64 a1_1]] rfl (by (try simp only [List.map_toArray, List.map_cons, List.map_nil]); first | done | rfl | (simp only [List.length_drop, List.length_take]; rfl)) ?_; (with_reducible refine (fiscal_exists.calls k a0_0 a1_0 a1_1 false _ ?side1 A5.out).mono ?_); (case side1 => first | exact Laid.below HLd.out (by repeat (first | (with_reducible first | exact HB.out | apply below_alloc | apply pw_below_drewN | apply below_drew1 | refine below_set ?_ GE117.out | refine below_set ?_ GE118.out) | exact HB.out)) | (repeat (first | exact HLd.out | apply Laid.drewN | apply Laid.drew))); rintro e w41 ⟨rfl, hb⟩; refine ⟨_, rfl, ?_⟩; have n0_ := Aside0.mk (blk_below (g := gb117) (o := .cells #[.int .i64 a0_0] 23 (0, 0)) (by (with_reducible repeat (first | refine blk_drewN ?_ _ | refine blk_drew ?_ | refine blk_alloc ?_ _)); exact BK117.out) hb); have n1_ := Aside0.mk (blk_below (g := gb118) (o := .cells #[.int .i64 a1_0, .int .i64 a1_1] 25 (0, 0)) (by (with_reducible repeat (first | refine blk_drewN ?_ _ | refine blk_drew ?_ | refine blk_alloc ?_ _)); exact BK118.out) hb); have n2_ := Aside0.mk (below_step (by repeat (first | (with_reducible first | exact HB.out | apply below_alloc | apply pw_below_drewN | apply below_drew1 | refine below_set ?_ GE117.out | refine below_set ?_ GE118.out) | exact HB.out)) hb); clear BK117; clear BK118; clear HB; have BK117 := n0_; have BK118 := n1_; have HB := n2_; clear n0_ n1_ n2_; (try clear hb); (try clear hb2); (try clear hk); (try clear hi)))
      go_ret3
      exact ⟨by first | rfl | (simp [errW_none, errW_some] <;> rfl) | (simp [*, errW_none, errW_some] <;> rfl), by repeat (first | (with_reducible first | exact HB.out | apply below_alloc | apply pw_below_drewN | apply below_drew1 | refine below_set ?_ GE117.out | refine below_set ?_ GE118.out) | exact HB.out)⟩
  · replace c4 := Bool.eq_false_iff.mpr c4
    subst c4
    have H1 : (some (0, 0, 2)) = some (r1, r2, r3) := by rw [if_neg (show ¬ (false = true) by decide)] at H; exact H
    clear H
    have H := H1
    clear H1
    simp only [Option.some.injEq, Prod.mk.injEq] at H
    obtain ⟨rfl, rfl, rfl⟩ := H
    go_enter Tryd.func11, Tryd.ntmps11
    go_wp2_with (first | ((with_reducible refine gate_dst (N := 2) rfl ?_); refine box_event ?hg (N := 2) ?hd (cs := #[.int .i64 a0_0]) (t := 23) ?hr ?_; (case hd => rfl); (case hg => rfl); (case hr => first | (go_simp; done) | (go_simp; rfl)); intro gb117 hg w42 hbox hb; have n0_ := Aside0.mk (below_step (by repeat (first | (with_reducible first | exact HB.out | apply below_alloc | apply pw_below_drewN | apply below_drew1) | exact HB.out)) hb); have n1_ := Aside0.mk (hbox); have n2_ := Aside0.mk ((by rw [hg]; exact (below_size (by repeat (first | (with_reducible first | exact HB.out | apply below_alloc | apply pw_below_drewN | apply below_drew1) | exact HB.out))) : w.heap.size ≤ gb117)); have n3_ := Aside0.mk ((by rw [hg]; exact (below_size (by repeat (first | (with_reducible first | exact HB.out | apply below_alloc | apply pw_below_drewN | apply below_drew1) | exact HB.out))) : w.heap.size ≤ gb117)); clear HB; have HB := n0_; have BK117 := n1_; have GW117 := n2_; have GE117 := n3_; clear n0_ n1_ n2_ n3_; clear hb hbox hg) | ((with_reducible refine gate_dst (N := 3) rfl ?_); refine box_event ?hg (N := 3) ?hd (cs := #[.int .i64 a1_0, .int .i64 a1_1]) (t := 25) ?hr ?_; (case hd => rfl); (case hg => rfl); (case hr => first | (go_simp; done) | (go_simp; rfl)); intro gb118 hg w43 hbox hb; have n0_ := Aside0.mk (blk_below (g := gb117) (o := .cells #[.int .i64 a0_0] 23 (0, 0)) (by (with_reducible repeat (first | refine blk_drewN ?_ _ | refine blk_drew ?_ | refine blk_alloc ?_ _)); exact BK117.out) hb); have n1_ := Aside0.mk (below_step (by repeat (first | (with_reducible first | exact HB.out | apply below_alloc | apply pw_below_drewN | apply below_drew1 | refine below_set ?_ GE117.out) | exact HB.out)) hb); have n2_ := Aside0.mk (hbox); have n3_ := Aside0.mk ((by rw [hg]; exact (below_size (by repeat (first | (with_reducible first | exact HB.out | apply below_alloc | apply pw_below_drewN | apply below_drew1 | refine below_set ?_ GE117.out) | exact HB.out))) : w.heap.size ≤ gb118)); have n4_ := Aside0.mk ((by rw [hg]; exact (below_size (by repeat (first | (with_reducible first | exact HB.out | apply below_alloc | apply pw_below_drewN | apply below_drew1 | refine below_set ?_ GE117.out) | exact HB.out))) : w.heap.size ≤ gb118)); have n5_ := Aside0.mk ((by rw [hg]; exact Nat.ne_of_lt (blk_lt (g := gb117) (o := .cells #[.int .i64 a0_0] 23 (0, 0)) (by (with_reducible repeat (first | refine blk_drewN ?_ _ | refine blk_drew ?_ | refine blk_alloc ?_ _)); exact BK117.out)) : gb117 ≠ gb118)); have n6_ := Aside0.mk ((by rw [hg]; exact Nat.ne_of_gt (blk_lt (g := gb117) (o := .cells #[.int .i64 a0_0] 23 (0, 0)) (by (with_reducible repeat (first | refine blk_drewN ?_ _ | refine blk_drew ?_ | refine blk_alloc ?_ _)); exact BK117.out)) : gb118 ≠ gb117)); clear BK117; clear HB; have BK117 := n0_; have HB := n1_; have BK118 := n2_; have GW118 := n3_; have GE118 := n4_; have NB117_118 := n5_; have NB118_117 := n6_; clear n0_ n1_ n2_ n3_ n4_ n5_ n6_; clear hb hbox hg; have hnb44 := NB117_118.out; have hnc44 := NB118_117.out; have hcz45_0 : w43.cell? ⟨gb117, 0, none⟩ = some (.int .i64 a0_0) := (blk_cell BK117.out 0).trans rfl; have hfz45_0 := blk_frozen BK117.out 0) | ((with_reducible refine gate_callee (f := 13) rfl ?_); refine goesL_ (some 8) rfl rfl Tryd.func13 (by kernel_rfl) rfl #[.agg #[.int .i64 a0_0]] rfl (by (try simp only [List.map_toArray, List.map_cons, List.map_nil]); first | done | rfl | (simp only [List.length_drop, List.length_take]; rfl)) ?_; (with_reducible refine (fiscal_Right.calls a0_0 false _ A3.out).mono ?_); rintro e w46 ⟨rfl, hb⟩; refine ⟨_, rfl, ?_⟩; have n0_ := Aside0.mk (blk_below (g := gb117) (o := .cells #[.int .i64 a0_0] 23 (0, 0)) (by (with_reducible repeat (first | refine blk_drewN ?_ _ | refine blk_drew ?_ | refine blk_alloc ?_ _)); exact BK117.out) hb); have n1_ := Aside0.mk (blk_below (g := gb118) (o := .cells #[.int .i64 a1_0, .int .i64 a1_1] 25 (0, 0)) (by (with_reducible repeat (first | refine blk_drewN ?_ _ | refine blk_drew ?_ | refine blk_alloc ?_ _)); exact BK118.out) hb); have n2_ := Aside0.mk (below_step (by repeat (first | (with_reducible first | exact HB.out | apply below_alloc | apply pw_below_drewN | apply below_drew1 | refine below_set ?_ GE117.out | refine below_set ?_ GE118.out) | exact HB.out)) hb); clear BK117; clear BK118; clear HB; have BK117 := n0_; have BK118 := n1_; have HB := n2_; clear n0_ n1_ n2_; (try clear hb); (try clear hb2); (try clear hk); (try clear hi)))
    go_ret3
    exact ⟨by first | rfl | (simp [errW_none, errW_some] <;> rfl) | (simp [*, errW_none, errW_some] <;> rfl), by repeat (first | (with_reducible first | exact HB.out | apply below_alloc | apply pw_below_drewN | apply below_drew1 | refine below_set ?_ GE117.out | refine below_set ?_ GE118.out) | exact HB.out)⟩

/-! ### fiscal_Of: function 16 (by hand) -/
def fiscal_Of.f (k : Nat) (c day : Int) : Option (Int × Int × Int) := (fiscal_Right.f c).bind fun b => if b = true then ((days_Date.f day).bind fun d => if d.2.2.2 = 0 then
    (if wrap64 (wrap64 (d.2.1 - c) + 1) < 1 then ((fiscal_exists.f k c (wrap64 (d.1 - 1)) (wrap64 (wrap64 (wrap64 (d.2.1 - c) + 1) + 12))).bind fun b => if b = true then some (wrap64 (d.1 - 1), wrap64 (wrap64 (wrap64 (d.2.1 - c) + 1) + 12), 0) else some (0, 0, 16))
    else ((fiscal_exists.f k c d.1 (wrap64 (wrap64 (d.2.1 - c) + 1))).bind fun b => if b = true then some (d.1, wrap64 (wrap64 (d.2.1 - c) + 1), 0) else some (0, 0, 16)))
    else some (0, 0, d.2.2.2)) else some (0, 0, 2)
theorem fiscal_Of.mono : ∀ a0 a1 k, LeO (fiscal_Of.f k a0 a1) (fiscal_Of.f (k + 1) a0 a1) := by
  intro a0 a1 k
  unfold fiscal_Of.f
  repeat' first
      | (with_reducible exact fiscal_exists.mono _ _ _ _)
      | (with_reducible exact LeO.refl _)
      | (with_reducible exact LeO.none _)
      | (with_reducible refine LeO.ite ?_ ?_)
      | (with_reducible refine LeO.bind ?_ (fun _ => ?_))
set_option maxHeartbeats 8000000 in
set_option maxRecDepth 100000 in
theorem fiscal_Of.calls (k : Nat) (c day r1 r2 r3 : Int) (w : World) (hLd : Laid w) (h : fiscal_Of.f k c day = some (r1, r2, r3)) :
    Calls Tryd.prog 16 #[.agg #[.int .i64 c], .int .i64 day] w fun e w' => e = .returned (.tuple #[.agg #[.int .i64 r1, .int .i64 r2], .int .i64 r3]) ∧ Below w.heap.size w w' := by
  have HL := Aside0.mk hLd
  clear hLd
  unfold fiscal_Of.f at h
  have hsz : ∀ o1 o2 : Obj, ((w.alloc o1).alloc o2).heap[w.heap.size + 1]? = some o2 := fun o1 o2 => by
    have := heap_alloc_new (w.alloc o1) o2
    simpa using this
  have HZ := Aside0.mk hsz
  clear hsz
  have HY : Aside0 (∀ o1 o2 : Obj, ((w.alloc o1).alloc o2).heap[w.heap.size]? = some o1) := ⟨fun o1 o2 => (Below.heap_alloc (w.alloc o1) o2 _ (by simp)).trans (heap_alloc_new w o1)⟩
  have LE : Aside0 (w.heap.size ≤ w.heap.size + 1) := ⟨by omega⟩
  obtain ⟨b, A, h⟩ := Option.bind_eq_some_iff.mp h
  have AR := Aside0.mk A
  clear A
  cases b
  · obtain ⟨rfl, rfl, rfl⟩ := Fi.fparse_bad_ (show (some (0, 0, 2) : Option (Int × Int × Int)) = some (r1, r2, r3) from h)
    clear h
    go_enter Tryd.func16, Tryd.ntmps16
    go_wp2_with (go_at_call 13; (with_reducible refine (fiscal_Right.calls c false _ AR.out).mono ?_); rintro e w' ⟨rfl, hb⟩; have m0 := blk_below (HZ.out _ _) hb; have z0 := blk_frozen m0 0; have z1 := blk_frozen m0 1; have y0 := (blk_cell m0 0).trans rfl; have y1 := (blk_cell m0 1).trans rfl)
    refine bodyPost_ret (results_ct rfl _ _ (w.heap.size + 1) 25 #[.int .i64 0, .int .i64 0] (0, 0) _ rfl (by refine blk_put (cs := #[.int .i64 0, .int .i64 0]) ?_ 1 _ rfl; refine blk_put (cs := #[.int .i64 0, .int .i64 0]) ?_ 0 _ rfl; exact m0) Tryd.underlying25 rfl (by kernel_rfl)) rfl ?_
    exact ⟨rfl, below_set (below_set (below_step (below_alloc (below_alloc (Below.refl _ _) _) _) hb) LE.out) LE.out⟩
  · rw [if_pos rfl] at h
    obtain ⟨⟨y, m, d, e0⟩, A, h⟩ := Option.bind_eq_some_iff.mp h
    have AD := Aside0.mk A
    clear A
    simp only at h
    by_cases c0 : e0 = 0
    · rw [if_pos c0] at h
      subst c0
      have HH := Aside0.mk h
      clear h
      go_enter Tryd.func16, Tryd.ntmps16
      go_upto_region 6 with (first | (go_at_call 13; (with_reducible refine (fiscal_Right.calls c true _ AR.out).mono ?_); rintro e wA ⟨rfl, hb⟩; have M0 := Aside0.mk (blk_below (HZ.out _ _) hb); have M2 := Aside0.mk (blk_below (HY.out _ _) hb); have BA := Aside0.mk (below_step (below_alloc (below_alloc (Below.refl _ _) _) _) hb); clear hb) | (go_at_call 38; (with_reducible refine (days_Date.calls day y m d 0 _ (Laid.below HL.out BA.out) AD.out).mono ?_); rintro e wB ⟨rfl, hb⟩; have N0 := Aside0.mk (blk_below M0.out hb); have N2 := Aside0.mk (blk_below M2.out hb); have BB := Aside0.mk (below_step BA.out hb); clear hb M0 M2 BA; have zc0 : wB.cell? ⟨w.heap.size + 1, 0, none⟩ = some (.int .i64 0) := (blk_cell N0.out 0).trans rfl; have zf0 := blk_frozen N0.out 0; have zc1 : wB.cell? ⟨w.heap.size + 1, 1, none⟩ = some (.int .i64 0) := (blk_cell N0.out 1).trans rfl; have zf1 := blk_frozen N0.out 1; have yc0 : wB.cell? ⟨w.heap.size, 0, none⟩ = some (.int .i64 c) := (blk_cell N2.out 0).trans rfl; have yf0 := blk_frozen N2.out 0))
      have hlt := blk_lt N0.out
      have hl0 : w.heap.size < wB.heap.size := by omega
      have hl1 : w.heap.size ≠ wB.heap.size := by omega
      have hl2 : w.heap.size + 1 ≠ wB.heap.size := by omega
      have e1 : w.heap.size ≠ w.heap.size + 1 := by omega
      have e2 : wB.heap.size ≠ w.heap.size + 1 := by omega
      go_upto_region 7 with (fail)
      have P0 : (((wB.setCell ⟨w.heap.size + 1, 0, none⟩ (.int .i64 y)).setCell ⟨w.heap.size + 1, 1, none⟩ (.int .i64 (wrap64 (wrap64 (m - c) + 1)))).alloc (.cells #[.int .i64 y, .int .i64 m, .int .i64 d] 66 (0, 0))).heap[w.heap.size + 1]? = some (.cells #[.int .i64 y, .int .i64 (wrap64 (wrap64 (m - c) + 1))] 25 (0, 0)) := by
        refine blk_alloc ?_ _; refine blk_put (cs := #[.int .i64 y, .int .i64 0]) ?_ 1 _ rfl; refine blk_put (cs := #[.int .i64 0, .int .i64 0]) ?_ 0 _ rfl; exact N0.out
      have P2 : (((wB.setCell ⟨w.heap.size + 1, 0, none⟩ (.int .i64 y)).setCell ⟨w.heap.size + 1, 1, none⟩ (.int .i64 (wrap64 (wrap64 (m - c) + 1)))).alloc (.cells #[.int .i64 y, .int .i64 m, .int .i64 d] 66 (0, 0))).heap[w.heap.size]? = some (.cells #[.int .i64 c] 23 (0, 0)) := blk_alloc (blk_far (blk_far N2.out e1 _) e1 _) _
      have P3 : (((wB.setCell ⟨w.heap.size + 1, 0, none⟩ (.int .i64 y)).setCell ⟨w.heap.size + 1, 1, none⟩ (.int .i64 (wrap64 (wrap64 (m - c) + 1)))).alloc (.cells #[.int .i64 y, .int .i64 m, .int .i64 d] 66 (0, 0))).heap[wB.heap.size]? = some (.cells #[.int .i64 y, .int .i64 m, .int .i64 d] 66 (0, 0)) := by
        have q := blk_new ((wB.setCell ⟨w.heap.size + 1, 0, none⟩ (.int .i64 y)).setCell ⟨w.heap.size + 1, 1, none⟩ (.int .i64 (wrap64 (wrap64 (m - c) + 1)))) (.cells #[.int .i64 y, .int .i64 m, .int .i64 d] 66 (0, 0))
        simpa using q
      have PB : Below w.heap.size w (((wB.setCell ⟨w.heap.size + 1, 0, none⟩ (.int .i64 y)).setCell ⟨w.heap.size + 1, 1, none⟩ (.int .i64 (wrap64 (wrap64 (m - c) + 1)))).alloc (.cells #[.int .i64 y, .int .i64 m, .int .i64 d] 66 (0, 0))) := below_alloc (below_set (below_set BB.out LE.out) LE.out) _
      generalize (((wB.setCell ⟨w.heap.size + 1, 0, none⟩ (.int .i64 y)).setCell ⟨w.heap.size + 1, 1, none⟩ (.int .i64 (wrap64 (wrap64 (m - c) + 1)))).alloc (.cells #[.int .i64 y, .int .i64 m, .int .i64 d] 66 (0, 0))) = wC at P0 P2 P3 PB ⊢
      clear N0 N2 BB yc0 yf0 zc0 zc1 zf0 zf1
      have HH := HH.out
      by_cases c7 : wrap64 (wrap64 (m - c) + 1) < 1
      · rw [if_pos c7] at HH
        have c8 : decide (wrap64 (wrap64 (m - c) + 1) < 1) = true := decide_eq_true c7
        clear c7
        obtain ⟨b, A, H⟩ := Option.bind_eq_some_iff.mp HH
        have AE := Aside0.mk A
        clear A HH
        have uc0 : wC.cell? ⟨w.heap.size + 1, 0, none⟩ = some (.int .i64 y) := (blk_cell P0 0).trans rfl
        have uf0 := blk_frozen P0 0
        have uc1 : wC.cell? ⟨w.heap.size + 1, 1, none⟩ = some (.int .i64 (wrap64 (wrap64 (m - c) + 1))) := (blk_cell P0 1).trans rfl
        have uf1 := blk_frozen P0 1
        have vc0 : wC.cell? ⟨w.heap.size, 0, none⟩ = some (.int .i64 c) := (blk_cell P2 0).trans rfl
        have vf0 := blk_frozen P2 0
        have xc0 : wC.cell? ⟨wB.heap.size, 0, none⟩ = some (.int .i64 y) := (blk_cell P3 0).trans rfl
        have xf0 := blk_frozen P3 0
        have xc1 : wC.cell? ⟨wB.heap.size, 1, none⟩ = some (.int .i64 m) := (blk_cell P3 1).trans rfl
        have xf1 := blk_frozen P3 1
        have xc2 : wC.cell? ⟨wB.heap.size, 2, none⟩ = some (.int .i64 d) := (blk_cell P3 2).trans rfl
        have xf2 := blk_frozen P3 2
        have Q0 := Aside0.mk P0
        have QB := Aside0.mk PB
        clear P0 PB P2 P3
        cases b
        · obtain ⟨rfl, rfl, rfl⟩ := Fi.fparse_bad_ (show (some (0, 0, 16) : Option (Int × Int × Int)) = some (r1, r2, r3) from H)
          clear H
          go_wp2_with (go_at_call 32; (with_reducible refine (fiscal_exists.calls k c (wrap64 (y - 1)) (wrap64 (wrap64 (wrap64 (m - c) + 1) + 12)) false _ (Laid.below HL.out (below_set (below_set QB.out LE.out) LE.out)) AE.out).mono ?_); rintro e wD ⟨rfl, hb⟩; have M0 := blk_below (blk_put (cs := #[.int .i64 (wrap64 (y - 1)), .int .i64 (wrap64 (wrap64 (m - c) + 1))]) (blk_put (cs := #[.int .i64 y, .int .i64 (wrap64 (wrap64 (m - c) + 1))]) Q0.out 0 _ rfl) 1 _ rfl) hb; have BD := below_step (below_set (below_set QB.out LE.out) LE.out) hb; clear hb; have wc0 : wD.cell? ⟨w.heap.size + 1, 0, none⟩ = some (.int .i64 (wrap64 (y - 1))) := (blk_cell M0 0).trans rfl; have wf0 := blk_frozen M0 0; have wc1 : wD.cell? ⟨w.heap.size + 1, 1, none⟩ = some (.int .i64 (wrap64 (wrap64 (wrap64 (m - c) + 1) + 12))) := (blk_cell M0 1).trans rfl; have wf1 := blk_frozen M0 1)
          refine bodyPost_ret (results_ct rfl _ _ (w.heap.size + 1) 25 #[.int .i64 0, .int .i64 0] (0, 0) _ rfl (by refine blk_put (cs := #[.int .i64 0, .int .i64 (wrap64 (wrap64 (wrap64 (m - c) + 1) + 12))]) ?_ 1 _ rfl; refine blk_put (cs := #[.int .i64 (wrap64 (y - 1)), .int .i64 (wrap64 (wrap64 (wrap64 (m - c) + 1) + 12))]) ?_ 0 _ rfl; exact M0) Tryd.underlying25 rfl (by kernel_rfl)) rfl ?_
          exact ⟨rfl, below_set (below_set BD LE.out) LE.out⟩
        · obtain ⟨rfl, rfl, rfl⟩ := Fi.fparse_bad_ (show (some (wrap64 (y - 1), wrap64 (wrap64 (wrap64 (m - c) + 1) + 12), 0) : Option (Int × Int × Int)) = some (r1, r2, r3) from H)
          clear H
          go_wp2_with (go_at_call 32; (with_reducible refine (fiscal_exists.calls k c (wrap64 (y - 1)) (wrap64 (wrap64 (wrap64 (m - c) + 1) + 12)) true _ (Laid.below HL.out (below_set (below_set QB.out LE.out) LE.out)) AE.out).mono ?_); rintro e wD ⟨rfl, hb⟩; have M0 := blk_below (blk_put (cs := #[.int .i64 (wrap64 (y - 1)), .int .i64 (wrap64 (wrap64 (m - c) + 1))]) (blk_put (cs := #[.int .i64 y, .int .i64 (wrap64 (wrap64 (m - c) + 1))]) Q0.out 0 _ rfl) 1 _ rfl) hb; have BD := below_step (below_set (below_set QB.out LE.out) LE.out) hb; clear hb; have wc0 : wD.cell? ⟨w.heap.size + 1, 0, none⟩ = some (.int .i64 (wrap64 (y - 1))) := (blk_cell M0 0).trans rfl; have wf0 := blk_frozen M0 0; have wc1 : wD.cell? ⟨w.heap.size + 1, 1, none⟩ = some (.int .i64 (wrap64 (wrap64 (wrap64 (m - c) + 1) + 12))) := (blk_cell M0 1).trans rfl; have wf1 := blk_frozen M0 1)
          refine bodyPost_ret (results_ct rfl _ _ (w.heap.size + 1) 25 #[.int .i64 (wrap64 (y - 1)), .int .i64 (wrap64 (wrap64 (wrap64 (m - c) + 1) + 12))] (0, 0) _ rfl (by refine blk_put (cs := #[.int .i64 (wrap64 (y - 1)), .int .i64 (wrap64 (wrap64 (wrap64 (m - c) + 1) + 12))]) ?_ 1 _ rfl; refine blk_put (cs := #[.int .i64 (wrap64 (y - 1)), .int .i64 (wrap64 (wrap64 (wrap64 (m - c) + 1) + 12))]) ?_ 0 _ rfl; exact M0) Tryd.underlying25 rfl (by kernel_rfl)) rfl ?_
          exact ⟨rfl, below_set (below_set BD LE.out) LE.out⟩
      · rw [if_neg c7] at HH
        have c8 : decide (wrap64 (wrap64 (m - c) + 1) < 1) = false := decide_eq_false c7
        clear c7
        obtain ⟨b, A, H⟩ := Option.bind_eq_some_iff.mp HH
        have AE := Aside0.mk A
        clear A HH
        have uc0 : wC.cell? ⟨w.heap.size + 1, 0, none⟩ = some (.int .i64 y) := (blk_cell P0 0).trans rfl
        have uf0 := blk_frozen P0 0
        have uc1 : wC.cell? ⟨w.heap.size + 1, 1, none⟩ = some (.int .i64 (wrap64 (wrap64 (m - c) + 1))) := (blk_cell P0 1).trans rfl
        have uf1 := blk_frozen P0 1
        have vc0 : wC.cell? ⟨w.heap.size, 0, none⟩ = some (.int .i64 c) := (blk_cell P2 0).trans rfl
        have vf0 := blk_frozen P2 0
        have Q0 := Aside0.mk P0
        have QB := Aside0.mk PB
        clear P0 PB P2 P3
        cases b
        · obtain ⟨rfl, rfl, rfl⟩ := Fi.fparse_bad_ (show (some (0, 0, 16) : Option (Int × Int × Int)) = some (r1, r2, r3) from H)
          clear H
          go_wp2_with (go_at_call 32; (with_reducible refine (fiscal_exists.calls k c (y) (wrap64 (wrap64 (m - c) + 1)) false _ (Laid.below HL.out QB.out) AE.out).mono ?_); rintro e wD ⟨rfl, hb⟩; have M0 := blk_below Q0.out hb; have BD := below_step QB.out hb; clear hb; have wc0 : wD.cell? ⟨w.heap.size + 1, 0, none⟩ = some (.int .i64 y) := (blk_cell M0 0).trans rfl; have wf0 := blk_frozen M0 0; have wc1 : wD.cell? ⟨w.heap.size + 1, 1, none⟩ = some (.int .i64 (wrap64 (wrap64 (m - c) + 1))) := (blk_cell M0 1).trans rfl; have wf1 := blk_frozen M0 1)
          refine bodyPost_ret (results_ct rfl _ _ (w.heap.size + 1) 25 #[.int .i64 0, .int .i64 0] (0, 0) _ rfl (by refine blk_put (cs := #[.int .i64 0, .int .i64 (wrap64 (wrap64 (m - c) + 1))]) ?_ 1 _ rfl; refine blk_put (cs := #[.int .i64 y, .int .i64 (wrap64 (wrap64 (m - c) + 1))]) ?_ 0 _ rfl; exact M0) Tryd.underlying25 rfl (by kernel_rfl)) rfl ?_
          exact ⟨rfl, below_set (below_set BD LE.out) LE.out⟩
        · obtain ⟨rfl, rfl, rfl⟩ := Fi.fparse_bad_ (show (some (y, wrap64 (wrap64 (m - c) + 1), 0) : Option (Int × Int × Int)) = some (r1, r2, r3) from H)
          clear H
          go_wp2_with (go_at_call 32; (with_reducible refine (fiscal_exists.calls k c (r1) (wrap64 (wrap64 (m - c) + 1)) true _ (Laid.below HL.out QB.out) AE.out).mono ?_); rintro e wD ⟨rfl, hb⟩; have M0 := blk_below Q0.out hb; have BD := below_step QB.out hb; clear hb; have wc0 : wD.cell? ⟨w.heap.size + 1, 0, none⟩ = some (.int .i64 r1) := (blk_cell M0 0).trans rfl; have wf0 := blk_frozen M0 0; have wc1 : wD.cell? ⟨w.heap.size + 1, 1, none⟩ = some (.int .i64 (wrap64 (wrap64 (m - c) + 1))) := (blk_cell M0 1).trans rfl; have wf1 := blk_frozen M0 1)
          refine bodyPost_ret (results_ct rfl _ _ (w.heap.size + 1) 25 #[.int .i64 r1, .int .i64 (wrap64 (wrap64 (m - c) + 1))] (0, 0) _ rfl (by refine blk_put (cs := #[.int .i64 r1, .int .i64 (wrap64 (wrap64 (m - c) + 1))]) ?_ 1 _ rfl; refine blk_put (cs := #[.int .i64 r1, .int .i64 (wrap64 (wrap64 (m - c) + 1))]) ?_ 0 _ rfl; exact M0) Tryd.underlying25 rfl (by kernel_rfl)) rfl ?_
          exact ⟨rfl, below_set (below_set BD LE.out) LE.out⟩
    · rw [if_neg c0] at h
      obtain ⟨rfl, rfl, rfl⟩ := Fi.fparse_bad_ h
      have c1 : (r3 == 0) = false := beq_eq_false_iff_ne.mpr c0
      have c2 : (r3 != 0) = true := bne_iff_ne.mpr c0
      clear h c0
      go_enter Tryd.func16, Tryd.ntmps16
      go_upto_region 4 with (first | (go_at_call 13; (with_reducible refine (fiscal_Right.calls c true _ AR.out).mono ?_); rintro e wA ⟨rfl, hb⟩; have M0 := Aside0.mk (blk_below (HZ.out _ _) hb); have M2 := Aside0.mk (blk_below (HY.out _ _) hb); have BA := Aside0.mk (below_step (below_alloc (below_alloc (Below.refl _ _) _) _) hb); clear hb) | (go_at_call 38; (with_reducible refine (days_Date.calls day y m d r3 _ (Laid.below HL.out BA.out) AD.out).mono ?_); rintro e wB ⟨rfl, hb⟩; have N0 := Aside0.mk (blk_below M0.out hb); have N2 := Aside0.mk (blk_below M2.out hb); have BB := Aside0.mk (below_step BA.out hb); clear hb M0 M2 BA; have zc0 : wB.cell? ⟨w.heap.size + 1, 0, none⟩ = some (.int .i64 0) := (blk_cell N0.out 0).trans rfl; have zf0 := blk_frozen N0.out 0; have zc1 : wB.cell? ⟨w.heap.size + 1, 1, none⟩ = some (.int .i64 0) := (blk_cell N0.out 1).trans rfl; have zf1 := blk_frozen N0.out 1; have yc0 : wB.cell? ⟨w.heap.size, 0, none⟩ = some (.int .i64 c) := (blk_cell N2.out 0).trans rfl; have yf0 := blk_frozen N2.out 0))
      have hlt := blk_lt N0.out
      have hl0 : w.heap.size < wB.heap.size := by omega
      have hl1 : w.heap.size ≠ wB.heap.size := by omega
      have hl2 : w.heap.size + 1 ≠ wB.heap.size := by omega
      go_wp2
      refine bodyPost_ret (results_ct rfl _ _ (w.heap.size + 1) 25 #[.int .i64 0, .int .i64 0] (0, 0) _ rfl (by refine blk_alloc ?_ _; refine blk_put (cs := #[.int .i64 0, .int .i64 0]) ?_ 1 _ rfl; refine blk_put (cs := #[.int .i64 0, .int .i64 0]) ?_ 0 _ rfl; exact N0.out) Tryd.underlying25 rfl (by kernel_rfl)) rfl ?_
      exact ⟨rfl, below_alloc (below_set (below_set BB.out LE.out) LE.out) _⟩

/-! ### fiscal_For: function 18 -/
def fiscal_For.j0 : Nat → Int → Int → Bool → Int → Int → Int → Option (Int × Int × Int)
  | 0, _, _, _, _, _, _ => none
  | k + 1, x1, x7, x26, x129000, x130000, x130001 => if x26 = true then (some (x130000, x130001, x7)) else ((fiscal_ends.f k x129000 x130000).bind fun bt133 => (if bt133.2.1 = x1 then (some (x130000, 13, 0)) else (some (x130000, x130001, 0))))
def fiscal_For.f (k : Nat) (a0_0 : Int) (a1 : Int) (a2 : Int) : Option (Int × Int × Int) := (fiscal_Of.f k a0_0 a1).bind fun bt130 => (if bt130.2.2 = 0 then (if a2 = 3 then (fiscal_For.j0 k a1 bt130.2.2 false a0_0 bt130.1 bt130.2.1) else (fiscal_For.j0 k a1 bt130.2.2 (a2 != 4) a0_0 bt130.1 bt130.2.1)) else (fiscal_For.j0 k a1 bt130.2.2 true a0_0 bt130.1 bt130.2.1))
theorem fiscal_For.mono_l : ∀ k, (∀ y0 y1 y2 y3 y4 y5, LeO (fiscal_For.j0 k y0 y1 y2 y3 y4 y5) (fiscal_For.j0 (k + 1) y0 y1 y2 y3 y4 y5))
  | 0 => fun _ _ _ _ _ _ r h => by simp [fiscal_For.j0] at h
  | k + 1 => by
    have ih0 := fiscal_For.mono_l k
    · intro y0 y1 y2 y3 y4 y5
      unfold fiscal_For.j0
      repeat' first
      | (with_reducible exact ih0 _ _ _ _ _ _)
      | (with_reducible exact fiscal_Of.mono _ _ _)
      | (with_reducible exact fiscal_ends.mono _ _ _)
      | (with_reducible exact LeO.refl _)
      | (with_reducible exact LeO.none _)
      | (with_reducible refine LeO.ite ?_ ?_)
      | (with_reducible refine LeO.bind ?_ (fun _ => ?_))
      | exact ih0 _ _ _ _ _ _
      | exact fiscal_Of.mono _ _ _
      | exact fiscal_ends.mono _ _ _
      | exact LeO.none _
      | refine LeO.ite ?_ ?_
      | refine LeO.bind ?_ (fun _ => ?_)
theorem fiscal_For.mono : ∀ a0 a1 a2 k, LeO (fiscal_For.f k a0 a1 a2) (fiscal_For.f (k + 1) a0 a1 a2) := by
  intro a0 a1 a2 k
  have ih0 := fiscal_For.mono_l k
  unfold fiscal_For.f
  repeat' first
      | (with_reducible exact ih0 _ _ _ _ _ _)
      | (with_reducible exact fiscal_Of.mono _ _ _)
      | (with_reducible exact fiscal_ends.mono _ _ _)
      | (with_reducible exact LeO.refl _)
      | (with_reducible exact LeO.none _)
      | (with_reducible refine LeO.ite ?_ ?_)
      | (with_reducible refine LeO.bind ?_ (fun _ => ?_))
      | exact ih0 _ _ _ _ _ _
      | exact fiscal_Of.mono _ _ _
      | exact fiscal_ends.mono _ _ _
      | exact LeO.none _
      | refine LeO.ite ?_ ?_
      | refine LeO.bind ?_ (fun _ => ?_)
set_option maxHeartbeats 8000000 in
set_option maxRecDepth 100000 in
theorem fiscal_For.calls (k : Nat) (a0_0 : Int) (a1 : Int) (a2 : Int) (r1 : Int) (r2 : Int) (r3 : Int) (w : World) (hLd : Laid w) (h : fiscal_For.f k a0_0 a1 a2 = some (r1, r2, r3)) :
    Calls Tryd.prog 18 #[.agg #[.int .i64 a0_0], .int .i64 a1, .int .i64 a2] w fun e w' => e = .returned (.tuple #[.agg #[.int .i64 r1, .int .i64 r2], .int .i64 r3]) ∧ Below w.heap.size w w' := by
  have hu23 := Tryd.underlying23
  have hu25 := Tryd.underlying25
  have HB := Aside0.mk (Below.refl w.heap.size w)
  have HLd := Aside0.mk hLd; clear hLd
  have H : ((fiscal_Of.f k a0_0 a1).bind fun bt130 => (if bt130.2.2 = 0 then (if a2 = 3 then (fiscal_For.j0 k a1 bt130.2.2 false a0_0 bt130.1 bt130.2.1) else (fiscal_For.j0 k a1 bt130.2.2 (a2 != 4) a0_0 bt130.1 bt130.2.1)) else (fiscal_For.j0 k a1 bt130.2.2 true a0_0 bt130.1 bt130.2.1))) = some (r1, r2, r3) := h
  clear h
  replace H := Option.bind_eq_some_iff.mp H
  obtain ⟨⟨t130, t131, t132⟩, A40, H⟩ := H
  replace H : (if t132 = 0 then (if a2 = 3 then (fiscal_For.j0 k a1 t132 false a0_0 t130 t131) else (fiscal_For.j0 k a1 t132 (a2 != 4) a0_0 t130 t131)) else (fiscal_For.j0 k a1 t132 true a0_0 t130 t131)) = some (r1, r2, r3) := H
  have A4 := Aside0.mk A40
  clear A40
  have HC5 := Aside0.mk H
  clear H
  go_enter Tryd.func18, Tryd.ntmps18
  go_upto_region 2 with (first | ((with_reducible refine gate_dst (N := 3) rfl ?_); refine box_event ?hg (N := 3) ?hd (cs := #[.int .i64 a0_0]) (t := 23) ?hr ?_; (case hd => rfl); (case hg => rfl); (case hr => first | (go_simp; done) | (go_simp; rfl)); intro gb128 hg w6 hbox hb; have n0_ := Aside0.mk (below_step (by repeat (first | (with_reducible first | exact HB.out | apply below_alloc | apply pw_below_drewN | apply below_drew1) | exact HB.out)) hb); have n1_ := Aside0.mk (hbox); have n2_ := Aside0.mk ((by rw [hg]; exact (below_size (by repeat (first | (with_reducible first | exact HB.out | apply below_alloc | apply pw_below_drewN | apply below_drew1) | exact HB.out))) : w.heap.size ≤ gb128)); have n3_ := Aside0.mk ((by rw [hg]; exact (below_size (by repeat (first | (with_reducible first | exact HB.out | apply below_alloc | apply pw_below_drewN | apply below_drew1) | exact HB.out))) : w.heap.size ≤ gb128)); clear HB; have HB := n0_; have BK128 := n1_; have GW128 := n2_; have GE128 := n3_; clear n0_ n1_ n2_ n3_; clear hb hbox hg) | ((with_reducible refine gate_dst (N := 6) rfl ?_); refine box_event ?hg (N := 6) ?hd (cs := #[.int .i64 0, .int .i64 0]) (t := 25) ?hr ?_; (case hd => rfl); (case hg => rfl); (case hr => first | (go_simp; done) | (go_simp; rfl)); intro gb129 hg w7 hbox hb; have n0_ := Aside0.mk (blk_below (g := gb128) (o := .cells #[.int .i64 a0_0] 23 (0, 0)) (by (with_reducible repeat (first | refine blk_drewN ?_ _ | refine blk_drew ?_ | refine blk_alloc ?_ _)); exact BK128.out) hb); have n1_ := Aside0.mk (below_step (by repeat (first | (with_reducible first | exact HB.out | apply below_alloc | apply pw_below_drewN | apply below_drew1 | refine below_set ?_ GE128.out) | exact HB.out)) hb); have n2_ := Aside0.mk (hbox); have n3_ := Aside0.mk ((by rw [hg]; exact (below_size (by repeat (first | (with_reducible first | exact HB.out | apply below_alloc | apply pw_below_drewN | apply below_drew1 | refine below_set ?_ GE128.out) | exact HB.out))) : w.heap.size ≤ gb129)); have n4_ := Aside0.mk ((by rw [hg]; exact (below_size (by repeat (first | (with_reducible first | exact HB.out | apply below_alloc | apply pw_below_drewN | apply below_drew1 | refine below_set ?_ GE128.out) | exact HB.out))) : w.heap.size ≤ gb129)); have n5_ := Aside0.mk ((by rw [hg]; exact Nat.ne_of_lt (blk_lt (g := gb128) (o := .cells #[.int .i64 a0_0] 23 (0, 0)) (by (with_reducible repeat (first | refine blk_drewN ?_ _ | refine blk_drew ?_ | refine blk_alloc ?_ _)); exact BK128.out)) : gb128 ≠ gb129)); have n6_ := Aside0.mk ((by rw [hg]; exact Nat.ne_of_gt (blk_lt (g := gb128) (o := .cells #[.int .i64 a0_0] 23 (0, 0)) (by (with_reducible repeat (first | refine blk_drewN ?_ _ | refine blk_drew ?_ | refine blk_alloc ?_ _)); exact BK128.out)) : gb129 ≠ gb128)); clear BK128; clear HB; have BK128 := n0_; have HB := n1_; have BK129 := n2_; have GW129 := n3_; have GE129 := n4_; have NB128_129 := n5_; have NB129_128 := n6_; clear n0_ n1_ n2_ n3_ n4_ n5_ n6_; clear hb hbox hg; have hnb8 := NB128_129.out; have hnc8 := NB129_128.out; have hcz9_0 : w7.cell? ⟨gb128, 0, none⟩ = some (.int .i64 a0_0) := (blk_cell BK128.out 0).trans rfl; have hfz9_0 := blk_frozen BK128.out 0) | ((with_reducible refine gate_callee (f := 16) rfl ?_); refine goesL_ (some 14) rfl rfl Tryd.func16 (by kernel_rfl) rfl #[.agg #[.int .i64 a0_0], .int .i64 a1] rfl (by (try simp only [List.map_toArray, List.map_cons, List.map_nil]); first | done | rfl | (simp only [List.length_drop, List.length_take]; rfl)) ?_; (with_reducible refine (fiscal_Of.calls k a0_0 a1 t130 t131 t132 _ ?side1 A4.out).mono ?_); (case side1 => first | exact Laid.below HLd.out (by repeat (first | (with_reducible first | exact HB.out | apply below_alloc | apply pw_below_drewN | apply below_drew1 | refine below_set ?_ GE128.out | refine below_set ?_ GE129.out) | exact HB.out)) | (repeat (first | exact HLd.out | apply Laid.drewN | apply Laid.drew))); rintro e w10 ⟨rfl, hb⟩; refine ⟨_, rfl, ?_⟩; have n0_ := Aside0.mk (blk_below (g := gb128) (o := .cells #[.int .i64 a0_0] 23 (0, 0)) (by (with_reducible repeat (first | refine blk_drewN ?_ _ | refine blk_drew ?_ | refine blk_alloc ?_ _)); exact BK128.out) hb); have n1_ := Aside0.mk (blk_below (g := gb129) (o := .cells #[.int .i64 0, .int .i64 0] 25 (0, 0)) (by (with_reducible repeat (first | refine blk_drewN ?_ _ | refine blk_drew ?_ | refine blk_alloc ?_ _)); exact BK129.out) hb); have n2_ := Aside0.mk (below_step (by repeat (first | (with_reducible first | exact HB.out | apply below_alloc | apply pw_below_drewN | apply below_drew1 | refine below_set ?_ GE128.out | refine below_set ?_ GE129.out) | exact HB.out)) hb); clear BK128; clear BK129; clear HB; have BK128 := n0_; have BK129 := n1_; have HB := n2_; clear n0_ n1_ n2_; (try clear hb); (try clear hb2); (try clear hk); (try clear hi); have hcz11_0 : w10.cell? ⟨gb129, 0, none⟩ = some (.int .i64 0) := (blk_cell BK129.out 0).trans rfl; have hcz11_1 : w10.cell? ⟨gb129, 1, none⟩ = some (.int .i64 0) := (blk_cell BK129.out 1).trans rfl; have hfz11_0 := blk_frozen BK129.out 0; have hfz11_1 := blk_frozen BK129.out 1))
  (try simp only [Act.put, List.setIfInBounds_toArray, List.set_cons_zero, List.set_cons_succ])
  go_cut [26] (fun v26 wc => ∃ (kq : Nat) (x26_4 : Bool), v26 = .bool x26_4 ∧ Aside0 (fiscal_For.j0 kq a1 t132 x26_4 a0_0 t130 t131 = some (r1, r2, r3)) ∧ Aside0 (kq ≤ k) ∧ Aside0 (wc.heap[gb128]? = some (.cells #[.int .i64 a0_0] 23 (0, 0))) ∧ Aside0 (wc.heap[gb129]? = some (.cells #[.int .i64 t130, .int .i64 t131] 25 (0, 0))) ∧ Aside0 (Below w.heap.size w wc))
  case first =>
    have H := HC5.out
    clear HC5
    by_cases c12 : t132 = 0
    · rw [if_pos c12] at H
      have c12b0 : (t132 == 0) = true := beq_iff_eq.mpr c12
      have c12b1 : (t132 != 0) = false := bne_eq_false_iff_eq.mpr c12
      clear c12
      (first | rw [c12b0] | (simp only [i64_w, i32_w]; rw [c12b0]) | skip)
      by_cases c13 : a2 = 3
      · rw [if_pos c13] at H
        have c13b0 : (a2 == 3) = true := beq_iff_eq.mpr c13
        have c13b1 : (a2 != 3) = false := bne_eq_false_iff_eq.mpr c13
        clear c13
        have H' := Aside0.mk H
        clear H
        go_wp2
        go_meet
        case rel => exact ⟨_, (false), (by first | rfl | (simp; done) | (simp [*]; done) | (simp; generalize ByteArray.toList _ = l_; cases l_ <;> rfl)), H', ⟨by first | omega | exact Nat.le_refl _⟩, ⟨by (with_reducible repeat (first | refine blk_drewN ?_ _ | refine blk_drew ?_ | refine blk_alloc ?_ _)); refine blk_far ?_ NB128_129.out _; (with_reducible repeat (first | refine blk_drewN ?_ _ | refine blk_drew ?_ | refine blk_alloc ?_ _)); refine blk_far ?_ NB128_129.out _; (with_reducible repeat (first | refine blk_drewN ?_ _ | refine blk_drew ?_ | refine blk_alloc ?_ _)); exact BK128.out⟩, ⟨by (with_reducible repeat (first | refine blk_drewN ?_ _ | refine blk_drew ?_ | refine blk_alloc ?_ _)); refine blk_put (cs := #[.int .i64 t130, .int .i64 0]) ?_ 1 _ rfl; (with_reducible repeat (first | refine blk_drewN ?_ _ | refine blk_drew ?_ | refine blk_alloc ?_ _)); refine blk_put (cs := #[.int .i64 0, .int .i64 0]) ?_ 0 _ rfl; (with_reducible repeat (first | refine blk_drewN ?_ _ | refine blk_drew ?_ | refine blk_alloc ?_ _)); exact BK129.out⟩, ⟨by repeat (first | (with_reducible first | exact HB.out | apply below_alloc | apply pw_below_drewN | apply below_drew1 | refine below_set ?_ GE128.out | refine below_set ?_ GE129.out) | exact HB.out)⟩⟩
      · rw [if_neg c13] at H
        have c13b0 : (a2 == 3) = false := beq_eq_false_iff_ne.mpr c13
        have c13b1 : (a2 != 3) = true := bne_iff_ne.mpr c13
        have H' := Aside0.mk H
        clear H
        go_wp2
        go_meet
        case rel => exact ⟨_, ((a2 != 4)), (by first | rfl | (simp; done) | (simp [*]; done) | (simp; generalize ByteArray.toList _ = l_; cases l_ <;> rfl)), H', ⟨by first | omega | exact Nat.le_refl _⟩, ⟨by (with_reducible repeat (first | refine blk_drewN ?_ _ | refine blk_drew ?_ | refine blk_alloc ?_ _)); refine blk_far ?_ NB128_129.out _; (with_reducible repeat (first | refine blk_drewN ?_ _ | refine blk_drew ?_ | refine blk_alloc ?_ _)); refine blk_far ?_ NB128_129.out _; (with_reducible repeat (first | refine blk_drewN ?_ _ | refine blk_drew ?_ | refine blk_alloc ?_ _)); exact BK128.out⟩, ⟨by (with_reducible repeat (first | refine blk_drewN ?_ _ | refine blk_drew ?_ | refine blk_alloc ?_ _)); refine blk_put (cs := #[.int .i64 t130, .int .i64 0]) ?_ 1 _ rfl; (with_reducible repeat (first | refine blk_drewN ?_ _ | refine blk_drew ?_ | refine blk_alloc ?_ _)); refine blk_put (cs := #[.int .i64 0, .int .i64 0]) ?_ 0 _ rfl; (with_reducible repeat (first | refine blk_drewN ?_ _ | refine blk_drew ?_ | refine blk_alloc ?_ _)); exact BK129.out⟩, ⟨by repeat (first | (with_reducible first | exact HB.out | apply below_alloc | apply pw_below_drewN | apply below_drew1 | refine below_set ?_ GE128.out | refine below_set ?_ GE129.out) | exact HB.out)⟩⟩
    · rw [if_neg c12] at H
      have c12b0 : (t132 == 0) = false := beq_eq_false_iff_ne.mpr c12
      have c12b1 : (t132 != 0) = true := bne_iff_ne.mpr c12
      (first | rw [c12b0] | (simp only [i64_w, i32_w]; rw [c12b0]) | skip)
      have H' := Aside0.mk H
      clear H
      go_wp2
      go_meet
      case rel => exact ⟨_, (true), (by first | rfl | (simp; done) | (simp [*]; done) | (simp; generalize ByteArray.toList _ = l_; cases l_ <;> rfl)), H', ⟨by first | omega | exact Nat.le_refl _⟩, ⟨by (with_reducible repeat (first | refine blk_drewN ?_ _ | refine blk_drew ?_ | refine blk_alloc ?_ _)); refine blk_far ?_ NB128_129.out _; (with_reducible repeat (first | refine blk_drewN ?_ _ | refine blk_drew ?_ | refine blk_alloc ?_ _)); refine blk_far ?_ NB128_129.out _; (with_reducible repeat (first | refine blk_drewN ?_ _ | refine blk_drew ?_ | refine blk_alloc ?_ _)); exact BK128.out⟩, ⟨by (with_reducible repeat (first | refine blk_drewN ?_ _ | refine blk_drew ?_ | refine blk_alloc ?_ _)); refine blk_put (cs := #[.int .i64 t130, .int .i64 0]) ?_ 1 _ rfl; (with_reducible repeat (first | refine blk_drewN ?_ _ | refine blk_drew ?_ | refine blk_alloc ?_ _)); refine blk_put (cs := #[.int .i64 0, .int .i64 0]) ?_ 0 _ rfl; (with_reducible repeat (first | refine blk_drewN ?_ _ | refine blk_drew ?_ | refine blk_alloc ?_ _)); exact BK129.out⟩, ⟨by repeat (first | (with_reducible first | exact HB.out | apply below_alloc | apply pw_below_drewN | apply below_drew1 | refine below_set ?_ GE128.out | refine below_set ?_ GE129.out) | exact HB.out)⟩⟩
  case rest =>
    clear HC5
    try clear c1
    try clear p2
    try clear c8
    try clear c12
    try clear c12b0
    try clear c12b1
    try clear c13
    try clear c13b0
    try clear c13b1
    try clear hcz11_0
    try clear hcz11_1
    try clear hcz9_0
    try clear hfz11_0
    try clear hfz11_1
    try clear hfz9_0
    obtain ⟨kq, x26_4, rfl, HA, HJ4, BK128, BK129, HB⟩ := hcut
    cases kq with
    | zero => exact absurd HA.out (by simp [fiscal_For.j0])
    | succ kj4 =>
      have H := HA.out
      clear HA
      simp only [fiscal_For.j0] at H
      by_cases c14 : x26_4 = true
      · subst c14
        have H1 : (some (t130, t131, t132)) = some (r1, r2, r3) := by rw [if_pos rfl] at H; exact H
        clear H
        have H := H1
        clear H1
        simp only [Option.some.injEq, Prod.mk.injEq] at H
        obtain ⟨rfl, rfl, rfl⟩ := H
        have hnb15 := NB129_128.out
        have hnc15 := NB128_129.out
        have hcz16_0 : wc.cell? ⟨gb129, 0, none⟩ = some (.int .i64 t130) := (blk_cell BK129.out 0).trans rfl
        have hcz16_1 : wc.cell? ⟨gb129, 1, none⟩ = some (.int .i64 t131) := (blk_cell BK129.out 1).trans rfl
        have hfz16_0 := blk_frozen BK129.out 0
        have hfz16_1 := blk_frozen BK129.out 1
        go_wp2
        refine bodyPost_ret (results_ct rfl _ _ gb129 25 #[.int .i64 t130, .int .i64 t131] (0, 0) _ rfl (by (with_reducible repeat (first | refine blk_drewN ?_ _ | refine blk_drew ?_ | refine blk_alloc ?_ _)); refine blk_put (cs := #[.int .i64 t130, .int .i64 t131]) ?_ 1 _ rfl; (with_reducible repeat (first | refine blk_drewN ?_ _ | refine blk_drew ?_ | refine blk_alloc ?_ _)); refine blk_put (cs := #[.int .i64 t130, .int .i64 t131]) ?_ 0 _ rfl; (with_reducible repeat (first | refine blk_drewN ?_ _ | refine blk_drew ?_ | refine blk_alloc ?_ _)); exact BK129.out) Tryd.underlying25 rfl (by kernel_rfl)) rfl ?_
        exact ⟨by first | rfl | (simp [errW_none, errW_some] <;> rfl) | (simp [*, errW_none, errW_some] <;> rfl), by repeat (first | (with_reducible first | exact HB.out | apply below_alloc | apply pw_below_drewN | apply below_drew1 | refine below_set ?_ GE128.out | refine below_set ?_ GE129.out) | exact HB.out)⟩
      · replace c14 := Bool.eq_false_iff.mpr c14
        subst c14
        have H1 : ((fiscal_ends.f kj4 a0_0 t130).bind fun bt133 => (if bt133.2.1 = a1 then (some (t130, 13, 0)) else (some (t130, t131, 0)))) = some (r1, r2, r3) := by rw [if_neg (show ¬ (false = true) by decide)] at H; exact H
        clear H
        have H := H1
        clear H1
        replace H := Option.bind_eq_some_iff.mp H
        obtain ⟨⟨t133, t134, t135⟩, A170, H⟩ := H
        replace H : (if t134 = a1 then (some (t130, 13, 0)) else (some (t130, t131, 0))) = some (r1, r2, r3) := H
        have A17 := Aside0.mk A170
        clear A170
        by_cases c18 : t134 = a1
        · rw [if_pos c18] at H
          have c18b0 : (t134 == a1) = true := beq_iff_eq.mpr c18
          have c18b1 : (t134 != a1) = false := bne_eq_false_iff_eq.mpr c18
          clear c18
          simp only [Option.some.injEq, Prod.mk.injEq] at H
          obtain ⟨rfl, rfl, rfl⟩ := H
          have hnb19 := NB128_129.out
          have hnc19 := NB129_128.out
          have hcz20_0 : wc.cell? ⟨gb128, 0, none⟩ = some (.int .i64 a0_0) := (blk_cell BK128.out 0).trans rfl
          have hfz20_0 := blk_frozen BK128.out 0
          have hcz21_0 : wc.cell? ⟨gb129, 0, none⟩ = some (.int .i64 t130) := (blk_cell BK129.out 0).trans rfl
          have hcz21_1 : wc.cell? ⟨gb129, 1, none⟩ = some (.int .i64 t131) := (blk_cell BK129.out 1).trans rfl
          have hfz21_0 := blk_frozen BK129.out 0
          have hfz21_1 := blk_frozen BK129.out 1
          go_wp2_with (first | ((with_reducible refine gate_callee (f := 33) rfl ?_); refine goesL_ (some 33) rfl rfl Tryd.func33 (by kernel_rfl) rfl #[.agg #[.int .i64 a0_0], .int .i64 t130] rfl (by (try simp only [List.map_toArray, List.map_cons, List.map_nil]); first | done | rfl | (simp only [List.length_drop, List.length_take]; rfl)) ?_; (with_reducible refine (fiscal_ends.calls kj4 a0_0 t130 t133 t134 t135 _ ?side1 A17.out).mono ?_); (case side1 => first | exact Laid.below HLd.out (by repeat (first | (with_reducible first | exact HB.out | apply below_alloc | apply pw_below_drewN | apply below_drew1 | refine below_set ?_ GE128.out | refine below_set ?_ GE129.out) | exact HB.out)) | (repeat (first | exact HLd.out | apply Laid.drewN | apply Laid.drew))); rintro e w22 ⟨rfl, hb⟩; refine ⟨_, rfl, ?_⟩; have n0_ := Aside0.mk (blk_below (g := gb128) (o := .cells #[.int .i64 a0_0] 23 (0, 0)) (by (with_reducible repeat (first | refine blk_drewN ?_ _ | refine blk_drew ?_ | refine blk_alloc ?_ _)); exact BK128.out) hb); have n1_ := Aside0.mk (blk_below (g := gb129) (o := .cells #[.int .i64 t130, .int .i64 t131] 25 (0, 0)) (by (with_reducible repeat (first | refine blk_drewN ?_ _ | refine blk_drew ?_ | refine blk_alloc ?_ _)); exact BK129.out) hb); have n2_ := Aside0.mk (below_step (by repeat (first | (with_reducible first | exact HB.out | apply below_alloc | apply pw_below_drewN | apply below_drew1 | refine below_set ?_ GE128.out | refine below_set ?_ GE129.out) | exact HB.out)) hb); clear BK128; clear BK129; clear HB; have BK128 := n0_; have BK129 := n1_; have HB := n2_; clear n0_ n1_ n2_; (try clear hb); (try clear hb2); (try clear hk); (try clear hi); have hcz23_0 : w22.cell? ⟨gb129, 0, none⟩ = some (.int .i64 t130) := (blk_cell BK129.out 0).trans rfl; have hcz23_1 : w22.cell? ⟨gb129, 1, none⟩ = some (.int .i64 t131) := (blk_cell BK129.out 1).trans rfl; have hfz23_0 := blk_frozen BK129.out 0; have hfz23_1 := blk_frozen BK129.out 1))
          refine bodyPost_ret (results_ct rfl _ _ gb129 25 #[.int .i64 t130, .int .i64 13] (0, 0) _ rfl (by (with_reducible repeat (first | refine blk_drewN ?_ _ | refine blk_drew ?_ | refine blk_alloc ?_ _)); refine blk_put (cs := #[.int .i64 t130, .int .i64 13]) ?_ 1 _ rfl; (with_reducible repeat (first | refine blk_drewN ?_ _ | refine blk_drew ?_ | refine blk_alloc ?_ _)); refine blk_put (cs := #[.int .i64 t130, .int .i64 13]) ?_ 0 _ rfl; (with_reducible repeat (first | refine blk_drewN ?_ _ | refine blk_drew ?_ | refine blk_alloc ?_ _)); refine blk_put (cs := #[.int .i64 t130, .int .i64 t131]) ?_ 1 _ rfl; (with_reducible repeat (first | refine blk_drewN ?_ _ | refine blk_drew ?_ | refine blk_alloc ?_ _)); exact BK129.out) Tryd.underlying25 rfl (by kernel_rfl)) rfl ?_
          exact ⟨by first | rfl | (simp [errW_none, errW_some] <;> rfl) | (simp [*, errW_none, errW_some] <;> rfl), by repeat (first | (with_reducible first | exact HB.out | apply below_alloc | apply pw_below_drewN | apply below_drew1 | refine below_set ?_ GE128.out | refine below_set ?_ GE129.out) | exact HB.out)⟩
        · rw [if_neg c18] at H
          have c18b0 : (t134 == a1) = false := beq_eq_false_iff_ne.mpr c18
          have c18b1 : (t134 != a1) = true := bne_iff_ne.mpr c18
          simp only [Option.some.injEq, Prod.mk.injEq] at H
          obtain ⟨rfl, rfl, rfl⟩ := H
          have hnb24 := NB128_129.out
          have hnc24 := NB129_128.out
          have hcz25_0 : wc.cell? ⟨gb128, 0, none⟩ = some (.int .i64 a0_0) := (blk_cell BK128.out 0).trans rfl
          have hfz25_0 := blk_frozen BK128.out 0
          have hcz26_0 : wc.cell? ⟨gb129, 0, none⟩ = some (.int .i64 t130) := (blk_cell BK129.out 0).trans rfl
          have hcz26_1 : wc.cell? ⟨gb129, 1, none⟩ = some (.int .i64 t131) := (blk_cell BK129.out 1).trans rfl
          have hfz26_0 := blk_frozen BK129.out 0
          have hfz26_1 := blk_frozen BK129.out 1
          go_wp2_with (first | ((with_reducible refine gate_callee (f := 33) rfl ?_); refine goesL_ (some 33) rfl rfl Tryd.func33 (by kernel_rfl) rfl #[.agg #[.int .i64 a0_0], .int .i64 t130] rfl (by (try simp only [List.map_toArray, List.map_cons, List.map_nil]); first | done | rfl | (simp only [List.length_drop, List.length_take]; rfl)) ?_; (with_reducible refine (fiscal_ends.calls kj4 a0_0 t130 t133 t134 t135 _ ?side1 A17.out).mono ?_); (case side1 => first | exact Laid.below HLd.out (by repeat (first | (with_reducible first | exact HB.out | apply below_alloc | apply pw_below_drewN | apply below_drew1 | refine below_set ?_ GE128.out | refine below_set ?_ GE129.out) | exact HB.out)) | (repeat (first | exact HLd.out | apply Laid.drewN | apply Laid.drew))); rintro e w27 ⟨rfl, hb⟩; refine ⟨_, rfl, ?_⟩; have n0_ := Aside0.mk (blk_below (g := gb128) (o := .cells #[.int .i64 a0_0] 23 (0, 0)) (by (with_reducible repeat (first | refine blk_drewN ?_ _ | refine blk_drew ?_ | refine blk_alloc ?_ _)); exact BK128.out) hb); have n1_ := Aside0.mk (blk_below (g := gb129) (o := .cells #[.int .i64 t130, .int .i64 t131] 25 (0, 0)) (by (with_reducible repeat (first | refine blk_drewN ?_ _ | refine blk_drew ?_ | refine blk_alloc ?_ _)); exact BK129.out) hb); have n2_ := Aside0.mk (below_step (by repeat (first | (with_reducible first | exact HB.out | apply below_alloc | apply pw_below_drewN | apply below_drew1 | refine below_set ?_ GE128.out | refine below_set ?_ GE129.out) | exact HB.out)) hb); clear BK128; clear BK129; clear HB; have BK128 := n0_; have BK129 := n1_; have HB := n2_; clear n0_ n1_ n2_; (try clear hb); (try clear hb2); (try clear hk); (try clear hi); have hcz28_0 : w27.cell? ⟨gb129, 0, none⟩ = some (.int .i64 t130) := (blk_cell BK129.out 0).trans rfl; have hcz28_1 : w27.cell? ⟨gb129, 1, none⟩ = some (.int .i64 t131) := (blk_cell BK129.out 1).trans rfl; have hfz28_0 := blk_frozen BK129.out 0; have hfz28_1 := blk_frozen BK129.out 1))
          refine bodyPost_ret (results_ct rfl _ _ gb129 25 #[.int .i64 t130, .int .i64 t131] (0, 0) _ rfl (by (with_reducible repeat (first | refine blk_drewN ?_ _ | refine blk_drew ?_ | refine blk_alloc ?_ _)); refine blk_put (cs := #[.int .i64 t130, .int .i64 t131]) ?_ 1 _ rfl; (with_reducible repeat (first | refine blk_drewN ?_ _ | refine blk_drew ?_ | refine blk_alloc ?_ _)); refine blk_put (cs := #[.int .i64 t130, .int .i64 t131]) ?_ 0 _ rfl; (with_reducible repeat (first | refine blk_drewN ?_ _ | refine blk_drew ?_ | refine blk_alloc ?_ _)); exact BK129.out) Tryd.underlying25 rfl (by kernel_rfl)) rfl ?_
          exact ⟨by first | rfl | (simp [errW_none, errW_some] <;> rfl) | (simp [*, errW_none, errW_some] <;> rfl), by repeat (first | (with_reducible first | exact HB.out | apply below_alloc | apply pw_below_drewN | apply below_drew1 | refine below_set ?_ GE128.out | refine below_set ?_ GE129.out) | exact HB.out)⟩

/-! ### fiscal_named: function 41 -/
def fiscal_named.f (a0_0 : Int) (a0_1 : Int) : Option (Bool) := if a0_0 ≥ 1900 then (if a0_0 ≤ 2199 then (if a0_1 ≥ 1 then (some (decide (a0_1 ≤ 13))) else (some false)) else (some false)) else (some false)
set_option maxHeartbeats 8000000 in
set_option maxRecDepth 100000 in
theorem fiscal_named.calls (a0_0 : Int) (a0_1 : Int) (r : Bool) (w : World) (h : fiscal_named.f a0_0 a0_1 = some r) :
    Calls Tryd.prog 41 #[.agg #[.int .i64 a0_0, .int .i64 a0_1]] w fun e w' => e = .returned (.bool r) ∧ Below w.heap.size w w' := by
  have hu25 := Tryd.underlying25
  have HB := Aside0.mk (Below.refl w.heap.size w)
  have H : (if a0_0 ≥ 1900 then (if a0_0 ≤ 2199 then (if a0_1 ≥ 1 then (some (decide (a0_1 ≤ 13))) else (some false)) else (some false)) else (some false)) = some r := h
  clear h
  by_cases c2 : a0_0 ≥ 1900
  · rw [if_pos c2] at H
    have c2b0 : decide (1900 ≤ a0_0) = true := decide_eq_true c2
    clear c2
    by_cases c3 : a0_0 ≤ 2199
    · rw [if_pos c3] at H
      have c3b0 : decide (a0_0 ≤ 2199) = true := decide_eq_true c3
      clear c3
      by_cases c4 : a0_1 ≥ 1
      · rw [if_pos c4] at H
        have c4b0 : decide (1 ≤ a0_1) = true := decide_eq_true c4
        clear c4
        obtain rfl := Option.some.inj H
        go_enter Tryd.func41, Tryd.ntmps41
        go_wp2_with (first | ((with_reducible refine gate_dst (N := 1) rfl ?_); refine box_event ?hg (N := 1) ?hd (cs := #[.int .i64 a0_0, .int .i64 a0_1]) (t := 25) ?hr ?_; (case hd => rfl); (case hg => rfl); (case hr => first | (go_simp; done) | (go_simp; rfl)); intro gb136 hg w5 hbox hb; have n0_ := Aside0.mk (below_step (by repeat (first | (with_reducible first | exact HB.out | apply below_alloc | apply pw_below_drewN | apply below_drew1) | exact HB.out)) hb); have n1_ := Aside0.mk (hbox); have n2_ := Aside0.mk ((by rw [hg]; exact (below_size (by repeat (first | (with_reducible first | exact HB.out | apply below_alloc | apply pw_below_drewN | apply below_drew1) | exact HB.out))) : w.heap.size ≤ gb136)); have n3_ := Aside0.mk ((by rw [hg]; exact (below_size (by repeat (first | (with_reducible first | exact HB.out | apply below_alloc | apply pw_below_drewN | apply below_drew1) | exact HB.out))) : w.heap.size ≤ gb136)); clear HB; have HB := n0_; have BK136 := n1_; have GW136 := n2_; have GE136 := n3_; clear n0_ n1_ n2_ n3_; clear hb hbox hg; have hcz6_0 : w5.cell? ⟨gb136, 0, none⟩ = some (.int .i64 a0_0) := (blk_cell BK136.out 0).trans rfl; have hcz6_1 : w5.cell? ⟨gb136, 1, none⟩ = some (.int .i64 a0_1) := (blk_cell BK136.out 1).trans rfl; have hfz6_0 := blk_frozen BK136.out 0; have hfz6_1 := blk_frozen BK136.out 1))
        go_ret
        exact ⟨by first | rfl | (simp [errW_none, errW_some] <;> rfl) | (simp [*, errW_none, errW_some] <;> rfl), by repeat (first | (with_reducible first | exact HB.out | apply below_alloc | apply pw_below_drewN | apply below_drew1 | refine below_set ?_ GE136.out) | exact HB.out)⟩
      · rw [if_neg c4] at H
        have c4b0 : decide (1 ≤ a0_1) = false := decide_eq_false c4
        clear c4
        obtain rfl := Option.some.inj H
        go_enter Tryd.func41, Tryd.ntmps41
        go_wp2_with (first | ((with_reducible refine gate_dst (N := 1) rfl ?_); refine box_event ?hg (N := 1) ?hd (cs := #[.int .i64 a0_0, .int .i64 a0_1]) (t := 25) ?hr ?_; (case hd => rfl); (case hg => rfl); (case hr => first | (go_simp; done) | (go_simp; rfl)); intro gb136 hg w7 hbox hb; have n0_ := Aside0.mk (below_step (by repeat (first | (with_reducible first | exact HB.out | apply below_alloc | apply pw_below_drewN | apply below_drew1) | exact HB.out)) hb); have n1_ := Aside0.mk (hbox); have n2_ := Aside0.mk ((by rw [hg]; exact (below_size (by repeat (first | (with_reducible first | exact HB.out | apply below_alloc | apply pw_below_drewN | apply below_drew1) | exact HB.out))) : w.heap.size ≤ gb136)); have n3_ := Aside0.mk ((by rw [hg]; exact (below_size (by repeat (first | (with_reducible first | exact HB.out | apply below_alloc | apply pw_below_drewN | apply below_drew1) | exact HB.out))) : w.heap.size ≤ gb136)); clear HB; have HB := n0_; have BK136 := n1_; have GW136 := n2_; have GE136 := n3_; clear n0_ n1_ n2_ n3_; clear hb hbox hg; have hcz8_0 : w7.cell? ⟨gb136, 0, none⟩ = some (.int .i64 a0_0) := (blk_cell BK136.out 0).trans rfl; have hcz8_1 : w7.cell? ⟨gb136, 1, none⟩ = some (.int .i64 a0_1) := (blk_cell BK136.out 1).trans rfl; have hfz8_0 := blk_frozen BK136.out 0; have hfz8_1 := blk_frozen BK136.out 1))
        go_ret
        exact ⟨by first | rfl | (simp [errW_none, errW_some] <;> rfl) | (simp [*, errW_none, errW_some] <;> rfl), by repeat (first | (with_reducible first | exact HB.out | apply below_alloc | apply pw_below_drewN | apply below_drew1 | refine below_set ?_ GE136.out) | exact HB.out)⟩
    · rw [if_neg c3] at H
      have c3b0 : decide (a0_0 ≤ 2199) = false := decide_eq_false c3
      clear c3
      obtain rfl := Option.some.inj H
      go_enter Tryd.func41, Tryd.ntmps41
      go_wp2_with (first | ((with_reducible refine gate_dst (N := 1) rfl ?_); refine box_event ?hg (N := 1) ?hd (cs := #[.int .i64 a0_0, .int .i64 a0_1]) (t := 25) ?hr ?_; (case hd => rfl); (case hg => rfl); (case hr => first | (go_simp; done) | (go_simp; rfl)); intro gb136 hg w9 hbox hb; have n0_ := Aside0.mk (below_step (by repeat (first | (with_reducible first | exact HB.out | apply below_alloc | apply pw_below_drewN | apply below_drew1) | exact HB.out)) hb); have n1_ := Aside0.mk (hbox); have n2_ := Aside0.mk ((by rw [hg]; exact (below_size (by repeat (first | (with_reducible first | exact HB.out | apply below_alloc | apply pw_below_drewN | apply below_drew1) | exact HB.out))) : w.heap.size ≤ gb136)); have n3_ := Aside0.mk ((by rw [hg]; exact (below_size (by repeat (first | (with_reducible first | exact HB.out | apply below_alloc | apply pw_below_drewN | apply below_drew1) | exact HB.out))) : w.heap.size ≤ gb136)); clear HB; have HB := n0_; have BK136 := n1_; have GW136 := n2_; have GE136 := n3_; clear n0_ n1_ n2_ n3_; clear hb hbox hg; have hcz10_0 : w9.cell? ⟨gb136, 0, none⟩ = some (.int .i64 a0_0) := (blk_cell BK136.out 0).trans rfl; have hcz10_1 : w9.cell? ⟨gb136, 1, none⟩ = some (.int .i64 a0_1) := (blk_cell BK136.out 1).trans rfl; have hfz10_0 := blk_frozen BK136.out 0; have hfz10_1 := blk_frozen BK136.out 1))
      go_ret
      exact ⟨by first | rfl | (simp [errW_none, errW_some] <;> rfl) | (simp [*, errW_none, errW_some] <;> rfl), by repeat (first | (with_reducible first | exact HB.out | apply below_alloc | apply pw_below_drewN | apply below_drew1 | refine below_set ?_ GE136.out) | exact HB.out)⟩
  · rw [if_neg c2] at H
    have c2b0 : decide (1900 ≤ a0_0) = false := decide_eq_false c2
    clear c2
    obtain rfl := Option.some.inj H
    go_enter Tryd.func41, Tryd.ntmps41
    go_wp2_with (first | ((with_reducible refine gate_dst (N := 1) rfl ?_); refine box_event ?hg (N := 1) ?hd (cs := #[.int .i64 a0_0, .int .i64 a0_1]) (t := 25) ?hr ?_; (case hd => rfl); (case hg => rfl); (case hr => first | (go_simp; done) | (go_simp; rfl)); intro gb136 hg w11 hbox hb; have n0_ := Aside0.mk (below_step (by repeat (first | (with_reducible first | exact HB.out | apply below_alloc | apply pw_below_drewN | apply below_drew1) | exact HB.out)) hb); have n1_ := Aside0.mk (hbox); have n2_ := Aside0.mk ((by rw [hg]; exact (below_size (by repeat (first | (with_reducible first | exact HB.out | apply below_alloc | apply pw_below_drewN | apply below_drew1) | exact HB.out))) : w.heap.size ≤ gb136)); have n3_ := Aside0.mk ((by rw [hg]; exact (below_size (by repeat (first | (with_reducible first | exact HB.out | apply below_alloc | apply pw_below_drewN | apply below_drew1) | exact HB.out))) : w.heap.size ≤ gb136)); clear HB; have HB := n0_; have BK136 := n1_; have GW136 := n2_; have GE136 := n3_; clear n0_ n1_ n2_ n3_; clear hb hbox hg; have hcz12_0 : w11.cell? ⟨gb136, 0, none⟩ = some (.int .i64 a0_0) := (blk_cell BK136.out 0).trans rfl; have hcz12_1 : w11.cell? ⟨gb136, 1, none⟩ = some (.int .i64 a0_1) := (blk_cell BK136.out 1).trans rfl; have hfz12_0 := blk_frozen BK136.out 0; have hfz12_1 := blk_frozen BK136.out 1))
    go_ret
    exact ⟨by first | rfl | (simp [errW_none, errW_some] <;> rfl) | (simp [*, errW_none, errW_some] <;> rfl), by repeat (first | (with_reducible first | exact HB.out | apply below_alloc | apply pw_below_drewN | apply below_drew1 | refine below_set ?_ GE136.out) | exact HB.out)⟩

/-! ### fiscal_Text: function 20 (by hand) -/
def fiscal_Text.f (y n : Int) : Option (ByteArray × Int) := (fiscal_named.f y n).bind fun b => if b = true then some (Fi.ptxt_ y n, 0) else some (⟨#[]⟩, 16)
set_option maxHeartbeats 8000000 in
set_option maxRecDepth 100000 in
theorem fiscal_Text.calls (y n : Int) (r1 : ByteArray) (r2 : Int) (w : World) (h : fiscal_Text.f y n = some (r1, r2)) :
    Calls Tryd.prog 20 #[.agg #[.int .i64 y, .int .i64 n]] w fun e w' => e = .returned (.tuple #[.string r1, .int .i64 r2]) ∧ Below w.heap.size w w' := by
  unfold fiscal_Text.f at h
  obtain ⟨b, A, h⟩ := Option.bind_eq_some_iff.mp h
  have AN := Aside0.mk A
  have HZ : Aside0 (∀ o1 : Obj, (w.alloc o1).heap[w.heap.size]? = some o1) := ⟨fun o1 => heap_alloc_new w o1⟩
  cases b
  · obtain ⟨rfl, rfl⟩ : r1 = ⟨#[]⟩ ∧ r2 = 16 := by simp at h; exact ⟨h.1.symm, h.2.symm⟩
    clear h A
    go_enter Tryd.func20, Tryd.ntmps20
    go_wp2_with (go_at_call 41; (with_reducible refine (fiscal_named.calls y n false _ AN.out).mono ?_); rintro e wA ⟨rfl, hb⟩; have BA := below_step (below_alloc (Below.refl _ _) _) hb)
    go_ret2
    exact ⟨rfl, BA⟩
  · have hin : 1900 ≤ y ∧ y ≤ 2199 ∧ 1 ≤ n ∧ n ≤ 13 := by
      unfold fiscal_named.f at A
      by_cases c1 : y ≥ 1900
      · rw [if_pos c1] at A
        by_cases c2 : y ≤ 2199
        · rw [if_pos c2] at A
          by_cases c3 : n ≥ 1
          · rw [if_pos c3] at A
            exact ⟨c1, c2, c3, of_decide_eq_true (Option.some.inj A)⟩
          · rw [if_neg c3] at A; simp at A
        · rw [if_neg c2] at A; simp at A
      · rw [if_neg c1] at A; simp at A
    obtain ⟨hy1, hy2, hn1, hn2⟩ := hin
    obtain ⟨rfl, rfl⟩ : r1 = Fi.ptxt_ y n ∧ r2 = 0 := by simp at h; exact ⟨h.1.symm, h.2.symm⟩
    clear h A
    obtain ⟨d0, e0⟩ : ∃ d, y % 10 = d := ⟨_, rfl⟩
    obtain ⟨y1, f1⟩ : ∃ d, y / 10 = d := ⟨_, rfl⟩
    obtain ⟨d1, e1⟩ : ∃ d, y1 % 10 = d := ⟨_, rfl⟩
    obtain ⟨y2, f2⟩ : ∃ d, y1 / 10 = d := ⟨_, rfl⟩
    obtain ⟨d2, e2⟩ : ∃ d, y2 % 10 = d := ⟨_, rfl⟩
    obtain ⟨d3, f3⟩ : ∃ d, y2 / 10 = d := ⟨_, rfl⟩
    obtain ⟨z, f4⟩ : ∃ d, d3 / 10 = d := ⟨_, rfl⟩
    obtain ⟨n0, g0⟩ : ∃ d, n % 10 = d := ⟨_, rfl⟩
    obtain ⟨n1, g1⟩ : ∃ d, n / 10 = d := ⟨_, rfl⟩
    have e3 : d3 % 10 = d3 := by omega
    have a0 : 0 ≤ d0 := by omega
    have a1 : 0 ≤ d1 := by omega
    have a2 : 0 ≤ d2 := by omega
    have a3 : 0 ≤ d3 := by omega
    have a4 : 0 ≤ n0 := by omega
    have a5 : 0 ≤ n1 := by omega
    have b0 : d0 ≤ 9 := by omega
    have b1 : d1 ≤ 9 := by omega
    have b2 : d2 ≤ 9 := by omega
    have b3 : d3 ≤ 9 := by omega
    have b4 : n0 ≤ 9 := by omega
    have b5 : n1 ≤ 9 := by omega
    have c1 : 0 ≤ y1 := by omega
    have c2 : 0 ≤ y2 := by omega
    have c3 : 0 ≤ y := by omega
    have c4 : 0 ≤ n := by omega
    have TX : Aside0 (Fi.ptxt_ y n = strOfNums [48 + d3, 48 + d2, 48 + d1, 48 + d0, 45, 48 + n1, 48 + n0]) := ⟨by
      have q3 : y / 1000 = d3 := by omega
      have q2 : y / 100 % 10 = d2 := by omega
      have q1 : y / 10 % 10 = d1 := by omega
      unfold Fi.ptxt_
      rw [q3, q2, q1, e0, g1, g0]
      exact Fi.txa_ _ _ _ _ _ _⟩
    go_enter Tryd.func20, Tryd.ntmps20
    go_upto_region 3 with (go_at_call 41; (with_reducible refine (fiscal_named.calls y n true _ AN.out).mono ?_); rintro e wA ⟨rfl, hb⟩; have BA := Aside0.mk (below_step (below_alloc (Below.refl _ _) _) hb); have M0 := Aside0.mk (blk_below (HZ.out _) hb); clear hb; have uc0 : wA.cell? ⟨w.heap.size, 0, none⟩ = some (.int .i64 y) := (blk_cell M0.out 0).trans rfl; have uf0 := blk_frozen M0.out 0; have uc1 : wA.cell? ⟨w.heap.size, 1, none⟩ = some (.int .i64 n) := (blk_cell M0.out 1).trans rfl; have uf1 := blk_frozen M0.out 1)
    have hl0 : w.heap.size < wA.heap.size := blk_lt M0.out
    have hl1 : w.heap.size ≠ wA.heap.size := by omega
    have cv := fun (W : World) (C : Array Value) (n c : Nat) => Lib.run_convert_bytes_const (P := Tryd.prog) W 73 5 C n c Tryd.underlying73 Tryd.underlying5
    go_upto_region 4 with (fail)
    have hbk := heap_alloc_new wA (.cells #[.int .u8 48, .int .u8 48, .int .u8 48, .int .u8 48, .int .u8 45, .int .u8 48, .int .u8 48] 5 (7, 8))
    have M1 := Aside0.mk (blk_alloc M0.out (.cells #[.int .u8 48, .int .u8 48, .int .u8 48, .int .u8 48, .int .u8 45, .int .u8 48, .int .u8 48] 5 (7, 8)))
    have BB := Aside0.mk (below_alloc BA.out (.cells #[.int .u8 48, .int .u8 48, .int .u8 48, .int .u8 48, .int .u8 45, .int .u8 48, .int .u8 48] 5 (7, 8)))
    have hle : Aside0 (w.heap.size ≤ wA.heap.size) := ⟨by omega⟩
    generalize wA.alloc (.cells #[.int .u8 48, .int .u8 48, .int .u8 48, .int .u8 48, .int .u8 45, .int .u8 48, .int .u8 48] 5 (7, 8)) = wB at hbk M1 BB ⊢
    generalize wA.heap.size = g at hbk hle hl0 hl1 ⊢
    have hl2 : g ≠ w.heap.size := Ne.symm hl1
    have gc0 : wB.cell? ⟨g, 0, none⟩ = some (.int .u8 48) := (Fi.bm_cell hbk 0).trans rfl
    have gf0 := Fi.bm_frozen hbk 0 (by decide)
    have gc1 : wB.cell? ⟨g, 1, none⟩ = some (.int .u8 48) := (Fi.bm_cell hbk 1).trans rfl
    have gf1 := Fi.bm_frozen hbk 1 (by decide)
    have gc2 : wB.cell? ⟨g, 2, none⟩ = some (.int .u8 48) := (Fi.bm_cell hbk 2).trans rfl
    have gf2 := Fi.bm_frozen hbk 2 (by decide)
    have gc3 : wB.cell? ⟨g, 3, none⟩ = some (.int .u8 48) := (Fi.bm_cell hbk 3).trans rfl
    have gf3 := Fi.bm_frozen hbk 3 (by decide)
    have gc4 : wB.cell? ⟨g, 4, none⟩ = some (.int .u8 45) := (Fi.bm_cell hbk 4).trans rfl
    have gf4 := Fi.bm_frozen hbk 4 (by decide)
    have gc5 : wB.cell? ⟨g, 5, none⟩ = some (.int .u8 48) := (Fi.bm_cell hbk 5).trans rfl
    have gf5 := Fi.bm_frozen hbk 5 (by decide)
    have gc6 : wB.cell? ⟨g, 6, none⟩ = some (.int .u8 48) := (Fi.bm_cell hbk 6).trans rfl
    have gf6 := Fi.bm_frozen hbk 6 (by decide)
    have vc0 : wB.cell? ⟨w.heap.size, 0, none⟩ = some (.int .i64 y) := (blk_cell M1.out 0).trans rfl
    have vf0 := blk_frozen M1.out 0
    have vc1 : wB.cell? ⟨w.heap.size, 1, none⟩ = some (.int .i64 n) := (blk_cell M1.out 1).trans rfl
    have vf1 := blk_frozen M1.out 1
    have HBK := Aside0.mk hbk
    have LS := Aside0.mk hl1
    clear hbk uc0 uc1 uf0 uf1 cv
    go_wp2
    refine wp_loop_rounds 5 ?_
    rw [rounds_succ]
    go_wp2
    rw [rounds_succ]
    go_wp2
    rw [rounds_succ]
    go_wp2
    rw [rounds_succ]
    go_wp2
    rw [rounds_succ]
    go_wp2
    go_region
    go_wp2
    go_region
    go_upto_region 13 with (fail)
    have hfin0 : ((((((wB.setCell ⟨g, 3, none⟩ (.int .u8 (48 + d0))).setCell ⟨g, 2, none⟩ (.int .u8 (48 + d1))).setCell ⟨g, 1, none⟩ (.int .u8 (48 + d2))).setCell ⟨g, 0, none⟩ (.int .u8 (48 + d3))).setCell ⟨g, 5, none⟩ (.int .u8 (48 + n1))).setCell ⟨g, 6, none⟩ (.int .u8 (48 + n0))).heap[g]? = some (.cells #[.int .u8 (48 + d3), .int .u8 (48 + d2), .int .u8 (48 + d1), .int .u8 (48 + d0), .int .u8 45, .int .u8 (48 + n1), .int .u8 (48 + n0)] 5 (7, 8)) := (Fi.bm_put (cs := #[.int .u8 (48 + d3), .int .u8 (48 + d2), .int .u8 (48 + d1), .int .u8 (48 + d0), .int .u8 45, .int .u8 (48 + n1), .int .u8 48]) (Fi.bm_put (cs := #[.int .u8 (48 + d3), .int .u8 (48 + d2), .int .u8 (48 + d1), .int .u8 (48 + d0), .int .u8 45, .int .u8 48, .int .u8 48]) (Fi.bm_put (cs := #[.int .u8 48, .int .u8 (48 + d2), .int .u8 (48 + d1), .int .u8 (48 + d0), .int .u8 45, .int .u8 48, .int .u8 48]) (Fi.bm_put (cs := #[.int .u8 48, .int .u8 48, .int .u8 (48 + d1), .int .u8 (48 + d0), .int .u8 45, .int .u8 48, .int .u8 48]) (Fi.bm_put (cs := #[.int .u8 48, .int .u8 48, .int .u8 48, .int .u8 (48 + d0), .int .u8 45, .int .u8 48, .int .u8 48]) (Fi.bm_put (cs := #[.int .u8 48, .int .u8 48, .int .u8 48, .int .u8 48, .int .u8 45, .int .u8 48, .int .u8 48]) HBK.out 3 _ rfl) 2 _ rfl) 1 _ rfl) 0 _ rfl) 5 _ rfl) 6 _ rfl)
    have hfin : ((((((wB.setCell ⟨g, 3, none⟩ (.int .u8 (48 + d0))).setCell ⟨g, 2, none⟩ (.int .u8 (48 + d1))).setCell ⟨g, 1, none⟩ (.int .u8 (48 + d2))).setCell ⟨g, 0, none⟩ (.int .u8 (48 + d3))).setCell ⟨g, 5, none⟩ (.int .u8 (48 + n1))).setCell ⟨g, 6, none⟩ (.int .u8 (48 + n0))).drew.drew.heap[g]? = some (.cells #[.int .u8 (48 + d3), .int .u8 (48 + d2), .int .u8 (48 + d1), .int .u8 (48 + d0), .int .u8 45, .int .u8 (48 + n1), .int .u8 (48 + n0)] 5 (7, 8)) := blk_drew (blk_drew hfin0)
    clear hfin0
    have hbel : Below w.heap.size w ((((((wB.setCell ⟨g, 3, none⟩ (.int .u8 (48 + d0))).setCell ⟨g, 2, none⟩ (.int .u8 (48 + d1))).setCell ⟨g, 1, none⟩ (.int .u8 (48 + d2))).setCell ⟨g, 0, none⟩ (.int .u8 (48 + d3))).setCell ⟨g, 5, none⟩ (.int .u8 (48 + n1))).setCell ⟨g, 6, none⟩ (.int .u8 (48 + n0))).drew.drew := below_drew (below_drew (below_set (below_set (below_set (below_set (below_set (below_set BB.out hle.out) hle.out) hle.out) hle.out) hle.out) hle.out))
    generalize ((((((wB.setCell ⟨g, 3, none⟩ (.int .u8 (48 + d0))).setCell ⟨g, 2, none⟩ (.int .u8 (48 + d1))).setCell ⟨g, 1, none⟩ (.int .u8 (48 + d2))).setCell ⟨g, 0, none⟩ (.int .u8 (48 + d3))).setCell ⟨g, 5, none⟩ (.int .u8 (48 + n1))).setCell ⟨g, 6, none⟩ (.int .u8 (48 + n0))).drew.drew = wC at hfin hbel ⊢
    have HF := Aside0.mk hbel
    have cvs := run_convert_bytes_arg (P := Tryd.prog) (w := wC) 73 5 Tryd.underlying73 Tryd.underlying5 g 0 7 7 [48 + d3, 48 + d2, 48 + d1, 48 + d0, 45, 48 + n1, 48 + n0] rfl (fun i hi => by
      rw [Nat.zero_add, Fi.bm_cell hfin]
      match i, hi with
      | 0, _ => rfl | 1, _ => rfl | 2, _ => rfl | 3, _ => rfl | 4, _ => rfl | 5, _ => rfl | 6, _ => rfl
      | n + 7, h => exact absurd h (by omega)) 9 Tryd.underlying9
    rw [← TX.out] at cvs
    clear hbel hfin
    go_wp2
    go_ret2
    exact ⟨rfl, HF.out⟩

/-! ### fiscal_Parse: function 22 (by hand) -/
def dg_ (s : ByteArray) (i : Int) : Bool := decide (48 ≤ bt s i) && decide (bt s i ≤ 57)
def fpar_ (s : ByteArray) : Nat → Nat → Int → Int → Option (Int × Int × Int)
  | 0, _, y, n => (fiscal_named.f y n).bind fun b => if b = true then some (y, n, 0) else some (0, 0, 16)
  | d + 1, k, y, n => if k = 4 then fpar_ s d (k + 1) y n else if dg_ s k = true then (if k < 4 then fpar_ s d (k + 1) (y * 10 + (bt s k - 48)) n else fpar_ s d (k + 1) y (n * 10 + (bt s k - 48))) else some (0, 0, 5)
def fiscal_Parse.f (a0 : ByteArray) : Option (Int × Int × Int) :=
  if (a0.size : Int) = 7 then (if bt a0 4 = 45 then fpar_ a0 7 0 0 0 else some (0, 0, 5)) else some (0, 0, 5)
def fbd_ (k : Nat) : Int := 10 ^ k
theorem fbd_s_ (k : Nat) : fbd_ (k + 1) = 10 * fbd_ k := by unfold fbd_; rw [Int.pow_succ]; omega
theorem fbd_le_ {k : Nat} (h : k ≤ 7) : fbd_ k ≤ 10000000 := by
  rcases (by omega : k = 0 ∨ k = 1 ∨ k = 2 ∨ k = 3 ∨ k = 4 ∨ k = 5 ∨ k = 6 ∨ k = 7) with rfl | rfl | rfl | rfl | rfl | rfl | rfl | rfl <;> decide
open Go.Proofs.YtghheaimgjkccaaDoor.Fi
set_option maxHeartbeats 8000000 in
set_option maxRecDepth 100000 in
theorem fiscal_Parse.calls (a0 : ByteArray) (r1 : Int) (r2 : Int) (r3 : Int) (w : World) (h : fiscal_Parse.f a0 = some (r1, r2, r3)) :
    Calls Tryd.prog 22 #[.string a0] w fun e w' => e = .returned (.tuple #[.agg #[.int .i64 r1, .int .i64 r2], .int .i64 r3]) ∧ Below w.heap.size w w' := by
  unfold fiscal_Parse.f at h
  have q0 : ∀ h : 4 < a0.size, (((a0[4]'h).toNat : Nat) : Int) = bt a0 4 := bt_at a0 4
  have huP := Tryd.underlying25
  by_cases c1 : (a0.size : Int) = 7
  · rw [if_pos c1] at h
    have e1 : ((a0.size : Int) == 7) = true := beq_iff_eq.mpr c1
    have e2 : ((a0.size : Int) != 7) = false := bne_eq_false_iff_eq.mpr c1
    have p4 : (4 : Int) < (a0.size : Int) := by omega
    have d4 : decide (4 < (a0.size : Int)) = true := decide_eq_true p4
    have d4' : decide (4 < a0.size) = true := decide_eq_true (by omega)
    have t4 := eq_true p4
    by_cases c2 : bt a0 4 = 45
    · rw [if_pos c2] at h
      have e3 : (bt a0 4 == 45) = true := beq_iff_eq.mpr c2
      have e4 : (bt a0 4 != 45) = false := bne_eq_false_iff_eq.mpr c2
      have C1 := Aside0.mk c1
      have C2 := Aside0.mk c2
      clear c1 c2
      have HH := Aside0.mk h
      clear h
      go_enter Tryd.func22, Tryd.ntmps22
      go_upto_region 3 with ((with_reducible refine gate_dst (N := 2) rfl ?_); refine box_event ?hg (N := 2) ?hd (cs := #[.int .i64 0, .int .i64 0]) (t := 25) ?hr ?_; (case hd => rfl); (case hg => rfl); (case hr => first | (go_simp; done) | (go_simp; rfl)); intro gb hg w1 hbox hb; have GE : Aside0 (w.heap.size ≤ gb) := (⟨by rw [hg]; exact Nat.le_refl _⟩); clear hg)
      have GI : Aside0 (gb < w1.heap.size) := ⟨(Array.getElem?_eq_some_iff.1 hbox).1⟩
      have BX := Aside0.mk hbox
      have HB := Aside0.mk hb
      clear hbox hb
      go_wp2
      go_loopg [] 7 (fun g wx => ∃ (k : Nat) (y n : Int), k + g = 7 ∧ wx.heap[gb]? = some (.cells #[.int .i64 y, .int .i64 n] 25 (0, 0)) ∧ wx.heap[w1.heap.size]? = some (.stringIter a0 k) ∧ Below w.heap.size w wx ∧ (0 ≤ y ∧ y + 1 ≤ fbd_ k) ∧ (0 ≤ n ∧ n + 1 ≤ fbd_ k) ∧ fpar_ a0 g k y n = some (r1, r2, r3))
      case atStart => exact ⟨0, 0, 0, rfl, (Below.heap_alloc _ _ _ GI.out).trans BX.out, heap_alloc_new _ _, below_alloc HB.out _, ⟨by decide, by decide⟩, ⟨by decide, by decide⟩, HH.out⟩
      case round =>
        obtain ⟨k, y, n, hg, hbox, hit, hb, hY, hN, hF⟩ := hrel
        clear HH
        have ne : gb ≠ w1.heap.size := by have := GI.out; omega
        have hq : w.heap.size ≤ w1.heap.size := by have := GI.out; have := GE.out; omega
        by_cases hk : k < 7
        · have hs : k < a0.size := by have := C1.out; omega
          have nx := iter_next (P := Tryd.prog) hit hs
          have b2 : (itW wr w1.heap.size a0 (k + (Utf8.decode a0 k).2)).heap[gb]? = some (.cells #[.int .i64 y, .int .i64 n] 25 (0, 0)) := (itW_other ne).trans hbox
          have i2 : (itW wr w1.heap.size a0 (k + (Utf8.decode a0 k).2)).heap[w1.heap.size]? = some (.stringIter a0 (k + (Utf8.decode a0 k).2)) := itW_same (Array.getElem?_eq_some_iff.1 hit).1
          have B2 := itW_below (s := a0) (p := k + (Utf8.decode a0 k).2) hq hb
          generalize itW wr w1.heap.size a0 (k + (Utf8.decode a0 k).2) = w2 at nx b2 i2 B2
          obtain ⟨g, rfl⟩ : ∃ m, gk = m + 1 := ⟨gk - 1, by omega⟩
          have qk : ∀ h : k < a0.size, (((a0[k]'h).toNat : Nat) : Int) = bt a0 k := bt_at a0 k
          have rk := bt_range a0 k
          have ha : bt a0 k < 128 → k + (Utf8.decode a0 k).2 = k + 1 := fun hlt => by rw [decode_ascii a0 k hs (by have := qk hs; omega)]
          have s1 : decide ((k : Int) < (a0.size : Int)) = true := decide_eq_true (by omega)
          have s1' : decide (k < a0.size) = true := decide_eq_true hs
          have s2 := eq_true hs
          have s3 : ((k : Int) < (a0.size : Int)) = True := eq_true (by omega)
          rw [fpar_] at hF
          have HIT := Aside0.mk hit
          have HG := Aside0.mk hg
          have I2 := Aside0.mk i2
          have BB2 := Aside0.mk B2
          have BX2 := Aside0.mk b2
          have HY := Aside0.mk hY
          have HN := Aside0.mk hN
          have HA := Aside0.mk ha
          have zc0 : w2.cell? ⟨gb, 0, none⟩ = some (.int .i64 y) := (blk_cell b2 0).trans rfl
          have zc1 : w2.cell? ⟨gb, 1, none⟩ = some (.int .i64 n) := (blk_cell b2 1).trans rfl
          have zf0 := blk_frozen b2 0
          have zf1 := blk_frozen b2 1
          clear hit hb hg i2 B2 b2 hbox hY hN ha hk
          by_cases k4 : k = 4
          · subst k4
            rw [if_pos rfl] at hF
            have HF := Aside0.mk hF
            clear hF
            have C5 := HA.out (by rw [show ((4 : Nat) : Int) = 4 from rfl, C2.out]; decide)
            rw [C5] at I2
            have v1 : bt a0 4 = 45 := C2.out
            have qk' : ∀ h : 4 < a0.size, (((a0[4]'h).toNat : Nat) : Int) = 45 := fun h => (qk h).trans v1
            clear qk q0 C5 rk v1 C2 HA
            go_wp2
            go_roundg g
            case measure => omega
            case rel => exact ⟨5, y, n, by have := HG.out; omega, BX2.out, I2.out, BB2.out, ⟨HY.out.1, by have := HY.out.2; have : fbd_ 5 = 10 * fbd_ 4 := fbd_s_ 4; have := HY.out.1; omega⟩, ⟨HN.out.1, by have := HN.out.2; have : fbd_ 5 = 10 * fbd_ 4 := fbd_s_ 4; have := HN.out.1; omega⟩, HF.out⟩
          · rw [if_neg k4] at hF
            have f4 : ((k : Int) == 4) = false := beq_eq_false_iff_ne.mpr (by omega)
            have f4' : ((k : Int) != 4) = true := bne_iff_ne.mpr (by omega)
            by_cases hd : dg_ a0 k = true
            · rw [if_pos hd] at hF
              have hdd : 48 ≤ bt a0 k ∧ bt a0 k ≤ 57 := by unfold dg_ at hd; rw [Bool.and_eq_true] at hd; exact ⟨of_decide_eq_true hd.1, of_decide_eq_true hd.2⟩
              have u1 : decide (48 ≤ bt a0 k) = true := decide_eq_true hdd.1
              have u2 : decide (bt a0 k ≤ 57) = true := decide_eq_true hdd.2
              have C5 := HA.out (by omega)
              rw [C5] at I2
              have bb := fbd_s_ k
              have bl := fbd_le_ (k := k) (by have := HG.out; omega)
              have y1 := HY.out.1
              have y2 := HY.out.2
              have n1 := HN.out.1
              have n2 := HN.out.2
              have wc : IntKind.u8.wrap (bt a0 k - 48) = bt a0 k - 48 := by rw [IntKind.wrap_u8]; omega
              have wd : IntKind.i64.wrap (bt a0 k - 48) = bt a0 k - 48 := IntWalk.i64_in _ (by omega)
              have wm : IntKind.i64.wrap (y * 10) = y * 10 := IntWalk.i64_in _ (by omega)
              have wm' : IntKind.i64.wrap (n * 10) = n * 10 := IntWalk.i64_in _ (by omega)
              have wa : IntKind.i64.wrap (y * 10 + (bt a0 k - 48)) = y * 10 + (bt a0 k - 48) := IntWalk.i64_in _ (by omega)
              have wa' : IntKind.i64.wrap (n * 10 + (bt a0 k - 48)) = n * 10 + (bt a0 k - 48) := IntWalk.i64_in _ (by omega)
              have BD : Aside0 (48 ≤ bt a0 k ∧ bt a0 k ≤ 57 ∧ fbd_ (k + 1) = 10 * fbd_ k ∧ fbd_ k ≤ 10000000) := ⟨⟨hdd.1, hdd.2, bb, bl⟩⟩
              clear hd hdd rk C5 HA y1 y2 n1 n2 bb bl
              have K4 := Aside0.mk k4
              clear k4
              by_cases h4 : k < 4
              · rw [if_pos h4] at hF
                have HF := Aside0.mk hF
                clear hF
                have l1 : decide ((k : Int) < 4) = true := decide_eq_true (by omega)
                clear h4
                go_wp2
                go_region
                go_wp2
                go_roundg g
                case measure => omega
                case rel => exact ⟨k + 1, y * 10 + (bt a0 k - 48), n, by have := HG.out; omega, blk_put (cs := #[.int .i64 y, .int .i64 n]) BX2.out 0 _ rfl, (Below.heap_setCell _ _ _ _ (Ne.symm ne)).trans I2.out, below_drew (below_set BB2.out GE.out), ⟨by have := BD.out; have := HY.out; omega, by have := BD.out; have := HY.out; omega⟩, ⟨by have := BD.out; have := HN.out; omega, by have := BD.out; have := HN.out; omega⟩, HF.out⟩
              · rw [if_neg h4] at hF
                have HF := Aside0.mk hF
                clear hF
                have l1 : decide ((k : Int) < 4) = false := decide_eq_false (by omega)
                have l2 : decide (4 < (k : Int)) = true := decide_eq_true (by have := K4.out; omega)
                clear h4
                go_wp2
                go_region
                go_wp2
                go_roundg g
                case measure => omega
                case rel => exact ⟨k + 1, y, n * 10 + (bt a0 k - 48), by have := HG.out; omega, blk_put (cs := #[.int .i64 y, .int .i64 n]) BX2.out 1 _ rfl, (Below.heap_setCell _ _ _ _ (Ne.symm ne)).trans I2.out, below_drew (below_set BB2.out GE.out), ⟨by have := BD.out; have := HY.out; omega, by have := BD.out; have := HY.out; omega⟩, ⟨by have := BD.out; have := HN.out; omega, by have := BD.out; have := HN.out; omega⟩, HF.out⟩
            · rw [if_neg hd] at hF
              obtain ⟨rfl, rfl, rfl⟩ := Fi.fparse_bad_ hF
              clear hF
              have K4 := Aside0.mk k4
              clear k4
              by_cases h48 : 48 ≤ bt a0 k
              · have h57 : ¬ bt a0 k ≤ 57 := by intro h57; exact hd (by unfold dg_; rw [decide_eq_true h48, decide_eq_true h57]; rfl)
                have u1 : decide (48 ≤ bt a0 k) = true := decide_eq_true h48
                have u2 : decide (bt a0 k ≤ 57) = false := decide_eq_false h57
                clear h48 h57 hd rk
                go_wp2
                refine bodyPost_ret (results_ct rfl _ _ gb 25 #[.int .i64 0, .int .i64 0] (0, 0) _ rfl (by refine blk_put (cs := #[.int .i64 0, .int .i64 n]) ?_ 1 _ rfl; refine blk_put (cs := #[.int .i64 y, .int .i64 n]) ?_ 0 _ rfl; exact BX2.out) huP rfl (by kernel_rfl)) rfl ?_
                exact ⟨rfl, below_set (below_set BB2.out GE.out) GE.out⟩
              · have u1 : decide (48 ≤ bt a0 k) = false := decide_eq_false h48
                clear h48 hd rk
                go_wp2
                refine bodyPost_ret (results_ct rfl _ _ gb 25 #[.int .i64 0, .int .i64 0] (0, 0) _ rfl (by refine blk_put (cs := #[.int .i64 0, .int .i64 n]) ?_ 1 _ rfl; refine blk_put (cs := #[.int .i64 y, .int .i64 n]) ?_ 0 _ rfl; exact BX2.out) huP rfl (by kernel_rfl)) rfl ?_
                exact ⟨rfl, below_set (below_set BB2.out GE.out) GE.out⟩
        · obtain rfl : k = 7 := by omega
          obtain rfl : gk = 0 := by omega
          have nx := iter_end (P := Tryd.prog) hit (show ¬ 7 < a0.size by have := C1.out; omega)
          rw [fpar_] at hF
          obtain ⟨b, hb1, hb2⟩ := Option.bind_eq_some_iff.mp hF
          have HB1 := Aside0.mk hb1
          have HB2 := Aside0.mk hb2
          have BB := Aside0.mk hb
          have BX2 := Aside0.mk hbox
          have zc0 : wr.cell? ⟨gb, 0, none⟩ = some (.int .i64 y) := (blk_cell hbox 0).trans rfl
          have zc1 : wr.cell? ⟨gb, 1, none⟩ = some (.int .i64 n) := (blk_cell hbox 1).trans rfl
          clear hit hF hb1 hb2 hb hbox hY hN hg hk
          cases b
          · obtain ⟨rfl, rfl, rfl⟩ := Fi.fparse_bad_ (show (some (0, 0, 16) : Option (Int × Int × Int)) = some (r1, r2, r3) from HB2.out)
            go_wp2_with (go_at_call 41; (with_reducible refine (fiscal_named.calls y n false _ HB1.out).mono ?_); rintro e w' ⟨rfl, hb3⟩; have m0 := blk_below BX2.out hb3; have z0 : w'.cell? ⟨gb, 0, none⟩ = some (.int .i64 y) := (blk_cell m0 0).trans rfl; have z1 : w'.cell? ⟨gb, 1, none⟩ = some (.int .i64 n) := (blk_cell m0 1).trans rfl; have f0 := blk_frozen m0 0; have f1 := blk_frozen m0 1)
            refine bodyPost_ret (results_ct rfl _ _ gb 25 #[.int .i64 0, .int .i64 0] (0, 0) _ rfl (by refine blk_put (cs := #[.int .i64 0, .int .i64 n]) ?_ 1 _ rfl; refine blk_put (cs := #[.int .i64 y, .int .i64 n]) ?_ 0 _ rfl; exact m0) huP rfl (by kernel_rfl)) rfl ?_
            exact ⟨rfl, below_set (below_set (below_step BB.out hb3) GE.out) GE.out⟩
          · obtain ⟨rfl, rfl, rfl⟩ := Fi.fparse_bad_ (show (some (y, n, 0) : Option (Int × Int × Int)) = some (r1, r2, r3) from HB2.out)
            go_wp2_with (go_at_call 41; (with_reducible refine (fiscal_named.calls r1 r2 true _ HB1.out).mono ?_); rintro e w' ⟨rfl, hb3⟩; have m0 := blk_below BX2.out hb3; have z0 : w'.cell? ⟨gb, 0, none⟩ = some (.int .i64 r1) := (blk_cell m0 0).trans rfl; have z1 : w'.cell? ⟨gb, 1, none⟩ = some (.int .i64 r2) := (blk_cell m0 1).trans rfl; have f0 := blk_frozen m0 0; have f1 := blk_frozen m0 1)
            refine bodyPost_ret (results_ct rfl _ _ gb 25 #[.int .i64 r1, .int .i64 r2] (0, 0) _ rfl (by refine blk_put (cs := #[.int .i64 r1, .int .i64 r2]) ?_ 1 _ rfl; refine blk_put (cs := #[.int .i64 r1, .int .i64 r2]) ?_ 0 _ rfl; exact m0) huP rfl (by kernel_rfl)) rfl ?_
            exact ⟨rfl, below_set (below_set (below_step BB.out hb3) GE.out) GE.out⟩
    · rw [if_neg c2] at h
      obtain ⟨rfl, rfl, rfl⟩ := Fi.fparse_bad_ h
      have e3 : (bt a0 4 == 45) = false := beq_eq_false_iff_ne.mpr c2
      have e4 : (bt a0 4 != 45) = true := bne_iff_ne.mpr c2
      clear c1 c2 h p4
      go_enter Tryd.func22, Tryd.ntmps22
      go_wp2_with ((with_reducible refine gate_dst (N := 2) rfl ?_); refine box_event ?hg (N := 2) ?hd (cs := #[.int .i64 0, .int .i64 0]) (t := 25) ?hr ?_; (case hd => rfl); (case hg => rfl); (case hr => first | (go_simp; done) | (go_simp; rfl)); intro gb hg w1 hbox hb; have GE : Aside0 (w.heap.size ≤ gb) := (⟨by rw [hg]; exact Nat.le_refl _⟩); clear hg; have zc0 : w1.cell? ⟨gb, 0, none⟩ = some (.int .i64 0) := (blk_cell hbox 0).trans rfl; have zc1 : w1.cell? ⟨gb, 1, none⟩ = some (.int .i64 0) := (blk_cell hbox 1).trans rfl; have zf0 := blk_frozen hbox 0; have zf1 := blk_frozen hbox 1)
      refine bodyPost_ret (results_ct rfl _ _ gb 25 #[.int .i64 0, .int .i64 0] (0, 0) _ rfl (by refine blk_put (cs := #[.int .i64 0, .int .i64 0]) ?_ 1 _ rfl; refine blk_put (cs := #[.int .i64 0, .int .i64 0]) ?_ 0 _ rfl; exact hbox) Tryd.underlying25 rfl (by kernel_rfl)) rfl ?_
      exact ⟨rfl, below_set (below_set hb GE.out) GE.out⟩
  · rw [if_neg c1] at h
    obtain ⟨rfl, rfl, rfl⟩ := Fi.fparse_bad_ h
    have e1 : ((a0.size : Int) == 7) = false := beq_eq_false_iff_ne.mpr c1
    have e2 : ((a0.size : Int) != 7) = true := bne_iff_ne.mpr c1
    clear c1 h
    go_enter Tryd.func22, Tryd.ntmps22
    go_wp2_with ((with_reducible refine gate_dst (N := 2) rfl ?_); refine box_event ?hg (N := 2) ?hd (cs := #[.int .i64 0, .int .i64 0]) (t := 25) ?hr ?_; (case hd => rfl); (case hg => rfl); (case hr => first | (go_simp; done) | (go_simp; rfl)); intro gb hg w1 hbox hb; have GE : Aside0 (w.heap.size ≤ gb) := (⟨by rw [hg]; exact Nat.le_refl _⟩); clear hg; have zc0 : w1.cell? ⟨gb, 0, none⟩ = some (.int .i64 0) := (blk_cell hbox 0).trans rfl; have zc1 : w1.cell? ⟨gb, 1, none⟩ = some (.int .i64 0) := (blk_cell hbox 1).trans rfl; have zf0 := blk_frozen hbox 0; have zf1 := blk_frozen hbox 1)
    refine bodyPost_ret (results_ct rfl _ _ gb 25 #[.int .i64 0, .int .i64 0] (0, 0) _ rfl (by refine blk_put (cs := #[.int .i64 0, .int .i64 0]) ?_ 1 _ rfl; refine blk_put (cs := #[.int .i64 0, .int .i64 0]) ?_ 0 _ rfl; exact hbox) Tryd.underlying25 rfl (by kernel_rfl)) rfl ?_
    exact ⟨rfl, below_set (below_set hb GE.out) GE.out⟩

/-! ### fiscal_step: function 44 (by hand) -/
def fiscal_step.f (k : Nat) (a0_0 a1_0 a1_1 a2_0 a2_1 : Int) : Option (Int × Int × Int) := (fiscal_Right.f a0_0).bind fun b => if b = true then ((fiscal_exists.f k a0_0 a1_0 a1_1).bind fun b => if b = true then ((fiscal_exists.f k a0_0 a2_0 a2_1).bind fun b => if b = true then some (a2_0, a2_1, 0) else some (0, 0, 16)) else some (0, 0, 16)) else some (0, 0, 2)
theorem fiscal_step.mono : ∀ a0 a1 a2 a3 a4 k, LeO (fiscal_step.f k a0 a1 a2 a3 a4) (fiscal_step.f (k + 1) a0 a1 a2 a3 a4) := by
  intro a0 a1 a2 a3 a4 k
  unfold fiscal_step.f
  repeat' first
      | (with_reducible exact fiscal_exists.mono _ _ _ _)
      | (with_reducible exact LeO.refl _)
      | (with_reducible exact LeO.none _)
      | (with_reducible refine LeO.ite ?_ ?_)
      | (with_reducible refine LeO.bind ?_ (fun _ => ?_))
set_option maxHeartbeats 8000000 in
set_option maxRecDepth 100000 in
theorem fiscal_step.calls (k : Nat) (a0_0 a1_0 a1_1 a2_0 a2_1 r1 r2 r3 : Int) (w : World) (hLd : Laid w) (h : fiscal_step.f k a0_0 a1_0 a1_1 a2_0 a2_1 = some (r1, r2, r3)) :
    Calls Tryd.prog 44 #[.agg #[.int .i64 a0_0], .agg #[.int .i64 a1_0, .int .i64 a1_1], .agg #[.int .i64 a2_0, .int .i64 a2_1]] w fun e w' => e = .returned (.tuple #[.agg #[.int .i64 r1, .int .i64 r2], .int .i64 r3]) ∧ Below w.heap.size w w' := by
  have HL := Aside0.mk hLd
  clear hLd
  unfold fiscal_step.f at h
  have Z0 : Aside0 (∀ o0 o1 o2 o3 : Obj, ((((w.alloc o0).alloc o1).alloc o2).alloc o3).heap[w.heap.size]? = some o0) := ⟨fun o0 o1 o2 o3 => by
    have q := heap_alloc_new w o0
    have e : w.heap.size = w.heap.size := by simp
    rw [e] at q
    have q := blk_alloc q o1
    have q := blk_alloc q o2
    have q := blk_alloc q o3
    exact q⟩
  have Z1 : Aside0 (∀ o0 o1 o2 o3 : Obj, ((((w.alloc o0).alloc o1).alloc o2).alloc o3).heap[w.heap.size + 1]? = some o1) := ⟨fun o0 o1 o2 o3 => by
    have q := heap_alloc_new (w.alloc o0) o1
    have e : (w.alloc o0).heap.size = w.heap.size + 1 := by simp
    rw [e] at q
    have q := blk_alloc q o2
    have q := blk_alloc q o3
    exact q⟩
  have Z2 : Aside0 (∀ o0 o1 o2 o3 : Obj, ((((w.alloc o0).alloc o1).alloc o2).alloc o3).heap[w.heap.size + 1 + 1]? = some o2) := ⟨fun o0 o1 o2 o3 => by
    have q := heap_alloc_new ((w.alloc o0).alloc o1) o2
    have e : ((w.alloc o0).alloc o1).heap.size = w.heap.size + 1 + 1 := by simp
    rw [e] at q
    have q := blk_alloc q o3
    exact q⟩
  have Z3 : Aside0 (∀ o0 o1 o2 o3 : Obj, ((((w.alloc o0).alloc o1).alloc o2).alloc o3).heap[w.heap.size + 1 + 1 + 1]? = some o3) := ⟨fun o0 o1 o2 o3 => by
    have q := heap_alloc_new (((w.alloc o0).alloc o1).alloc o2) o3
    have e : (((w.alloc o0).alloc o1).alloc o2).heap.size = w.heap.size + 1 + 1 + 1 := by simp
    rw [e] at q
    exact q⟩
  have LE : Aside0 (w.heap.size ≤ w.heap.size + 1 + 1 + 1) := ⟨by omega⟩
  obtain ⟨b, V, h⟩ := Option.bind_eq_some_iff.mp h
  have V0 := Aside0.mk V
  clear V
  cases b
  · obtain ⟨rfl, rfl, rfl⟩ := Fi.fparse_bad_ (show (some (0, 0, 2) : Option (Int × Int × Int)) = some (r1, r2, r3) from h)
    clear h
    go_enter Tryd.func44, Tryd.ntmps44
    go_wp2_with (first | (go_at_call 13; (with_reducible refine (fiscal_Right.calls a0_0 false _ V0.out).mono ?_); rintro e wA ⟨rfl, hb⟩; have A0 := Aside0.mk (blk_below (Z0.out _ _ _ _) hb); have A1 := Aside0.mk (blk_below (Z1.out _ _ _ _) hb); have A2 := Aside0.mk (blk_below (Z2.out _ _ _ _) hb); have A3 := Aside0.mk (blk_below (Z3.out _ _ _ _) hb); have AB := Aside0.mk (below_step (below_alloc (below_alloc (below_alloc (below_alloc (Below.refl _ _) _) _) _) _) hb); clear hb; have wA0c0 : wA.cell? ⟨w.heap.size, 0, none⟩ = some (.int .i64 a0_0) := (blk_cell A0.out 0).trans rfl; have wA1c0 : wA.cell? ⟨w.heap.size + 1, 0, none⟩ = some (.int .i64 a1_0) := (blk_cell A1.out 0).trans rfl; have wA1c1 : wA.cell? ⟨w.heap.size + 1, 1, none⟩ = some (.int .i64 a1_1) := (blk_cell A1.out 1).trans rfl; have wA2c0 : wA.cell? ⟨w.heap.size + 1 + 1, 0, none⟩ = some (.int .i64 a2_0) := (blk_cell A2.out 0).trans rfl; have wA2c1 : wA.cell? ⟨w.heap.size + 1 + 1, 1, none⟩ = some (.int .i64 a2_1) := (blk_cell A2.out 1).trans rfl; have wA3c0 : wA.cell? ⟨w.heap.size + 1 + 1 + 1, 0, none⟩ = some (.int .i64 0) := (blk_cell A3.out 0).trans rfl; have wA3c1 : wA.cell? ⟨w.heap.size + 1 + 1 + 1, 1, none⟩ = some (.int .i64 0) := (blk_cell A3.out 1).trans rfl; have wA3f0 := blk_frozen A3.out 0; have wA3f1 := blk_frozen A3.out 1))
    refine bodyPost_ret (results_ct rfl _ _ (w.heap.size + 1 + 1 + 1) 25 #[.int .i64 0, .int .i64 0] (0, 0) _ rfl (by refine blk_put (cs := #[.int .i64 0, .int .i64 0]) ?_ 1 _ rfl; refine blk_put (cs := #[.int .i64 0, .int .i64 0]) ?_ 0 _ rfl; exact A3.out) Tryd.underlying25 rfl (by kernel_rfl)) rfl ?_
    exact ⟨rfl, below_set (below_set AB.out LE.out) LE.out⟩
  · rw [if_pos rfl] at h
    obtain ⟨b, V, h⟩ := Option.bind_eq_some_iff.mp h
    have V1 := Aside0.mk V
    clear V
    cases b
    · obtain ⟨rfl, rfl, rfl⟩ := Fi.fparse_bad_ (show (some (0, 0, 16) : Option (Int × Int × Int)) = some (r1, r2, r3) from h)
      clear h
      go_enter Tryd.func44, Tryd.ntmps44
      go_wp2_with (first | (go_at_call 13; (with_reducible refine (fiscal_Right.calls a0_0 true _ V0.out).mono ?_); rintro e wA ⟨rfl, hb⟩; have A0 := Aside0.mk (blk_below (Z0.out _ _ _ _) hb); have A1 := Aside0.mk (blk_below (Z1.out _ _ _ _) hb); have A2 := Aside0.mk (blk_below (Z2.out _ _ _ _) hb); have A3 := Aside0.mk (blk_below (Z3.out _ _ _ _) hb); have AB := Aside0.mk (below_step (below_alloc (below_alloc (below_alloc (below_alloc (Below.refl _ _) _) _) _) _) hb); clear hb; have wA0c0 : wA.cell? ⟨w.heap.size, 0, none⟩ = some (.int .i64 a0_0) := (blk_cell A0.out 0).trans rfl; have wA1c0 : wA.cell? ⟨w.heap.size + 1, 0, none⟩ = some (.int .i64 a1_0) := (blk_cell A1.out 0).trans rfl; have wA1c1 : wA.cell? ⟨w.heap.size + 1, 1, none⟩ = some (.int .i64 a1_1) := (blk_cell A1.out 1).trans rfl; have wA2c0 : wA.cell? ⟨w.heap.size + 1 + 1, 0, none⟩ = some (.int .i64 a2_0) := (blk_cell A2.out 0).trans rfl; have wA2c1 : wA.cell? ⟨w.heap.size + 1 + 1, 1, none⟩ = some (.int .i64 a2_1) := (blk_cell A2.out 1).trans rfl; have wA3c0 : wA.cell? ⟨w.heap.size + 1 + 1 + 1, 0, none⟩ = some (.int .i64 0) := (blk_cell A3.out 0).trans rfl; have wA3c1 : wA.cell? ⟨w.heap.size + 1 + 1 + 1, 1, none⟩ = some (.int .i64 0) := (blk_cell A3.out 1).trans rfl; have wA3f0 := blk_frozen A3.out 0; have wA3f1 := blk_frozen A3.out 1) | (go_at_call 32; (with_reducible refine (fiscal_exists.calls k a0_0 a1_0 a1_1 false _ (Laid.below HL.out AB.out) V1.out).mono ?_); rintro e wB ⟨rfl, hb⟩; have B0 := Aside0.mk (blk_below A0.out hb); have B1 := Aside0.mk (blk_below A1.out hb); have B2 := Aside0.mk (blk_below A2.out hb); have B3 := Aside0.mk (blk_below A3.out hb); have BB := Aside0.mk (below_step AB.out hb); clear hb; have wB0c0 : wB.cell? ⟨w.heap.size, 0, none⟩ = some (.int .i64 a0_0) := (blk_cell B0.out 0).trans rfl; have wB1c0 : wB.cell? ⟨w.heap.size + 1, 0, none⟩ = some (.int .i64 a1_0) := (blk_cell B1.out 0).trans rfl; have wB1c1 : wB.cell? ⟨w.heap.size + 1, 1, none⟩ = some (.int .i64 a1_1) := (blk_cell B1.out 1).trans rfl; have wB2c0 : wB.cell? ⟨w.heap.size + 1 + 1, 0, none⟩ = some (.int .i64 a2_0) := (blk_cell B2.out 0).trans rfl; have wB2c1 : wB.cell? ⟨w.heap.size + 1 + 1, 1, none⟩ = some (.int .i64 a2_1) := (blk_cell B2.out 1).trans rfl; have wB3c0 : wB.cell? ⟨w.heap.size + 1 + 1 + 1, 0, none⟩ = some (.int .i64 0) := (blk_cell B3.out 0).trans rfl; have wB3c1 : wB.cell? ⟨w.heap.size + 1 + 1 + 1, 1, none⟩ = some (.int .i64 0) := (blk_cell B3.out 1).trans rfl; have wB3f0 := blk_frozen B3.out 0; have wB3f1 := blk_frozen B3.out 1))
      refine bodyPost_ret (results_ct rfl _ _ (w.heap.size + 1 + 1 + 1) 25 #[.int .i64 0, .int .i64 0] (0, 0) _ rfl (by refine blk_put (cs := #[.int .i64 0, .int .i64 0]) ?_ 1 _ rfl; refine blk_put (cs := #[.int .i64 0, .int .i64 0]) ?_ 0 _ rfl; exact B3.out) Tryd.underlying25 rfl (by kernel_rfl)) rfl ?_
      exact ⟨rfl, below_set (below_set BB.out LE.out) LE.out⟩
    · rw [if_pos rfl] at h
      obtain ⟨b, V, h⟩ := Option.bind_eq_some_iff.mp h
      have V2 := Aside0.mk V
      clear V
      cases b
      · obtain ⟨rfl, rfl, rfl⟩ := Fi.fparse_bad_ (show (some (0, 0, 16) : Option (Int × Int × Int)) = some (r1, r2, r3) from h)
        clear h
        go_enter Tryd.func44, Tryd.ntmps44
        go_wp2_with (first | (go_at_call 13; (with_reducible refine (fiscal_Right.calls a0_0 true _ V0.out).mono ?_); rintro e wA ⟨rfl, hb⟩; have A0 := Aside0.mk (blk_below (Z0.out _ _ _ _) hb); have A1 := Aside0.mk (blk_below (Z1.out _ _ _ _) hb); have A2 := Aside0.mk (blk_below (Z2.out _ _ _ _) hb); have A3 := Aside0.mk (blk_below (Z3.out _ _ _ _) hb); have AB := Aside0.mk (below_step (below_alloc (below_alloc (below_alloc (below_alloc (Below.refl _ _) _) _) _) _) hb); clear hb; have wA0c0 : wA.cell? ⟨w.heap.size, 0, none⟩ = some (.int .i64 a0_0) := (blk_cell A0.out 0).trans rfl; have wA1c0 : wA.cell? ⟨w.heap.size + 1, 0, none⟩ = some (.int .i64 a1_0) := (blk_cell A1.out 0).trans rfl; have wA1c1 : wA.cell? ⟨w.heap.size + 1, 1, none⟩ = some (.int .i64 a1_1) := (blk_cell A1.out 1).trans rfl; have wA2c0 : wA.cell? ⟨w.heap.size + 1 + 1, 0, none⟩ = some (.int .i64 a2_0) := (blk_cell A2.out 0).trans rfl; have wA2c1 : wA.cell? ⟨w.heap.size + 1 + 1, 1, none⟩ = some (.int .i64 a2_1) := (blk_cell A2.out 1).trans rfl; have wA3c0 : wA.cell? ⟨w.heap.size + 1 + 1 + 1, 0, none⟩ = some (.int .i64 0) := (blk_cell A3.out 0).trans rfl; have wA3c1 : wA.cell? ⟨w.heap.size + 1 + 1 + 1, 1, none⟩ = some (.int .i64 0) := (blk_cell A3.out 1).trans rfl; have wA3f0 := blk_frozen A3.out 0; have wA3f1 := blk_frozen A3.out 1) | (go_at_call 32; (with_reducible refine (fiscal_exists.calls k a0_0 a1_0 a1_1 true _ (Laid.below HL.out AB.out) V1.out).mono ?_); rintro e wB ⟨rfl, hb⟩; have B0 := Aside0.mk (blk_below A0.out hb); have B1 := Aside0.mk (blk_below A1.out hb); have B2 := Aside0.mk (blk_below A2.out hb); have B3 := Aside0.mk (blk_below A3.out hb); have BB := Aside0.mk (below_step AB.out hb); clear hb; have wB0c0 : wB.cell? ⟨w.heap.size, 0, none⟩ = some (.int .i64 a0_0) := (blk_cell B0.out 0).trans rfl; have wB1c0 : wB.cell? ⟨w.heap.size + 1, 0, none⟩ = some (.int .i64 a1_0) := (blk_cell B1.out 0).trans rfl; have wB1c1 : wB.cell? ⟨w.heap.size + 1, 1, none⟩ = some (.int .i64 a1_1) := (blk_cell B1.out 1).trans rfl; have wB2c0 : wB.cell? ⟨w.heap.size + 1 + 1, 0, none⟩ = some (.int .i64 a2_0) := (blk_cell B2.out 0).trans rfl; have wB2c1 : wB.cell? ⟨w.heap.size + 1 + 1, 1, none⟩ = some (.int .i64 a2_1) := (blk_cell B2.out 1).trans rfl; have wB3c0 : wB.cell? ⟨w.heap.size + 1 + 1 + 1, 0, none⟩ = some (.int .i64 0) := (blk_cell B3.out 0).trans rfl; have wB3c1 : wB.cell? ⟨w.heap.size + 1 + 1 + 1, 1, none⟩ = some (.int .i64 0) := (blk_cell B3.out 1).trans rfl; have wB3f0 := blk_frozen B3.out 0; have wB3f1 := blk_frozen B3.out 1) | (go_at_call 32; (with_reducible refine (fiscal_exists.calls k a0_0 a2_0 a2_1 false _ (Laid.below HL.out BB.out) V2.out).mono ?_); rintro e wC ⟨rfl, hb⟩; have C0 := Aside0.mk (blk_below B0.out hb); have C1 := Aside0.mk (blk_below B1.out hb); have C2 := Aside0.mk (blk_below B2.out hb); have C3 := Aside0.mk (blk_below B3.out hb); have CB := Aside0.mk (below_step BB.out hb); clear hb; have wC0c0 : wC.cell? ⟨w.heap.size, 0, none⟩ = some (.int .i64 a0_0) := (blk_cell C0.out 0).trans rfl; have wC1c0 : wC.cell? ⟨w.heap.size + 1, 0, none⟩ = some (.int .i64 a1_0) := (blk_cell C1.out 0).trans rfl; have wC1c1 : wC.cell? ⟨w.heap.size + 1, 1, none⟩ = some (.int .i64 a1_1) := (blk_cell C1.out 1).trans rfl; have wC2c0 : wC.cell? ⟨w.heap.size + 1 + 1, 0, none⟩ = some (.int .i64 a2_0) := (blk_cell C2.out 0).trans rfl; have wC2c1 : wC.cell? ⟨w.heap.size + 1 + 1, 1, none⟩ = some (.int .i64 a2_1) := (blk_cell C2.out 1).trans rfl; have wC3c0 : wC.cell? ⟨w.heap.size + 1 + 1 + 1, 0, none⟩ = some (.int .i64 0) := (blk_cell C3.out 0).trans rfl; have wC3c1 : wC.cell? ⟨w.heap.size + 1 + 1 + 1, 1, none⟩ = some (.int .i64 0) := (blk_cell C3.out 1).trans rfl; have wC3f0 := blk_frozen C3.out 0; have wC3f1 := blk_frozen C3.out 1))
        refine bodyPost_ret (results_ct rfl _ _ (w.heap.size + 1 + 1 + 1) 25 #[.int .i64 0, .int .i64 0] (0, 0) _ rfl (by refine blk_put (cs := #[.int .i64 0, .int .i64 0]) ?_ 1 _ rfl; refine blk_put (cs := #[.int .i64 0, .int .i64 0]) ?_ 0 _ rfl; exact C3.out) Tryd.underlying25 rfl (by kernel_rfl)) rfl ?_
        exact ⟨rfl, below_set (below_set CB.out LE.out) LE.out⟩
      · obtain ⟨rfl, rfl, rfl⟩ := Fi.fparse_bad_ (show (some (a2_0, a2_1, 0) : Option (Int × Int × Int)) = some (r1, r2, r3) from h)
        clear h
        go_enter Tryd.func44, Tryd.ntmps44
        go_wp2_with (first | (go_at_call 13; (with_reducible refine (fiscal_Right.calls a0_0 true _ V0.out).mono ?_); rintro e wA ⟨rfl, hb⟩; have A0 := Aside0.mk (blk_below (Z0.out _ _ _ _) hb); have A1 := Aside0.mk (blk_below (Z1.out _ _ _ _) hb); have A2 := Aside0.mk (blk_below (Z2.out _ _ _ _) hb); have A3 := Aside0.mk (blk_below (Z3.out _ _ _ _) hb); have AB := Aside0.mk (below_step (below_alloc (below_alloc (below_alloc (below_alloc (Below.refl _ _) _) _) _) _) hb); clear hb; have wA0c0 : wA.cell? ⟨w.heap.size, 0, none⟩ = some (.int .i64 a0_0) := (blk_cell A0.out 0).trans rfl; have wA1c0 : wA.cell? ⟨w.heap.size + 1, 0, none⟩ = some (.int .i64 a1_0) := (blk_cell A1.out 0).trans rfl; have wA1c1 : wA.cell? ⟨w.heap.size + 1, 1, none⟩ = some (.int .i64 a1_1) := (blk_cell A1.out 1).trans rfl; have wA2c0 : wA.cell? ⟨w.heap.size + 1 + 1, 0, none⟩ = some (.int .i64 r1) := (blk_cell A2.out 0).trans rfl; have wA2c1 : wA.cell? ⟨w.heap.size + 1 + 1, 1, none⟩ = some (.int .i64 r2) := (blk_cell A2.out 1).trans rfl; have wA3c0 : wA.cell? ⟨w.heap.size + 1 + 1 + 1, 0, none⟩ = some (.int .i64 0) := (blk_cell A3.out 0).trans rfl; have wA3c1 : wA.cell? ⟨w.heap.size + 1 + 1 + 1, 1, none⟩ = some (.int .i64 0) := (blk_cell A3.out 1).trans rfl; have wA3f0 := blk_frozen A3.out 0; have wA3f1 := blk_frozen A3.out 1) | (go_at_call 32; (with_reducible refine (fiscal_exists.calls k a0_0 a1_0 a1_1 true _ (Laid.below HL.out AB.out) V1.out).mono ?_); rintro e wB ⟨rfl, hb⟩; have B0 := Aside0.mk (blk_below A0.out hb); have B1 := Aside0.mk (blk_below A1.out hb); have B2 := Aside0.mk (blk_below A2.out hb); have B3 := Aside0.mk (blk_below A3.out hb); have BB := Aside0.mk (below_step AB.out hb); clear hb; have wB0c0 : wB.cell? ⟨w.heap.size, 0, none⟩ = some (.int .i64 a0_0) := (blk_cell B0.out 0).trans rfl; have wB1c0 : wB.cell? ⟨w.heap.size + 1, 0, none⟩ = some (.int .i64 a1_0) := (blk_cell B1.out 0).trans rfl; have wB1c1 : wB.cell? ⟨w.heap.size + 1, 1, none⟩ = some (.int .i64 a1_1) := (blk_cell B1.out 1).trans rfl; have wB2c0 : wB.cell? ⟨w.heap.size + 1 + 1, 0, none⟩ = some (.int .i64 r1) := (blk_cell B2.out 0).trans rfl; have wB2c1 : wB.cell? ⟨w.heap.size + 1 + 1, 1, none⟩ = some (.int .i64 r2) := (blk_cell B2.out 1).trans rfl; have wB3c0 : wB.cell? ⟨w.heap.size + 1 + 1 + 1, 0, none⟩ = some (.int .i64 0) := (blk_cell B3.out 0).trans rfl; have wB3c1 : wB.cell? ⟨w.heap.size + 1 + 1 + 1, 1, none⟩ = some (.int .i64 0) := (blk_cell B3.out 1).trans rfl; have wB3f0 := blk_frozen B3.out 0; have wB3f1 := blk_frozen B3.out 1) | (go_at_call 32; (with_reducible refine (fiscal_exists.calls k a0_0 r1 r2 true _ (Laid.below HL.out BB.out) V2.out).mono ?_); rintro e wC ⟨rfl, hb⟩; have C0 := Aside0.mk (blk_below B0.out hb); have C1 := Aside0.mk (blk_below B1.out hb); have C2 := Aside0.mk (blk_below B2.out hb); have C3 := Aside0.mk (blk_below B3.out hb); have CB := Aside0.mk (below_step BB.out hb); clear hb; have wC0c0 : wC.cell? ⟨w.heap.size, 0, none⟩ = some (.int .i64 a0_0) := (blk_cell C0.out 0).trans rfl; have wC1c0 : wC.cell? ⟨w.heap.size + 1, 0, none⟩ = some (.int .i64 a1_0) := (blk_cell C1.out 0).trans rfl; have wC1c1 : wC.cell? ⟨w.heap.size + 1, 1, none⟩ = some (.int .i64 a1_1) := (blk_cell C1.out 1).trans rfl; have wC2c0 : wC.cell? ⟨w.heap.size + 1 + 1, 0, none⟩ = some (.int .i64 r1) := (blk_cell C2.out 0).trans rfl; have wC2c1 : wC.cell? ⟨w.heap.size + 1 + 1, 1, none⟩ = some (.int .i64 r2) := (blk_cell C2.out 1).trans rfl; have wC3c0 : wC.cell? ⟨w.heap.size + 1 + 1 + 1, 0, none⟩ = some (.int .i64 0) := (blk_cell C3.out 0).trans rfl; have wC3c1 : wC.cell? ⟨w.heap.size + 1 + 1 + 1, 1, none⟩ = some (.int .i64 0) := (blk_cell C3.out 1).trans rfl; have wC3f0 := blk_frozen C3.out 0; have wC3f1 := blk_frozen C3.out 1))
        refine bodyPost_ret (results_ct rfl _ _ (w.heap.size + 1 + 1 + 1) 25 #[.int .i64 r1, .int .i64 r2] (0, 0) _ rfl (by refine blk_put (cs := #[.int .i64 r1, .int .i64 0]) ?_ 1 _ rfl; refine blk_put (cs := #[.int .i64 0, .int .i64 0]) ?_ 0 _ rfl; exact C3.out) Tryd.underlying25 rfl (by kernel_rfl)) rfl ?_
        exact ⟨rfl, below_set (below_set CB.out LE.out) LE.out⟩

/-! ### fiscal_Next: function 24 (by hand) -/
def fiscal_Next.f (k : Nat) (a0_0 : Int) (a1_0 : Int) (a1_1 : Int) : Option (Int × Int × Int) := if a1_1 = 13 then fiscal_step.f k a0_0 a1_0 a1_1 (wrap64 (a1_0 + 1)) 1 else fiscal_step.f k a0_0 a1_0 a1_1 a1_0 (wrap64 (a1_1 + 1))
theorem fiscal_Next.mono : ∀ a0 a1 a2 k, LeO (fiscal_Next.f k a0 a1 a2) (fiscal_Next.f (k + 1) a0 a1 a2) := by
  intro a0 a1 a2 k
  unfold fiscal_Next.f
  exact LeO.ite (fiscal_step.mono _ _ _ _ _ _) (fiscal_step.mono _ _ _ _ _ _)
set_option maxHeartbeats 8000000 in
set_option maxRecDepth 100000 in
theorem fiscal_Next.calls (k : Nat) (a0_0 a1_0 a1_1 r1 r2 r3 : Int) (w : World) (hLd : Laid w) (h : fiscal_Next.f k a0_0 a1_0 a1_1 = some (r1, r2, r3)) :
    Calls Tryd.prog 24 #[.agg #[.int .i64 a0_0], .agg #[.int .i64 a1_0, .int .i64 a1_1]] w fun e w' => e = .returned (.tuple #[.agg #[.int .i64 r1, .int .i64 r2], .int .i64 r3]) ∧ Below w.heap.size w w' := by
  have HL := Aside0.mk hLd
  clear hLd
  unfold fiscal_Next.f at h
  have hsz : ∀ o1 o2 o3 : Obj, (((w.alloc o1).alloc o2).alloc o3).heap[w.heap.size + 1 + 1]? = some o3 := fun o1 o2 o3 => by
    have := heap_alloc_new ((w.alloc o1).alloc o2) o3
    simpa using this
  have HZ := Aside0.mk hsz
  clear hsz
  have LE : Aside0 (w.heap.size ≤ w.heap.size + 1 + 1) := ⟨by omega⟩
  by_cases c : a1_1 = 13
  · rw [if_pos c] at h
    have c1 : (a1_1 == 13) = true := beq_iff_eq.mpr c
    have HH := Aside0.mk h
    clear h c
    go_enter Tryd.func24, Tryd.ntmps24
    go_wp2_with (go_at_call 44; (with_reducible refine (fiscal_step.calls k a0_0 a1_0 a1_1 _ _ r1 r2 r3 _ (by repeat (first | exact HL.out | apply Laid.alloc)) HH.out).mono ?_); rintro e w' ⟨rfl, hb⟩; have m0 := blk_below (HZ.out _ _ _) hb; have z0 := blk_frozen m0 0; have z1 := blk_frozen m0 1; have y0 := (blk_cell m0 0).trans rfl; have y1 := (blk_cell m0 1).trans rfl)
    refine bodyPost_ret (results_ct rfl _ _ (w.heap.size + 1 + 1) 25 #[.int .i64 r1, .int .i64 r2] (0, 0) _ rfl (by refine blk_put (cs := #[.int .i64 r1, .int .i64 1]) ?_ 1 _ rfl; refine blk_put (cs := #[.int .i64 (wrap64 (a1_0 + 1)), .int .i64 1]) ?_ 0 _ rfl; exact m0) Tryd.underlying25 rfl (by kernel_rfl)) rfl ?_
    exact ⟨rfl, below_set (below_set (below_step (by repeat (first | exact Below.refl _ _ | apply below_alloc)) hb) LE.out) LE.out⟩
  · rw [if_neg c] at h
    have c1 : (a1_1 == 13) = false := beq_eq_false_iff_ne.mpr c
    have HH := Aside0.mk h
    clear h c
    go_enter Tryd.func24, Tryd.ntmps24
    go_wp2_with (go_at_call 44; (with_reducible refine (fiscal_step.calls k a0_0 a1_0 a1_1 _ _ r1 r2 r3 _ (by repeat (first | exact HL.out | apply Laid.alloc)) HH.out).mono ?_); rintro e w' ⟨rfl, hb⟩; have m0 := blk_below (HZ.out _ _ _) hb; have z0 := blk_frozen m0 0; have z1 := blk_frozen m0 1; have y0 := (blk_cell m0 0).trans rfl; have y1 := (blk_cell m0 1).trans rfl)
    refine bodyPost_ret (results_ct rfl _ _ (w.heap.size + 1 + 1) 25 #[.int .i64 r1, .int .i64 r2] (0, 0) _ rfl (by refine blk_put (cs := #[.int .i64 r1, .int .i64 (wrap64 (a1_1 + 1))]) ?_ 1 _ rfl; refine blk_put (cs := #[.int .i64 a1_0, .int .i64 (wrap64 (a1_1 + 1))]) ?_ 0 _ rfl; exact m0) Tryd.underlying25 rfl (by kernel_rfl)) rfl ?_
    exact ⟨rfl, below_set (below_set (below_step (by repeat (first | exact Below.refl _ _ | apply below_alloc)) hb) LE.out) LE.out⟩

/-! ### fiscal_Count: function 25 (by hand) -/
def fiscal_Count.f (k : Nat) (a0_0 a1_0 a1_1 a2_0 a2_1 : Int) : Option (Int × Int) := (fiscal_Right.f a0_0).bind fun b => if b = true then ((fiscal_exists.f k a0_0 a1_0 a1_1).bind fun b => if b = true then ((fiscal_exists.f k a0_0 a2_0 a2_1).bind fun b => if b = true then some (wrap64 (wrap64 (wrap64 (wrap64 (a2_0 - a1_0) * 13) + a2_1) - a1_1), 0) else some (0, 16)) else some (0, 16)) else some (0, 2)
theorem fiscal_Count.mono : ∀ a0 a1 a2 a3 a4 k, LeO (fiscal_Count.f k a0 a1 a2 a3 a4) (fiscal_Count.f (k + 1) a0 a1 a2 a3 a4) := by
  intro a0 a1 a2 a3 a4 k
  unfold fiscal_Count.f
  repeat' first
      | (with_reducible exact fiscal_exists.mono _ _ _ _)
      | (with_reducible exact LeO.refl _)
      | (with_reducible exact LeO.none _)
      | (with_reducible refine LeO.ite ?_ ?_)
      | (with_reducible refine LeO.bind ?_ (fun _ => ?_))
set_option maxHeartbeats 8000000 in
set_option maxRecDepth 100000 in
theorem fiscal_Count.calls (k : Nat) (a0_0 a1_0 a1_1 a2_0 a2_1 r1 r2 : Int) (w : World) (hLd : Laid w) (h : fiscal_Count.f k a0_0 a1_0 a1_1 a2_0 a2_1 = some (r1, r2)) :
    Calls Tryd.prog 25 #[.agg #[.int .i64 a0_0], .agg #[.int .i64 a1_0, .int .i64 a1_1], .agg #[.int .i64 a2_0, .int .i64 a2_1]] w fun e w' => e = .returned (.tuple #[.int .i64 r1, .int .i64 r2]) ∧ Below w.heap.size w w' := by
  have HL := Aside0.mk hLd
  clear hLd
  unfold fiscal_Count.f at h
  have Z0 : Aside0 (∀ o0 o1 o2 : Obj, (((w.alloc o0).alloc o1).alloc o2).heap[w.heap.size]? = some o0) := ⟨fun o0 o1 o2 => by
    have q := heap_alloc_new w o0
    have e : w.heap.size = w.heap.size := by simp
    rw [e] at q
    have q := blk_alloc q o1
    have q := blk_alloc q o2
    exact q⟩
  have Z1 : Aside0 (∀ o0 o1 o2 : Obj, (((w.alloc o0).alloc o1).alloc o2).heap[w.heap.size + 1]? = some o1) := ⟨fun o0 o1 o2 => by
    have q := heap_alloc_new (w.alloc o0) o1
    have e : (w.alloc o0).heap.size = w.heap.size + 1 := by simp
    rw [e] at q
    have q := blk_alloc q o2
    exact q⟩
  have Z2 : Aside0 (∀ o0 o1 o2 : Obj, (((w.alloc o0).alloc o1).alloc o2).heap[w.heap.size + 1 + 1]? = some o2) := ⟨fun o0 o1 o2 => by
    have q := heap_alloc_new ((w.alloc o0).alloc o1) o2
    have e : ((w.alloc o0).alloc o1).heap.size = w.heap.size + 1 + 1 := by simp
    rw [e] at q
    exact q⟩
  have LE : Aside0 (w.heap.size ≤ w.heap.size + 1 + 1 + 1) := ⟨by omega⟩
  obtain ⟨b, V, h⟩ := Option.bind_eq_some_iff.mp h
  have V0 := Aside0.mk V
  clear V
  cases b
  · obtain ⟨rfl, rfl⟩ : r1 = 0 ∧ r2 = 2 := by
      have h : (some (0, 2) : Option (Int × Int)) = some (r1, r2) := h
      simp only [Option.some.injEq, Prod.mk.injEq] at h
      exact ⟨h.1.symm, h.2.symm⟩
    clear h
    go_enter Tryd.func25, Tryd.ntmps25
    go_wp2_with (first | (go_at_call 13; (with_reducible refine (fiscal_Right.calls a0_0 false _ V0.out).mono ?_); rintro e wA ⟨rfl, hb⟩; have A0 := Aside0.mk (blk_below (Z0.out _ _ _) hb); have A1 := Aside0.mk (blk_below (Z1.out _ _ _) hb); have A2 := Aside0.mk (blk_below (Z2.out _ _ _) hb); have AB := Aside0.mk (below_step (below_alloc (below_alloc (below_alloc (Below.refl _ _) _) _) _) hb); clear hb; have wA0c0 : wA.cell? ⟨w.heap.size, 0, none⟩ = some (.int .i64 a0_0) := (blk_cell A0.out 0).trans rfl; have wA1c0 : wA.cell? ⟨w.heap.size + 1, 0, none⟩ = some (.int .i64 a1_0) := (blk_cell A1.out 0).trans rfl; have wA1c1 : wA.cell? ⟨w.heap.size + 1, 1, none⟩ = some (.int .i64 a1_1) := (blk_cell A1.out 1).trans rfl; have wA2c0 : wA.cell? ⟨w.heap.size + 1 + 1, 0, none⟩ = some (.int .i64 a2_0) := (blk_cell A2.out 0).trans rfl; have wA2c1 : wA.cell? ⟨w.heap.size + 1 + 1, 1, none⟩ = some (.int .i64 a2_1) := (blk_cell A2.out 1).trans rfl))
    go_ret2
    exact ⟨rfl, AB.out⟩
  · rw [if_pos rfl] at h
    obtain ⟨b, V, h⟩ := Option.bind_eq_some_iff.mp h
    have V1 := Aside0.mk V
    clear V
    cases b
    · obtain ⟨rfl, rfl⟩ : r1 = 0 ∧ r2 = 16 := by
        have h : (some (0, 16) : Option (Int × Int)) = some (r1, r2) := h
        simp only [Option.some.injEq, Prod.mk.injEq] at h
        exact ⟨h.1.symm, h.2.symm⟩
      clear h
      go_enter Tryd.func25, Tryd.ntmps25
      go_wp2_with (first | (go_at_call 13; (with_reducible refine (fiscal_Right.calls a0_0 true _ V0.out).mono ?_); rintro e wA ⟨rfl, hb⟩; have A0 := Aside0.mk (blk_below (Z0.out _ _ _) hb); have A1 := Aside0.mk (blk_below (Z1.out _ _ _) hb); have A2 := Aside0.mk (blk_below (Z2.out _ _ _) hb); have AB := Aside0.mk (below_step (below_alloc (below_alloc (below_alloc (Below.refl _ _) _) _) _) hb); clear hb; have wA0c0 : wA.cell? ⟨w.heap.size, 0, none⟩ = some (.int .i64 a0_0) := (blk_cell A0.out 0).trans rfl; have wA1c0 : wA.cell? ⟨w.heap.size + 1, 0, none⟩ = some (.int .i64 a1_0) := (blk_cell A1.out 0).trans rfl; have wA1c1 : wA.cell? ⟨w.heap.size + 1, 1, none⟩ = some (.int .i64 a1_1) := (blk_cell A1.out 1).trans rfl; have wA2c0 : wA.cell? ⟨w.heap.size + 1 + 1, 0, none⟩ = some (.int .i64 a2_0) := (blk_cell A2.out 0).trans rfl; have wA2c1 : wA.cell? ⟨w.heap.size + 1 + 1, 1, none⟩ = some (.int .i64 a2_1) := (blk_cell A2.out 1).trans rfl) | (go_at_call 32; (with_reducible refine (fiscal_exists.calls k a0_0 a1_0 a1_1 false _ (Laid.below HL.out AB.out) V1.out).mono ?_); rintro e wB ⟨rfl, hb⟩; have B0 := Aside0.mk (blk_below A0.out hb); have B1 := Aside0.mk (blk_below A1.out hb); have B2 := Aside0.mk (blk_below A2.out hb); have BB := Aside0.mk (below_step AB.out hb); clear hb; have wB0c0 : wB.cell? ⟨w.heap.size, 0, none⟩ = some (.int .i64 a0_0) := (blk_cell B0.out 0).trans rfl; have wB1c0 : wB.cell? ⟨w.heap.size + 1, 0, none⟩ = some (.int .i64 a1_0) := (blk_cell B1.out 0).trans rfl; have wB1c1 : wB.cell? ⟨w.heap.size + 1, 1, none⟩ = some (.int .i64 a1_1) := (blk_cell B1.out 1).trans rfl; have wB2c0 : wB.cell? ⟨w.heap.size + 1 + 1, 0, none⟩ = some (.int .i64 a2_0) := (blk_cell B2.out 0).trans rfl; have wB2c1 : wB.cell? ⟨w.heap.size + 1 + 1, 1, none⟩ = some (.int .i64 a2_1) := (blk_cell B2.out 1).trans rfl))
      go_ret2
      exact ⟨rfl, BB.out⟩
    · rw [if_pos rfl] at h
      obtain ⟨b, V, h⟩ := Option.bind_eq_some_iff.mp h
      have V2 := Aside0.mk V
      clear V
      cases b
      · obtain ⟨rfl, rfl⟩ : r1 = 0 ∧ r2 = 16 := by
          have h : (some (0, 16) : Option (Int × Int)) = some (r1, r2) := h
          simp only [Option.some.injEq, Prod.mk.injEq] at h
          exact ⟨h.1.symm, h.2.symm⟩
        clear h
        go_enter Tryd.func25, Tryd.ntmps25
        go_wp2_with (first | (go_at_call 13; (with_reducible refine (fiscal_Right.calls a0_0 true _ V0.out).mono ?_); rintro e wA ⟨rfl, hb⟩; have A0 := Aside0.mk (blk_below (Z0.out _ _ _) hb); have A1 := Aside0.mk (blk_below (Z1.out _ _ _) hb); have A2 := Aside0.mk (blk_below (Z2.out _ _ _) hb); have AB := Aside0.mk (below_step (below_alloc (below_alloc (below_alloc (Below.refl _ _) _) _) _) hb); clear hb; have wA0c0 : wA.cell? ⟨w.heap.size, 0, none⟩ = some (.int .i64 a0_0) := (blk_cell A0.out 0).trans rfl; have wA1c0 : wA.cell? ⟨w.heap.size + 1, 0, none⟩ = some (.int .i64 a1_0) := (blk_cell A1.out 0).trans rfl; have wA1c1 : wA.cell? ⟨w.heap.size + 1, 1, none⟩ = some (.int .i64 a1_1) := (blk_cell A1.out 1).trans rfl; have wA2c0 : wA.cell? ⟨w.heap.size + 1 + 1, 0, none⟩ = some (.int .i64 a2_0) := (blk_cell A2.out 0).trans rfl; have wA2c1 : wA.cell? ⟨w.heap.size + 1 + 1, 1, none⟩ = some (.int .i64 a2_1) := (blk_cell A2.out 1).trans rfl) | (go_at_call 32; (with_reducible refine (fiscal_exists.calls k a0_0 a1_0 a1_1 true _ (Laid.below HL.out AB.out) V1.out).mono ?_); rintro e wB ⟨rfl, hb⟩; have B0 := Aside0.mk (blk_below A0.out hb); have B1 := Aside0.mk (blk_below A1.out hb); have B2 := Aside0.mk (blk_below A2.out hb); have BB := Aside0.mk (below_step AB.out hb); clear hb; have wB0c0 : wB.cell? ⟨w.heap.size, 0, none⟩ = some (.int .i64 a0_0) := (blk_cell B0.out 0).trans rfl; have wB1c0 : wB.cell? ⟨w.heap.size + 1, 0, none⟩ = some (.int .i64 a1_0) := (blk_cell B1.out 0).trans rfl; have wB1c1 : wB.cell? ⟨w.heap.size + 1, 1, none⟩ = some (.int .i64 a1_1) := (blk_cell B1.out 1).trans rfl; have wB2c0 : wB.cell? ⟨w.heap.size + 1 + 1, 0, none⟩ = some (.int .i64 a2_0) := (blk_cell B2.out 0).trans rfl; have wB2c1 : wB.cell? ⟨w.heap.size + 1 + 1, 1, none⟩ = some (.int .i64 a2_1) := (blk_cell B2.out 1).trans rfl) | (go_at_call 32; (with_reducible refine (fiscal_exists.calls k a0_0 a2_0 a2_1 false _ (Laid.below HL.out BB.out) V2.out).mono ?_); rintro e wC ⟨rfl, hb⟩; have C0 := Aside0.mk (blk_below B0.out hb); have C1 := Aside0.mk (blk_below B1.out hb); have C2 := Aside0.mk (blk_below B2.out hb); have CB := Aside0.mk (below_step BB.out hb); clear hb; have wC0c0 : wC.cell? ⟨w.heap.size, 0, none⟩ = some (.int .i64 a0_0) := (blk_cell C0.out 0).trans rfl; have wC1c0 : wC.cell? ⟨w.heap.size + 1, 0, none⟩ = some (.int .i64 a1_0) := (blk_cell C1.out 0).trans rfl; have wC1c1 : wC.cell? ⟨w.heap.size + 1, 1, none⟩ = some (.int .i64 a1_1) := (blk_cell C1.out 1).trans rfl; have wC2c0 : wC.cell? ⟨w.heap.size + 1 + 1, 0, none⟩ = some (.int .i64 a2_0) := (blk_cell C2.out 0).trans rfl; have wC2c1 : wC.cell? ⟨w.heap.size + 1 + 1, 1, none⟩ = some (.int .i64 a2_1) := (blk_cell C2.out 1).trans rfl))
        go_ret2
        exact ⟨rfl, CB.out⟩
      · obtain ⟨rfl, rfl⟩ : r1 = wrap64 (wrap64 (wrap64 (wrap64 (a2_0 - a1_0) * 13) + a2_1) - a1_1) ∧ r2 = 0 := by
          have h : (some (wrap64 (wrap64 (wrap64 (wrap64 (a2_0 - a1_0) * 13) + a2_1) - a1_1), 0) : Option (Int × Int)) = some (r1, r2) := h
          simp only [Option.some.injEq, Prod.mk.injEq] at h
          exact ⟨h.1.symm, h.2.symm⟩
        clear h
        go_enter Tryd.func25, Tryd.ntmps25
        go_wp2_with (first | (go_at_call 13; (with_reducible refine (fiscal_Right.calls a0_0 true _ V0.out).mono ?_); rintro e wA ⟨rfl, hb⟩; have A0 := Aside0.mk (blk_below (Z0.out _ _ _) hb); have A1 := Aside0.mk (blk_below (Z1.out _ _ _) hb); have A2 := Aside0.mk (blk_below (Z2.out _ _ _) hb); have AB := Aside0.mk (below_step (below_alloc (below_alloc (below_alloc (Below.refl _ _) _) _) _) hb); clear hb; have wA0c0 : wA.cell? ⟨w.heap.size, 0, none⟩ = some (.int .i64 a0_0) := (blk_cell A0.out 0).trans rfl; have wA1c0 : wA.cell? ⟨w.heap.size + 1, 0, none⟩ = some (.int .i64 a1_0) := (blk_cell A1.out 0).trans rfl; have wA1c1 : wA.cell? ⟨w.heap.size + 1, 1, none⟩ = some (.int .i64 a1_1) := (blk_cell A1.out 1).trans rfl; have wA2c0 : wA.cell? ⟨w.heap.size + 1 + 1, 0, none⟩ = some (.int .i64 a2_0) := (blk_cell A2.out 0).trans rfl; have wA2c1 : wA.cell? ⟨w.heap.size + 1 + 1, 1, none⟩ = some (.int .i64 a2_1) := (blk_cell A2.out 1).trans rfl) | (go_at_call 32; (with_reducible refine (fiscal_exists.calls k a0_0 a1_0 a1_1 true _ (Laid.below HL.out AB.out) V1.out).mono ?_); rintro e wB ⟨rfl, hb⟩; have B0 := Aside0.mk (blk_below A0.out hb); have B1 := Aside0.mk (blk_below A1.out hb); have B2 := Aside0.mk (blk_below A2.out hb); have BB := Aside0.mk (below_step AB.out hb); clear hb; have wB0c0 : wB.cell? ⟨w.heap.size, 0, none⟩ = some (.int .i64 a0_0) := (blk_cell B0.out 0).trans rfl; have wB1c0 : wB.cell? ⟨w.heap.size + 1, 0, none⟩ = some (.int .i64 a1_0) := (blk_cell B1.out 0).trans rfl; have wB1c1 : wB.cell? ⟨w.heap.size + 1, 1, none⟩ = some (.int .i64 a1_1) := (blk_cell B1.out 1).trans rfl; have wB2c0 : wB.cell? ⟨w.heap.size + 1 + 1, 0, none⟩ = some (.int .i64 a2_0) := (blk_cell B2.out 0).trans rfl; have wB2c1 : wB.cell? ⟨w.heap.size + 1 + 1, 1, none⟩ = some (.int .i64 a2_1) := (blk_cell B2.out 1).trans rfl) | (go_at_call 32; (with_reducible refine (fiscal_exists.calls k a0_0 a2_0 a2_1 true _ (Laid.below HL.out BB.out) V2.out).mono ?_); rintro e wC ⟨rfl, hb⟩; have C0 := Aside0.mk (blk_below B0.out hb); have C1 := Aside0.mk (blk_below B1.out hb); have C2 := Aside0.mk (blk_below B2.out hb); have CB := Aside0.mk (below_step BB.out hb); clear hb; have wC0c0 : wC.cell? ⟨w.heap.size, 0, none⟩ = some (.int .i64 a0_0) := (blk_cell C0.out 0).trans rfl; have wC1c0 : wC.cell? ⟨w.heap.size + 1, 0, none⟩ = some (.int .i64 a1_0) := (blk_cell C1.out 0).trans rfl; have wC1c1 : wC.cell? ⟨w.heap.size + 1, 1, none⟩ = some (.int .i64 a1_1) := (blk_cell C1.out 1).trans rfl; have wC2c0 : wC.cell? ⟨w.heap.size + 1 + 1, 0, none⟩ = some (.int .i64 a2_0) := (blk_cell C2.out 0).trans rfl; have wC2c1 : wC.cell? ⟨w.heap.size + 1 + 1, 1, none⟩ = some (.int .i64 a2_1) := (blk_cell C2.out 1).trans rfl))
        go_ret2
        exact ⟨rfl, CB.out⟩

/-! ### accountinglaw05_lives: function 15 (by hand) -/
def accountinglaw05_lives.f : Option Bool := some true
theorem lv2_ : fiscal_Span.f 40 4 2026 1 = some (46111, 46140, 0) := by decide +kernel
theorem lv3_ : fiscal_Span.f 40 4 2026 13 = some (46475, 46475, 0) := by decide +kernel
theorem lv4_ : fiscal_Of.f 40 4 46110 = some (2025, 12, 0) := by decide +kernel
theorem lv5_ : fiscal_For.f 40 4 46475 3 = some (2026, 13, 0) := by decide +kernel
theorem lv6_ : fiscal_Of.f 40 4 0 = some (0, 0, 16) := by decide +kernel
theorem lv7_ : fiscal_Next.f 40 4 2026 13 = some (2027, 1, 0) := by decide +kernel
theorem lv8_ : fiscal_Count.f 40 4 2026 1 2027 1 = some (13, 0) := by decide +kernel
theorem lv9_ : fiscal_Text.f 2025 12 = some (⟨#[50, 48, 50, 53, 45, 49, 50]⟩, 0) := by decide +kernel
theorem lv10_ : fiscal_Parse.f ⟨#[50, 48, 50, 54, 45, 49, 52]⟩ = some (0, 0, 16) := by decide +kernel
set_option maxHeartbeats 8000000 in
set_option maxRecDepth 100000 in
theorem accountinglaw05_lives.calls (r : Bool) (w : World) (hLd : Laid w) (h : accountinglaw05_lives.f = some r) :
    Calls Tryd.prog 15 #[] w fun e w' => e = .returned (.bool r) ∧ Below w.heap.size w w' := by
  obtain rfl := Option.some.inj h
  have HL := Aside0.mk hLd
  clear hLd
  go_enter Tryd.func15, Tryd.ntmps15
  go_upto_region 2 with (fail)
  have B1 := heap_alloc_new w (.cells #[.int .i64 4] 23 (0, 0))
  have HB := Aside0.mk (below_alloc (Below.refl w.heap.size w) (.cells #[.int .i64 4] 23 (0, 0)))
  generalize w.alloc (.cells #[.int .i64 4] 23 (0, 0)) = v1 at B1 HB ⊢
  have K1 := Aside0.mk B1
  clear B1
  have c1_0_v1 : v1.cell? ⟨w.heap.size, 0, none⟩ = some (.int .i64 4) := (blk_cell K1.out 0).trans rfl
  go_upto_region 3 with (go_at_call 11; (with_reducible refine (fiscal_Span.calls 40 4 2026 1 46111 46140 0 _ (Laid.below HL.out HB.out) lv2_).mono ?_); rintro e x2 ⟨rfl, hb⟩)
  clear c1_0_v1
  have J1 := Aside0.mk (blk_below K1.out hb)
  clear K1
  have K1 := J1
  clear J1
  have HC := Aside0.mk (below_step HB.out hb)
  clear HB hb
  have HB := HC
  clear HC
  have c1_0_x2 : x2.cell? ⟨w.heap.size, 0, none⟩ = some (.int .i64 4) := (blk_cell K1.out 0).trans rfl
  go_upto_region 4 with (go_at_call 11; (with_reducible refine (fiscal_Span.calls 40 4 2026 13 46475 46475 0 _ (Laid.below HL.out HB.out) lv3_).mono ?_); rintro e x3 ⟨rfl, hb⟩)
  clear c1_0_x2
  have J1 := Aside0.mk (blk_below K1.out hb)
  clear K1
  have K1 := J1
  clear J1
  have HC := Aside0.mk (below_step HB.out hb)
  clear HB hb
  have HB := HC
  clear HC
  have c1_0_x3 : x3.cell? ⟨w.heap.size, 0, none⟩ = some (.int .i64 4) := (blk_cell K1.out 0).trans rfl
  go_upto_region 5 with (go_at_call 16; (with_reducible refine (fiscal_Of.calls 40 4 46110 2025 12 0 _ (Laid.below HL.out HB.out) lv4_).mono ?_); rintro e x4 ⟨rfl, hb⟩)
  clear c1_0_x3
  have J1 := Aside0.mk (blk_below K1.out hb)
  clear K1
  have K1 := J1
  clear J1
  have HC := Aside0.mk (below_step HB.out hb)
  clear HB hb
  have HB := HC
  clear HC
  have N := heap_alloc_new x4 (.cells #[.int .i64 2025, .int .i64 12] 25 (0, 0))
  have J1 := Aside0.mk (blk_alloc K1.out (.cells #[.int .i64 2025, .int .i64 12] 25 (0, 0)))
  clear K1
  have K1 := J1
  clear J1
  have HC := Aside0.mk (below_alloc HB.out (.cells #[.int .i64 2025, .int .i64 12] 25 (0, 0)))
  clear HB
  have HB := HC
  clear HC
  generalize x4.alloc (.cells #[.int .i64 2025, .int .i64 12] 25 (0, 0)) = v8 at N HB K1 ⊢
  generalize x4.heap.size = g8 at N ⊢
  have K8 := Aside0.mk N
  clear N
  have c1_0_v8 : v8.cell? ⟨w.heap.size, 0, none⟩ = some (.int .i64 4) := (blk_cell K1.out 0).trans rfl
  have c8_0_v8 : v8.cell? ⟨g8, 0, none⟩ = some (.int .i64 2025) := (blk_cell K8.out 0).trans rfl
  have c8_1_v8 : v8.cell? ⟨g8, 1, none⟩ = some (.int .i64 12) := (blk_cell K8.out 1).trans rfl
  go_upto_region 6 with (go_at_call 18; (with_reducible refine (fiscal_For.calls 40 4 46475 3 2026 13 0 _ (Laid.below HL.out HB.out) lv5_).mono ?_); rintro e x5 ⟨rfl, hb⟩)
  clear c1_0_v8 c8_0_v8 c8_1_v8
  have J1 := Aside0.mk (blk_below K1.out hb)
  clear K1
  have K1 := J1
  clear J1
  have J8 := Aside0.mk (blk_below K8.out hb)
  clear K8
  have K8 := J8
  clear J8
  have HC := Aside0.mk (below_step HB.out hb)
  clear HB hb
  have HB := HC
  clear HC
  have N := heap_alloc_new x5 (.cells #[.int .i64 2026, .int .i64 13] 25 (0, 0))
  have J1 := Aside0.mk (blk_alloc K1.out (.cells #[.int .i64 2026, .int .i64 13] 25 (0, 0)))
  clear K1
  have K1 := J1
  clear J1
  have J8 := Aside0.mk (blk_alloc K8.out (.cells #[.int .i64 2026, .int .i64 13] 25 (0, 0)))
  clear K8
  have K8 := J8
  clear J8
  have HC := Aside0.mk (below_alloc HB.out (.cells #[.int .i64 2026, .int .i64 13] 25 (0, 0)))
  clear HB
  have HB := HC
  clear HC
  generalize x5.alloc (.cells #[.int .i64 2026, .int .i64 13] 25 (0, 0)) = v10 at N HB K1 K8 ⊢
  generalize x5.heap.size = g10 at N ⊢
  have K10 := Aside0.mk N
  clear N
  have c1_0_v10 : v10.cell? ⟨w.heap.size, 0, none⟩ = some (.int .i64 4) := (blk_cell K1.out 0).trans rfl
  have c8_0_v10 : v10.cell? ⟨g8, 0, none⟩ = some (.int .i64 2025) := (blk_cell K8.out 0).trans rfl
  have c8_1_v10 : v10.cell? ⟨g8, 1, none⟩ = some (.int .i64 12) := (blk_cell K8.out 1).trans rfl
  have c10_0_v10 : v10.cell? ⟨g10, 0, none⟩ = some (.int .i64 2026) := (blk_cell K10.out 0).trans rfl
  have c10_1_v10 : v10.cell? ⟨g10, 1, none⟩ = some (.int .i64 13) := (blk_cell K10.out 1).trans rfl
  go_upto_region 7 with (go_at_call 16; (with_reducible refine (fiscal_Of.calls 40 4 0 0 0 16 _ (Laid.below HL.out HB.out) lv6_).mono ?_); rintro e x6 ⟨rfl, hb⟩)
  clear c1_0_v10 c8_0_v10 c8_1_v10 c10_0_v10 c10_1_v10
  have J1 := Aside0.mk (blk_below K1.out hb)
  clear K1
  have K1 := J1
  clear J1
  have J8 := Aside0.mk (blk_below K8.out hb)
  clear K8
  have K8 := J8
  clear J8
  have J10 := Aside0.mk (blk_below K10.out hb)
  clear K10
  have K10 := J10
  clear J10
  have HC := Aside0.mk (below_step HB.out hb)
  clear HB hb
  have HB := HC
  clear HC
  have N := heap_alloc_new x6 (.cells #[.int .i64 0, .int .i64 0] 25 (0, 0))
  have J1 := Aside0.mk (blk_alloc K1.out (.cells #[.int .i64 0, .int .i64 0] 25 (0, 0)))
  clear K1
  have K1 := J1
  clear J1
  have J8 := Aside0.mk (blk_alloc K8.out (.cells #[.int .i64 0, .int .i64 0] 25 (0, 0)))
  clear K8
  have K8 := J8
  clear J8
  have J10 := Aside0.mk (blk_alloc K10.out (.cells #[.int .i64 0, .int .i64 0] 25 (0, 0)))
  clear K10
  have K10 := J10
  clear J10
  have HC := Aside0.mk (below_alloc HB.out (.cells #[.int .i64 0, .int .i64 0] 25 (0, 0)))
  clear HB
  have HB := HC
  clear HC
  generalize x6.alloc (.cells #[.int .i64 0, .int .i64 0] 25 (0, 0)) = v12 at N HB K1 K8 K10 ⊢
  generalize x6.heap.size = g12 at N ⊢
  have K12 := Aside0.mk N
  clear N
  have c1_0_v12 : v12.cell? ⟨w.heap.size, 0, none⟩ = some (.int .i64 4) := (blk_cell K1.out 0).trans rfl
  have c8_0_v12 : v12.cell? ⟨g8, 0, none⟩ = some (.int .i64 2025) := (blk_cell K8.out 0).trans rfl
  have c8_1_v12 : v12.cell? ⟨g8, 1, none⟩ = some (.int .i64 12) := (blk_cell K8.out 1).trans rfl
  have c10_0_v12 : v12.cell? ⟨g10, 0, none⟩ = some (.int .i64 2026) := (blk_cell K10.out 0).trans rfl
  have c10_1_v12 : v12.cell? ⟨g10, 1, none⟩ = some (.int .i64 13) := (blk_cell K10.out 1).trans rfl
  have c12_0_v12 : v12.cell? ⟨g12, 0, none⟩ = some (.int .i64 0) := (blk_cell K12.out 0).trans rfl
  have c12_1_v12 : v12.cell? ⟨g12, 1, none⟩ = some (.int .i64 0) := (blk_cell K12.out 1).trans rfl
  go_upto_region 8 with (go_at_call 24; (with_reducible refine (fiscal_Next.calls 40 4 2026 13 2027 1 0 _ (Laid.below HL.out HB.out) lv7_).mono ?_); rintro e x7 ⟨rfl, hb⟩)
  clear c1_0_v12 c8_0_v12 c8_1_v12 c10_0_v12 c10_1_v12 c12_0_v12 c12_1_v12
  have J1 := Aside0.mk (blk_below K1.out hb)
  clear K1
  have K1 := J1
  clear J1
  have J8 := Aside0.mk (blk_below K8.out hb)
  clear K8
  have K8 := J8
  clear J8
  have J10 := Aside0.mk (blk_below K10.out hb)
  clear K10
  have K10 := J10
  clear J10
  have J12 := Aside0.mk (blk_below K12.out hb)
  clear K12
  have K12 := J12
  clear J12
  have HC := Aside0.mk (below_step HB.out hb)
  clear HB hb
  have HB := HC
  clear HC
  have N := heap_alloc_new x7 (.cells #[.int .i64 2027, .int .i64 1] 25 (0, 0))
  have J1 := Aside0.mk (blk_alloc K1.out (.cells #[.int .i64 2027, .int .i64 1] 25 (0, 0)))
  clear K1
  have K1 := J1
  clear J1
  have J8 := Aside0.mk (blk_alloc K8.out (.cells #[.int .i64 2027, .int .i64 1] 25 (0, 0)))
  clear K8
  have K8 := J8
  clear J8
  have J10 := Aside0.mk (blk_alloc K10.out (.cells #[.int .i64 2027, .int .i64 1] 25 (0, 0)))
  clear K10
  have K10 := J10
  clear J10
  have J12 := Aside0.mk (blk_alloc K12.out (.cells #[.int .i64 2027, .int .i64 1] 25 (0, 0)))
  clear K12
  have K12 := J12
  clear J12
  have HC := Aside0.mk (below_alloc HB.out (.cells #[.int .i64 2027, .int .i64 1] 25 (0, 0)))
  clear HB
  have HB := HC
  clear HC
  generalize x7.alloc (.cells #[.int .i64 2027, .int .i64 1] 25 (0, 0)) = v14 at N HB K1 K8 K10 K12 ⊢
  generalize x7.heap.size = g14 at N ⊢
  have K14 := Aside0.mk N
  clear N
  have c1_0_v14 : v14.cell? ⟨w.heap.size, 0, none⟩ = some (.int .i64 4) := (blk_cell K1.out 0).trans rfl
  have c8_0_v14 : v14.cell? ⟨g8, 0, none⟩ = some (.int .i64 2025) := (blk_cell K8.out 0).trans rfl
  have c8_1_v14 : v14.cell? ⟨g8, 1, none⟩ = some (.int .i64 12) := (blk_cell K8.out 1).trans rfl
  have c10_0_v14 : v14.cell? ⟨g10, 0, none⟩ = some (.int .i64 2026) := (blk_cell K10.out 0).trans rfl
  have c10_1_v14 : v14.cell? ⟨g10, 1, none⟩ = some (.int .i64 13) := (blk_cell K10.out 1).trans rfl
  have c12_0_v14 : v14.cell? ⟨g12, 0, none⟩ = some (.int .i64 0) := (blk_cell K12.out 0).trans rfl
  have c12_1_v14 : v14.cell? ⟨g12, 1, none⟩ = some (.int .i64 0) := (blk_cell K12.out 1).trans rfl
  have c14_0_v14 : v14.cell? ⟨g14, 0, none⟩ = some (.int .i64 2027) := (blk_cell K14.out 0).trans rfl
  have c14_1_v14 : v14.cell? ⟨g14, 1, none⟩ = some (.int .i64 1) := (blk_cell K14.out 1).trans rfl
  go_upto_region 9 with (go_at_call 25; (with_reducible refine (fiscal_Count.calls 40 4 2026 1 2027 1 13 0 _ (Laid.below HL.out HB.out) lv8_).mono ?_); rintro e x8 ⟨rfl, hb⟩)
  clear c1_0_v14 c8_0_v14 c8_1_v14 c10_0_v14 c10_1_v14 c12_0_v14 c12_1_v14 c14_0_v14 c14_1_v14
  have J1 := Aside0.mk (blk_below K1.out hb)
  clear K1
  have K1 := J1
  clear J1
  have J8 := Aside0.mk (blk_below K8.out hb)
  clear K8
  have K8 := J8
  clear J8
  have J10 := Aside0.mk (blk_below K10.out hb)
  clear K10
  have K10 := J10
  clear J10
  have J12 := Aside0.mk (blk_below K12.out hb)
  clear K12
  have K12 := J12
  clear J12
  have J14 := Aside0.mk (blk_below K14.out hb)
  clear K14
  have K14 := J14
  clear J14
  have HC := Aside0.mk (below_step HB.out hb)
  clear HB hb
  have HB := HC
  clear HC
  have c1_0_x8 : x8.cell? ⟨w.heap.size, 0, none⟩ = some (.int .i64 4) := (blk_cell K1.out 0).trans rfl
  have c8_0_x8 : x8.cell? ⟨g8, 0, none⟩ = some (.int .i64 2025) := (blk_cell K8.out 0).trans rfl
  have c8_1_x8 : x8.cell? ⟨g8, 1, none⟩ = some (.int .i64 12) := (blk_cell K8.out 1).trans rfl
  have c10_0_x8 : x8.cell? ⟨g10, 0, none⟩ = some (.int .i64 2026) := (blk_cell K10.out 0).trans rfl
  have c10_1_x8 : x8.cell? ⟨g10, 1, none⟩ = some (.int .i64 13) := (blk_cell K10.out 1).trans rfl
  have c12_0_x8 : x8.cell? ⟨g12, 0, none⟩ = some (.int .i64 0) := (blk_cell K12.out 0).trans rfl
  have c12_1_x8 : x8.cell? ⟨g12, 1, none⟩ = some (.int .i64 0) := (blk_cell K12.out 1).trans rfl
  have c14_0_x8 : x8.cell? ⟨g14, 0, none⟩ = some (.int .i64 2027) := (blk_cell K14.out 0).trans rfl
  have c14_1_x8 : x8.cell? ⟨g14, 1, none⟩ = some (.int .i64 1) := (blk_cell K14.out 1).trans rfl
  go_upto_region 10 with (go_at_call 20; (with_reducible refine (fiscal_Text.calls 2025 12 ⟨#[50, 48, 50, 53, 45, 49, 50]⟩ 0 _ lv9_).mono ?_); rintro e x9 ⟨rfl, hb⟩)
  clear c1_0_x8 c8_0_x8 c8_1_x8 c10_0_x8 c10_1_x8 c12_0_x8 c12_1_x8 c14_0_x8 c14_1_x8
  have J1 := Aside0.mk (blk_below K1.out hb)
  clear K1
  have K1 := J1
  clear J1
  have J8 := Aside0.mk (blk_below K8.out hb)
  clear K8
  have K8 := J8
  clear J8
  have J10 := Aside0.mk (blk_below K10.out hb)
  clear K10
  have K10 := J10
  clear J10
  have J12 := Aside0.mk (blk_below K12.out hb)
  clear K12
  have K12 := J12
  clear J12
  have J14 := Aside0.mk (blk_below K14.out hb)
  clear K14
  have K14 := J14
  clear J14
  have HC := Aside0.mk (below_step HB.out hb)
  clear HB hb
  have HB := HC
  clear HC
  have c1_0_x9 : x9.cell? ⟨w.heap.size, 0, none⟩ = some (.int .i64 4) := (blk_cell K1.out 0).trans rfl
  have c8_0_x9 : x9.cell? ⟨g8, 0, none⟩ = some (.int .i64 2025) := (blk_cell K8.out 0).trans rfl
  have c8_1_x9 : x9.cell? ⟨g8, 1, none⟩ = some (.int .i64 12) := (blk_cell K8.out 1).trans rfl
  have c10_0_x9 : x9.cell? ⟨g10, 0, none⟩ = some (.int .i64 2026) := (blk_cell K10.out 0).trans rfl
  have c10_1_x9 : x9.cell? ⟨g10, 1, none⟩ = some (.int .i64 13) := (blk_cell K10.out 1).trans rfl
  have c12_0_x9 : x9.cell? ⟨g12, 0, none⟩ = some (.int .i64 0) := (blk_cell K12.out 0).trans rfl
  have c12_1_x9 : x9.cell? ⟨g12, 1, none⟩ = some (.int .i64 0) := (blk_cell K12.out 1).trans rfl
  have c14_0_x9 : x9.cell? ⟨g14, 0, none⟩ = some (.int .i64 2027) := (blk_cell K14.out 0).trans rfl
  have c14_1_x9 : x9.cell? ⟨g14, 1, none⟩ = some (.int .i64 1) := (blk_cell K14.out 1).trans rfl
  go_upto_region 11 with (go_at_call 22; (with_reducible refine (fiscal_Parse.calls ⟨#[50, 48, 50, 54, 45, 49, 52]⟩ 0 0 16 _ lv10_).mono ?_); rintro e x10 ⟨rfl, hb⟩)
  clear c1_0_x9 c8_0_x9 c8_1_x9 c10_0_x9 c10_1_x9 c12_0_x9 c12_1_x9 c14_0_x9 c14_1_x9
  have J1 := Aside0.mk (blk_below K1.out hb)
  clear K1
  have K1 := J1
  clear J1
  have J8 := Aside0.mk (blk_below K8.out hb)
  clear K8
  have K8 := J8
  clear J8
  have J10 := Aside0.mk (blk_below K10.out hb)
  clear K10
  have K10 := J10
  clear J10
  have J12 := Aside0.mk (blk_below K12.out hb)
  clear K12
  have K12 := J12
  clear J12
  have J14 := Aside0.mk (blk_below K14.out hb)
  clear K14
  have K14 := J14
  clear J14
  have HC := Aside0.mk (below_step HB.out hb)
  clear HB hb
  have HB := HC
  clear HC
  have N := heap_alloc_new x10 (.cells #[.int .i64 0, .int .i64 0] 25 (0, 0))
  have J1 := Aside0.mk (blk_alloc K1.out (.cells #[.int .i64 0, .int .i64 0] 25 (0, 0)))
  clear K1
  have K1 := J1
  clear J1
  have J8 := Aside0.mk (blk_alloc K8.out (.cells #[.int .i64 0, .int .i64 0] 25 (0, 0)))
  clear K8
  have K8 := J8
  clear J8
  have J10 := Aside0.mk (blk_alloc K10.out (.cells #[.int .i64 0, .int .i64 0] 25 (0, 0)))
  clear K10
  have K10 := J10
  clear J10
  have J12 := Aside0.mk (blk_alloc K12.out (.cells #[.int .i64 0, .int .i64 0] 25 (0, 0)))
  clear K12
  have K12 := J12
  clear J12
  have J14 := Aside0.mk (blk_alloc K14.out (.cells #[.int .i64 0, .int .i64 0] 25 (0, 0)))
  clear K14
  have K14 := J14
  clear J14
  have HC := Aside0.mk (below_alloc HB.out (.cells #[.int .i64 0, .int .i64 0] 25 (0, 0)))
  clear HB
  have HB := HC
  clear HC
  generalize x10.alloc (.cells #[.int .i64 0, .int .i64 0] 25 (0, 0)) = v20 at N HB K1 K8 K10 K12 K14 ⊢
  generalize x10.heap.size = g20 at N ⊢
  have K20 := Aside0.mk N
  clear N
  have c1_0_v20 : v20.cell? ⟨w.heap.size, 0, none⟩ = some (.int .i64 4) := (blk_cell K1.out 0).trans rfl
  have c8_0_v20 : v20.cell? ⟨g8, 0, none⟩ = some (.int .i64 2025) := (blk_cell K8.out 0).trans rfl
  have c8_1_v20 : v20.cell? ⟨g8, 1, none⟩ = some (.int .i64 12) := (blk_cell K8.out 1).trans rfl
  have c10_0_v20 : v20.cell? ⟨g10, 0, none⟩ = some (.int .i64 2026) := (blk_cell K10.out 0).trans rfl
  have c10_1_v20 : v20.cell? ⟨g10, 1, none⟩ = some (.int .i64 13) := (blk_cell K10.out 1).trans rfl
  have c12_0_v20 : v20.cell? ⟨g12, 0, none⟩ = some (.int .i64 0) := (blk_cell K12.out 0).trans rfl
  have c12_1_v20 : v20.cell? ⟨g12, 1, none⟩ = some (.int .i64 0) := (blk_cell K12.out 1).trans rfl
  have c14_0_v20 : v20.cell? ⟨g14, 0, none⟩ = some (.int .i64 2027) := (blk_cell K14.out 0).trans rfl
  have c14_1_v20 : v20.cell? ⟨g14, 1, none⟩ = some (.int .i64 1) := (blk_cell K14.out 1).trans rfl
  have c20_0_v20 : v20.cell? ⟨g20, 0, none⟩ = some (.int .i64 0) := (blk_cell K20.out 0).trans rfl
  have c20_1_v20 : v20.cell? ⟨g20, 1, none⟩ = some (.int .i64 0) := (blk_cell K20.out 1).trans rfl
  go_wp2
  go_ret
  exact ⟨rfl, HB.out⟩

/-! ### fiscal_Prev: function 28 (by hand) -/
def fiscal_Prev.f (k : Nat) (a0_0 : Int) (a1_0 : Int) (a1_1 : Int) : Option (Int × Int × Int) := if a1_1 = 1 then fiscal_step.f k a0_0 a1_0 a1_1 (wrap64 (a1_0 - 1)) 13 else fiscal_step.f k a0_0 a1_0 a1_1 a1_0 (wrap64 (a1_1 - 1))
theorem fiscal_Prev.mono : ∀ a0 a1 a2 k, LeO (fiscal_Prev.f k a0 a1 a2) (fiscal_Prev.f (k + 1) a0 a1 a2) := by
  intro a0 a1 a2 k
  unfold fiscal_Prev.f
  exact LeO.ite (fiscal_step.mono _ _ _ _ _ _) (fiscal_step.mono _ _ _ _ _ _)
set_option maxHeartbeats 8000000 in
set_option maxRecDepth 100000 in
theorem fiscal_Prev.calls (k : Nat) (a0_0 a1_0 a1_1 r1 r2 r3 : Int) (w : World) (hLd : Laid w) (h : fiscal_Prev.f k a0_0 a1_0 a1_1 = some (r1, r2, r3)) :
    Calls Tryd.prog 28 #[.agg #[.int .i64 a0_0], .agg #[.int .i64 a1_0, .int .i64 a1_1]] w fun e w' => e = .returned (.tuple #[.agg #[.int .i64 r1, .int .i64 r2], .int .i64 r3]) ∧ Below w.heap.size w w' := by
  have HL := Aside0.mk hLd
  clear hLd
  unfold fiscal_Prev.f at h
  have hsz : ∀ o1 o2 o3 : Obj, (((w.alloc o1).alloc o2).alloc o3).heap[w.heap.size + 1 + 1]? = some o3 := fun o1 o2 o3 => by
    have := heap_alloc_new ((w.alloc o1).alloc o2) o3
    simpa using this
  have HZ := Aside0.mk hsz
  clear hsz
  have LE : Aside0 (w.heap.size ≤ w.heap.size + 1 + 1) := ⟨by omega⟩
  by_cases c : a1_1 = 1
  · rw [if_pos c] at h
    have c1 : (a1_1 == 1) = true := beq_iff_eq.mpr c
    have HH := Aside0.mk h
    clear h c
    go_enter Tryd.func28, Tryd.ntmps28
    go_wp2_with (go_at_call 44; (with_reducible refine (fiscal_step.calls k a0_0 a1_0 a1_1 _ _ r1 r2 r3 _ (by repeat (first | exact HL.out | apply Laid.alloc)) HH.out).mono ?_); rintro e w' ⟨rfl, hb⟩; have m0 := blk_below (HZ.out _ _ _) hb; have z0 := blk_frozen m0 0; have z1 := blk_frozen m0 1; have y0 := (blk_cell m0 0).trans rfl; have y1 := (blk_cell m0 1).trans rfl)
    refine bodyPost_ret (results_ct rfl _ _ (w.heap.size + 1 + 1) 25 #[.int .i64 r1, .int .i64 r2] (0, 0) _ rfl (by refine blk_put (cs := #[.int .i64 r1, .int .i64 13]) ?_ 1 _ rfl; refine blk_put (cs := #[.int .i64 (wrap64 (a1_0 - 1)), .int .i64 13]) ?_ 0 _ rfl; exact m0) Tryd.underlying25 rfl (by kernel_rfl)) rfl ?_
    exact ⟨rfl, below_set (below_set (below_step (by repeat (first | exact Below.refl _ _ | apply below_alloc)) hb) LE.out) LE.out⟩
  · rw [if_neg c] at h
    have c1 : (a1_1 == 1) = false := beq_eq_false_iff_ne.mpr c
    have HH := Aside0.mk h
    clear h c
    go_enter Tryd.func28, Tryd.ntmps28
    go_wp2_with (go_at_call 44; (with_reducible refine (fiscal_step.calls k a0_0 a1_0 a1_1 _ _ r1 r2 r3 _ (by repeat (first | exact HL.out | apply Laid.alloc)) HH.out).mono ?_); rintro e w' ⟨rfl, hb⟩; have m0 := blk_below (HZ.out _ _ _) hb; have z0 := blk_frozen m0 0; have z1 := blk_frozen m0 1; have y0 := (blk_cell m0 0).trans rfl; have y1 := (blk_cell m0 1).trans rfl)
    refine bodyPost_ret (results_ct rfl _ _ (w.heap.size + 1 + 1) 25 #[.int .i64 r1, .int .i64 r2] (0, 0) _ rfl (by refine blk_put (cs := #[.int .i64 r1, .int .i64 (wrap64 (a1_1 - 1))]) ?_ 1 _ rfl; refine blk_put (cs := #[.int .i64 a1_0, .int .i64 (wrap64 (a1_1 - 1))]) ?_ 0 _ rfl; exact m0) Tryd.underlying25 rfl (by kernel_rfl)) rfl ?_
    exact ⟨rfl, below_set (below_set (below_step (by repeat (first | exact Below.refl _ _ | apply below_alloc)) hb) LE.out) LE.out⟩

/-! ### cmp_isNaN_int: function 54 -/
def cmp_isNaN_int.f (a0 : Int) : Option (Bool) := some (a0 != a0)
set_option maxHeartbeats 8000000 in
set_option maxRecDepth 100000 in
theorem cmp_isNaN_int.calls (a0 : Int) (r : Bool) (w : World) (h : cmp_isNaN_int.f a0 = some r) :
    Calls Tryd.prog 54 #[.int .i64 a0] w fun e w' => e = .returned (.bool r) ∧ Drawn0 w w' := by
  have H : (some (a0 != a0)) = some r := h
  clear h
  obtain rfl := Option.some.inj H
  go_enter Tryd.func54, Tryd.ntmps54
  go_wp2
  go_ret
  exact ⟨by first | rfl | (simp; done) | (simp [*]; done) | (simp; generalize ByteArray.toList _ = l_; cases l_ <;> rfl), by repeat (first | exact Drawn0.refl _ | apply Drawn0.step)⟩

/-! ### cmp_Compare_int: function 45 -/
def cmp_Compare_int.f (a0 : Int) (a1 : Int) : Option (Int) := (cmp_isNaN_int.f a0).bind fun t137 => ((cmp_isNaN_int.f a1).bind fun t138 => (if t137 = true then (if t138 = true then (some 0) else (some (-1))) else (if t138 = true then (some 1) else (if a0 < a1 then (some (-1)) else (if a0 > a1 then (some 1) else (some 0))))))
set_option maxHeartbeats 8000000 in
set_option maxRecDepth 100000 in
theorem cmp_Compare_int.calls (a0 : Int) (a1 : Int) (r : Int) (w : World) (h : cmp_Compare_int.f a0 a1 = some r) :
    Calls Tryd.prog 45 #[.int .i64 a0, .int .i64 a1] w fun e w' => e = .returned (.int .i64 r) ∧ Drawn0 w w' := by
  have H : ((cmp_isNaN_int.f a0).bind fun t137 => ((cmp_isNaN_int.f a1).bind fun t138 => (if t137 = true then (if t138 = true then (some 0) else (some (-1))) else (if t138 = true then (some 1) else (if a0 < a1 then (some (-1)) else (if a0 > a1 then (some 1) else (some 0))))))) = some r := h
  clear h
  replace H := Option.bind_eq_some_iff.mp H
  obtain ⟨t137, A30, H⟩ := H
  replace H : ((cmp_isNaN_int.f a1).bind fun t138 => (if t137 = true then (if t138 = true then (some 0) else (some (-1))) else (if t138 = true then (some 1) else (if a0 < a1 then (some (-1)) else (if a0 > a1 then (some 1) else (some 0)))))) = some r := H
  have A3 := Aside0.mk A30
  clear A30
  replace H := Option.bind_eq_some_iff.mp H
  obtain ⟨t138, A40, H⟩ := H
  replace H : (if t137 = true then (if t138 = true then (some 0) else (some (-1))) else (if t138 = true then (some 1) else (if a0 < a1 then (some (-1)) else (if a0 > a1 then (some 1) else (some 0))))) = some r := H
  have A4 := Aside0.mk A40
  clear A40
  by_cases c5 : t137 = true
  · subst c5
    have H1 : (if t138 = true then (some 0) else (some (-1))) = some r := by rw [if_pos rfl] at H; exact H
    clear H
    have H := H1
    clear H1
    by_cases c6 : t138 = true
    · subst c6
      have H1 : (some 0) = some r := by rw [if_pos rfl] at H; exact H
      clear H
      have H := H1
      clear H1
      obtain rfl := Option.some.inj H
      go_enter Tryd.func45, Tryd.ntmps45
      go_wp2_with (first | ((with_reducible refine gate_callee (f := 54) rfl ?_); refine goesL_ (some 8) rfl rfl Tryd.func54 (by kernel_rfl) rfl #[.int .i64 a0] rfl (by (try simp only [List.map_toArray, List.map_cons, List.map_nil]); first | done | rfl | (simp only [List.length_drop, List.length_take]; rfl)) ?_; (with_reducible refine (cmp_isNaN_int.calls a0 true _ A3.out).mono ?_); rintro e w' ⟨rfl, ⟨nd, rfl⟩⟩; refine ⟨_, rfl, ?_⟩) | ((with_reducible refine gate_callee (f := 54) rfl ?_); refine goesL_ (some 10) rfl rfl Tryd.func54 (by kernel_rfl) rfl #[.int .i64 a1] rfl (by (try simp only [List.map_toArray, List.map_cons, List.map_nil]); first | done | rfl | (simp only [List.length_drop, List.length_take]; rfl)) ?_; (with_reducible refine (cmp_isNaN_int.calls a1 true _ A4.out).mono ?_); rintro e w' ⟨rfl, ⟨nd, rfl⟩⟩; refine ⟨_, rfl, ?_⟩))
      go_ret
      exact ⟨by first | rfl | (simp; done) | (simp [*]; done) | (simp; generalize ByteArray.toList _ = l_; cases l_ <;> rfl), by repeat (first | exact Drawn0.refl _ | apply Drawn0.step)⟩
    · replace c6 := Bool.eq_false_iff.mpr c6
      subst c6
      have H1 : (some (-1)) = some r := by rw [if_neg (show ¬ (false = true) by decide)] at H; exact H
      clear H
      have H := H1
      clear H1
      obtain rfl := Option.some.inj H
      go_enter Tryd.func45, Tryd.ntmps45
      go_wp2_with (first | ((with_reducible refine gate_callee (f := 54) rfl ?_); refine goesL_ (some 8) rfl rfl Tryd.func54 (by kernel_rfl) rfl #[.int .i64 a0] rfl (by (try simp only [List.map_toArray, List.map_cons, List.map_nil]); first | done | rfl | (simp only [List.length_drop, List.length_take]; rfl)) ?_; (with_reducible refine (cmp_isNaN_int.calls a0 true _ A3.out).mono ?_); rintro e w' ⟨rfl, ⟨nd, rfl⟩⟩; refine ⟨_, rfl, ?_⟩) | ((with_reducible refine gate_callee (f := 54) rfl ?_); refine goesL_ (some 10) rfl rfl Tryd.func54 (by kernel_rfl) rfl #[.int .i64 a1] rfl (by (try simp only [List.map_toArray, List.map_cons, List.map_nil]); first | done | rfl | (simp only [List.length_drop, List.length_take]; rfl)) ?_; (with_reducible refine (cmp_isNaN_int.calls a1 false _ A4.out).mono ?_); rintro e w' ⟨rfl, ⟨nd, rfl⟩⟩; refine ⟨_, rfl, ?_⟩))
      go_ret
      exact ⟨by first | rfl | (simp; done) | (simp [*]; done) | (simp; generalize ByteArray.toList _ = l_; cases l_ <;> rfl), by repeat (first | exact Drawn0.refl _ | apply Drawn0.step)⟩
  · replace c5 := Bool.eq_false_iff.mpr c5
    subst c5
    have H1 : (if t138 = true then (some 1) else (if a0 < a1 then (some (-1)) else (if a0 > a1 then (some 1) else (some 0)))) = some r := by rw [if_neg (show ¬ (false = true) by decide)] at H; exact H
    clear H
    have H := H1
    clear H1
    by_cases c7 : t138 = true
    · subst c7
      have H1 : (some 1) = some r := by rw [if_pos rfl] at H; exact H
      clear H
      have H := H1
      clear H1
      obtain rfl := Option.some.inj H
      go_enter Tryd.func45, Tryd.ntmps45
      go_wp2_with (first | ((with_reducible refine gate_callee (f := 54) rfl ?_); refine goesL_ (some 8) rfl rfl Tryd.func54 (by kernel_rfl) rfl #[.int .i64 a0] rfl (by (try simp only [List.map_toArray, List.map_cons, List.map_nil]); first | done | rfl | (simp only [List.length_drop, List.length_take]; rfl)) ?_; (with_reducible refine (cmp_isNaN_int.calls a0 false _ A3.out).mono ?_); rintro e w' ⟨rfl, ⟨nd, rfl⟩⟩; refine ⟨_, rfl, ?_⟩) | ((with_reducible refine gate_callee (f := 54) rfl ?_); refine goesL_ (some 10) rfl rfl Tryd.func54 (by kernel_rfl) rfl #[.int .i64 a1] rfl (by (try simp only [List.map_toArray, List.map_cons, List.map_nil]); first | done | rfl | (simp only [List.length_drop, List.length_take]; rfl)) ?_; (with_reducible refine (cmp_isNaN_int.calls a1 true _ A4.out).mono ?_); rintro e w' ⟨rfl, ⟨nd, rfl⟩⟩; refine ⟨_, rfl, ?_⟩))
      go_ret
      exact ⟨by first | rfl | (simp; done) | (simp [*]; done) | (simp; generalize ByteArray.toList _ = l_; cases l_ <;> rfl), by repeat (first | exact Drawn0.refl _ | apply Drawn0.step)⟩
    · replace c7 := Bool.eq_false_iff.mpr c7
      subst c7
      have H1 : (if a0 < a1 then (some (-1)) else (if a0 > a1 then (some 1) else (some 0))) = some r := by rw [if_neg (show ¬ (false = true) by decide)] at H; exact H
      clear H
      have H := H1
      clear H1
      by_cases c8 : a0 < a1
      · rw [if_pos c8] at H
        have c8b0 : decide (a0 < a1) = true := decide_eq_true c8
        clear c8
        obtain rfl := Option.some.inj H
        go_enter Tryd.func45, Tryd.ntmps45
        go_wp2_with (first | ((with_reducible refine gate_callee (f := 54) rfl ?_); refine goesL_ (some 8) rfl rfl Tryd.func54 (by kernel_rfl) rfl #[.int .i64 a0] rfl (by (try simp only [List.map_toArray, List.map_cons, List.map_nil]); first | done | rfl | (simp only [List.length_drop, List.length_take]; rfl)) ?_; (with_reducible refine (cmp_isNaN_int.calls a0 false _ A3.out).mono ?_); rintro e w' ⟨rfl, ⟨nd, rfl⟩⟩; refine ⟨_, rfl, ?_⟩) | ((with_reducible refine gate_callee (f := 54) rfl ?_); refine goesL_ (some 10) rfl rfl Tryd.func54 (by kernel_rfl) rfl #[.int .i64 a1] rfl (by (try simp only [List.map_toArray, List.map_cons, List.map_nil]); first | done | rfl | (simp only [List.length_drop, List.length_take]; rfl)) ?_; (with_reducible refine (cmp_isNaN_int.calls a1 false _ A4.out).mono ?_); rintro e w' ⟨rfl, ⟨nd, rfl⟩⟩; refine ⟨_, rfl, ?_⟩))
        go_ret
        exact ⟨by first | rfl | (simp; done) | (simp [*]; done) | (simp; generalize ByteArray.toList _ = l_; cases l_ <;> rfl), by repeat (first | exact Drawn0.refl _ | apply Drawn0.step)⟩
      · rw [if_neg c8] at H
        have c8b0 : decide (a0 < a1) = false := decide_eq_false c8
        clear c8
        by_cases c9 : a0 > a1
        · rw [if_pos c9] at H
          have c9b0 : decide (a1 < a0) = true := decide_eq_true c9
          clear c9
          obtain rfl := Option.some.inj H
          go_enter Tryd.func45, Tryd.ntmps45
          go_wp2_with (first | ((with_reducible refine gate_callee (f := 54) rfl ?_); refine goesL_ (some 8) rfl rfl Tryd.func54 (by kernel_rfl) rfl #[.int .i64 a0] rfl (by (try simp only [List.map_toArray, List.map_cons, List.map_nil]); first | done | rfl | (simp only [List.length_drop, List.length_take]; rfl)) ?_; (with_reducible refine (cmp_isNaN_int.calls a0 false _ A3.out).mono ?_); rintro e w' ⟨rfl, ⟨nd, rfl⟩⟩; refine ⟨_, rfl, ?_⟩) | ((with_reducible refine gate_callee (f := 54) rfl ?_); refine goesL_ (some 10) rfl rfl Tryd.func54 (by kernel_rfl) rfl #[.int .i64 a1] rfl (by (try simp only [List.map_toArray, List.map_cons, List.map_nil]); first | done | rfl | (simp only [List.length_drop, List.length_take]; rfl)) ?_; (with_reducible refine (cmp_isNaN_int.calls a1 false _ A4.out).mono ?_); rintro e w' ⟨rfl, ⟨nd, rfl⟩⟩; refine ⟨_, rfl, ?_⟩))
          go_ret
          exact ⟨by first | rfl | (simp; done) | (simp [*]; done) | (simp; generalize ByteArray.toList _ = l_; cases l_ <;> rfl), by repeat (first | exact Drawn0.refl _ | apply Drawn0.step)⟩
        · rw [if_neg c9] at H
          have c9b0 : decide (a1 < a0) = false := decide_eq_false c9
          clear c9
          obtain rfl := Option.some.inj H
          go_enter Tryd.func45, Tryd.ntmps45
          go_wp2_with (first | ((with_reducible refine gate_callee (f := 54) rfl ?_); refine goesL_ (some 8) rfl rfl Tryd.func54 (by kernel_rfl) rfl #[.int .i64 a0] rfl (by (try simp only [List.map_toArray, List.map_cons, List.map_nil]); first | done | rfl | (simp only [List.length_drop, List.length_take]; rfl)) ?_; (with_reducible refine (cmp_isNaN_int.calls a0 false _ A3.out).mono ?_); rintro e w' ⟨rfl, ⟨nd, rfl⟩⟩; refine ⟨_, rfl, ?_⟩) | ((with_reducible refine gate_callee (f := 54) rfl ?_); refine goesL_ (some 10) rfl rfl Tryd.func54 (by kernel_rfl) rfl #[.int .i64 a1] rfl (by (try simp only [List.map_toArray, List.map_cons, List.map_nil]); first | done | rfl | (simp only [List.length_drop, List.length_take]; rfl)) ?_; (with_reducible refine (cmp_isNaN_int.calls a1 false _ A4.out).mono ?_); rintro e w' ⟨rfl, ⟨nd, rfl⟩⟩; refine ⟨_, rfl, ?_⟩))
          go_ret
          exact ⟨by first | rfl | (simp; done) | (simp [*]; done) | (simp; generalize ByteArray.toList _ = l_; cases l_ <;> rfl), by repeat (first | exact Drawn0.refl _ | apply Drawn0.step)⟩

/-! ### fiscal_Cmp: function 26 (by hand) -/
theorem compare_is_ {a b : Int} (h : a ≠ b) : cmp_Compare_int.f a b = some (if a < b then -1 else 1) := by
  unfold cmp_Compare_int.f cmp_isNaN_int.f
  simp only [Option.bind_some]
  by_cases c : a < b
  · simp [c]
  · have : a > b := by omega
    simp [c, this]
def fiscal_Cmp.f (a0_0 a0_1 a1_0 a1_1 : Int) : Option Int := some (Fi.pcmp_ a0_0 a0_1 a1_0 a1_1)
set_option maxHeartbeats 8000000 in
set_option maxRecDepth 100000 in
theorem fiscal_Cmp.calls (a0_0 a0_1 a1_0 a1_1 r : Int) (w : World) (h : fiscal_Cmp.f a0_0 a0_1 a1_0 a1_1 = some r) :
    Calls Tryd.prog 26 #[.agg #[.int .i64 a0_0, .int .i64 a0_1], .agg #[.int .i64 a1_0, .int .i64 a1_1]] w fun e w' => e = .returned (.int .i64 r) ∧ Below w.heap.size w w' := by
  have hr := Option.some.inj h
  clear h
  unfold Fi.pcmp_ at hr
  by_cases c1 : a0_0 = a1_0
  · rw [if_pos c1] at hr
    subst c1
    by_cases c2 : a0_1 = a1_1
    · rw [if_pos c2] at hr
      subst c2
      subst hr
      go_enter Tryd.func26, Tryd.ntmps26
      go_wp2
      go_ret
      exact ⟨rfl, below_alloc (below_alloc (Below.refl _ _) _) _⟩
    · rw [if_neg c2] at hr
      have C := Aside0.mk (compare_is_ c2)
      rw [hr] at C
      have b1 : (a0_1 == a1_1) = false := beq_eq_false_iff_ne.mpr c2
      clear hr c2
      go_enter Tryd.func26, Tryd.ntmps26
      go_wp2_with (go_at_call 45; (with_reducible refine (cmp_Compare_int.calls _ _ r _ C.out).mono ?_); rintro e w' ⟨rfl, hd⟩; have hb := hd.below; clear hd)
      go_ret
      exact ⟨rfl, below_step (below_alloc (below_alloc (Below.refl _ _) _) _) hb⟩
  · rw [if_neg c1] at hr
    have C := Aside0.mk (compare_is_ c1)
    rw [hr] at C
    have b1 : (a0_0 == a1_0) = false := beq_eq_false_iff_ne.mpr c1
    have b2 : (a0_0 != a1_0) = true := bne_iff_ne.mpr c1
    clear hr c1
    go_enter Tryd.func26, Tryd.ntmps26
    go_wp2_with (go_at_call 45; (with_reducible refine (cmp_Compare_int.calls _ _ r _ C.out).mono ?_); rintro e w' ⟨rfl, hd⟩; have hb := hd.below; clear hd)
    go_ret
    exact ⟨rfl, below_step (below_alloc (below_alloc (Below.refl _ _) _) _) hb⟩

end Go.Proofs.YtghheaimgjkccaaDoor.F
