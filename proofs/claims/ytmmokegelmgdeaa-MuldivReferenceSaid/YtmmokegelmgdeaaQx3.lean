/- Printed by a program of this session (wip/gen/myprint.py): plain Lean functions that compute what the Go functions compute, and the contracts that say so; each contract names its premises. -/
import Derived.Test.YtmmokegelmgdeaaQx0
import Derived.Test.YtmmokegelmgdeaaQx1
namespace Go.Proofs.Ytmmokegelmgdeaa.Q
open Go.RowKit Go.Proofs.YtmmokegelmgdeaaW.PrintWords Go.Proofs.YtmmokegelmgdeaaW.PrintLast Go.Proofs.YtmmokegelmgdeaaW.PrintMore
attribute [local go_sem] max2_int min2_int max_two min_two max_three min_three max_four min_four   -- for this text's walks alone
set_option linter.unusedVariables false
set_option linter.unusedSimpArgs false

/-! ### accountinglaw02_MuldivNear: function 9 -/
mutual
def accountinglaw02_MuldivNear.j0 : Nat → Int → Int → Int → Bool → Option (Bool)
  | 0, _, _, _, _ => none
  | k + 1, x0, x1, x2, x34 => if x34 = true then ((accountinglaw02_lives.f).bind fun t174 => (some t174)) else ((muldiv_MulDiv.f x0 x1 x2 3).bind fun bt175 => ((muldiv_MulDiv.f x0 x1 x2 4).bind fun bt177 => (if bt175.2 = 0 then (accountinglaw02_MuldivNear.j1 k x0 x1 x2 bt175.1 bt175.2 bt177.1 bt177.2 (bt177.2 != 0)) else (accountinglaw02_MuldivNear.j1 k x0 x1 x2 bt175.1 bt175.2 bt177.1 bt177.2 true))))
def accountinglaw02_MuldivNear.j1 : Nat → Int → Int → Int → Int → Int → Int → Int → Bool → Option (Bool)
  | 0, _, _, _, _, _, _, _, _ => none
  | k + 1, x0, x1, x2, x7, x8, x9, x10, x55 => if x55 = true then (if x8 = 0 then (if x10 = 0 then ((accountinglaw02_lives.f).bind fun t179 => (some t179)) else (if x10 = 4 then ((accountinglaw02_lives.f).bind fun t180 => (some t180)) else (some false))) else (if x8 = 4 then (if x10 = 0 then ((accountinglaw02_lives.f).bind fun t181 => (some t181)) else (if x10 = 4 then ((accountinglaw02_lives.f).bind fun t182 => (some t182)) else (some false))) else (some false))) else (if (wrap64 (2 * (wrap64 ((wrap64 (x0 * x1)) - (wrap64 (x7 * x2)))))) > x2 then (some false) else (if (wrap64 (2 * (wrap64 ((wrap64 (x0 * x1)) - (wrap64 (x7 * x2)))))) < (wrap64 (-x2)) then (some false) else (if (wrap64 (2 * (wrap64 ((wrap64 (x0 * x1)) - (wrap64 (x9 * x2)))))) > x2 then (some false) else (if (wrap64 (2 * (wrap64 ((wrap64 (x0 * x1)) - (wrap64 (x9 * x2)))))) < (wrap64 (-x2)) then (some false) else (if x7 = x9 then ((accountinglaw02_lives.f).bind fun t183 => (some t183)) else (if (Int.tmod x9 2) = 0 then (if (wrap64 (2 * (wrap64 ((wrap64 (x0 * x1)) - (wrap64 (x7 * x2)))))) = x2 then ((accountinglaw02_lives.f).bind fun t184 => (some t184)) else (if (wrap64 (2 * (wrap64 ((wrap64 (x0 * x1)) - (wrap64 (x7 * x2)))))) = (wrap64 (-x2)) then ((accountinglaw02_lives.f).bind fun t185 => (some t185)) else (some false))) else (some false)))))))
end
def accountinglaw02_MuldivNear.f (k : Nat) (a0 : Int) (a1 : Int) (a2 : Int) : Option (Bool) := if a2 < 1 then (accountinglaw02_MuldivNear.j0 k a0 a1 a2 true) else (if a2 > 1000000000000000 then (accountinglaw02_MuldivNear.j0 k a0 a1 a2 true) else (if a0 > 1000000000000000 then (accountinglaw02_MuldivNear.j0 k a0 a1 a2 true) else (if a0 < (-1000000000000000) then (accountinglaw02_MuldivNear.j0 k a0 a1 a2 true) else (if a1 > 1000000 then (accountinglaw02_MuldivNear.j0 k a0 a1 a2 true) else (accountinglaw02_MuldivNear.j0 k a0 a1 a2 (decide (a1 < (-1000000))))))))
theorem accountinglaw02_MuldivNear.mono_l : ∀ k, (∀ y0 y1 y2 y3, LeO (accountinglaw02_MuldivNear.j0 k y0 y1 y2 y3) (accountinglaw02_MuldivNear.j0 (k + 1) y0 y1 y2 y3)) ∧ (∀ y0 y1 y2 y3 y4 y5 y6 y7, LeO (accountinglaw02_MuldivNear.j1 k y0 y1 y2 y3 y4 y5 y6 y7) (accountinglaw02_MuldivNear.j1 (k + 1) y0 y1 y2 y3 y4 y5 y6 y7))
  | 0 => ⟨fun _ _ _ _ r h => by simp [accountinglaw02_MuldivNear.j0] at h, fun _ _ _ _ _ _ _ _ r h => by simp [accountinglaw02_MuldivNear.j1] at h⟩
  | k + 1 => by
    obtain ⟨ih0, ih1⟩ := accountinglaw02_MuldivNear.mono_l k
    refine ⟨?_, ?_⟩
    · intro y0 y1 y2 y3
      unfold accountinglaw02_MuldivNear.j0
      repeat' first
      | (with_reducible exact ih0 _ _ _ _)
      | (with_reducible exact ih1 _ _ _ _ _ _ _ _)
      | (with_reducible exact LeO.refl _)
      | (with_reducible exact LeO.none _)
      | (with_reducible refine LeO.ite ?_ ?_)
      | (with_reducible refine LeO.bind ?_ (fun _ => ?_))
      | exact ih0 _ _ _ _
      | exact ih1 _ _ _ _ _ _ _ _
      | exact LeO.none _
      | refine LeO.ite ?_ ?_
      | refine LeO.bind ?_ (fun _ => ?_)
    · intro y0 y1 y2 y3 y4 y5 y6 y7
      unfold accountinglaw02_MuldivNear.j1
      repeat' first
      | (with_reducible exact ih0 _ _ _ _)
      | (with_reducible exact ih1 _ _ _ _ _ _ _ _)
      | (with_reducible exact LeO.refl _)
      | (with_reducible exact LeO.none _)
      | (with_reducible refine LeO.ite ?_ ?_)
      | (with_reducible refine LeO.bind ?_ (fun _ => ?_))
      | exact ih0 _ _ _ _
      | exact ih1 _ _ _ _ _ _ _ _
      | exact LeO.none _
      | refine LeO.ite ?_ ?_
      | refine LeO.bind ?_ (fun _ => ?_)
theorem accountinglaw02_MuldivNear.mono : ∀ a0 a1 a2 k, LeO (accountinglaw02_MuldivNear.f k a0 a1 a2) (accountinglaw02_MuldivNear.f (k + 1) a0 a1 a2) := by
  intro a0 a1 a2 k
  obtain ⟨ih0, ih1⟩ := accountinglaw02_MuldivNear.mono_l k
  unfold accountinglaw02_MuldivNear.f
  repeat' first
      | (with_reducible exact ih0 _ _ _ _)
      | (with_reducible exact ih1 _ _ _ _ _ _ _ _)
      | (with_reducible exact LeO.refl _)
      | (with_reducible exact LeO.none _)
      | (with_reducible refine LeO.ite ?_ ?_)
      | (with_reducible refine LeO.bind ?_ (fun _ => ?_))
      | exact ih0 _ _ _ _
      | exact ih1 _ _ _ _ _ _ _ _
      | exact LeO.none _
      | refine LeO.ite ?_ ?_
      | refine LeO.bind ?_ (fun _ => ?_)
set_option maxHeartbeats 8000000 in
set_option maxRecDepth 100000 in
theorem accountinglaw02_MuldivNear.calls (k : Nat) (a0 : Int) (a1 : Int) (a2 : Int) (r : Bool) (w : World) (h : accountinglaw02_MuldivNear.f k a0 a1 a2 = some r) :
    Calls Try.prog 9 #[.int .i64 a0, .int .i64 a1, .int .i64 a2] w fun e w' => e = .returned (.bool r) ∧ Below w.heap.size w w' := by
  have HB := Aside0.mk (Below.refl w.heap.size w)
  have H : (if a2 < 1 then (accountinglaw02_MuldivNear.j0 k a0 a1 a2 true) else (if a2 > 1000000000000000 then (accountinglaw02_MuldivNear.j0 k a0 a1 a2 true) else (if a0 > 1000000000000000 then (accountinglaw02_MuldivNear.j0 k a0 a1 a2 true) else (if a0 < (-1000000000000000) then (accountinglaw02_MuldivNear.j0 k a0 a1 a2 true) else (if a1 > 1000000 then (accountinglaw02_MuldivNear.j0 k a0 a1 a2 true) else (accountinglaw02_MuldivNear.j0 k a0 a1 a2 (decide (a1 < (-1000000))))))))) = some r := h
  clear h
  have HC4 := Aside0.mk H
  clear H
  go_enter Try.func9, Try.ntmps9
  go_upto_region 1 with (fail)
  go_cut [34] (fun v34 wc => ∃ (kq : Nat) (x34_3 : Bool), v34 = .bool x34_3 ∧ Aside0 (accountinglaw02_MuldivNear.j0 kq a0 a1 a2 x34_3 = some r) ∧ Aside0 (kq ≤ k) ∧ Aside0 (Below w.heap.size w wc))
  case first =>
    have H := HC4.out
    clear HC4
    by_cases c5 : a2 < 1
    · rw [if_pos c5] at H
      have c5b0 : decide (a2 < 1) = true := decide_eq_true c5
      clear c5
      (first | rw [c5b0] | (simp only [i64_w, i32_w]; rw [c5b0]) | skip)
      have H' := Aside0.mk H
      clear H
      go_wp2
      go_meet
      case rel => exact ⟨_, (true), (by first | rfl | (simp; done) | (simp [*]; done)), H', ⟨by first | omega | exact Nat.le_refl _⟩, ⟨by repeat (first | (with_reducible first | exact HB.out | apply below_alloc | apply pw_below_drewN | apply below_drew1) | exact HB.out)⟩⟩
    · rw [if_neg c5] at H
      have c5b0 : decide (a2 < 1) = false := decide_eq_false c5
      clear c5
      (first | rw [c5b0] | (simp only [i64_w, i32_w]; rw [c5b0]) | skip)
      by_cases c6 : a2 > 1000000000000000
      · rw [if_pos c6] at H
        have c6b0 : decide (1000000000000000 < a2) = true := decide_eq_true c6
        clear c6
        have H' := Aside0.mk H
        clear H
        go_wp2
        go_meet
        case rel => exact ⟨_, (true), (by first | rfl | (simp; done) | (simp [*]; done)), H', ⟨by first | omega | exact Nat.le_refl _⟩, ⟨by repeat (first | (with_reducible first | exact HB.out | apply below_alloc | apply pw_below_drewN | apply below_drew1) | exact HB.out)⟩⟩
      · rw [if_neg c6] at H
        have c6b0 : decide (1000000000000000 < a2) = false := decide_eq_false c6
        clear c6
        by_cases c7 : a0 > 1000000000000000
        · rw [if_pos c7] at H
          have c7b0 : decide (1000000000000000 < a0) = true := decide_eq_true c7
          clear c7
          have H' := Aside0.mk H
          clear H
          go_wp2
          go_meet
          case rel => exact ⟨_, (true), (by first | rfl | (simp; done) | (simp [*]; done)), H', ⟨by first | omega | exact Nat.le_refl _⟩, ⟨by repeat (first | (with_reducible first | exact HB.out | apply below_alloc | apply pw_below_drewN | apply below_drew1) | exact HB.out)⟩⟩
        · rw [if_neg c7] at H
          have c7b0 : decide (1000000000000000 < a0) = false := decide_eq_false c7
          clear c7
          by_cases c8 : a0 < (-1000000000000000)
          · rw [if_pos c8] at H
            have c8b0 : decide (a0 < (-1000000000000000)) = true := decide_eq_true c8
            clear c8
            have H' := Aside0.mk H
            clear H
            go_wp2
            go_meet
            case rel => exact ⟨_, (true), (by first | rfl | (simp; done) | (simp [*]; done)), H', ⟨by first | omega | exact Nat.le_refl _⟩, ⟨by repeat (first | (with_reducible first | exact HB.out | apply below_alloc | apply pw_below_drewN | apply below_drew1) | exact HB.out)⟩⟩
          · rw [if_neg c8] at H
            have c8b0 : decide (a0 < (-1000000000000000)) = false := decide_eq_false c8
            clear c8
            by_cases c9 : a1 > 1000000
            · rw [if_pos c9] at H
              have c9b0 : decide (1000000 < a1) = true := decide_eq_true c9
              clear c9
              have H' := Aside0.mk H
              clear H
              go_wp2
              go_meet
              case rel => exact ⟨_, (true), (by first | rfl | (simp; done) | (simp [*]; done)), H', ⟨by first | omega | exact Nat.le_refl _⟩, ⟨by repeat (first | (with_reducible first | exact HB.out | apply below_alloc | apply pw_below_drewN | apply below_drew1) | exact HB.out)⟩⟩
            · rw [if_neg c9] at H
              have c9b0 : decide (1000000 < a1) = false := decide_eq_false c9
              clear c9
              have H' := Aside0.mk H
              clear H
              go_wp2
              go_meet
              case rel => exact ⟨_, (decide (a1 < (-1000000))), (by first | rfl | (simp; done) | (simp [*]; done)), H', ⟨by first | omega | exact Nat.le_refl _⟩, ⟨by repeat (first | (with_reducible first | exact HB.out | apply below_alloc | apply pw_below_drewN | apply below_drew1) | exact HB.out)⟩⟩
  case rest =>
    clear HC4
    try clear p2
    try clear c5
    try clear c5b0
    try clear c6
    try clear c6b0
    try clear c7
    try clear c7b0
    try clear c8
    try clear c8b0
    try clear c9
    try clear c9b0
    obtain ⟨kq, x34_3, rfl, HA, HJ3, HB⟩ := hcut
    cases kq with
    | zero => exact absurd HA.out (by simp [accountinglaw02_MuldivNear.j0])
    | succ kj3 =>
      have H := HA.out
      clear HA
      simp only [accountinglaw02_MuldivNear.j0] at H
      by_cases c10 : x34_3 = true
      · subst c10
        have H1 : ((accountinglaw02_lives.f).bind fun t174 => (some t174)) = some r := by rw [if_pos rfl] at H; exact H
        clear H
        have H := H1
        clear H1
        replace H := Option.bind_eq_some_iff.mp H
        obtain ⟨t174, A110, H⟩ := H
        replace H : (some t174) = some r := H
        have A11 := Aside0.mk A110
        clear A110
        obtain rfl := Option.some.inj H
        go_wp2_with (first | ((with_reducible refine gate_callee (f := 17) rfl ?_); refine goesL_ (some 35) rfl rfl Try.func17 (by kernel_rfl) rfl #[] rfl (by (try simp only [List.map_toArray, List.map_cons, List.map_nil]); first | done | rfl | (simp only [List.length_drop, List.length_take]; rfl)) ?_; (with_reducible refine (accountinglaw02_lives.calls  t174 _ A11.out).mono ?_); rintro e w12 ⟨rfl, hb⟩; refine ⟨_, rfl, ?_⟩; have n0_ := Aside0.mk (below_step (by repeat (first | (with_reducible first | exact HB.out | apply below_alloc | apply pw_below_drewN | apply below_drew1) | exact HB.out)) hb); clear HB; have HB := n0_; clear n0_; (try clear hb); (try clear hb2); (try clear hk); (try clear hi)))
        go_ret
        exact ⟨by first | rfl | (simp [errW_none, errW_some] <;> rfl) | (simp [*, errW_none, errW_some] <;> rfl), by repeat (first | (with_reducible first | exact HB.out | apply below_alloc | apply pw_below_drewN | apply below_drew1) | exact HB.out)⟩
      · replace c10 := Bool.eq_false_iff.mpr c10
        subst c10
        have H1 : ((muldiv_MulDiv.f a0 a1 a2 3).bind fun bt175 => ((muldiv_MulDiv.f a0 a1 a2 4).bind fun bt177 => (if bt175.2 = 0 then (accountinglaw02_MuldivNear.j1 kj3 a0 a1 a2 bt175.1 bt175.2 bt177.1 bt177.2 (bt177.2 != 0)) else (accountinglaw02_MuldivNear.j1 kj3 a0 a1 a2 bt175.1 bt175.2 bt177.1 bt177.2 true)))) = some r := by rw [if_neg (show ¬ (false = true) by decide)] at H; exact H
        clear H
        have H := H1
        clear H1
        replace H := Option.bind_eq_some_iff.mp H
        obtain ⟨⟨t175, t176⟩, A130, H⟩ := H
        replace H : ((muldiv_MulDiv.f a0 a1 a2 4).bind fun bt177 => (if t176 = 0 then (accountinglaw02_MuldivNear.j1 kj3 a0 a1 a2 t175 t176 bt177.1 bt177.2 (bt177.2 != 0)) else (accountinglaw02_MuldivNear.j1 kj3 a0 a1 a2 t175 t176 bt177.1 bt177.2 true))) = some r := H
        have A13 := Aside0.mk A130
        clear A130
        replace H := Option.bind_eq_some_iff.mp H
        obtain ⟨⟨t177, t178⟩, A140, H⟩ := H
        replace H : (if t176 = 0 then (accountinglaw02_MuldivNear.j1 kj3 a0 a1 a2 t175 t176 t177 t178 (t178 != 0)) else (accountinglaw02_MuldivNear.j1 kj3 a0 a1 a2 t175 t176 t177 t178 true)) = some r := H
        have A14 := Aside0.mk A140
        clear A140
        have HC15 := Aside0.mk H
        clear H
        go_upto_region 5 with (first | ((with_reducible refine gate_callee (f := 12) rfl ?_); refine goesL_ (some 40) rfl rfl Try.func12 (by kernel_rfl) rfl #[.int .i64 a0, .int .i64 a1, .int .i64 a2, .int .i64 3] rfl (by (try simp only [List.map_toArray, List.map_cons, List.map_nil]); first | done | rfl | (simp only [List.length_drop, List.length_take]; rfl)) ?_; (with_reducible refine (muldiv_MulDiv.calls a0 a1 a2 3 t175 t176 _ A13.out).mono ?_); rintro e w16 ⟨rfl, hb⟩; refine ⟨_, rfl, ?_⟩; have n0_ := Aside0.mk (below_step (by repeat (first | (with_reducible first | exact HB.out | apply below_alloc | apply pw_below_drewN | apply below_drew1) | exact HB.out)) hb); clear HB; have HB := n0_; clear n0_; (try clear hb); (try clear hb2); (try clear hk); (try clear hi)) | ((with_reducible refine gate_callee (f := 12) rfl ?_); refine goesL_ (some 47) rfl rfl Try.func12 (by kernel_rfl) rfl #[.int .i64 a0, .int .i64 a1, .int .i64 a2, .int .i64 4] rfl (by (try simp only [List.map_toArray, List.map_cons, List.map_nil]); first | done | rfl | (simp only [List.length_drop, List.length_take]; rfl)) ?_; (with_reducible refine (muldiv_MulDiv.calls a0 a1 a2 4 t177 t178 _ A14.out).mono ?_); rintro e w17 ⟨rfl, hb⟩; refine ⟨_, rfl, ?_⟩; have n0_ := Aside0.mk (below_step (by repeat (first | (with_reducible first | exact HB.out | apply below_alloc | apply pw_below_drewN | apply below_drew1) | exact HB.out)) hb); clear HB; have HB := n0_; clear n0_; (try clear hb); (try clear hb2); (try clear hk); (try clear hi)))
        (try simp only [Act.put, List.setIfInBounds_toArray, List.set_cons_zero, List.set_cons_succ])
        go_cut [55] (fun v55 wc => ∃ (kq : Nat) (x55_14 : Bool), v55 = .bool x55_14 ∧ Aside0 (accountinglaw02_MuldivNear.j1 kq a0 a1 a2 t175 t176 t177 t178 x55_14 = some r) ∧ Aside0 (kq ≤ kj3) ∧ Aside0 (Below w.heap.size w wc))
        case first =>
          have H := HC15.out
          clear HC15
          by_cases c18 : t176 = 0
          · rw [if_pos c18] at H
            have c18b0 : (t176 == 0) = true := beq_iff_eq.mpr c18
            have c18b1 : (t176 != 0) = false := bne_eq_false_iff_eq.mpr c18
            clear c18
            (first | rw [c18b0] | (simp only [i64_w, i32_w]; rw [c18b0]) | skip)
            have H' := Aside0.mk H
            clear H
            go_wp2
            go_meet
            case rel => exact ⟨_, ((t178 != 0)), (by first | rfl | (simp; done) | (simp [*]; done)), H', ⟨by have := HJ3.out; first | omega | exact Nat.le_refl _⟩, ⟨by repeat (first | (with_reducible first | exact HB.out | apply below_alloc | apply pw_below_drewN | apply below_drew1) | exact HB.out)⟩⟩
          · rw [if_neg c18] at H
            have c18b0 : (t176 == 0) = false := beq_eq_false_iff_ne.mpr c18
            have c18b1 : (t176 != 0) = true := bne_iff_ne.mpr c18
            (first | rw [c18b0] | (simp only [i64_w, i32_w]; rw [c18b0]) | skip)
            have H' := Aside0.mk H
            clear H
            go_wp2
            go_meet
            case rel => exact ⟨_, (true), (by first | rfl | (simp; done) | (simp [*]; done)), H', ⟨by have := HJ3.out; first | omega | exact Nat.le_refl _⟩, ⟨by repeat (first | (with_reducible first | exact HB.out | apply below_alloc | apply pw_below_drewN | apply below_drew1) | exact HB.out)⟩⟩
        case rest =>
          clear HC15
          try clear c1
          try clear p2
          try clear c5
          try clear c5b0
          try clear c6
          try clear c6b0
          try clear c7
          try clear c7b0
          try clear c8
          try clear c8b0
          try clear c9
          try clear c9b0
          try clear c10
          try clear c12
          try clear c17
          try clear c18
          try clear c18b0
          try clear c18b1
          try clear p2
          obtain ⟨kq, x55_14, rfl, HA, HJ14, HB⟩ := hcut
          cases kq with
          | zero => exact absurd HA.out (by simp [accountinglaw02_MuldivNear.j1])
          | succ kj14 =>
            have H := HA.out
            clear HA
            simp only [accountinglaw02_MuldivNear.j1] at H
            by_cases c19 : x55_14 = true
            · subst c19
              have H1 : (if t176 = 0 then (if t178 = 0 then ((accountinglaw02_lives.f).bind fun t179 => (some t179)) else (if t178 = 4 then ((accountinglaw02_lives.f).bind fun t180 => (some t180)) else (some false))) else (if t176 = 4 then (if t178 = 0 then ((accountinglaw02_lives.f).bind fun t181 => (some t181)) else (if t178 = 4 then ((accountinglaw02_lives.f).bind fun t182 => (some t182)) else (some false))) else (some false))) = some r := by rw [if_pos rfl] at H; exact H
              clear H
              have H := H1
              clear H1
              by_cases c20 : t176 = 0
              · rw [if_pos c20] at H
                have c20b0 : (t176 == 0) = true := beq_iff_eq.mpr c20
                have c20b1 : (t176 != 0) = false := bne_eq_false_iff_eq.mpr c20
                clear c20
                by_cases c21 : t178 = 0
                · rw [if_pos c21] at H
                  have c21b0 : (t178 == 0) = true := beq_iff_eq.mpr c21
                  have c21b1 : (t178 != 0) = false := bne_eq_false_iff_eq.mpr c21
                  clear c21
                  replace H := Option.bind_eq_some_iff.mp H
                  obtain ⟨t179, A220, H⟩ := H
                  replace H : (some t179) = some r := H
                  have A22 := Aside0.mk A220
                  clear A220
                  obtain rfl := Option.some.inj H
                  go_wp2_with (first | (go_at_call 17; (with_reducible refine (accountinglaw02_lives.calls  t179 _ A22.out).mono ?_); rintro e w23 ⟨rfl, hb⟩; have n0_ := Aside0.mk (below_step (by repeat (first | (with_reducible first | exact HB.out | apply below_alloc | apply pw_below_drewN | apply below_drew1) | exact HB.out)) hb); clear HB; have HB := n0_; clear n0_; (try clear hb); (try clear hb2); (try clear hk); (try clear hi)))
                  go_ret
                  exact ⟨by first | rfl | (simp [errW_none, errW_some] <;> rfl) | (simp [*, errW_none, errW_some] <;> rfl), by repeat (first | (with_reducible first | exact HB.out | apply below_alloc | apply pw_below_drewN | apply below_drew1) | exact HB.out)⟩
                · rw [if_neg c21] at H
                  have c21b0 : (t178 == 0) = false := beq_eq_false_iff_ne.mpr c21
                  have c21b1 : (t178 != 0) = true := bne_iff_ne.mpr c21
                  by_cases c24 : t178 = 4
                  · rw [if_pos c24] at H
                    have c24b0 : (t178 == 4) = true := beq_iff_eq.mpr c24
                    have c24b1 : (t178 != 4) = false := bne_eq_false_iff_eq.mpr c24
                    clear c24
                    replace H := Option.bind_eq_some_iff.mp H
                    obtain ⟨t180, A250, H⟩ := H
                    replace H : (some t180) = some r := H
                    have A25 := Aside0.mk A250
                    clear A250
                    obtain rfl := Option.some.inj H
                    go_wp2_with (first | (go_at_call 17; (with_reducible refine (accountinglaw02_lives.calls  t180 _ A25.out).mono ?_); rintro e w26 ⟨rfl, hb⟩; have n0_ := Aside0.mk (below_step (by repeat (first | (with_reducible first | exact HB.out | apply below_alloc | apply pw_below_drewN | apply below_drew1) | exact HB.out)) hb); clear HB; have HB := n0_; clear n0_; (try clear hb); (try clear hb2); (try clear hk); (try clear hi)))
                    go_ret
                    exact ⟨by first | rfl | (simp [errW_none, errW_some] <;> rfl) | (simp [*, errW_none, errW_some] <;> rfl), by repeat (first | (with_reducible first | exact HB.out | apply below_alloc | apply pw_below_drewN | apply below_drew1) | exact HB.out)⟩
                  · rw [if_neg c24] at H
                    have c24b0 : (t178 == 4) = false := beq_eq_false_iff_ne.mpr c24
                    have c24b1 : (t178 != 4) = true := bne_iff_ne.mpr c24
                    obtain rfl := Option.some.inj H
                    go_wp2
                    go_ret
                    exact ⟨by first | rfl | (simp [errW_none, errW_some] <;> rfl) | (simp [*, errW_none, errW_some] <;> rfl), by repeat (first | (with_reducible first | exact HB.out | apply below_alloc | apply pw_below_drewN | apply below_drew1) | exact HB.out)⟩
              · rw [if_neg c20] at H
                have c20b0 : (t176 == 0) = false := beq_eq_false_iff_ne.mpr c20
                have c20b1 : (t176 != 0) = true := bne_iff_ne.mpr c20
                by_cases c27 : t176 = 4
                · rw [if_pos c27] at H
                  have c27b0 : (t176 == 4) = true := beq_iff_eq.mpr c27
                  have c27b1 : (t176 != 4) = false := bne_eq_false_iff_eq.mpr c27
                  clear c27
                  by_cases c28 : t178 = 0
                  · rw [if_pos c28] at H
                    have c28b0 : (t178 == 0) = true := beq_iff_eq.mpr c28
                    have c28b1 : (t178 != 0) = false := bne_eq_false_iff_eq.mpr c28
                    clear c28
                    replace H := Option.bind_eq_some_iff.mp H
                    obtain ⟨t181, A290, H⟩ := H
                    replace H : (some t181) = some r := H
                    have A29 := Aside0.mk A290
                    clear A290
                    obtain rfl := Option.some.inj H
                    go_wp2_with (first | (go_at_call 17; (with_reducible refine (accountinglaw02_lives.calls  t181 _ A29.out).mono ?_); rintro e w30 ⟨rfl, hb⟩; have n0_ := Aside0.mk (below_step (by repeat (first | (with_reducible first | exact HB.out | apply below_alloc | apply pw_below_drewN | apply below_drew1) | exact HB.out)) hb); clear HB; have HB := n0_; clear n0_; (try clear hb); (try clear hb2); (try clear hk); (try clear hi)))
                    go_ret
                    exact ⟨by first | rfl | (simp [errW_none, errW_some] <;> rfl) | (simp [*, errW_none, errW_some] <;> rfl), by repeat (first | (with_reducible first | exact HB.out | apply below_alloc | apply pw_below_drewN | apply below_drew1) | exact HB.out)⟩
                  · rw [if_neg c28] at H
                    have c28b0 : (t178 == 0) = false := beq_eq_false_iff_ne.mpr c28
                    have c28b1 : (t178 != 0) = true := bne_iff_ne.mpr c28
                    by_cases c31 : t178 = 4
                    · rw [if_pos c31] at H
                      have c31b0 : (t178 == 4) = true := beq_iff_eq.mpr c31
                      have c31b1 : (t178 != 4) = false := bne_eq_false_iff_eq.mpr c31
                      clear c31
                      replace H := Option.bind_eq_some_iff.mp H
                      obtain ⟨t182, A320, H⟩ := H
                      replace H : (some t182) = some r := H
                      have A32 := Aside0.mk A320
                      clear A320
                      obtain rfl := Option.some.inj H
                      go_wp2_with (first | (go_at_call 17; (with_reducible refine (accountinglaw02_lives.calls  t182 _ A32.out).mono ?_); rintro e w33 ⟨rfl, hb⟩; have n0_ := Aside0.mk (below_step (by repeat (first | (with_reducible first | exact HB.out | apply below_alloc | apply pw_below_drewN | apply below_drew1) | exact HB.out)) hb); clear HB; have HB := n0_; clear n0_; (try clear hb); (try clear hb2); (try clear hk); (try clear hi)))
                      go_ret
                      exact ⟨by first | rfl | (simp [errW_none, errW_some] <;> rfl) | (simp [*, errW_none, errW_some] <;> rfl), by repeat (first | (with_reducible first | exact HB.out | apply below_alloc | apply pw_below_drewN | apply below_drew1) | exact HB.out)⟩
                    · rw [if_neg c31] at H
                      have c31b0 : (t178 == 4) = false := beq_eq_false_iff_ne.mpr c31
                      have c31b1 : (t178 != 4) = true := bne_iff_ne.mpr c31
                      obtain rfl := Option.some.inj H
                      go_wp2
                      go_ret
                      exact ⟨by first | rfl | (simp [errW_none, errW_some] <;> rfl) | (simp [*, errW_none, errW_some] <;> rfl), by repeat (first | (with_reducible first | exact HB.out | apply below_alloc | apply pw_below_drewN | apply below_drew1) | exact HB.out)⟩
                · rw [if_neg c27] at H
                  have c27b0 : (t176 == 4) = false := beq_eq_false_iff_ne.mpr c27
                  have c27b1 : (t176 != 4) = true := bne_iff_ne.mpr c27
                  obtain rfl := Option.some.inj H
                  go_wp2
                  go_ret
                  exact ⟨by first | rfl | (simp [errW_none, errW_some] <;> rfl) | (simp [*, errW_none, errW_some] <;> rfl), by repeat (first | (with_reducible first | exact HB.out | apply below_alloc | apply pw_below_drewN | apply below_drew1) | exact HB.out)⟩
            · replace c19 := Bool.eq_false_iff.mpr c19
              subst c19
              have H1 : (if (wrap64 (2 * (wrap64 ((wrap64 (a0 * a1)) - (wrap64 (t175 * a2)))))) > a2 then (some false) else (if (wrap64 (2 * (wrap64 ((wrap64 (a0 * a1)) - (wrap64 (t175 * a2)))))) < (wrap64 (-a2)) then (some false) else (if (wrap64 (2 * (wrap64 ((wrap64 (a0 * a1)) - (wrap64 (t177 * a2)))))) > a2 then (some false) else (if (wrap64 (2 * (wrap64 ((wrap64 (a0 * a1)) - (wrap64 (t177 * a2)))))) < (wrap64 (-a2)) then (some false) else (if t175 = t177 then ((accountinglaw02_lives.f).bind fun t183 => (some t183)) else (if (Int.tmod t177 2) = 0 then (if (wrap64 (2 * (wrap64 ((wrap64 (a0 * a1)) - (wrap64 (t175 * a2)))))) = a2 then ((accountinglaw02_lives.f).bind fun t184 => (some t184)) else (if (wrap64 (2 * (wrap64 ((wrap64 (a0 * a1)) - (wrap64 (t175 * a2)))))) = (wrap64 (-a2)) then ((accountinglaw02_lives.f).bind fun t185 => (some t185)) else (some false))) else (some false))))))) = some r := by rw [if_neg (show ¬ (false = true) by decide)] at H; exact H
              clear H
              have H := H1
              clear H1
              by_cases c34 : (wrap64 (2 * (wrap64 ((wrap64 (a0 * a1)) - (wrap64 (t175 * a2)))))) > a2
              · rw [if_pos c34] at H
                have c34b0 : decide (a2 < (wrap64 (2 * (wrap64 ((wrap64 (a0 * a1)) - (wrap64 (t175 * a2))))))) = true := decide_eq_true c34
                clear c34
                obtain rfl := Option.some.inj H
                go_wp2
                go_ret
                exact ⟨by first | rfl | (simp [errW_none, errW_some] <;> rfl) | (simp [*, errW_none, errW_some] <;> rfl), by repeat (first | (with_reducible first | exact HB.out | apply below_alloc | apply pw_below_drewN | apply below_drew1) | exact HB.out)⟩
              · rw [if_neg c34] at H
                have c34b0 : decide (a2 < (wrap64 (2 * (wrap64 ((wrap64 (a0 * a1)) - (wrap64 (t175 * a2))))))) = false := decide_eq_false c34
                clear c34
                by_cases c35 : (wrap64 (2 * (wrap64 ((wrap64 (a0 * a1)) - (wrap64 (t175 * a2)))))) < (wrap64 (-a2))
                · rw [if_pos c35] at H
                  have c35b0 : decide ((wrap64 (2 * (wrap64 ((wrap64 (a0 * a1)) - (wrap64 (t175 * a2)))))) < (wrap64 (-a2))) = true := decide_eq_true c35
                  clear c35
                  obtain rfl := Option.some.inj H
                  go_wp2
                  go_ret
                  exact ⟨by first | rfl | (simp [errW_none, errW_some] <;> rfl) | (simp [*, errW_none, errW_some] <;> rfl), by repeat (first | (with_reducible first | exact HB.out | apply below_alloc | apply pw_below_drewN | apply below_drew1) | exact HB.out)⟩
                · rw [if_neg c35] at H
                  have c35b0 : decide ((wrap64 (2 * (wrap64 ((wrap64 (a0 * a1)) - (wrap64 (t175 * a2)))))) < (wrap64 (-a2))) = false := decide_eq_false c35
                  clear c35
                  by_cases c36 : (wrap64 (2 * (wrap64 ((wrap64 (a0 * a1)) - (wrap64 (t177 * a2)))))) > a2
                  · rw [if_pos c36] at H
                    have c36b0 : decide (a2 < (wrap64 (2 * (wrap64 ((wrap64 (a0 * a1)) - (wrap64 (t177 * a2))))))) = true := decide_eq_true c36
                    clear c36
                    obtain rfl := Option.some.inj H
                    go_wp2
                    go_ret
                    exact ⟨by first | rfl | (simp [errW_none, errW_some] <;> rfl) | (simp [*, errW_none, errW_some] <;> rfl), by repeat (first | (with_reducible first | exact HB.out | apply below_alloc | apply pw_below_drewN | apply below_drew1) | exact HB.out)⟩
                  · rw [if_neg c36] at H
                    have c36b0 : decide (a2 < (wrap64 (2 * (wrap64 ((wrap64 (a0 * a1)) - (wrap64 (t177 * a2))))))) = false := decide_eq_false c36
                    clear c36
                    by_cases c37 : (wrap64 (2 * (wrap64 ((wrap64 (a0 * a1)) - (wrap64 (t177 * a2)))))) < (wrap64 (-a2))
                    · rw [if_pos c37] at H
                      have c37b0 : decide ((wrap64 (2 * (wrap64 ((wrap64 (a0 * a1)) - (wrap64 (t177 * a2)))))) < (wrap64 (-a2))) = true := decide_eq_true c37
                      clear c37
                      obtain rfl := Option.some.inj H
                      go_wp2
                      go_ret
                      exact ⟨by first | rfl | (simp [errW_none, errW_some] <;> rfl) | (simp [*, errW_none, errW_some] <;> rfl), by repeat (first | (with_reducible first | exact HB.out | apply below_alloc | apply pw_below_drewN | apply below_drew1) | exact HB.out)⟩
                    · rw [if_neg c37] at H
                      have c37b0 : decide ((wrap64 (2 * (wrap64 ((wrap64 (a0 * a1)) - (wrap64 (t177 * a2)))))) < (wrap64 (-a2))) = false := decide_eq_false c37
                      clear c37
                      by_cases c38 : t175 = t177
                      · rw [if_pos c38] at H
                        have c38b0 : (t175 == t177) = true := beq_iff_eq.mpr c38
                        have c38b1 : (t175 != t177) = false := bne_eq_false_iff_eq.mpr c38
                        clear c38
                        replace H := Option.bind_eq_some_iff.mp H
                        obtain ⟨t183, A390, H⟩ := H
                        replace H : (some t183) = some r := H
                        have A39 := Aside0.mk A390
                        clear A390
                        obtain rfl := Option.some.inj H
                        go_wp2_with (first | (go_at_call 17; (with_reducible refine (accountinglaw02_lives.calls  t183 _ A39.out).mono ?_); rintro e w40 ⟨rfl, hb⟩; have n0_ := Aside0.mk (below_step (by repeat (first | (with_reducible first | exact HB.out | apply below_alloc | apply pw_below_drewN | apply below_drew1) | exact HB.out)) hb); clear HB; have HB := n0_; clear n0_; (try clear hb); (try clear hb2); (try clear hk); (try clear hi)))
                        go_ret
                        exact ⟨by first | rfl | (simp [errW_none, errW_some] <;> rfl) | (simp [*, errW_none, errW_some] <;> rfl), by repeat (first | (with_reducible first | exact HB.out | apply below_alloc | apply pw_below_drewN | apply below_drew1) | exact HB.out)⟩
                      · rw [if_neg c38] at H
                        have c38b0 : (t175 == t177) = false := beq_eq_false_iff_ne.mpr c38
                        have c38b1 : (t175 != t177) = true := bne_iff_ne.mpr c38
                        by_cases c41 : (Int.tmod t177 2) = 0
                        · rw [if_pos c41] at H
                          have c41b0 : ((Int.tmod t177 2) == 0) = true := beq_iff_eq.mpr c41
                          have c41b1 : ((Int.tmod t177 2) != 0) = false := bne_eq_false_iff_eq.mpr c41
                          clear c41
                          by_cases c42 : (wrap64 (2 * (wrap64 ((wrap64 (a0 * a1)) - (wrap64 (t175 * a2)))))) = a2
                          · rw [if_pos c42] at H
                            have c42b0 : ((wrap64 (2 * (wrap64 ((wrap64 (a0 * a1)) - (wrap64 (t175 * a2)))))) == a2) = true := beq_iff_eq.mpr c42
                            have c42b1 : ((wrap64 (2 * (wrap64 ((wrap64 (a0 * a1)) - (wrap64 (t175 * a2)))))) != a2) = false := bne_eq_false_iff_eq.mpr c42
                            clear c42
                            replace H := Option.bind_eq_some_iff.mp H
                            obtain ⟨t184, A430, H⟩ := H
                            replace H : (some t184) = some r := H
                            have A43 := Aside0.mk A430
                            clear A430
                            obtain rfl := Option.some.inj H
                            go_wp2_with (first | (go_at_call 17; (with_reducible refine (accountinglaw02_lives.calls  t184 _ A43.out).mono ?_); rintro e w44 ⟨rfl, hb⟩; have n0_ := Aside0.mk (below_step (by repeat (first | (with_reducible first | exact HB.out | apply below_alloc | apply pw_below_drewN | apply below_drew1) | exact HB.out)) hb); clear HB; have HB := n0_; clear n0_; (try clear hb); (try clear hb2); (try clear hk); (try clear hi)))
                            go_ret
                            exact ⟨by first | rfl | (simp [errW_none, errW_some] <;> rfl) | (simp [*, errW_none, errW_some] <;> rfl), by repeat (first | (with_reducible first | exact HB.out | apply below_alloc | apply pw_below_drewN | apply below_drew1) | exact HB.out)⟩
                          · rw [if_neg c42] at H
                            have c42b0 : ((wrap64 (2 * (wrap64 ((wrap64 (a0 * a1)) - (wrap64 (t175 * a2)))))) == a2) = false := beq_eq_false_iff_ne.mpr c42
                            have c42b1 : ((wrap64 (2 * (wrap64 ((wrap64 (a0 * a1)) - (wrap64 (t175 * a2)))))) != a2) = true := bne_iff_ne.mpr c42
                            by_cases c45 : (wrap64 (2 * (wrap64 ((wrap64 (a0 * a1)) - (wrap64 (t175 * a2)))))) = (wrap64 (-a2))
                            · rw [if_pos c45] at H
                              have c45b0 : ((wrap64 (2 * (wrap64 ((wrap64 (a0 * a1)) - (wrap64 (t175 * a2)))))) == (wrap64 (-a2))) = true := beq_iff_eq.mpr c45
                              have c45b1 : ((wrap64 (2 * (wrap64 ((wrap64 (a0 * a1)) - (wrap64 (t175 * a2)))))) != (wrap64 (-a2))) = false := bne_eq_false_iff_eq.mpr c45
                              clear c45
                              replace H := Option.bind_eq_some_iff.mp H
                              obtain ⟨t185, A460, H⟩ := H
                              replace H : (some t185) = some r := H
                              have A46 := Aside0.mk A460
                              clear A460
                              obtain rfl := Option.some.inj H
                              go_wp2_with (first | (go_at_call 17; (with_reducible refine (accountinglaw02_lives.calls  t185 _ A46.out).mono ?_); rintro e w47 ⟨rfl, hb⟩; have n0_ := Aside0.mk (below_step (by repeat (first | (with_reducible first | exact HB.out | apply below_alloc | apply pw_below_drewN | apply below_drew1) | exact HB.out)) hb); clear HB; have HB := n0_; clear n0_; (try clear hb); (try clear hb2); (try clear hk); (try clear hi)))
                              go_ret
                              exact ⟨by first | rfl | (simp [errW_none, errW_some] <;> rfl) | (simp [*, errW_none, errW_some] <;> rfl), by repeat (first | (with_reducible first | exact HB.out | apply below_alloc | apply pw_below_drewN | apply below_drew1) | exact HB.out)⟩
                            · rw [if_neg c45] at H
                              have c45b0 : ((wrap64 (2 * (wrap64 ((wrap64 (a0 * a1)) - (wrap64 (t175 * a2)))))) == (wrap64 (-a2))) = false := beq_eq_false_iff_ne.mpr c45
                              have c45b1 : ((wrap64 (2 * (wrap64 ((wrap64 (a0 * a1)) - (wrap64 (t175 * a2)))))) != (wrap64 (-a2))) = true := bne_iff_ne.mpr c45
                              obtain rfl := Option.some.inj H
                              go_wp2
                              go_ret
                              exact ⟨by first | rfl | (simp [errW_none, errW_some] <;> rfl) | (simp [*, errW_none, errW_some] <;> rfl), by repeat (first | (with_reducible first | exact HB.out | apply below_alloc | apply pw_below_drewN | apply below_drew1) | exact HB.out)⟩
                        · rw [if_neg c41] at H
                          have c41b0 : ((Int.tmod t177 2) == 0) = false := beq_eq_false_iff_ne.mpr c41
                          have c41b1 : ((Int.tmod t177 2) != 0) = true := bne_iff_ne.mpr c41
                          obtain rfl := Option.some.inj H
                          go_wp2
                          go_ret
                          exact ⟨by first | rfl | (simp [errW_none, errW_some] <;> rfl) | (simp [*, errW_none, errW_some] <;> rfl), by repeat (first | (with_reducible first | exact HB.out | apply below_alloc | apply pw_below_drewN | apply below_drew1) | exact HB.out)⟩

/-- THE ONE PURE STATEMENT of accountinglaw02_MuldivNear: yours. -/
def accountinglaw02_MuldivNear.Pure : Prop := ∀ (a0 : Int) (a1 : Int) (a2 : Int), (Lit.int .i64 a0).wf = true → (Lit.int .i64 a1).wf = true → (Lit.int .i64 a2).wf = true → ∃ k, accountinglaw02_MuldivNear.f k a0 a1 a2 = some true
theorem accountinglaw02_MuldivNear.walk (P : accountinglaw02_MuldivNear.Pure) (a0 : Int) (a1 : Int) (a2 : Int) (w : World) (w0 : (Lit.int .i64 a0).wf = true) (w1 : (Lit.int .i64 a1).wf = true) (w2 : (Lit.int .i64 a2).wf = true) :
    Calls Try.prog 9 #[.int .i64 a0, .int .i64 a1, .int .i64 a2] w fun e w' => e = .returned (.bool true) ∧ Below w.heap.size w w' := by
  obtain ⟨k, h⟩ := P a0 a1 a2 w0 w1 w2
  refine (accountinglaw02_MuldivNear.calls k a0 a1 a2 true w h).mono ?_
  rintro e w' ⟨rfl, hd⟩
  exact ⟨rfl, hd⟩

end Go.Proofs.Ytmmokegelmgdeaa.Q
