/- Printed by a program of this session (wip/gen/myprint.py): plain Lean functions that compute what the Go functions compute, and the contracts that say so; each contract names its premises. -/
import Derived.Test.YtghheaimgjkccaaDoorQCx0
namespace Go.Proofs.YtghheaimgjkccaaDoor.QC
open Go.RowKit Go.Proofs.YtghheaimgjkccaaDoorW.PrintWords Go.Proofs.YtghheaimgjkccaaDoorW.PrintLast Go.Proofs.YtghheaimgjkccaaDoorW.PrintMore
open Go.Proofs.YtghheaimgjkccaaDoor.F
attribute [local go_sem] max2_int min2_int max_two min_two max_three min_three max_four min_four   -- for this text's walks alone
set_option linter.unusedVariables false
set_option linter.unusedSimpArgs false

-- fiscal_Right: in namespace F
-- days_Leap: in namespace F
-- days_Length: in namespace F
-- days_before: in namespace F
-- days_Of: in namespace F
-- fiscal_begin: in namespace F
-- days_is: in namespace F
-- days_Date: in namespace F
-- days_MonthEnd: in namespace F
-- fiscal_ends: in namespace F
-- fiscal_exists: in namespace F
-- fiscal_Span: in namespace F
-- fiscal_Of: in namespace F
-- fiscal_For: in namespace F
-- fiscal_named: in namespace F
-- fiscal_Text: in namespace F
-- fiscal_Parse: in namespace F
-- fiscal_step: in namespace F
-- fiscal_Next: in namespace F
-- fiscal_Count: in namespace F
-- accountinglaw05_lives: in namespace F
/-! ### accountingref05_In: function 42 -/
def accountingref05_In.f (a0_0 : Int) (a0_1 : Int) : Option (Bool) := if a0_0 ≥ 1900 then (if a0_0 ≤ 2199 then (if a0_1 ≥ 1 then (some (decide (a0_1 ≤ 13))) else (some false)) else (some false)) else (some false)
set_option maxHeartbeats 8000000 in
set_option maxRecDepth 100000 in
theorem accountingref05_In.calls (a0_0 : Int) (a0_1 : Int) (r : Bool) (w : World) (h : accountingref05_In.f a0_0 a0_1 = some r) :
    Calls Tryd.prog 42 #[.agg #[.int .i64 a0_0, .int .i64 a0_1]] w fun e w' => e = .returned (.bool r) ∧ Below w.heap.size w w' := by
  have hu25 := Tryd.underlying25
  have HB := Aside0.mk (Below.refl w.heap.size w)
  have H : (if a0_0 ≥ 1900 then (if a0_0 ≤ 2199 then (if a0_1 ≥ 1 then (some (decide (a0_1 ≤ 13))) else (some false)) else (some false)) else (some false)) = some r := h
  clear h
  by_cases c2 : a0_0 ≥ 1900
  · rw [if_pos c2] at H
    have c2b0 : decide (1900 ≤ a0_0) = true := decide_eq_true c2
    clear c2
    by_cases c3 : a0_0 ≤ 2199
    · rw [if_pos c3] at H
      have c3b0 : decide (a0_0 ≤ 2199) = true := decide_eq_true c3
      clear c3
      by_cases c4 : a0_1 ≥ 1
      · rw [if_pos c4] at H
        have c4b0 : decide (1 ≤ a0_1) = true := decide_eq_true c4
        clear c4
        obtain rfl := Option.some.inj H
        go_enter Tryd.func42, Tryd.ntmps42
        go_wp2_with (first | ((with_reducible refine gate_dst (N := 1) rfl ?_); refine box_event ?hg (N := 1) ?hd (cs := #[.int .i64 a0_0, .int .i64 a0_1]) (t := 25) ?hr ?_; (case hd => rfl); (case hg => rfl); (case hr => first | (go_simp; done) | (go_simp; rfl)); intro gb101 hg w5 hbox hb; have n0_ := Aside0.mk (below_step (by repeat (first | (with_reducible first | exact HB.out | apply below_alloc | apply pw_below_drewN | apply below_drew1) | exact HB.out)) hb); have n1_ := Aside0.mk (hbox); have n2_ := Aside0.mk ((by rw [hg]; exact (below_size (by repeat (first | (with_reducible first | exact HB.out | apply below_alloc | apply pw_below_drewN | apply below_drew1) | exact HB.out))) : w.heap.size ≤ gb101)); have n3_ := Aside0.mk ((by rw [hg]; exact (below_size (by repeat (first | (with_reducible first | exact HB.out | apply below_alloc | apply pw_below_drewN | apply below_drew1) | exact HB.out))) : w.heap.size ≤ gb101)); clear HB; have HB := n0_; have BK101 := n1_; have GW101 := n2_; have GE101 := n3_; clear n0_ n1_ n2_ n3_; clear hb hbox hg; have hcz6_0 : w5.cell? ⟨gb101, 0, none⟩ = some (.int .i64 a0_0) := (blk_cell BK101.out 0).trans rfl; have hcz6_1 : w5.cell? ⟨gb101, 1, none⟩ = some (.int .i64 a0_1) := (blk_cell BK101.out 1).trans rfl; have hfz6_0 := blk_frozen BK101.out 0; have hfz6_1 := blk_frozen BK101.out 1))
        go_ret
        exact ⟨by first | rfl | (simp [errW_none, errW_some] <;> rfl) | (simp [*, errW_none, errW_some] <;> rfl), by repeat (first | (with_reducible first | exact HB.out | apply below_alloc | apply pw_below_drewN | apply below_drew1 | refine below_set ?_ GE101.out) | exact HB.out)⟩
      · rw [if_neg c4] at H
        have c4b0 : decide (1 ≤ a0_1) = false := decide_eq_false c4
        clear c4
        obtain rfl := Option.some.inj H
        go_enter Tryd.func42, Tryd.ntmps42
        go_wp2_with (first | ((with_reducible refine gate_dst (N := 1) rfl ?_); refine box_event ?hg (N := 1) ?hd (cs := #[.int .i64 a0_0, .int .i64 a0_1]) (t := 25) ?hr ?_; (case hd => rfl); (case hg => rfl); (case hr => first | (go_simp; done) | (go_simp; rfl)); intro gb101 hg w7 hbox hb; have n0_ := Aside0.mk (below_step (by repeat (first | (with_reducible first | exact HB.out | apply below_alloc | apply pw_below_drewN | apply below_drew1) | exact HB.out)) hb); have n1_ := Aside0.mk (hbox); have n2_ := Aside0.mk ((by rw [hg]; exact (below_size (by repeat (first | (with_reducible first | exact HB.out | apply below_alloc | apply pw_below_drewN | apply below_drew1) | exact HB.out))) : w.heap.size ≤ gb101)); have n3_ := Aside0.mk ((by rw [hg]; exact (below_size (by repeat (first | (with_reducible first | exact HB.out | apply below_alloc | apply pw_below_drewN | apply below_drew1) | exact HB.out))) : w.heap.size ≤ gb101)); clear HB; have HB := n0_; have BK101 := n1_; have GW101 := n2_; have GE101 := n3_; clear n0_ n1_ n2_ n3_; clear hb hbox hg; have hcz8_0 : w7.cell? ⟨gb101, 0, none⟩ = some (.int .i64 a0_0) := (blk_cell BK101.out 0).trans rfl; have hcz8_1 : w7.cell? ⟨gb101, 1, none⟩ = some (.int .i64 a0_1) := (blk_cell BK101.out 1).trans rfl; have hfz8_0 := blk_frozen BK101.out 0; have hfz8_1 := blk_frozen BK101.out 1))
        go_ret
        exact ⟨by first | rfl | (simp [errW_none, errW_some] <;> rfl) | (simp [*, errW_none, errW_some] <;> rfl), by repeat (first | (with_reducible first | exact HB.out | apply below_alloc | apply pw_below_drewN | apply below_drew1 | refine below_set ?_ GE101.out) | exact HB.out)⟩
    · rw [if_neg c3] at H
      have c3b0 : decide (a0_0 ≤ 2199) = false := decide_eq_false c3
      clear c3
      obtain rfl := Option.some.inj H
      go_enter Tryd.func42, Tryd.ntmps42
      go_wp2_with (first | ((with_reducible refine gate_dst (N := 1) rfl ?_); refine box_event ?hg (N := 1) ?hd (cs := #[.int .i64 a0_0, .int .i64 a0_1]) (t := 25) ?hr ?_; (case hd => rfl); (case hg => rfl); (case hr => first | (go_simp; done) | (go_simp; rfl)); intro gb101 hg w9 hbox hb; have n0_ := Aside0.mk (below_step (by repeat (first | (with_reducible first | exact HB.out | apply below_alloc | apply pw_below_drewN | apply below_drew1) | exact HB.out)) hb); have n1_ := Aside0.mk (hbox); have n2_ := Aside0.mk ((by rw [hg]; exact (below_size (by repeat (first | (with_reducible first | exact HB.out | apply below_alloc | apply pw_below_drewN | apply below_drew1) | exact HB.out))) : w.heap.size ≤ gb101)); have n3_ := Aside0.mk ((by rw [hg]; exact (below_size (by repeat (first | (with_reducible first | exact HB.out | apply below_alloc | apply pw_below_drewN | apply below_drew1) | exact HB.out))) : w.heap.size ≤ gb101)); clear HB; have HB := n0_; have BK101 := n1_; have GW101 := n2_; have GE101 := n3_; clear n0_ n1_ n2_ n3_; clear hb hbox hg; have hcz10_0 : w9.cell? ⟨gb101, 0, none⟩ = some (.int .i64 a0_0) := (blk_cell BK101.out 0).trans rfl; have hcz10_1 : w9.cell? ⟨gb101, 1, none⟩ = some (.int .i64 a0_1) := (blk_cell BK101.out 1).trans rfl; have hfz10_0 := blk_frozen BK101.out 0; have hfz10_1 := blk_frozen BK101.out 1))
      go_ret
      exact ⟨by first | rfl | (simp [errW_none, errW_some] <;> rfl) | (simp [*, errW_none, errW_some] <;> rfl), by repeat (first | (with_reducible first | exact HB.out | apply below_alloc | apply pw_below_drewN | apply below_drew1 | refine below_set ?_ GE101.out) | exact HB.out)⟩
  · rw [if_neg c2] at H
    have c2b0 : decide (1900 ≤ a0_0) = false := decide_eq_false c2
    clear c2
    obtain rfl := Option.some.inj H
    go_enter Tryd.func42, Tryd.ntmps42
    go_wp2_with (first | ((with_reducible refine gate_dst (N := 1) rfl ?_); refine box_event ?hg (N := 1) ?hd (cs := #[.int .i64 a0_0, .int .i64 a0_1]) (t := 25) ?hr ?_; (case hd => rfl); (case hg => rfl); (case hr => first | (go_simp; done) | (go_simp; rfl)); intro gb101 hg w11 hbox hb; have n0_ := Aside0.mk (below_step (by repeat (first | (with_reducible first | exact HB.out | apply below_alloc | apply pw_below_drewN | apply below_drew1) | exact HB.out)) hb); have n1_ := Aside0.mk (hbox); have n2_ := Aside0.mk ((by rw [hg]; exact (below_size (by repeat (first | (with_reducible first | exact HB.out | apply below_alloc | apply pw_below_drewN | apply below_drew1) | exact HB.out))) : w.heap.size ≤ gb101)); have n3_ := Aside0.mk ((by rw [hg]; exact (below_size (by repeat (first | (with_reducible first | exact HB.out | apply below_alloc | apply pw_below_drewN | apply below_drew1) | exact HB.out))) : w.heap.size ≤ gb101)); clear HB; have HB := n0_; have BK101 := n1_; have GW101 := n2_; have GE101 := n3_; clear n0_ n1_ n2_ n3_; clear hb hbox hg; have hcz12_0 : w11.cell? ⟨gb101, 0, none⟩ = some (.int .i64 a0_0) := (blk_cell BK101.out 0).trans rfl; have hcz12_1 : w11.cell? ⟨gb101, 1, none⟩ = some (.int .i64 a0_1) := (blk_cell BK101.out 1).trans rfl; have hfz12_0 := blk_frozen BK101.out 0; have hfz12_1 := blk_frozen BK101.out 1))
    go_ret
    exact ⟨by first | rfl | (simp [errW_none, errW_some] <;> rfl) | (simp [*, errW_none, errW_some] <;> rfl), by repeat (first | (with_reducible first | exact HB.out | apply below_alloc | apply pw_below_drewN | apply below_drew1 | refine below_set ?_ GE101.out) | exact HB.out)⟩

/-! ### accountingref05_Text: function 21 (by hand) -/
/-- One digit, cut out of the ten. -/
theorem cutDigit_ {d : Int} (h0 : 0 ≤ d) (h9 : d ≤ 9) (W : World) : (Instr.slice 9 (.string ⟨#[48, 49, 50, 51, 52, 53, 54, 55, 56, 57]⟩) (some (.int .i64 d)) (some (.int .i64 (d + 1))) none).run Tryd.prog W = .ok (.string ⟨#[Fi.dgB_ d]⟩) W := by
  have hs : (⟨#[48, 49, 50, 51, 52, 53, 54, 55, 56, 57]⟩ : ByteArray).size = 10 := rfl
  rw [run_slice_string W 9 ⟨#[48, 49, 50, 51, 52, 53, 54, 55, 56, 57]⟩ .i64 .i64 d (d + 1) Tryd.underlying9 h0 (by omega) (by rw [hs]; omega)]
  rcases (by omega : d = 0 ∨ d = 1 ∨ d = 2 ∨ d = 3 ∨ d = 4 ∨ d = 5 ∨ d = 6 ∨ d = 7 ∨ d = 8 ∨ d = 9) with rfl | rfl | rfl | rfl | rfl | rfl | rfl | rfl | rfl | rfl <;> rfl
def accountingref05_Text.f (y n : Int) : Option (ByteArray × Int) := (accountingref05_In.f y n).bind fun b => if b = true then some (Fi.ptxt_ y n, 0) else some (⟨#[]⟩, 16)
set_option maxHeartbeats 8000000 in
set_option maxRecDepth 100000 in
theorem accountingref05_Text.calls (y n : Int) (r1 : ByteArray) (r2 : Int) (w : World) (h : accountingref05_Text.f y n = some (r1, r2)) :
    Calls Tryd.prog 21 #[.agg #[.int .i64 y, .int .i64 n]] w fun e w' => e = .returned (.tuple #[.string r1, .int .i64 r2]) ∧ Below w.heap.size w w' := by
  unfold accountingref05_Text.f at h
  obtain ⟨b, A, h⟩ := Option.bind_eq_some_iff.mp h
  have AN := Aside0.mk A
  have HZ : Aside0 (∀ o1 : Obj, (w.alloc o1).heap[w.heap.size]? = some o1) := ⟨fun o1 => heap_alloc_new w o1⟩
  cases b
  · obtain ⟨rfl, rfl⟩ : r1 = ⟨#[]⟩ ∧ r2 = 16 := by simp at h; exact ⟨h.1.symm, h.2.symm⟩
    clear h A
    go_enter Tryd.func21, Tryd.ntmps21
    go_wp2_with (go_at_call 42; (with_reducible refine (accountingref05_In.calls y n false _ AN.out).mono ?_); rintro e wA ⟨rfl, hb⟩; have BA := below_step (below_alloc (Below.refl _ _) _) hb)
    go_ret2
    exact ⟨rfl, BA⟩
  · have hin : 1900 ≤ y ∧ y ≤ 2199 ∧ 1 ≤ n ∧ n ≤ 13 := by
      unfold accountingref05_In.f at A
      by_cases c1 : y ≥ 1900
      · rw [if_pos c1] at A
        by_cases c2 : y ≤ 2199
        · rw [if_pos c2] at A
          by_cases c3 : n ≥ 1
          · rw [if_pos c3] at A
            exact ⟨c1, c2, c3, of_decide_eq_true (Option.some.inj A)⟩
          · rw [if_neg c3] at A; simp at A
        · rw [if_neg c2] at A; simp at A
      · rw [if_neg c1] at A; simp at A
    obtain ⟨hy1, hy2, hn1, hn2⟩ := hin
    obtain ⟨rfl, rfl⟩ : r1 = Fi.ptxt_ y n ∧ r2 = 0 := by simp at h; exact ⟨h.1.symm, h.2.symm⟩
    clear h A
    obtain ⟨d0, e0⟩ : ∃ d, y % 10 = d := ⟨_, rfl⟩
    obtain ⟨y1, f1⟩ : ∃ d, y / 10 = d := ⟨_, rfl⟩
    obtain ⟨d1, e1⟩ : ∃ d, y1 % 10 = d := ⟨_, rfl⟩
    obtain ⟨y2, f2⟩ : ∃ d, y1 / 10 = d := ⟨_, rfl⟩
    obtain ⟨d2, e2⟩ : ∃ d, y2 % 10 = d := ⟨_, rfl⟩
    obtain ⟨d3, f3⟩ : ∃ d, y2 / 10 = d := ⟨_, rfl⟩
    obtain ⟨z, f4⟩ : ∃ d, d3 / 10 = d := ⟨_, rfl⟩
    obtain ⟨n0, g0⟩ : ∃ d, n % 10 = d := ⟨_, rfl⟩
    obtain ⟨n1, g1⟩ : ∃ d, n / 10 = d := ⟨_, rfl⟩
    have e3 : d3 % 10 = d3 := by omega
    have a0 : 0 ≤ d0 := by omega
    have a1 : 0 ≤ d1 := by omega
    have a2 : 0 ≤ d2 := by omega
    have a3 : 0 ≤ d3 := by omega
    have a4 : 0 ≤ n0 := by omega
    have a5 : 0 ≤ n1 := by omega
    have b0 : d0 ≤ 9 := by omega
    have b1 : d1 ≤ 9 := by omega
    have b2 : d2 ≤ 9 := by omega
    have b3 : d3 ≤ 9 := by omega
    have b4 : n0 ≤ 9 := by omega
    have b5 : n1 ≤ 9 := by omega
    have c1 : 0 ≤ y1 := by omega
    have c2 : 0 ≤ y2 := by omega
    have c3 : 0 ≤ y := by omega
    have c4 : 0 ≤ n := by omega
    have TX : Aside0 (Fi.ptxt_ y n = ⟨#[Fi.dgB_ d3, Fi.dgB_ d2, Fi.dgB_ d1, Fi.dgB_ d0, 45, Fi.dgB_ n1, Fi.dgB_ n0]⟩) := ⟨by
      have q3 : y / 1000 = d3 := by omega
      have q2 : y / 100 % 10 = d2 := by omega
      have q1 : y / 10 % 10 = d1 := by omega
      unfold Fi.ptxt_
      rw [q3, q2, q1, e0, g1, g0]⟩
    go_enter Tryd.func21, Tryd.ntmps21
    go_upto_region 4 with (go_at_call 42; (with_reducible refine (accountingref05_In.calls y n true _ AN.out).mono ?_); rintro e wA ⟨rfl, hb⟩; have BA := Aside0.mk (below_step (below_alloc (Below.refl _ _) _) hb); have M0 := Aside0.mk (blk_below (HZ.out _) hb); clear hb; have uc0 : wA.cell? ⟨w.heap.size, 0, none⟩ = some (.int .i64 y) := (blk_cell M0.out 0).trans rfl; have uf0 := blk_frozen M0.out 0; have uc1 : wA.cell? ⟨w.heap.size, 1, none⟩ = some (.int .i64 n) := (blk_cell M0.out 1).trans rfl; have uf1 := blk_frozen M0.out 1)
    have s0 := cutDigit_ a0 b0
    have s1 := cutDigit_ a1 b1
    have s2 := cutDigit_ a2 b2
    have s3 := cutDigit_ a3 b3
    have s4 := cutDigit_ a4 b4
    have s5 := cutDigit_ a5 b5
    go_wp2
    refine wp_loop_rounds 5 ?_
    rw [rounds_succ]
    go_wp2
    rw [rounds_succ]
    go_wp2
    rw [rounds_succ]
    go_wp2
    rw [rounds_succ]
    go_wp2
    rw [rounds_succ]
    go_wp2
    go_region
    go_wp2
    go_ret2
    exact ⟨by rw [TX.out, Fi.catT_]; rfl, below_drew BA.out⟩

/-! ### accountingref05_digit: function 43 -/
def accountingref05_digit.f (a0 : Int) : Option (Int) := if a0 < 48 then (some (-1)) else (if a0 > 57 then (some (-1)) else (some (wrap64 ((wrap64 (a0)) - 48))))
set_option maxHeartbeats 8000000 in
set_option maxRecDepth 100000 in
theorem accountingref05_digit.calls (a0 : Int) (r : Int) (w : World) (h : accountingref05_digit.f a0 = some r) :
    Calls Tryd.prog 43 #[.int .u8 a0] w fun e w' => e = .returned (.int .i64 r) ∧ Drawn0 w w' := by
  have H : (if a0 < 48 then (some (-1)) else (if a0 > 57 then (some (-1)) else (some (wrap64 ((wrap64 (a0)) - 48))))) = some r := h
  clear h
  by_cases c2 : a0 < 48
  · rw [if_pos c2] at H
    have c2b0 : decide (a0 < 48) = true := decide_eq_true c2
    clear c2
    obtain rfl := Option.some.inj H
    go_enter Tryd.func43, Tryd.ntmps43
    go_wp2
    go_ret
    exact ⟨by first | rfl | (simp; done) | (simp [*]; done) | (simp; generalize ByteArray.toList _ = l_; cases l_ <;> rfl), by repeat (first | exact Drawn0.refl _ | apply Drawn0.step)⟩
  · rw [if_neg c2] at H
    have c2b0 : decide (a0 < 48) = false := decide_eq_false c2
    clear c2
    by_cases c3 : a0 > 57
    · rw [if_pos c3] at H
      have c3b0 : decide (57 < a0) = true := decide_eq_true c3
      clear c3
      obtain rfl := Option.some.inj H
      go_enter Tryd.func43, Tryd.ntmps43
      go_wp2
      go_ret
      exact ⟨by first | rfl | (simp; done) | (simp [*]; done) | (simp; generalize ByteArray.toList _ = l_; cases l_ <;> rfl), by repeat (first | exact Drawn0.refl _ | apply Drawn0.step)⟩
    · rw [if_neg c3] at H
      have c3b0 : decide (57 < a0) = false := decide_eq_false c3
      clear c3
      obtain rfl := Option.some.inj H
      go_enter Tryd.func43, Tryd.ntmps43
      go_wp2
      go_ret
      exact ⟨by first | rfl | (simp; done) | (simp [*]; done) | (simp; generalize ByteArray.toList _ = l_; cases l_ <;> rfl), by repeat (first | exact Drawn0.refl _ | apply Drawn0.step)⟩

/-! ### accountingref05_Parse: function 23 -/
mutual
def accountingref05_Parse.j0 : Nat → ByteArray → Bool → Option (Int × Int × Int)
  | 0, _, _ => none
  | k + 1, x0, x14 => if x14 = true then (some (0, 0, 5)) else (accountingref05_Parse.l0 k x0 0 0 0)
def accountingref05_Parse.l0 : Nat → ByteArray → Int → Int → Int → Option (Int × Int × Int)
  | 0, _, _, _, _ => none
  | k + 1, x0, x5, x104000, x104001 => if x5 < 7 then (if x5 = 4 then (accountingref05_Parse.l0 k x0 (wrap64 (x5 + 1)) x104000 x104001) else (if 0 ≤ x5 then (if x5 < (x0.size : Int) then ((accountingref05_digit.f (bt x0 x5)).bind fun t105 => (if t105 < 0 then (some (0, 0, 5)) else (if x5 < 4 then (accountingref05_Parse.l0 k x0 (wrap64 (x5 + 1)) (wrap64 ((wrap64 (10 * x104000)) + t105)) x104001) else (accountingref05_Parse.l0 k x0 (wrap64 (x5 + 1)) x104000 (wrap64 ((wrap64 (10 * x104001)) + t105)))))) else (none)) else (none))) else ((accountingref05_In.f x104000 x104001).bind fun t104 => (if t104 = true then (some (x104000, x104001, 0)) else (some (0, 0, 16))))
end
def accountingref05_Parse.f (k : Nat) (a0 : ByteArray) : Option (Int × Int × Int) := if (a0.size : Int) = 7 then (if 4 < (a0.size : Int) then (accountingref05_Parse.j0 k a0 ((bt a0 4) != 45)) else (none)) else (accountingref05_Parse.j0 k a0 true)
theorem accountingref05_Parse.mono_l : ∀ k, (∀ y0 y1, LeO (accountingref05_Parse.j0 k y0 y1) (accountingref05_Parse.j0 (k + 1) y0 y1)) ∧ (∀ y0 y1 y2 y3, LeO (accountingref05_Parse.l0 k y0 y1 y2 y3) (accountingref05_Parse.l0 (k + 1) y0 y1 y2 y3))
  | 0 => ⟨fun _ _ r h => by simp [accountingref05_Parse.j0] at h, fun _ _ _ _ r h => by simp [accountingref05_Parse.l0] at h⟩
  | k + 1 => by
    obtain ⟨ih0, ih1⟩ := accountingref05_Parse.mono_l k
    refine ⟨?_, ?_⟩
    · intro y0 y1
      unfold accountingref05_Parse.j0
      repeat' first
      | (with_reducible exact ih0 _ _)
      | (with_reducible exact ih1 _ _ _ _)
      | (with_reducible exact LeO.refl _)
      | (with_reducible exact LeO.none _)
      | (with_reducible refine LeO.ite ?_ ?_)
      | (with_reducible refine LeO.bind ?_ (fun _ => ?_))
      | exact ih0 _ _
      | exact ih1 _ _ _ _
      | exact LeO.none _
      | refine LeO.ite ?_ ?_
      | refine LeO.bind ?_ (fun _ => ?_)
    · intro y0 y1 y2 y3
      unfold accountingref05_Parse.l0
      repeat' first
      | (with_reducible exact ih0 _ _)
      | (with_reducible exact ih1 _ _ _ _)
      | (with_reducible exact LeO.refl _)
      | (with_reducible exact LeO.none _)
      | (with_reducible refine LeO.ite ?_ ?_)
      | (with_reducible refine LeO.bind ?_ (fun _ => ?_))
      | exact ih0 _ _
      | exact ih1 _ _ _ _
      | exact LeO.none _
      | refine LeO.ite ?_ ?_
      | refine LeO.bind ?_ (fun _ => ?_)
theorem accountingref05_Parse.mono : ∀ a0 k, LeO (accountingref05_Parse.f k a0) (accountingref05_Parse.f (k + 1) a0) := by
  intro a0 k
  obtain ⟨ih0, ih1⟩ := accountingref05_Parse.mono_l k
  unfold accountingref05_Parse.f
  repeat' first
      | (with_reducible exact ih0 _ _)
      | (with_reducible exact ih1 _ _ _ _)
      | (with_reducible exact LeO.refl _)
      | (with_reducible exact LeO.none _)
      | (with_reducible refine LeO.ite ?_ ?_)
      | (with_reducible refine LeO.bind ?_ (fun _ => ?_))
      | exact ih0 _ _
      | exact ih1 _ _ _ _
      | exact LeO.none _
      | refine LeO.ite ?_ ?_
      | refine LeO.bind ?_ (fun _ => ?_)
set_option maxHeartbeats 8000000 in
set_option maxRecDepth 100000 in
theorem accountingref05_Parse.calls (k : Nat) (a0 : ByteArray) (r1 : Int) (r2 : Int) (r3 : Int) (w : World) (h : accountingref05_Parse.f k a0 = some (r1, r2, r3)) :
    Calls Tryd.prog 23 #[.string a0] w fun e w' => e = .returned (.tuple #[.agg #[.int .i64 r1, .int .i64 r2], .int .i64 r3]) ∧ Below w.heap.size w w' := by
  have hu25 := Tryd.underlying25
  have HB := Aside0.mk (Below.refl w.heap.size w)
  have H : (if (a0.size : Int) = 7 then (if 4 < (a0.size : Int) then (accountingref05_Parse.j0 k a0 ((bt a0 4) != 45)) else (none)) else (accountingref05_Parse.j0 k a0 true)) = some (r1, r2, r3) := h
  clear h
  have HC2 := Aside0.mk H
  clear H
  go_enter Tryd.func23, Tryd.ntmps23
  go_upto_region 1 with (first | ((with_reducible refine gate_dst (N := 2) rfl ?_); refine box_event ?hg (N := 2) ?hd (cs := #[.int .i64 0, .int .i64 0]) (t := 25) ?hr ?_; (case hd => rfl); (case hg => rfl); (case hr => first | (go_simp; done) | (go_simp; rfl)); intro gb102 hg w3 hbox hb; have n0_ := Aside0.mk (below_step (by repeat (first | (with_reducible first | exact HB.out | apply below_alloc | apply pw_below_drewN | apply below_drew1) | exact HB.out)) hb); have n1_ := Aside0.mk (hbox); have n2_ := Aside0.mk ((by rw [hg]; exact (below_size (by repeat (first | (with_reducible first | exact HB.out | apply below_alloc | apply pw_below_drewN | apply below_drew1) | exact HB.out))) : w.heap.size ≤ gb102)); have n3_ := Aside0.mk ((by rw [hg]; exact (below_size (by repeat (first | (with_reducible first | exact HB.out | apply below_alloc | apply pw_below_drewN | apply below_drew1) | exact HB.out))) : w.heap.size ≤ gb102)); clear HB; have HB := n0_; have BK102 := n1_; have GW102 := n2_; have GE102 := n3_; clear n0_ n1_ n2_ n3_; clear hb hbox hg))
  (try simp only [Act.put, List.setIfInBounds_toArray, List.set_cons_zero, List.set_cons_succ])
  go_cut [14] (fun v14 wc => ∃ (kq : Nat) (x14_1 : Bool), v14 = .bool x14_1 ∧ Aside0 (accountingref05_Parse.j0 kq a0 x14_1 = some (r1, r2, r3)) ∧ Aside0 (kq ≤ k) ∧ Aside0 (wc.heap[gb102]? = some (.cells #[.int .i64 0, .int .i64 0] 25 (0, 0))) ∧ Aside0 (Below w.heap.size w wc))
  case first =>
    have H := HC2.out
    clear HC2
    by_cases c4 : (a0.size : Int) = 7
    · rw [if_pos c4] at H
      have c4b0 : ((a0.size : Int) == 7) = true := beq_iff_eq.mpr c4
      have c4b1 : ((a0.size : Int) != 7) = false := bne_eq_false_iff_eq.mpr c4
      clear c4
      (first | rw [c4b0] | (simp only [i64_w, i32_w]; rw [c4b0]) | skip)
      by_cases c5 : 4 < (a0.size : Int)
      · rw [if_pos c5] at H
        have c5b0 : decide (4 < (a0.size : Int)) = true := decide_eq_true c5
        have c5b1 : decide (4 < a0.size) = true := decide_eq_true (by omega)
        clear c5
        have H' := Aside0.mk H
        clear H
        have p6 : 0 ≤ (4 : Int) := (by omega)
        have q6 : 4 < a0.size := (by have : (4 : Int) < (a0.size : Int) := of_decide_eq_true (by first | (with_reducible assumption) | assumption); omega)
        have hx6 : ∀ h : 4 < a0.size, ((a0[4]'h).toNat : Int) = bt a0 4 := bt_at a0 4
        clear p6
        have qi6 : (4 < (a0.size : Int)) = True := eq_true (of_decide_eq_true (by first | (with_reducible assumption) | assumption))
        replace q6 := eq_true q6
        go_wp2
        go_meet
        case rel => exact ⟨_, (((bt a0 4) != 45)), (by first | rfl | (simp; done) | (simp [*]; done) | (simp; generalize ByteArray.toList _ = l_; cases l_ <;> rfl)), H', ⟨by first | omega | exact Nat.le_refl _⟩, ⟨by (with_reducible repeat (first | refine blk_drewN ?_ _ | refine blk_drew ?_ | refine blk_alloc ?_ _)); exact BK102.out⟩, ⟨by repeat (first | (with_reducible first | exact HB.out | apply below_alloc | apply pw_below_drewN | apply below_drew1 | refine below_set ?_ GE102.out) | exact HB.out)⟩⟩
      · rw [if_neg c5] at H
        exact absurd H (by simp)
    · rw [if_neg c4] at H
      have c4b0 : ((a0.size : Int) == 7) = false := beq_eq_false_iff_ne.mpr c4
      have c4b1 : ((a0.size : Int) != 7) = true := bne_iff_ne.mpr c4
      (first | rw [c4b0] | (simp only [i64_w, i32_w]; rw [c4b0]) | skip)
      have H' := Aside0.mk H
      clear H
      go_wp2
      go_meet
      case rel => exact ⟨_, (true), (by first | rfl | (simp; done) | (simp [*]; done) | (simp; generalize ByteArray.toList _ = l_; cases l_ <;> rfl)), H', ⟨by first | omega | exact Nat.le_refl _⟩, ⟨by (with_reducible repeat (first | refine blk_drewN ?_ _ | refine blk_drew ?_ | refine blk_alloc ?_ _)); exact BK102.out⟩, ⟨by repeat (first | (with_reducible first | exact HB.out | apply below_alloc | apply pw_below_drewN | apply below_drew1 | refine below_set ?_ GE102.out) | exact HB.out)⟩⟩
  case rest =>
    clear HC2
    try clear c2
    try clear p2
    try clear c4
    try clear c4b0
    try clear c4b1
    try clear c5
    try clear c5b0
    try clear c5b1
    try clear p6
    try clear q6
    try clear hx6
    try clear qi6
    try clear p6
    try clear q6
    obtain ⟨kq, x14_1, rfl, HA, HJ1, BK102, HB⟩ := hcut
    cases kq with
    | zero => exact absurd HA.out (by simp [accountingref05_Parse.j0])
    | succ kj1 =>
      have H := HA.out
      clear HA
      simp only [accountingref05_Parse.j0] at H
      by_cases c7 : x14_1 = true
      · subst c7
        have H1 : (some (0, 0, 5)) = some (r1, r2, r3) := by rw [if_pos rfl] at H; exact H
        clear H
        have H := H1
        clear H1
        simp only [Option.some.injEq, Prod.mk.injEq] at H
        obtain ⟨rfl, rfl, rfl⟩ := H
        have hcz8_0 : wc.cell? ⟨gb102, 0, none⟩ = some (.int .i64 0) := (blk_cell BK102.out 0).trans rfl
        have hcz8_1 : wc.cell? ⟨gb102, 1, none⟩ = some (.int .i64 0) := (blk_cell BK102.out 1).trans rfl
        have hfz8_0 := blk_frozen BK102.out 0
        have hfz8_1 := blk_frozen BK102.out 1
        go_wp2
        refine bodyPost_ret (results_ct rfl _ _ gb102 25 #[.int .i64 0, .int .i64 0] (0, 0) _ rfl (by (with_reducible repeat (first | refine blk_drewN ?_ _ | refine blk_drew ?_ | refine blk_alloc ?_ _)); refine blk_put (cs := #[.int .i64 0, .int .i64 0]) ?_ 1 _ rfl; (with_reducible repeat (first | refine blk_drewN ?_ _ | refine blk_drew ?_ | refine blk_alloc ?_ _)); refine blk_put (cs := #[.int .i64 0, .int .i64 0]) ?_ 0 _ rfl; (with_reducible repeat (first | refine blk_drewN ?_ _ | refine blk_drew ?_ | refine blk_alloc ?_ _)); exact BK102.out) Tryd.underlying25 rfl (by kernel_rfl)) rfl ?_
        exact ⟨by first | rfl | (simp [errW_none, errW_some] <;> rfl) | (simp [*, errW_none, errW_some] <;> rfl), by repeat (first | (with_reducible first | exact HB.out | apply below_alloc | apply pw_below_drewN | apply below_drew1 | refine below_set ?_ GE102.out) | exact HB.out)⟩
      · replace c7 := Bool.eq_false_iff.mpr c7
        subst c7
        have H1 : (accountingref05_Parse.l0 kj1 a0 0 0 0) = some (r1, r2, r3) := by rw [if_neg (show ¬ (false = true) by decide)] at H; exact H
        clear H
        have H := H1
        clear H1
        have H' := Aside0.mk H
        clear H
        go_wp2_with (first | ((with_reducible refine gate_dst (N := 4) rfl ?_); refine box_event ?hg (N := 4) ?hd (cs := #[.int .i64 0, .int .i64 0]) (t := 25) ?hr ?_; (case hd => rfl); (case hg => rfl); (case hr => first | (go_simp; done) | (go_simp; rfl)); intro gb103 hg w9 hbox hb; have n0_ := Aside0.mk (blk_below (g := gb102) (o := .cells #[.int .i64 0, .int .i64 0] 25 (0, 0)) (by (with_reducible repeat (first | refine blk_drewN ?_ _ | refine blk_drew ?_ | refine blk_alloc ?_ _)); exact BK102.out) hb); have n1_ := Aside0.mk (below_step (by repeat (first | (with_reducible first | exact HB.out | apply below_alloc | apply pw_below_drewN | apply below_drew1 | refine below_set ?_ GE102.out) | exact HB.out)) hb); have n2_ := Aside0.mk (hbox); have n3_ := Aside0.mk ((by rw [hg]; exact (below_size (by repeat (first | (with_reducible first | exact HB.out | apply below_alloc | apply pw_below_drewN | apply below_drew1 | refine below_set ?_ GE102.out) | exact HB.out))) : w.heap.size ≤ gb103)); have n4_ := Aside0.mk ((by rw [hg]; exact (below_size (by repeat (first | (with_reducible first | exact HB.out | apply below_alloc | apply pw_below_drewN | apply below_drew1 | refine below_set ?_ GE102.out) | exact HB.out))) : w.heap.size ≤ gb103)); have n5_ := Aside0.mk ((by rw [hg]; exact Nat.ne_of_lt (blk_lt (g := gb102) (o := .cells #[.int .i64 0, .int .i64 0] 25 (0, 0)) (by (with_reducible repeat (first | refine blk_drewN ?_ _ | refine blk_drew ?_ | refine blk_alloc ?_ _)); exact BK102.out)) : gb102 ≠ gb103)); have n6_ := Aside0.mk ((by rw [hg]; exact Nat.ne_of_gt (blk_lt (g := gb102) (o := .cells #[.int .i64 0, .int .i64 0] 25 (0, 0)) (by (with_reducible repeat (first | refine blk_drewN ?_ _ | refine blk_drew ?_ | refine blk_alloc ?_ _)); exact BK102.out)) : gb103 ≠ gb102)); clear BK102; clear HB; have BK102 := n0_; have HB := n1_; have BK103 := n2_; have GW103 := n3_; have GE103 := n4_; have NB102_103 := n5_; have NB103_102 := n6_; clear n0_ n1_ n2_ n3_ n4_ n5_ n6_; clear hb hbox hg; have hnb10 := NB103_102.out; have hnc10 := NB102_103.out; have hcz11_0 : w9.cell? ⟨gb103, 0, none⟩ = some (.int .i64 0) := (blk_cell BK103.out 0).trans rfl; have hcz11_1 : w9.cell? ⟨gb103, 1, none⟩ = some (.int .i64 0) := (blk_cell BK103.out 1).trans rfl; have hfz11_0 := blk_frozen BK103.out 0; have hfz11_1 := blk_frozen BK103.out 1))
        go_loopg [5] kj1 (fun kq v5 w' => ∃ (x5_2 : Int) (x103000_2 : Int) (x103001_2 : Int) (x104000_2 : Int) (x104001_2 : Int), v5 = .int .i64 x5_2 ∧ Aside0 (accountingref05_Parse.l0 kq a0 x5_2 x104000_2 x104001_2 = some (r1, r2, r3)) ∧ Aside0 (kq ≤ kj1) ∧ Aside0 (w'.heap[gb102]? = some (.cells #[.int .i64 x103000_2, .int .i64 x103001_2] 25 (0, 0))) ∧ Aside0 (w'.heap[gb103]? = some (.cells #[.int .i64 x104000_2, .int .i64 x104001_2] 25 (0, 0))) ∧ Aside0 (Below w.heap.size w w'))
        case atStart => exact ⟨(0), (0), (0), (0), (0), (by first | rfl | (simp; done) | (simp [*]; done) | (simp; generalize ByteArray.toList _ = l_; cases l_ <;> rfl)), H', ⟨Nat.le_refl _⟩, ⟨by (with_reducible repeat (first | refine blk_drewN ?_ _ | refine blk_drew ?_ | refine blk_alloc ?_ _)); refine blk_far ?_ NB102_103.out _; (with_reducible repeat (first | refine blk_drewN ?_ _ | refine blk_drew ?_ | refine blk_alloc ?_ _)); refine blk_far ?_ NB102_103.out _; (with_reducible repeat (first | refine blk_drewN ?_ _ | refine blk_drew ?_ | refine blk_alloc ?_ _)); exact BK102.out⟩, ⟨by (with_reducible repeat (first | refine blk_drewN ?_ _ | refine blk_drew ?_ | refine blk_alloc ?_ _)); refine blk_put (cs := #[.int .i64 0, .int .i64 0]) ?_ 1 _ rfl; (with_reducible repeat (first | refine blk_drewN ?_ _ | refine blk_drew ?_ | refine blk_alloc ?_ _)); refine blk_put (cs := #[.int .i64 0, .int .i64 0]) ?_ 0 _ rfl; (with_reducible repeat (first | refine blk_drewN ?_ _ | refine blk_drew ?_ | refine blk_alloc ?_ _)); exact BK103.out⟩, ⟨by repeat (first | (with_reducible first | exact HB.out | apply below_alloc | apply pw_below_drewN | apply below_drew1 | refine below_set ?_ GE102.out | refine below_set ?_ GE103.out) | exact HB.out)⟩⟩
        case round =>
          clear H'
          try clear c1
          try clear c2
          try clear p2
          try clear c4
          try clear c4b0
          try clear c4b1
          try clear c5
          try clear c5b0
          try clear c5b1
          try clear p6
          try clear q6
          try clear hx6
          try clear qi6
          try clear c7
          try clear c10
          try clear hcz11_0
          try clear hcz11_1
          try clear hcz8_0
          try clear hcz8_1
          try clear hfz11_0
          try clear hfz11_1
          try clear hfz8_0
          try clear hfz8_1
          try clear p2
          try clear p6
          try clear q6
          obtain ⟨x5_2, x103000_2, x103001_2, x104000_2, x104001_2, rfl, HA, HK2, BK102, BK103, HB⟩ := hrel
          cases gk with
          | zero => exact absurd HA.out (by simp [accountingref05_Parse.l0])
          | succ k2 =>
            have H := HA.out
            clear HA
            simp only [accountingref05_Parse.l0] at H
            by_cases c12 : x5_2 < 7
            · rw [if_pos c12] at H
              have c12b0 : decide (x5_2 < 7) = true := decide_eq_true c12
              clear c12
              by_cases c13 : x5_2 = 4
              · rw [if_pos c13] at H
                have c13b0 : (x5_2 == 4) = true := beq_iff_eq.mpr c13
                have c13b1 : (x5_2 != 4) = false := bne_eq_false_iff_eq.mpr c13
                clear c13
                have H' := Aside0.mk H
                clear H
                go_wp2
                go_roundg k2
                case measure => have := HJ1.out; have := HK2.out; omega
                case rel => exact ⟨(wrap64 (x5_2 + 1)), (x103000_2), (x103001_2), (x104000_2), (x104001_2), (by first | rfl | (simp; done) | (simp [*]; done) | (simp; generalize ByteArray.toList _ = l_; cases l_ <;> rfl)), H', ⟨by have := HJ1.out; have := HK2.out; omega⟩, ⟨by (with_reducible repeat (first | refine blk_drewN ?_ _ | refine blk_drew ?_ | refine blk_alloc ?_ _)); exact BK102.out⟩, ⟨by (with_reducible repeat (first | refine blk_drewN ?_ _ | refine blk_drew ?_ | refine blk_alloc ?_ _)); exact BK103.out⟩, ⟨by repeat (first | (with_reducible first | exact HB.out | apply below_alloc | apply pw_below_drewN | apply below_drew1 | refine below_set ?_ GE102.out | refine below_set ?_ GE103.out) | exact HB.out)⟩⟩
              · rw [if_neg c13] at H
                have c13b0 : (x5_2 == 4) = false := beq_eq_false_iff_ne.mpr c13
                have c13b1 : (x5_2 != 4) = true := bne_iff_ne.mpr c13
                by_cases c14 : 0 ≤ x5_2
                · rw [if_pos c14] at H
                  have c14b0 : decide (0 ≤ x5_2) = true := decide_eq_true c14
                  clear c14
                  by_cases c15 : x5_2 < (a0.size : Int)
                  · rw [if_pos c15] at H
                    have c15b0 : decide (x5_2 < (a0.size : Int)) = true := decide_eq_true c15
                    clear c15
                    replace H := Option.bind_eq_some_iff.mp H
                    obtain ⟨t105, A170, H⟩ := H
                    replace H : (if t105 < 0 then (some (0, 0, 5)) else (if x5_2 < 4 then (accountingref05_Parse.l0 k2 a0 (wrap64 (x5_2 + 1)) (wrap64 ((wrap64 (10 * x104000_2)) + t105)) x104001_2) else (accountingref05_Parse.l0 k2 a0 (wrap64 (x5_2 + 1)) x104000_2 (wrap64 ((wrap64 (10 * x104001_2)) + t105))))) = some (r1, r2, r3) := H
                    have A17 := Aside0.mk A170
                    clear A170
                    by_cases c18 : t105 < 0
                    · rw [if_pos c18] at H
                      have c18b0 : decide (t105 < 0) = true := decide_eq_true c18
                      clear c18
                      simp only [Option.some.injEq, Prod.mk.injEq] at H
                      obtain ⟨rfl, rfl, rfl⟩ := H
                      have p16 : 0 ≤ (x5_2 : Int) := of_decide_eq_true (by first | (with_reducible assumption) | assumption)
                      have q16 : x5_2 < (a0.size : Int) := of_decide_eq_true (by first | (with_reducible assumption) | assumption)
                      have hx16 := bt_at a0 x5_2
                      replace p16 := eq_true p16
                      replace q16 := eq_true q16
                      go_wp2_with (first | ((with_reducible refine gate_callee (f := 43) rfl ?_); refine goesL_ (some 26) rfl rfl Tryd.func43 (by kernel_rfl) rfl #[.int .u8 (bt a0 x5_2)] rfl (by (try simp only [List.map_toArray, List.map_cons, List.map_nil]); first | done | rfl | (simp only [List.length_drop, List.length_take]; rfl)) ?_; (with_reducible refine (accountingref05_digit.calls (bt a0 x5_2) t105 _ A17.out).mono ?_); rintro e w' ⟨rfl, ⟨nd, rfl⟩⟩; refine ⟨_, rfl, ?_⟩; (try (rw [drewN_self wr]; generalize hq_ : World.drewN wr _ = wr; have n0_ : Aside0 (wr.heap[gb102]? = some (.cells #[.int .i64 x103000_2, .int .i64 x103001_2] 25 (0, 0))) := ⟨by rw [← hq_]; exact (by (with_reducible repeat (first | refine blk_drewN ?_ _ | refine blk_drew ?_ | refine blk_alloc ?_ _)); exact BK102.out)⟩; have n1_ : Aside0 (wr.heap[gb103]? = some (.cells #[.int .i64 x104000_2, .int .i64 x104001_2] 25 (0, 0))) := ⟨by rw [← hq_]; exact (by (with_reducible repeat (first | refine blk_drewN ?_ _ | refine blk_drew ?_ | refine blk_alloc ?_ _)); exact BK103.out)⟩; have n2_ : Aside0 (Below w.heap.size w wr) := ⟨by rw [← hq_]; exact (by repeat (first | (with_reducible first | exact HB.out | apply below_alloc | apply pw_below_drewN | apply below_drew1 | refine below_set ?_ GE102.out | refine below_set ?_ GE103.out) | exact HB.out))⟩; clear BK102 BK103 HB hq_; have BK102 := n0_; have BK103 := n1_; have HB := n2_; clear n0_ n1_ n2_)); have hnb19 := NB102_103.out; have hnc19 := NB103_102.out; have hcz20_0 : wr.cell? ⟨gb102, 0, none⟩ = some (.int .i64 x103000_2) := (blk_cell BK102.out 0).trans rfl; have hcz20_1 : wr.cell? ⟨gb102, 1, none⟩ = some (.int .i64 x103001_2) := (blk_cell BK102.out 1).trans rfl; have hfz20_0 := blk_frozen BK102.out 0; have hfz20_1 := blk_frozen BK102.out 1))
                      refine bodyPost_ret (results_ct rfl _ _ gb102 25 #[.int .i64 0, .int .i64 0] (0, 0) _ rfl (by (with_reducible repeat (first | refine blk_drewN ?_ _ | refine blk_drew ?_ | refine blk_alloc ?_ _)); refine blk_put (cs := #[.int .i64 0, .int .i64 x103001_2]) ?_ 1 _ rfl; (with_reducible repeat (first | refine blk_drewN ?_ _ | refine blk_drew ?_ | refine blk_alloc ?_ _)); refine blk_put (cs := #[.int .i64 x103000_2, .int .i64 x103001_2]) ?_ 0 _ rfl; (with_reducible repeat (first | refine blk_drewN ?_ _ | refine blk_drew ?_ | refine blk_alloc ?_ _)); exact BK102.out) Tryd.underlying25 rfl (by kernel_rfl)) rfl ?_
                      exact ⟨by first | rfl | (simp [errW_none, errW_some] <;> rfl) | (simp [*, errW_none, errW_some] <;> rfl), by repeat (first | (with_reducible first | exact HB.out | apply below_alloc | apply pw_below_drewN | apply below_drew1 | refine below_set ?_ GE102.out | refine below_set ?_ GE103.out) | exact HB.out)⟩
                    · rw [if_neg c18] at H
                      have c18b0 : decide (t105 < 0) = false := decide_eq_false c18
                      clear c18
                      by_cases c21 : x5_2 < 4
                      · rw [if_pos c21] at H
                        have c21b0 : decide (x5_2 < 4) = true := decide_eq_true c21
                        clear c21
                        have H' := Aside0.mk H
                        clear H
                        have p16 : 0 ≤ (x5_2 : Int) := of_decide_eq_true (by first | (with_reducible assumption) | assumption)
                        have q16 : x5_2 < (a0.size : Int) := of_decide_eq_true (by first | (with_reducible assumption) | assumption)
                        have hx16 := bt_at a0 x5_2
                        replace p16 := eq_true p16
                        replace q16 := eq_true q16
                        go_wp2_with (first | ((with_reducible refine gate_callee (f := 43) rfl ?_); refine goesL_ (some 26) rfl rfl Tryd.func43 (by kernel_rfl) rfl #[.int .u8 (bt a0 x5_2)] rfl (by (try simp only [List.map_toArray, List.map_cons, List.map_nil]); first | done | rfl | (simp only [List.length_drop, List.length_take]; rfl)) ?_; (with_reducible refine (accountingref05_digit.calls (bt a0 x5_2) t105 _ A17.out).mono ?_); rintro e w' ⟨rfl, ⟨nd, rfl⟩⟩; refine ⟨_, rfl, ?_⟩; (try (rw [drewN_self wr]; generalize hq_ : World.drewN wr _ = wr; have n0_ : Aside0 (wr.heap[gb102]? = some (.cells #[.int .i64 x103000_2, .int .i64 x103001_2] 25 (0, 0))) := ⟨by rw [← hq_]; exact (by (with_reducible repeat (first | refine blk_drewN ?_ _ | refine blk_drew ?_ | refine blk_alloc ?_ _)); exact BK102.out)⟩; have n1_ : Aside0 (wr.heap[gb103]? = some (.cells #[.int .i64 x104000_2, .int .i64 x104001_2] 25 (0, 0))) := ⟨by rw [← hq_]; exact (by (with_reducible repeat (first | refine blk_drewN ?_ _ | refine blk_drew ?_ | refine blk_alloc ?_ _)); exact BK103.out)⟩; have n2_ : Aside0 (Below w.heap.size w wr) := ⟨by rw [← hq_]; exact (by repeat (first | (with_reducible first | exact HB.out | apply below_alloc | apply pw_below_drewN | apply below_drew1 | refine below_set ?_ GE102.out | refine below_set ?_ GE103.out) | exact HB.out))⟩; clear BK102 BK103 HB hq_; have BK102 := n0_; have BK103 := n1_; have HB := n2_; clear n0_ n1_ n2_)); have hnb22 := NB103_102.out; have hnc22 := NB102_103.out; have hcz23_0 : wr.cell? ⟨gb103, 0, none⟩ = some (.int .i64 x104000_2) := (blk_cell BK103.out 0).trans rfl; have hcz23_1 : wr.cell? ⟨gb103, 1, none⟩ = some (.int .i64 x104001_2) := (blk_cell BK103.out 1).trans rfl; have hfz23_0 := blk_frozen BK103.out 0; have hfz23_1 := blk_frozen BK103.out 1))
                        go_roundg k2
                        case measure => have := HJ1.out; have := HK2.out; omega
                        case rel => exact ⟨(wrap64 (x5_2 + 1)), (x103000_2), (x103001_2), (wrap64 ((wrap64 (10 * x104000_2)) + t105)), (x104001_2), (by first | rfl | (simp; done) | (simp [*]; done) | (simp; generalize ByteArray.toList _ = l_; cases l_ <;> rfl)), H', ⟨by have := HJ1.out; have := HK2.out; omega⟩, ⟨by (with_reducible repeat (first | refine blk_drewN ?_ _ | refine blk_drew ?_ | refine blk_alloc ?_ _)); refine blk_far ?_ NB102_103.out _; (with_reducible repeat (first | refine blk_drewN ?_ _ | refine blk_drew ?_ | refine blk_alloc ?_ _)); exact BK102.out⟩, ⟨by (with_reducible repeat (first | refine blk_drewN ?_ _ | refine blk_drew ?_ | refine blk_alloc ?_ _)); refine blk_put (cs := #[.int .i64 x104000_2, .int .i64 x104001_2]) ?_ 0 _ rfl; (with_reducible repeat (first | refine blk_drewN ?_ _ | refine blk_drew ?_ | refine blk_alloc ?_ _)); exact BK103.out⟩, ⟨by repeat (first | (with_reducible first | exact HB.out | apply below_alloc | apply pw_below_drewN | apply below_drew1 | refine below_set ?_ GE102.out | refine below_set ?_ GE103.out) | exact HB.out)⟩⟩
                      · rw [if_neg c21] at H
                        have c21b0 : decide (x5_2 < 4) = false := decide_eq_false c21
                        clear c21
                        have H' := Aside0.mk H
                        clear H
                        have p16 : 0 ≤ (x5_2 : Int) := of_decide_eq_true (by first | (with_reducible assumption) | assumption)
                        have q16 : x5_2 < (a0.size : Int) := of_decide_eq_true (by first | (with_reducible assumption) | assumption)
                        have hx16 := bt_at a0 x5_2
                        replace p16 := eq_true p16
                        replace q16 := eq_true q16
                        go_wp2_with (first | ((with_reducible refine gate_callee (f := 43) rfl ?_); refine goesL_ (some 26) rfl rfl Tryd.func43 (by kernel_rfl) rfl #[.int .u8 (bt a0 x5_2)] rfl (by (try simp only [List.map_toArray, List.map_cons, List.map_nil]); first | done | rfl | (simp only [List.length_drop, List.length_take]; rfl)) ?_; (with_reducible refine (accountingref05_digit.calls (bt a0 x5_2) t105 _ A17.out).mono ?_); rintro e w' ⟨rfl, ⟨nd, rfl⟩⟩; refine ⟨_, rfl, ?_⟩; (try (rw [drewN_self wr]; generalize hq_ : World.drewN wr _ = wr; have n0_ : Aside0 (wr.heap[gb102]? = some (.cells #[.int .i64 x103000_2, .int .i64 x103001_2] 25 (0, 0))) := ⟨by rw [← hq_]; exact (by (with_reducible repeat (first | refine blk_drewN ?_ _ | refine blk_drew ?_ | refine blk_alloc ?_ _)); exact BK102.out)⟩; have n1_ : Aside0 (wr.heap[gb103]? = some (.cells #[.int .i64 x104000_2, .int .i64 x104001_2] 25 (0, 0))) := ⟨by rw [← hq_]; exact (by (with_reducible repeat (first | refine blk_drewN ?_ _ | refine blk_drew ?_ | refine blk_alloc ?_ _)); exact BK103.out)⟩; have n2_ : Aside0 (Below w.heap.size w wr) := ⟨by rw [← hq_]; exact (by repeat (first | (with_reducible first | exact HB.out | apply below_alloc | apply pw_below_drewN | apply below_drew1 | refine below_set ?_ GE102.out | refine below_set ?_ GE103.out) | exact HB.out))⟩; clear BK102 BK103 HB hq_; have BK102 := n0_; have BK103 := n1_; have HB := n2_; clear n0_ n1_ n2_)); have hnb24 := NB103_102.out; have hnc24 := NB102_103.out; have hcz25_0 : wr.cell? ⟨gb103, 0, none⟩ = some (.int .i64 x104000_2) := (blk_cell BK103.out 0).trans rfl; have hcz25_1 : wr.cell? ⟨gb103, 1, none⟩ = some (.int .i64 x104001_2) := (blk_cell BK103.out 1).trans rfl; have hfz25_0 := blk_frozen BK103.out 0; have hfz25_1 := blk_frozen BK103.out 1))
                        go_roundg k2
                        case measure => have := HJ1.out; have := HK2.out; omega
                        case rel => exact ⟨(wrap64 (x5_2 + 1)), (x103000_2), (x103001_2), (x104000_2), (wrap64 ((wrap64 (10 * x104001_2)) + t105)), (by first | rfl | (simp; done) | (simp [*]; done) | (simp; generalize ByteArray.toList _ = l_; cases l_ <;> rfl)), H', ⟨by have := HJ1.out; have := HK2.out; omega⟩, ⟨by (with_reducible repeat (first | refine blk_drewN ?_ _ | refine blk_drew ?_ | refine blk_alloc ?_ _)); refine blk_far ?_ NB102_103.out _; (with_reducible repeat (first | refine blk_drewN ?_ _ | refine blk_drew ?_ | refine blk_alloc ?_ _)); exact BK102.out⟩, ⟨by (with_reducible repeat (first | refine blk_drewN ?_ _ | refine blk_drew ?_ | refine blk_alloc ?_ _)); refine blk_put (cs := #[.int .i64 x104000_2, .int .i64 x104001_2]) ?_ 1 _ rfl; (with_reducible repeat (first | refine blk_drewN ?_ _ | refine blk_drew ?_ | refine blk_alloc ?_ _)); exact BK103.out⟩, ⟨by repeat (first | (with_reducible first | exact HB.out | apply below_alloc | apply pw_below_drewN | apply below_drew1 | refine below_set ?_ GE102.out | refine below_set ?_ GE103.out) | exact HB.out)⟩⟩
                  · rw [if_neg c15] at H
                    exact absurd H (by simp)
                · rw [if_neg c14] at H
                  exact absurd H (by simp)
            · rw [if_neg c12] at H
              have c12b0 : decide (x5_2 < 7) = false := decide_eq_false c12
              clear c12
              replace H := Option.bind_eq_some_iff.mp H
              obtain ⟨t104, A260, H⟩ := H
              replace H : (if t104 = true then (some (x104000_2, x104001_2, 0)) else (some (0, 0, 16))) = some (r1, r2, r3) := H
              have A26 := Aside0.mk A260
              clear A260
              by_cases c27 : t104 = true
              · subst c27
                have H1 : (some (x104000_2, x104001_2, 0)) = some (r1, r2, r3) := by rw [if_pos rfl] at H; exact H
                clear H
                have H := H1
                clear H1
                simp only [Option.some.injEq, Prod.mk.injEq] at H
                obtain ⟨rfl, rfl, rfl⟩ := H
                have hnb28 := NB103_102.out
                have hnc28 := NB102_103.out
                have hcz29_0 : wr.cell? ⟨gb103, 0, none⟩ = some (.int .i64 x104000_2) := (blk_cell BK103.out 0).trans rfl
                have hcz29_1 : wr.cell? ⟨gb103, 1, none⟩ = some (.int .i64 x104001_2) := (blk_cell BK103.out 1).trans rfl
                have hfz29_0 := blk_frozen BK103.out 0
                have hfz29_1 := blk_frozen BK103.out 1
                go_wp2_with (first | ((with_reducible refine gate_callee (f := 42) rfl ?_); refine goesL_ (some 45) rfl rfl Tryd.func42 (by kernel_rfl) rfl #[.agg #[.int .i64 x104000_2, .int .i64 x104001_2]] rfl (by (try simp only [List.map_toArray, List.map_cons, List.map_nil]); first | done | rfl | (simp only [List.length_drop, List.length_take]; rfl)) ?_; (with_reducible refine (accountingref05_In.calls x104000_2 x104001_2 true _ A26.out).mono ?_); rintro e w30 ⟨rfl, hb⟩; refine ⟨_, rfl, ?_⟩; have n0_ := Aside0.mk (blk_below (g := gb102) (o := .cells #[.int .i64 x103000_2, .int .i64 x103001_2] 25 (0, 0)) (by (with_reducible repeat (first | refine blk_drewN ?_ _ | refine blk_drew ?_ | refine blk_alloc ?_ _)); exact BK102.out) hb); have n1_ := Aside0.mk (blk_below (g := gb103) (o := .cells #[.int .i64 x104000_2, .int .i64 x104001_2] 25 (0, 0)) (by (with_reducible repeat (first | refine blk_drewN ?_ _ | refine blk_drew ?_ | refine blk_alloc ?_ _)); exact BK103.out) hb); have n2_ := Aside0.mk (below_step (by repeat (first | (with_reducible first | exact HB.out | apply below_alloc | apply pw_below_drewN | apply below_drew1 | refine below_set ?_ GE102.out | refine below_set ?_ GE103.out) | exact HB.out)) hb); clear BK102; clear BK103; clear HB; have BK102 := n0_; have BK103 := n1_; have HB := n2_; clear n0_ n1_ n2_; (try clear hb); (try clear hb2); (try clear hk); (try clear hi); have hcz31_0 : w30.cell? ⟨gb103, 0, none⟩ = some (.int .i64 x104000_2) := (blk_cell BK103.out 0).trans rfl; have hcz31_1 : w30.cell? ⟨gb103, 1, none⟩ = some (.int .i64 x104001_2) := (blk_cell BK103.out 1).trans rfl; have hfz31_0 := blk_frozen BK103.out 0; have hfz31_1 := blk_frozen BK103.out 1; have hcz32_0 : w30.cell? ⟨gb102, 0, none⟩ = some (.int .i64 x103000_2) := (blk_cell BK102.out 0).trans rfl; have hcz32_1 : w30.cell? ⟨gb102, 1, none⟩ = some (.int .i64 x103001_2) := (blk_cell BK102.out 1).trans rfl; have hfz32_0 := blk_frozen BK102.out 0; have hfz32_1 := blk_frozen BK102.out 1))
                refine bodyPost_ret (results_ct rfl _ _ gb102 25 #[.int .i64 x104000_2, .int .i64 x104001_2] (0, 0) _ rfl (by (with_reducible repeat (first | refine blk_drewN ?_ _ | refine blk_drew ?_ | refine blk_alloc ?_ _)); refine blk_put (cs := #[.int .i64 x104000_2, .int .i64 x103001_2]) ?_ 1 _ rfl; (with_reducible repeat (first | refine blk_drewN ?_ _ | refine blk_drew ?_ | refine blk_alloc ?_ _)); refine blk_put (cs := #[.int .i64 x103000_2, .int .i64 x103001_2]) ?_ 0 _ rfl; (with_reducible repeat (first | refine blk_drewN ?_ _ | refine blk_drew ?_ | refine blk_alloc ?_ _)); exact BK102.out) Tryd.underlying25 rfl (by kernel_rfl)) rfl ?_
                exact ⟨by first | rfl | (simp [errW_none, errW_some] <;> rfl) | (simp [*, errW_none, errW_some] <;> rfl), by repeat (first | (with_reducible first | exact HB.out | apply below_alloc | apply pw_below_drewN | apply below_drew1 | refine below_set ?_ GE102.out | refine below_set ?_ GE103.out) | exact HB.out)⟩
              · replace c27 := Bool.eq_false_iff.mpr c27
                subst c27
                have H1 : (some (0, 0, 16)) = some (r1, r2, r3) := by rw [if_neg (show ¬ (false = true) by decide)] at H; exact H
                clear H
                have H := H1
                clear H1
                simp only [Option.some.injEq, Prod.mk.injEq] at H
                obtain ⟨rfl, rfl, rfl⟩ := H
                have hnb33 := NB103_102.out
                have hnc33 := NB102_103.out
                have hcz34_0 : wr.cell? ⟨gb103, 0, none⟩ = some (.int .i64 x104000_2) := (blk_cell BK103.out 0).trans rfl
                have hcz34_1 : wr.cell? ⟨gb103, 1, none⟩ = some (.int .i64 x104001_2) := (blk_cell BK103.out 1).trans rfl
                have hfz34_0 := blk_frozen BK103.out 0
                have hfz34_1 := blk_frozen BK103.out 1
                go_wp2_with (first | ((with_reducible refine gate_callee (f := 42) rfl ?_); refine goesL_ (some 45) rfl rfl Tryd.func42 (by kernel_rfl) rfl #[.agg #[.int .i64 x104000_2, .int .i64 x104001_2]] rfl (by (try simp only [List.map_toArray, List.map_cons, List.map_nil]); first | done | rfl | (simp only [List.length_drop, List.length_take]; rfl)) ?_; (with_reducible refine (accountingref05_In.calls x104000_2 x104001_2 false _ A26.out).mono ?_); rintro e w35 ⟨rfl, hb⟩; refine ⟨_, rfl, ?_⟩; have n0_ := Aside0.mk (blk_below (g := gb102) (o := .cells #[.int .i64 x103000_2, .int .i64 x103001_2] 25 (0, 0)) (by (with_reducible repeat (first | refine blk_drewN ?_ _ | refine blk_drew ?_ | refine blk_alloc ?_ _)); exact BK102.out) hb); have n1_ := Aside0.mk (blk_below (g := gb103) (o := .cells #[.int .i64 x104000_2, .int .i64 x104001_2] 25 (0, 0)) (by (with_reducible repeat (first | refine blk_drewN ?_ _ | refine blk_drew ?_ | refine blk_alloc ?_ _)); exact BK103.out) hb); have n2_ := Aside0.mk (below_step (by repeat (first | (with_reducible first | exact HB.out | apply below_alloc | apply pw_below_drewN | apply below_drew1 | refine below_set ?_ GE102.out | refine below_set ?_ GE103.out) | exact HB.out)) hb); clear BK102; clear BK103; clear HB; have BK102 := n0_; have BK103 := n1_; have HB := n2_; clear n0_ n1_ n2_; (try clear hb); (try clear hb2); (try clear hk); (try clear hi); have hcz36_0 : w35.cell? ⟨gb102, 0, none⟩ = some (.int .i64 x103000_2) := (blk_cell BK102.out 0).trans rfl; have hcz36_1 : w35.cell? ⟨gb102, 1, none⟩ = some (.int .i64 x103001_2) := (blk_cell BK102.out 1).trans rfl; have hfz36_0 := blk_frozen BK102.out 0; have hfz36_1 := blk_frozen BK102.out 1))
                refine bodyPost_ret (results_ct rfl _ _ gb102 25 #[.int .i64 0, .int .i64 0] (0, 0) _ rfl (by (with_reducible repeat (first | refine blk_drewN ?_ _ | refine blk_drew ?_ | refine blk_alloc ?_ _)); refine blk_put (cs := #[.int .i64 0, .int .i64 x103001_2]) ?_ 1 _ rfl; (with_reducible repeat (first | refine blk_drewN ?_ _ | refine blk_drew ?_ | refine blk_alloc ?_ _)); refine blk_put (cs := #[.int .i64 x103000_2, .int .i64 x103001_2]) ?_ 0 _ rfl; (with_reducible repeat (first | refine blk_drewN ?_ _ | refine blk_drew ?_ | refine blk_alloc ?_ _)); exact BK102.out) Tryd.underlying25 rfl (by kernel_rfl)) rfl ?_
                exact ⟨by first | rfl | (simp [errW_none, errW_some] <;> rfl) | (simp [*, errW_none, errW_some] <;> rfl), by repeat (first | (with_reducible first | exact HB.out | apply below_alloc | apply pw_below_drewN | apply below_drew1 | refine below_set ?_ GE102.out | refine below_set ?_ GE103.out) | exact HB.out)⟩

/-! ### accountinglaw05_FiscalNotation: function 5 (by hand) -/
def accountinglaw05_FiscalNotation.f (k : Nat) (y n : Int) (s : ByteArray) : Option Bool :=
  if 100 < s.size then some true else (fiscal_Text.f y n).bind fun a => (accountingref05_Text.f y n).bind fun b => (fiscal_Parse.f s).bind fun x => (accountingref05_Parse.f k s).bind fun z =>
    if a = b ∧ x = z then ((fiscal_Parse.f a.1).bind fun p => if (a.2 = 0 ∧ p = (y, n, 0)) ∨ (a.2 = 16 ∧ p.2.2 = 5) then some true else none) else none
set_option maxHeartbeats 8000000 in
set_option maxRecDepth 100000 in
theorem accountinglaw05_FiscalNotation.calls (k : Nat) (y n : Int) (s : ByteArray) (r : Bool) (w : World) (hLd : Laid w) (h : accountinglaw05_FiscalNotation.f k y n s = some r) :
    Calls Tryd.prog 5 #[.agg #[.int .i64 y, .int .i64 n], .string s] w fun e w' => e = .returned (.bool r) ∧ Below w.heap.size w w' := by
  have HL := Aside0.mk hLd
  clear hLd
  unfold accountinglaw05_FiscalNotation.f at h
  have HV : Aside0 (accountinglaw05_lives.f = some true) := ⟨rfl⟩
  by_cases c0 : 100 < s.size
  · rw [if_pos c0] at h
    obtain rfl := Option.some.inj h
    have c1 : decide (100 < (s.size : Int)) = true := decide_eq_true (by omega)
    have c2 : decide (100 < s.size) = true := decide_eq_true c0
    clear h c0
    go_enter Tryd.func5, Tryd.ntmps5
    go_wp2_with (go_at_call 15; (with_reducible refine (accountinglaw05_lives.calls true _ (by repeat (first | exact HL.out | apply Laid.alloc)) HV.out).mono ?_); rintro e w' ⟨rfl, hb⟩)
    go_ret
    exact ⟨rfl, below_step (below_alloc (Below.refl _ _) _) hb⟩
  · rw [if_neg c0] at h
    have c1 : decide (100 < (s.size : Int)) = false := decide_eq_false (by omega)
    have c2 : decide (100 < s.size) = false := decide_eq_false c0
    clear c0
    obtain ⟨⟨a1, a2⟩, A, h1⟩ := Option.bind_eq_some_iff.mp h
    have V1 := Aside0.mk A
    clear A h
    obtain ⟨⟨b1, b2⟩, A, h2⟩ := Option.bind_eq_some_iff.mp h1
    have V2 := Aside0.mk A
    clear A h1
    obtain ⟨⟨x1, x2, x3⟩, A, h3⟩ := Option.bind_eq_some_iff.mp h2
    have V3 := Aside0.mk A
    clear A h2
    obtain ⟨⟨z1, z2, z3⟩, A, h4⟩ := Option.bind_eq_some_iff.mp h3
    have V4 := Aside0.mk A
    clear A h3
    by_cases c3 : ((a1, a2) : ByteArray × Int) = (b1, b2) ∧ ((x1, x2, x3) : Int × Int × Int) = (z1, z2, z3)
    · rw [if_pos c3] at h4
      obtain ⟨c3, c4⟩ := c3
      simp only [Prod.mk.injEq] at c3 c4
      obtain ⟨rfl, rfl⟩ := c3
      obtain ⟨rfl, rfl, rfl⟩ := c4
      obtain ⟨⟨p1, p2, p3⟩, A, h5⟩ := Option.bind_eq_some_iff.mp h4
      have V5 := Aside0.mk A
      clear A h4
      have HZ : Aside0 (∀ o1 : Obj, (w.alloc o1).heap[w.heap.size]? = some o1) := ⟨fun o1 => heap_alloc_new w o1⟩
      by_cases c5 : (((a1, a2) : ByteArray × Int).2 = 0 ∧ ((p1, p2, p3) : Int × Int × Int) = (y, n, 0)) ∨ (((a1, a2) : ByteArray × Int).2 = 16 ∧ ((p1, p2, p3) : Int × Int × Int).2.2 = 5)
      · rw [if_pos c5] at h5
        obtain rfl := Option.some.inj h5
        clear h5
        simp only [Prod.mk.injEq] at c5
        rcases c5 with ⟨rfl, rfl, rfl, rfl⟩ | ⟨rfl, rfl⟩
        · go_enter Tryd.func5, Tryd.ntmps5
          go_upto_region 4 with (go_at_call 20; (with_reducible refine (fiscal_Text.calls p1 p2 a1 0 _ V1.out).mono ?_); rintro e wA ⟨rfl, hb⟩; have A0 := Aside0.mk (blk_below (HZ.out _) hb); have AB := Aside0.mk (below_step (below_alloc (Below.refl _ _) _) hb); clear hb; have ac0 : wA.cell? ⟨w.heap.size, 0, none⟩ = some (.int .i64 p1) := (blk_cell A0.out 0).trans rfl; have ac1 : wA.cell? ⟨w.heap.size, 1, none⟩ = some (.int .i64 p2) := (blk_cell A0.out 1).trans rfl)
          go_upto_region 5 with (go_at_call 21; (with_reducible refine (accountingref05_Text.calls p1 p2 a1 0 _ V2.out).mono ?_); rintro e wB ⟨rfl, hb⟩; have B0 := Aside0.mk (blk_below A0.out hb); have BB := Aside0.mk (below_step AB.out hb); clear hb A0 AB)
          go_upto_region 6 with (go_at_call 22; (with_reducible refine (fiscal_Parse.calls s x1 x2 x3 _ V3.out).mono ?_); rintro e wC ⟨rfl, hb⟩; have C0 := Aside0.mk (blk_below B0.out hb); have CB := Aside0.mk (below_step BB.out hb); clear hb B0 BB)
          have N9 := heap_alloc_new wC (.cells #[.int .i64 x1, .int .i64 x2] 25 (0, 0))
          have D0 := Aside0.mk (blk_alloc C0.out (.cells #[.int .i64 x1, .int .i64 x2] 25 (0, 0)))
          have DB := Aside0.mk (below_alloc CB.out (.cells #[.int .i64 x1, .int .i64 x2] 25 (0, 0)))
          generalize wC.alloc (.cells #[.int .i64 x1, .int .i64 x2] 25 (0, 0)) = wD at N9 D0 DB ⊢
          generalize wC.heap.size = g9 at N9 ⊢
          have D9 := Aside0.mk N9
          clear N9 C0 CB
          go_upto_region 7 with (go_at_call 23; (with_reducible refine (accountingref05_Parse.calls k s x1 x2 x3 _ V4.out).mono ?_); rintro e wE ⟨rfl, hd⟩; have hb := hd; have E0 := Aside0.mk (blk_below D0.out hb); have E9 := Aside0.mk (blk_below D9.out hb); have EB := Aside0.mk (below_step DB.out hb); clear hb hd D0 D9 DB)
          have N9 := heap_alloc_new wE (.cells #[.int .i64 x1, .int .i64 x2] 25 (0, 0))
          have F0 := Aside0.mk (blk_alloc E0.out (.cells #[.int .i64 x1, .int .i64 x2] 25 (0, 0)))
          have F9 := Aside0.mk (blk_alloc E9.out (.cells #[.int .i64 x1, .int .i64 x2] 25 (0, 0)))
          have FB := Aside0.mk (below_alloc EB.out (.cells #[.int .i64 x1, .int .i64 x2] 25 (0, 0)))
          generalize wE.alloc (.cells #[.int .i64 x1, .int .i64 x2] 25 (0, 0)) = wF at N9 F0 F9 FB ⊢
          generalize wE.heap.size = gB at N9 ⊢
          have FA := Aside0.mk N9
          clear N9 E0 E9 EB
          have fc0 : wF.cell? ⟨g9, 0, none⟩ = some (.int .i64 x1) := (blk_cell F9.out 0).trans rfl
          have fc1 : wF.cell? ⟨g9, 1, none⟩ = some (.int .i64 x2) := (blk_cell F9.out 1).trans rfl
          have hc0 : wF.cell? ⟨gB, 0, none⟩ = some (.int .i64 x1) := (blk_cell FA.out 0).trans rfl
          have hc1 : wF.cell? ⟨gB, 1, none⟩ = some (.int .i64 x2) := (blk_cell FA.out 1).trans rfl
          go_upto_region 10 with (go_at_call 22; (with_reducible refine (fiscal_Parse.calls a1 p1 p2 0 _ V5.out).mono ?_); rintro e wG ⟨rfl, hb⟩; have G0 := Aside0.mk (blk_below F0.out hb); have GB := Aside0.mk (below_step FB.out hb); clear hb F0 F9 FA FB)
          have N9 := heap_alloc_new wG (.cells #[.int .i64 p1, .int .i64 p2] 25 (0, 0))
          have H0 := Aside0.mk (blk_alloc G0.out (.cells #[.int .i64 p1, .int .i64 p2] 25 (0, 0)))
          have HB := Aside0.mk (below_alloc GB.out (.cells #[.int .i64 p1, .int .i64 p2] 25 (0, 0)))
          generalize wG.alloc (.cells #[.int .i64 p1, .int .i64 p2] 25 (0, 0)) = wH at N9 H0 HB ⊢
          generalize wG.heap.size = gD at N9 ⊢
          have H9 := Aside0.mk N9
          clear N9 G0 GB
          have mc0 : wH.cell? ⟨gD, 0, none⟩ = some (.int .i64 p1) := (blk_cell H9.out 0).trans rfl
          have mc1 : wH.cell? ⟨gD, 1, none⟩ = some (.int .i64 p2) := (blk_cell H9.out 1).trans rfl
          have oc0 : wH.cell? ⟨w.heap.size, 0, none⟩ = some (.int .i64 p1) := (blk_cell H0.out 0).trans rfl
          have oc1 : wH.cell? ⟨w.heap.size, 1, none⟩ = some (.int .i64 p2) := (blk_cell H0.out 1).trans rfl
          go_wp2_with (go_at_call 15; (with_reducible refine (accountinglaw05_lives.calls true _ (Laid.below HL.out HB.out) HV.out).mono ?_); rintro e w' ⟨rfl, hb⟩)
          go_ret
          exact ⟨rfl, below_step HB.out hb⟩
        · go_enter Tryd.func5, Tryd.ntmps5
          go_upto_region 4 with (go_at_call 20; (with_reducible refine (fiscal_Text.calls y n a1 16 _ V1.out).mono ?_); rintro e wA ⟨rfl, hb⟩; have A0 := Aside0.mk (blk_below (HZ.out _) hb); have AB := Aside0.mk (below_step (below_alloc (Below.refl _ _) _) hb); clear hb; have ac0 : wA.cell? ⟨w.heap.size, 0, none⟩ = some (.int .i64 y) := (blk_cell A0.out 0).trans rfl; have ac1 : wA.cell? ⟨w.heap.size, 1, none⟩ = some (.int .i64 n) := (blk_cell A0.out 1).trans rfl)
          go_upto_region 5 with (go_at_call 21; (with_reducible refine (accountingref05_Text.calls y n a1 16 _ V2.out).mono ?_); rintro e wB ⟨rfl, hb⟩; have B0 := Aside0.mk (blk_below A0.out hb); have BB := Aside0.mk (below_step AB.out hb); clear hb A0 AB)
          go_upto_region 6 with (go_at_call 22; (with_reducible refine (fiscal_Parse.calls s x1 x2 x3 _ V3.out).mono ?_); rintro e wC ⟨rfl, hb⟩; have C0 := Aside0.mk (blk_below B0.out hb); have CB := Aside0.mk (below_step BB.out hb); clear hb B0 BB)
          have N9 := heap_alloc_new wC (.cells #[.int .i64 x1, .int .i64 x2] 25 (0, 0))
          have D0 := Aside0.mk (blk_alloc C0.out (.cells #[.int .i64 x1, .int .i64 x2] 25 (0, 0)))
          have DB := Aside0.mk (below_alloc CB.out (.cells #[.int .i64 x1, .int .i64 x2] 25 (0, 0)))
          generalize wC.alloc (.cells #[.int .i64 x1, .int .i64 x2] 25 (0, 0)) = wD at N9 D0 DB ⊢
          generalize wC.heap.size = g9 at N9 ⊢
          have D9 := Aside0.mk N9
          clear N9 C0 CB
          go_upto_region 7 with (go_at_call 23; (with_reducible refine (accountingref05_Parse.calls k s x1 x2 x3 _ V4.out).mono ?_); rintro e wE ⟨rfl, hd⟩; have hb := hd; have E0 := Aside0.mk (blk_below D0.out hb); have E9 := Aside0.mk (blk_below D9.out hb); have EB := Aside0.mk (below_step DB.out hb); clear hb hd D0 D9 DB)
          have N9 := heap_alloc_new wE (.cells #[.int .i64 x1, .int .i64 x2] 25 (0, 0))
          have F0 := Aside0.mk (blk_alloc E0.out (.cells #[.int .i64 x1, .int .i64 x2] 25 (0, 0)))
          have F9 := Aside0.mk (blk_alloc E9.out (.cells #[.int .i64 x1, .int .i64 x2] 25 (0, 0)))
          have FB := Aside0.mk (below_alloc EB.out (.cells #[.int .i64 x1, .int .i64 x2] 25 (0, 0)))
          generalize wE.alloc (.cells #[.int .i64 x1, .int .i64 x2] 25 (0, 0)) = wF at N9 F0 F9 FB ⊢
          generalize wE.heap.size = gB at N9 ⊢
          have FA := Aside0.mk N9
          clear N9 E0 E9 EB
          have fc0 : wF.cell? ⟨g9, 0, none⟩ = some (.int .i64 x1) := (blk_cell F9.out 0).trans rfl
          have fc1 : wF.cell? ⟨g9, 1, none⟩ = some (.int .i64 x2) := (blk_cell F9.out 1).trans rfl
          have hc0 : wF.cell? ⟨gB, 0, none⟩ = some (.int .i64 x1) := (blk_cell FA.out 0).trans rfl
          have hc1 : wF.cell? ⟨gB, 1, none⟩ = some (.int .i64 x2) := (blk_cell FA.out 1).trans rfl
          go_upto_region 10 with (go_at_call 22; (with_reducible refine (fiscal_Parse.calls a1 p1 p2 5 _ V5.out).mono ?_); rintro e wG ⟨rfl, hb⟩; have G0 := Aside0.mk (blk_below F0.out hb); have GB := Aside0.mk (below_step FB.out hb); clear hb F0 F9 FA FB)
          have N9 := heap_alloc_new wG (.cells #[.int .i64 p1, .int .i64 p2] 25 (0, 0))
          have H0 := Aside0.mk (blk_alloc G0.out (.cells #[.int .i64 p1, .int .i64 p2] 25 (0, 0)))
          have HB := Aside0.mk (below_alloc GB.out (.cells #[.int .i64 p1, .int .i64 p2] 25 (0, 0)))
          generalize wG.alloc (.cells #[.int .i64 p1, .int .i64 p2] 25 (0, 0)) = wH at N9 H0 HB ⊢
          generalize wG.heap.size = gD at N9 ⊢
          have H9 := Aside0.mk N9
          clear N9 G0 GB
          have mc0 : wH.cell? ⟨gD, 0, none⟩ = some (.int .i64 p1) := (blk_cell H9.out 0).trans rfl
          have mc1 : wH.cell? ⟨gD, 1, none⟩ = some (.int .i64 p2) := (blk_cell H9.out 1).trans rfl
          have oc0 : wH.cell? ⟨w.heap.size, 0, none⟩ = some (.int .i64 y) := (blk_cell H0.out 0).trans rfl
          have oc1 : wH.cell? ⟨w.heap.size, 1, none⟩ = some (.int .i64 n) := (blk_cell H0.out 1).trans rfl
          go_wp2_with (go_at_call 15; (with_reducible refine (accountinglaw05_lives.calls true _ (Laid.below HL.out HB.out) HV.out).mono ?_); rintro e w' ⟨rfl, hb⟩)
          go_ret
          exact ⟨rfl, below_step HB.out hb⟩
      · rw [if_neg c5] at h5
        cases h5
    · rw [if_neg c3] at h4
      cases h4

end Go.Proofs.YtghheaimgjkccaaDoor.QC
