/- The walks of package muldiv (magnitude, multiply, compare): what each returns, as plain functions of whole numbers; no condition but that the arguments are of their kinds. -/
import Derived.Test.YticcaknflnldgaaDoorMdMath
import Derived.Test.YticcaknflnldgaaDoorProg
import Derived.Test.YticcaknflnldgaaDoorWWords
import Derived.Test.YticcaknflnldgaaDoorWLast
import Derived.LoopN
namespace Go.Proofs.YticcaknflnldgaaDoor.Md
open Go.RowKit Go.Proofs.YticcaknflnldgaaDoorW.PrintWords Go.Proofs.YticcaknflnldgaaDoorW.PrintLast

theorem ret_int {k : IntKind} {a b : Int} (h : a = b) : Ending.returned (.int k a) = .returned (.int k b) := by rw [h]

theorem magnitude_calls (a : Int) (h : I64 a) (w : World) :
    Calls Tryd.prog 30 #[.int .i64 a] w fun e w' => e = .returned (.int .u64 (a.natAbs : Int)) ∧ w = w' := by
  have H := Aside0.mk h; clear h
  by_cases c2 : a < 0
  · have c2b0 : decide (a < 0) = true := decide_eq_true c2
    clear c2
    go_enter Tryd.func30, Tryd.ntmps30
    go_wp2
    go_ret
    exact ⟨ret_int (by have := H.out; unfold I64 at this; have c := of_decide_eq_true c2b0; simp only [IntKind.wrap_u64]; omega), rfl⟩
  · have c2b0 : decide (a < 0) = false := decide_eq_false c2
    clear c2
    go_enter Tryd.func30, Tryd.ntmps30
    go_wp2
    go_ret
    exact ⟨ret_int (by have := H.out; unfold I64 at this; have c := of_decide_eq_false c2b0; simp only [IntKind.wrap_u64]; omega), rfl⟩

set_option maxHeartbeats 800000 in
set_option maxRecDepth 100000 in
theorem multiply_calls (a b : Int) (ha : Rg a) (hb : Rg b) (w : World) :
    Calls Tryd.prog 29 #[.int .u64 a, .int .u64 b] w fun e w' => e = .returned (.agg #[.int .u64 (mulHi a b), .int .u64 (mulLo a b)]) ∧ Below w.heap.size w w' := by
  have HA := Aside0.mk ha; clear ha
  have HB := Aside0.mk hb; clear hb
  go_enter Tryd.func29, Tryd.ntmps29
  go_wp2
  refine bodyPost_ret (v := .agg #[.int .u64 (mulHi a b), .int .u64 (mulLo a b)]) ?_ rfl ⟨rfl, ?_⟩
  · simp [results, Tryd.results29, go_sem]
    exact multiply_spelt a b HA.out HB.out
  · exact Below.refl _ _ |>.alloc (Nat.le_refl _) _

/-- Two numbers of two words, compared. -/
def cmp2 (a b c d : Int) : Int := if a = c then (if b = d then 0 else if b < d then -1 else 1) else if a < c then -1 else 1

set_option maxHeartbeats 1600000 in
set_option maxRecDepth 100000 in
theorem compare_calls (a b c d : Int) (w : World) :
    Calls Tryd.prog 32 #[.agg #[.int .u64 a, .int .u64 b], .agg #[.int .u64 c, .int .u64 d]] w fun e w' => e = .returned (.int .i64 (cmp2 a b c d)) ∧ Below w.heap.size w w' := by
  by_cases h1 : a = c
  · by_cases h3 : b = d
    · have HC := Aside0.mk (show cmp2 a b c d = 0 by unfold cmp2; rw [if_pos h1, if_pos h3])
      subst h1; subst h3
      go_enter Tryd.func32, Tryd.ntmps32
      go_wp2
      refine wp_loop_rounds 3 ?_
      rw [rounds_succ]
      go_wp2
      go_quiet (fail)
      go_wp2
      rw [rounds_succ]
      go_wp2
      go_quiet (fail)
      go_wp2
      rw [rounds_succ]
      go_wp2
      go_ret
      exact ⟨ret_int HC.out.symm, by repeat (first | exact Below.refl _ _ | apply below_alloc | apply pw_below_drewN | apply below_drew)⟩
    · by_cases h4 : b < d
      · have HC := Aside0.mk (show cmp2 a b c d = -1 by unfold cmp2; rw [if_pos h1, if_neg h3, if_pos h4])
        subst h1
        have b0 : (b == d) = false := beq_eq_false_iff_ne.mpr h3
        have b1 : (b != d) = true := bne_iff_ne.mpr h3
        have b3 : decide (b < d) = true := decide_eq_true h4
        clear h3 h4
        go_enter Tryd.func32, Tryd.ntmps32
        go_wp2
        refine wp_loop_rounds 2 ?_
        rw [rounds_succ]
        go_wp2
        go_quiet (fail)
        go_wp2
        rw [rounds_succ]
        go_wp2
        go_quiet (fail)
        go_wp2
        go_quiet (fail)
        go_wp2
        go_ret
        exact ⟨ret_int HC.out.symm, by repeat (first | exact Below.refl _ _ | apply below_alloc | apply pw_below_drewN | apply below_drew)⟩
      · have HC := Aside0.mk (show cmp2 a b c d = 1 by unfold cmp2; rw [if_pos h1, if_neg h3, if_neg h4])
        subst h1
        have b0 : (b == d) = false := beq_eq_false_iff_ne.mpr h3
        have b1 : (b != d) = true := bne_iff_ne.mpr h3
        have b3 : decide (b < d) = false := decide_eq_false h4
        clear h3 h4
        go_enter Tryd.func32, Tryd.ntmps32
        go_wp2
        refine wp_loop_rounds 2 ?_
        rw [rounds_succ]
        go_wp2
        go_quiet (fail)
        go_wp2
        rw [rounds_succ]
        go_wp2
        go_quiet (fail)
        go_wp2
        go_quiet (fail)
        go_wp2
        go_ret
        exact ⟨ret_int HC.out.symm, by repeat (first | exact Below.refl _ _ | apply below_alloc | apply pw_below_drewN | apply below_drew)⟩
  · by_cases h2 : a < c
    · have HC := Aside0.mk (show cmp2 a b c d = -1 by unfold cmp2; rw [if_neg h1, if_pos h2])
      have b0 : (a == c) = false := beq_eq_false_iff_ne.mpr h1
      have b1 : (a != c) = true := bne_iff_ne.mpr h1
      have b3 : decide (a < c) = true := decide_eq_true h2
      clear h1 h2
      go_enter Tryd.func32, Tryd.ntmps32
      go_wp2
      refine wp_loop_rounds 1 ?_
      rw [rounds_succ]
      go_wp2
      go_quiet (fail)
      go_wp2
      go_quiet (fail)
      go_wp2
      go_ret
      exact ⟨ret_int HC.out.symm, by repeat (first | exact Below.refl _ _ | apply below_alloc | apply pw_below_drewN | apply below_drew)⟩
    · have HC := Aside0.mk (show cmp2 a b c d = 1 by unfold cmp2; rw [if_neg h1, if_neg h2])
      have b0 : (a == c) = false := beq_eq_false_iff_ne.mpr h1
      have b1 : (a != c) = true := bne_iff_ne.mpr h1
      have b3 : decide (a < c) = false := decide_eq_false h2
      clear h1 h2
      go_enter Tryd.func32, Tryd.ntmps32
      go_wp2
      refine wp_loop_rounds 1 ?_
      rw [rounds_succ]
      go_wp2
      go_quiet (fail)
      go_wp2
      go_quiet (fail)
      go_wp2
      go_ret
      exact ⟨ret_int HC.out.symm, by repeat (first | exact Below.refl _ _ | apply below_alloc | apply pw_below_drewN | apply below_drew)⟩
end Go.Proofs.YticcaknflnldgaaDoor.Md
