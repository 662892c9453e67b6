/- The walks of package muldiv (magnitude, multiply, compare): what each returns, as plain functions of whole numbers; no condition but that the arguments are of their kinds. -/
import Derived.Test.YtkimndddlnbeiaaDoorMdMath
import Derived.Test.YtkimndddlnbeiaaDoorProg
import Derived.Test.YtkimndddlnbeiaaDoorWWords
import Derived.Test.YtkimndddlnbeiaaDoorWLast
import Derived.LoopN
namespace Go.Proofs.YtkimndddlnbeiaaDoor.Md
open Go.RowKit Go.Proofs.YtkimndddlnbeiaaDoorW.PrintWords Go.Proofs.YtkimndddlnbeiaaDoorW.PrintLast

theorem ret_int {k : IntKind} {a b : Int} (h : a = b) : Ending.returned (.int k a) = .returned (.int k b) := by rw [h]

theorem magnitude_calls (a : Int) (h : I64 a) (w : World) :
    Calls Tryd.prog 73 #[.int .i64 a] w fun e w' => e = .returned (.int .u64 (a.natAbs : Int)) ∧ w = w' := by
  have H := Aside0.mk h; clear h
  by_cases c2 : a < 0
  · have c2b0 : decide (a < 0) = true := decide_eq_true c2
    clear c2
    go_enter Tryd.func73, Tryd.ntmps73
    go_wp2
    go_ret
    exact ⟨ret_int (by have := H.out; unfold I64 at this; have c := of_decide_eq_true c2b0; simp only [IntKind.wrap_u64]; omega), rfl⟩
  · have c2b0 : decide (a < 0) = false := decide_eq_false c2
    clear c2
    go_enter Tryd.func73, Tryd.ntmps73
    go_wp2
    go_ret
    exact ⟨ret_int (by have := H.out; unfold I64 at this; have c := of_decide_eq_false c2b0; simp only [IntKind.wrap_u64]; omega), rfl⟩

set_option maxHeartbeats 800000 in
set_option maxRecDepth 100000 in
theorem multiply_calls (a b : Int) (ha : Rg a) (hb : Rg b) (w : World) :
    Calls Tryd.prog 72 #[.int .u64 a, .int .u64 b] w fun e w' => e = .returned (.agg #[.int .u64 (mulHi a b), .int .u64 (mulLo a b)]) ∧ Below w.heap.size w w' := by
  have HA := Aside0.mk ha; clear ha
  have HB := Aside0.mk hb; clear hb
  go_enter Tryd.func72, Tryd.ntmps72
  go_wp2
  refine bodyPost_ret (v := .agg #[.int .u64 (mulHi a b), .int .u64 (mulLo a b)]) ?_ rfl ⟨rfl, ?_⟩
  · simp [results, Tryd.results72, go_sem]
    exact multiply_spelt a b HA.out HB.out
  · exact Below.refl _ _ |>.alloc (Nat.le_refl _) _

/-- Two numbers of two words, compared. -/
def cmp2 (a b c d : Int) : Int := if a = c then (if b = d then 0 else if b < d then -1 else 1) else if a < c then -1 else 1

end Go.Proofs.YtkimndddlnbeiaaDoor.Md
