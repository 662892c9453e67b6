/- The small ways of muldiv.MulDiv, and what away and signed come to; no condition but that the numbers are of their kinds. -/
import Derived.Test.YticcaknflnldgaaDoorMdClose
import Derived.Test.YticcaknflnldgaaDoorMx1
namespace Go.Proofs.YticcaknflnldgaaDoor.Md
open Go.RowKit Go.Proofs.YticcaknflnldgaaDoorW.PrintWords Go.Proofs.YticcaknflnldgaaDoorW.PrintLast Go.Proofs.YticcaknflnldgaaDoor.M
set_option linter.unusedVariables false
set_option linter.unusedSimpArgs false

theorem muldiv_away_is {m : Int} {neg odd : Bool} {r C : Int} (h0 : 0 ≤ r) (h1 : r < C) (hC : Rg C) : muldiv_away.f m neg odd r C = some (away m neg odd r C) := by
  have e : IntKind.u64.wrap (C - r) = C - r := wrp (by unfold Rg at hC; omega)
  unfold muldiv_away.f away
  rw [e]
  by_cases a1 : r = 0
  · rw [if_pos a1, if_pos a1]
  rw [if_neg a1, if_neg a1]
  by_cases a2 : m = 2
  · rw [if_pos a2, if_pos a2]
  rw [if_neg a2, if_neg a2]
  by_cases a3 : m = 3
  · rw [if_pos a3, if_pos a3]
  rw [if_neg a3, if_neg a3]
  by_cases a4 : m = 4
  · rw [if_pos a4, if_pos a4]
    by_cases a5 : r > C - r
    · rw [if_pos a5, decide_eq_true (show C - r < r from a5), Bool.true_or]
    · rw [if_neg a5, decide_eq_false (show ¬ C - r < r from a5), Bool.false_or]
      by_cases a6 : r = C - r
      · rw [if_pos a6, decide_eq_true a6, Bool.true_and]
      · rw [if_neg a6, decide_eq_false a6, Bool.false_and]
  rw [if_neg a4, if_neg a4]
  by_cases a7 : m = 5
  · rw [if_pos a7, if_pos a7]
  rw [if_neg a7, if_neg a7]

theorem signed_num (s : Int) (h : 0 ≤ s) (h2 : s ≤ 9223372036854775808) : wrap64 (wrap64 (-wrap64 (IntKind.u64.wrap (s - 1))) - 1) = -s := by
  rw [IntKind.wrap_u64]; unfold wrap64; omega

theorem muldiv_signed_is (neg : Bool) (s : Int) (h : Rg s) : muldiv_signed.f neg s = some (sg neg s) := by
  unfold Rg at h
  unfold muldiv_signed.f sg
  by_cases a1 : neg = true
  · rw [if_pos a1, if_pos a1]
    by_cases a2 : s > 9223372036854775808
    · rw [if_pos a2, if_pos a2]
    · rw [if_neg a2, if_neg a2, signed_num s h.1 (by omega)]
  · rw [if_neg a1, if_neg a1]
    by_cases a2 : s ≥ 9223372036854775808
    · rw [if_pos a2, if_pos a2]
    · rw [if_neg a2, if_neg a2]
      have e : wrap64 s = s := by unfold wrap64; omega
      rw [e]

/-- MulDiv, of integers. -/
def MulDiv_f (a0 a1 a2 a3 : Int) : Option (Int × Int) := if I64 a0 ∧ I64 a1 ∧ I64 a2 then some (md a0 a1 a2 a3) else none

theorem bcell {W w1 : World} (hb : Below W.heap.size W w1) : (∀ b o, b < W.heap.size → w1.cell? ⟨b, o, none⟩ = W.cell? ⟨b, o, none⟩) ∧ (∀ b o, b < W.heap.size → w1.frozen? ⟨b, o, none⟩ = W.frozen? ⟨b, o, none⟩) :=
  ⟨fun b o h => hb.cell (p := ⟨b, o, none⟩) h, fun b o h => hb.frozen (p := ⟨b, o, none⟩) h⟩

theorem tmod_odd (q : Int) (h : 0 ≤ q) : (q.tmod 2 == 1) = decide (q % 2 = 1) := by
  rw [Int.tmod_eq_emod_of_nonneg h]; rfl

set_option maxHeartbeats 3200000 in
set_option maxRecDepth 100000 in
theorem MulDiv_small (a0 a1 a2 a3 r1 r2 : Int) (w : World) (hR : md a0 a1 a2 a3 = (r1, r2)) (hs : a3 < 1 ∨ 5 < a3 ∨ a2 = 0) :
    Calls Tryd.prog 69 #[.int .i64 a0, .int .i64 a1, .int .i64 a2, .int .i64 a3] w fun e w' => e = .returned (.tuple #[.int .i64 r1, .int .i64 r2]) ∧ Below w.heap.size w w' := by
  by_cases hm1 : a3 < 1
  · have HR := Aside0.mk (show r1 = 0 ∧ r2 = 10 by unfold md at hR; rw [if_pos (.inl hm1), Prod.mk.injEq] at hR; exact ⟨hR.1.symm, hR.2.symm⟩)
    have m1 : decide (a3 < 1) = true := decide_eq_true hm1
    clear hR hs hm1
    go_enter Tryd.func69, Tryd.ntmps69
    go_wp2
    go_ret2
    exact ⟨ret_two HR.out.1.symm HR.out.2.symm, Below.refl _ _⟩
  by_cases hm2 : 5 < a3
  · have HR := Aside0.mk (show r1 = 0 ∧ r2 = 10 by unfold md at hR; rw [if_pos (.inr hm2), Prod.mk.injEq] at hR; exact ⟨hR.1.symm, hR.2.symm⟩)
    have m1 : decide (a3 < 1) = false := decide_eq_false hm1
    have m2 : decide (5 < a3) = true := decide_eq_true hm2
    clear hR hs hm1 hm2
    go_enter Tryd.func69, Tryd.ntmps69
    go_wp2
    go_ret2
    exact ⟨ret_two HR.out.1.symm HR.out.2.symm, Below.refl _ _⟩
  have hc0 : a2 = 0 := by omega
  have HR := Aside0.mk (show r1 = 0 ∧ r2 = 2 by unfold md at hR; rw [if_neg (by omega), if_pos hc0, Prod.mk.injEq] at hR; exact ⟨hR.1.symm, hR.2.symm⟩)
  have m1 : decide (a3 < 1) = false := decide_eq_false hm1
  have m2 : decide (5 < a3) = false := decide_eq_false hm2
  clear hs hR hm1 hm2
  subst hc0
  go_enter Tryd.func69, Tryd.ntmps69
  go_wp2
  go_ret2
  exact ⟨ret_two HR.out.1.symm HR.out.2.symm, Below.refl _ _⟩
end Go.Proofs.YticcaknflnldgaaDoor.Md
