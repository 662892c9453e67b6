/- muldiv.Mod and muldiv.Cmp: each returns what the plain functions mdMod and mdCmp say; no condition but that the arguments are integers of 64 bits. -/
import Derived.Test.YticcaknflnldgaaDoorMdClose
import Derived.Test.YticcaknflnldgaaDoorMx1
namespace Go.Proofs.YticcaknflnldgaaDoor.Md
open Go.RowKit Go.Proofs.YticcaknflnldgaaDoorW.PrintWords Go.Proofs.YticcaknflnldgaaDoorW.PrintLast Go.Proofs.YticcaknflnldgaaDoor.M
set_option linter.unusedVariables false
set_option linter.unusedSimpArgs false

def Mod_f (a0 a1 a2 : Int) : Option (Int × Int) := if I64 a0 ∧ I64 a1 ∧ I64 a2 then some (mdMod a0 a1 a2) else none

def Cmp_f (a0 a1 a2 a3 : Int) : Option Int := if I64 a0 ∧ I64 a1 ∧ I64 a2 ∧ I64 a3 then some (mdCmp a0 a1 a2 a3) else none

theorem direction_is (a b : Int) : muldiv_direction.f 1 a b = some (dir a b) := by
  unfold muldiv_direction.f dir
  by_cases h1 : a = 0
  · rw [if_pos h1, if_pos h1]; rfl
  rw [if_neg h1, if_neg h1]
  simp only [muldiv_direction.j0]
  by_cases h2 : b = 0
  · subst h2; rfl
  rw [if_neg (show ¬ (b == 0) = true from by simpa using h2), if_neg h2]
  by_cases h3 : (decide (a < 0) != decide (b < 0)) = true
  · rw [if_pos h3, if_pos h3]
  · rw [if_neg h3, if_neg h3]

set_option maxHeartbeats 1600000 in
set_option maxRecDepth 100000 in
theorem Cmp_calls (a0 : Int) (a1 : Int) (a2 : Int) (a3 : Int) (r : Int) (w : World) (h : Cmp_f a0 a1 a2 a3 = some r) :
    Calls Tryd.prog 17 #[.int .i64 a0, .int .i64 a1, .int .i64 a2, .int .i64 a3] w fun e w' => e = .returned (.int .i64 r) ∧ Below w.heap.size w w' := by
  unfold Cmp_f at h
  by_cases hI : I64 a0 ∧ I64 a1 ∧ I64 a2 ∧ I64 a3
  · rw [if_pos hI] at h
    have hR := Option.some.inj h
    clear h
    obtain ⟨ha, hb, hc, hd⟩ := hI
    obtain ⟨A, B, C, D, hi, lo, hj, lp, s, t, N⟩ : ∃ A B C D hi lo hj lp s t : Int, Aside0 (((a0.natAbs : Int) = A ∧ (a1.natAbs : Int) = B ∧ (a2.natAbs : Int) = C ∧ (a3.natAbs : Int) = D ∧ dir a0 a1 = s ∧ dir a2 a3 = t) ∧ mulHi A B = hi ∧ mulLo A B = lo ∧ mulHi C D = hj ∧ mulLo C D = lp) := ⟨_, _, _, _, _, _, _, _, _, _, ⟨⟨⟨rfl, rfl, rfl, rfl, rfl, rfl⟩, rfl, rfl, rfl, rfl⟩⟩⟩
    have HA : Aside0 (Rg A) := ⟨by have := N.out.1.1; unfold I64 at ha; unfold Rg; omega⟩
    have HB : Aside0 (Rg B) := ⟨by have := N.out.1.2.1; unfold I64 at hb; unfold Rg; omega⟩
    have HC : Aside0 (Rg C) := ⟨by have := N.out.1.2.2.1; unfold I64 at hc; unfold Rg; omega⟩
    have HD : Aside0 (Rg D) := ⟨by have := N.out.1.2.2.2.1; unfold I64 at hd; unfold Rg; omega⟩
    have M1 := Aside0.mk (mul_rg _ _ HA.out HB.out)
    have M2 := Aside0.mk (mul_rg _ _ HC.out HD.out)
    rw [N.out.2.1, N.out.2.2.1] at M1
    rw [N.out.2.2.2.1, N.out.2.2.2.2] at M2
    have K := Aside0.mk (cmp_close M1.out M2.out N.out.1 hR)
    have S1 := Aside0.mk ((direction_is a0 a1).trans (congrArg some N.out.1.2.2.2.2.1))
    have S2 := Aside0.mk ((direction_is a2 a3).trans (congrArg some N.out.1.2.2.2.2.2))
    have Ha := Aside0.mk ha
    have Hb := Aside0.mk hb
    have Hc := Aside0.mk hc
    have Hd := Aside0.mk hd
    clear ha hb hc hd hR
    obtain ⟨x, X⟩ : ∃ x, Aside0 (cmp2 hj lp hi lo = x) := ⟨_, ⟨rfl⟩⟩
    obtain ⟨y, Y⟩ : ∃ y, Aside0 (cmp2 hi lo hj lp = y) := ⟨_, ⟨rfl⟩⟩
    go_enter Tryd.func17, Tryd.ntmps17
    go_wp2_with (first
      | (go_at_call 30; (with_reducible refine (magnitude_is _ _ (by first | exact Ha.out | exact Hb.out | exact Hc.out | exact Hd.out) (by first | exact N.out.1.1 | exact N.out.1.2.1 | exact N.out.1.2.2.1 | exact N.out.1.2.2.2.1) _).mono ?_); rintro e w' ⟨rfl, rfl⟩)
      | (go_at_call 29; (with_reducible refine (multiply_is A B _ _ HA.out HB.out N.out.2.1 N.out.2.2.1 _).mono ?_); rintro e w1 ⟨rfl, hb1⟩)
      | (go_at_call 29; (with_reducible refine (multiply_is C D _ _ HC.out HD.out N.out.2.2.2.1 N.out.2.2.2.2 _).mono ?_); rintro e w2 ⟨rfl, hb2⟩)
      | (go_at_call 31; (with_reducible refine (muldiv_direction.calls 1 _ _ _ _ (by first | exact S1.out | exact S2.out)).mono ?_); rintro e w' ⟨rfl, ⟨⟨n, rfl⟩⟩⟩)
      | (go_at_call 32; (with_reducible refine (compare_is _ _ _ _ _ (by first | exact X.out | exact Y.out) _).mono ?_); rintro e w3 ⟨rfl, hb3⟩))
    all_goals go_ret
    all_goals have k := K.out
    all_goals have B2 := fun n => pw_below_drewN (below_alloc (below_alloc (below_then hb1 hb1.size hb2) (.cells #[.int .u64 hi, .int .u64 lo] 64)) (.cells #[.int .u64 hj, .int .u64 lp] 64)) n
    · exact ⟨ret_int (k.1 (by omega)), B2 _⟩
    · exact ⟨ret_int (k.2.1 (by omega)), B2 _⟩
    · exact ⟨ret_int (X.out.symm.trans (k.2.2.1 (by omega) (by omega))), below_then (B2 _) (B2 _).size hb3⟩
    · exact ⟨ret_int (Y.out.symm.trans (k.2.2.2 (by omega) (by omega))), below_then (B2 _) (B2 _).size hb3⟩
  · rw [if_neg hI] at h; cases h
end Go.Proofs.YticcaknflnldgaaDoor.Md
