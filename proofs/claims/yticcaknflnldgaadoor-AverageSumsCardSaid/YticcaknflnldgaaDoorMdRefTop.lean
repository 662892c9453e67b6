/- The walk of the reference's MulDiv: it returns what the plain function md says; no condition but that the arguments are integers of 64 bits. -/
import Derived.Test.YticcaknflnldgaaDoorMdRefMath
namespace Go.Proofs.YticcaknflnldgaaDoor.Md
open Go.RowKit Go.Proofs.YticcaknflnldgaaDoorW.PrintWords Go.Proofs.YticcaknflnldgaaDoorW.PrintLast Go.Proofs.YticcaknflnldgaaDoor.R
set_option linter.unusedVariables false
set_option linter.unusedSimpArgs false

theorem ref_away {m : Int} {neg odd : Bool} {r C : Int} (h0 : 0 ≤ r) (h1 : r < C) (hC : Rg C) : accountingref02_away.f m neg odd r C = some (away m neg odd r C) := by
  have e : IntKind.u64.wrap (C - r) = C - r := wrp (by unfold Rg at hC; omega)
  unfold accountingref02_away.f away
  rw [e]
  by_cases a1 : r = 0
  · subst a1
    rw [if_pos rfl]
    split
    · rfl
    split
    · simp; omega
    split
    · rw [if_neg (by omega), if_neg (by omega)]
    split
    · split <;> rfl
    · rfl
  rw [if_neg a1]
  by_cases a2 : m = 2
  · rw [if_pos a2, if_pos a2]; simp; omega
  rw [if_neg a2, if_neg a2]
  by_cases a3 : m = 3
  · rw [if_pos a3, if_pos a3]
  rw [if_neg a3, if_neg a3]
  by_cases a4 : m = 4
  · rw [if_pos a4, if_pos a4]
    by_cases a5 : r > C - r
    · rw [if_pos a5, decide_eq_true (show C - r < r from a5), Bool.true_or]
    · rw [if_neg a5, decide_eq_false (show ¬ C - r < r from a5), Bool.false_or]
      by_cases a6 : r = C - r
      · rw [if_pos a6, decide_eq_true a6, Bool.true_and]
      · rw [if_neg a6, decide_eq_false a6, Bool.false_and]
  rw [if_neg a4, if_neg a4]
  by_cases a7 : m = 5
  · rw [if_pos a7, if_pos a7]
    cases neg
    · rfl
    · simp; omega
  rw [if_neg a7, if_neg a7]

set_option maxHeartbeats 3200000 in
set_option maxRecDepth 100000 in
theorem RMulDiv_small (a0 a1 a2 a3 r1 r2 : Int) (w : World) (hR : md a0 a1 a2 a3 = (r1, r2)) (hs : a3 < 1 ∨ 5 < a3 ∨ a2 = 0) :
    Calls Tryd.prog 65 #[.int .i64 a0, .int .i64 a1, .int .i64 a2, .int .i64 a3] w fun e w' => e = .returned (.tuple #[.int .i64 r1, .int .i64 r2]) ∧ Drawn0 w w' := by
  by_cases hm1 : a3 < 1
  · have HR := Aside0.mk (show r1 = 0 ∧ r2 = 10 by unfold md at hR; rw [if_pos (.inl hm1), Prod.mk.injEq] at hR; exact ⟨hR.1.symm, hR.2.symm⟩)
    have m1 : decide (a3 < 1) = true := decide_eq_true hm1
    clear hR hs hm1
    go_enter Tryd.func65, Tryd.ntmps65
    go_wp2
    go_ret2
    exact ⟨ret_two HR.out.1.symm HR.out.2.symm, Drawn0.refl _⟩
  by_cases hm2 : 5 < a3
  · have HR := Aside0.mk (show r1 = 0 ∧ r2 = 10 by unfold md at hR; rw [if_pos (.inr hm2), Prod.mk.injEq] at hR; exact ⟨hR.1.symm, hR.2.symm⟩)
    have m1 : decide (a3 < 1) = false := decide_eq_false hm1
    have m2 : decide (5 < a3) = true := decide_eq_true hm2
    clear hR hs hm1 hm2
    go_enter Tryd.func65, Tryd.ntmps65
    go_wp2
    go_ret2
    exact ⟨ret_two HR.out.1.symm HR.out.2.symm, Drawn0.refl _⟩
  have hc0 : a2 = 0 := by omega
  have HR := Aside0.mk (show r1 = 0 ∧ r2 = 2 by unfold md at hR; rw [if_neg (by omega), if_pos hc0, Prod.mk.injEq] at hR; exact ⟨hR.1.symm, hR.2.symm⟩)
  have m1 : decide (a3 < 1) = false := decide_eq_false hm1
  have m2 : decide (5 < a3) = false := decide_eq_false hm2
  clear hs hR hm1 hm2
  subst hc0
  go_enter Tryd.func65, Tryd.ntmps65
  go_wp2
  go_ret2
  exact ⟨ret_two HR.out.1.symm HR.out.2.symm, Drawn0.refl _⟩

set_option maxHeartbeats 3200000 in
set_option maxRecDepth 100000 in
theorem RMulDiv_q0 (a0 a1 a2 a3 r1 r2 A B C hi lo q0 q1 r : Int) (w : World) (G1 : Aside0 (accountingref02_mag.f a0 = some A)) (G2 : Aside0 (accountingref02_mag.f a1 = some B)) (G3 : Aside0 (accountingref02_mag.f a2 = some C)) (G4 : Aside0 (accountingref02_wide.f A B = some (hi, lo))) (G5 : Aside0 (accountingref02_divide.f 129 hi lo C = some (q0, q1, r))) (m1 : decide (a3 < 1) = false) (m2 : decide (5 < a3) = false) (z1 : (a2 == 0) = false) (k1 : decide (0 < q0) = true) (HR : Aside0 (r1 = 0 ∧ r2 = 4)) :
    Calls Tryd.prog 65 #[.int .i64 a0, .int .i64 a1, .int .i64 a2, .int .i64 a3] w fun e w' => e = .returned (.tuple #[.int .i64 r1, .int .i64 r2]) ∧ Drawn0 w w' := by
  go_enter Tryd.func65, Tryd.ntmps65
  go_wp2_with (first | (go_at_call 72; (with_reducible refine (accountingref02_mag.calls _ _ _ (by first | exact G1.out | exact G2.out | exact G3.out)).mono ?_); rintro e w' ⟨rfl, ⟨⟨n1, rfl⟩⟩⟩) | (go_at_call 71; (with_reducible refine (accountingref02_wide.calls _ _ _ _ _ G4.out).mono ?_); rintro e w' ⟨rfl, ⟨⟨n2, rfl⟩⟩⟩) | (go_at_call 73; (with_reducible refine (accountingref02_divide.calls 129 _ _ _ _ _ _ _ G5.out).mono ?_); rintro e w' ⟨rfl, ⟨⟨n3, rfl⟩⟩⟩))
  go_ret2
  exact ⟨ret_two (HR.out.1.symm) HR.out.2.symm, by repeat (first | exact Drawn0.refl _ | apply Drawn0.step)⟩

set_option maxHeartbeats 3200000 in
set_option maxRecDepth 100000 in
theorem RMulDiv_q1 (a0 a1 a2 a3 r1 r2 A B C hi lo q0 q1 r : Int) (w : World) (G1 : Aside0 (accountingref02_mag.f a0 = some A)) (G2 : Aside0 (accountingref02_mag.f a1 = some B)) (G3 : Aside0 (accountingref02_mag.f a2 = some C)) (G4 : Aside0 (accountingref02_wide.f A B = some (hi, lo))) (G5 : Aside0 (accountingref02_divide.f 129 hi lo C = some (q0, q1, r))) (m1 : decide (a3 < 1) = false) (m2 : decide (5 < a3) = false) (z1 : (a2 == 0) = false) (k1 : decide (0 < q0) = false) (k2 : decide (9223372036854775808 < q1) = true) (HR : Aside0 (r1 = 0 ∧ r2 = 4)) :
    Calls Tryd.prog 65 #[.int .i64 a0, .int .i64 a1, .int .i64 a2, .int .i64 a3] w fun e w' => e = .returned (.tuple #[.int .i64 r1, .int .i64 r2]) ∧ Drawn0 w w' := by
  go_enter Tryd.func65, Tryd.ntmps65
  go_wp2_with (first | (go_at_call 72; (with_reducible refine (accountingref02_mag.calls _ _ _ (by first | exact G1.out | exact G2.out | exact G3.out)).mono ?_); rintro e w' ⟨rfl, ⟨⟨n1, rfl⟩⟩⟩) | (go_at_call 71; (with_reducible refine (accountingref02_wide.calls _ _ _ _ _ G4.out).mono ?_); rintro e w' ⟨rfl, ⟨⟨n2, rfl⟩⟩⟩) | (go_at_call 73; (with_reducible refine (accountingref02_divide.calls 129 _ _ _ _ _ _ _ G5.out).mono ?_); rintro e w' ⟨rfl, ⟨⟨n3, rfl⟩⟩⟩))
  go_ret2
  exact ⟨ret_two (HR.out.1.symm) HR.out.2.symm, by repeat (first | exact Drawn0.refl _ | apply Drawn0.step)⟩

set_option maxHeartbeats 3200000 in
set_option maxRecDepth 100000 in
theorem RMulDiv_o_true_true (a0 a1 a2 a3 r1 r2 A B C hi lo q0 q1 r : Int) (w : World) (G1 : Aside0 (accountingref02_mag.f a0 = some A)) (G2 : Aside0 (accountingref02_mag.f a1 = some B)) (G3 : Aside0 (accountingref02_mag.f a2 = some C)) (G4 : Aside0 (accountingref02_wide.f A B = some (hi, lo))) (G5 : Aside0 (accountingref02_divide.f 129 hi lo C = some (q0, q1, r))) (m1 : decide (a3 < 1) = false) (m2 : decide (5 < a3) = false) (z1 : (a2 == 0) = false) (k1 : decide (0 < q0) = false) (k2 : decide (9223372036854775808 < q1) = false) (b1 : (!((!(decide (a0 < 0) == decide (a1 < 0))) == decide (a2 < 0))) = true) (b2 : ((!(decide (a0 < 0) == decide (a1 < 0))) == decide (a2 < 0)) = false) (AW : Aside0 (accountingref02_away.f a3 true (q1.tmod 2 == 1) r C = some true)) (k3 : decide (9223372036854775808 < (IntKind.u64.wrap (q1 + 1))) = true) (HR : Aside0 (r1 = 0 ∧ r2 = 4)) :
    Calls Tryd.prog 65 #[.int .i64 a0, .int .i64 a1, .int .i64 a2, .int .i64 a3] w fun e w' => e = .returned (.tuple #[.int .i64 r1, .int .i64 r2]) ∧ Drawn0 w w' := by
  go_enter Tryd.func65, Tryd.ntmps65
  go_wp2_with (first | (go_at_call 72; (with_reducible refine (accountingref02_mag.calls _ _ _ (by first | exact G1.out | exact G2.out | exact G3.out)).mono ?_); rintro e w' ⟨rfl, ⟨⟨n1, rfl⟩⟩⟩) | (go_at_call 71; (with_reducible refine (accountingref02_wide.calls _ _ _ _ _ G4.out).mono ?_); rintro e w' ⟨rfl, ⟨⟨n2, rfl⟩⟩⟩) | (go_at_call 73; (with_reducible refine (accountingref02_divide.calls 129 _ _ _ _ _ _ _ G5.out).mono ?_); rintro e w' ⟨rfl, ⟨⟨n3, rfl⟩⟩⟩) | (go_at_call 74; (with_reducible refine (accountingref02_away.calls _ _ _ _ _ _ _ AW.out).mono ?_); rintro e w' ⟨rfl, ⟨⟨n4, rfl⟩⟩⟩))
  go_ret2
  exact ⟨ret_two (HR.out.1.symm) HR.out.2.symm, by repeat (first | exact Drawn0.refl _ | apply Drawn0.step)⟩

set_option maxHeartbeats 3200000 in
set_option maxRecDepth 100000 in
theorem RMulDiv_e_true_true (a0 a1 a2 a3 r1 r2 A B C hi lo q0 q1 r : Int) (w : World) (G1 : Aside0 (accountingref02_mag.f a0 = some A)) (G2 : Aside0 (accountingref02_mag.f a1 = some B)) (G3 : Aside0 (accountingref02_mag.f a2 = some C)) (G4 : Aside0 (accountingref02_wide.f A B = some (hi, lo))) (G5 : Aside0 (accountingref02_divide.f 129 hi lo C = some (q0, q1, r))) (m1 : decide (a3 < 1) = false) (m2 : decide (5 < a3) = false) (z1 : (a2 == 0) = false) (k1 : decide (0 < q0) = false) (k2 : decide (9223372036854775808 < q1) = false) (b1 : (!((!(decide (a0 < 0) == decide (a1 < 0))) == decide (a2 < 0))) = true) (b2 : ((!(decide (a0 < 0) == decide (a1 < 0))) == decide (a2 < 0)) = false) (AW : Aside0 (accountingref02_away.f a3 true (q1.tmod 2 == 1) r C = some true)) (k3 : decide (9223372036854775808 < (IntKind.u64.wrap (q1 + 1))) = false) (k4 : ((IntKind.u64.wrap (q1 + 1)) == 9223372036854775808) = true) (HR : Aside0 ((-9223372036854775808 : Int) = r1 ∧ r2 = 0)) :
    Calls Tryd.prog 65 #[.int .i64 a0, .int .i64 a1, .int .i64 a2, .int .i64 a3] w fun e w' => e = .returned (.tuple #[.int .i64 r1, .int .i64 r2]) ∧ Drawn0 w w' := by
  go_enter Tryd.func65, Tryd.ntmps65
  go_wp2_with (first | (go_at_call 72; (with_reducible refine (accountingref02_mag.calls _ _ _ (by first | exact G1.out | exact G2.out | exact G3.out)).mono ?_); rintro e w' ⟨rfl, ⟨⟨n1, rfl⟩⟩⟩) | (go_at_call 71; (with_reducible refine (accountingref02_wide.calls _ _ _ _ _ G4.out).mono ?_); rintro e w' ⟨rfl, ⟨⟨n2, rfl⟩⟩⟩) | (go_at_call 73; (with_reducible refine (accountingref02_divide.calls 129 _ _ _ _ _ _ _ G5.out).mono ?_); rintro e w' ⟨rfl, ⟨⟨n3, rfl⟩⟩⟩) | (go_at_call 74; (with_reducible refine (accountingref02_away.calls _ _ _ _ _ _ _ AW.out).mono ?_); rintro e w' ⟨rfl, ⟨⟨n4, rfl⟩⟩⟩))
  go_ret2
  exact ⟨ret_two (HR.out.1) HR.out.2.symm, by repeat (first | exact Drawn0.refl _ | apply Drawn0.step)⟩

set_option maxHeartbeats 3200000 in
set_option maxRecDepth 100000 in
theorem RMulDiv_l_true_true (a0 a1 a2 a3 r1 r2 A B C hi lo q0 q1 r : Int) (w : World) (G1 : Aside0 (accountingref02_mag.f a0 = some A)) (G2 : Aside0 (accountingref02_mag.f a1 = some B)) (G3 : Aside0 (accountingref02_mag.f a2 = some C)) (G4 : Aside0 (accountingref02_wide.f A B = some (hi, lo))) (G5 : Aside0 (accountingref02_divide.f 129 hi lo C = some (q0, q1, r))) (m1 : decide (a3 < 1) = false) (m2 : decide (5 < a3) = false) (z1 : (a2 == 0) = false) (k1 : decide (0 < q0) = false) (k2 : decide (9223372036854775808 < q1) = false) (b1 : (!((!(decide (a0 < 0) == decide (a1 < 0))) == decide (a2 < 0))) = true) (b2 : ((!(decide (a0 < 0) == decide (a1 < 0))) == decide (a2 < 0)) = false) (AW : Aside0 (accountingref02_away.f a3 true (q1.tmod 2 == 1) r C = some true)) (k3 : decide (9223372036854775808 < (IntKind.u64.wrap (q1 + 1))) = false) (k4 : ((IntKind.u64.wrap (q1 + 1)) == 9223372036854775808) = false) (HR : Aside0 (wrap64 (-wrap64 (IntKind.u64.wrap (q1 + 1))) = r1 ∧ r2 = 0)) :
    Calls Tryd.prog 65 #[.int .i64 a0, .int .i64 a1, .int .i64 a2, .int .i64 a3] w fun e w' => e = .returned (.tuple #[.int .i64 r1, .int .i64 r2]) ∧ Drawn0 w w' := by
  go_enter Tryd.func65, Tryd.ntmps65
  go_wp2_with (first | (go_at_call 72; (with_reducible refine (accountingref02_mag.calls _ _ _ (by first | exact G1.out | exact G2.out | exact G3.out)).mono ?_); rintro e w' ⟨rfl, ⟨⟨n1, rfl⟩⟩⟩) | (go_at_call 71; (with_reducible refine (accountingref02_wide.calls _ _ _ _ _ G4.out).mono ?_); rintro e w' ⟨rfl, ⟨⟨n2, rfl⟩⟩⟩) | (go_at_call 73; (with_reducible refine (accountingref02_divide.calls 129 _ _ _ _ _ _ _ G5.out).mono ?_); rintro e w' ⟨rfl, ⟨⟨n3, rfl⟩⟩⟩) | (go_at_call 74; (with_reducible refine (accountingref02_away.calls _ _ _ _ _ _ _ AW.out).mono ?_); rintro e w' ⟨rfl, ⟨⟨n4, rfl⟩⟩⟩))
  go_ret2
  exact ⟨ret_two (HR.out.1) HR.out.2.symm, by repeat (first | exact Drawn0.refl _ | apply Drawn0.step)⟩

set_option maxHeartbeats 3200000 in
set_option maxRecDepth 100000 in
theorem RMulDiv_e_true_false (a0 a1 a2 a3 r1 r2 A B C hi lo q0 q1 r : Int) (w : World) (G1 : Aside0 (accountingref02_mag.f a0 = some A)) (G2 : Aside0 (accountingref02_mag.f a1 = some B)) (G3 : Aside0 (accountingref02_mag.f a2 = some C)) (G4 : Aside0 (accountingref02_wide.f A B = some (hi, lo))) (G5 : Aside0 (accountingref02_divide.f 129 hi lo C = some (q0, q1, r))) (m1 : decide (a3 < 1) = false) (m2 : decide (5 < a3) = false) (z1 : (a2 == 0) = false) (k1 : decide (0 < q0) = false) (k2 : decide (9223372036854775808 < q1) = false) (b1 : (!((!(decide (a0 < 0) == decide (a1 < 0))) == decide (a2 < 0))) = true) (b2 : ((!(decide (a0 < 0) == decide (a1 < 0))) == decide (a2 < 0)) = false) (AW : Aside0 (accountingref02_away.f a3 true (q1.tmod 2 == 1) r C = some false)) (k3 : decide (9223372036854775808 < q1) = false) (k4 : (q1 == 9223372036854775808) = true) (HR : Aside0 ((-9223372036854775808 : Int) = r1 ∧ r2 = 0)) :
    Calls Tryd.prog 65 #[.int .i64 a0, .int .i64 a1, .int .i64 a2, .int .i64 a3] w fun e w' => e = .returned (.tuple #[.int .i64 r1, .int .i64 r2]) ∧ Drawn0 w w' := by
  go_enter Tryd.func65, Tryd.ntmps65
  go_wp2_with (first | (go_at_call 72; (with_reducible refine (accountingref02_mag.calls _ _ _ (by first | exact G1.out | exact G2.out | exact G3.out)).mono ?_); rintro e w' ⟨rfl, ⟨⟨n1, rfl⟩⟩⟩) | (go_at_call 71; (with_reducible refine (accountingref02_wide.calls _ _ _ _ _ G4.out).mono ?_); rintro e w' ⟨rfl, ⟨⟨n2, rfl⟩⟩⟩) | (go_at_call 73; (with_reducible refine (accountingref02_divide.calls 129 _ _ _ _ _ _ _ G5.out).mono ?_); rintro e w' ⟨rfl, ⟨⟨n3, rfl⟩⟩⟩) | (go_at_call 74; (with_reducible refine (accountingref02_away.calls _ _ _ _ _ _ _ AW.out).mono ?_); rintro e w' ⟨rfl, ⟨⟨n4, rfl⟩⟩⟩))
  go_ret2
  exact ⟨ret_two (HR.out.1) HR.out.2.symm, by repeat (first | exact Drawn0.refl _ | apply Drawn0.step)⟩

set_option maxHeartbeats 3200000 in
set_option maxRecDepth 100000 in
theorem RMulDiv_l_true_false (a0 a1 a2 a3 r1 r2 A B C hi lo q0 q1 r : Int) (w : World) (G1 : Aside0 (accountingref02_mag.f a0 = some A)) (G2 : Aside0 (accountingref02_mag.f a1 = some B)) (G3 : Aside0 (accountingref02_mag.f a2 = some C)) (G4 : Aside0 (accountingref02_wide.f A B = some (hi, lo))) (G5 : Aside0 (accountingref02_divide.f 129 hi lo C = some (q0, q1, r))) (m1 : decide (a3 < 1) = false) (m2 : decide (5 < a3) = false) (z1 : (a2 == 0) = false) (k1 : decide (0 < q0) = false) (k2 : decide (9223372036854775808 < q1) = false) (b1 : (!((!(decide (a0 < 0) == decide (a1 < 0))) == decide (a2 < 0))) = true) (b2 : ((!(decide (a0 < 0) == decide (a1 < 0))) == decide (a2 < 0)) = false) (AW : Aside0 (accountingref02_away.f a3 true (q1.tmod 2 == 1) r C = some false)) (k3 : decide (9223372036854775808 < q1) = false) (k4 : (q1 == 9223372036854775808) = false) (HR : Aside0 (wrap64 (-wrap64 q1) = r1 ∧ r2 = 0)) :
    Calls Tryd.prog 65 #[.int .i64 a0, .int .i64 a1, .int .i64 a2, .int .i64 a3] w fun e w' => e = .returned (.tuple #[.int .i64 r1, .int .i64 r2]) ∧ Drawn0 w w' := by
  go_enter Tryd.func65, Tryd.ntmps65
  go_wp2_with (first | (go_at_call 72; (with_reducible refine (accountingref02_mag.calls _ _ _ (by first | exact G1.out | exact G2.out | exact G3.out)).mono ?_); rintro e w' ⟨rfl, ⟨⟨n1, rfl⟩⟩⟩) | (go_at_call 71; (with_reducible refine (accountingref02_wide.calls _ _ _ _ _ G4.out).mono ?_); rintro e w' ⟨rfl, ⟨⟨n2, rfl⟩⟩⟩) | (go_at_call 73; (with_reducible refine (accountingref02_divide.calls 129 _ _ _ _ _ _ _ G5.out).mono ?_); rintro e w' ⟨rfl, ⟨⟨n3, rfl⟩⟩⟩) | (go_at_call 74; (with_reducible refine (accountingref02_away.calls _ _ _ _ _ _ _ AW.out).mono ?_); rintro e w' ⟨rfl, ⟨⟨n4, rfl⟩⟩⟩))
  go_ret2
  exact ⟨ret_two (HR.out.1) HR.out.2.symm, by repeat (first | exact Drawn0.refl _ | apply Drawn0.step)⟩

set_option maxHeartbeats 3200000 in
set_option maxRecDepth 100000 in
theorem RMulDiv_o_false_true (a0 a1 a2 a3 r1 r2 A B C hi lo q0 q1 r : Int) (w : World) (G1 : Aside0 (accountingref02_mag.f a0 = some A)) (G2 : Aside0 (accountingref02_mag.f a1 = some B)) (G3 : Aside0 (accountingref02_mag.f a2 = some C)) (G4 : Aside0 (accountingref02_wide.f A B = some (hi, lo))) (G5 : Aside0 (accountingref02_divide.f 129 hi lo C = some (q0, q1, r))) (m1 : decide (a3 < 1) = false) (m2 : decide (5 < a3) = false) (z1 : (a2 == 0) = false) (k1 : decide (0 < q0) = false) (k2 : decide (9223372036854775808 < q1) = false) (b1 : (!((!(decide (a0 < 0) == decide (a1 < 0))) == decide (a2 < 0))) = false) (b2 : ((!(decide (a0 < 0) == decide (a1 < 0))) == decide (a2 < 0)) = true) (AW : Aside0 (accountingref02_away.f a3 false (q1.tmod 2 == 1) r C = some true)) (k3 : decide (9223372036854775808 < (IntKind.u64.wrap (q1 + 1))) = true) (HR : Aside0 (r1 = 0 ∧ r2 = 4)) :
    Calls Tryd.prog 65 #[.int .i64 a0, .int .i64 a1, .int .i64 a2, .int .i64 a3] w fun e w' => e = .returned (.tuple #[.int .i64 r1, .int .i64 r2]) ∧ Drawn0 w w' := by
  go_enter Tryd.func65, Tryd.ntmps65
  go_wp2_with (first | (go_at_call 72; (with_reducible refine (accountingref02_mag.calls _ _ _ (by first | exact G1.out | exact G2.out | exact G3.out)).mono ?_); rintro e w' ⟨rfl, ⟨⟨n1, rfl⟩⟩⟩) | (go_at_call 71; (with_reducible refine (accountingref02_wide.calls _ _ _ _ _ G4.out).mono ?_); rintro e w' ⟨rfl, ⟨⟨n2, rfl⟩⟩⟩) | (go_at_call 73; (with_reducible refine (accountingref02_divide.calls 129 _ _ _ _ _ _ _ G5.out).mono ?_); rintro e w' ⟨rfl, ⟨⟨n3, rfl⟩⟩⟩) | (go_at_call 74; (with_reducible refine (accountingref02_away.calls _ _ _ _ _ _ _ AW.out).mono ?_); rintro e w' ⟨rfl, ⟨⟨n4, rfl⟩⟩⟩))
  go_ret2
  exact ⟨ret_two (HR.out.1.symm) HR.out.2.symm, by repeat (first | exact Drawn0.refl _ | apply Drawn0.step)⟩

set_option maxHeartbeats 3200000 in
set_option maxRecDepth 100000 in
theorem RMulDiv_e_false_true (a0 a1 a2 a3 r1 r2 A B C hi lo q0 q1 r : Int) (w : World) (G1 : Aside0 (accountingref02_mag.f a0 = some A)) (G2 : Aside0 (accountingref02_mag.f a1 = some B)) (G3 : Aside0 (accountingref02_mag.f a2 = some C)) (G4 : Aside0 (accountingref02_wide.f A B = some (hi, lo))) (G5 : Aside0 (accountingref02_divide.f 129 hi lo C = some (q0, q1, r))) (m1 : decide (a3 < 1) = false) (m2 : decide (5 < a3) = false) (z1 : (a2 == 0) = false) (k1 : decide (0 < q0) = false) (k2 : decide (9223372036854775808 < q1) = false) (b1 : (!((!(decide (a0 < 0) == decide (a1 < 0))) == decide (a2 < 0))) = false) (b2 : ((!(decide (a0 < 0) == decide (a1 < 0))) == decide (a2 < 0)) = true) (AW : Aside0 (accountingref02_away.f a3 false (q1.tmod 2 == 1) r C = some true)) (k3 : decide (9223372036854775808 < (IntKind.u64.wrap (q1 + 1))) = false) (k4 : ((IntKind.u64.wrap (q1 + 1)) == 9223372036854775808) = true) (HR : Aside0 (0 = r1 ∧ r2 = 4)) :
    Calls Tryd.prog 65 #[.int .i64 a0, .int .i64 a1, .int .i64 a2, .int .i64 a3] w fun e w' => e = .returned (.tuple #[.int .i64 r1, .int .i64 r2]) ∧ Drawn0 w w' := by
  go_enter Tryd.func65, Tryd.ntmps65
  go_wp2_with (first | (go_at_call 72; (with_reducible refine (accountingref02_mag.calls _ _ _ (by first | exact G1.out | exact G2.out | exact G3.out)).mono ?_); rintro e w' ⟨rfl, ⟨⟨n1, rfl⟩⟩⟩) | (go_at_call 71; (with_reducible refine (accountingref02_wide.calls _ _ _ _ _ G4.out).mono ?_); rintro e w' ⟨rfl, ⟨⟨n2, rfl⟩⟩⟩) | (go_at_call 73; (with_reducible refine (accountingref02_divide.calls 129 _ _ _ _ _ _ _ G5.out).mono ?_); rintro e w' ⟨rfl, ⟨⟨n3, rfl⟩⟩⟩) | (go_at_call 74; (with_reducible refine (accountingref02_away.calls _ _ _ _ _ _ _ AW.out).mono ?_); rintro e w' ⟨rfl, ⟨⟨n4, rfl⟩⟩⟩))
  go_ret2
  exact ⟨ret_two (HR.out.1) HR.out.2.symm, by repeat (first | exact Drawn0.refl _ | apply Drawn0.step)⟩

set_option maxHeartbeats 3200000 in
set_option maxRecDepth 100000 in
theorem RMulDiv_l_false_true (a0 a1 a2 a3 r1 r2 A B C hi lo q0 q1 r : Int) (w : World) (G1 : Aside0 (accountingref02_mag.f a0 = some A)) (G2 : Aside0 (accountingref02_mag.f a1 = some B)) (G3 : Aside0 (accountingref02_mag.f a2 = some C)) (G4 : Aside0 (accountingref02_wide.f A B = some (hi, lo))) (G5 : Aside0 (accountingref02_divide.f 129 hi lo C = some (q0, q1, r))) (m1 : decide (a3 < 1) = false) (m2 : decide (5 < a3) = false) (z1 : (a2 == 0) = false) (k1 : decide (0 < q0) = false) (k2 : decide (9223372036854775808 < q1) = false) (b1 : (!((!(decide (a0 < 0) == decide (a1 < 0))) == decide (a2 < 0))) = false) (b2 : ((!(decide (a0 < 0) == decide (a1 < 0))) == decide (a2 < 0)) = true) (AW : Aside0 (accountingref02_away.f a3 false (q1.tmod 2 == 1) r C = some true)) (k3 : decide (9223372036854775808 < (IntKind.u64.wrap (q1 + 1))) = false) (k4 : ((IntKind.u64.wrap (q1 + 1)) == 9223372036854775808) = false) (HR : Aside0 (wrap64 (IntKind.u64.wrap (q1 + 1)) = r1 ∧ r2 = 0)) :
    Calls Tryd.prog 65 #[.int .i64 a0, .int .i64 a1, .int .i64 a2, .int .i64 a3] w fun e w' => e = .returned (.tuple #[.int .i64 r1, .int .i64 r2]) ∧ Drawn0 w w' := by
  go_enter Tryd.func65, Tryd.ntmps65
  go_wp2_with (first | (go_at_call 72; (with_reducible refine (accountingref02_mag.calls _ _ _ (by first | exact G1.out | exact G2.out | exact G3.out)).mono ?_); rintro e w' ⟨rfl, ⟨⟨n1, rfl⟩⟩⟩) | (go_at_call 71; (with_reducible refine (accountingref02_wide.calls _ _ _ _ _ G4.out).mono ?_); rintro e w' ⟨rfl, ⟨⟨n2, rfl⟩⟩⟩) | (go_at_call 73; (with_reducible refine (accountingref02_divide.calls 129 _ _ _ _ _ _ _ G5.out).mono ?_); rintro e w' ⟨rfl, ⟨⟨n3, rfl⟩⟩⟩) | (go_at_call 74; (with_reducible refine (accountingref02_away.calls _ _ _ _ _ _ _ AW.out).mono ?_); rintro e w' ⟨rfl, ⟨⟨n4, rfl⟩⟩⟩))
  go_ret2
  exact ⟨ret_two (HR.out.1) HR.out.2.symm, by repeat (first | exact Drawn0.refl _ | apply Drawn0.step)⟩

set_option maxHeartbeats 3200000 in
set_option maxRecDepth 100000 in
theorem RMulDiv_e_false_false (a0 a1 a2 a3 r1 r2 A B C hi lo q0 q1 r : Int) (w : World) (G1 : Aside0 (accountingref02_mag.f a0 = some A)) (G2 : Aside0 (accountingref02_mag.f a1 = some B)) (G3 : Aside0 (accountingref02_mag.f a2 = some C)) (G4 : Aside0 (accountingref02_wide.f A B = some (hi, lo))) (G5 : Aside0 (accountingref02_divide.f 129 hi lo C = some (q0, q1, r))) (m1 : decide (a3 < 1) = false) (m2 : decide (5 < a3) = false) (z1 : (a2 == 0) = false) (k1 : decide (0 < q0) = false) (k2 : decide (9223372036854775808 < q1) = false) (b1 : (!((!(decide (a0 < 0) == decide (a1 < 0))) == decide (a2 < 0))) = false) (b2 : ((!(decide (a0 < 0) == decide (a1 < 0))) == decide (a2 < 0)) = true) (AW : Aside0 (accountingref02_away.f a3 false (q1.tmod 2 == 1) r C = some false)) (k3 : decide (9223372036854775808 < q1) = false) (k4 : (q1 == 9223372036854775808) = true) (HR : Aside0 (0 = r1 ∧ r2 = 4)) :
    Calls Tryd.prog 65 #[.int .i64 a0, .int .i64 a1, .int .i64 a2, .int .i64 a3] w fun e w' => e = .returned (.tuple #[.int .i64 r1, .int .i64 r2]) ∧ Drawn0 w w' := by
  go_enter Tryd.func65, Tryd.ntmps65
  go_wp2_with (first | (go_at_call 72; (with_reducible refine (accountingref02_mag.calls _ _ _ (by first | exact G1.out | exact G2.out | exact G3.out)).mono ?_); rintro e w' ⟨rfl, ⟨⟨n1, rfl⟩⟩⟩) | (go_at_call 71; (with_reducible refine (accountingref02_wide.calls _ _ _ _ _ G4.out).mono ?_); rintro e w' ⟨rfl, ⟨⟨n2, rfl⟩⟩⟩) | (go_at_call 73; (with_reducible refine (accountingref02_divide.calls 129 _ _ _ _ _ _ _ G5.out).mono ?_); rintro e w' ⟨rfl, ⟨⟨n3, rfl⟩⟩⟩) | (go_at_call 74; (with_reducible refine (accountingref02_away.calls _ _ _ _ _ _ _ AW.out).mono ?_); rintro e w' ⟨rfl, ⟨⟨n4, rfl⟩⟩⟩))
  go_ret2
  exact ⟨ret_two (HR.out.1) HR.out.2.symm, by repeat (first | exact Drawn0.refl _ | apply Drawn0.step)⟩

set_option maxHeartbeats 3200000 in
set_option maxRecDepth 100000 in
theorem RMulDiv_l_false_false (a0 a1 a2 a3 r1 r2 A B C hi lo q0 q1 r : Int) (w : World) (G1 : Aside0 (accountingref02_mag.f a0 = some A)) (G2 : Aside0 (accountingref02_mag.f a1 = some B)) (G3 : Aside0 (accountingref02_mag.f a2 = some C)) (G4 : Aside0 (accountingref02_wide.f A B = some (hi, lo))) (G5 : Aside0 (accountingref02_divide.f 129 hi lo C = some (q0, q1, r))) (m1 : decide (a3 < 1) = false) (m2 : decide (5 < a3) = false) (z1 : (a2 == 0) = false) (k1 : decide (0 < q0) = false) (k2 : decide (9223372036854775808 < q1) = false) (b1 : (!((!(decide (a0 < 0) == decide (a1 < 0))) == decide (a2 < 0))) = false) (b2 : ((!(decide (a0 < 0) == decide (a1 < 0))) == decide (a2 < 0)) = true) (AW : Aside0 (accountingref02_away.f a3 false (q1.tmod 2 == 1) r C = some false)) (k3 : decide (9223372036854775808 < q1) = false) (k4 : (q1 == 9223372036854775808) = false) (HR : Aside0 (wrap64 q1 = r1 ∧ r2 = 0)) :
    Calls Tryd.prog 65 #[.int .i64 a0, .int .i64 a1, .int .i64 a2, .int .i64 a3] w fun e w' => e = .returned (.tuple #[.int .i64 r1, .int .i64 r2]) ∧ Drawn0 w w' := by
  go_enter Tryd.func65, Tryd.ntmps65
  go_wp2_with (first | (go_at_call 72; (with_reducible refine (accountingref02_mag.calls _ _ _ (by first | exact G1.out | exact G2.out | exact G3.out)).mono ?_); rintro e w' ⟨rfl, ⟨⟨n1, rfl⟩⟩⟩) | (go_at_call 71; (with_reducible refine (accountingref02_wide.calls _ _ _ _ _ G4.out).mono ?_); rintro e w' ⟨rfl, ⟨⟨n2, rfl⟩⟩⟩) | (go_at_call 73; (with_reducible refine (accountingref02_divide.calls 129 _ _ _ _ _ _ _ G5.out).mono ?_); rintro e w' ⟨rfl, ⟨⟨n3, rfl⟩⟩⟩) | (go_at_call 74; (with_reducible refine (accountingref02_away.calls _ _ _ _ _ _ _ AW.out).mono ?_); rintro e w' ⟨rfl, ⟨⟨n4, rfl⟩⟩⟩))
  go_ret2
  exact ⟨ret_two (HR.out.1) HR.out.2.symm, by repeat (first | exact Drawn0.refl _ | apply Drawn0.step)⟩

/-- What md says, as the reference reckons: the sign is asked of the factors alone. -/
theorem ref_close {a b c m A B C hi lo q0 q1 r r1 r2 : Int} (hc : c ≠ 0) (hm1 : ¬ m < 1) (hm2 : ¬ 5 < m) (hM : Rg hi ∧ Rg lo ∧ A * B = hi * 18446744073709551616 + lo) (HC : Rg C ∧ C ≠ 0)
    (N : (a.natAbs : Int) = A ∧ (b.natAbs : Int) = B ∧ (c.natAbs : Int) = C ∧ mulHi A B = hi ∧ mulLo A B = lo ∧ dq0 hi C = q0 ∧ dq1 hi lo C = q1 ∧ dr hi lo C = r) (hR : md a b c m = (r1, r2)) {nb : Bool} (hnb : nb = ((decide (a < 0) != decide (b < 0)) != decide (c < 0))) :
    Rg q0 ∧ Rg q1 ∧ 0 ≤ r ∧ r < C ∧ (¬ q0 = 0 → r1 = 0 ∧ r2 = 4) ∧ (q0 = 0 → sg nb (szd nb m q1 r C) = (r1, r2)) := by
  have k := md_close hc hm1 hm2 hM HC N hR (neg := decide (¬ (hi = 0 ∧ lo = 0)) && nb) (by rw [hnb])
  have d := (dq_all hM.1 hM.2.1 HC.1 HC.2 hM.2.2).1
  rw [N.2.2.2.2.2.1] at d
  obtain ⟨k1, k2, k3, k4, k5⟩ := k
  refine ⟨d, k1, k2, k3, k4, fun h => ?_⟩
  have k6 := k5 h
  by_cases hp : hi = 0 ∧ lo = 0
  · rw [decide_eq_false (not_not_intro hp), Bool.false_and] at k6
    obtain ⟨hp1, hp2⟩ := hp
    have q1z : q1 = 0 := by rw [← N.2.2.2.2.2.2.1, hp1, hp2]; unfold dq1; simp
    have rz : r = 0 := by rw [← N.2.2.2.2.2.2.2, hp1, hp2]; unfold dr; simp
    rw [q1z, rz] at k6 ⊢
    have s0 : ∀ neg : Bool, szd neg m 0 0 C = 0 := fun neg => by unfold szd away; rw [if_pos rfl]; rfl
    rw [s0] at k6 ⊢
    cases nb
    · exact k6
    · exact k6
  · rw [decide_eq_true hp, Bool.true_and] at k6
    exact k6

theorem wr63 (s : Int) (h0 : 0 ≤ s) (h : s < 9223372036854775808) : wrap64 s = s ∧ wrap64 (-wrap64 s) = -s := by
  unfold wrap64; omega

set_option maxHeartbeats 3200000 in
set_option maxRecDepth 100000 in
theorem RMulDiv_calls (a0 : Int) (a1 : Int) (a2 : Int) (a3 : Int) (r1 : Int) (r2 : Int) (w : World) (h : MulDiv_f a0 a1 a2 a3 = some (r1, r2)) :
    Calls Tryd.prog 65 #[.int .i64 a0, .int .i64 a1, .int .i64 a2, .int .i64 a3] w fun e w' => e = .returned (.tuple #[.int .i64 r1, .int .i64 r2]) ∧ Drawn0 w w' := by
  unfold MulDiv_f at h
  by_cases hI : I64 a0 ∧ I64 a1 ∧ I64 a2
  · rw [if_pos hI] at h
    have hR := Option.some.inj h
    clear h
    obtain ⟨ha, hb, hc⟩ := hI
    by_cases hs : a3 < 1 ∨ 5 < a3 ∨ a2 = 0
    · exact RMulDiv_small a0 a1 a2 a3 r1 r2 w hR hs
    have hm1 : ¬ a3 < 1 := fun x => hs (.inl x)
    have hm2 : ¬ 5 < a3 := fun x => hs (.inr (.inl x))
    have hc0 : ¬ a2 = 0 := fun x => hs (.inr (.inr x))
    obtain ⟨A, B, C, hi, lo, q0, q1, r, N⟩ : ∃ A B C hi lo q0 q1 r : Int, ((a0.natAbs : Int) = A ∧ (a1.natAbs : Int) = B ∧ (a2.natAbs : Int) = C ∧ mulHi A B = hi ∧ mulLo A B = lo ∧ dq0 hi C = q0 ∧ dq1 hi lo C = q1 ∧ dr hi lo C = r) := ⟨_, _, _, _, _, _, _, _, rfl, rfl, rfl, rfl, rfl, rfl, rfl, rfl⟩
    have HA : Rg A := by have := N.1; unfold I64 at ha; unfold Rg; omega
    have HB : Rg B := by have := N.2.1; unfold I64 at hb; unfold Rg; omega
    have HC : Rg C ∧ C ≠ 0 := by have := N.2.2.1; unfold I64 at hc; unfold Rg; omega
    have HM := mul_rg _ _ HA HB
    rw [N.2.2.2.1, N.2.2.2.2.1] at HM
    have m1 : decide (a3 < 1) = false := decide_eq_false hm1
    have m2 : decide (5 < a3) = false := decide_eq_false hm2
    have z1 : (a2 == 0) = false := beq_eq_false_iff_ne.mpr hc0
    have e1 : accountingref02_mag.f a0 = some A := by rw [ref_mag ha, N.1]
    have e2 : accountingref02_mag.f a1 = some B := by rw [ref_mag hb, N.2.1]
    have e3 : accountingref02_mag.f a2 = some C := by rw [ref_mag hc, N.2.2.1]
    have e4 : accountingref02_wide.f A B = some (hi, lo) := by rw [ref_wide HA HB, N.2.2.2.1, N.2.2.2.2.1]
    have e5 : accountingref02_divide.f 129 hi lo C = some (q0, q1, r) := by rw [ref_divide HM.1 HM.2.1 HC.1 HC.2, N.2.2.2.2.2.1, N.2.2.2.2.2.2.1, N.2.2.2.2.2.2.2]
    have all : ∀ nb : Bool, (!((!(decide (a0 < 0) == decide (a1 < 0))) == decide (a2 < 0))) = nb → ((!(decide (a0 < 0) == decide (a1 < 0))) == decide (a2 < 0)) = !nb →
        Rg q0 ∧ Rg q1 ∧ 0 ≤ r ∧ r < C ∧ (¬ q0 = 0 → r1 = 0 ∧ r2 = 4) ∧ (q0 = 0 → sg nb (szd nb a3 q1 r C) = (r1, r2)) := fun nb h1 _ =>
      ref_close hc0 hm1 hm2 HM HC N hR (by rw [← h1]; rfl)
    have HC1 := HC.1
    clear N HA HB HC HM hR hs hm1 hm2 hc0 ha hb hc
    have fin : ∀ nb : Bool, (!((!(decide (a0 < 0) == decide (a1 < 0))) == decide (a2 < 0))) = nb → ((!(decide (a0 < 0) == decide (a1 < 0))) == decide (a2 < 0)) = !nb → Calls Tryd.prog 65 #[.int .i64 a0, .int .i64 a1, .int .i64 a2, .int .i64 a3] w fun e w' => e = .returned (.tuple #[.int .i64 r1, .int .i64 r2]) ∧ Drawn0 w w' := fun nb b1 b2 => by
      obtain ⟨k1, k2, k3, k4, k5, k6⟩ := all nb b1 b2
      unfold Rg at k1 k2
      by_cases hq : q0 = 0
      · have k7 := k6 hq
        have d1 : decide (0 < q0) = false := decide_eq_false (by omega)
        by_cases hb : 9223372036854775808 < q1
        · have d2 : decide (9223372036854775808 < q1) = true := decide_eq_true hb
          have : r1 = 0 ∧ r2 = 4 := by
            have hz : 9223372036854775808 < szd nb a3 q1 r C := by unfold szd; split <;> omega
            unfold sg at k7
            cases nb
            · rw [if_neg (by simp), if_pos (by omega)] at k7; exact ⟨(Prod.mk.inj k7).1.symm, (Prod.mk.inj k7).2.symm⟩
            · rw [if_pos rfl, if_pos (by omega)] at k7; exact ⟨(Prod.mk.inj k7).1.symm, (Prod.mk.inj k7).2.symm⟩
          exact RMulDiv_q1 a0 a1 a2 a3 r1 r2 A B C hi lo q0 q1 r w ⟨e1⟩ ⟨e2⟩ ⟨e3⟩ ⟨e4⟩ ⟨e5⟩ m1 m2 z1 d1 d2 ⟨this⟩
        · have d2 : decide (9223372036854775808 < q1) = false := decide_eq_false hb
          have ew : IntKind.u64.wrap (q1 + 1) = q1 + 1 := wrp (by omega)
          have aw : ∀ t, away a3 nb (decide (q1 % 2 = 1)) r C = t → accountingref02_away.f a3 nb (q1.tmod 2 == 1) r C = some t := fun t ht => by rw [tmod_odd q1 k2.1, ref_away k3 k4 HC1, ht]
          cases ht : away a3 nb (decide (q1 % 2 = 1)) r C
          · have AW := aw false ht
            unfold szd at k7
            rw [ht, if_neg (by simp)] at k7
            have d3 : decide (9223372036854775808 < q1) = false := decide_eq_false (by omega)
            by_cases he : q1 = 9223372036854775808
            · have d4 : (q1 == 9223372036854775808) = true := beq_iff_eq.mpr he
              unfold sg at k7
              cases nb
              · rw [if_neg (by simp), if_pos (by omega)] at k7
                exact RMulDiv_e_false_false a0 a1 a2 a3 r1 r2 A B C hi lo q0 q1 r w ⟨e1⟩ ⟨e2⟩ ⟨e3⟩ ⟨e4⟩ ⟨e5⟩ m1 m2 z1 d1 d2 b1 b2 ⟨AW⟩ d3 d4 ⟨⟨(Prod.mk.inj k7).1, (Prod.mk.inj k7).2.symm⟩⟩
              · rw [if_pos rfl, if_neg (by omega)] at k7
                exact RMulDiv_e_true_false a0 a1 a2 a3 r1 r2 A B C hi lo q0 q1 r w ⟨e1⟩ ⟨e2⟩ ⟨e3⟩ ⟨e4⟩ ⟨e5⟩ m1 m2 z1 d1 d2 b1 b2 ⟨AW⟩ d3 d4 ⟨⟨by rw [← (Prod.mk.inj k7).1, he], (Prod.mk.inj k7).2.symm⟩⟩
            · have d4 : (q1 == 9223372036854775808) = false := beq_eq_false_iff_ne.mpr he
              have hw := wr63 q1 k2.1 (by omega)
              unfold sg at k7
              cases nb
              · rw [if_neg (by simp), if_neg (by omega)] at k7
                exact RMulDiv_l_false_false a0 a1 a2 a3 r1 r2 A B C hi lo q0 q1 r w ⟨e1⟩ ⟨e2⟩ ⟨e3⟩ ⟨e4⟩ ⟨e5⟩ m1 m2 z1 d1 d2 b1 b2 ⟨AW⟩ d3 d4 ⟨⟨by rw [hw.1]; exact (Prod.mk.inj k7).1, (Prod.mk.inj k7).2.symm⟩⟩
              · rw [if_pos rfl, if_neg (by omega)] at k7
                exact RMulDiv_l_true_false a0 a1 a2 a3 r1 r2 A B C hi lo q0 q1 r w ⟨e1⟩ ⟨e2⟩ ⟨e3⟩ ⟨e4⟩ ⟨e5⟩ m1 m2 z1 d1 d2 b1 b2 ⟨AW⟩ d3 d4 ⟨⟨by rw [hw.2]; exact (Prod.mk.inj k7).1, (Prod.mk.inj k7).2.symm⟩⟩
          · have AW := aw true ht
            unfold szd at k7
            rw [ht, if_pos rfl] at k7
            by_cases ho : 9223372036854775808 < q1 + 1
            · have d3 : decide (9223372036854775808 < IntKind.u64.wrap (q1 + 1)) = true := decide_eq_true (by rw [ew]; exact ho)
              have : r1 = 0 ∧ r2 = 4 := by
                unfold sg at k7
                cases nb
                · rw [if_neg (by simp), if_pos (by omega)] at k7; exact ⟨(Prod.mk.inj k7).1.symm, (Prod.mk.inj k7).2.symm⟩
                · rw [if_pos rfl, if_pos (by omega)] at k7; exact ⟨(Prod.mk.inj k7).1.symm, (Prod.mk.inj k7).2.symm⟩
              cases nb
              · exact RMulDiv_o_false_true a0 a1 a2 a3 r1 r2 A B C hi lo q0 q1 r w ⟨e1⟩ ⟨e2⟩ ⟨e3⟩ ⟨e4⟩ ⟨e5⟩ m1 m2 z1 d1 d2 b1 b2 ⟨AW⟩ d3 ⟨this⟩
              · exact RMulDiv_o_true_true a0 a1 a2 a3 r1 r2 A B C hi lo q0 q1 r w ⟨e1⟩ ⟨e2⟩ ⟨e3⟩ ⟨e4⟩ ⟨e5⟩ m1 m2 z1 d1 d2 b1 b2 ⟨AW⟩ d3 ⟨this⟩
            · have d3 : decide (9223372036854775808 < IntKind.u64.wrap (q1 + 1)) = false := decide_eq_false (by rw [ew]; exact ho)
              by_cases he : q1 + 1 = 9223372036854775808
              · have d4 : (IntKind.u64.wrap (q1 + 1) == 9223372036854775808) = true := beq_iff_eq.mpr (by rw [ew]; exact he)
                unfold sg at k7
                cases nb
                · rw [if_neg (by simp), if_pos (by omega)] at k7
                  exact RMulDiv_e_false_true a0 a1 a2 a3 r1 r2 A B C hi lo q0 q1 r w ⟨e1⟩ ⟨e2⟩ ⟨e3⟩ ⟨e4⟩ ⟨e5⟩ m1 m2 z1 d1 d2 b1 b2 ⟨AW⟩ d3 d4 ⟨⟨(Prod.mk.inj k7).1, (Prod.mk.inj k7).2.symm⟩⟩
                · rw [if_pos rfl, if_neg (by omega)] at k7
                  exact RMulDiv_e_true_true a0 a1 a2 a3 r1 r2 A B C hi lo q0 q1 r w ⟨e1⟩ ⟨e2⟩ ⟨e3⟩ ⟨e4⟩ ⟨e5⟩ m1 m2 z1 d1 d2 b1 b2 ⟨AW⟩ d3 d4 ⟨⟨by rw [← (Prod.mk.inj k7).1, he], (Prod.mk.inj k7).2.symm⟩⟩
              · have d4 : (IntKind.u64.wrap (q1 + 1) == 9223372036854775808) = false := beq_eq_false_iff_ne.mpr (by rw [ew]; exact he)
                have hw := wr63 (q1 + 1) (by omega) (by omega)
                unfold sg at k7
                cases nb
                · rw [if_neg (by simp), if_neg (by omega)] at k7
                  exact RMulDiv_l_false_true a0 a1 a2 a3 r1 r2 A B C hi lo q0 q1 r w ⟨e1⟩ ⟨e2⟩ ⟨e3⟩ ⟨e4⟩ ⟨e5⟩ m1 m2 z1 d1 d2 b1 b2 ⟨AW⟩ d3 d4 ⟨⟨by rw [ew, hw.1]; exact (Prod.mk.inj k7).1, (Prod.mk.inj k7).2.symm⟩⟩
                · rw [if_pos rfl, if_neg (by omega)] at k7
                  exact RMulDiv_l_true_true a0 a1 a2 a3 r1 r2 A B C hi lo q0 q1 r w ⟨e1⟩ ⟨e2⟩ ⟨e3⟩ ⟨e4⟩ ⟨e5⟩ m1 m2 z1 d1 d2 b1 b2 ⟨AW⟩ d3 d4 ⟨⟨by rw [ew, hw.2]; exact (Prod.mk.inj k7).1, (Prod.mk.inj k7).2.symm⟩⟩
      · exact RMulDiv_q0 a0 a1 a2 a3 r1 r2 A B C hi lo q0 q1 r w ⟨e1⟩ ⟨e2⟩ ⟨e3⟩ ⟨e4⟩ ⟨e5⟩ m1 m2 z1 (decide_eq_true (by omega)) ⟨k5 hq⟩
    cases hnb : (!((!(decide (a0 < 0) == decide (a1 < 0))) == decide (a2 < 0)))
    · exact fin false hnb (by simpa using hnb)
    · exact fin true hnb (by simpa using hnb)
  · rw [if_neg hI] at h; cases h

end Go.Proofs.YticcaknflnldgaaDoor.Md
