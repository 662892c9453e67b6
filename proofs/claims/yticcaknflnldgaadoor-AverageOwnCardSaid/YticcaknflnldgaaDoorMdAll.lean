/- muldiv.MulDiv returns what the plain function md says; no condition but that the arguments are integers of 64 bits. -/
import Derived.Test.YticcaknflnldgaaDoorMdTopz
import Derived.Test.YticcaknflnldgaaDoorMdTopn
import Derived.Test.YticcaknflnldgaaDoorMdCmp
namespace Go.Proofs.YticcaknflnldgaaDoor.Md
open Go.RowKit Go.Proofs.YticcaknflnldgaaDoorW.PrintWords Go.Proofs.YticcaknflnldgaaDoorW.PrintLast Go.Proofs.YticcaknflnldgaaDoor.M
set_option linter.unusedVariables false
set_option linter.unusedSimpArgs false

set_option maxHeartbeats 3200000 in
set_option maxRecDepth 100000 in
theorem MulDiv_calls (a0 : Int) (a1 : Int) (a2 : Int) (a3 : Int) (r1 : Int) (r2 : Int) (w : World) (h : MulDiv_f a0 a1 a2 a3 = some (r1, r2)) :
    Calls Tryd.prog 69 #[.int .i64 a0, .int .i64 a1, .int .i64 a2, .int .i64 a3] w fun e w' => e = .returned (.tuple #[.int .i64 r1, .int .i64 r2]) ∧ Below w.heap.size w w' := by
  unfold MulDiv_f at h
  by_cases hI : I64 a0 ∧ I64 a1 ∧ I64 a2
  · rw [if_pos hI] at h
    have hR := Option.some.inj h
    clear h
    obtain ⟨ha, hb, hc⟩ := hI
    by_cases hs : a3 < 1 ∨ 5 < a3 ∨ a2 = 0
    · exact MulDiv_small a0 a1 a2 a3 r1 r2 w hR hs
    have hm1 : ¬ a3 < 1 := fun x => hs (.inl x)
    have hm2 : ¬ 5 < a3 := fun x => hs (.inr (.inl x))
    have hc0 : ¬ a2 = 0 := fun x => hs (.inr (.inr x))
    obtain ⟨A, B, C, hi, lo, q0, q1, r, N⟩ : ∃ A B C hi lo q0 q1 r : Int, ((a0.natAbs : Int) = A ∧ (a1.natAbs : Int) = B ∧ (a2.natAbs : Int) = C ∧ mulHi A B = hi ∧ mulLo A B = lo ∧ dq0 hi C = q0 ∧ dq1 hi lo C = q1 ∧ dr hi lo C = r) := ⟨_, _, _, _, _, _, _, _, rfl, rfl, rfl, rfl, rfl, rfl, rfl, rfl⟩
    have HA : Rg A := by have := N.1; unfold I64 at ha; unfold Rg; omega
    have HB : Rg B := by have := N.2.1; unfold I64 at hb; unfold Rg; omega
    have HC : Rg C ∧ C ≠ 0 := by have := N.2.2.1; unfold I64 at hc; unfold Rg; omega
    have HM := mul_rg _ _ HA HB
    rw [N.2.2.2.1, N.2.2.2.2.1] at HM
    have m1 : decide (a3 < 1) = false := decide_eq_false hm1
    have m2 : decide (5 < a3) = false := decide_eq_false hm2
    have z1 : (a2 == 0) = false := beq_eq_false_iff_ne.mpr hc0
    have key : ∀ nb : Bool, nb = (decide (¬ (hi = 0 ∧ lo = 0)) && ((decide (a0 < 0) != decide (a1 < 0)) != decide (a2 < 0))) →
        ((q0 == 0) = false ∧ (q0 != 0) = true ∧ r1 = 0 ∧ r2 = 4) ∨
        (((q0 == 0) = true ∧ (q0 != 0) = false) ∧ (
          (muldiv_away.f a3 nb (q1.tmod 2 == 1) r C = some false ∧ muldiv_signed.f nb q1 = some (r1, r2)) ∨
          (muldiv_away.f a3 nb (q1.tmod 2 == 1) r C = some true ∧ (IntKind.u64.wrap (q1 + 1) == 0) = true ∧ r1 = 0 ∧ r2 = 4) ∨
          (muldiv_away.f a3 nb (q1.tmod 2 == 1) r C = some true ∧ (IntKind.u64.wrap (q1 + 1) == 0) = false ∧ muldiv_signed.f nb (IntKind.u64.wrap (q1 + 1)) = some (r1, r2)))) := fun nb hnb => by
      have k := md_close hc0 hm1 hm2 HM HC N hR hnb
      obtain ⟨k1, k2, k3, k4, k5⟩ := k
      by_cases hq : q0 = 0
      · refine .inr ⟨⟨beq_iff_eq.mpr hq, bne_eq_false_iff_eq.mpr hq⟩, ?_⟩
        have k6 := k5 hq
        rw [tmod_odd q1 k1.1, muldiv_away_is k2 k3 HC.1]
        unfold szd at k6
        cases ht : away a3 nb (decide (q1 % 2 = 1)) r C
        · rw [ht, if_neg (by simp)] at k6
          exact .inl ⟨rfl, by rw [muldiv_signed_is nb q1 k1, k6]⟩
        · rw [ht, if_pos rfl] at k6
          right
          unfold Rg at k1
          by_cases ho : q1 + 1 = 18446744073709551616
          · left
            rw [ho, sg_top] at k6
            refine ⟨rfl, ?_, (Prod.mk.inj k6).1.symm, (Prod.mk.inj k6).2.symm⟩
            rw [IntKind.wrap_u64, ho]; rfl
          · right
            have e : IntKind.u64.wrap (q1 + 1) = q1 + 1 := wrp (by omega)
            rw [e]
            refine ⟨rfl, beq_eq_false_iff_ne.mpr (by omega), ?_⟩
            rw [muldiv_signed_is nb (q1 + 1) (by unfold Rg; omega), k6]
      · exact .inl ⟨beq_eq_false_iff_ne.mpr hq, bne_iff_ne.mpr hq, (k4 hq).1, (k4 hq).2⟩
    by_cases hp : hi = 0 ∧ lo = 0
    · have hp1 : (!hi == 0 || !lo == 0) = false := by rw [hp.1, hp.2]; rfl
      have k := key false (by rw [decide_eq_false (not_not_intro hp)]; rfl)
      clear key hR
      rcases k with ⟨k1, k2, k3, k4⟩ | ⟨⟨k1, k2⟩, ⟨k3, k4⟩ | ⟨k3, k4, k5, k6⟩ | ⟨k3, k4, k5⟩⟩
      · exact MulDiv_over_z a0 a1 a2 a3 r1 r2 A B C hi lo q0 q1 r w ⟨N⟩ ⟨HA⟩ ⟨HB⟩ ⟨HC⟩ ⟨HM⟩ ⟨ha⟩ ⟨hb⟩ ⟨hc⟩ m1 m2 z1 hp1 k1 k2 ⟨⟨k3, k4⟩⟩
      · exact MulDiv_keep_z a0 a1 a2 a3 r1 r2 A B C hi lo q0 q1 r w ⟨N⟩ ⟨HA⟩ ⟨HB⟩ ⟨HC⟩ ⟨HM⟩ ⟨ha⟩ ⟨hb⟩ ⟨hc⟩ m1 m2 z1 hp1 k1 k2 ⟨k3⟩ ⟨k4⟩
      · exact MulDiv_full_z a0 a1 a2 a3 r1 r2 A B C hi lo q0 q1 r w ⟨N⟩ ⟨HA⟩ ⟨HB⟩ ⟨HC⟩ ⟨HM⟩ ⟨ha⟩ ⟨hb⟩ ⟨hc⟩ m1 m2 z1 hp1 k1 k2 ⟨k3⟩ k4 ⟨⟨k5, k6⟩⟩
      · exact MulDiv_more_z a0 a1 a2 a3 r1 r2 A B C hi lo q0 q1 r w ⟨N⟩ ⟨HA⟩ ⟨HB⟩ ⟨HC⟩ ⟨HM⟩ ⟨ha⟩ ⟨hb⟩ ⟨hc⟩ m1 m2 z1 hp1 k1 k2 ⟨k3⟩ k4 ⟨k5⟩
    · have hp1 : (!hi == 0 || !lo == 0) = true := by
        by_cases h1 : hi = 0
        · by_cases h2 : lo = 0
          · exact absurd ⟨h1, h2⟩ hp
          · simp [h2]
        · simp [h1]
      have k := key (!((!(decide (a0 < 0) == decide (a1 < 0))) == decide (a2 < 0))) (by rw [decide_eq_true hp, Bool.true_and]; rfl)
      clear key hR
      rcases k with ⟨k1, k2, k3, k4⟩ | ⟨⟨k1, k2⟩, ⟨k3, k4⟩ | ⟨k3, k4, k5, k6⟩ | ⟨k3, k4, k5⟩⟩
      · exact MulDiv_over_n a0 a1 a2 a3 r1 r2 A B C hi lo q0 q1 r w ⟨N⟩ ⟨HA⟩ ⟨HB⟩ ⟨HC⟩ ⟨HM⟩ ⟨ha⟩ ⟨hb⟩ ⟨hc⟩ m1 m2 z1 hp1 k1 k2 ⟨⟨k3, k4⟩⟩
      · exact MulDiv_keep_n a0 a1 a2 a3 r1 r2 A B C hi lo q0 q1 r w ⟨N⟩ ⟨HA⟩ ⟨HB⟩ ⟨HC⟩ ⟨HM⟩ ⟨ha⟩ ⟨hb⟩ ⟨hc⟩ m1 m2 z1 hp1 k1 k2 ⟨k3⟩ ⟨k4⟩
      · exact MulDiv_full_n a0 a1 a2 a3 r1 r2 A B C hi lo q0 q1 r w ⟨N⟩ ⟨HA⟩ ⟨HB⟩ ⟨HC⟩ ⟨HM⟩ ⟨ha⟩ ⟨hb⟩ ⟨hc⟩ m1 m2 z1 hp1 k1 k2 ⟨k3⟩ k4 ⟨⟨k5, k6⟩⟩
      · exact MulDiv_more_n a0 a1 a2 a3 r1 r2 A B C hi lo q0 q1 r w ⟨N⟩ ⟨HA⟩ ⟨HB⟩ ⟨HC⟩ ⟨HM⟩ ⟨ha⟩ ⟨hb⟩ ⟨hc⟩ m1 m2 z1 hp1 k1 k2 ⟨k3⟩ k4 ⟨k5⟩
  · rw [if_neg hI] at h; cases h
end Go.Proofs.YticcaknflnldgaaDoor.Md
