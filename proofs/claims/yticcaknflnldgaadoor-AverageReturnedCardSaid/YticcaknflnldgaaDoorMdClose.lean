/- What closes the walks of muldiv.Mod, Cmp and MulDiv: plain mathematics over what multiply, divide and compare return; no condition but that numbers are of their kinds. -/
import Derived.Test.YticcaknflnldgaaDoorMdDiv
import Derived.Laws.StructEq
namespace Go.Proofs.YticcaknflnldgaaDoor.Md
open Go.RowKit Go.Proofs.YticcaknflnldgaaDoorW.PrintWords
set_option linter.unusedVariables false
set_option linter.unusedSimpArgs false

theorem ret_two {k k' : IntKind} {a b c d : Int} (h1 : a = c) (h2 : b = d) : Ending.returned (.tuple #[.int k a, .int k' b]) = .returned (.tuple #[.int k c, .int k' d]) := by rw [h1, h2]

theorem mod_close {a b c A B C hi lo q0 q1 r r1 r2 : Int} (hc : c ≠ 0) (hC : I64 c) (hM : Rg hi ∧ Rg lo ∧ A * B = hi * 18446744073709551616 + lo) (HC : Rg C ∧ C ≠ 0)
    (N : (a.natAbs : Int) = A ∧ (b.natAbs : Int) = B ∧ (c.natAbs : Int) = C ∧ mulHi A B = hi ∧ mulLo A B = lo ∧ dq0 hi C = q0 ∧ dq1 hi lo C = q1 ∧ dr hi lo C = r) (hR : mdMod a b c = (r1, r2)) :
    r2 = 0 ∧ (r = 0 → (0 : Int) = r1) ∧ (¬ r = 0 → (!decide (a < 0) == decide (b < 0)) = true → wrap64 (IntKind.u64.wrap (C - r)) = r1) ∧ ((!decide (a < 0) == decide (b < 0)) = false → wrap64 r = r1) := by
  obtain ⟨n1, n2, n3, n4, n5, n6, n7, n8⟩ := N
  have d := dq_all hM.1 hM.2.1 HC.1 HC.2 hM.2.2
  unfold mdMod at hR
  rw [if_neg hc] at hR
  simp only [n1, n2, n3, d.2.2.2.1, n8, Prod.mk.injEq] at hR
  obtain ⟨h1, h2⟩ := hR
  rw [n8] at d
  have hb := d.2.2.2.2
  unfold I64 at hC
  refine ⟨h2.symm, fun h => ?_, fun h0 h => ?_, fun h => ?_⟩
  · rw [if_neg (fun hh => hh.1 h)] at h1
    omega
  · have h' : (decide (a < 0) != decide (b < 0)) = true := h
    rw [if_pos ⟨h0, h'⟩] at h1
    unfold wrap64; rw [IntKind.wrap_u64]; omega
  · have h' : ¬ (decide (a < 0) != decide (b < 0)) = true := by intro hh; have : (!decide (a < 0) == decide (b < 0)) = true := hh; rw [h] at this; cases this
    rw [if_neg (fun hh => h' hh.2)] at h1
    unfold wrap64; omega

theorem prod_sign (a b : Int) : (dir a b = 0 ∧ a * b = 0 ∧ (a.natAbs : Int) * b.natAbs = 0) ∨ (dir a b = -1 ∧ a * b = -((a.natAbs : Int) * b.natAbs) ∧ 0 < (a.natAbs : Int) * b.natAbs) ∨ (dir a b = 1 ∧ a * b = (a.natAbs : Int) * b.natAbs ∧ 0 < (a.natAbs : Int) * b.natAbs) := by
  unfold dir
  by_cases h1 : a = 0
  · subst h1; left; simp
  by_cases h2 : b = 0
  · subst h2; left; simp
  rw [if_neg h1, if_neg h2]
  by_cases h3 : a < 0 <;> by_cases h4 : b < 0
  · right; right
    have e1 : (a.natAbs : Int) = -a := by omega
    have e2 : (b.natAbs : Int) = -b := by omega
    rw [e1, e2]
    refine ⟨by simp [h3, h4], by grind, Int.mul_pos (by omega) (by omega)⟩
  · right; left
    have e1 : (a.natAbs : Int) = -a := by omega
    have e2 : (b.natAbs : Int) = b := by omega
    rw [e1, e2]
    refine ⟨by simp [h3, h4], by grind, Int.mul_pos (by omega) (by omega)⟩
  · right; left
    have e1 : (a.natAbs : Int) = a := by omega
    have e2 : (b.natAbs : Int) = -b := by omega
    rw [e1, e2]
    refine ⟨by simp [h3, h4], by grind, Int.mul_pos (by omega) (by omega)⟩
  · right; right
    have e1 : (a.natAbs : Int) = a := by omega
    have e2 : (b.natAbs : Int) = b := by omega
    rw [e1, e2]
    refine ⟨by simp [h3, h4], by grind, Int.mul_pos (by omega) (by omega)⟩

theorem cmp2_num {a b c d : Int} (ha : Rg a) (hb : Rg b) (hc : Rg c) (hd : Rg d) :
    cmp2 a b c d = if a * 18446744073709551616 + b < c * 18446744073709551616 + d then -1 else if a * 18446744073709551616 + b = c * 18446744073709551616 + d then 0 else 1 := by
  unfold Rg at *
  unfold cmp2
  split <;> (try split) <;> (try split) <;> (try split) <;> (try split) <;> omega

theorem cmp_close {a b c d A B C D hi lo hj lp s t r : Int} (h1 : Rg hi ∧ Rg lo ∧ A * B = hi * 18446744073709551616 + lo) (h2 : Rg hj ∧ Rg lp ∧ C * D = hj * 18446744073709551616 + lp)
    (N : (a.natAbs : Int) = A ∧ (b.natAbs : Int) = B ∧ (c.natAbs : Int) = C ∧ (d.natAbs : Int) = D ∧ dir a b = s ∧ dir c d = t) (hR : mdCmp a b c d = r) :
    (s < t → -1 = r) ∧ (t < s → 1 = r) ∧ (s = t → s < 0 → cmp2 hj lp hi lo = r) ∧ (s = t → ¬ s < 0 → cmp2 hi lo hj lp = r) := by
  obtain ⟨n1, n2, n3, n4, n5, n6⟩ := N
  have p1 := prod_sign a b
  have p2 := prod_sign c d
  rw [n1, n2, n5, h1.2.2] at p1
  rw [n3, n4, n6, h2.2.2] at p2
  rw [cmp2_num h1.1 h1.2.1 h2.1 h2.2.1, cmp2_num h2.1 h2.2.1 h1.1 h1.2.1]
  unfold mdCmp at hR
  have g1 := h1.1; have g2 := h1.2.1; have g3 := h2.1; have g4 := h2.2.1
  unfold Rg at g1 g2 g3 g4
  generalize a * b = x at *
  generalize c * d = y at *
  clear h1 h2 n1 n2 n3 n4 n5 n6
  subst hR
  refine ⟨fun h => ?_, fun h => ?_, fun h h' => ?_, fun h h' => ?_⟩
  · rw [if_pos (by omega)]
  · rw [if_neg (by omega), if_neg (by omega)]
  · split <;> (try split) <;> (try split) <;> (try split) <;> omega
  · split <;> (try split) <;> (try split) <;> (try split) <;> omega


/-- The size of the quotient, rounded. -/
def szd (neg : Bool) (m q r C : Int) : Int := if away m neg (decide (q % 2 = 1)) r C = true then q + 1 else q
theorem md_close {a b c m A B C hi lo q0 q1 r r1 r2 : Int} (hc : c ≠ 0) (hm1 : ¬ m < 1) (hm2 : ¬ 5 < m) (hM : Rg hi ∧ Rg lo ∧ A * B = hi * 18446744073709551616 + lo) (HC : Rg C ∧ C ≠ 0)
    (N : (a.natAbs : Int) = A ∧ (b.natAbs : Int) = B ∧ (c.natAbs : Int) = C ∧ mulHi A B = hi ∧ mulLo A B = lo ∧ dq0 hi C = q0 ∧ dq1 hi lo C = q1 ∧ dr hi lo C = r) (hR : md a b c m = (r1, r2))
    {neg : Bool} (hneg : neg = (decide (¬ (hi = 0 ∧ lo = 0)) && ((decide (a < 0) != decide (b < 0)) != decide (c < 0)))) :
    Rg q1 ∧ 0 ≤ r ∧ r < C ∧ (¬ q0 = 0 → r1 = 0 ∧ r2 = 4) ∧ (q0 = 0 → sg neg (szd neg m q1 r C) = (r1, r2)) := by
  obtain ⟨n1, n2, n3, n4, n5, n6, n7, n8⟩ := N
  have d := dq_all hM.1 hM.2.1 HC.1 HC.2 hM.2.2
  unfold md at hR
  rw [if_neg (by omega), if_neg hc] at hR
  simp only [n1, n2, n3, d.2.2.1, d.2.2.2.1, n6, n7, n8] at hR
  rw [n6, n7, n8] at d
  obtain ⟨d1, d2, d3, d4, d5, d6⟩ := d
  have hP : (decide (A * B ≠ 0)) = decide (¬ (hi = 0 ∧ lo = 0)) := by
    have g1 := hM.1; have g2 := hM.2.1; unfold Rg at g1 g2
    rw [hM.2.2]
    apply decide_eq_decide.mpr
    omega
  rw [hP, ← hneg] at hR
  unfold Rg at d1 d2
  refine ⟨d2, d5, d6, fun h => ?_, fun h => ?_⟩
  · have hbig : ∀ s : Int, s ≥ 18446744073709551616 → sg neg s = (0, 4) := fun s hs => by
      unfold sg
      cases neg
      · rw [if_neg (by simp), if_pos (by omega)]
      · rw [if_pos rfl, if_pos (by omega)]
    rw [hbig _ (by split <;> omega)] at hR
    exact ⟨(Prod.mk.inj hR).1.symm, (Prod.mk.inj hR).2.symm⟩
  · subst h
    have e : (0 : Int) * 18446744073709551616 + q1 = q1 := by omega
    rw [e] at hR
    exact hR
theorem sg_top (neg : Bool) : sg neg 18446744073709551616 = (0, 4) := by
  unfold sg; cases neg <;> rfl

/-- '==' of two doubles, as one Bool. -/
theorem eqArr2 (d : Nat) (a b c e : Int) (w : World) : (Op.equalIn (d + 2) 64 (.agg #[.int .u64 a, .int .u64 b]) (.agg #[.int .u64 c, .int .u64 e])).run Tryd.prog w = .ok (a == c && b == e) w := by
  have hs : ∀ w, (sizeOf 62).run Tryd.prog w = .ok 1 w := fun _ => by kernel_rfl
  have h0 : ∀ (x y : Value) w, (part 62 #[x, y] 0).run Tryd.prog w = .ok x w := fun _ _ _ => by kernel_rfl
  have h1 : ∀ (x y : Value) w, (part 62 #[x, y] 1).run Tryd.prog w = .ok y w := fun _ _ _ => by kernel_rfl
  have he : ∀ (x y : Int) w, (Op.equalIn (d + 1) 62 (.int .u64 x) (.int .u64 y)).run Tryd.prog w = .ok (x == y) w := fun x y w => run_equalIn_int w d 62 .u64 .u64 x y Tryd.underlying62
  rw [Op.equalIn]
  simp only [Sem.run_bind, run_underlying Tryd.underlying64, Result.andThen_ok, hs]
  have hr : ∀ (β : Type) (init : β) (f : Nat → β → Sem (ForInStep β)), (forIn [:2] init f : Sem β) = forIn [0, 1] init f := fun β init f => by
    rw [Std.Legacy.Range.forIn_eq_forIn_range']; rfl
  rw [hr]
  simp only [List.forIn_cons, List.forIn_nil, Sem.run_bind, Nat.zero_mul, Nat.one_mul, h0, Result.andThen_ok, he]
  cases h : (a == c) <;> cases h2 : (b == e) <;> simp [h, h2, h1, he]
theorem neqZero (a b : Int) (w : World) : (Op.equalIn 10000 64 (.agg #[.int .u64 a, .int .u64 b]) (.agg #[.int .u64 0, .int .u64 0])).run Tryd.prog w = .ok (a == 0 && b == 0) w := eqArr2 9998 a b 0 0 w
end Go.Proofs.YticcaknflnldgaaDoor.Md
