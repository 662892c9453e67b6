/- What the reference's mag, wide, divide, Mod, Cmp and sign come to: the same plain functions as the program's; no condition but that the numbers are of their kinds. -/
import Derived.Test.YticcaknflnldgaaDoorMdAll
import Derived.Test.YticcaknflnldgaaDoorRx1
namespace Go.Proofs.YticcaknflnldgaaDoor.Md
open Go.RowKit Go.Proofs.YticcaknflnldgaaDoorW.PrintWords Go.Proofs.YticcaknflnldgaaDoorW.PrintLast Go.Proofs.YticcaknflnldgaaDoor.R
set_option linter.unusedVariables false
set_option linter.unusedSimpArgs false

theorem ref_mag {a : Int} (h : I64 a) : accountingref02_mag.f a = some (a.natAbs : Int) := by
  unfold I64 at h
  unfold accountingref02_mag.f
  by_cases c : a < 0
  · rw [if_pos c]
    have e1 : wrap64 (a + 1) = a + 1 := by unfold wrap64; omega
    have e2 : wrap64 (-(a + 1)) = -(a + 1) := by unfold wrap64; omega
    rw [e1, e2]
    have e3 : IntKind.u64.wrap (-(a + 1)) = -(a + 1) := wrp (by omega)
    rw [e3, wrp (by omega)]
    congr 1; omega
  · rw [if_neg c, wrp (by omega)]
    congr 1; omega

theorem ref_wide {a b : Int} (ha : Rg a) (hb : Rg b) : accountingref02_wide.f a b = some (mulHi a b, mulLo a b) := by
  have s := school a b ha hb
  simp only [] at s
  obtain ⟨s1, s2, s3, s4, s5, s6, s7, s8, s9⟩ := s
  obtain ⟨m1, m2, _⟩ := mul_rg a b ha hb
  unfold accountingref02_wide.f
  have t1 : ∀ x : Int, 0 ≤ x → Int.tdiv x 4294967296 = x / 4294967296 := fun x h => Int.tdiv_eq_ediv_of_nonneg h
  have t2 : ∀ x : Int, 0 ≤ x → Int.tmod x 4294967296 = x % 4294967296 := fun x h => Int.tmod_eq_emod_of_nonneg h
  have ha' := ha; have hb' := hb
  unfold Rg at ha' hb'
  rw [t1 a ha.1, t1 b hb.1, t2 a ha.1, t2 b hb.1]
  rw [wrp (show 0 ≤ a / 4294967296 ∧ a / 4294967296 < 18446744073709551616 by omega), wrp (show 0 ≤ b / 4294967296 ∧ b / 4294967296 < 18446744073709551616 by omega)]
  rw [wrp s1, wrp s2, t1 _ s1.1, t2 _ s1.1]
  have g1 : ∀ x : Int, (0 ≤ x ∧ x < 18446744073709551616) → (0 ≤ x / 4294967296 ∧ x / 4294967296 < 18446744073709551616) := fun x h => by omega
  rw [wrp (g1 _ s1), wrp s3, t1 _ s3.1, t2 _ s3.1, wrp (g1 _ s3), wrp s4, wrp s5, t1 _ s5.1, t2 _ s5.1, wrp (g1 _ s5), wrp s6, wrp s7, s8, wrp m1]
  have e : ∀ x : Int, IntKind.u64.wrap (x % 4294967296 * 4294967296) = x % 4294967296 * 4294967296 := fun x => by rw [IntKind.wrap_u64]; omega
  rw [e, s9, wrp m2]

/-- One round of the reference's division. -/
theorem ref_round {c hi lo qh ql n : Int} (hc : Rg c) (hc0 : 0 < c) (h1 : Rg hi) (h2 : Rg lo) (h3 : Rg ql) (h4 : Rg qh) (hn0 : 0 ≤ n) (hn : n < 170141183460469231731687303715884105728)
    (hq : qh * 18446744073709551616 + ql = n / c) :
    let bit := hi / 9223372036854775808
    let hi' := IntKind.u64.wrap (IntKind.u64.wrap (2 * hi) + IntKind.u64.wrap (Int.tdiv lo 9223372036854775808))
    let lo' := IntKind.u64.wrap (2 * lo)
    let qh' := IntKind.u64.wrap (IntKind.u64.wrap (2 * qh) + IntKind.u64.wrap (Int.tdiv ql 9223372036854775808))
    let rn := IntKind.u64.wrap (IntKind.u64.wrap (2 * (n % c)) + IntKind.u64.wrap (Int.tdiv hi 9223372036854775808))
    (0 ≤ bit ∧ bit ≤ 1) ∧ Rg hi' ∧ Rg lo' ∧ Rg qh' ∧ hi' * 18446744073709551616 + lo' = 2 * (hi * 18446744073709551616 + lo) - bit * 340282366920938463463374607431768211456 ∧
    ((n % c ≥ 9223372036854775808 ∨ rn ≥ c) → Rg (IntKind.u64.wrap (IntKind.u64.wrap (2 * ql) + 1)) ∧ qh' * 18446744073709551616 + IntKind.u64.wrap (IntKind.u64.wrap (2 * ql) + 1) = (2 * n + bit) / c ∧ IntKind.u64.wrap (rn - c) = (2 * n + bit) % c) ∧
    (¬ n % c ≥ 9223372036854775808 → ¬ rn ≥ c → Rg (IntKind.u64.wrap (2 * ql)) ∧ qh' * 18446744073709551616 + IntKind.u64.wrap (2 * ql) = (2 * n + bit) / c ∧ rn = (2 * n + bit) % c) := by
  have t1 : ∀ x : Int, 0 ≤ x → Int.tdiv x 9223372036854775808 = x / 9223372036854775808 := fun x h => Int.tdiv_eq_ediv_of_nonneg h
  intro bit hi' lo' qh' rn
  have ehi : hi' = (2 * hi % 18446744073709551616 + lo / 9223372036854775808) % 18446744073709551616 := by
    show IntKind.u64.wrap _ = _
    rw [t1 lo h2.1]; simp only [IntKind.wrap_u64]; unfold Rg at h2; omega
  have elo : lo' = 2 * lo % 18446744073709551616 := IntKind.wrap_u64 _
  have eqh : qh' = (2 * qh % 18446744073709551616 + ql / 9223372036854775808) % 18446744073709551616 := by
    show IntKind.u64.wrap _ = _
    rw [t1 ql h3.1]; simp only [IntKind.wrap_u64]; unfold Rg at h3; omega
  have ern : rn = (2 * (n % c) % 18446744073709551616 + hi / 9223372036854775808) % 18446744073709551616 := by
    show IntKind.u64.wrap _ = _
    rw [t1 hi h1.1]; simp only [IntKind.wrap_u64]; unfold Rg at h1; omega
  have ebit : bit = hi / 9223372036854775808 := rfl
  clear_value hi' lo' qh' rn bit
  have hr0 := Int.emod_nonneg n (show c ≠ 0 by omega)
  have hr1 := Int.emod_lt_of_pos n hc0
  have hd := Int.emod_add_mul_ediv n c
  have hQ : n / c ≤ n := Int.ediv_le_self c hn0
  have key : ∀ t : Int, (t = 0 ∨ t = 1) → 0 ≤ 2 * (n % c) + bit - t * c → 2 * (n % c) + bit - t * c < c → (2 * n + bit) / c = 2 * (n / c) + t ∧ (2 * n + bit) % c = 2 * (n % c) + bit - t * c := fun t ht g0 g1 => by
    refine div_is hc0 ?_ g0 g1
    generalize n % c = r at *
    generalize n / c = q at *
    subst hd
    grind
  unfold Rg at *
  generalize n % c = r at *
  generalize n / c = q at *
  rw [IntKind.wrap_u64 (rn - c), IntKind.wrap_u64 (_ + 1), IntKind.wrap_u64 (2 * ql)]
  refine ⟨by omega, by omega, by omega, by omega, by omega, fun hg => ?_, fun hg1 hg2 => ?_⟩
  · obtain ⟨k1, k2⟩ := key 1 (.inr rfl) (by omega) (by omega)
    rw [k1, k2]
    refine ⟨by omega, by omega, by omega⟩
  · obtain ⟨k1, k2⟩ := key 0 (.inl rfl) (by omega) (by omega)
    rw [k1, k2]
    refine ⟨by omega, by omega, by omega⟩

theorem pow2_succ (d : Nat) : (2 : Int) ^ (d + 1) = 2 * 2 ^ d := by rw [Int.pow_succ]; omega
theorem pow2_128 (d : Nat) (h : d ≤ 128) : (2 : Int) ^ d * 2 ^ (128 - d) = 340282366920938463463374607431768211456 := by
  rw [← Int.pow_add, show d + (128 - d) = 128 by omega]; rfl

theorem ref_loop (c : Int) (hc : Rg c) (hc0 : 0 < c) (d : Nat) : ∀ (k : Nat) (hi lo qh ql n : Int), d ≤ 128 → d < k → Rg hi → Rg lo → Rg qh → Rg ql → 0 ≤ n → n < 2 ^ (128 - d) → qh * 18446744073709551616 + ql = n / c →
    ∃ qh' ql' : Int, accountingref02_divide.l0 k hi lo c qh ql (n % c) (128 - (d : Int)) = some (qh', ql', (n * 2 ^ d + (hi * 18446744073709551616 + lo) / 2 ^ (128 - d)) % c) ∧ Rg qh' ∧ Rg ql' ∧
      qh' * 18446744073709551616 + ql' = (n * 2 ^ d + (hi * 18446744073709551616 + lo) / 2 ^ (128 - d)) / c := by
  induction d with
  | zero =>
    intro k hi lo qh ql n _ hk h1 h2 h3 h4 hn0 hn hq
    obtain ⟨k, rfl⟩ : ∃ m, k = m + 1 := ⟨k - 1, by omega⟩
    have e : n * 2 ^ 0 + (hi * 18446744073709551616 + lo) / 2 ^ (128 - 0) = n := by
      have : (hi * 18446744073709551616 + lo) / 2 ^ (128 - 0) = 0 := by
        apply Int.ediv_eq_zero_of_lt
        · unfold Rg at *; omega
        · show _ < 340282366920938463463374607431768211456
          unfold Rg at *; omega
      rw [this]; simp
    rw [e]
    refine ⟨qh, ql, ?_, h3, h4, hq⟩
    rw [accountingref02_divide.l0, if_neg (by omega)]
  | succ d ih =>
    intro k hi lo qh ql n hd hk h1 h2 h3 h4 hn0 hn hq
    obtain ⟨k, rfl⟩ : ∃ m, k = m + 1 := ⟨k - 1, by omega⟩
    have hP : (2 : Int) ^ (128 - d) = 2 * 2 ^ (128 - (d + 1)) := by rw [show 128 - d = (128 - (d + 1)) + 1 by omega]; exact pow2_succ _
    have hn1 : n < 170141183460469231731687303715884105728 := by
      refine Int.lt_of_lt_of_le hn ?_
      have h := Nat.pow_le_pow_right (show 0 < 2 by omega) (show 128 - (d + 1) ≤ 127 by omega)
      have e : ((2 ^ (128 - (d + 1)) : Nat) : Int) = (2 : Int) ^ (128 - (d + 1)) := by simp
      rw [← e]
      have : (2 ^ 127 : Nat) = 170141183460469231731687303715884105728 := rfl
      omega
    have R := ref_round hc hc0 h1 h2 h4 h3 hn0 hn1 hq
    simp only [] at R
    obtain ⟨hb, r1, r2, r3, r4, r5, r6⟩ := R
    have hi128 := pow2_128 (d + 1) hd
    have hpd := pow_pos d
    have hpp := pow_pos (128 - (d + 1))
    have hF : n * 2 ^ (d + 1) + (hi * 18446744073709551616 + lo) / 2 ^ (128 - (d + 1)) = (2 * n + hi / 9223372036854775808) * 2 ^ d + (2 * (hi * 18446744073709551616 + lo) - hi / 9223372036854775808 * 340282366920938463463374607431768211456) / 2 ^ (128 - d) := by
      rw [hP, ← hi128, pow2_succ]
      generalize hi / 9223372036854775808 = b
      generalize hi * 18446744073709551616 + lo = X
      generalize (2 : Int) ^ d = D at *
      generalize (2 : Int) ^ (128 - (d + 1)) = P at *
      have e1 : 2 * X - b * (2 * D * P) = 2 * (X - b * D * P) := by grind
      rw [e1, Int.mul_ediv_mul_of_pos _ _ (by omega)]
      have e2 : X - b * D * P = X + (-(b * D)) * P := by grind
      rw [e2, Int.add_mul_ediv_right _ _ (by omega)]
      grind
    have hn2 : 2 * n + hi / 9223372036854775808 < 2 ^ (128 - d) := by rw [hP]; omega
    have hw : wrap64 (128 - ((d + 1 : Nat) : Int) + 1) = 128 - (d : Int) := by unfold wrap64; omega
    rw [accountingref02_divide.l0, if_pos (by omega), hw]
    by_cases g1 : n % c ≥ 9223372036854775808
    · rw [if_pos g1]
      obtain ⟨s1, s2, s3⟩ := r5 (.inl g1)
      rw [s3]
      obtain ⟨qh', ql', e1, e2, e3, e4⟩ := ih k _ _ _ _ (2 * n + hi / 9223372036854775808) (by omega) (by omega) r1 r2 r3 s1 (by omega) hn2 s2
      rw [r4, ← hF] at e1 e4
      exact ⟨qh', ql', e1, e2, e3, e4⟩
    · rw [if_neg g1]
      by_cases g2 : IntKind.u64.wrap (IntKind.u64.wrap (2 * (n % c)) + IntKind.u64.wrap (Int.tdiv hi 9223372036854775808)) ≥ c
      · rw [if_pos g2]
        obtain ⟨s1, s2, s3⟩ := r5 (.inr g2)
        rw [s3]
        obtain ⟨qh', ql', e1, e2, e3, e4⟩ := ih k _ _ _ _ (2 * n + hi / 9223372036854775808) (by omega) (by omega) r1 r2 r3 s1 (by omega) hn2 s2
        rw [r4, ← hF] at e1 e4
        exact ⟨qh', ql', e1, e2, e3, e4⟩
      · rw [if_neg g2]
        obtain ⟨s1, s2, s3⟩ := r6 g1 g2
        rw [s3]
        obtain ⟨qh', ql', e1, e2, e3, e4⟩ := ih k _ _ _ _ (2 * n + hi / 9223372036854775808) (by omega) (by omega) r1 r2 r3 s1 (by omega) hn2 s2
        rw [r4, ← hF] at e1 e4
        exact ⟨qh', ql', e1, e2, e3, e4⟩

theorem ref_divide {hi lo c : Int} (h1 : Rg hi) (h2 : Rg lo) (hc : Rg c) (hc0 : c ≠ 0) : accountingref02_divide.f 129 hi lo c = some (dq0 hi c, dq1 hi lo c, dr hi lo c) := by
  have hcp : 0 < c := by have := hc.1; omega
  obtain ⟨qh', ql', e1, e2, e3, e4⟩ := ref_loop c hc hcp 128 129 hi lo 0 0 0 (by omega) (by omega) h1 h2 (by unfold Rg; omega) (by unfold Rg; omega) (by omega) (by simp) (by simp)
  have d := dq_all h1 h2 hc hc0 rfl
  have e : (0 : Int) * 2 ^ 128 + (hi * 18446744073709551616 + lo) / 2 ^ (128 - 128) = hi * 18446744073709551616 + lo := by simp
  rw [e] at e1 e4
  rw [d.2.2.1] at e4
  have d1 := d.1; have d2 := d.2.1
  unfold Rg at *
  have q0 : qh' = dq0 hi c := by omega
  have q1 : ql' = dq1 hi lo c := by omega
  subst q0 q1
  unfold accountingref02_divide.f
  have e5 : (0 : Int) % c = 0 := by simp
  rw [e5] at e1
  have e6 : (128 : Int) - ((128 : Nat) : Int) = 0 := rfl
  rw [e6, d.2.2.2.1] at e1
  exact e1

end Go.Proofs.YticcaknflnldgaaDoor.Md
