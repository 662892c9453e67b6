/- What the reference's mag, wide, divide, Mod, Cmp and sign come to: the same plain functions as the program's; no condition but that the numbers are of their kinds. -/
import Derived.Test.YtmmokegelmgdeaaMdAll
import Derived.Test.YtmmokegelmgdeaaRx1
namespace Go.Proofs.Ytmmokegelmgdeaa.Md
open Go.RowKit Go.Proofs.YtmmokegelmgdeaaW.PrintWords Go.Proofs.YtmmokegelmgdeaaW.PrintLast Go.Proofs.YtmmokegelmgdeaaW.PrintMore Go.Proofs.Ytmmokegelmgdeaa.R
set_option linter.unusedVariables false
set_option linter.unusedSimpArgs false

theorem ref_mag {a : Int} (h : I64 a) : accountingref02_mag.f a = some (a.natAbs : Int) := by
  unfold I64 at h
  unfold accountingref02_mag.f
  by_cases c : a < 0
  · rw [if_pos c]
    have e1 : wrap64 (a + 1) = a + 1 := by unfold wrap64; omega
    have e2 : wrap64 (-(a + 1)) = -(a + 1) := by unfold wrap64; omega
    rw [e1, e2]
    have e3 : IntKind.u64.wrap (-(a + 1)) = -(a + 1) := wrp (by omega)
    rw [e3, wrp (by omega)]
    congr 1; omega
  · rw [if_neg c, wrp (by omega)]
    congr 1; omega

theorem ref_wide {a b : Int} (ha : Rg a) (hb : Rg b) : accountingref02_wide.f a b = some (mulHi a b, mulLo a b) := by
  have s := school a b ha hb
  simp only [] at s
  obtain ⟨s1, s2, s3, s4, s5, s6, s7, s8, s9⟩ := s
  obtain ⟨m1, m2, _⟩ := mul_rg a b ha hb
  unfold accountingref02_wide.f
  have t1 : ∀ x : Int, 0 ≤ x → Int.tdiv x 4294967296 = x / 4294967296 := fun x h => Int.tdiv_eq_ediv_of_nonneg h
  have t2 : ∀ x : Int, 0 ≤ x → Int.tmod x 4294967296 = x % 4294967296 := fun x h => Int.tmod_eq_emod_of_nonneg h
  have ha' := ha; have hb' := hb
  unfold Rg at ha' hb'
  rw [t1 a ha.1, t1 b hb.1, t2 a ha.1, t2 b hb.1]
  rw [wrp (show 0 ≤ a / 4294967296 ∧ a / 4294967296 < 18446744073709551616 by omega), wrp (show 0 ≤ b / 4294967296 ∧ b / 4294967296 < 18446744073709551616 by omega)]
  rw [wrp s1, wrp s2, t1 _ s1.1, t2 _ s1.1]
  have g1 : ∀ x : Int, (0 ≤ x ∧ x < 18446744073709551616) → (0 ≤ x / 4294967296 ∧ x / 4294967296 < 18446744073709551616) := fun x h => by omega
  rw [wrp (g1 _ s1), wrp s3, t1 _ s3.1, t2 _ s3.1, wrp (g1 _ s3), wrp s4, wrp s5, t1 _ s5.1, t2 _ s5.1, wrp (g1 _ s5), wrp s6, wrp s7, s8, wrp m1]
  have e : ∀ x : Int, IntKind.u64.wrap (x % 4294967296 * 4294967296) = x % 4294967296 * 4294967296 := fun x => by rw [IntKind.wrap_u64]; omega
  rw [e, s9, wrp m2]

/-- One round of the reference's division. -/
theorem ref_round {c hi lo qh ql n : Int} (hc : Rg c) (hc0 : 0 < c) (h1 : Rg hi) (h2 : Rg lo) (h3 : Rg ql) (h4 : Rg qh) (hn0 : 0 ≤ n) (hn : n < 170141183460469231731687303715884105728)
    (hq : qh * 18446744073709551616 + ql = n / c) :
    let bit := hi / 9223372036854775808
    let hi' := IntKind.u64.wrap (IntKind.u64.wrap (2 * hi) + IntKind.u64.wrap (Int.tdiv lo 9223372036854775808))
    let lo' := IntKind.u64.wrap (2 * lo)
    let qh' := IntKind.u64.wrap (IntKind.u64.wrap (2 * qh) + IntKind.u64.wrap (Int.tdiv ql 9223372036854775808))
    let rn := IntKind.u64.wrap (IntKind.u64.wrap (2 * (n % c)) + IntKind.u64.wrap (Int.tdiv hi 9223372036854775808))
    (0 ≤ bit ∧ bit ≤ 1) ∧ Rg hi' ∧ Rg lo' ∧ Rg qh' ∧ hi' * 18446744073709551616 + lo' = 2 * (hi * 18446744073709551616 + lo) - bit * 340282366920938463463374607431768211456 ∧
    ((n % c ≥ 9223372036854775808 ∨ rn ≥ c) → Rg (IntKind.u64.wrap (IntKind.u64.wrap (2 * ql) + 1)) ∧ qh' * 18446744073709551616 + IntKind.u64.wrap (IntKind.u64.wrap (2 * ql) + 1) = (2 * n + bit) / c ∧ IntKind.u64.wrap (rn - c) = (2 * n + bit) % c) ∧
    (¬ n % c ≥ 9223372036854775808 → ¬ rn ≥ c → Rg (IntKind.u64.wrap (2 * ql)) ∧ qh' * 18446744073709551616 + IntKind.u64.wrap (2 * ql) = (2 * n + bit) / c ∧ rn = (2 * n + bit) % c) := by
  have t1 : ∀ x : Int, 0 ≤ x → Int.tdiv x 9223372036854775808 = x / 9223372036854775808 := fun x h => Int.tdiv_eq_ediv_of_nonneg h
  intro bit hi' lo' qh' rn
  have ehi : hi' = (2 * hi % 18446744073709551616 + lo / 9223372036854775808) % 18446744073709551616 := by
    show IntKind.u64.wrap _ = _
    rw [t1 lo h2.1]; simp only [IntKind.wrap_u64]; unfold Rg at h2; omega
  have elo : lo' = 2 * lo % 18446744073709551616 := IntKind.wrap_u64 _
  have eqh : qh' = (2 * qh % 18446744073709551616 + ql / 9223372036854775808) % 18446744073709551616 := by
    show IntKind.u64.wrap _ = _
    rw [t1 ql h3.1]; simp only [IntKind.wrap_u64]; unfold Rg at h3; omega
  have ern : rn = (2 * (n % c) % 18446744073709551616 + hi / 9223372036854775808) % 18446744073709551616 := by
    show IntKind.u64.wrap _ = _
    rw [t1 hi h1.1]; simp only [IntKind.wrap_u64]; unfold Rg at h1; omega
  have ebit : bit = hi / 9223372036854775808 := rfl
  clear_value hi' lo' qh' rn bit
  have hr0 := Int.emod_nonneg n (show c ≠ 0 by omega)
  have hr1 := Int.emod_lt_of_pos n hc0
  have hd := Int.emod_add_mul_ediv n c
  have hQ : n / c ≤ n := Int.ediv_le_self c hn0
  have key : ∀ t : Int, (t = 0 ∨ t = 1) → 0 ≤ 2 * (n % c) + bit - t * c → 2 * (n % c) + bit - t * c < c → (2 * n + bit) / c = 2 * (n / c) + t ∧ (2 * n + bit) % c = 2 * (n % c) + bit - t * c := fun t ht g0 g1 => by
    refine div_is hc0 ?_ g0 g1
    generalize n % c = r at *
    generalize n / c = q at *
    subst hd
    grind
  unfold Rg at *
  generalize n % c = r at *
  generalize n / c = q at *
  rw [IntKind.wrap_u64 (rn - c), IntKind.wrap_u64 (_ + 1), IntKind.wrap_u64 (2 * ql)]
  refine ⟨by omega, by omega, by omega, by omega, by omega, fun hg => ?_, fun hg1 hg2 => ?_⟩
  · obtain ⟨k1, k2⟩ := key 1 (.inr rfl) (by omega) (by omega)
    rw [k1, k2]
    refine ⟨by omega, by omega, by omega⟩
  · obtain ⟨k1, k2⟩ := key 0 (.inl rfl) (by omega) (by omega)
    rw [k1, k2]
    refine ⟨by omega, by omega, by omega⟩

theorem pow2_succ (d : Nat) : (2 : Int) ^ (d + 1) = 2 * 2 ^ d := by rw [Int.pow_succ]; omega
theorem pow2_128 (d : Nat) (h : d ≤ 128) : (2 : Int) ^ d * 2 ^ (128 - d) = 340282366920938463463374607431768211456 := by
  rw [← Int.pow_add, show d + (128 - d) = 128 by omega]; rfl

theorem ref_loop (c : Int) (hc : Rg c) (hc0 : 0 < c) (d : Nat) : ∀ (k : Nat) (hi lo qh ql n : Int), d ≤ 128 → d < k → Rg hi → Rg lo → Rg qh → Rg ql → 0 ≤ n → n < 2 ^ (128 - d) → qh * 18446744073709551616 + ql = n / c →
    ∃ qh' ql' : Int, accountingref02_divide.l0 k hi lo c qh ql (n % c) (128 - (d : Int)) = some (qh', ql', (n * 2 ^ d + (hi * 18446744073709551616 + lo) / 2 ^ (128 - d)) % c) ∧ Rg qh' ∧ Rg ql' ∧
      qh' * 18446744073709551616 + ql' = (n * 2 ^ d + (hi * 18446744073709551616 + lo) / 2 ^ (128 - d)) / c := by
  induction d with
  | zero =>
    intro k hi lo qh ql n _ hk h1 h2 h3 h4 hn0 hn hq
    obtain ⟨k, rfl⟩ : ∃ m, k = m + 1 := ⟨k - 1, by omega⟩
    have e : n * 2 ^ 0 + (hi * 18446744073709551616 + lo) / 2 ^ (128 - 0) = n := by
      have : (hi * 18446744073709551616 + lo) / 2 ^ (128 - 0) = 0 := by
        apply Int.ediv_eq_zero_of_lt
        · unfold Rg at *; omega
        · show _ < 340282366920938463463374607431768211456
          unfold Rg at *; omega
      rw [this]; simp
    rw [e]
    refine ⟨qh, ql, ?_, h3, h4, hq⟩
    rw [accountingref02_divide.l0, if_neg (by omega)]
  | succ d ih =>
    intro k hi lo qh ql n hd hk h1 h2 h3 h4 hn0 hn hq
    obtain ⟨k, rfl⟩ : ∃ m, k = m + 1 := ⟨k - 1, by omega⟩
    have hP : (2 : Int) ^ (128 - d) = 2 * 2 ^ (128 - (d + 1)) := by rw [show 128 - d = (128 - (d + 1)) + 1 by omega]; exact pow2_succ _
    have hn1 : n < 170141183460469231731687303715884105728 := by
      refine Int.lt_of_lt_of_le hn ?_
      have h := Nat.pow_le_pow_right (show 0 < 2 by omega) (show 128 - (d + 1) ≤ 127 by omega)
      have e : ((2 ^ (128 - (d + 1)) : Nat) : Int) = (2 : Int) ^ (128 - (d + 1)) := by simp
      rw [← e]
      have : (2 ^ 127 : Nat) = 170141183460469231731687303715884105728 := rfl
      omega
    have R := ref_round hc hc0 h1 h2 h4 h3 hn0 hn1 hq
    simp only [] at R
    obtain ⟨hb, r1, r2, r3, r4, r5, r6⟩ := R
    have hi128 := pow2_128 (d + 1) hd
    have hpd := pow_pos d
    have hpp := pow_pos (128 - (d + 1))
    have hF : n * 2 ^ (d + 1) + (hi * 18446744073709551616 + lo) / 2 ^ (128 - (d + 1)) = (2 * n + hi / 9223372036854775808) * 2 ^ d + (2 * (hi * 18446744073709551616 + lo) - hi / 9223372036854775808 * 340282366920938463463374607431768211456) / 2 ^ (128 - d) := by
      rw [hP, ← hi128, pow2_succ]
      generalize hi / 9223372036854775808 = b
      generalize hi * 18446744073709551616 + lo = X
      generalize (2 : Int) ^ d = D at *
      generalize (2 : Int) ^ (128 - (d + 1)) = P at *
      have e1 : 2 * X - b * (2 * D * P) = 2 * (X - b * D * P) := by grind
      rw [e1, Int.mul_ediv_mul_of_pos _ _ (by omega)]
      have e2 : X - b * D * P = X + (-(b * D)) * P := by grind
      rw [e2, Int.add_mul_ediv_right _ _ (by omega)]
      grind
    have hn2 : 2 * n + hi / 9223372036854775808 < 2 ^ (128 - d) := by rw [hP]; omega
    have hw : wrap64 (128 - ((d + 1 : Nat) : Int) + 1) = 128 - (d : Int) := by unfold wrap64; omega
    rw [accountingref02_divide.l0, if_pos (by omega), hw]
    by_cases g1 : n % c ≥ 9223372036854775808
    · rw [if_pos g1]
      obtain ⟨s1, s2, s3⟩ := r5 (.inl g1)
      rw [s3]
      obtain ⟨qh', ql', e1, e2, e3, e4⟩ := ih k _ _ _ _ (2 * n + hi / 9223372036854775808) (by omega) (by omega) r1 r2 r3 s1 (by omega) hn2 s2
      rw [r4, ← hF] at e1 e4
      exact ⟨qh', ql', e1, e2, e3, e4⟩
    · rw [if_neg g1]
      by_cases g2 : IntKind.u64.wrap (IntKind.u64.wrap (2 * (n % c)) + IntKind.u64.wrap (Int.tdiv hi 9223372036854775808)) ≥ c
      · rw [if_pos g2]
        obtain ⟨s1, s2, s3⟩ := r5 (.inr g2)
        rw [s3]
        obtain ⟨qh', ql', e1, e2, e3, e4⟩ := ih k _ _ _ _ (2 * n + hi / 9223372036854775808) (by omega) (by omega) r1 r2 r3 s1 (by omega) hn2 s2
        rw [r4, ← hF] at e1 e4
        exact ⟨qh', ql', e1, e2, e3, e4⟩
      · rw [if_neg g2]
        obtain ⟨s1, s2, s3⟩ := r6 g1 g2
        rw [s3]
        obtain ⟨qh', ql', e1, e2, e3, e4⟩ := ih k _ _ _ _ (2 * n + hi / 9223372036854775808) (by omega) (by omega) r1 r2 r3 s1 (by omega) hn2 s2
        rw [r4, ← hF] at e1 e4
        exact ⟨qh', ql', e1, e2, e3, e4⟩

theorem ref_divide {hi lo c : Int} (h1 : Rg hi) (h2 : Rg lo) (hc : Rg c) (hc0 : c ≠ 0) : accountingref02_divide.f 129 hi lo c = some (dq0 hi c, dq1 hi lo c, dr hi lo c) := by
  have hcp : 0 < c := by have := hc.1; omega
  obtain ⟨qh', ql', e1, e2, e3, e4⟩ := ref_loop c hc hcp 128 129 hi lo 0 0 0 (by omega) (by omega) h1 h2 (by unfold Rg; omega) (by unfold Rg; omega) (by omega) (by simp) (by simp)
  have d := dq_all h1 h2 hc hc0 rfl
  have e : (0 : Int) * 2 ^ 128 + (hi * 18446744073709551616 + lo) / 2 ^ (128 - 128) = hi * 18446744073709551616 + lo := by simp
  rw [e] at e1 e4
  rw [d.2.2.1] at e4
  have d1 := d.1; have d2 := d.2.1
  unfold Rg at *
  have q0 : qh' = dq0 hi c := by omega
  have q1 : ql' = dq1 hi lo c := by omega
  subst q0 q1
  unfold accountingref02_divide.f
  have e5 : (0 : Int) % c = 0 := by simp
  rw [e5] at e1
  have e6 : (128 : Int) - ((128 : Nat) : Int) = 0 := rfl
  rw [e6, d.2.2.2.1] at e1
  exact e1

theorem ref_Mod {a b c : Int} (ha : I64 a) (hb : I64 b) (hc : I64 c) : accountingref02_Mod.f 129 a b c = some (mdMod a b c) := by
  unfold accountingref02_Mod.f
  by_cases h0 : c = 0
  · rw [if_pos h0]; unfold mdMod; rw [if_pos h0]
  obtain ⟨A, B, C, hi, lo, q0, q1, r, N⟩ : ∃ A B C hi lo q0 q1 r : Int, ((a.natAbs : Int) = A ∧ (b.natAbs : Int) = B ∧ (c.natAbs : Int) = C ∧ mulHi A B = hi ∧ mulLo A B = lo ∧ dq0 hi C = q0 ∧ dq1 hi lo C = q1 ∧ dr hi lo C = r) := ⟨_, _, _, _, _, _, _, _, rfl, rfl, rfl, rfl, rfl, rfl, rfl, rfl⟩
  have HA : Rg A := by have := N.1; unfold I64 at ha; unfold Rg; omega
  have HB : Rg B := by have := N.2.1; unfold I64 at hb; unfold Rg; omega
  have HC : Rg C ∧ C ≠ 0 := by have := N.2.2.1; unfold I64 at hc; unfold Rg; omega
  have HM := mul_rg _ _ HA HB
  rw [N.2.2.2.1, N.2.2.2.2.1] at HM
  obtain ⟨r1, r2, hR⟩ : ∃ r1 r2, mdMod a b c = (r1, r2) := ⟨_, _, rfl⟩
  have K := mod_close h0 hc HM HC N hR
  have d := (dq_all HM.1 HM.2.1 HC.1 HC.2 HM.2.2).2.2.2.2
  rw [N.2.2.2.2.2.2.2] at d
  have e1 : accountingref02_mag.f a = some A := by rw [ref_mag ha, N.1]
  have e2 : accountingref02_mag.f b = some B := by rw [ref_mag hb, N.2.1]
  have e3 : accountingref02_mag.f c = some C := by rw [ref_mag hc, N.2.2.1]
  have e4 : accountingref02_wide.f A B = some (hi, lo) := by rw [ref_wide HA HB, N.2.2.2.1, N.2.2.2.2.1]
  have e5 : accountingref02_divide.f 129 hi lo C = some (q0, q1, r) := by rw [ref_divide HM.1 HM.2.1 HC.1 HC.2, N.2.2.2.2.2.1, N.2.2.2.2.2.2.1, N.2.2.2.2.2.2.2]
  clear N HM HA HB
  rw [if_neg h0, e1, e2]
  simp only [Option.bind_some]
  rw [e4, e3]
  simp only [Option.bind_some]
  rw [e5]
  simp only [Option.bind_some]
  obtain ⟨k1, k2, k3, k4⟩ := K
  rw [hR, k1]
  by_cases g : r > 0
  · rw [if_pos g]
    by_cases g2 : (decide (a < 0) != decide (b < 0)) = true
    · rw [if_pos g2, k3 (by omega) g2]
    · rw [if_neg g2]
      have : (!decide (a < 0) == decide (b < 0)) = false := by
        cases hh : (!decide (a < 0) == decide (b < 0))
        · rfl
        · exact absurd hh g2
      rw [k4 this]
  · rw [if_neg g]
    have h3 : r = 0 := by omega
    have h4 : wrap64 r = r := by unfold wrap64; omega
    rw [← k2 h3, h4, h3]

theorem ref_sign (a b : Int) : accountingref02_sign.f 1 a b = some (dir a b) := by
  unfold accountingref02_sign.f dir
  by_cases h1 : a = 0
  · rw [if_pos h1, if_pos h1]; rfl
  rw [if_neg h1, if_neg h1]
  simp only [accountingref02_sign.j0]
  by_cases h2 : b = 0
  · subst h2; rfl
  rw [if_neg (show ¬ (b == 0) = true from by simpa using h2), if_neg h2]
  by_cases h3 : (decide (a < 0) != decide (b < 0)) = true
  · rw [if_pos h3, if_pos h3]
  · rw [if_neg h3, if_neg h3]

theorem ref_Cmp_core {A B C D x1 x2 y1 y2 s t r a b c d : Int} (e1 : accountingref02_mag.f a = some A) (e2 : accountingref02_mag.f b = some B) (e3 : accountingref02_mag.f c = some C) (e4 : accountingref02_mag.f d = some D)
    (e5 : accountingref02_wide.f A B = some (x1, x2)) (e6 : accountingref02_wide.f C D = some (y1, y2)) (e7 : accountingref02_sign.f 1 a b = some s) (e8 : accountingref02_sign.f 1 c d = some t)
    (g1 : Rg x1) (g2 : Rg x2) (g4 : Rg y1) (g5 : Rg y2) (hs : s = 0 ∨ s = -1 ∨ s = 1) (hP1 : s = 0 → x1 * 18446744073709551616 + x2 = 0) (hP2 : t = 0 → y1 * 18446744073709551616 + y2 = 0)
    (K : (s < t → -1 = r) ∧ (t < s → 1 = r) ∧ (s = t → s < 0 → cmp2 y1 y2 x1 x2 = r) ∧ (s = t → ¬ s < 0 → cmp2 x1 x2 y1 y2 = r)) : accountingref02_Cmp.f 1 a b c d = some r := by
  unfold accountingref02_Cmp.f
  rw [e7, e8]
  simp only [Option.bind_some]
  rw [e1, e2, e3, e4]
  simp only [Option.bind_some]
  rw [e5, e6]
  simp only [Option.bind_some]
  clear e1 e2 e3 e4 e5 e6 e7 e8
  obtain ⟨k1, k2, k3, k4⟩ := K
  rw [cmp2_num g4 g5 g1 g2] at k3
  rw [cmp2_num g1 g2 g4 g5] at k4
  unfold Rg at g1 g2 g4 g5
  have hw : wrap64 (-s) = -s := by unfold wrap64; omega
  by_cases e : s = t
  · rw [if_pos e]
    subst e
    have res : ∀ z : Int, z = r → some z = some r := fun z h => by rw [h]
    have k3' := k3 rfl
    have k4' := k4 rfl
    by_cases e1 : x1 = y1
    · rw [if_pos e1]
      by_cases e2 : x2 = y2
      · subst e1 e2
        simp only [accountingref02_Cmp.j0, beq_self_eq_true, if_true]
        refine res _ ?_
        by_cases e3 : s < 0
        · rw [← k3' e3, if_neg (by omega), if_pos rfl]
        · rw [← k4' e3, if_neg (by omega), if_pos rfl]
      · subst e1
        have : (x2 == y2) = false := beq_eq_false_iff_ne.mpr e2
        simp only [accountingref02_Cmp.j0, this, Bool.false_eq_true, if_false]
        rw [if_neg (by omega), if_pos trivial, hw]
        by_cases e4 : x2 < y2
        · rw [if_pos e4]
          refine res _ ?_
          by_cases e3 : s < 0
          · rw [← k3' e3, if_neg (by omega), if_neg (by omega)]; omega
          · rw [← k4' e3, if_pos (by omega)]; omega
        · rw [if_neg e4]
          refine res _ ?_
          by_cases e3 : s < 0
          · rw [← k3' e3, if_pos (by omega)]; omega
          · rw [← k4' e3, if_neg (by omega), if_neg (by omega)]; omega
    · rw [if_neg e1]
      simp only [accountingref02_Cmp.j0, Bool.false_eq_true, if_false, hw]
      by_cases e4 : x1 < y1
      · rw [if_pos e4]
        refine res _ ?_
        by_cases e3 : s < 0
        · rw [← k3' e3, if_neg (by omega), if_neg (by omega)]; omega
        · rw [← k4' e3, if_pos (by omega)]; omega
      · rw [if_neg e4, if_neg e1]
        refine res _ ?_
        by_cases e3 : s < 0
        · rw [← k3' e3, if_pos (by omega)]; omega
        · rw [← k4' e3, if_neg (by omega), if_neg (by omega)]; omega
  · rw [if_neg e]
    by_cases e2 : s < t
    · rw [if_pos e2, k1 e2]
    · rw [if_neg e2, k2 (by omega)]

theorem ref_Cmp {a b c d : Int} (ha : I64 a) (hb : I64 b) (hc : I64 c) (hd : I64 d) : accountingref02_Cmp.f 1 a b c d = some (mdCmp a b c d) := by
  obtain ⟨A, B, C, D, hi, lo, hj, lp, s, t, N⟩ : ∃ A B C D hi lo hj lp s t : Int, (((a.natAbs : Int) = A ∧ (b.natAbs : Int) = B ∧ (c.natAbs : Int) = C ∧ (d.natAbs : Int) = D ∧ dir a b = s ∧ dir c d = t) ∧ mulHi A B = hi ∧ mulLo A B = lo ∧ mulHi C D = hj ∧ mulLo C D = lp) := ⟨_, _, _, _, _, _, _, _, _, _, ⟨rfl, rfl, rfl, rfl, rfl, rfl⟩, rfl, rfl, rfl, rfl⟩
  have HA : Rg A := by have := N.1.1; unfold I64 at ha; unfold Rg; omega
  have HB : Rg B := by have := N.1.2.1; unfold I64 at hb; unfold Rg; omega
  have HC : Rg C := by have := N.1.2.2.1; unfold I64 at hc; unfold Rg; omega
  have HD : Rg D := by have := N.1.2.2.2.1; unfold I64 at hd; unfold Rg; omega
  have M1 := mul_rg _ _ HA HB
  have M2 := mul_rg _ _ HC HD
  rw [N.2.1, N.2.2.1] at M1
  rw [N.2.2.2.1, N.2.2.2.2] at M2
  obtain ⟨r, hR⟩ : ∃ r, mdCmp a b c d = r := ⟨_, rfl⟩
  rw [hR]
  have K := cmp_close M1 M2 N.1 hR
  have p1 := prod_sign a b
  have p2 := prod_sign c d
  rw [N.1.1, N.1.2.1, N.1.2.2.2.2.1, M1.2.2] at p1
  rw [N.1.2.2.1, N.1.2.2.2.1, N.1.2.2.2.2.2, M2.2.2] at p2
  have e5 : accountingref02_wide.f A B = some (hi, lo) := by rw [ref_wide HA HB, N.2.1, N.2.2.1]
  have e6 : accountingref02_wide.f C D = some (hj, lp) := by rw [ref_wide HC HD, N.2.2.2.1, N.2.2.2.2]
  refine ref_Cmp_core ((ref_mag ha).trans (congrArg some N.1.1)) ((ref_mag hb).trans (congrArg some N.1.2.1)) ((ref_mag hc).trans (congrArg some N.1.2.2.1)) ((ref_mag hd).trans (congrArg some N.1.2.2.2.1)) e5 e6
    ((ref_sign a b).trans (congrArg some N.1.2.2.2.2.1)) ((ref_sign c d).trans (congrArg some N.1.2.2.2.2.2)) M1.1 M1.2.1 M2.1 M2.2.1 ?_ ?_ ?_ K
  · clear hR K N e5 e6; omega
  · clear hR K N e5 e6; omega
  · clear hR K N e5 e6; omega
end Go.Proofs.Ytmmokegelmgdeaa.Md
