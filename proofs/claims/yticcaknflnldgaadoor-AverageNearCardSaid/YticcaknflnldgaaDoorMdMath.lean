/- Products and quotients of 64-bit words as whole numbers: the plain mathematics behind package muldiv; no condition. -/
import Derived.Laws.BitsAllLaws
import Derived.Laws.BitsLemmas
import Derived.Laws.Bits64
import Derived.WalkKit
namespace Go.Proofs.YticcaknflnldgaaDoor.Md
open Go.RowKit

/-- A word of 64 bits. -/
def Rg (a : Int) : Prop := 0 ≤ a ∧ a < 18446744073709551616
/-- An integer of 64 bits. -/
def I64 (a : Int) : Prop := -9223372036854775808 ≤ a ∧ a ≤ 9223372036854775807
instance (a : Int) : Decidable (I64 a) := by unfold I64; infer_instance

def mulHi (a b : Int) : Int := a * b / 18446744073709551616
def mulLo (a b : Int) : Int := a * b % 18446744073709551616

theorem mask32 (a : Int) (h : Rg a) : bits .and .u64 a 4294967295 = a % 4294967296 :=
  bits_mask .u64 64 (by decide) (fun n h0 h1 => by rw [IntKind.wrap_u64]; omega) 32 (by decide) a h.1 (by have := h.2; omega)

theorem or32 (x y : Int) (hx0 : 0 ≤ x) (hx : x % 4294967296 = 0) (hx1 : x < 18446744073709551616) (hy0 : 0 ≤ y) (hy : y < 4294967296) : bits .or .u64 x y = x + y :=
  bits_join .u64 64 (by decide) (fun n h0 h1 => by rw [IntKind.wrap_u64]; omega) 32 x y hx0 (by omega) (by omega) hy0 (by omega) (by omega)

theorem or1 (x y : Int) (hx0 : 0 ≤ x) (hx : x % 2 = 0) (hx1 : x < 18446744073709551616) (hy0 : 0 ≤ y) (hy : y < 2) : bits .or .u64 x y = x + y :=
  bits_join .u64 64 (by decide) (fun n h0 h1 => by rw [IntKind.wrap_u64]; omega) 1 x y hx0 (by omega) (by omega) hy0 (by omega) (by omega)

theorem and1 (a : Int) (h : Rg a) : bits .and .u64 a 1 = a % 2 :=
  bits_mask .u64 64 (by decide) (fun n h0 h1 => by rw [IntKind.wrap_u64]; omega) 1 (by decide) a h.1 (by have := h.2; omega)

theorem prod_le {x y : Int} (hx : 0 ≤ x) (hy : 0 ≤ y) (hx1 : x ≤ 4294967295) (hy1 : y ≤ 4294967295) : 0 ≤ x * y ∧ x * y ≤ 18446744065119617025 := by
  refine ⟨Int.mul_nonneg hx hy, ?_⟩
  have := Int.mul_le_mul hx1 hy1 hy (by omega)
  omega

/-- The schoolbook product of two words, in halves. -/
theorem school (a b : Int) (ha : Rg a) (hb : Rg b) :
    let a1 := a / 4294967296; let a0 := a % 4294967296; let b1 := b / 4294967296; let b0 := b % 4294967296
    let bottom := a0 * b0; let middle := a1 * b0 + bottom / 4294967296; let other := a0 * b1 + middle % 4294967296
    (0 ≤ bottom ∧ bottom < 18446744073709551616) ∧ (0 ≤ a1 * b0 ∧ a1 * b0 < 18446744073709551616) ∧ (0 ≤ middle ∧ middle < 18446744073709551616) ∧ (0 ≤ a0 * b1 ∧ a0 * b1 < 18446744073709551616) ∧
    (0 ≤ other ∧ other < 18446744073709551616) ∧ (0 ≤ a1 * b1 ∧ a1 * b1 < 18446744073709551616) ∧
    (0 ≤ a1 * b1 + middle / 4294967296 ∧ a1 * b1 + middle / 4294967296 < 18446744073709551616) ∧
    a1 * b1 + middle / 4294967296 + other / 4294967296 = mulHi a b ∧ other % 4294967296 * 4294967296 + bottom % 4294967296 = mulLo a b := by
  obtain ⟨ha0, ha1⟩ := ha
  obtain ⟨hb0, hb1⟩ := hb
  intro a1 a0 b1 b0 bottom middle other
  have e1 : a = a1 * 4294967296 + a0 := by omega
  have e2 : b = b1 * 4294967296 + b0 := by omega
  have q1 : 0 ≤ a1 ∧ a1 ≤ 4294967295 := by omega
  have q2 : 0 ≤ a0 ∧ a0 ≤ 4294967295 := by omega
  have q3 : 0 ≤ b1 ∧ b1 ≤ 4294967295 := by omega
  have q4 : 0 ≤ b0 ∧ b0 ≤ 4294967295 := by omega
  have p00 := prod_le q2.1 q4.1 q2.2 q4.2
  have p10 := prod_le q1.1 q4.1 q1.2 q4.2
  have p01 := prod_le q2.1 q3.1 q2.2 q3.2
  have p11 := prod_le q1.1 q3.1 q1.2 q3.2
  have hp : a * b = a1 * b1 * 18446744073709551616 + (a1 * b0 + a0 * b1) * 4294967296 + a0 * b0 := by
    rw [e1, e2]; grind
  have hm : middle = a1 * b0 + bottom / 4294967296 := rfl
  have hbm : bottom = a0 * b0 := rfl
  have ho : other = a0 * b1 + middle % 4294967296 := rfl
  unfold mulHi mulLo
  rw [hp]
  clear_value middle other bottom
  generalize a1 * b0 = x at *
  generalize a0 * b1 = y at *
  generalize a1 * b1 = z at *
  generalize a0 * b0 = t at *
  subst hbm
  clear e1 e2
  refine ⟨by omega, by omega, by omega, by omega, by omega, by omega, by omega, by omega, by omega⟩

theorem wrp {x : Int} (h : 0 ≤ x ∧ x < 18446744073709551616) : IntKind.u64.wrap x = x := by
  rw [IntKind.wrap_u64]; omega

theorem mul_rg (a b : Int) (ha : Rg a) (hb : Rg b) : Rg (mulHi a b) ∧ Rg (mulLo a b) ∧ a * b = mulHi a b * 18446744073709551616 + mulLo a b := by
  have s := school a b ha hb
  simp only [] at s
  obtain ⟨s1, s2, s3, s4, s5, s6, s7, s8, s9⟩ := s
  have h : 0 ≤ a * b ∧ a * b < 18446744073709551616 * 18446744073709551616 := by
    refine ⟨Int.mul_nonneg ha.1 hb.1, ?_⟩
    have := Int.mul_le_mul (show a ≤ 18446744073709551615 from by have := ha.2; omega) (show b ≤ 18446744073709551615 from by have := hb.2; omega) hb.1 (by omega)
    omega
  unfold Rg mulHi mulLo
  omega

/-- What the code of 'multiply' reckons, as the walk spells it. -/
theorem multiply_spelt (a b : Int) (ha : Rg a) (hb : Rg b) :
    IntKind.u64.wrap (IntKind.u64.wrap (IntKind.u64.wrap (a / 4294967296 * (b / 4294967296)) + IntKind.u64.wrap (IntKind.u64.wrap (a / 4294967296 * bits BinOp.and IntKind.u64 b 4294967295) + IntKind.u64.wrap (bits BinOp.and IntKind.u64 a 4294967295 * bits BinOp.and IntKind.u64 b 4294967295) / 4294967296) / 4294967296) + IntKind.u64.wrap (IntKind.u64.wrap (bits BinOp.and IntKind.u64 a 4294967295 * (b / 4294967296)) + bits BinOp.and IntKind.u64 (IntKind.u64.wrap (IntKind.u64.wrap (a / 4294967296 * bits BinOp.and IntKind.u64 b 4294967295) + IntKind.u64.wrap (bits BinOp.and IntKind.u64 a 4294967295 * bits BinOp.and IntKind.u64 b 4294967295) / 4294967296)) 4294967295) / 4294967296) = mulHi a b ∧
    bits BinOp.or IntKind.u64 (IntKind.u64.wrap (IntKind.u64.wrap (IntKind.u64.wrap (bits BinOp.and IntKind.u64 a 4294967295 * (b / 4294967296)) + bits BinOp.and IntKind.u64 (IntKind.u64.wrap (IntKind.u64.wrap (a / 4294967296 * bits BinOp.and IntKind.u64 b 4294967295) + IntKind.u64.wrap (bits BinOp.and IntKind.u64 a 4294967295 * bits BinOp.and IntKind.u64 b 4294967295) / 4294967296)) 4294967295) * 4294967296)) (bits BinOp.and IntKind.u64 (IntKind.u64.wrap (bits BinOp.and IntKind.u64 a 4294967295 * bits BinOp.and IntKind.u64 b 4294967295)) 4294967295) = mulLo a b := by
  have s := school a b ha hb
  simp only [] at s
  obtain ⟨s1, s2, s3, s4, s5, s6, s7, s8, s9⟩ := s
  obtain ⟨m1, m2, _⟩ := mul_rg a b ha hb
  rw [mask32 a ha, mask32 b hb, wrp s1, mask32 _ s1, wrp s2, wrp s3, mask32 _ s3, wrp s4, wrp s5, wrp s6, wrp s7, s8, wrp m1]
  refine ⟨rfl, ?_⟩
  have e : ∀ x : Int, IntKind.u64.wrap (x * 4294967296) = x % 4294967296 * 4294967296 := fun x => by rw [IntKind.wrap_u64]; omega
  rw [e, or32 _ _ (by omega) (by omega) (by omega) (by omega) (by omega), s9]

/-! ### The long division, bit by bit -/
/-- The number that the bits above bit b make, behind a remainder r0. -/
def nk (r0 x b : Int) : Int := r0 * 2 ^ (63 - b).toNat + x / 2 ^ (b + 1).toNat
def qk (r0 x c b : Int) : Int := nk r0 x b / c
def rk (r0 x c b : Int) : Int := nk r0 x b % c
/-- What is known all the way: the remainder that came in, the word, the divisor. -/
def Ok (r0 x c : Int) : Prop := 0 ≤ r0 ∧ r0 < c ∧ Rg x ∧ Rg c

theorem pow_pos (n : Nat) : (0 : Int) < 2 ^ n := Int.pow_pos (by omega)
theorem pow_split (b : Int) (h0 : -1 ≤ b) (h1 : b ≤ 63) : (2 : Int) ^ (63 - b).toNat * 2 ^ (b + 1).toNat = 18446744073709551616 := by
  rw [← Int.pow_add, show (63 - b).toNat + (b + 1).toNat = 64 by omega]; rfl
theorem pow_up (b : Int) (h0 : 0 ≤ b) : (2 : Int) ^ (b + 1).toNat = 2 * 2 ^ b.toNat := by
  rw [show (b + 1).toNat = b.toNat + 1 by omega, Int.pow_succ]; omega
theorem pow_down (b : Int) (h0 : 0 ≤ b) (h1 : b ≤ 63) : (2 : Int) ^ (63 - (b - 1)).toNat = 2 * 2 ^ (63 - b).toNat := by
  rw [show (63 - (b - 1)).toNat = (63 - b).toNat + 1 by omega, Int.pow_succ]; omega
theorem pow_le63 (n : Nat) (h : n ≤ 63) : (2 : Int) ^ n ≤ 9223372036854775808 := by
  have h1 := Nat.pow_le_pow_right (show 0 < 2 by omega) h
  have e : ((2 ^ n : Nat) : Int) = (2 : Int) ^ n := by simp
  rw [← e]
  generalize 2 ^ n = y at *
  have : (2 ^ 63 : Nat) = 9223372036854775808 := rfl
  omega

theorem nk_step (r0 x b : Int) (h0 : 0 ≤ b) (h1 : b ≤ 63) : nk r0 x (b - 1) = 2 * nk r0 x b + x / 2 ^ b.toNat % 2 := by
  unfold nk
  rw [pow_down b h0 h1, show b - 1 + 1 = b by omega, pow_up b h0]
  have e : x / (2 * 2 ^ b.toNat) = x / 2 ^ b.toNat / 2 := by
    rw [Int.mul_comm, Int.ediv_ediv_of_nonneg (Int.le_of_lt (pow_pos _))]
  rw [e]
  generalize x / 2 ^ b.toNat = y
  generalize hP : (2 : Int) ^ (63 - b).toNat = P
  have : r0 * (2 * P) = 2 * (r0 * P) := by grind
  omega

theorem nk_nonneg {r0 x c : Int} (h : Ok r0 x c) (b : Int) : 0 ≤ nk r0 x b := by
  obtain ⟨h1, h2, h3, h4⟩ := h
  unfold nk
  have := Int.mul_nonneg h1 (Int.le_of_lt (pow_pos (63 - b).toNat))
  have := Int.ediv_nonneg h3.1 (Int.le_of_lt (pow_pos (b + 1).toNat))
  omega

theorem nk_lt {r0 x c : Int} (h : Ok r0 x c) (b : Int) (h0 : -1 ≤ b) (h1 : b ≤ 63) : nk r0 x b < c * 2 ^ (63 - b).toNat := by
  obtain ⟨g1, g2, g3, g4⟩ := h
  have e := pow_split b h0 h1
  have p1 := pow_pos (63 - b).toNat
  have p2 := pow_pos (b + 1).toNat
  unfold nk
  generalize (2 : Int) ^ (63 - b).toNat = P at *
  generalize (2 : Int) ^ (b + 1).toNat = Q at *
  have hx : x / Q < P := by
    apply Int.ediv_lt_of_lt_mul p2
    have := g3.2
    omega
  have := Int.mul_le_mul_of_nonneg_right (show r0 + 1 ≤ c by omega) (Int.le_of_lt p1)
  rw [Int.add_mul] at this
  omega

theorem qk_bound {r0 x c : Int} (h : Ok r0 x c) (b : Int) (h0 : -1 ≤ b) (h1 : b ≤ 63) : 0 ≤ qk r0 x c b ∧ qk r0 x c b < 2 ^ (63 - b).toNat := by
  have hc : 0 < c := by have := h.1; have := h.2.1; omega
  unfold qk
  refine ⟨Int.ediv_nonneg (nk_nonneg h b) (by omega), ?_⟩
  apply Int.ediv_lt_of_lt_mul hc
  have := nk_lt h b h0 h1
  rw [Int.mul_comm]; exact this

theorem rk_bound {r0 x c : Int} (h : Ok r0 x c) (b : Int) : 0 ≤ rk r0 x c b ∧ rk r0 x c b < c := by
  have hc : 0 < c := by have := h.1; have := h.2.1; omega
  exact ⟨Int.emod_nonneg _ (by omega), Int.emod_lt_of_pos _ hc⟩

theorem div_is {n q c r : Int} (hc : 0 < c) (h : n = q * c + r) (h0 : 0 ≤ r) (h1 : r < c) : n / c = q ∧ n % c = r := by
  have hd : n / c = q := by
    rw [h, Int.add_comm, Int.add_mul_ediv_right _ _ (by omega), Int.ediv_eq_zero_of_lt h0 h1]; omega
  refine ⟨hd, ?_⟩
  have := Int.emod_add_mul_ediv n c
  rw [hd, Int.mul_comm] at this
  omega

theorem step_eqs {r0 x c : Int} (h : Ok r0 x c) (b : Int) (h0 : 0 ≤ b) (h1 : b ≤ 63) :
    (c ≤ 2 * rk r0 x c b + x / 2 ^ b.toNat % 2 → qk r0 x c (b - 1) = 2 * qk r0 x c b + 1 ∧ rk r0 x c (b - 1) = 2 * rk r0 x c b + x / 2 ^ b.toNat % 2 - c) ∧
    (2 * rk r0 x c b + x / 2 ^ b.toNat % 2 < c → qk r0 x c (b - 1) = 2 * qk r0 x c b ∧ rk r0 x c (b - 1) = 2 * rk r0 x c b + x / 2 ^ b.toNat % 2) := by
  have hc : 0 < c := by have := h.1; have := h.2.1; omega
  have hn := nk_step r0 x b h0 h1
  have hr := rk_bound h b
  have hd := Int.emod_add_mul_ediv (nk r0 x b) c
  unfold qk rk at *
  rw [hn]
  have hy : 0 ≤ x / 2 ^ b.toNat % 2 ∧ x / 2 ^ b.toNat % 2 < 2 := by omega
  generalize x / 2 ^ b.toNat % 2 = y at *
  generalize nk r0 x b = n at *
  generalize n / c = q at *
  generalize n % c = r at *
  constructor
  · intro hg
    exact div_is hc (by subst hd; grind) (by omega) (by omega)
  · intro hg
    exact div_is hc (by subst hd; grind) (by omega) (by omega)

theorem nk_start {r0 x c : Int} (h : Ok r0 x c) : rk r0 x c 63 = r0 ∧ qk r0 x c 63 = 0 := by
  have e : nk r0 x 63 = r0 := by
    unfold nk
    have : x / 2 ^ ((63 : Int) + 1).toNat = 0 := Int.ediv_eq_zero_of_lt h.2.2.1.1 (by have := h.2.2.1.2; simpa using this)
    rw [this]; simp
  unfold rk qk
  rw [e]
  exact ⟨Int.emod_eq_of_lt h.1 h.2.1, Int.ediv_eq_zero_of_lt h.1 h.2.1⟩

/-- The rest of the word is zero, and so is the remainder. -/
theorem skip_eqs {r0 x c : Int} (h : Ok r0 x c) (b : Int) (h0 : 0 ≤ b) (h1 : b ≤ 63) (hr : rk r0 x c b = 0) (hx : IntKind.u64.wrap (x * 2 ^ (63 - b).toNat) = 0) :
    IntKind.u64.wrap (qk r0 x c b * 2 ^ (b + 1).toNat) = qk r0 x c (-1) ∧ rk r0 x c (-1) = 0 := by
  have hc : 0 < c := by have := h.1; have := h.2.1; omega
  have e := pow_split b (by omega) h1
  have p1 := pow_pos (63 - b).toNat
  have p2 := pow_pos (b + 1).toNat
  have hq := qk_bound h b (by omega) h1
  have hd := Int.emod_add_mul_ediv (nk r0 x b) c
  have hm : x % 2 ^ (b + 1).toNat = 0 := by
    rw [IntKind.wrap_u64] at hx
    generalize (2 : Int) ^ (63 - b).toNat = P at *
    generalize (2 : Int) ^ (b + 1).toNat = Q at *
    have h2 := Int.dvd_of_emod_eq_zero hx
    rw [← e, Int.mul_comm x P] at h2
    exact Int.emod_eq_zero_of_dvd (Int.dvd_of_mul_dvd_mul_left (by omega) h2)
  have en : nk r0 x (-1) = nk r0 x b * 2 ^ (b + 1).toNat := by
    unfold nk
    have hxx := Int.emod_add_mul_ediv x (2 ^ (b + 1).toNat)
    rw [hm] at hxx
    have e2 : (2 : Int) ^ (63 - (-1 : Int)).toNat = 18446744073709551616 := rfl
    have e3 : x / 2 ^ ((-1 : Int) + 1).toNat = x := by show x / 2 ^ 0 = x; simp
    rw [e2, e3, ← e]
    generalize (2 : Int) ^ (63 - b).toNat = P at *
    generalize (2 : Int) ^ (b + 1).toNat = Q at *
    generalize x / Q = y at *
    subst hxx
    grind
  unfold rk at hr ⊢
  unfold qk at hq ⊢
  rw [hr] at hd
  rw [en]
  generalize nk r0 x b = n at *
  generalize n / c = q at *
  generalize (2 : Int) ^ (63 - b).toNat = P at *
  generalize (2 : Int) ^ (b + 1).toNat = Q at *
  have := div_is (n := n * Q) (q := q * Q) (r := 0) hc (by subst hd; grind) (by omega) (by omega)
  refine ⟨?_, this.2⟩
  rw [this.1, IntKind.wrap_u64, Int.emod_eq_of_lt]
  · exact Int.mul_nonneg hq.1 (by omega)
  · rw [← e]; exact Int.mul_lt_mul_of_pos_right hq.2 p2

/-- A round of the division, as the walk spells it. -/
theorem round_eqs {r0 x c : Int} (h : Ok r0 x c) (b : Int) (h0 : 0 ≤ b) (h1 : b ≤ 63) :
    ((rk r0 x c b / 9223372036854775808 = 1 ∨ c ≤ bits BinOp.or IntKind.u64 (IntKind.u64.wrap (rk r0 x c b * 2)) (bits BinOp.and IntKind.u64 (x / 2 ^ b.toNat) 1)) →
      IntKind.u64.wrap (bits BinOp.or IntKind.u64 (IntKind.u64.wrap (rk r0 x c b * 2)) (bits BinOp.and IntKind.u64 (x / 2 ^ b.toNat) 1) - c) = rk r0 x c (b - 1) ∧
      bits BinOp.or IntKind.u64 (IntKind.u64.wrap (qk r0 x c b * 2)) 1 = qk r0 x c (b - 1)) ∧
    (¬ rk r0 x c b / 9223372036854775808 = 1 → bits BinOp.or IntKind.u64 (IntKind.u64.wrap (rk r0 x c b * 2)) (bits BinOp.and IntKind.u64 (x / 2 ^ b.toNat) 1) < c →
      bits BinOp.or IntKind.u64 (IntKind.u64.wrap (rk r0 x c b * 2)) (bits BinOp.and IntKind.u64 (x / 2 ^ b.toNat) 1) = rk r0 x c (b - 1) ∧
      IntKind.u64.wrap (qk r0 x c b * 2) = qk r0 x c (b - 1)) := by
  have hs := step_eqs h b h0 h1
  have hr := rk_bound h b
  have hq := qk_bound h b (by omega) h1
  have hp := pow_le63 (63 - b).toNat (by omega)
  obtain ⟨g1, g2, g3, g4⟩ := h
  have hy : Rg (x / 2 ^ b.toNat) := ⟨Int.ediv_nonneg g3.1 (Int.le_of_lt (pow_pos _)), Int.lt_of_le_of_lt (Int.ediv_le_self _ g3.1) g3.2⟩
  rw [and1 _ hy]
  have hc1 := g4.2
  have hor : ∀ z : Int, bits .or .u64 (IntKind.u64.wrap (z * 2)) (x / 2 ^ b.toNat % 2) = z * 2 % 18446744073709551616 + x / 2 ^ b.toNat % 2 := fun z => by
    rw [IntKind.wrap_u64, or1 _ _ (by omega) (by omega) (by omega) (by omega) (by omega)]
  have hor1 : ∀ z : Int, bits .or .u64 (IntKind.u64.wrap (z * 2)) 1 = z * 2 % 18446744073709551616 + 1 := fun z => by
    rw [IntKind.wrap_u64, or1 _ _ (by omega) (by omega) (by omega) (by omega) (by omega)]
  rw [hor, hor1, IntKind.wrap_u64, IntKind.wrap_u64]
  generalize x / 2 ^ b.toNat = y at *
  generalize rk r0 x c b = r at *
  generalize qk r0 x c b = q at *
  generalize (2 : Int) ^ (63 - b).toNat = P at *
  generalize qk r0 x c (b - 1) = q' at *
  generalize rk r0 x c (b - 1) = r' at *
  obtain ⟨s1, s2⟩ := hs
  by_cases hge : c ≤ 2 * r + y % 2
  · obtain ⟨e1, e2⟩ := s1 hge
    subst e1 e2
    exact ⟨fun _ => by omega, fun _ _ => by omega⟩
  · obtain ⟨e1, e2⟩ := s2 (by omega)
    subst e1 e2
    exact ⟨fun _ => by omega, fun _ _ => by omega⟩

/-- The words of the quotient of a number of two words, and the remainder. -/
def dq0 (h c : Int) : Int := h / c
def dq1 (h l c : Int) : Int := (h % c * 18446744073709551616 + l) / c
def dr (h l c : Int) : Int := (h * 18446744073709551616 + l) % c
theorem nk_end (r0 x : Int) : nk r0 x (-1) = r0 * 18446744073709551616 + x := by
  unfold nk
  have e2 : (2 : Int) ^ (63 - (-1 : Int)).toNat = 18446744073709551616 := rfl
  have e3 : x / 2 ^ ((-1 : Int) + 1).toNat = x := by show x / 2 ^ 0 = x; simp
  rw [e2, e3]
theorem first_word (h c : Int) : rk 0 h c (-1) = h % c ∧ qk 0 h c (-1) = dq0 h c := by
  unfold rk qk dq0; rw [nk_end]; simp
theorem second_word (h l c : Int) : rk (h % c) l c (-1) = dr h l c ∧ qk (h % c) l c (-1) = dq1 h l c := by
  unfold rk qk dq1 dr; rw [nk_end]
  refine ⟨?_, rfl⟩
  have : h * 18446744073709551616 + l = (h % c * 18446744073709551616 + l) + c * (h / c * 18446744073709551616) := by
    have := Int.emod_add_mul_ediv h c
    generalize h % c = a at *
    generalize h / c = b at *
    subst this
    grind
  rw [this, Int.add_mul_emod_self_left]

/-- What the two words of a product divided give, as whole numbers. -/
theorem dq_all {P h l c : Int} (hh : Rg h) (hl : Rg l) (hc : Rg c) (hc0 : c ≠ 0) (hP : P = h * 18446744073709551616 + l) :
    Rg (dq0 h c) ∧ Rg (dq1 h l c) ∧ P / c = dq0 h c * 18446744073709551616 + dq1 h l c ∧ P % c = dr h l c ∧ 0 ≤ dr h l c ∧ dr h l c < c := by
  have h1 : Ok 0 h c := ⟨by omega, by have := hc.1; omega, hh, hc⟩
  have h2 : Ok (h % c) l c := ⟨Int.emod_nonneg _ hc0, Int.emod_lt_of_pos _ (by have := hc.1; omega), hl, hc⟩
  have b1 := qk_bound h1 (-1) (by omega) (by omega)
  have b2 := qk_bound h2 (-1) (by omega) (by omega)
  have e2 : (2 : Int) ^ (63 - (-1 : Int)).toNat = 18446744073709551616 := rfl
  rw [(first_word h c).2, e2] at b1
  rw [(second_word h l c).2, e2] at b2
  have b3 := rk_bound h2 (-1)
  rw [(second_word h l c).1] at b3
  have hc1 : 0 < c := by have := hc.1; omega
  have d1 := Int.emod_add_mul_ediv h c
  have d2 := Int.emod_add_mul_ediv (h % c * 18446744073709551616 + l) c
  have d3 : (h % c * 18446744073709551616 + l) % c = dr h l c := by rw [← nk_end, ← (second_word h l c).1]; rfl
  have := div_is (n := P) (c := c) (q := dq0 h c * 18446744073709551616 + dq1 h l c) (r := dr h l c) hc1 (by
    rw [hP]; rw [d3] at d2; unfold dq0; unfold dq1
    generalize h / c = x at *
    generalize h % c = y at *
    generalize (y * 18446744073709551616 + l) / c = z at *
    generalize dr h l c = r at *
    grind) b3.1 b3.2
  exact ⟨b1, b2, this.1, this.2, b3⟩

/-! ### MulDiv, Mod and Cmp of any integers -/
def away (m : Int) (neg odd : Bool) (r c : Int) : Bool :=
  if r = 0 then false else if m = 2 then true else if m = 3 then decide (c - r ≤ r) else if m = 4 then decide (c - r < r) || (decide (r = c - r) && odd) else if m = 5 then neg else false
def sg (neg : Bool) (s : Int) : Int × Int :=
  if neg = true then (if s > 9223372036854775808 then (0, 4) else (-s, 0)) else (if s ≥ 9223372036854775808 then (0, 4) else (s, 0))
/-- a * b / c, rounded: the result and the error. -/
def md (a b c m : Int) : Int × Int :=
  if m < 1 ∨ 5 < m then (0, 10) else if c = 0 then (0, 2) else
  let P : Int := (a.natAbs : Int) * b.natAbs
  let q := P / c.natAbs
  let r := P % c.natAbs
  let neg := decide (P ≠ 0) && ((decide (a < 0) != decide (b < 0)) != decide (c < 0))
  sg neg (if away m neg (decide (q % 2 = 1)) r c.natAbs = true then q + 1 else q)
def mdMod (a b c : Int) : Int × Int :=
  if c = 0 then (0, 2) else
  let r := (a.natAbs : Int) * b.natAbs % c.natAbs
  (if r ≠ 0 ∧ (decide (a < 0) != decide (b < 0)) = true then c.natAbs - r else r, 0)
def dir (a b : Int) : Int := if a = 0 then 0 else if b = 0 then 0 else if (decide (a < 0) != decide (b < 0)) = true then -1 else 1
def mdCmp (a b c d : Int) : Int := if a * b < c * d then -1 else if a * b = c * d then 0 else 1
end Go.Proofs.YticcaknflnldgaaDoor.Md
