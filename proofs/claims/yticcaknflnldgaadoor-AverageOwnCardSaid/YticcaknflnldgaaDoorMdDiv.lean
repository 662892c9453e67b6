/- The walk of muldiv.divide: the two words of the quotient and the remainder, by long division; the arguments are words, the divisor is not 0. -/
import Derived.Test.YticcaknflnldgaaDoorMdWalk
namespace Go.Proofs.YticcaknflnldgaaDoor.Md
open Go.RowKit Go.Proofs.YticcaknflnldgaaDoorW.PrintWords Go.Proofs.YticcaknflnldgaaDoorW.PrintLast

/-- Where the division stands behind so many words. -/
def St (h l c : Int) (i : Nat) (r q0 q1 : Int) : Prop :=
  (i = 0 ∧ r = 0 ∧ q0 = 0 ∧ q1 = 0) ∨ (i = 1 ∧ r = h % c ∧ q0 = dq0 h c ∧ q1 = 0) ∨ (i = 2 ∧ r = dr h l c ∧ q0 = dq0 h c ∧ q1 = dq1 h l c)
/-- The world while it divides: the number, and the quotient so far. -/
abbrev Wd (w : World) (h l q0 q1 : Int) : World := (w.alloc (.cells #[.int .u64 h, .int .u64 l] 64)).alloc (.cells #[.int .u64 q0, .int .u64 q1] 64)

set_option maxHeartbeats 3200000 in
set_option maxRecDepth 100000 in
theorem divide_calls (h l c : Int) (hh : Rg h) (hl : Rg l) (hc : Rg c) (hc0 : c ≠ 0) (w : World) :
    Calls Tryd.prog 76 #[.agg #[.int .u64 h, .int .u64 l], .int .u64 c] w fun e w' => e = .returned (.tuple #[.agg #[.int .u64 (dq0 h c), .int .u64 (dq1 h l c)], .int .u64 (dr h l c)]) ∧ Below w.heap.size w w' := by
  have i0 : ∀ w, (Instr.index 64 (.agg #[.int .u64 h, .int .u64 l]) (.int .i64 0)).run Tryd.prog w = .ok (.int .u64 h) w := fun _ => by kernel_rfl
  have i1 : ∀ w, (Instr.index 64 (.agg #[.int .u64 h, .int .u64 l]) (.int .i64 1)).run Tryd.prog w = .ok (.int .u64 l) w := fun _ => by kernel_rfl
  have O0 : Aside0 (Ok 0 h c) := ⟨⟨by omega, by have := hc.1; omega, hh, hc⟩⟩
  have O1 : Aside0 (Ok (h % c) l c) := ⟨⟨Int.emod_nonneg _ hc0, Int.emod_lt_of_pos _ (by have := hc.1; omega), hl, hc⟩⟩
  clear hh hl hc hc0
  go_enter Tryd.func76, Tryd.ntmps76
  go_wp2
  go_step3
  go_wp2
  go_step3
  go_wp2
  go_loopw [5, 11] (fun s5 s11 wx => ∃ (i : Nat) (r q0 q1 : Int), St h l c i r q0 q1 ∧ s11 = .int .i64 i ∧ s5 = .int .u64 r ∧ wx = Wd w h l q0 q1) (fun _ s11 _ => (2 - intOf s11).toNat)
  case atStart => exact ⟨0, 0, 0, 0, .inl ⟨rfl, rfl, rfl, rfl⟩, rfl, rfl, rfl⟩
  case round =>
    obtain ⟨i, r, q0, q1, hst, rfl, rfl, rfl⟩ := hrel
    rcases hst with ⟨rfl, hr, rfl, rfl⟩ | ⟨rfl, hr, rfl, rfl⟩ | ⟨rfl, rfl, rfl, rfl⟩
    · have HR := Aside0.mk hr; clear hr
      go_wp2
      go_loopw [5, 8] (fun s5 s8 wx => ∃ b : Int, -1 ≤ b ∧ b ≤ 63 ∧ s8 = .int .i64 b ∧ s5 = .int .u64 (rk 0 h c b) ∧ wx = Wd w h l (qk 0 h c b) 0) (fun _ s8 _ => (intOf s8 + 1).toNat)
      case atStart => exact ⟨63, by omega, by omega, rfl, by rw [(nk_start O0.out).1, HR.out], by rw [(nk_start O0.out).2]⟩
      case round =>
        obtain ⟨b, hb1, hb2, rfl, rfl, rfl⟩ := hrel
        by_cases hb : b < 0
        · obtain rfl : b = -1 := by omega
          go_wp2
          go_roundw
          case rel => exact ⟨1, _, _, _, .inr (.inl ⟨rfl, (first_word h c).1, (first_word h c).2, rfl⟩), rfl, rfl, rfl⟩
          case measure => simp [intOf]
        · by_cases hz : (rk 0 h c b) = 0 ∧ IntKind.u64.wrap (h * 2 ^ (63 - b).toNat) = 0
          · have z1 : ((rk 0 h c b) == 0) = true := beq_iff_eq.mpr hz.1
            have z2 : (IntKind.u64.wrap (h * 2 ^ (63 - b).toNat) == 0) = true := beq_iff_eq.mpr hz.2
            have S := Aside0.mk (skip_eqs O0.out b (by omega) hb2 hz.1 hz.2)
            have Z := Aside0.mk hz.1
            clear hz
            go_wp2
            go_roundw
            case rel => rw [S.out.1, Z.out.trans S.out.2.symm]; exact ⟨1, _, _, _, .inr (.inl ⟨rfl, (first_word h c).1, (first_word h c).2, rfl⟩), rfl, rfl, rfl⟩
            case measure => simp [intOf]
          · have E := Aside0.mk (round_eqs O0.out b (by omega) hb2)
            have hz' : ((rk 0 h c b) == 0) = false ∨ (((rk 0 h c b) == 0) = true ∧ (IntKind.u64.wrap (h * 2 ^ (63 - b).toNat) == 0) = false) := by
              by_cases h1 : (rk 0 h c b) = 0
              · exact .inr ⟨beq_iff_eq.mpr h1, beq_eq_false_iff_ne.mpr fun h2 => hz ⟨h1, h2⟩⟩
              · exact .inl (beq_eq_false_iff_ne.mpr h1)
            clear hz
            by_cases hp : (rk 0 h c b) / 9223372036854775808 = 1
            · have G : Aside0 ((rk 0 h c b) / 9223372036854775808 = 1 ∨ c ≤ (bits BinOp.or IntKind.u64 (IntKind.u64.wrap (rk 0 h c b * 2)) (bits BinOp.and IntKind.u64 (h / 2 ^ b.toNat) 1))) := ⟨.inl hp⟩
              have p1 : ((rk 0 h c b) / 9223372036854775808 == 1) = true := beq_iff_eq.mpr hp
              clear hp
              rcases hz' with z1 | ⟨z1, z2⟩
              all_goals
                go_wp2
                go_roundw
                case rel => exact ⟨b - 1, by omega, by omega, rfl, by rw [(E.out.1 G.out).1], by rw [(E.out.1 G.out).2]⟩
                case measure => simp [intOf]; omega
            · have p1 : ((rk 0 h c b) / 9223372036854775808 == 1) = false := beq_eq_false_iff_ne.mpr hp
              by_cases hg : c ≤ (bits BinOp.or IntKind.u64 (IntKind.u64.wrap (rk 0 h c b * 2)) (bits BinOp.and IntKind.u64 (h / 2 ^ b.toNat) 1))
              · have G : Aside0 ((rk 0 h c b) / 9223372036854775808 = 1 ∨ c ≤ (bits BinOp.or IntKind.u64 (IntKind.u64.wrap (rk 0 h c b * 2)) (bits BinOp.and IntKind.u64 (h / 2 ^ b.toNat) 1))) := ⟨.inr hg⟩
                have g1 : decide (c ≤ (bits BinOp.or IntKind.u64 (IntKind.u64.wrap (rk 0 h c b * 2)) (bits BinOp.and IntKind.u64 (h / 2 ^ b.toNat) 1))) = true := decide_eq_true hg
                clear hp hg
                rcases hz' with z1 | ⟨z1, z2⟩
                all_goals
                  go_wp2
                  go_roundw
                  case rel => exact ⟨b - 1, by omega, by omega, rfl, by rw [(E.out.1 G.out).1], by rw [(E.out.1 G.out).2]⟩
                  case measure => simp [intOf]; omega
              · have G : Aside0 (¬ (rk 0 h c b) / 9223372036854775808 = 1 ∧ (bits BinOp.or IntKind.u64 (IntKind.u64.wrap (rk 0 h c b * 2)) (bits BinOp.and IntKind.u64 (h / 2 ^ b.toNat) 1)) < c) := ⟨hp, by omega⟩
                have g1 : decide (c ≤ (bits BinOp.or IntKind.u64 (IntKind.u64.wrap (rk 0 h c b * 2)) (bits BinOp.and IntKind.u64 (h / 2 ^ b.toNat) 1))) = false := decide_eq_false hg
                clear hp hg
                rcases hz' with z1 | ⟨z1, z2⟩
                all_goals
                  go_wp2
                  go_roundw
                  case rel => exact ⟨b - 1, by omega, by omega, rfl, by rw [(E.out.2 G.out.1 G.out.2).1], by rw [(E.out.2 G.out.1 G.out.2).2]⟩
                  case measure => simp [intOf]; omega
    · have HR := Aside0.mk hr; clear hr
      go_wp2
      go_loopw [5, 8] (fun s5 s8 wx => ∃ b : Int, -1 ≤ b ∧ b ≤ 63 ∧ s8 = .int .i64 b ∧ s5 = .int .u64 (rk (h % c) l c b) ∧ wx = Wd w h l (dq0 h c) (qk (h % c) l c b)) (fun _ s8 _ => (intOf s8 + 1).toNat)
      case atStart => exact ⟨63, by omega, by omega, rfl, by rw [(nk_start O1.out).1, HR.out], by rw [(nk_start O1.out).2]⟩
      case round =>
        obtain ⟨b, hb1, hb2, rfl, rfl, rfl⟩ := hrel
        by_cases hb : b < 0
        · obtain rfl : b = -1 := by omega
          go_wp2
          go_roundw
          case rel => exact ⟨2, _, _, _, .inr (.inr ⟨rfl, (second_word h l c).1, rfl, (second_word h l c).2⟩), rfl, rfl, rfl⟩
          case measure => simp [intOf]
        · by_cases hz : (rk (h % c) l c b) = 0 ∧ IntKind.u64.wrap (l * 2 ^ (63 - b).toNat) = 0
          · have z1 : ((rk (h % c) l c b) == 0) = true := beq_iff_eq.mpr hz.1
            have z2 : (IntKind.u64.wrap (l * 2 ^ (63 - b).toNat) == 0) = true := beq_iff_eq.mpr hz.2
            have S := Aside0.mk (skip_eqs O1.out b (by omega) hb2 hz.1 hz.2)
            have Z := Aside0.mk hz.1
            clear hz
            go_wp2
            go_roundw
            case rel => rw [S.out.1, Z.out.trans S.out.2.symm]; exact ⟨2, _, _, _, .inr (.inr ⟨rfl, (second_word h l c).1, rfl, (second_word h l c).2⟩), rfl, rfl, rfl⟩
            case measure => simp [intOf]
          · have E := Aside0.mk (round_eqs O1.out b (by omega) hb2)
            have hz' : ((rk (h % c) l c b) == 0) = false ∨ (((rk (h % c) l c b) == 0) = true ∧ (IntKind.u64.wrap (l * 2 ^ (63 - b).toNat) == 0) = false) := by
              by_cases h1 : (rk (h % c) l c b) = 0
              · exact .inr ⟨beq_iff_eq.mpr h1, beq_eq_false_iff_ne.mpr fun h2 => hz ⟨h1, h2⟩⟩
              · exact .inl (beq_eq_false_iff_ne.mpr h1)
            clear hz
            by_cases hp : (rk (h % c) l c b) / 9223372036854775808 = 1
            · have G : Aside0 ((rk (h % c) l c b) / 9223372036854775808 = 1 ∨ c ≤ (bits BinOp.or IntKind.u64 (IntKind.u64.wrap (rk (h % c) l c b * 2)) (bits BinOp.and IntKind.u64 (l / 2 ^ b.toNat) 1))) := ⟨.inl hp⟩
              have p1 : ((rk (h % c) l c b) / 9223372036854775808 == 1) = true := beq_iff_eq.mpr hp
              clear hp
              rcases hz' with z1 | ⟨z1, z2⟩
              all_goals
                go_wp2
                go_roundw
                case rel => exact ⟨b - 1, by omega, by omega, rfl, by rw [(E.out.1 G.out).1], by rw [(E.out.1 G.out).2]⟩
                case measure => simp [intOf]; omega
            · have p1 : ((rk (h % c) l c b) / 9223372036854775808 == 1) = false := beq_eq_false_iff_ne.mpr hp
              by_cases hg : c ≤ (bits BinOp.or IntKind.u64 (IntKind.u64.wrap (rk (h % c) l c b * 2)) (bits BinOp.and IntKind.u64 (l / 2 ^ b.toNat) 1))
              · have G : Aside0 ((rk (h % c) l c b) / 9223372036854775808 = 1 ∨ c ≤ (bits BinOp.or IntKind.u64 (IntKind.u64.wrap (rk (h % c) l c b * 2)) (bits BinOp.and IntKind.u64 (l / 2 ^ b.toNat) 1))) := ⟨.inr hg⟩
                have g1 : decide (c ≤ (bits BinOp.or IntKind.u64 (IntKind.u64.wrap (rk (h % c) l c b * 2)) (bits BinOp.and IntKind.u64 (l / 2 ^ b.toNat) 1))) = true := decide_eq_true hg
                clear hp hg
                rcases hz' with z1 | ⟨z1, z2⟩
                all_goals
                  go_wp2
                  go_roundw
                  case rel => exact ⟨b - 1, by omega, by omega, rfl, by rw [(E.out.1 G.out).1], by rw [(E.out.1 G.out).2]⟩
                  case measure => simp [intOf]; omega
              · have G : Aside0 (¬ (rk (h % c) l c b) / 9223372036854775808 = 1 ∧ (bits BinOp.or IntKind.u64 (IntKind.u64.wrap (rk (h % c) l c b * 2)) (bits BinOp.and IntKind.u64 (l / 2 ^ b.toNat) 1)) < c) := ⟨hp, by omega⟩
                have g1 : decide (c ≤ (bits BinOp.or IntKind.u64 (IntKind.u64.wrap (rk (h % c) l c b * 2)) (bits BinOp.and IntKind.u64 (l / 2 ^ b.toNat) 1))) = false := decide_eq_false hg
                clear hp hg
                rcases hz' with z1 | ⟨z1, z2⟩
                all_goals
                  go_wp2
                  go_roundw
                  case rel => exact ⟨b - 1, by omega, by omega, rfl, by rw [(E.out.2 G.out.1 G.out.2).1], by rw [(E.out.2 G.out.1 G.out.2).2]⟩
                  case measure => simp [intOf]; omega
    · go_wp2
      rw [Exit.noGoto_ret]
      refine bodyPost_ret (v := .tuple #[.agg #[.int .u64 (dq0 h c), .int .u64 (dq1 h l c)], .int .u64 (dr h l c)]) (by simp [results, Tryd.results76, go_sem]) rfl ⟨rfl, ?_⟩
      repeat (first | exact Below.refl _ _ | apply below_alloc | apply pw_below_drewN | apply below_drew)

/-! The same with names for what comes out: the kernel would lay a great numeral's product open. -/
theorem multiply_is (a b hi lo : Int) (ha : Rg a) (hb : Rg b) (h1 : mulHi a b = hi) (h2 : mulLo a b = lo) (w : World) :
    Calls Tryd.prog 29 #[.int .u64 a, .int .u64 b] w fun e w' => e = .returned (.agg #[.int .u64 hi, .int .u64 lo]) ∧ Below w.heap.size w w' := by
  subst h1; subst h2
  exact multiply_calls a b ha hb w
theorem divide_is (h l c q0 q1 r : Int) (hh : Rg h) (hl : Rg l) (hc : Rg c) (hc0 : c ≠ 0) (h1 : dq0 h c = q0) (h2 : dq1 h l c = q1) (h3 : dr h l c = r) (w : World) :
    Calls Tryd.prog 76 #[.agg #[.int .u64 h, .int .u64 l], .int .u64 c] w fun e w' => e = .returned (.tuple #[.agg #[.int .u64 q0, .int .u64 q1], .int .u64 r]) ∧ Below w.heap.size w w' := by
  subst h1; subst h2; subst h3
  exact divide_calls h l c hh hl hc hc0 w
theorem magnitude_is (a m : Int) (h : I64 a) (hm : (a.natAbs : Int) = m) (w : World) :
    Calls Tryd.prog 30 #[.int .i64 a] w fun e w' => e = .returned (.int .u64 m) ∧ w = w' := by
  subst hm
  exact magnitude_calls a h w
theorem compare_is (a b c d x : Int) (hx : cmp2 a b c d = x) (w : World) :
    Calls Tryd.prog 32 #[.agg #[.int .u64 a, .int .u64 b], .agg #[.int .u64 c, .int .u64 d]] w fun e w' => e = .returned (.int .i64 x) ∧ Below w.heap.size w w' := by
  subst hx
  exact compare_calls a b c d w
end Go.Proofs.YticcaknflnldgaaDoor.Md
