/- The laws of chapter 2, over plain numbers: what md, mdMod and mdCmp answer; no condition but that the arguments are integers of 64 bits. -/
import Derived.Test.YtmmokegelmgdeaaStat
import Derived.OpenShut
namespace Go.Proofs.Ytmmokegelmgdeaa.Pure
open Go.RowKit Go.Proofs.YtmmokegelmgdeaaW.PrintWords Go.Proofs.YtmmokegelmgdeaaW.PrintLast Go.Proofs.YtmmokegelmgdeaaW.PrintMore Go.Proofs.Ytmmokegelmgdeaa.Q Go.Proofs.Ytmmokegelmgdeaa.Md
set_option linter.unusedVariables false
set_option linter.unusedSimpArgs false

theorem i64_of {a : Int} (h : (Lit.int .i64 a).wf = true) : I64 a := bounds_i64 h

theorem lives_true : accountinglaw02_lives.f = some true := by decide +kernel

def val (neg : Bool) (s : Int) : Int := if neg = true then -s else s

theorem sg_val {neg : Bool} {s : Int} (h : 0 ≤ s) : sg neg s = if I64 (val neg s) then (val neg s, 0) else (0, 4) := by
  unfold sg val I64
  cases neg
  · simp only [Bool.false_eq_true, if_false]
    by_cases h1 : s ≥ 9223372036854775808
    · rw [if_pos h1, if_neg (by omega)]
    · rw [if_neg h1, if_pos (by omega)]
  · simp only [if_true]
    by_cases h1 : s > 9223372036854775808
    · rw [if_pos h1, if_neg (by omega)]
    · rw [if_neg h1, if_pos (by omega)]

/-- The size in mode m. -/
def szm (neg : Bool) (m q r C : Int) : Int := if away m neg (decide (q % 2 = 1)) r C = true then q + 1 else q

/-- What is known of a * b and c: sign, quotient and remainder; and all that md and mdMod answer. -/
structure Known (a b c : Int) (C q r : Int) (neg opp : Bool) : Prop where
  pos : 0 < C
  absC : C = c ∨ C = -c
  q0 : 0 ≤ q
  r0 : 0 ≤ r
  rC : r < C
  isX : val neg (q * C + r) = (if c < 0 then -(a * b) else a * b)
  nz : neg = true → q * C + r ≠ 0
  md_is : ∀ m, 1 ≤ m → m ≤ 5 → md a b c m = if I64 (val neg (szm neg m q r C)) then (val neg (szm neg m q r C), 0) else (0, 4)
  isP : val opp (q * C + r) = a * b
  mod_is : mdMod a b c = (if r ≠ 0 ∧ opp = true then C - r else r, 0)

theorem known {a b c : Int} (hc : c ≠ 0) : ∃ C q r neg opp, Known a b c C q r neg opp := by
  have hC : (0 : Int) < c.natAbs := by omega
  have hP : (0 : Int) ≤ (a.natAbs : Int) * b.natAbs := Int.mul_nonneg (by omega) (by omega)
  have hd := Int.emod_add_mul_ediv ((a.natAbs : Int) * b.natAbs) c.natAbs
  have hr0 := Int.emod_nonneg ((a.natAbs : Int) * b.natAbs) (show (c.natAbs : Int) ≠ 0 by omega)
  have hr1 := Int.emod_lt_of_pos ((a.natAbs : Int) * b.natAbs) hC
  have hq0 := Int.ediv_nonneg hP (show (0 : Int) ≤ c.natAbs by omega)
  have hP2 : (a.natAbs : Int) * b.natAbs / c.natAbs * c.natAbs + (a.natAbs : Int) * b.natAbs % c.natAbs = (a.natAbs : Int) * b.natAbs := by
    rw [Int.mul_comm, Int.add_comm]; exact hd
  have ps := prod_sign a b
  refine ⟨c.natAbs, (a.natAbs : Int) * b.natAbs / c.natAbs, (a.natAbs : Int) * b.natAbs % c.natAbs, decide ((a.natAbs : Int) * b.natAbs ≠ 0) && ((decide (a < 0) != decide (b < 0)) != decide (c < 0)), (decide (a < 0) != decide (b < 0)), ?_⟩
  have hab : val (decide (a < 0) != decide (b < 0)) ((a.natAbs : Int) * b.natAbs) = a * b := by
    unfold val
    rcases ps with ⟨h1, h2, h3⟩ | ⟨h1, h2, h3⟩ | ⟨h1, h2, h3⟩
    · rw [h2, h3]; simp
    · have : (decide (a < 0) != decide (b < 0)) = true := by
        unfold dir at h1
        by_cases g1 : a = 0
        · rw [if_pos g1] at h1; omega
        by_cases g2 : b = 0
        · rw [if_neg g1, if_pos g2] at h1; omega
        rw [if_neg g1, if_neg g2] at h1
        by_cases g3 : (decide (a < 0) != decide (b < 0)) = true
        · exact g3
        · rw [if_neg g3] at h1; omega
      rw [this, if_pos rfl, h2]
    · have : ¬ (decide (a < 0) != decide (b < 0)) = true := by
        intro g3
        unfold dir at h1
        by_cases g1 : a = 0
        · rw [if_pos g1] at h1; omega
        by_cases g2 : b = 0
        · rw [if_neg g1, if_pos g2] at h1; omega
        rw [if_neg g1, if_neg g2, if_pos g3] at h1; omega
      rw [if_neg this, h2]
  refine ⟨hC, by omega, hq0, hr0, hr1, ?_, ?_, ?_, ?_, ?_⟩
  · rw [hP2]
    by_cases hz : (a.natAbs : Int) * b.natAbs = 0
    · have h0 : a * b = 0 := by rw [← hab, hz]; unfold val; simp
      rw [hz, h0]; unfold val; simp
    · rw [decide_eq_true hz, Bool.true_and]
      by_cases h3 : c < 0
      · rw [if_pos h3, ← hab]
        unfold val
        simp only [h3, decide_true]
        cases (decide (a < 0) != decide (b < 0)) <;> simp
      · rw [if_neg h3, ← hab]
        unfold val
        simp only [h3, decide_false]
        cases (decide (a < 0) != decide (b < 0)) <;> simp
  · intro h
    rw [hP2]
    intro hz
    rw [hz] at h
    simp at h
  · intro m h1 h2
    unfold md
    rw [if_neg (by omega), if_neg hc]
    simp only []
    rw [sg_val (by split <;> omega)]
    rfl
  · rw [hP2]; exact hab
  · unfold mdMod
    rw [if_neg hc]

theorem val_neg (neg : Bool) (s : Int) : val (!neg) s = -(val neg s) := by
  unfold val; cases neg <;> simp

theorem away_zero (m : Int) (neg odd : Bool) (C : Int) : away m neg odd 0 C = false := by unfold away; rw [if_pos rfl]

theorem wrap_lin {q c r p : Int} (h : q * c + r = p) : wrap64 (wrap64 (q * c) + r) = wrap64 p := by
  rw [← h]
  generalize q * c = z
  unfold wrap64; omega

theorem MuldivReference : MuldivReferenceP := by
  intro a b c d ha hb hc hd
  have ha := i64_of ha
  have hb := i64_of hb
  have hc := i64_of hc
  have h1 : I64 1 := by unfold I64; omega
  unfold accountinglaw02_MuldivReference.f muldiv_Div.f accountingref02_Div.f muldiv_MulDiv.f accountingref02_MulDiv.f muldiv_Mod.f accountingref02_Mod.f MulDiv_f Mod_f
  rw [if_pos ⟨ha, h1, hc⟩, if_pos ⟨ha, hb, hc⟩, if_pos ⟨ha, hb, hc⟩]
  simp only [Option.bind_some]
  unfold accountinglaw02_is.f
  simp only [if_true, Option.bind_some, beq_self_eq_true, lives_true]

theorem cmp_swap (a b c d : Int) : mdCmp c d a b = -(mdCmp a b c d) := by
  unfold mdCmp
  generalize a * b = x
  generalize c * d = y
  split <;> (try split) <;> (try split) <;> (try split) <;> omega

theorem cmp_bound (a b c d : Int) : -1 ≤ mdCmp a b c d ∧ mdCmp a b c d ≤ 1 := by
  unfold mdCmp; split <;> (try split) <;> omega

theorem MuldivCompares : MuldivComparesP := by
  intro a b c d ha hb hc hd
  have ha := i64_of ha
  have hb := i64_of hb
  have hc := i64_of hc
  have hd := i64_of hd
  refine ⟨1, ?_⟩
  unfold accountinglaw02_MuldivCompares.f muldiv_Cmp.f Cmp_f
  rw [if_pos ⟨ha, hb, hc, hd⟩, if_pos ⟨hc, hd, ha, hb⟩, if_pos ⟨ha, hb, hb, ha⟩]
  simp only [Option.bind_some]
  have hz : mdCmp a b b a = 0 := by unfold mdCmp; rw [Int.mul_comm b a, if_neg (by omega), if_pos rfl]
  have bd := cmp_bound a b c d
  have hw : wrap64 (-(mdCmp a b c d)) = -(mdCmp a b c d) := by unfold wrap64; omega
  rw [cmp_swap, hw, if_pos rfl, hz]
  simp only [accountinglaw02_MuldivCompares.j0]
  rw [if_neg (by decide)]
  unfold accountingref02_Cmp.f Cmp_f
  rw [if_pos ⟨ha, hb, hc, hd⟩]
  simp only [Option.bind_some, if_true, lives_true]

theorem floor_val {a b c C q r : Int} {neg opp : Bool} (k : Known a b c C q r neg opp) (hc : 0 < c) :
    val neg (szm neg 5 q r C) * c + (if r ≠ 0 ∧ opp = true then C - r else r) = a * b := by
  have hC : C = c := by rcases k.absC with h | h; exact h; have := k.pos; omega
  have hX := k.isX
  have hP := k.isP
  have hnz := k.nz
  have hr0 := k.r0; have hrC := k.rC; have hpos := k.pos
  rw [if_neg (by omega)] at hX
  subst hC
  unfold szm away
  by_cases hr : r = 0
  · subst hr
    rw [if_pos rfl, if_neg (by simp), if_neg (by simp), ← hX]
    unfold val
    cases neg <;> simp [Int.neg_mul]
  · have h5 : away 5 neg (decide (q % 2 = 1)) r C = neg := by
      unfold away; rw [if_neg hr, if_neg (by omega), if_neg (by omega), if_neg (by omega), if_pos rfl]
    unfold away at h5
    rw [h5]
    cases neg
    · rw [if_neg (by simp)]
      unfold val at hX ⊢
      simp only [Bool.false_eq_true, if_false] at hX ⊢
      have hopp : ¬ (r ≠ 0 ∧ opp = true) := by
        rintro ⟨_, ho⟩
        subst ho
        unfold val at hP
        simp only [if_true] at hP
        have := Int.mul_nonneg k.q0 (show 0 ≤ C by omega)
        omega
      rw [if_neg hopp, hX]
    · rw [if_pos rfl]
      unfold val at hX ⊢
      simp only [if_true] at hX ⊢
      have hopp : r ≠ 0 ∧ opp = true := by
        refine ⟨hr, ?_⟩
        cases opp
        · unfold val at hP
          simp only [Bool.false_eq_true, if_false] at hP
          have := Int.mul_nonneg k.q0 (show 0 ≤ C by omega)
          omega
        · rfl
      rw [if_pos hopp, ← hX]
      grind

theorem MuldivDivides : MuldivDividesP := by
  intro a b c ha hb hc
  have ha := i64_of ha
  have hb := i64_of hb
  have hc := i64_of hc
  refine ⟨1, ?_⟩
  unfold accountinglaw02_MuldivDivides.f muldiv_MulDiv.f muldiv_Mod.f MulDiv_f Mod_f
  rw [if_pos ⟨ha, hb, hc⟩, if_pos ⟨ha, hb, hc⟩]
  simp only [Option.bind_some, accountinglaw02_MuldivDivides.j0]
  by_cases h1 : c < 1
  · rw [if_pos h1]; simp only [if_true, lives_true, Option.bind_some]
  rw [if_neg h1]
  obtain ⟨C, q, r, neg, opp, k⟩ := known (a := a) (b := b) (c := c) (by omega)
  rw [k.md_is 5 (by omega) (by omega), k.mod_is]
  have fl := floor_val k (by omega)
  have hr0 := k.r0; have hrC := k.rC; have hpos := k.pos
  have hC : C = c := by rcases k.absC with h | h; exact h; omega
  by_cases hv : I64 (val neg (szm neg 5 q r C))
  · rw [if_pos hv]
    simp only []
    rw [if_neg (by decide)]
    simp only [if_true]
    have b1 : 0 ≤ (if r ≠ 0 ∧ opp = true then C - r else r) ∧ (if r ≠ 0 ∧ opp = true then C - r else r) < c := by split <;> omega
    rw [if_pos b1.1, if_pos b1.2, wrap_lin fl, if_pos rfl]
    unfold muldiv_Cmp.f Cmp_f
    rw [if_pos ⟨hv, hc, ha, hb⟩]
    simp only [Option.bind_some]
    have : mdCmp (val neg (szm neg 5 q r C)) c a b ≤ 0 := by
      have b0 := b1.1
      generalize (if r ≠ 0 ∧ opp = true then C - r else r) = y at *
      unfold mdCmp
      rw [← fl]
      generalize val neg (szm neg 5 q r C) * c = z at *
      by_cases hh : z < z + y
      · rw [if_pos hh]; omega
      · rw [if_neg hh, if_pos (by omega)]; omega
    rw [if_pos this, lives_true]
    rfl
  · rw [if_neg hv]
    simp only []
    rw [if_pos (by decide), lives_true]
    rfl

/-- In any mode the value is the one of Floor or the next greater integer; Floor's where there is no remainder. -/
theorem mode_val {a b c C q r : Int} {neg opp : Bool} (k : Known a b c C q r neg opp) (m : Int) :
    (r = 0 → val neg (szm neg m q r C) = val neg (szm neg 5 q r C)) ∧ (val neg (szm neg m q r C) = val neg (szm neg 5 q r C) ∨ val neg (szm neg m q r C) = val neg (szm neg 5 q r C) + 1) := by
  constructor
  · intro h; subst h; unfold szm; rw [away_zero, away_zero]
  · unfold szm val
    cases neg
    · have h5 : away 5 false (decide (q % 2 = 1)) r C = false := by
        unfold away; split
        · rfl
        · rw [if_neg (by omega), if_neg (by omega), if_neg (by omega), if_pos rfl]
      rw [h5]; simp only [Bool.false_eq_true, if_false]
      split <;> omega
    · by_cases hr : r = 0
      · subst hr; rw [away_zero, away_zero]; simp
      · have h5 : away 5 true (decide (q % 2 = 1)) r C = true := by
          unfold away; rw [if_neg hr, if_neg (by omega), if_neg (by omega), if_neg (by omega), if_pos rfl]
        rw [h5]; simp only [if_true]
        split <;> omega

theorem some_mode {a b c C q r : Int} {neg opp : Bool} (k : Known a b c C q r neg opp) (hr : r ≠ 0) :
    ¬ (val neg (szm neg 1 q r C) = val neg (szm neg 5 q r C) ∧ val neg (szm neg 2 q r C) = val neg (szm neg 5 q r C)) := by
  have h1 : away 1 neg (decide (q % 2 = 1)) r C = false := by
    unfold away; rw [if_neg hr, if_neg (by omega), if_neg (by omega), if_neg (by omega), if_neg (by omega)]
  have h2 : away 2 neg (decide (q % 2 = 1)) r C = true := by
    unfold away; rw [if_neg hr, if_pos rfl]
  unfold szm
  rw [h1, h2]
  have h5 : away 5 neg (decide (q % 2 = 1)) r C = neg := by
    unfold away; rw [if_neg hr, if_neg (by omega), if_neg (by omega), if_neg (by omega), if_pos rfl]
  rw [h5]
  simp only [Bool.false_eq_true, if_false, if_true]
  unfold val
  cases neg <;> simp <;> omega

theorem modes_loop {a b c C q r : Int} {neg opp : Bool} (ha : I64 a) (hb : I64 b) (hc : I64 c) (k : Known a b c C q r neg opp) (hv1 : -1000000000000000 ≤ val neg (szm neg 5 q r C)) (hv2 : val neg (szm neg 5 q r C) ≤ 1000000000000000) (m0 : Int) (d : Nat) :
    ∀ (n : Nat) (same : Bool) (m : Int), 1 ≤ m → m + d = 6 → d < n → (r = 0 → same = true) → (2 < m → (same = true → val neg (szm neg 1 q r C) = val neg (szm neg 5 q r C) ∧ val neg (szm neg 2 q r C) = val neg (szm neg 5 q r C))) → (m = 2 → (same = true → val neg (szm neg 1 q r C) = val neg (szm neg 5 q r C))) →
      accountinglaw02_MuldivModes.l0 n a b c (val neg (szm neg 5 q r C)) (if r ≠ 0 ∧ opp = true then C - r else r) same m = some true := by
  have hr0 := k.r0; have hrC := k.rC
  induction d with
  | zero =>
    intro n same m h1 hm hn hz hs _
    obtain ⟨n, rfl⟩ : ∃ x, n = x + 1 := ⟨n - 1, by omega⟩
    simp only [accountinglaw02_MuldivModes.l0]
    rw [if_neg (by omega)]
    have e : (same == ((if r ≠ 0 ∧ opp = true then C - r else r) == 0)) = true := by
      by_cases hr : r = 0
      · rw [hz hr, hr]; simp
      · have h0 : (if r ≠ 0 ∧ opp = true then C - r else r) ≠ 0 := by split <;> omega
        have : same = false := by
          cases same
          · rfl
          · exact absurd (hs (by omega) rfl) (some_mode k hr)
        rw [this, beq_eq_false_iff_ne.mpr h0]; rfl
    rw [if_pos e, lives_true]; rfl
  | succ d ih =>
    intro n same m h1 hm hn hz hs hs2
    obtain ⟨n, rfl⟩ : ∃ x, n = x + 1 := ⟨n - 1, by omega⟩
    have mv := mode_val k m
    simp only [accountinglaw02_MuldivModes.l0]
    rw [if_pos (by omega)]
    unfold muldiv_MulDiv.f MulDiv_f
    rw [if_pos ⟨ha, hb, hc⟩, k.md_is m h1 (by omega)]
    simp only [Option.bind_some]
    have hI : I64 (val neg (szm neg m q r C)) := by unfold I64; omega
    rw [if_pos hI]
    simp only [if_true]
    have hw : wrap64 (m + 1) = m + 1 := by unfold wrap64; omega
    have hw2 : wrap64 (val neg (szm neg 5 q r C) + 1) = val neg (szm neg 5 q r C) + 1 := by unfold wrap64; omega
    rw [hw, hw2]
    have goon : ∀ s : Bool, (r = 0 → s = true) → (s = true → same = true ∧ val neg (szm neg m q r C) = val neg (szm neg 5 q r C)) → accountinglaw02_MuldivModes.l0 n a b c (val neg (szm neg 5 q r C)) (if r ≠ 0 ∧ opp = true then C - r else r) s (m + 1) = some true := fun s g1 g2 => by
      refine ih n s (m + 1) (by omega) (by omega) (by omega) g1 (fun h3 h4 => ?_) (fun h3 h4 => ?_)
      · obtain ⟨g3, g4⟩ := g2 h4
        by_cases h5 : m = 2
        · rw [h5] at g4; exact ⟨hs2 h5 g3, g4⟩
        · exact hs (by omega) g3
      · obtain ⟨g3, g4⟩ := g2 h4
        have : m = 1 := by omega
        rw [this] at g4; exact g4
    by_cases e1 : val neg (szm neg m q r C) = val neg (szm neg 5 q r C)
    · rw [if_pos e1]
      cases hsame : same
      · rw [if_neg (by simp)]
        exact goon false (fun h => by rw [hz h] at hsame; cases hsame) (fun h => by cases h)
      · rw [if_pos rfl, e1]
        exact goon _ (fun _ => by simp) (fun _ => ⟨hsame, e1⟩)
    · rw [if_neg e1]
      have e2 : val neg (szm neg m q r C) = val neg (szm neg 5 q r C) + 1 := by rcases mv.2 with h | h; exact absurd h e1; exact h
      have hrz : r ≠ 0 := fun h => e1 (mv.1 h)
      rw [if_pos e2]
      cases hsame : same
      · rw [if_neg (by simp)]
        exact goon false (fun h => absurd h hrz) (fun h => by cases h)
      · rw [if_pos rfl, beq_eq_false_iff_ne.mpr e1]
        exact goon false (fun h => absurd h hrz) (fun h => by cases h)

theorem MuldivModes : MuldivModesP := by
  intro a b c ha hb hc
  have ha := i64_of ha
  have hb := i64_of hb
  have hc := i64_of hc
  refine ⟨7, ?_⟩
  unfold accountinglaw02_MuldivModes.f
  rw [show muldiv_MulDiv.f a b c 5 = some (md a b c 5) from by unfold muldiv_MulDiv.f MulDiv_f; rw [if_pos ⟨ha, hb, hc⟩], show muldiv_Mod.f a b c = some (mdMod a b c) from by unfold muldiv_Mod.f Mod_f; rw [if_pos ⟨ha, hb, hc⟩]]
  simp only [Option.bind_some]
  have skip : ∀ x y, accountinglaw02_MuldivModes.j0 7 a b c x y true = some true := fun x y => by
    simp only [accountinglaw02_MuldivModes.j0, if_true, lives_true, Option.bind_some]
  by_cases h0 : c = 0
  · have e : md a b c 5 = (0, 2) := by unfold md; rw [if_neg (by omega), if_pos h0]
    rw [e, if_neg (by decide)]
    exact skip _ _
  · obtain ⟨C, q, r, neg, opp, k⟩ := known (a := a) (b := b) h0
    rw [k.md_is 5 (by omega) (by omega), k.mod_is]
    by_cases hv : I64 (val neg (szm neg 5 q r C))
    · rw [if_pos hv]
      simp only [if_true]
      by_cases h1 : val neg (szm neg 5 q r C) > 1000000000000000
      · rw [if_pos h1]; exact skip _ _
      rw [if_neg h1]
      by_cases h2 : val neg (szm neg 5 q r C) < -1000000000000000
      · rw [decide_eq_true h2]; exact skip _ _
      rw [decide_eq_false h2]
      simp only [accountinglaw02_MuldivModes.j0, Bool.false_eq_true, if_false]
      exact modes_loop ha hb hc k (by omega) (by omega) 1 5 6 true 1 (by omega) (by omega) (by omega) (fun _ => rfl) (fun h => by omega) (fun h => by omega)
    · rw [if_neg hv, if_neg (by decide)]
      exact skip _ _

theorem MuldivNegates : MuldivNegatesP := by
  intro a b c m ha hb hc hm
  have ha := i64_of ha
  have hb := i64_of hb
  have hc := i64_of hc
  have hn : I64 (wrap64 (-a)) := by unfold I64 wrap64; omega
  refine ⟨1, ?_⟩
  unfold accountinglaw02_MuldivNegates.f muldiv_MulDiv.f MulDiv_f
  rw [if_pos ⟨ha, hb, hc⟩, if_pos ⟨hn, hb, hc⟩]
  simp only [Option.bind_some]
  have skip : ∀ x y, accountinglaw02_MuldivNegates.j0 1 x y true = some true := fun x y => by
    simp only [accountinglaw02_MuldivNegates.j0, if_true, lives_true, Option.bind_some]
  by_cases e1 : (md a b c m).2 = 0
  · rw [if_pos e1]
    by_cases e2 : (md (wrap64 (-a)) b c m).2 = 0
    · rw [if_pos e2]
      have main : (m == 5) = false → (a = wrap64 (-a) → a = 0) → accountinglaw02_MuldivNegates.j0 1 (md a b c m).1 (md (wrap64 (-a)) b c m).1 (m == 5) = some true := fun g1 g2 => by
        rw [g1]
        simp only [accountinglaw02_MuldivNegates.j0, Bool.false_eq_true, if_false]
        have hm5 : m ≠ 5 := by simpa using g1
        have hw : wrap64 (-a) = -a := by unfold I64 at ha; unfold wrap64 at g2 ⊢; omega
        rw [hw] at e2 ⊢
        have key : (md a b c m).1 = -(md (-a) b c m).1 ∧ I64 (md a b c m).1 := by
          by_cases hm1 : m < 1 ∨ 5 < m
          · have : md a b c m = (0, 10) := by unfold md; rw [if_pos hm1]
            rw [this] at e1; cases e1
          by_cases h0 : c = 0
          · have : md a b c m = (0, 2) := by unfold md; rw [if_neg hm1, if_pos h0]
            rw [this] at e1; cases e1
          obtain ⟨C, q, r, neg, opp, k⟩ := known (a := a) (b := b) h0
          obtain ⟨C', q', r', neg', opp', k'⟩ := known (a := -a) (b := b) h0
          rw [k.md_is m (by omega) (by omega)] at e1 ⊢
          rw [k'.md_is m (by omega) (by omega)] at e2 ⊢
          have eC : C = C' := by
            have := k.pos; have := k'.pos
            rcases k.absC with h | h <;> rcases k'.absC with h' | h' <;> omega
          subst eC
          have eP : q * C + r = q' * C + r' := by
            have h1 := k.isP; have h2 := k'.isP
            have n1 := Int.mul_nonneg k.q0 (Int.le_of_lt k.pos); have n2 := Int.mul_nonneg k'.q0 (Int.le_of_lt k.pos)
            have n3 := k.r0; have n4 := k'.r0
            rw [Int.neg_mul] at h2
            unfold val at h1 h2
            generalize q * C = z at *
            generalize q' * C = z' at *
            generalize a * b = p at *
            split at h1 <;> split at h2 <;> omega
          have d1 := div_is (q := q) k.pos rfl k.r0 k.rC
          have d2 := div_is (q := q') k.pos rfl k'.r0 k'.rC
          rw [eP, d2.1, d2.2] at d1
          obtain ⟨eq_, er_⟩ := d1
          subst eq_ er_
          have x1 := k.isX; have x2 := k'.isX
          rw [Int.neg_mul] at x2
          have hs : szm neg m q' r' C = szm neg' m q' r' C := by
            unfold szm away
            split <;> rfl
          have hs' : szm neg m q' r' C = szm neg' m q' r' C := by
            unfold szm away
            simp only [if_neg hm5]
          have hv : val neg (szm neg m q' r' C) = -(val neg' (szm neg' m q' r' C)) := by
            rw [hs']
            by_cases hz : q' * C + r' = 0
            · have n1 : neg = false := by cases neg; rfl; exact absurd hz (k.nz rfl)
              have n2 : neg' = false := by cases neg'; rfl; exact absurd hz (k'.nz rfl)
              have g1 := Int.mul_nonneg k.q0 (Int.le_of_lt k.pos); have g2 := k.r0
              have r0 : r' = 0 := by omega
              have q0 : q' = 0 := by
                have : q' * C = 0 := by omega
                rcases Int.mul_eq_zero.mp this with h | h
                · exact h
                · have := k.pos; omega
              subst n1 n2 r0 q0
              unfold szm; rw [away_zero]; unfold val; simp
            · have : neg = !neg' := by
                have g1 := Int.mul_nonneg k.q0 (Int.le_of_lt k.pos); have g2 := k.r0
                unfold val at x1 x2
                generalize q' * C = z at *
                generalize a * b = p at *
                cases neg <;> cases neg' <;> simp only [Bool.false_eq_true, if_false, if_true] at x1 x2 <;> first | rfl | (exfalso; split at x1 <;> omega)
              rw [this, val_neg]
          by_cases hI : I64 (val neg (szm neg m q' r' C))
          · rw [if_pos hI]
            by_cases hI' : I64 (val neg' (szm neg' m q' r' C))
            · rw [if_pos hI']; exact ⟨hv, hI⟩
            · rw [if_neg hI'] at e2; cases e2
          · rw [if_neg hI] at e1; cases e1
        obtain ⟨k1, k2⟩ := key
        have hw2 : wrap64 (-(md (-a) b c m).1) = -(md (-a) b c m).1 := by rw [← k1]; unfold I64 at k2; unfold wrap64; omega
        rw [hw2, if_pos k1, lives_true]; rfl
      by_cases h5 : m = 5
      · subst h5
        split
        · split
          · exact skip _ _
          · exact skip _ _
        · exact skip _ _
      · have g1 : (m == 5) = false := beq_eq_false_iff_ne.mpr h5
        by_cases h6 : a = wrap64 (-a)
        · rw [if_pos h6]
          by_cases h7 : a = 0
          · rw [if_pos h7]; exact main g1 (fun _ => h7)
          · rw [if_neg h7]; exact skip _ _
        · rw [if_neg h6]; exact main g1 (fun h => absurd h h6)
    · rw [if_neg e2]; exact skip _ _
  · rw [if_neg e1]; exact skip _ _

theorem MuldivCancels : MuldivCancelsP := by
  intro a b m ha hb hm
  have ha := i64_of ha
  have hb := i64_of hb
  refine ⟨1, ?_⟩
  unfold accountinglaw02_MuldivCancels.f muldiv_MulDiv.f muldiv_Mod.f MulDiv_f Mod_f
  rw [if_pos ⟨ha, hb, hb⟩, if_pos ⟨ha, hb, hb⟩]
  simp only [Option.bind_some]
  by_cases h1 : m < 1
  · rw [if_pos h1]
    have e : md a b b m = (0, 10) := by unfold md; rw [if_pos (.inl h1)]
    rw [e]
    simp only [accountinglaw02_MuldivCancels.j0, if_true, lives_true, Option.bind_some]
  rw [if_neg h1]
  by_cases h2 : m > 5
  · rw [if_pos h2]
    have e : md a b b m = (0, 10) := by unfold md; rw [if_pos (.inr h2)]
    rw [e]
    simp only [accountinglaw02_MuldivCancels.j0, if_true, lives_true, Option.bind_some]
  rw [if_neg h2]
  by_cases h0 : b = 0
  · have e : md a b b m = (0, 2) := by unfold md; rw [if_neg (by omega), if_pos h0]
    rw [e, beq_iff_eq.mpr h0]
    simp only [accountinglaw02_MuldivCancels.j0, if_true, lives_true, Option.bind_some]
    rfl
  · rw [beq_eq_false_iff_ne.mpr h0]
    obtain ⟨C, q, r, neg, opp, k⟩ := known (a := a) (b := b) h0
    have hx := k.isX
    have hr0 := k.r0; have hrC := k.rC; have hpos := k.pos; have hq0 := k.q0
    have hz := Int.mul_nonneg hq0 (Int.le_of_lt hpos)
    have hbC : (if b < 0 then -(a * b) else a * b) = a * C := by
      rcases k.absC with h | h
      · rw [if_neg (by omega), h]
      · rw [if_pos (by omega), h]; grind
    rw [hbC] at hx
    have both : r = 0 ∧ val neg q = a := by
      have dvd : C ∣ val neg (q * C + r) := ⟨a, by rw [hx, Int.mul_comm]⟩
      have d2 : C ∣ q * C + r := by
        unfold val at dvd
        cases neg
        · simpa using dvd
        · simp only [if_true] at dvd; exact (Int.dvd_neg).mp dvd
      have d3 : C ∣ r := (Int.dvd_add_right (Int.dvd_mul_left q C)).mp d2
      have r0 : r = 0 := by have := Int.emod_eq_zero_of_dvd d3; rw [Int.emod_eq_of_lt hr0 hrC] at this; exact this
      refine ⟨r0, ?_⟩
      subst r0
      have e2 : val neg (q * C + 0) = val neg q * C := by unfold val; cases neg <;> simp [Int.neg_mul]
      rw [e2] at hx
      exact Int.eq_of_mul_eq_mul_right (by omega) hx
    obtain ⟨r0, hv⟩ := both
    have hs : szm neg m q r C = q := by unfold szm; rw [r0, away_zero]; simp
    have e : md a b b m = (a, 0) := by rw [k.md_is m (by omega) (by omega), hs, hv, if_pos ha]
    have e2 : mdMod a b b = (0, 0) := by rw [k.mod_is, if_neg (fun h => h.1 r0), r0]
    rw [e, e2]
    simp only [accountinglaw02_MuldivCancels.j0, Bool.false_eq_true, if_false, if_true, lives_true, Option.bind_some]

theorem near_val {a b c C q r : Int} {neg opp : Bool} (k : Known a b c C q r neg opp) (hc : 0 < c) (m : Int) (hm : m = 3 ∨ m = 4) :
    -c ≤ 2 * (a * b - val neg (szm neg m q r C) * c) ∧ 2 * (a * b - val neg (szm neg m q r C) * c) ≤ c := by
  have hC : C = c := by rcases k.absC with h | h; exact h; have := k.pos; omega
  have hX := k.isX
  have hr0 := k.r0; have hrC := k.rC; have hpos := k.pos
  rw [if_neg (by omega)] at hX
  subst hC
  rw [← hX]
  unfold szm
  have lo : away m neg (decide (q % 2 = 1)) r C = false → 2 * r ≤ C := fun h => by
    unfold away at h
    by_cases h0 : r = 0
    · omega
    rw [if_neg h0, if_neg (by omega)] at h
    rcases hm with rfl | rfl
    · rw [if_pos rfl] at h
      have := of_decide_eq_false h; omega
    · rw [if_neg (by omega), if_pos rfl] at h
      have := (Bool.or_eq_false_iff.mp h).1
      have := of_decide_eq_false this; omega
  have hi : away m neg (decide (q % 2 = 1)) r C = true → C ≤ 2 * r := fun h => by
    unfold away at h
    by_cases h0 : r = 0
    · rw [if_pos h0] at h; cases h
    rw [if_neg h0, if_neg (by omega)] at h
    rcases hm with rfl | rfl
    · rw [if_pos rfl] at h
      have := of_decide_eq_true h; omega
    · rw [if_neg (by omega), if_pos rfl] at h
      rcases Bool.or_eq_true_iff.mp h with h1 | h1
      · have := of_decide_eq_true h1; omega
      · have := of_decide_eq_true (Bool.and_eq_true_iff.mp h1).1; omega
  cases ht : away m neg (decide (q % 2 = 1)) r C
  · have := lo ht
    rw [if_neg (by simp)]
    unfold val
    have e := Int.neg_mul q C
    cases neg <;> simp only [Bool.false_eq_true, if_false, if_true] <;> (try rw [e]) <;> omega
  · have := hi ht
    rw [if_pos rfl]
    unfold val
    have e := Int.neg_mul (q + 1) C
    have e2 : (q + 1) * C = q * C + C := by grind
    cases neg <;> simp only [Bool.false_eq_true, if_false, if_true] <;> (try rw [e]) <;> rw [e2] <;> omega

theorem near_two {a b c C q r : Int} {neg opp : Bool} (k : Known a b c C q r neg opp) (hc : 0 < c) (hne : val neg (szm neg 3 q r C) ≠ val neg (szm neg 4 q r C)) :
    val neg (szm neg 4 q r C) % 2 = 0 ∧ (2 * (a * b - val neg (szm neg 3 q r C) * c) = c ∨ 2 * (a * b - val neg (szm neg 3 q r C) * c) = -c) := by
  have hC : C = c := by rcases k.absC with h | h; exact h; have := k.pos; omega
  have hX := k.isX
  have hr0 := k.r0; have hrC := k.rC; have hpos := k.pos
  rw [if_neg (by omega)] at hX
  subst hC
  rw [← hX]
  have hr : r ≠ 0 := by
    intro h; subst h
    unfold szm at hne; rw [away_zero, away_zero] at hne; exact hne rfl
  unfold szm at hne ⊢
  have a3 : away 3 neg (decide (q % 2 = 1)) r C = decide (C - r ≤ r) := by unfold away; rw [if_neg hr, if_neg (by omega), if_pos rfl]
  have a4 : away 4 neg (decide (q % 2 = 1)) r C = (decide (C - r < r) || (decide (r = C - r) && decide (q % 2 = 1))) := by unfold away; rw [if_neg hr, if_neg (by omega), if_neg (by omega), if_pos rfl]
  rw [a3, a4] at hne ⊢
  have half : r = C - r ∧ ¬ q % 2 = 1 := by
    by_cases h1 : r = C - r
    · refine ⟨h1, fun h2 => hne ?_⟩
      have x1 : decide (C - r ≤ r) = true := decide_eq_true (by omega)
      have x2 : (decide (C - r < r) || (decide (r = C - r) && decide (q % 2 = 1))) = true := by rw [decide_eq_true h1, decide_eq_true h2]; simp
      rw [x1, x2]
    · exfalso; apply hne
      by_cases h2 : C - r < r
      · have x1 : decide (C - r ≤ r) = true := decide_eq_true (by omega)
        have x2 : (decide (C - r < r) || (decide (r = C - r) && decide (q % 2 = 1))) = true := by rw [decide_eq_true h2]; rfl
        rw [x1, x2]
      · have x1 : decide (C - r ≤ r) = false := decide_eq_false (by omega)
        have x2 : (decide (C - r < r) || (decide (r = C - r) && decide (q % 2 = 1))) = false := by rw [decide_eq_false h2, decide_eq_false h1]; rfl
        rw [x1, x2]
  have x1 : decide (C - r ≤ r) = true := decide_eq_true (by omega)
  have x2 : (decide (C - r < r) || (decide (r = C - r) && decide (q % 2 = 1))) = false := by rw [decide_eq_false (show ¬ C - r < r by omega), decide_eq_false half.2]; simp
  rw [x1, x2]
  simp only [if_true, Bool.false_eq_true, if_false]
  unfold val
  have e := Int.neg_mul (q + 1) C
  have e2 : (q + 1) * C = q * C + C := by grind
  cases neg <;> simp only [Bool.false_eq_true, if_false, if_true] <;> (try rw [e]) <;> rw [e2] <;> omega

theorem wrap_diff {p z c : Int} (h1 : -c ≤ 2 * (p - z)) (h2 : 2 * (p - z) ≤ c) (hc : c ≤ 1000000000000000) : wrap64 (2 * wrap64 (wrap64 p - wrap64 z)) = 2 * (p - z) := by
  unfold wrap64; omega

theorem MuldivNear : MuldivNearP := by
  intro a b c ha hb hc
  have ha := i64_of ha
  have hb := i64_of hb
  have hc := i64_of hc
  refine ⟨2, ?_⟩
  have skip : accountinglaw02_MuldivNear.j0 2 a b c true = some true := by
    simp only [accountinglaw02_MuldivNear.j0, if_true, lives_true, Option.bind_some]
  unfold accountinglaw02_MuldivNear.f
  by_cases g1 : c < 1
  · rw [if_pos g1]; exact skip
  rw [if_neg g1]
  by_cases g2 : c > 1000000000000000
  · rw [if_pos g2]; exact skip
  rw [if_neg g2]
  by_cases g3 : a > 1000000000000000
  · rw [if_pos g3]; exact skip
  rw [if_neg g3]
  by_cases g4 : a < -1000000000000000
  · rw [if_pos g4]; exact skip
  rw [if_neg g4]
  by_cases g5 : b > 1000000
  · rw [if_pos g5]; exact skip
  rw [if_neg g5]
  by_cases g6 : b < -1000000
  · rw [decide_eq_true g6]; exact skip
  rw [decide_eq_false g6]
  simp only [accountinglaw02_MuldivNear.j0, Bool.false_eq_true, if_false]
  unfold muldiv_MulDiv.f MulDiv_f
  rw [if_pos ⟨ha, hb, hc⟩, if_pos ⟨ha, hb, hc⟩]
  simp only [Option.bind_some]
  obtain ⟨C, q, r, neg, opp, k⟩ := known (a := a) (b := b) (c := c) (by omega)
  have n3 := near_val k (by omega) 3 (.inl rfl)
  have n4 := near_val k (by omega) 4 (.inr rfl)
  have nt := near_two k (by omega)
  rw [k.md_is 3 (by omega) (by omega), k.md_is 4 (by omega) (by omega)]
  have w3 := wrap_diff n3.1 n3.2 (by omega)
  have w4 := wrap_diff n4.1 n4.2 (by omega)
  generalize hn : val neg (szm neg 3 q r C) = n at *
  generalize hm : val neg (szm neg 4 q r C) = m at *
  by_cases i3 : I64 n
  · rw [if_pos i3]
    simp only [if_true]
    by_cases i4 : I64 m
    · rw [if_pos i4]
      simp only [accountinglaw02_MuldivNear.j1, bne_self_eq_false, Bool.false_eq_true, if_false]
      rw [w3, w4]
      have hwc : wrap64 (-c) = -c := by unfold wrap64; omega
      rw [hwc, if_neg (by omega), if_neg (by omega), if_neg (by omega), if_neg (by omega)]
      by_cases e : n = m
      · rw [if_pos e, lives_true]; rfl
      · rw [if_neg e]
        obtain ⟨h1, h2⟩ := nt e
        have ht : Int.tmod m 2 = 0 := Int.tmod_eq_zero_of_dvd (Int.dvd_of_emod_eq_zero h1)
        rw [if_pos ht]
        rcases h2 with h2 | h2
        · rw [if_pos h2, lives_true]; rfl
        · by_cases h3 : 2 * (a * b - n * c) = c
          · rw [if_pos h3, lives_true]; rfl
          · rw [if_neg h3, if_pos h2, lives_true]; rfl
    · rw [if_neg i4]
      simp only [accountinglaw02_MuldivNear.j1]
      rw [if_pos (by decide)]; simp only [if_true]; rw [if_neg (by decide)]; simp only [lives_true, Option.bind_some]
  · rw [if_neg i3]
    simp only []
    rw [if_neg (by decide)]
    simp only [accountinglaw02_MuldivNear.j1, if_true]
    rw [if_neg (by decide)]
    by_cases i4 : I64 m
    · rw [if_pos i4]
      simp only [if_true, lives_true, Option.bind_some]
    · rw [if_neg i4]
      simp only []
      rw [if_neg (by decide)]; simp only [if_true, lives_true, Option.bind_some]
end Go.Proofs.Ytmmokegelmgdeaa.Pure
