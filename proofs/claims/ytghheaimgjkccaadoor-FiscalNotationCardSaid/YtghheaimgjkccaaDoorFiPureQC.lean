/- The pure statement of the law FiscalNotation, over package fiscal's plain functions; no condition. -/
import Derived.Test.YtghheaimgjkccaaDoorStatQC
import Derived.Test.YtghheaimgjkccaaDoorFiLaw
namespace Go.Proofs.YtghheaimgjkccaaDoor.Pure
open Go.RowKit Go.Proofs.YtghheaimgjkccaaDoorW.PrintWords Go.Proofs.YtghheaimgjkccaaDoor.Dy Go.Proofs.YtghheaimgjkccaaDoor.F Go.Proofs.YtghheaimgjkccaaDoor.Fl Go.Proofs.YtghheaimgjkccaaDoor.QC
set_option linter.unusedVariables false
set_option linter.unusedSimpArgs false

def nm (y n : Int) : Prop := 1900 ≤ y ∧ y ≤ 2199 ∧ 1 ≤ n ∧ n ≤ 13
instance (y n : Int) : Decidable (nm y n) := by unfold nm; infer_instance
theorem named_is (y n : Int) : fiscal_named.f y n = some (decide (nm y n)) := by
  unfold fiscal_named.f
  by_cases h1 : y ≥ 1900
  · rw [if_pos h1]
    by_cases h2 : y ≤ 2199
    · rw [if_pos h2]
      by_cases h3 : n ≥ 1
      · rw [if_pos h3]; congr 1; rw [decide_eq_decide]; exact ⟨fun q => ⟨h1, h2, h3, q⟩, fun q => q.2.2.2⟩
      · rw [if_neg h3, decide_eq_false (fun q : nm y n => h3 q.2.2.1)]
    · rw [if_neg h2, decide_eq_false (fun q : nm y n => h2 q.2.1)]
  · rw [if_neg h1, decide_eq_false (fun q : nm y n => h1 q.1)]
theorem in_is (y n : Int) : accountingref05_In.f y n = some (decide (nm y n)) := named_is y n
theorem digit_yes {x : Int} (h1 : 48 ≤ x) (h2 : x ≤ 57) : accountingref05_digit.f x = some (x - 48) := by
  unfold accountingref05_digit.f
  have w1 : wrap64 x = x := by unfold wrap64; omega
  have w2 : wrap64 (x - 48) = x - 48 := by unfold wrap64; omega
  rw [if_neg (by omega), if_neg (by omega), w1, w2]
theorem digit_no {x : Int} (h : ¬ (48 ≤ x ∧ x ≤ 57)) : accountingref05_digit.f x = some (-1) := by
  unfold accountingref05_digit.f
  by_cases h1 : x < 48
  · rw [if_pos h1]
  · rw [if_neg h1, if_pos (by omega)]
theorem dg_iff (s : ByteArray) (i : Int) : dg_ s i = true ↔ 48 ≤ bt s i ∧ bt s i ≤ 57 := by
  unfold dg_; rw [Bool.and_eq_true, decide_eq_true_iff, decide_eq_true_iff]
theorem pow_bd (k : Nat) : (0 : Int) < 10 ^ k := Int.pow_pos (by omega)
/-- From place k on both read the same. -/
theorem loop_same (s : ByteArray) (hs : (s.size : Int) = 7) : ∀ (d k : Nat) (y n : Int) (K : Nat), k + d = 7 → d < K → 0 ≤ y → y < 10 ^ k → 0 ≤ n → n < 10 ^ k → accountingref05_Parse.l0 K s k y n = fpar_ s d k y n := by
  intro d
  induction d with
  | zero =>
    intro k y n K hk hK _ _ _ _
    obtain ⟨K, rfl⟩ : ∃ m, K = m + 1 := ⟨K - 1, by omega⟩
    simp only [accountingref05_Parse.l0, fpar_]
    rw [if_neg (by omega), in_is, named_is]
  | succ d ih =>
    intro k y n K hk hK y0 y1 n0 n1
    obtain ⟨K, rfl⟩ : ∃ m, K = m + 1 := ⟨K - 1, by omega⟩
    have p : (10 : Int) ^ (k + 1) = 10 * 10 ^ k := by rw [Int.pow_succ]; omega
    have pb : (10 : Int) ^ k ≤ 1000000 := by
      rcases (by omega : k = 0 ∨ k = 1 ∨ k = 2 ∨ k = 3 ∨ k = 4 ∨ k = 5 ∨ k = 6) with rfl | rfl | rfl | rfl | rfl | rfl | rfl <;> decide
    have w0 : wrap64 ((k : Int) + 1) = ((k + 1 : Nat) : Int) := by unfold wrap64; omega
    simp only [accountingref05_Parse.l0, fpar_]
    rw [if_pos (by omega), w0]
    by_cases h4 : k = 4
    · rw [if_pos (by omega), if_pos h4]
      exact ih (k + 1) y n K (by omega) (by omega) y0 (by omega) n0 (by omega)
    · rw [if_neg (by omega), if_neg h4, if_pos (by omega), if_pos (by omega)]
      by_cases hd : 48 ≤ bt s k ∧ bt s k ≤ 57
      · rw [digit_yes hd.1 hd.2, if_pos ((dg_iff s k).mpr hd)]
        simp only [Option.bind_some]
        have w1 : wrap64 (10 * y) = y * 10 := by unfold wrap64; omega
        have w2 : wrap64 (10 * n) = n * 10 := by unfold wrap64; omega
        have w3 : wrap64 (y * 10 + (bt s k - 48)) = y * 10 + (bt s k - 48) := by unfold wrap64; omega
        have w4 : wrap64 (n * 10 + (bt s k - 48)) = n * 10 + (bt s k - 48) := by unfold wrap64; omega
        rw [if_neg (by omega), w1, w2, w3, w4]
        by_cases h5 : k < 4
        · rw [if_pos (by omega), if_pos h5]
          exact ih (k + 1) _ n K (by omega) (by omega) (by omega) (by omega) n0 (by omega)
        · rw [if_neg (by omega), if_neg h5]
          exact ih (k + 1) y _ K (by omega) (by omega) y0 (by omega) (by omega) (by omega)
      · rw [digit_no hd, if_neg (fun q => hd ((dg_iff s k).mp q))]
        simp only [Option.bind_some]
        rw [if_pos (by omega)]
theorem parse_same (s : ByteArray) : accountingref05_Parse.f 12 s = fiscal_Parse.f s := by
  unfold accountingref05_Parse.f fiscal_Parse.f
  by_cases h : (s.size : Int) = 7
  · rw [if_pos h, if_pos h, if_pos (by omega)]
    by_cases h4 : bt s 4 = 45
    · rw [if_pos h4, show (bt s 4 != 45) = false from bne_eq_false_iff_eq.mpr h4]
      simp only [accountingref05_Parse.j0, Bool.false_eq_true, if_false]
      exact loop_same s h 7 0 0 0 11 rfl (by omega) (by omega) (by decide) (by omega) (by decide)
    · rw [if_neg h4, show (bt s 4 != 45) = true from bne_iff_ne.mpr h4]
      simp only [accountingref05_Parse.j0, if_true]
  · rw [if_neg h, if_neg h]
    simp only [accountingref05_Parse.j0, if_true]
theorem parse_val (s : ByteArray) : ∃ x, fiscal_Parse.f s = some x := by
  have key : ∀ (d k : Nat) (y n : Int), ∃ x, fpar_ s d k y n = some x := by
    intro d
    induction d with
    | zero =>
      intro k y n
      simp only [fpar_, named_is, Option.bind_some]
      split <;> exact ⟨_, rfl⟩
    | succ d ih =>
      intro k y n
      simp only [fpar_]
      split
      · exact ih ..
      · split
        · split <;> exact ih ..
        · exact ⟨_, rfl⟩
  unfold fiscal_Parse.f
  split
  · split
    · exact key ..
    · exact ⟨_, rfl⟩
  · exact ⟨_, rfl⟩
theorem dgB_val {x : Int} (h0 : 0 ≤ x) (h1 : x ≤ 9) : (((Fi.dgB_ x).toNat : Nat) : Int) = 48 + x := by
  unfold Fi.dgB_
  rw [UInt8.toNat_ofNat']
  omega
theorem parse_text {y n : Int} (h : nm y n) : fiscal_Parse.f (Fi.ptxt_ y n) = some (y, n, 0) := by
  obtain ⟨y1, y2, n1, n2⟩ := h
  have b0 : bt (Fi.ptxt_ y n) ((0 : Nat) : Int) = 48 + y / 1000 := dgB_val (x := y / 1000) (by omega) (by omega)
  have b1 : bt (Fi.ptxt_ y n) ((1 : Nat) : Int) = 48 + y / 100 % 10 := dgB_val (x := y / 100 % 10) (by omega) (by omega)
  have b2 : bt (Fi.ptxt_ y n) ((2 : Nat) : Int) = 48 + y / 10 % 10 := dgB_val (x := y / 10 % 10) (by omega) (by omega)
  have b3 : bt (Fi.ptxt_ y n) ((3 : Nat) : Int) = 48 + y % 10 := dgB_val (x := y % 10) (by omega) (by omega)
  have b4 : bt (Fi.ptxt_ y n) 4 = 45 := rfl
  have b5 : bt (Fi.ptxt_ y n) ((5 : Nat) : Int) = 48 + n / 10 := dgB_val (x := n / 10) (by omega) (by omega)
  have b6 : bt (Fi.ptxt_ y n) ((6 : Nat) : Int) = 48 + n % 10 := dgB_val (x := n % 10) (by omega) (by omega)
  have hsz : ((Fi.ptxt_ y n).size : Int) = 7 := rfl
  have d0 : dg_ (Fi.ptxt_ y n) ((0 : Nat) : Int) = true := (dg_iff _ _).mpr (by omega)
  have d1 : dg_ (Fi.ptxt_ y n) ((1 : Nat) : Int) = true := (dg_iff _ _).mpr (by omega)
  have d2 : dg_ (Fi.ptxt_ y n) ((2 : Nat) : Int) = true := (dg_iff _ _).mpr (by omega)
  have d3 : dg_ (Fi.ptxt_ y n) ((3 : Nat) : Int) = true := (dg_iff _ _).mpr (by omega)
  have d5 : dg_ (Fi.ptxt_ y n) ((5 : Nat) : Int) = true := (dg_iff _ _).mpr (by omega)
  have d6 : dg_ (Fi.ptxt_ y n) ((6 : Nat) : Int) = true := (dg_iff _ _).mpr (by omega)
  unfold fiscal_Parse.f
  rw [if_pos hsz, if_pos b4]
  simp only [fpar_]
  rw [if_neg (by decide), if_pos d0, if_pos (by decide), if_neg (by decide), if_pos d1, if_pos (by decide), if_neg (by decide), if_pos d2, if_pos (by decide), if_neg (by decide), if_pos d3, if_pos (by decide), if_pos (by decide), if_neg (by decide), if_pos d5, if_neg (by decide), if_neg (by decide), if_pos d6, if_neg (by decide)]
  have ey : (((0 * 10 + (bt (Fi.ptxt_ y n) ((0 : Nat) : Int) - 48)) * 10 + (bt (Fi.ptxt_ y n) ((0 + 1 : Nat) : Int) - 48)) * 10 + (bt (Fi.ptxt_ y n) ((0 + 1 + 1 : Nat) : Int) - 48)) * 10 + (bt (Fi.ptxt_ y n) ((0 + 1 + 1 + 1 : Nat) : Int) - 48) = y := by
    show (((0 * 10 + (bt (Fi.ptxt_ y n) ((0 : Nat) : Int) - 48)) * 10 + (bt (Fi.ptxt_ y n) ((1 : Nat) : Int) - 48)) * 10 + (bt (Fi.ptxt_ y n) ((2 : Nat) : Int) - 48)) * 10 + (bt (Fi.ptxt_ y n) ((3 : Nat) : Int) - 48) = y
    rw [b0, b1, b2, b3]; omega
  have en : (0 * 10 + (bt (Fi.ptxt_ y n) ((0 + 1 + 1 + 1 + 1 + 1 : Nat) : Int) - 48)) * 10 + (bt (Fi.ptxt_ y n) ((0 + 1 + 1 + 1 + 1 + 1 + 1 : Nat) : Int) - 48) = n := by
    show (0 * 10 + (bt (Fi.ptxt_ y n) ((5 : Nat) : Int) - 48)) * 10 + (bt (Fi.ptxt_ y n) ((6 : Nat) : Int) - 48) = n
    rw [b5, b6]; omega
  rw [ey, en, named_is, decide_eq_true (show nm y n from ⟨y1, y2, n1, n2⟩)]
  rfl
theorem FiscalNotation : FiscalNotationP := by
  intro y n s _ _ _
  refine ⟨12, ?_⟩
  unfold accountinglaw05_FiscalNotation.f
  by_cases h : 100 < s.size
  · rw [if_pos h]
  rw [if_neg h, parse_same]
  obtain ⟨x, hx⟩ := parse_val s
  unfold fiscal_Text.f accountingref05_Text.f
  rw [named_is, in_is, hx]
  simp only [Option.bind_some, decide_eq_true_eq]
  by_cases g : nm y n
  · rw [if_pos g]
    simp only [Option.bind_some, and_self, if_true]
    rw [parse_text g]
    simp only [Option.bind_some, true_and, true_or, if_true]
  · rw [if_neg g]
    simp only [Option.bind_some, and_self, if_true]
    have e : fiscal_Parse.f ⟨#[]⟩ = some (0, 0, 5) := by
      unfold fiscal_Parse.f
      rw [if_neg (by decide)]
    rw [e]
    simp
end Go.Proofs.YtghheaimgjkccaaDoor.Pure
