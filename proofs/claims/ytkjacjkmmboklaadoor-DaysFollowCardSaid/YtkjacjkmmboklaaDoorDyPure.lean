/- The laws of chapter 4, over plain numbers and strings; no condition but that the arguments are integers of 64 bits, or strings that fit in memory. -/
import Derived.Test.YtkjacjkmmboklaaDoorStat
import Derived.OpenShut
namespace Go.Proofs.YtkjacjkmmboklaaDoor.Pure
open Go.RowKit Go.Proofs.YtkjacjkmmboklaaDoorW.PrintWords Go.Proofs.YtkjacjkmmboklaaDoorW.PrintLast Go.Proofs.YtkjacjkmmboklaaDoorW.PrintMore Go.Proofs.YtkjacjkmmboklaaDoor.Q Go.Proofs.YtkjacjkmmboklaaDoor.Dy
set_option linter.unusedVariables false
set_option linter.unusedSimpArgs false

theorem rng {a : Int} (h : (Lit.int .i64 a).wf = true) : -9223372036854775808 ≤ a ∧ a ≤ 9223372036854775807 := bounds_i64 h

/-- The calendar day of a number, or none. -/
theorem day_or (n : Int) : (dateS n = (0, 0, 0, 11) ∧ (n < 0 ∨ 109572 < n)) ∨ ∃ y m d, dateS n = (y, m, d, 0) ∧ IsDate n y m d := by
  by_cases h : n < 0 ∨ 109572 < n
  · exact .inl ⟨dateS_out h, h⟩
  · exact .inr (dateS_in (by omega) (by omega))
theorem of_date {n y m d : Int} (h : IsDate n y m d) : ofS y m d = (n, 0) := by
  obtain ⟨h1, h2, h3, h4, h5, h6, h7⟩ := h
  unfold ofS
  rw [if_neg (by omega), h7]
theorem day_in {n y m d : Int} (h : IsDate n y m d) : 0 ≤ n ∧ n ≤ 109572 := date_bounds h

/-! ### Adding months -/
def addAt (y m d k : Int) : Int × Int :=
  if 12 * (y - 1900) + m - 1 + k < 0 ∨ 3600 ≤ 12 * (y - 1900) + m - 1 + k then (0, 11)
  else ofS (1900 + (12 * (y - 1900) + m - 1 + k) / 12) ((12 * (y - 1900) + m - 1 + k) % 12 + 1) (min d (len (1900 + (12 * (y - 1900) + m - 1 + k) / 12) ((12 * (y - 1900) + m - 1 + k) % 12 + 1)))
def addS (n k : Int) : Int × Int :=
  if (dateS n).2.2.2 = 0 ∧ -3600 ≤ k ∧ k ≤ 3600 then addAt (dateS n).1 (dateS n).2.1 (dateS n).2.2.1 k else (0, 11)

theorem add_is {n k : Int} : days_AddMonths.f 9 n k = some (addS n k) := by
  unfold days_AddMonths.f addS days_Date.f
  rw [Option.bind_some]
  rcases day_or n with ⟨hd, _⟩ | ⟨y, m, d, hd, hi⟩
  · rw [hd]
    rw [if_neg (by decide), if_neg (by intro h; exact absurd h.1 (by decide))]
  · rw [hd]
    dsimp only
    rw [if_pos rfl]
    obtain ⟨h1, h2, h3, h4, h5, h6, h7⟩ := hi
    by_cases k1 : k > 3600
    · rw [if_pos k1, if_neg (by omega)]
      rw [days_AddMonths.j0, if_pos rfl]
    rw [if_neg k1]
    by_cases k2 : k < -3600
    · rw [if_neg (by omega), decide_eq_true k2]
      rw [days_AddMonths.j0, if_pos rfl]
    rw [if_pos ⟨rfl, by omega, by omega⟩, decide_eq_false k2]
    rw [days_AddMonths.j0, if_neg (by decide)]
    have e1 : wrap64 (y - 1900) = y - 1900 := w64 (by omega) (by omega)
    have e2 : wrap64 (12 * (y - 1900)) = 12 * (y - 1900) := w64 (by omega) (by omega)
    have e3 : wrap64 (12 * (y - 1900) + m) = 12 * (y - 1900) + m := w64 (by omega) (by omega)
    have e4 : wrap64 (12 * (y - 1900) + m - 1) = 12 * (y - 1900) + m - 1 := w64 (by omega) (by omega)
    have e5 : wrap64 (12 * (y - 1900) + m - 1 + k) = 12 * (y - 1900) + m - 1 + k := w64 (by omega) (by omega)
    rw [e1, e2, e3, e4, e5]
    unfold addAt
    obtain ⟨a, ha⟩ : ∃ a, 12 * (y - 1900) + m - 1 + k = a := ⟨_, rfl⟩
    rw [ha]
    by_cases a1 : a < 0
    · rw [if_pos a1, if_pos (.inl a1), days_AddMonths.j1, if_pos rfl]
    rw [if_neg a1]
    by_cases a2 : 3600 ≤ a
    · rw [if_pos (.inr a2), decide_eq_true (show a ≥ 3600 from a2), days_AddMonths.j1, if_pos rfl]
    rw [if_neg (by omega), decide_eq_false (show ¬ a ≥ 3600 from a2), days_AddMonths.j1, if_neg (by decide)]
    have t1 : Int.tdiv a 12 = a / 12 := Int.tdiv_eq_ediv_of_nonneg (by omega)
    have t2 : Int.tmod a 12 = a % 12 := Int.tmod_eq_emod_of_nonneg (by omega)
    rw [t1, t2]
    have f1 : wrap64 (a / 12) = a / 12 := w64 (by omega) (by omega)
    have f2 : wrap64 (1900 + a / 12) = 1900 + a / 12 := w64 (by omega) (by omega)
    have f3 : wrap64 (a % 12 + 1) = a % 12 + 1 := w64 (by omega) (by omega)
    rw [f1, f2, f3]
    unfold days_Length.f days_Of.f
    rw [Option.bind_some, Option.bind_some]
    have g : mn d (len (1900 + a / 12) (a % 12 + 1)) = min d (len (1900 + a / 12) (a % 12 + 1)) := by unfold mn; split <;> omega
    rw [g]
theorem radd_is {n k : Int} : accountingref04_AddMonths.f 9 n k = some (addS n k) := by
  unfold accountingref04_AddMonths.f addS accountingref04_Date.f
  rw [Option.bind_some]
  rcases day_or n with ⟨hd, _⟩ | ⟨y, m, d, hd, hi⟩
  · rw [hd]
    rw [if_neg (by decide), if_neg (by intro h; exact absurd h.1 (by decide)), accountingref04_AddMonths.j0, if_pos rfl]
  · rw [hd]
    dsimp only
    rw [if_pos rfl]
    obtain ⟨h1, h2, h3, h4, h5, h6, h7⟩ := hi
    by_cases k1 : k < -3600
    · rw [if_pos k1, if_neg (by omega)]
      rw [accountingref04_AddMonths.j0, if_pos rfl]
    rw [if_neg k1]
    by_cases k2 : k > 3600
    · rw [if_neg (by omega), decide_eq_true k2]
      rw [accountingref04_AddMonths.j0, if_pos rfl]
    rw [if_pos ⟨rfl, by omega, by omega⟩, decide_eq_false k2]
    rw [accountingref04_AddMonths.j0, if_neg (by decide)]
    have e1 : wrap64 (y - 1900) = y - 1900 := w64 (by omega) (by omega)
    have e2 : wrap64 ((y - 1900) * 12) = 12 * (y - 1900) := by rw [w64 (by omega) (by omega)]; omega
    have e3 : wrap64 (12 * (y - 1900) + m) = 12 * (y - 1900) + m := w64 (by omega) (by omega)
    have e4 : wrap64 (12 * (y - 1900) + m - 1) = 12 * (y - 1900) + m - 1 := w64 (by omega) (by omega)
    have e5 : wrap64 (12 * (y - 1900) + m - 1 + k) = 12 * (y - 1900) + m - 1 + k := w64 (by omega) (by omega)
    rw [e1, e2, e3, e4, e5]
    unfold addAt
    obtain ⟨a, ha⟩ : ∃ a, 12 * (y - 1900) + m - 1 + k = a := ⟨_, rfl⟩
    rw [ha]
    by_cases a1 : a < 0
    · rw [if_pos a1, if_pos (.inl a1), accountingref04_AddMonths.j1, if_pos rfl]
    rw [if_neg a1]
    by_cases a2 : 3600 ≤ a
    · rw [if_pos (.inr a2), decide_eq_true (show a ≥ 3600 from a2), accountingref04_AddMonths.j1, if_pos rfl]
    rw [if_neg (by omega), decide_eq_false (show ¬ a ≥ 3600 from a2), accountingref04_AddMonths.j1, if_neg (by decide)]
    have t1 : Int.tdiv a 12 = a / 12 := Int.tdiv_eq_ediv_of_nonneg (by omega)
    have t2 : Int.tmod a 12 = a % 12 := Int.tmod_eq_emod_of_nonneg (by omega)
    rw [t1, t2]
    have f1 : wrap64 (a / 12) = a / 12 := w64 (by omega) (by omega)
    have f2 : wrap64 (1900 + a / 12) = 1900 + a / 12 := w64 (by omega) (by omega)
    have f3 : wrap64 (a % 12 + 1) = a % 12 + 1 := w64 (by omega) (by omega)
    rw [f1, f2, f3]
    unfold accountingref04_Length.f accountingref04_Of.f
    rw [Option.bind_some]
    by_cases g : d > len (1900 + a / 12) (a % 12 + 1)
    · rw [if_pos g, Option.bind_some, Option.bind_some, show min d (len (1900 + a / 12) (a % 12 + 1)) = len (1900 + a / 12) (a % 12 + 1) by omega]
    · rw [if_neg g, Option.bind_some, show min d (len (1900 + a / 12) (a % 12 + 1)) = d by omega]

/-- Months added to a day: the day that is meant. -/
theorem add_at {y m d k : Int} (h1 : 1900 ≤ y) (h2 : y ≤ 2199) (h3 : 1 ≤ m) (h4 : m ≤ 12) (h5 : 1 ≤ d) (h6 : d ≤ len y m) (ha : 0 ≤ 12 * (y - 1900) + m - 1 + k) (hb : 12 * (y - 1900) + m - 1 + k < 3600) :
    ∃ y' m', 1900 ≤ y' ∧ y' ≤ 2199 ∧ 1 ≤ m' ∧ m' ≤ 12 ∧ 12 * (y' - 1900) + m' - 1 = 12 * (y - 1900) + m - 1 + k ∧ IsDate (addAt y m d k).1 y' m' (min d (len y' m')) ∧ (addAt y m d k).2 = 0 := by
  obtain ⟨a, hA⟩ : ∃ a, 12 * (y - 1900) + m - 1 + k = a := ⟨_, rfl⟩
  unfold addAt
  rw [hA, if_neg (by omega)]
  have l := len_range (y := 1900 + a / 12) (m := a % 12 + 1) (by omega) (by omega)
  have hd := date_of (y := 1900 + a / 12) (m := a % 12 + 1) (d := min d (len (1900 + a / 12) (a % 12 + 1))) (by omega) (by omega) (by omega) (by omega)
  rw [of_date hd]
  exact ⟨1900 + a / 12, a % 12 + 1, by omega, by omega, by omega, by omega, by omega, hd, rfl⟩

/-! ### The weekday -/
def weekS (n : Int) : Int := if 0 ≤ n ∧ n ≤ 109572 then n % 7 else -1
theorem is_is (n : Int) : days_is.f n = some (decide (0 ≤ n ∧ n ≤ 109572)) := by
  unfold days_is.f
  by_cases h : n ≥ 0
  · rw [if_pos h]; congr 1; rw [decide_eq_decide]; omega
  · rw [if_neg h, decide_eq_false (by omega)]
theorem week_is (n : Int) : days_Weekday.f n = some (weekS n) := by
  unfold days_Weekday.f weekS
  rw [is_is, Option.bind_some]
  by_cases h : 0 ≤ n ∧ n ≤ 109572
  · rw [decide_eq_true h, if_pos rfl, if_pos h, Int.tmod_eq_emod_of_nonneg h.1]
  · rw [decide_eq_false h, if_neg (by decide), if_neg h]
theorem ris_is (n : Int) : accountingref04_Is.f n = some (decide (0 ≤ n ∧ n ≤ 109572)) := is_is n
theorem rweek_is (n : Int) : accountingref04_Weekday.f n = some (weekS n) := week_is n

/-! ### The end of a month -/
def endS (n : Int) : Int × Int := if (dateS n).2.2.2 = 0 then (n - (dateS n).2.2.1 + len (dateS n).1 (dateS n).2.1, 0) else (0, 11)
theorem end_is (n : Int) : days_MonthEnd.f n = some (endS n) := by
  unfold days_MonthEnd.f endS days_Date.f
  rw [Option.bind_some]
  rcases day_or n with ⟨hd, _⟩ | ⟨y, m, d, hd, hi⟩
  · rw [hd]; rfl
  · rw [hd]
    dsimp only
    rw [if_pos rfl, if_pos rfl]
    obtain ⟨h1, h2, h3, h4, h5, h6, h7⟩ := hi
    by_cases c : y = 2199 ∧ m = 12 ∧ d = 31
    · rw [if_pos c]
      obtain ⟨rfl, rfl, rfl⟩ := c
      have e : num 2199 12 31 = 109572 := by decide
      have l : len 2199 12 = 31 := by decide
      rw [l, ← h7, e]; rfl
    · rw [if_neg c]
      unfold days_Length.f days_Of.f
      rw [Option.bind_some, Option.bind_some]
      have l := len_range (y := y) h3 h4
      have hd := date_of h1 h2 (show 1 ≤ len y m by omega) (Int.le_refl _)
      rw [of_date hd]
      have e : num y m (len y m) = n - d + len y m := by rw [← h7]; unfold num; omega
      rw [e]
theorem rend_is (n : Int) : accountingref04_MonthEnd.f n = some (endS n) := by
  unfold accountingref04_MonthEnd.f endS accountingref04_Date.f
  rw [Option.bind_some]
  rcases day_or n with ⟨hd, _⟩ | ⟨y, m, d, hd, hi⟩
  · rw [hd]; rfl
  · rw [hd]
    dsimp only
    rw [if_pos rfl, if_pos rfl]
    have hb := day_in hi
    obtain ⟨h1, h2, h3, h4, h5, h6, h7⟩ := hi
    have l := len_range (y := y) h3 h4
    unfold accountingref04_Length.f
    rw [Option.bind_some]
    have e1 : wrap64 (n - d) = n - d := w64 (by omega) (by omega)
    have e2 : wrap64 (n - d + len y m) = n - d + len y m := w64 (by omega) (by omega)
    rw [e1, e2]

/-! ### Texts -/
def two (n : Int) : List UInt8 := [dig (n / 10), dig (n % 10)]
def textL (y m d : Int) : List UInt8 := decL y ++ [45] ++ two m ++ [45] ++ two d
theorem dec_bs (n : Int) : dec n = bs (decL n) := rfl
theorem lit_bs (a : UInt8) : (⟨#[a]⟩ : ByteArray) = bs [a] := rfl
theorem decL_len (n : Int) : (decL n).length ≤ 4 := by
  unfold decL
  split
  · simp
  · split
    · simp
    · split <;> simp
theorem nt_is {n : Int} (h0 : 0 ≤ n) (h1 : n < 10000) : num_Text.f n = some (bs (decL n)) := by
  unfold num_Text.f num_Text_f
  rw [if_pos ⟨h0, h1⟩, dec_bs]
theorem rt_is {n : Int} (h0 : 0 ≤ n) (h1 : n < 10000) : accountingref01_Text.f n = some (bs (decL n)) := by
  unfold accountingref01_Text.f
  rw [if_pos ⟨h0, h1⟩, dec_bs]
theorem decL_1 {n : Int} (h : n < 10) : decL n = [dig n] := if_pos h
theorem decL_2 {n : Int} (h0 : 10 ≤ n) (h : n < 100) : decL n = [dig (n / 10), dig (n % 10)] := by
  unfold decL
  rw [if_neg (by omega), if_pos h, show n / 10 % 10 = n / 10 by omega]
theorem padded_is {n : Int} (h0 : 0 ≤ n) (h1 : n < 100) : days_padded.f n = some (bs (two n)) := by
  unfold days_padded.f two
  rw [nt_is h0 (by omega), Option.bind_some, Option.bind_some]
  by_cases a : n < 10
  · rw [if_pos a, decL_1 a, bs_size, if_pos (by simp), lit_bs, bs_append, show n / 10 = 0 by omega, show n % 10 = n by omega]
    rfl
  · rw [if_neg a, decL_2 (by omega) h1]
theorem rtwo_is {n : Int} (h0 : 0 ≤ n) (h1 : n < 100) : accountingref04_two.f n = some (bs (two n)) := by
  have t1 : Int.tdiv n 10 = n / 10 := Int.tdiv_eq_ediv_of_nonneg (by omega)
  have t2 : Int.tmod n 10 = n % 10 := Int.tmod_eq_emod_of_nonneg (by omega)
  unfold accountingref04_two.f two
  rw [t1, t2, w64 (by omega) (by omega), rt_is (by omega) (by omega), rt_is (by omega) (by omega), Option.bind_some, Option.bind_some, decL_1 (by omega), decL_1 (by omega), bs_size, bs_size, if_pos (by simp), bs_append]
  rfl
def textS (n : Int) : ByteArray × Int := if (dateS n).2.2.2 = 0 then (bs (textL (dateS n).1 (dateS n).2.1 (dateS n).2.2.1), 0) else (bs [], 11)
theorem text_is (n : Int) : days_Text.f n = some (textS n) := by
  unfold days_Text.f textS days_Date.f
  rw [Option.bind_some]
  rcases day_or n with ⟨hd, _⟩ | ⟨y, m, d, hd, hi⟩
  · rw [hd]; rfl
  · rw [hd]
    dsimp only
    rw [if_pos rfl, if_pos rfl]
    obtain ⟨h1, h2, h3, h4, h5, h6, h7⟩ := hi
    have l := len_bd y m
    have ly := decL_len y
    rw [nt_is (by omega) (by omega), Option.bind_some, bs_size, if_pos (by omega), padded_is (by omega) (by omega), Option.bind_some, lit_bs, bs_append, bs_size, bs_size, if_pos (by simp [two]; omega), bs_append, bs_size, if_pos (by simp [two]; omega), padded_is (by omega) (by omega), Option.bind_some, bs_append, bs_size, bs_size, if_pos (by simp [two]; omega), bs_append]
    rfl
theorem rtext04_is (n : Int) : accountingref04_Text.f n = some (textS n) := by
  unfold accountingref04_Text.f textS accountingref04_Date.f
  rw [Option.bind_some]
  rcases day_or n with ⟨hd, _⟩ | ⟨y, m, d, hd, hi⟩
  · rw [hd]; rfl
  · rw [hd]
    dsimp only
    rw [if_pos rfl, if_pos rfl]
    obtain ⟨h1, h2, h3, h4, h5, h6, h7⟩ := hi
    have l := len_bd y m
    have ly := decL_len y
    rw [rt_is (by omega) (by omega), Option.bind_some, bs_size, if_pos (by omega), rtwo_is (by omega) (by omega), Option.bind_some, lit_bs, bs_append, bs_size, bs_size, if_pos (by simp [two]; omega), bs_append, bs_size, if_pos (by simp [two]; omega), rtwo_is (by omega) (by omega), Option.bind_some, bs_append, bs_size, bs_size, if_pos (by simp [two]; omega), bs_append]
    rfl

/-! ### Reading: the program's number beside the reference's Digits and value -/
theorem read_eq {s : ByteArray} (hs : s.size < 1000) (e : Nat) : ∀ (k : Nat) (n i : Int), 0 ≤ i → i + e = s.size → e < k →
    ∃ N b, days_number.l0 k s n (s.size : Int) i = some (N, b) ∧ (accountingref01_Digits.l0 k s i = some (b && (s.toList != ([] : List UInt8))) ∨ b = false ∧ accountingref01_Digits.l0 k s i = some false) ∧ (b = true → accountingref04_value.l0 k s n i = some N) := by
  induction e with
  | zero =>
    intro k n i h0 h1 hk
    obtain ⟨k, rfl⟩ : ∃ q, k = q + 1 := ⟨k - 1, by omega⟩
    refine ⟨n, true, ?_, .inl ?_, fun _ => ?_⟩
    · rw [days_number.l0, if_neg (by omega)]
    · rw [accountingref01_Digits.l0, if_neg (by omega)]; rfl
    · rw [accountingref04_value.l0, if_neg (by omega)]
  | succ e ih =>
    intro k n i h0 h1 hk
    obtain ⟨k, rfl⟩ : ∃ q, k = q + 1 := ⟨k - 1, by omega⟩
    have hw : wrap64 (i + 1) = i + 1 := w64 (by omega) (by omega)
    by_cases c1 : bt s i < 48
    · refine ⟨0, false, ?_, .inr ⟨rfl, ?_⟩, fun h => by cases h⟩
      · rw [days_number.l0, if_pos (by omega), if_pos h0, if_pos (by omega), if_pos c1]
      · rw [accountingref01_Digits.l0, if_pos (by omega), if_pos h0, if_pos c1]
    by_cases c2 : bt s i > 57
    · refine ⟨0, false, ?_, .inr ⟨rfl, ?_⟩, fun h => by cases h⟩
      · rw [days_number.l0, if_pos (by omega), if_pos h0, if_pos (by omega), if_neg c1, if_pos c2]
      · rw [accountingref01_Digits.l0, if_pos (by omega), if_pos h0, if_neg c1, if_pos c2]
    obtain ⟨N, b, g1, g2, g3⟩ := ih k (wrap64 ((wrap64 (10 * n)) + (((bt s i) - 48) % 256))) (i + 1) (by omega) (by omega) (by omega)
    refine ⟨N, b, ?_, ?_, ?_⟩
    · rw [days_number.l0, if_pos (by omega), if_pos h0, if_pos (by omega), if_neg c1, if_neg c2, hw]; exact g1
    · rw [accountingref01_Digits.l0, if_pos (by omega), if_pos h0, if_neg c1, if_neg c2, hw]; exact g2
    · intro hb
      rw [accountingref04_value.l0, if_pos (by omega), if_pos h0, hw, Int.mul_comm n 10]; exact g3 hb
theorem nonempty_list {s : ByteArray} (h : 0 < s.size) : (s.toList != ([] : List UInt8)) = true := by
  obtain ⟨⟨l⟩⟩ := s
  have : (⟨⟨l⟩⟩ : ByteArray).toList = l := bs_toList l
  rw [this]
  cases l with
  | nil => simp [ByteArray.size] at h
  | cons a l => rfl
theorem read_part {s : ByteArray} (hs : s.size < 8) (h0 : 0 < s.size) : ∃ N b, days_number.f 8 s = some (N, b) ∧ accountingref01_Digits.f 9 s = some b ∧ (b = true → accountingref04_value.f 8 s = some N) := by
  obtain ⟨N, b, g1, g2, g3⟩ := read_eq (s := s) (by omega) s.size 8 0 0 (Int.le_refl _) (by omega) hs
  obtain ⟨N2, b2, f1, f2, f3⟩ := read_eq (s := s) (by omega) s.size 9 0 0 (Int.le_refl _) (by omega) (by omega)
  have hm := days_number.mono s 8 (N, b) g1
  have e : some (N2, b2) = some (N, b) := f1.symm.trans hm
  obtain ⟨rfl, rfl⟩ : N2 = N ∧ b2 = b := by simpa using e
  refine ⟨N2, b2, g1, ?_, g3⟩
  rw [nonempty_list h0, Bool.and_true] at f2
  rcases f2 with h | ⟨h, h'⟩
  · exact h
  · rw [h]; exact h'

theorem j0_bad (s : ByteArray) : accountingref04_Parse.j0 9 s true = some (0, 5) := by rw [accountingref04_Parse.j0, if_pos rfl]
theorem parse_eq (s : ByteArray) : ∃ r : Int × Int, days_Parse.f s = some r ∧ accountingref04_Parse.f 9 s = some r := by
  by_cases h : (s.size : Int) = 10
  · have hz : s.size = 10 := by omega
    have z0 : (s.extract 0 4).size = 4 := by rw [ByteArray.size_extract]; omega
    have z1 : (s.extract 5 7).size = 2 := by rw [ByteArray.size_extract]; omega
    have z2 : (s.extract 8 s.size).size = 2 := by rw [ByteArray.size_extract]; omega
    obtain ⟨N0, b0, g0, f0, v0⟩ := read_part (s := s.extract 0 4) (by omega) (by omega)
    obtain ⟨N1, b1, g1, f1, v1⟩ := read_part (s := s.extract 5 7) (by omega) (by omega)
    obtain ⟨N2, b2, g2, f2, v2⟩ := read_part (s := s.extract 8 s.size) (by omega) (by omega)
    have r4 : 4 ≤ (s.size : Int) := by omega
    have r4' : 4 < (s.size : Int) := by omega
    have r7 : 7 ≤ (s.size : Int) := by omega
    have r7' : 7 < (s.size : Int) := by omega
    have r8 : 8 ≤ (s.size : Int) := by omega
    have L : days_Parse.f s = if bt s 4 = 45 then if bt s 7 = 45 then if b0 = true then if b1 = true then if b2 = true then some (ofS N0 N1 N2) else some (0, 5) else some (0, 5) else some (0, 5) else some (0, 5) else some (0, 5) := by
      unfold days_Parse.f
      rw [if_pos h, g0, g1, g2, Option.bind_some, Option.bind_some, Option.bind_some]
      rfl
    have R : accountingref04_Parse.f 9 s = if b0 = true then if bt s 4 = 45 then if b1 = true then if bt s 7 = 45 then accountingref04_Parse.j0 9 s (!b2) else accountingref04_Parse.j0 9 s true else accountingref04_Parse.j0 9 s true else accountingref04_Parse.j0 9 s true else accountingref04_Parse.j0 9 s true := by
      unfold accountingref04_Parse.f
      rw [if_pos h, if_pos (by decide), if_pos r4, f0, f1, f2, Option.bind_some, Option.bind_some, Option.bind_some, if_pos r4', if_pos r7', if_pos r7, if_pos r8, if_pos (show 5 ≤ 7 by decide)]
    have G : b0 = true → b1 = true → b2 = true → accountingref04_Parse.j0 9 s false = some (ofS N0 N1 N2) := by
      intro c0 c1 c2
      rw [accountingref04_Parse.j0, if_neg (by decide), if_pos (by decide), if_pos r4, v0 c0, Option.bind_some, if_pos (by decide), if_pos r7, v1 c1, Option.bind_some, if_pos r8, v2 c2, Option.bind_some]
      rfl
    have B := j0_bad s
    rw [L, R]
    by_cases c4 : bt s 4 = 45
    · by_cases c7 : bt s 7 = 45
      · rw [if_pos c4, if_pos c4, if_pos c7, if_pos c7]
        cases b0
        · exact ⟨(0, 5), rfl, B⟩
        cases b1
        · exact ⟨(0, 5), rfl, B⟩
        cases b2
        · exact ⟨(0, 5), rfl, B⟩
        exact ⟨_, rfl, G rfl rfl rfl⟩
      · rw [if_pos c4, if_pos c4, if_neg c7, if_neg c7]
        refine ⟨(0, 5), rfl, ?_⟩
        cases b0
        · exact B
        cases b1 <;> exact B
    · rw [if_neg c4, if_neg c4]
      refine ⟨(0, 5), rfl, ?_⟩
      cases b0 <;> exact B
  · unfold days_Parse.f accountingref04_Parse.f
    rw [if_neg h, if_neg h]
    exact ⟨(0, 5), rfl, j0_bad s⟩

/-! ### Reading what Text writes -/
theorem bt_bs {l : List UInt8} {i x : Int} (h : l[i.toNat]? = some (dig x)) (h0 : 0 ≤ x) (h1 : x ≤ 9) : bt (bs l) i = 48 + x := by
  obtain ⟨hl, he⟩ := List.getElem?_eq_some_iff.mp h
  unfold bt
  rw [dif_pos (show i.toNat < (bs l).size from hl)]
  show ((l[i.toNat]'hl).toNat : Int) = 48 + x
  rw [he]
  exact dig_num h0 h1
theorem num_step {k : Nat} {s : ByteArray} {n i x : Int} (hi : 0 ≤ i) (h : i < s.size) (hs : s.size < 1000) (hb : bt s i = 48 + x) (h0 : 0 ≤ x) (h1 : x ≤ 9) (n0 : 0 ≤ n) (n1 : n ≤ 100000) :
    days_number.l0 (k + 1) s n (s.size : Int) i = days_number.l0 k s (10 * n + x) (s.size : Int) (i + 1) := by
  rw [days_number.l0, if_pos h, if_pos hi, if_pos h, hb, if_neg (by omega), if_neg (by omega), w64 (x := i + 1) (by omega) (by omega), w64 (x := 10 * n) (by omega) (by omega), show (48 + x - 48) % 256 = x by omega, w64 (by omega) (by omega)]
theorem num_end {k : Nat} {s : ByteArray} {n i : Int} (h : ¬ i < s.size) : days_number.l0 (k + 1) s n (s.size : Int) i = some (n, true) := by
  rw [days_number.l0, if_neg h]
theorem number_4 {a b c d : Int} (a0 : 0 ≤ a) (a1 : a ≤ 9) (b0 : 0 ≤ b) (b1 : b ≤ 9) (c0 : 0 ≤ c) (c1 : c ≤ 9) (d0 : 0 ≤ d) (d1 : d ≤ 9) :
    days_number.f 8 (bs [dig a, dig b, dig c, dig d]) = some (1000 * a + 100 * b + 10 * c + d, true) := by
  have hz : (bs [dig a, dig b, dig c, dig d]).size = 4 := rfl
  unfold days_number.f
  rw [num_step (i := 0) (x := a) (by omega) (by omega) (by omega) (bt_bs rfl a0 a1) a0 a1 (by omega) (by omega),
    num_step (i := 0 + 1) (x := b) (by omega) (by omega) (by omega) (bt_bs rfl b0 b1) b0 b1 (by omega) (by omega),
    num_step (i := 0 + 1 + 1) (x := c) (by omega) (by omega) (by omega) (bt_bs rfl c0 c1) c0 c1 (by omega) (by omega),
    num_step (i := 0 + 1 + 1 + 1) (x := d) (by omega) (by omega) (by omega) (bt_bs rfl d0 d1) d0 d1 (by omega) (by omega), num_end (by omega)]
  congr 2; omega
theorem number_2 {n : Int} (h0 : 0 ≤ n) (h1 : n < 100) : days_number.f 8 (bs (two n)) = some (n, true) := by
  have hz : (bs (two n)).size = 2 := rfl
  unfold days_number.f
  rw [num_step (i := 0) (x := n / 10) (by omega) (by omega) (by omega) (bt_bs rfl (by omega) (by omega)) (by omega) (by omega) (by omega) (by omega),
    num_step (i := 0 + 1) (x := n % 10) (by omega) (by omega) (by omega) (bt_bs rfl (by omega) (by omega)) (by omega) (by omega) (by omega) (by omega), num_end (by omega)]
  congr 2; omega
theorem parse_text {n y m d : Int} (h : IsDate n y m d) : days_Parse.f (bs (textL y m d)) = some (n, 0) := by
  have ho := of_date h
  obtain ⟨h1, h2, h3, h4, h5, h6, h7⟩ := h
  have l := len_bd y m
  have e : textL y m d = [dig (y / 10 / 10 / 10 % 10), dig (y / 10 / 10 % 10), dig (y / 10 % 10), dig (y % 10), 45, dig (m / 10), dig (m % 10), 45, dig (d / 10), dig (d % 10)] := by
    unfold textL decL two
    rw [if_neg (by omega), if_neg (by omega), if_neg (by omega)]
    rfl
  obtain ⟨s, hs⟩ : ∃ s, s = bs (textL y m d) := ⟨_, rfl⟩
  rw [← hs]
  rw [e] at hs
  have q0 : (s.size : Int) = 10 := by rw [hs]; rfl
  have q4 : bt s 4 = 45 := by rw [hs]; rfl
  have q7 : bt s 7 = 45 := by rw [hs]; rfl
  have p0 : s.extract 0 4 = bs [dig (y / 10 / 10 / 10 % 10), dig (y / 10 / 10 % 10), dig (y / 10 % 10), dig (y % 10)] := by rw [hs]; rfl
  have p1 : s.extract 5 7 = bs (two m) := by rw [hs]; rfl
  have p2 : s.extract 8 s.size = bs (two d) := by rw [hs]; rfl
  unfold days_Parse.f
  rw [if_pos q0, if_pos q4, if_pos q7, p0, p1, p2, number_4 (by omega) (by omega) (by omega) (by omega) (by omega) (by omega) (by omega) (by omega), number_2 (by omega) (by omega), number_2 (by omega) (by omega), Option.bind_some, if_pos rfl, Option.bind_some, if_pos rfl, Option.bind_some, if_pos rfl]
  show some (ofS (1000 * (y / 10 / 10 / 10 % 10) + 100 * (y / 10 / 10 % 10) + 10 * (y / 10 % 10) + y % 10) m d) = _
  rw [show 1000 * (y / 10 / 10 / 10 % 10) + 100 * (y / 10 / 10 % 10) + 10 * (y / 10 % 10) + y % 10 = y by omega, ho]

/-! ### The chapter's examples -/
theorem lives_9 : accountinglaw04_lives.f 9 = some true := by
  have d1 : IsDate 36583 2000 2 29 := by unfold IsDate; decide
  have d2 : IsDate 36948 2001 2 28 := by unfold IsDate; decide
  have e1 : days_Of.f 2000 2 29 = some (36583, 0) := by unfold days_Of.f; rw [of_date d1]
  have e2 : days_AddMonths.f 9 36583 12 = some (36948, 0) := by
    rw [add_is]; unfold addS; rw [dateS_is d1]; decide
  have e3 : days_Text.f 36948 = some (bs [50, 48, 48, 49, 45, 48, 50, 45, 50, 56], 0) := by
    rw [text_is]; unfold textS; rw [dateS_is d2]; rfl
  have e4 : days_Parse.f (⟨#[50, 48, 48, 49, 45, 48, 50, 45, 50, 57]⟩ : ByteArray) = some (0, 11) := by decide +kernel
  have e5 : days_Weekday.f 36583 = some 1 := by decide
  unfold accountinglaw04_lives.f
  rw [e1, Option.bind_some, e2, Option.bind_some, e3, Option.bind_some, e4, Option.bind_some, e5]
  rw [if_pos rfl, if_pos rfl, Option.bind_some, if_pos rfl, if_pos rfl, if_pos rfl, if_pos (bs_toList _), if_pos rfl]
  rfl

/-! ### The laws -/
theorem DaysDates : DaysDatesP := by
  intro a b c _ _ _
  refine ⟨9, ?_⟩
  unfold accountinglaw04_DaysDates.f days_Of.f accountingref04_Of.f
  rw [Option.bind_some, Option.bind_some, if_pos rfl, if_pos rfl, lives_9, Option.bind_some]
  rw [accountinglaw04_DaysDates.j0, if_neg (by decide)]
  by_cases g : a < 1900 ∨ 2199 < a ∨ c < 1 ∨ len a b < c
  · rw [ofS, if_pos g, if_neg (by decide)]
  · have hd := date_of (y := a) (m := b) (d := c) (by omega) (by omega) (by omega) (by omega)
    rw [of_date hd]
    unfold days_Date.f
    rw [dateS_is hd, if_pos rfl, Option.bind_some]
    simp
theorem DaysMonths : DaysMonthsP := by
  intro a b _ _
  refine ⟨9, ?_⟩
  unfold accountinglaw04_DaysMonths.f days_Leap.f accountingref04_Leap.f days_Length.f accountingref04_Length.f
  rw [Option.bind_some, Option.bind_some, if_pos (beq_self_eq_true _), Option.bind_some, Option.bind_some, if_pos rfl, lives_9]
  rfl
theorem DaysAdds : DaysAddsP := by
  intro a b _ _
  refine ⟨9, ?_⟩
  unfold accountinglaw04_DaysAdds.f
  rw [add_is, radd_is, Option.bind_some, Option.bind_some, if_pos rfl, if_pos rfl, lives_9]
  rfl
theorem DaysNumbers : DaysNumbersP := by
  intro n _
  refine ⟨9, ?_⟩
  unfold accountinglaw04_DaysNumbers.f days_Date.f accountingref04_Date.f
  rw [end_is, rend_is, week_is, rweek_is, lives_9]
  simp
theorem DaysReturns : DaysReturnsP := by
  intro n k _ _
  refine ⟨10, ?_⟩
  unfold accountinglaw04_DaysReturns.f
  by_cases k1 : k < -3600
  · rw [if_pos k1, accountinglaw04_DaysReturns.j0, if_pos rfl]
  rw [if_neg k1]
  by_cases k2 : k > 3600
  · rw [decide_eq_true k2, accountinglaw04_DaysReturns.j0, if_pos rfl]
  rw [decide_eq_false k2, accountinglaw04_DaysReturns.j0, if_neg (by decide), add_is, Option.bind_some, lives_9]
  by_cases e : (addS n k).2 = 0
  · rw [if_pos e, add_is, Option.bind_some]
    unfold days_Date.f
    rw [Option.bind_some, Option.bind_some, w64 (x := -k) (by omega) (by omega)]
    rcases day_or n with ⟨hd, _⟩ | ⟨y, m, d, hd, hi⟩
    · exfalso
      unfold addS at e
      rw [hd, if_neg (by intro h; exact absurd h.1 (by decide))] at e
      exact absurd e (by decide)
    · have ex : addS n k = addAt y m d k := by unfold addS; rw [hd, if_pos ⟨rfl, by omega, by omega⟩]
      obtain ⟨h1, h2, h3, h4, h5, h6, h7⟩ := hi
      have hb : 0 ≤ 12 * (y - 1900) + m - 1 + k ∧ 12 * (y - 1900) + m - 1 + k < 3600 := by
        rw [ex] at e
        unfold addAt at e
        by_cases g : 12 * (y - 1900) + m - 1 + k < 0 ∨ 3600 ≤ 12 * (y - 1900) + m - 1 + k
        · rw [if_pos g] at e; exact absurd e (by decide)
        · omega
      obtain ⟨y', m', g1, g2, g3, g4, g5, g6, g7⟩ := add_at h1 h2 h3 h4 h5 h6 hb.1 hb.2
      have dx := dateS_is g6
      have l1 := len_range (y := y') g3 g4
      have l2 := len_range (y := y) h3 h4
      obtain ⟨y2, m2, f1, f2, f3, f4, f5, f6, f7⟩ := add_at (y := y') (m := m') (d := min d (len y' m')) (k := -k) g1 g2 g3 g4 (by omega) (by omega) (by omega) (by omega)
      obtain ⟨rfl, rfl⟩ : y2 = y ∧ m2 = m := by omega
      have ex2 : addS (addS n k).1 (-k) = addAt y' m' (min d (len y' m')) (-k) := by rw [ex]; unfold addS; rw [dx, if_pos ⟨rfl, by omega, by omega⟩]
      rw [ex2, hd, dateS_is f6]
      dsimp only
      rw [if_pos f7, if_pos rfl, if_pos rfl, if_pos rfl, if_pos rfl, if_pos (by omega)]
      by_cases q : min (min d (len y' m')) (len y2 m2) = d
      · rw [if_pos q]; rfl
      · rw [if_neg q, if_pos (by omega)]; rfl
  · rw [if_neg e]; rfl
theorem DaysFollow : DaysFollowP := by
  intro n _
  refine ⟨11, ?_⟩
  unfold accountinglaw04_DaysFollow.f
  by_cases k1 : n < 0
  · rw [if_pos k1, accountinglaw04_DaysFollow.j0, if_pos rfl]
  rw [if_neg k1]
  by_cases k2 : n ≥ 109572
  · rw [decide_eq_true k2, accountinglaw04_DaysFollow.j0, if_pos rfl]
  rw [decide_eq_false k2, accountinglaw04_DaysFollow.j0, if_neg (by decide), w64 (x := n + 1) (by omega) (by omega), week_is, week_is]
  unfold days_Date.f
  obtain ⟨y, m, d, hd, hi⟩ := dateS_in (n := n) (by omega) (by omega)
  obtain ⟨y', m', d', hd', hi'⟩ := dateS_in (n := n + 1) (by omega) (by omega)
  rw [hd, hd', Option.bind_some, Option.bind_some]
  dsimp only
  rw [if_pos rfl, if_pos rfl, Option.bind_some, Option.bind_some]
  have wk : (weekS (n + 1) != Int.tmod (wrap64 (weekS n + 1)) 7) = false := by
    unfold weekS
    rw [if_pos (by omega), if_pos (by omega), w64 (by omega) (by omega), Int.tmod_eq_emod_of_nonneg (by omega), bne_eq_false_iff_eq]
    omega
  rw [wk, accountinglaw04_DaysFollow.j1, if_neg (by decide), lives_9]
  unfold days_Length.f
  rw [Option.bind_some]
  obtain ⟨h1, h2, h3, h4, h5, h6, h7⟩ := hi
  have l := len_range (y := y) h3 h4
  by_cases c : d < len y m
  · have hn : IsDate (n + 1) y m (d + 1) := ⟨h1, h2, h3, h4, by omega, by omega, by rw [← h7]; unfold num; omega⟩
    obtain ⟨rfl, rfl, rfl⟩ := date_unique hi' hn
    rw [if_pos c, w64 (by omega) (by omega), if_pos (by simp)]
    rfl
  rw [if_neg c]
  by_cases c2 : m < 12
  · have hn : IsDate (n + 1) y (m + 1) 1 := by
      refine ⟨h1, h2, by omega, by omega, by omega, ?_, ?_⟩
      · have := len_range (y := y) (m := m + 1) (by omega) (by omega); omega
      · rw [← h7]; unfold num
        have := cum_next (y := y) h3
        rw [show (m + 1 - 1).toNat = m.toNat by omega, this]; omega
    obtain ⟨rfl, rfl, rfl⟩ := date_unique hi' hn
    rw [if_pos c2, w64 (by omega) (by omega), if_pos (by simp)]
    rfl
  · obtain rfl : m = 12 := by omega
    have hy : y + 1 ≤ 2199 ∧ num (y + 1) 1 1 = n + 1 := by
      have e : num (y + 1) 1 1 = n + 1 := by
        rw [← h7]; unfold num
        have a := cum_next (y := y) (m := 12) (by omega)
        have b := cum_12 y
        have s := bef_succ y
        have z : cumN (y + 1) (1 - 1 : Int).toNat = 0 := rfl
        rw [show (12 : Int).toNat = 12 from rfl, show (12 - 1 : Int).toNat = 11 from rfl] at a
        rw [z, show (12 - 1 : Int).toNat = 11 from rfl]
        omega
      refine ⟨?_, e⟩
      by_cases q : y = 2199
      · exfalso
        subst q
        have : num (2199 + 1) 1 1 = 109573 := by decide
        omega
      · omega
    have hn : IsDate (n + 1) (y + 1) 1 1 := ⟨by omega, hy.1, by omega, by omega, by omega, by have := len_range (y := y + 1) (m := 1) (by omega) (by omega); omega, hy.2⟩
    obtain ⟨rfl, rfl, rfl⟩ := date_unique hi' hn
    rw [if_neg c2, w64 (by omega) (by omega), if_pos (by simp)]
    rfl
theorem DaysTexts : DaysTextsP := by
  intro n _
  refine ⟨9, ?_⟩
  unfold accountinglaw04_DaysTexts.f
  rw [text_is, rtext04_is, Option.bind_some, Option.bind_some, if_pos rfl, if_pos rfl, lives_9, Option.bind_some, accountinglaw04_DaysTexts.j0, if_neg (by decide)]
  unfold textS
  rcases day_or n with ⟨hd, _⟩ | ⟨y, m, d, hd, hi⟩
  · rw [hd]; rfl
  · rw [hd]
    dsimp only
    rw [if_pos rfl, if_pos rfl, parse_text hi, Option.bind_some, if_pos rfl]
    rfl
theorem DaysParses : DaysParsesP := by
  intro s _
  refine ⟨9, ?_⟩
  unfold accountinglaw04_DaysParses.f
  by_cases c : (s.size : Int) > 400
  · rw [if_pos c]
  obtain ⟨r, e1, e2⟩ := parse_eq s
  rw [if_neg c, e1, e2, Option.bind_some, Option.bind_some, if_pos rfl, if_pos rfl, lives_9]
  rfl
end Go.Proofs.YtkjacjkmmboklaaDoor.Pure
