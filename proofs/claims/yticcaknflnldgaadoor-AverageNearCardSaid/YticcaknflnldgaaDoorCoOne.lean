/- The walks of words.Code, moves.One and accountingref33.One: what each answers, as plain functions; no condition but what each lemma names. -/
import Derived.Test.YticcaknflnldgaaDoorCx
import Derived.Test.YticcaknflnldgaaDoorDyM
import Derived.LoopN
import Derived.Outline
namespace Go.Proofs.YticcaknflnldgaaDoor.Co
open Go.RowKit Go.Proofs.YticcaknflnldgaaDoorW.PrintWords Go.Proofs.YticcaknflnldgaaDoorW.PrintLast Go.Proofs.YticcaknflnldgaaDoor.C
set_option linter.unusedVariables false
set_option linter.unusedSimpArgs false

/-- A byte of a code. -/
def alB (c : Int) : Bool := decide (97 ≤ c ∧ c ≤ 122 ∨ 65 ≤ c ∧ c ≤ 90 ∨ c = 95 ∨ 48 ≤ c ∧ c ≤ 57)
def dB (c : Int) : Bool := decide (48 ≤ c ∧ c ≤ 57)
def ltB (c : Int) : Bool := decide (97 ≤ c ∧ c ≤ 122 ∨ 65 ≤ c ∧ c ≤ 90 ∨ c = 95)
theorem al_lt {c : Int} (h : ltB c = true) : alB c = true := by
  unfold ltB at h; unfold alB
  have := of_decide_eq_true h
  exact decide_eq_true (by omega)
theorem al_d {c : Int} (h : ltB c = false) : alB c = dB c := by
  unfold ltB at h; unfold alB dB
  have := of_decide_eq_false h
  rw [decide_eq_decide]; omega
theorem letter_is (c : Int) : words_letter.f c = some (ltB c) := by
  unfold words_letter.f ltB
  repeat' split
  all_goals (congr 1; first | (rw [eq_comm, decide_eq_true_iff]; omega) | (rw [eq_comm, decide_eq_false_iff_not]; omega) | (rw [decide_eq_decide]; omega) | (rw [Bool.eq_iff_iff, beq_iff_eq, decide_eq_true_iff]; omega))
theorem digit_is (c : Int) : words_digit.f c = some (dB c) := by
  unfold words_digit.f dB
  repeat' split
  all_goals (congr 1; first | (rw [eq_comm, decide_eq_true_iff]; omega) | (rw [eq_comm, decide_eq_false_iff_not]; omega) | (rw [decide_eq_decide]; omega))
theorem code1_calls (c : Int) (w : World) : Calls Tryd.prog 57 #[.int .u8 c] w fun e w' => e = .returned (.bool (alB c)) ∧ Below w.heap.size w w' := by
  have L := letter_is c
  have D := digit_is c
  cases h1 : ltB c
  · rw [h1] at L
    have HL := Aside0.mk L
    have HD := Aside0.mk D
    rw [al_d h1]
    clear L D h1
    go_enter Tryd.func57, Tryd.ntmps57
    go_wp2_with (first | (go_at_call 58; (with_reducible refine (words_letter.calls c false _ HL.out).mono ?_); rintro e w1 ⟨rfl, hd⟩; have hb := hd.below; clear hd) | (go_at_call 59; (with_reducible refine (words_digit.calls c _ _ HD.out).mono ?_); rintro e w2 ⟨rfl, hd⟩; have hb2 := below_step hb hd.below; clear hd))
    go_ret
    exact ⟨rfl, hb2⟩
  · rw [h1] at L
    have HL := Aside0.mk L
    rw [al_lt h1]
    clear L D h1
    go_enter Tryd.func57, Tryd.ntmps57
    go_wp2_with (go_at_call 58; (with_reducible refine (words_letter.calls c true _ HL.out).mono ?_); rintro e w' ⟨rfl, hd⟩; have hb := hd.below; clear hd)
    go_ret
    exact ⟨rfl, hb⟩
/-- All bytes from i on. -/
def allB (s : ByteArray) (i : Nat) : Bool := decide (∀ j : Nat, j < s.size → i ≤ j → alB (bt s j) = true)
theorem allB_end {s : ByteArray} {i : Nat} (h : s.size ≤ i) : allB s i = true := decide_eq_true (fun j h1 h2 => by omega)
theorem allB_no {s : ByteArray} {i : Nat} (h : i < s.size) (hb : alB (bt s i) = false) : allB s i = false := decide_eq_false (fun q => by have := q i h (Nat.le_refl _); rw [hb] at this; cases this)
theorem allB_step {s : ByteArray} {i : Nat} (h : i < s.size) (hb : alB (bt s i) = true) : allB s i = allB s (i + 1) := by
  unfold allB
  rw [decide_eq_decide]
  exact ⟨fun q j h1 h2 => q j h1 (by omega), fun q j h1 h2 => if e : j = i then by rw [e]; exact hb else q j h1 (by omega)⟩
set_option maxHeartbeats 2000000 in
theorem every_calls (s : ByteArray) (w : World) (hs : s.size ≤ 140737488351232) : Calls Tryd.prog 56 #[.string s, .func (Fn.func 57) #[] #[]] w fun e w' => e = .returned (.bool (allB s 0)) ∧ Below w.heap.size w w' := by
  go_enter Tryd.func56, Tryd.ntmps56
  go_wp2
  go_loopg [8] s.size (fun g i wr => ∃ k : Nat, k + g = s.size ∧ i = .int .i64 k ∧ allB s 0 = allB s k ∧ Below w.heap.size w wr)
  case atStart => exact ⟨0, by omega, rfl, rfl, Below.refl _ _⟩
  case round =>
    obtain ⟨k, hg, rfl, hA, hb⟩ := hrel
    have HB := Aside0.mk hb
    have HA := Aside0.mk hA
    clear hb hA
    by_cases hk : k < s.size
    · obtain ⟨g, rfl⟩ : ∃ m, gk = m + 1 := ⟨gk - 1, by omega⟩
      have HG := Aside0.mk hg
      clear hg
      have qk : ∀ h : k < s.size, (((s[k]'h).toNat : Nat) : Int) = bt s k := bt_at s k
      have C := code1_calls (bt s k)
      have s1 : decide ((k : Int) < (s.size : Int)) = true := decide_eq_true (by omega)
      have s1' : decide (k < s.size) = true := decide_eq_true hk
      cases ha : alB (bt s k)
      · rw [ha] at C
        have E := Aside0.mk (HA.out.trans (allB_no hk ha))
        clear ha
        go_wp2_with (go_at_call 57; (with_reducible refine (C _).mono ?_); rintro e w1 ⟨rfl, hb⟩; have HB1 := Aside0.mk (below_step HB.out hb); clear hb)
        go_ret
        exact ⟨by rw [E.out]; rfl, HB1.out⟩
      · rw [ha] at C
        have E := Aside0.mk (HA.out.trans (allB_step hk ha))
        clear ha
        go_wp2_with (go_at_call 57; (with_reducible refine (C _).mono ?_); rintro e w1 ⟨rfl, hb⟩; have HB1 := Aside0.mk (below_step HB.out hb); clear hb)
        go_roundg g
        case measure => omega
        case rel => exact ⟨k + 1, by have := HG.out; omega, by go_num, E.out, HB1.out⟩
    · have E := Aside0.mk (HA.out.trans (allB_end (by omega)))
      have s1 : decide ((k : Int) < (s.size : Int)) = false := decide_eq_false (by omega)
      have s1' : decide (k < s.size) = false := decide_eq_false hk
      clear hg
      go_wp2
      go_ret
      exact ⟨by rw [E.out]; rfl, HB.out⟩
def codeB (s : ByteArray) : Bool := decide (1 ≤ s.size ∧ s.size ≤ 12 ∧ allB s 0 = true)
theorem toList_ne {s : ByteArray} (h : 1 ≤ s.size) : s.toList ≠ [] := fun e => by
  have l : s.toList.length = s.size := by rw [ByteArray.toList_eq]; rfl
  rw [e] at l
  simp at l; omega
set_option maxHeartbeats 2000000 in
theorem code_calls (s : ByteArray) (w : World) : Calls Tryd.prog 34 #[.string s] w fun e w' => e = .returned (.bool (codeB s)) ∧ Below w.heap.size w w' := by
  by_cases h0 : 1 ≤ s.size
  · have n := toList_ne h0
    have h3 : (!s.toList.isEmpty) = true := by cases h : s.toList with | nil => exact absurd h n | cons _ _ => rfl
    have h4 : s.toList.isEmpty = false := by cases h : s.toList with | nil => exact absurd h n | cons _ _ => rfl
    have h5 : (s.toList == []) = false := by cases h : s.toList with | nil => exact absurd h n | cons _ _ => rfl
    have h6 : (s.toList != []) = true := by cases h : s.toList with | nil => exact absurd h n | cons _ _ => rfl
    by_cases hs : s.size ≤ 12
    · have h1 : decide (s.size ≤ 12) = true := decide_eq_true hs
      have h2 : decide ((s.size : Int) ≤ 12) = true := decide_eq_true (by omega)
      have e : codeB s = allB s 0 := by unfold codeB; cases h : allB s 0 <;> simp [h0, hs]
      rw [e]
      have HS : Aside0 (s.size ≤ 140737488351232) := ⟨by omega⟩
      clear h0 hs n e
      go_enter Tryd.func34, Tryd.ntmps34
      go_wp2_with (go_at_call 56; (with_reducible refine (every_calls s _ HS.out).mono ?_); rintro e w1 ⟨rfl, hb⟩)
      go_ret
      exact ⟨rfl, hb⟩
    · have h1 : decide (s.size ≤ 12) = false := decide_eq_false hs
      have h2 : decide ((s.size : Int) ≤ 12) = false := decide_eq_false (by omega)
      have e : codeB s = false := decide_eq_false (fun q => hs q.2.1)
      rw [e]
      clear h0 hs n e
      go_enter Tryd.func34, Tryd.ntmps34
      go_wp2
      go_ret
      exact ⟨rfl, Below.refl _ _⟩
  · have e : codeB s = false := decide_eq_false (fun q => h0 q.1)
    rw [e]
    obtain rfl : s = ⟨#[]⟩ := by
      apply ByteArray.ext
      have z : s.data.size = 0 := by have : s.size = s.data.size := rfl; omega
      exact Array.eq_empty_of_size_eq_zero z
    clear h0 e
    go_enter Tryd.func34, Tryd.ntmps34
    go_wp2
    go_ret
    exact ⟨rfl, Below.refl _ _⟩
def dayB (n : Int) : Bool := decide (0 ≤ n ∧ n ≤ 109572)
set_option maxHeartbeats 2000000 in
theorem isDay_calls (n : Int) (w : World) (hLd : Laid w) : Calls Tryd.prog 33 #[.int .i64 n] w fun e w' => e = .returned (.bool (dayB n)) ∧ Below w.heap.size w w' := by
  have HL := Aside0.mk hLd
  clear hLd
  by_cases h : 0 ≤ n ∧ n ≤ 109572
  · obtain ⟨y, m, d, hd, hI⟩ := Dy.dateS_in h.1 h.2
    have V : Aside0 (M.days_Date.f 400 n = some (y, m, d, 0)) := ⟨(Dy.date_f n).trans (congrArg some hd)⟩
    rw [show dayB n = true from decide_eq_true h]
    clear h hd hI
    go_enter Tryd.func33, Tryd.ntmps33
    go_wp2_with (go_at_call 55; (with_reducible refine (M.days_Date.calls 400 n y m d 0 _ HL.out V.out).mono ?_); rintro e w1 ⟨rfl, hb⟩)
    go_ret
    exact ⟨rfl, below_alloc hb _⟩
  · have V : Aside0 (M.days_Date.f 400 n = some (0, 0, 0, 11)) := ⟨Dy.date_out (by omega)⟩
    rw [show dayB n = false from decide_eq_false h]
    clear h
    go_enter Tryd.func33, Tryd.ntmps33
    go_wp2_with (go_at_call 55; (with_reducible refine (M.days_Date.calls 400 n 0 0 0 11 _ HL.out V.out).mono ?_); rintro e w1 ⟨rfl, hb⟩)
    go_ret
    exact ⟨rfl, below_alloc hb _⟩
/-! What moves.One asks of a movement (its fields m0 to m7). -/
def kindB (k : Int) : Bool := decide (1 ≤ k ∧ k ≤ 6)
def qtyB (m3 m4 : Int) : Bool := if m3 = 5 ∨ m3 = 6 then decide (m4 = 0) else decide (1 ≤ m4 ∧ m4 ≤ 1000000000)
def costB (m3 m5 : Int) : Bool := if m3 = 2 ∨ m3 = 3 then decide (m5 = 0) else if m3 = 5 then decide (1 ≤ m5 ∧ m5 ≤ 1000000000000) else decide (0 ≤ m5 ∧ m5 ≤ 1000000000000)
def lotB (m3 : Int) (m6 : ByteArray) : Bool := if m6.size = 0 then true else codeB m6 && decide (m3 = 1 ∨ m3 = 2)
def refB (k : Int) : Bool := decide (k = 3 ∨ k = 4 ∨ k = 5)
def refsB (m3 m7 : Int) : Bool := if refB m3 = true then decide (1 ≤ m7) else decide (m7 = 0)
/-- moves.One's answer. -/
def oneS (m1 : Int) (m2 : ByteArray) (m3 m4 m5 : Int) (m6 : ByteArray) (m7 : Int) : Int :=
  if dayB m1 = true then if codeB m2 = true then if kindB m3 = true then if qtyB m3 m4 = true then if costB m3 m5 = true then if lotB m3 m6 = true then if refsB m3 m7 = true then 0 else 28 else 22 else 3 else 3 else 10 else 7 else 11
theorem in_is (n a b : Int) : moves_in.f n a b = some (decide (a ≤ n ∧ n ≤ b)) := by
  unfold moves_in.f
  by_cases h : n ≥ a
  · rw [if_pos h]; congr 1; rw [decide_eq_decide]; exact ⟨fun q => ⟨h, q⟩, fun q => q.2⟩
  · rw [if_neg h]; congr 1; rw [eq_comm, decide_eq_false_iff_not]; exact fun q => h q.1
theorem quantity_is (m0 m1 : Int) (m2 : ByteArray) (m3 m4 m5 : Int) (m6 : ByteArray) (m7 : Int) : moves_quantity.f m0 m1 m2 m3 m4 m5 m6 m7 = some (qtyB m3 m4) := by
  unfold moves_quantity.f qtyB
  rw [in_is]
  by_cases h5 : m3 = 5
  · rw [if_pos h5, if_pos (.inl h5)]; congr 1 <;> rw [Bool.eq_iff_iff, beq_iff_eq, decide_eq_true_iff]
  · rw [if_neg h5]
    by_cases h6 : m3 = 6
    · rw [if_pos h6, if_pos (.inr h6)]; congr 1 <;> rw [Bool.eq_iff_iff, beq_iff_eq, decide_eq_true_iff]
    · rw [if_neg h6, if_neg (by omega)]
      first | done | rfl
theorem cost_is (m0 m1 : Int) (m2 : ByteArray) (m3 m4 m5 : Int) (m6 : ByteArray) (m7 : Int) : moves_cost.f 1 m0 m1 m2 m3 m4 m5 m6 m7 = some (costB m3 m5) := by
  unfold moves_cost.f costB
  by_cases h2 : m3 = 2
  · rw [if_pos h2, if_pos (.inl h2), show (m3 == 2) = true from beq_iff_eq.mpr h2]
    simp only [moves_cost.j0, if_true]
    congr 1 <;> rw [Bool.eq_iff_iff, beq_iff_eq, decide_eq_true_iff]
  · rw [if_neg h2]
    by_cases h3 : m3 = 3
    · rw [if_pos (.inr h3), show (m3 == 3) = true from beq_iff_eq.mpr h3]
      simp only [moves_cost.j0, if_true]
      congr 1 <;> rw [Bool.eq_iff_iff, beq_iff_eq, decide_eq_true_iff]
    · rw [if_neg (by omega), show (m3 == 3) = false from beq_eq_false_iff_ne.mpr h3]
      simp only [moves_cost.j0, Bool.false_eq_true, if_false]
      rw [in_is, in_is]
      split <;> rfl
theorem refers_is (k : Int) : moves_refers.f k = some (refB k) := by
  unfold moves_refers.f refB
  by_cases h3 : k = 3
  · rw [if_pos h3, decide_eq_true (.inl h3)]
  · rw [if_neg h3]
    by_cases h4 : k = 4
    · rw [if_pos h4, decide_eq_true (.inr (.inl h4))]
    · rw [if_neg h4]; congr 1 <;> rw [Bool.eq_iff_iff, beq_iff_eq, decide_eq_true_iff]; omega
theorem empty_of {s : ByteArray} (h : s.size = 0) : s = ⟨#[]⟩ := by
  apply ByteArray.ext
  exact Array.eq_empty_of_size_eq_zero h
set_option maxHeartbeats 4000000 in
theorem lot_calls (m0 m1 : Int) (m2 : ByteArray) (m3 m4 m5 : Int) (m6 : ByteArray) (m7 : Int) (w : World) : Calls Tryd.prog 38 #[.agg #[.int .i64 m0, .int .i64 m1, .string m2, .int .i64 m3, .int .i64 m4, .int .i64 m5, .string m6, .int .i64 m7]] w fun e w' => e = .returned (.bool (lotB m3 m6)) ∧ Below w.heap.size w w' := by
  have HZ : Aside0 (∀ o1 : Obj, (w.alloc o1).heap[w.heap.size]? = some o1) := ⟨fun o1 => heap_alloc_new w o1⟩
  by_cases h0 : m6.size = 0
  · have e : lotB m3 m6 = true := by unfold lotB; rw [if_pos h0]
    rw [e]
    obtain rfl := empty_of h0
    clear h0 e
    go_enter Tryd.func38, Tryd.ntmps38
    go_wp2
    go_ret
    exact ⟨rfl, below_alloc (Below.refl _ _) _⟩
  · have n := toList_ne (s := m6) (by omega)
    have h3 : (!m6.toList.isEmpty) = true := by cases h : m6.toList with | nil => exact absurd h n | cons _ _ => rfl
    have h4 : m6.toList.isEmpty = false := by cases h : m6.toList with | nil => exact absurd h n | cons _ _ => rfl
    have h5 : (m6.toList == []) = false := by cases h : m6.toList with | nil => exact absurd h n | cons _ _ => rfl
    have C := code_calls m6
    cases hc : codeB m6
    · rw [hc] at C
      have e : lotB m3 m6 = false := by unfold lotB; rw [if_neg h0, hc]; rfl
      rw [e]
      clear h0 e n hc
      go_enter Tryd.func38, Tryd.ntmps38
      go_wp2_with (go_at_call 34; (with_reducible refine (C _).mono ?_); rintro e w1 ⟨rfl, hb⟩)
      go_ret
      exact ⟨rfl, below_step (below_alloc (Below.refl _ _) _) hb⟩
    · rw [hc] at C
      have arm : lotB m3 m6 = decide (m3 = 1 ∨ m3 = 2) := by unfold lotB; rw [if_neg h0, hc]; rfl
      rw [arm]
      clear h0 arm n hc
      by_cases k1 : m3 = 1
      · rw [decide_eq_true (.inl k1)]
        have b1 : (m3 == 1) = true := beq_iff_eq.mpr k1
        clear k1
        go_enter Tryd.func38, Tryd.ntmps38
        go_wp2_with (go_at_call 34; (with_reducible refine (C _).mono ?_); rintro e w1 ⟨rfl, hb⟩; have M := Aside0.mk (blk_below (HZ.out _) hb); have c0 : w1.cell? ⟨w.heap.size, 0, none⟩ = some (.int .i64 m0) := (blk_cell M.out 0).trans rfl; have c1 : w1.cell? ⟨w.heap.size, 1, none⟩ = some (.int .i64 m1) := (blk_cell M.out 1).trans rfl; have c2 : w1.cell? ⟨w.heap.size, 2, none⟩ = some (.string m2) := (blk_cell M.out 2).trans rfl; have c3 : w1.cell? ⟨w.heap.size, 3, none⟩ = some (.int .i64 m3) := (blk_cell M.out 3).trans rfl; have c4 : w1.cell? ⟨w.heap.size, 4, none⟩ = some (.int .i64 m4) := (blk_cell M.out 4).trans rfl; have c5 : w1.cell? ⟨w.heap.size, 5, none⟩ = some (.int .i64 m5) := (blk_cell M.out 5).trans rfl; have c6 : w1.cell? ⟨w.heap.size, 6, none⟩ = some (.string m6) := (blk_cell M.out 6).trans rfl; have c7 : w1.cell? ⟨w.heap.size, 7, none⟩ = some (.int .i64 m7) := (blk_cell M.out 7).trans rfl)
        go_ret
        exact ⟨rfl, below_step (below_alloc (Below.refl _ _) _) hb⟩
      · have b1 : (m3 == 1) = false := beq_eq_false_iff_ne.mpr k1
        by_cases k2 : m3 = 2
        · rw [decide_eq_true (.inr k2)]
          have b2 : (m3 == 2) = true := beq_iff_eq.mpr k2
          clear k1 k2
          go_enter Tryd.func38, Tryd.ntmps38
          go_wp2_with (go_at_call 34; (with_reducible refine (C _).mono ?_); rintro e w1 ⟨rfl, hb⟩; have M := Aside0.mk (blk_below (HZ.out _) hb); have c0 : w1.cell? ⟨w.heap.size, 0, none⟩ = some (.int .i64 m0) := (blk_cell M.out 0).trans rfl; have c1 : w1.cell? ⟨w.heap.size, 1, none⟩ = some (.int .i64 m1) := (blk_cell M.out 1).trans rfl; have c2 : w1.cell? ⟨w.heap.size, 2, none⟩ = some (.string m2) := (blk_cell M.out 2).trans rfl; have c3 : w1.cell? ⟨w.heap.size, 3, none⟩ = some (.int .i64 m3) := (blk_cell M.out 3).trans rfl; have c4 : w1.cell? ⟨w.heap.size, 4, none⟩ = some (.int .i64 m4) := (blk_cell M.out 4).trans rfl; have c5 : w1.cell? ⟨w.heap.size, 5, none⟩ = some (.int .i64 m5) := (blk_cell M.out 5).trans rfl; have c6 : w1.cell? ⟨w.heap.size, 6, none⟩ = some (.string m6) := (blk_cell M.out 6).trans rfl; have c7 : w1.cell? ⟨w.heap.size, 7, none⟩ = some (.int .i64 m7) := (blk_cell M.out 7).trans rfl)
          go_ret
          exact ⟨rfl, below_step (below_alloc (Below.refl _ _) _) hb⟩
        · rw [decide_eq_false (fun q => q.elim k1 k2)]
          have b2 : (m3 == 2) = false := beq_eq_false_iff_ne.mpr k2
          clear k1 k2
          go_enter Tryd.func38, Tryd.ntmps38
          go_wp2_with (go_at_call 34; (with_reducible refine (C _).mono ?_); rintro e w1 ⟨rfl, hb⟩; have M := Aside0.mk (blk_below (HZ.out _) hb); have c0 : w1.cell? ⟨w.heap.size, 0, none⟩ = some (.int .i64 m0) := (blk_cell M.out 0).trans rfl; have c1 : w1.cell? ⟨w.heap.size, 1, none⟩ = some (.int .i64 m1) := (blk_cell M.out 1).trans rfl; have c2 : w1.cell? ⟨w.heap.size, 2, none⟩ = some (.string m2) := (blk_cell M.out 2).trans rfl; have c3 : w1.cell? ⟨w.heap.size, 3, none⟩ = some (.int .i64 m3) := (blk_cell M.out 3).trans rfl; have c4 : w1.cell? ⟨w.heap.size, 4, none⟩ = some (.int .i64 m4) := (blk_cell M.out 4).trans rfl; have c5 : w1.cell? ⟨w.heap.size, 5, none⟩ = some (.int .i64 m5) := (blk_cell M.out 5).trans rfl; have c6 : w1.cell? ⟨w.heap.size, 6, none⟩ = some (.string m6) := (blk_cell M.out 6).trans rfl; have c7 : w1.cell? ⟨w.heap.size, 7, none⟩ = some (.int .i64 m7) := (blk_cell M.out 7).trans rfl)
          go_ret
          exact ⟨rfl, below_step (below_alloc (Below.refl _ _) _) hb⟩
/-! The reference's guards. -/
theorem rletter_is (c : Int) : accountingref06_letter.f c = some (ltB c) := by
  unfold accountingref06_letter.f ltB
  repeat' split
  all_goals (congr 1; first | (rw [eq_comm, decide_eq_true_iff]; omega) | (rw [eq_comm, decide_eq_false_iff_not]; omega) | (rw [decide_eq_decide]; omega) | (rw [Bool.eq_iff_iff, beq_iff_eq, decide_eq_true_iff]; omega))
theorem rdigit_is (c : Int) : accountingref06_digit.f c = some (dB c) := by
  unfold accountingref06_digit.f dB
  repeat' split
  all_goals (congr 1; first | (rw [eq_comm, decide_eq_true_iff]; omega) | (rw [eq_comm, decide_eq_false_iff_not]; omega) | (rw [decide_eq_decide]; omega))
theorem rcode_loop (s : ByteArray) (hs : s.size ≤ 140737488351232) : ∀ (d K i : Nat), i + d = s.size → d < K → accountingref06_Code.l0 K s i = some (allB s i && decide (1 ≤ s.size ∧ s.size ≤ 12)) := by
  intro d
  induction d with
  | zero =>
    intro K i h1 h2
    obtain ⟨K, rfl⟩ : ∃ m, K = m + 1 := ⟨K - 1, by omega⟩
    simp only [accountingref06_Code.l0]
    rw [if_neg (by omega), allB_end (by omega), Bool.true_and]
    by_cases h : (s.size : Int) ≥ 1
    · rw [if_pos h]; congr 1; rw [decide_eq_decide]; omega
    · rw [if_neg h]; congr 1; rw [eq_comm, decide_eq_false_iff_not]; omega
  | succ d ih =>
    intro K i h1 h2
    obtain ⟨K, rfl⟩ : ∃ m, K = m + 1 := ⟨K - 1, by omega⟩
    have w : wrap64 ((i : Int) + 1) = ((i + 1 : Nat) : Int) := by unfold wrap64; omega
    have r := ih K (i + 1) (by omega) (by omega)
    simp only [accountingref06_Code.l0]
    rw [if_pos (by omega), if_pos (by omega), rletter_is, rdigit_is, w]
    simp only [Option.bind_some]
    cases hl : ltB (bt s i)
    · simp only [Bool.false_eq_true, if_false]
      cases hd : dB (bt s i)
      · rw [allB_no (by omega) ((al_d hl).trans hd)]; rfl
      · simp only [if_true]
        rw [r, allB_step (i := i) (by omega) ((al_d hl).trans hd)]
    · simp only [if_true]
      rw [r, allB_step (i := i) (by omega) (al_lt hl)]
theorem rcode_is (s : ByteArray) (hs : s.size ≤ 140737488351232) : accountingref06_Code.f (s.size + 1) s = some (codeB s) := by
  unfold accountingref06_Code.f
  have q := rcode_loop s hs s.size (s.size + 1) 0 (by omega) (by omega)
  rw [show (((0 : Nat) : Int)) = 0 from rfl] at q
  rw [q]
  congr 1
  unfold codeB
  cases h : allB s 0
  · simp
  · simp
theorem rcode_calls (s : ByteArray) (w : World) (hs : s.size ≤ 140737488351232) : Calls Tryd.prog 48 #[.string s] w fun e w' => e = .returned (.bool (codeB s)) ∧ Below w.heap.size w w' :=
  (accountingref06_Code.calls (s.size + 1) s (codeB s) w (rcode_is s hs)).mono fun _ _ h => ⟨h.1, h.2.below⟩
theorem rday_is (n : Int) : accountingref33_day.f n = some (dayB n) := by
  unfold accountingref33_day.f dayB
  by_cases h : n ≥ 0
  · rw [if_pos h]; congr 1; rw [decide_eq_decide]; exact ⟨fun q => ⟨h, q⟩, fun q => q.2⟩
  · rw [if_neg h]; congr 1; rw [eq_comm, decide_eq_false_iff_not]; exact fun q => h q.1
theorem rfollows_is (k : Int) : accountingref33_follows.f k = some (refB k) := refers_is k
theorem rquantity_is (m0 m1 : Int) (m2 : ByteArray) (m3 m4 m5 : Int) (m6 : ByteArray) (m7 : Int) (hk : kindB m3 = true) : accountingref33_quantity.f m0 m1 m2 m3 m4 m5 m6 m7 = some (qtyB m3 m4) := by
  have hk' := of_decide_eq_true hk
  unfold accountingref33_quantity.f accountingref33_stocked.f qtyB
  by_cases h5 : m3 = 5 ∨ m3 = 6
  · rw [if_pos h5, if_pos (by omega), decide_eq_false (by omega)]
    simp only [Option.bind_some, Bool.false_eq_true, if_false]
    congr 1
  · rw [if_neg h5, if_pos (by omega), decide_eq_true (by omega)]
    simp only [Option.bind_some, if_true]
    by_cases h : m4 ≥ 1
    · rw [if_pos h]; congr 1; rw [decide_eq_decide]; exact ⟨fun q => ⟨h, q⟩, fun q => q.2⟩
    · rw [if_neg h]; congr 1; rw [eq_comm, decide_eq_false_iff_not]; exact fun q => h q.1
theorem rcost_is (m0 m1 : Int) (m2 : ByteArray) (m3 m4 m5 : Int) (m6 : ByteArray) (m7 : Int) : accountingref33_cost.f 1 m0 m1 m2 m3 m4 m5 m6 m7 = some (costB m3 m5) := by
  have rng : ∀ a b : Int, (if m5 ≥ a then some (decide (m5 ≤ b)) else some false) = some (decide (a ≤ m5 ∧ m5 ≤ b)) := fun a b => by
    by_cases h : m5 ≥ a
    · rw [if_pos h]; congr 1; rw [decide_eq_decide]; exact ⟨fun q => ⟨h, q⟩, fun q => q.2⟩
    · rw [if_neg h]; congr 1; rw [eq_comm, decide_eq_false_iff_not]; exact fun q => h q.1
  unfold accountingref33_cost.f costB
  by_cases h2 : m3 = 2
  · rw [if_pos h2, if_pos (.inl h2), show (m3 == 2) = true from beq_iff_eq.mpr h2]
    simp only [accountingref33_cost.j0, if_true]
    congr 1
  · rw [if_neg h2]
    by_cases h3 : m3 = 3
    · rw [if_pos (.inr h3), show (m3 == 3) = true from beq_iff_eq.mpr h3]
      simp only [accountingref33_cost.j0, if_true]
      congr 1
    · rw [if_neg (by omega), show (m3 == 3) = false from beq_eq_false_iff_ne.mpr h3]
      simp only [accountingref33_cost.j0, Bool.false_eq_true, if_false]
      rw [rng, rng]
      split <;> rfl
end Go.Proofs.YticcaknflnldgaaDoor.Co
