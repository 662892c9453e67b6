/- The walks of moves.One and accountingref33.One: both answer oneS; no condition but the laid table. -/
import Derived.Test.YticcaknflnldgaaDoorCoOne
namespace Go.Proofs.YticcaknflnldgaaDoor.Co
open Go.RowKit Go.Proofs.YticcaknflnldgaaDoorW.PrintWords Go.Proofs.YticcaknflnldgaaDoorW.PrintLast Go.Proofs.YticcaknflnldgaaDoor.C
set_option linter.unusedVariables false
set_option linter.unusedSimpArgs false

theorem mv_cells {W : World} {g : Nat} {m0 m1 m3 m4 m5 m7 : Int} {m2 m6 : ByteArray} (h : W.heap[g]? = some (.cells #[.int .i64 m0, .int .i64 m1, .string m2, .int .i64 m3, .int .i64 m4, .int .i64 m5, .string m6, .int .i64 m7] 35 (0, 0))) :
    W.cell? ⟨g, 0, none⟩ = some (.int .i64 m0) ∧ W.cell? ⟨g, 1, none⟩ = some (.int .i64 m1) ∧ W.cell? ⟨g, 2, none⟩ = some (.string m2) ∧ W.cell? ⟨g, 3, none⟩ = some (.int .i64 m3) ∧ W.cell? ⟨g, 4, none⟩ = some (.int .i64 m4) ∧ W.cell? ⟨g, 5, none⟩ = some (.int .i64 m5) ∧ W.cell? ⟨g, 6, none⟩ = some (.string m6) ∧ W.cell? ⟨g, 7, none⟩ = some (.int .i64 m7) :=
  ⟨(blk_cell h 0).trans rfl, (blk_cell h 1).trans rfl, (blk_cell h 2).trans rfl, (blk_cell h 3).trans rfl, (blk_cell h 4).trans rfl, (blk_cell h 5).trans rfl, (blk_cell h 6).trans rfl, (blk_cell h 7).trans rfl⟩
set_option maxHeartbeats 8000000 in
set_option maxRecDepth 100000 in
theorem one_calls (m0 m1 : Int) (m2 : ByteArray) (m3 m4 m5 : Int) (m6 : ByteArray) (m7 : Int) (w : World) (hLd : Laid w) : Calls Tryd.prog 19 #[.agg #[.int .i64 m0, .int .i64 m1, .string m2, .int .i64 m3, .int .i64 m4, .int .i64 m5, .string m6, .int .i64 m7]] w fun e w' => e = .returned (.int .i64 (oneS m1 m2 m3 m4 m5 m6 m7)) ∧ Below w.heap.size w w' := by
  have HL := Aside0.mk hLd
  clear hLd
  cases b0 : dayB m1
  · have E : oneS m1 m2 m3 m4 m5 m6 m7 = 11 := by unfold oneS; simp only [b0, if_true, Bool.false_eq_true, if_false]
    rw [E]
    have D := isDay_calls m1
    rw [b0] at D
    clear E b0
    have M : Aside0 ((w.alloc (.cells #[.int .i64 m0, .int .i64 m1, .string m2, .int .i64 m3, .int .i64 m4, .int .i64 m5, .string m6, .int .i64 m7] 35 (0, 0))).heap[w.heap.size]? = some (.cells #[.int .i64 m0, .int .i64 m1, .string m2, .int .i64 m3, .int .i64 m4, .int .i64 m5, .string m6, .int .i64 m7] 35 (0, 0))) := ⟨heap_alloc_new _ _⟩
    have B : Aside0 (Below w.heap.size w (w.alloc (.cells #[.int .i64 m0, .int .i64 m1, .string m2, .int .i64 m3, .int .i64 m4, .int .i64 m5, .string m6, .int .i64 m7] 35 (0, 0)))) := ⟨below_alloc (Below.refl _ _) _⟩
    obtain ⟨c0, c1, c2, c3, c4, c5, c6, c7⟩ := mv_cells M.out
    go_enter Tryd.func19, Tryd.ntmps19
    go_wp2_with (first | (go_at_call 33; (with_reducible refine (D _ (Laid.below HL.out B.out)).mono ?_); rintro e w1 ⟨rfl, hb⟩; replace M := Aside0.mk (blk_below M.out hb); replace B := Aside0.mk (below_step B.out hb); clear hb c0 c1 c2 c3 c4 c5 c6 c7; obtain ⟨c0, c1, c2, c3, c4, c5, c6, c7⟩ := mv_cells M.out))
    go_ret
    exact ⟨rfl, B.out⟩
  · skip
    have D := isDay_calls m1
    rw [b0] at D
    cases b1 : codeB m2
    · have E : oneS m1 m2 m3 m4 m5 m6 m7 = 7 := by unfold oneS; simp only [b0, b1, if_true, Bool.false_eq_true, if_false]
      rw [E]
      have C2 := code_calls m2
      rw [b1] at C2
      clear E b0 b1
      have M : Aside0 ((w.alloc (.cells #[.int .i64 m0, .int .i64 m1, .string m2, .int .i64 m3, .int .i64 m4, .int .i64 m5, .string m6, .int .i64 m7] 35 (0, 0))).heap[w.heap.size]? = some (.cells #[.int .i64 m0, .int .i64 m1, .string m2, .int .i64 m3, .int .i64 m4, .int .i64 m5, .string m6, .int .i64 m7] 35 (0, 0))) := ⟨heap_alloc_new _ _⟩
      have B : Aside0 (Below w.heap.size w (w.alloc (.cells #[.int .i64 m0, .int .i64 m1, .string m2, .int .i64 m3, .int .i64 m4, .int .i64 m5, .string m6, .int .i64 m7] 35 (0, 0)))) := ⟨below_alloc (Below.refl _ _) _⟩
      obtain ⟨c0, c1, c2, c3, c4, c5, c6, c7⟩ := mv_cells M.out
      go_enter Tryd.func19, Tryd.ntmps19
      go_wp2_with (first | (go_at_call 33; (with_reducible refine (D _ (Laid.below HL.out B.out)).mono ?_); rintro e w1 ⟨rfl, hb⟩; replace M := Aside0.mk (blk_below M.out hb); replace B := Aside0.mk (below_step B.out hb); clear hb c0 c1 c2 c3 c4 c5 c6 c7; obtain ⟨c0, c1, c2, c3, c4, c5, c6, c7⟩ := mv_cells M.out) | (go_at_call 34; (with_reducible refine (C2 _).mono ?_); rintro e w1 ⟨rfl, hb⟩; replace M := Aside0.mk (blk_below M.out hb); replace B := Aside0.mk (below_step B.out hb); clear hb c0 c1 c2 c3 c4 c5 c6 c7; obtain ⟨c0, c1, c2, c3, c4, c5, c6, c7⟩ := mv_cells M.out))
      go_ret
      exact ⟨rfl, B.out⟩
    · skip
      have C2 := code_calls m2
      rw [b1] at C2
      cases b2 : kindB m3
      · have E : oneS m1 m2 m3 m4 m5 m6 m7 = 10 := by unfold oneS; simp only [b0, b1, b2, if_true, Bool.false_eq_true, if_false]
        rw [E]
        have V3 : Aside0 (moves_in.f m3 1 6 = some false) := ⟨by rw [in_is]; exact congrArg some b2⟩
        clear E b0 b1 b2
        have M : Aside0 ((w.alloc (.cells #[.int .i64 m0, .int .i64 m1, .string m2, .int .i64 m3, .int .i64 m4, .int .i64 m5, .string m6, .int .i64 m7] 35 (0, 0))).heap[w.heap.size]? = some (.cells #[.int .i64 m0, .int .i64 m1, .string m2, .int .i64 m3, .int .i64 m4, .int .i64 m5, .string m6, .int .i64 m7] 35 (0, 0))) := ⟨heap_alloc_new _ _⟩
        have B : Aside0 (Below w.heap.size w (w.alloc (.cells #[.int .i64 m0, .int .i64 m1, .string m2, .int .i64 m3, .int .i64 m4, .int .i64 m5, .string m6, .int .i64 m7] 35 (0, 0)))) := ⟨below_alloc (Below.refl _ _) _⟩
        obtain ⟨c0, c1, c2, c3, c4, c5, c6, c7⟩ := mv_cells M.out
        go_enter Tryd.func19, Tryd.ntmps19
        go_wp2_with (first | (go_at_call 33; (with_reducible refine (D _ (Laid.below HL.out B.out)).mono ?_); rintro e w1 ⟨rfl, hb⟩; replace M := Aside0.mk (blk_below M.out hb); replace B := Aside0.mk (below_step B.out hb); clear hb c0 c1 c2 c3 c4 c5 c6 c7; obtain ⟨c0, c1, c2, c3, c4, c5, c6, c7⟩ := mv_cells M.out) | (go_at_call 34; (with_reducible refine (C2 _).mono ?_); rintro e w1 ⟨rfl, hb⟩; replace M := Aside0.mk (blk_below M.out hb); replace B := Aside0.mk (below_step B.out hb); clear hb c0 c1 c2 c3 c4 c5 c6 c7; obtain ⟨c0, c1, c2, c3, c4, c5, c6, c7⟩ := mv_cells M.out) | (go_at_call 35; (with_reducible refine (moves_in.calls m3 1 6 false _ V3.out).mono ?_); rintro e w1 ⟨rfl, hb⟩; replace hb := hb.below; replace M := Aside0.mk (blk_below M.out hb); replace B := Aside0.mk (below_step B.out hb); clear hb c0 c1 c2 c3 c4 c5 c6 c7; obtain ⟨c0, c1, c2, c3, c4, c5, c6, c7⟩ := mv_cells M.out))
        go_ret
        exact ⟨rfl, B.out⟩
      · skip
        have V3 : Aside0 (moves_in.f m3 1 6 = some true) := ⟨by rw [in_is]; exact congrArg some b2⟩
        cases b3 : qtyB m3 m4
        · have E : oneS m1 m2 m3 m4 m5 m6 m7 = 3 := by unfold oneS; simp only [b0, b1, b2, b3, if_true, Bool.false_eq_true, if_false]
          rw [E]
          have V4 : Aside0 (moves_quantity.f m0 m1 m2 m3 m4 m5 m6 m7 = some false) := ⟨by rw [quantity_is, b3]⟩
          clear E b0 b1 b2 b3
          have M : Aside0 ((w.alloc (.cells #[.int .i64 m0, .int .i64 m1, .string m2, .int .i64 m3, .int .i64 m4, .int .i64 m5, .string m6, .int .i64 m7] 35 (0, 0))).heap[w.heap.size]? = some (.cells #[.int .i64 m0, .int .i64 m1, .string m2, .int .i64 m3, .int .i64 m4, .int .i64 m5, .string m6, .int .i64 m7] 35 (0, 0))) := ⟨heap_alloc_new _ _⟩
          have B : Aside0 (Below w.heap.size w (w.alloc (.cells #[.int .i64 m0, .int .i64 m1, .string m2, .int .i64 m3, .int .i64 m4, .int .i64 m5, .string m6, .int .i64 m7] 35 (0, 0)))) := ⟨below_alloc (Below.refl _ _) _⟩
          obtain ⟨c0, c1, c2, c3, c4, c5, c6, c7⟩ := mv_cells M.out
          go_enter Tryd.func19, Tryd.ntmps19
          go_wp2_with (first | (go_at_call 33; (with_reducible refine (D _ (Laid.below HL.out B.out)).mono ?_); rintro e w1 ⟨rfl, hb⟩; replace M := Aside0.mk (blk_below M.out hb); replace B := Aside0.mk (below_step B.out hb); clear hb c0 c1 c2 c3 c4 c5 c6 c7; obtain ⟨c0, c1, c2, c3, c4, c5, c6, c7⟩ := mv_cells M.out) | (go_at_call 34; (with_reducible refine (C2 _).mono ?_); rintro e w1 ⟨rfl, hb⟩; replace M := Aside0.mk (blk_below M.out hb); replace B := Aside0.mk (below_step B.out hb); clear hb c0 c1 c2 c3 c4 c5 c6 c7; obtain ⟨c0, c1, c2, c3, c4, c5, c6, c7⟩ := mv_cells M.out) | (go_at_call 35; (with_reducible refine (moves_in.calls m3 1 6 true _ V3.out).mono ?_); rintro e w1 ⟨rfl, hb⟩; replace hb := hb.below; replace M := Aside0.mk (blk_below M.out hb); replace B := Aside0.mk (below_step B.out hb); clear hb c0 c1 c2 c3 c4 c5 c6 c7; obtain ⟨c0, c1, c2, c3, c4, c5, c6, c7⟩ := mv_cells M.out) | (go_at_call 36; (with_reducible refine (moves_quantity.calls m0 m1 m2 m3 m4 m5 m6 m7 false _ V4.out).mono ?_); rintro e w1 ⟨rfl, hb⟩; replace M := Aside0.mk (blk_below M.out hb); replace B := Aside0.mk (below_step B.out hb); clear hb c0 c1 c2 c3 c4 c5 c6 c7; obtain ⟨c0, c1, c2, c3, c4, c5, c6, c7⟩ := mv_cells M.out))
          go_ret
          exact ⟨rfl, B.out⟩
        · skip
          have V4 : Aside0 (moves_quantity.f m0 m1 m2 m3 m4 m5 m6 m7 = some true) := ⟨by rw [quantity_is, b3]⟩
          cases b4 : costB m3 m5
          · have E : oneS m1 m2 m3 m4 m5 m6 m7 = 3 := by unfold oneS; simp only [b0, b1, b2, b3, b4, if_true, Bool.false_eq_true, if_false]
            rw [E]
            have V5 : Aside0 (moves_cost.f 1 m0 m1 m2 m3 m4 m5 m6 m7 = some false) := ⟨by rw [cost_is, b4]⟩
            clear E b0 b1 b2 b3 b4
            have M : Aside0 ((w.alloc (.cells #[.int .i64 m0, .int .i64 m1, .string m2, .int .i64 m3, .int .i64 m4, .int .i64 m5, .string m6, .int .i64 m7] 35 (0, 0))).heap[w.heap.size]? = some (.cells #[.int .i64 m0, .int .i64 m1, .string m2, .int .i64 m3, .int .i64 m4, .int .i64 m5, .string m6, .int .i64 m7] 35 (0, 0))) := ⟨heap_alloc_new _ _⟩
            have B : Aside0 (Below w.heap.size w (w.alloc (.cells #[.int .i64 m0, .int .i64 m1, .string m2, .int .i64 m3, .int .i64 m4, .int .i64 m5, .string m6, .int .i64 m7] 35 (0, 0)))) := ⟨below_alloc (Below.refl _ _) _⟩
            obtain ⟨c0, c1, c2, c3, c4, c5, c6, c7⟩ := mv_cells M.out
            go_enter Tryd.func19, Tryd.ntmps19
            go_wp2_with (first | (go_at_call 33; (with_reducible refine (D _ (Laid.below HL.out B.out)).mono ?_); rintro e w1 ⟨rfl, hb⟩; replace M := Aside0.mk (blk_below M.out hb); replace B := Aside0.mk (below_step B.out hb); clear hb c0 c1 c2 c3 c4 c5 c6 c7; obtain ⟨c0, c1, c2, c3, c4, c5, c6, c7⟩ := mv_cells M.out) | (go_at_call 34; (with_reducible refine (C2 _).mono ?_); rintro e w1 ⟨rfl, hb⟩; replace M := Aside0.mk (blk_below M.out hb); replace B := Aside0.mk (below_step B.out hb); clear hb c0 c1 c2 c3 c4 c5 c6 c7; obtain ⟨c0, c1, c2, c3, c4, c5, c6, c7⟩ := mv_cells M.out) | (go_at_call 35; (with_reducible refine (moves_in.calls m3 1 6 true _ V3.out).mono ?_); rintro e w1 ⟨rfl, hb⟩; replace hb := hb.below; replace M := Aside0.mk (blk_below M.out hb); replace B := Aside0.mk (below_step B.out hb); clear hb c0 c1 c2 c3 c4 c5 c6 c7; obtain ⟨c0, c1, c2, c3, c4, c5, c6, c7⟩ := mv_cells M.out) | (go_at_call 36; (with_reducible refine (moves_quantity.calls m0 m1 m2 m3 m4 m5 m6 m7 true _ V4.out).mono ?_); rintro e w1 ⟨rfl, hb⟩; replace M := Aside0.mk (blk_below M.out hb); replace B := Aside0.mk (below_step B.out hb); clear hb c0 c1 c2 c3 c4 c5 c6 c7; obtain ⟨c0, c1, c2, c3, c4, c5, c6, c7⟩ := mv_cells M.out) | (go_at_call 37; (with_reducible refine (moves_cost.calls 1 m0 m1 m2 m3 m4 m5 m6 m7 false _ V5.out).mono ?_); rintro e w1 ⟨rfl, hb⟩; replace M := Aside0.mk (blk_below M.out hb); replace B := Aside0.mk (below_step B.out hb); clear hb c0 c1 c2 c3 c4 c5 c6 c7; obtain ⟨c0, c1, c2, c3, c4, c5, c6, c7⟩ := mv_cells M.out))
            go_ret
            exact ⟨rfl, B.out⟩
          · skip
            have V5 : Aside0 (moves_cost.f 1 m0 m1 m2 m3 m4 m5 m6 m7 = some true) := ⟨by rw [cost_is, b4]⟩
            cases b5 : lotB m3 m6
            · have E : oneS m1 m2 m3 m4 m5 m6 m7 = 22 := by unfold oneS; simp only [b0, b1, b2, b3, b4, b5, if_true, Bool.false_eq_true, if_false]
              rw [E]
              have C6 := lot_calls m0 m1 m2 m3 m4 m5 m6 m7
              rw [b5] at C6
              clear E b0 b1 b2 b3 b4 b5
              have M : Aside0 ((w.alloc (.cells #[.int .i64 m0, .int .i64 m1, .string m2, .int .i64 m3, .int .i64 m4, .int .i64 m5, .string m6, .int .i64 m7] 35 (0, 0))).heap[w.heap.size]? = some (.cells #[.int .i64 m0, .int .i64 m1, .string m2, .int .i64 m3, .int .i64 m4, .int .i64 m5, .string m6, .int .i64 m7] 35 (0, 0))) := ⟨heap_alloc_new _ _⟩
              have B : Aside0 (Below w.heap.size w (w.alloc (.cells #[.int .i64 m0, .int .i64 m1, .string m2, .int .i64 m3, .int .i64 m4, .int .i64 m5, .string m6, .int .i64 m7] 35 (0, 0)))) := ⟨below_alloc (Below.refl _ _) _⟩
              obtain ⟨c0, c1, c2, c3, c4, c5, c6, c7⟩ := mv_cells M.out
              go_enter Tryd.func19, Tryd.ntmps19
              go_wp2_with (first | (go_at_call 33; (with_reducible refine (D _ (Laid.below HL.out B.out)).mono ?_); rintro e w1 ⟨rfl, hb⟩; replace M := Aside0.mk (blk_below M.out hb); replace B := Aside0.mk (below_step B.out hb); clear hb c0 c1 c2 c3 c4 c5 c6 c7; obtain ⟨c0, c1, c2, c3, c4, c5, c6, c7⟩ := mv_cells M.out) | (go_at_call 34; (with_reducible refine (C2 _).mono ?_); rintro e w1 ⟨rfl, hb⟩; replace M := Aside0.mk (blk_below M.out hb); replace B := Aside0.mk (below_step B.out hb); clear hb c0 c1 c2 c3 c4 c5 c6 c7; obtain ⟨c0, c1, c2, c3, c4, c5, c6, c7⟩ := mv_cells M.out) | (go_at_call 35; (with_reducible refine (moves_in.calls m3 1 6 true _ V3.out).mono ?_); rintro e w1 ⟨rfl, hb⟩; replace hb := hb.below; replace M := Aside0.mk (blk_below M.out hb); replace B := Aside0.mk (below_step B.out hb); clear hb c0 c1 c2 c3 c4 c5 c6 c7; obtain ⟨c0, c1, c2, c3, c4, c5, c6, c7⟩ := mv_cells M.out) | (go_at_call 36; (with_reducible refine (moves_quantity.calls m0 m1 m2 m3 m4 m5 m6 m7 true _ V4.out).mono ?_); rintro e w1 ⟨rfl, hb⟩; replace M := Aside0.mk (blk_below M.out hb); replace B := Aside0.mk (below_step B.out hb); clear hb c0 c1 c2 c3 c4 c5 c6 c7; obtain ⟨c0, c1, c2, c3, c4, c5, c6, c7⟩ := mv_cells M.out) | (go_at_call 37; (with_reducible refine (moves_cost.calls 1 m0 m1 m2 m3 m4 m5 m6 m7 true _ V5.out).mono ?_); rintro e w1 ⟨rfl, hb⟩; replace M := Aside0.mk (blk_below M.out hb); replace B := Aside0.mk (below_step B.out hb); clear hb c0 c1 c2 c3 c4 c5 c6 c7; obtain ⟨c0, c1, c2, c3, c4, c5, c6, c7⟩ := mv_cells M.out) | (go_at_call 38; (with_reducible refine (C6 _).mono ?_); rintro e w1 ⟨rfl, hb⟩; replace M := Aside0.mk (blk_below M.out hb); replace B := Aside0.mk (below_step B.out hb); clear hb c0 c1 c2 c3 c4 c5 c6 c7; obtain ⟨c0, c1, c2, c3, c4, c5, c6, c7⟩ := mv_cells M.out))
              go_ret
              exact ⟨rfl, B.out⟩
            · skip
              have C6 := lot_calls m0 m1 m2 m3 m4 m5 m6 m7
              rw [b5] at C6
              cases b7 : refB m3
              · have V7 : Aside0 (moves_refers.f m3 = some false) := ⟨by rw [refers_is, b7]⟩
                by_cases h7 : m7 = 0
                · have E : oneS m1 m2 m3 m4 m5 m6 m7 = 0 := by unfold oneS refsB; simp only [b0, b1, b2, b3, b4, b5, b7, if_true, Bool.false_eq_true, if_false]; simp [h7]
                  rw [E]
                  have f1 : (m7 == 0) = true := beq_iff_eq.mpr h7
                  have f2 : (m7 != 0) = false := bne_eq_false_iff_eq.mpr h7
                  clear E h7 b7 b0 b1 b2 b3 b4 b5
                  have M : Aside0 ((w.alloc (.cells #[.int .i64 m0, .int .i64 m1, .string m2, .int .i64 m3, .int .i64 m4, .int .i64 m5, .string m6, .int .i64 m7] 35 (0, 0))).heap[w.heap.size]? = some (.cells #[.int .i64 m0, .int .i64 m1, .string m2, .int .i64 m3, .int .i64 m4, .int .i64 m5, .string m6, .int .i64 m7] 35 (0, 0))) := ⟨heap_alloc_new _ _⟩
                  have B : Aside0 (Below w.heap.size w (w.alloc (.cells #[.int .i64 m0, .int .i64 m1, .string m2, .int .i64 m3, .int .i64 m4, .int .i64 m5, .string m6, .int .i64 m7] 35 (0, 0)))) := ⟨below_alloc (Below.refl _ _) _⟩
                  obtain ⟨c0, c1, c2, c3, c4, c5, c6, c7⟩ := mv_cells M.out
                  go_enter Tryd.func19, Tryd.ntmps19
                  go_wp2_with (first | (go_at_call 33; (with_reducible refine (D _ (Laid.below HL.out B.out)).mono ?_); rintro e w1 ⟨rfl, hb⟩; replace M := Aside0.mk (blk_below M.out hb); replace B := Aside0.mk (below_step B.out hb); clear hb c0 c1 c2 c3 c4 c5 c6 c7; obtain ⟨c0, c1, c2, c3, c4, c5, c6, c7⟩ := mv_cells M.out) | (go_at_call 34; (with_reducible refine (C2 _).mono ?_); rintro e w1 ⟨rfl, hb⟩; replace M := Aside0.mk (blk_below M.out hb); replace B := Aside0.mk (below_step B.out hb); clear hb c0 c1 c2 c3 c4 c5 c6 c7; obtain ⟨c0, c1, c2, c3, c4, c5, c6, c7⟩ := mv_cells M.out) | (go_at_call 35; (with_reducible refine (moves_in.calls m3 1 6 true _ V3.out).mono ?_); rintro e w1 ⟨rfl, hb⟩; replace hb := hb.below; replace M := Aside0.mk (blk_below M.out hb); replace B := Aside0.mk (below_step B.out hb); clear hb c0 c1 c2 c3 c4 c5 c6 c7; obtain ⟨c0, c1, c2, c3, c4, c5, c6, c7⟩ := mv_cells M.out) | (go_at_call 36; (with_reducible refine (moves_quantity.calls m0 m1 m2 m3 m4 m5 m6 m7 true _ V4.out).mono ?_); rintro e w1 ⟨rfl, hb⟩; replace M := Aside0.mk (blk_below M.out hb); replace B := Aside0.mk (below_step B.out hb); clear hb c0 c1 c2 c3 c4 c5 c6 c7; obtain ⟨c0, c1, c2, c3, c4, c5, c6, c7⟩ := mv_cells M.out) | (go_at_call 37; (with_reducible refine (moves_cost.calls 1 m0 m1 m2 m3 m4 m5 m6 m7 true _ V5.out).mono ?_); rintro e w1 ⟨rfl, hb⟩; replace M := Aside0.mk (blk_below M.out hb); replace B := Aside0.mk (below_step B.out hb); clear hb c0 c1 c2 c3 c4 c5 c6 c7; obtain ⟨c0, c1, c2, c3, c4, c5, c6, c7⟩ := mv_cells M.out) | (go_at_call 38; (with_reducible refine (C6 _).mono ?_); rintro e w1 ⟨rfl, hb⟩; replace M := Aside0.mk (blk_below M.out hb); replace B := Aside0.mk (below_step B.out hb); clear hb c0 c1 c2 c3 c4 c5 c6 c7; obtain ⟨c0, c1, c2, c3, c4, c5, c6, c7⟩ := mv_cells M.out) | (go_at_call 39; (with_reducible refine (moves_refers.calls m3 false _ V7.out).mono ?_); rintro e w1 ⟨rfl, hb⟩; replace hb := hb.below; replace M := Aside0.mk (blk_below M.out hb); replace B := Aside0.mk (below_step B.out hb); clear hb c0 c1 c2 c3 c4 c5 c6 c7; obtain ⟨c0, c1, c2, c3, c4, c5, c6, c7⟩ := mv_cells M.out))
                  go_ret
                  exact ⟨rfl, B.out⟩
                · have E : oneS m1 m2 m3 m4 m5 m6 m7 = 28 := by unfold oneS refsB; simp only [b0, b1, b2, b3, b4, b5, b7, if_true, Bool.false_eq_true, if_false]; simp [h7]
                  rw [E]
                  have f1 : (m7 == 0) = false := beq_eq_false_iff_ne.mpr h7
                  have f2 : (m7 != 0) = true := bne_iff_ne.mpr h7
                  clear E h7 b7 b0 b1 b2 b3 b4 b5
                  have M : Aside0 ((w.alloc (.cells #[.int .i64 m0, .int .i64 m1, .string m2, .int .i64 m3, .int .i64 m4, .int .i64 m5, .string m6, .int .i64 m7] 35 (0, 0))).heap[w.heap.size]? = some (.cells #[.int .i64 m0, .int .i64 m1, .string m2, .int .i64 m3, .int .i64 m4, .int .i64 m5, .string m6, .int .i64 m7] 35 (0, 0))) := ⟨heap_alloc_new _ _⟩
                  have B : Aside0 (Below w.heap.size w (w.alloc (.cells #[.int .i64 m0, .int .i64 m1, .string m2, .int .i64 m3, .int .i64 m4, .int .i64 m5, .string m6, .int .i64 m7] 35 (0, 0)))) := ⟨below_alloc (Below.refl _ _) _⟩
                  obtain ⟨c0, c1, c2, c3, c4, c5, c6, c7⟩ := mv_cells M.out
                  go_enter Tryd.func19, Tryd.ntmps19
                  go_wp2_with (first | (go_at_call 33; (with_reducible refine (D _ (Laid.below HL.out B.out)).mono ?_); rintro e w1 ⟨rfl, hb⟩; replace M := Aside0.mk (blk_below M.out hb); replace B := Aside0.mk (below_step B.out hb); clear hb c0 c1 c2 c3 c4 c5 c6 c7; obtain ⟨c0, c1, c2, c3, c4, c5, c6, c7⟩ := mv_cells M.out) | (go_at_call 34; (with_reducible refine (C2 _).mono ?_); rintro e w1 ⟨rfl, hb⟩; replace M := Aside0.mk (blk_below M.out hb); replace B := Aside0.mk (below_step B.out hb); clear hb c0 c1 c2 c3 c4 c5 c6 c7; obtain ⟨c0, c1, c2, c3, c4, c5, c6, c7⟩ := mv_cells M.out) | (go_at_call 35; (with_reducible refine (moves_in.calls m3 1 6 true _ V3.out).mono ?_); rintro e w1 ⟨rfl, hb⟩; replace hb := hb.below; replace M := Aside0.mk (blk_below M.out hb); replace B := Aside0.mk (below_step B.out hb); clear hb c0 c1 c2 c3 c4 c5 c6 c7; obtain ⟨c0, c1, c2, c3, c4, c5, c6, c7⟩ := mv_cells M.out) | (go_at_call 36; (with_reducible refine (moves_quantity.calls m0 m1 m2 m3 m4 m5 m6 m7 true _ V4.out).mono ?_); rintro e w1 ⟨rfl, hb⟩; replace M := Aside0.mk (blk_below M.out hb); replace B := Aside0.mk (below_step B.out hb); clear hb c0 c1 c2 c3 c4 c5 c6 c7; obtain ⟨c0, c1, c2, c3, c4, c5, c6, c7⟩ := mv_cells M.out) | (go_at_call 37; (with_reducible refine (moves_cost.calls 1 m0 m1 m2 m3 m4 m5 m6 m7 true _ V5.out).mono ?_); rintro e w1 ⟨rfl, hb⟩; replace M := Aside0.mk (blk_below M.out hb); replace B := Aside0.mk (below_step B.out hb); clear hb c0 c1 c2 c3 c4 c5 c6 c7; obtain ⟨c0, c1, c2, c3, c4, c5, c6, c7⟩ := mv_cells M.out) | (go_at_call 38; (with_reducible refine (C6 _).mono ?_); rintro e w1 ⟨rfl, hb⟩; replace M := Aside0.mk (blk_below M.out hb); replace B := Aside0.mk (below_step B.out hb); clear hb c0 c1 c2 c3 c4 c5 c6 c7; obtain ⟨c0, c1, c2, c3, c4, c5, c6, c7⟩ := mv_cells M.out) | (go_at_call 39; (with_reducible refine (moves_refers.calls m3 false _ V7.out).mono ?_); rintro e w1 ⟨rfl, hb⟩; replace hb := hb.below; replace M := Aside0.mk (blk_below M.out hb); replace B := Aside0.mk (below_step B.out hb); clear hb c0 c1 c2 c3 c4 c5 c6 c7; obtain ⟨c0, c1, c2, c3, c4, c5, c6, c7⟩ := mv_cells M.out))
                  go_ret
                  exact ⟨rfl, B.out⟩
              · have V7 : Aside0 (moves_refers.f m3 = some true) := ⟨by rw [refers_is, b7]⟩
                by_cases h7 : 1 ≤ m7
                · have E : oneS m1 m2 m3 m4 m5 m6 m7 = 0 := by unfold oneS refsB; simp only [b0, b1, b2, b3, b4, b5, b7, if_true, Bool.false_eq_true, if_false]; simp [h7]
                  rw [E]
                  have f1 : decide (m7 < 1) = false := decide_eq_false (by omega)
                  clear E h7 b7 b0 b1 b2 b3 b4 b5
                  have M : Aside0 ((w.alloc (.cells #[.int .i64 m0, .int .i64 m1, .string m2, .int .i64 m3, .int .i64 m4, .int .i64 m5, .string m6, .int .i64 m7] 35 (0, 0))).heap[w.heap.size]? = some (.cells #[.int .i64 m0, .int .i64 m1, .string m2, .int .i64 m3, .int .i64 m4, .int .i64 m5, .string m6, .int .i64 m7] 35 (0, 0))) := ⟨heap_alloc_new _ _⟩
                  have B : Aside0 (Below w.heap.size w (w.alloc (.cells #[.int .i64 m0, .int .i64 m1, .string m2, .int .i64 m3, .int .i64 m4, .int .i64 m5, .string m6, .int .i64 m7] 35 (0, 0)))) := ⟨below_alloc (Below.refl _ _) _⟩
                  obtain ⟨c0, c1, c2, c3, c4, c5, c6, c7⟩ := mv_cells M.out
                  go_enter Tryd.func19, Tryd.ntmps19
                  go_wp2_with (first | (go_at_call 33; (with_reducible refine (D _ (Laid.below HL.out B.out)).mono ?_); rintro e w1 ⟨rfl, hb⟩; replace M := Aside0.mk (blk_below M.out hb); replace B := Aside0.mk (below_step B.out hb); clear hb c0 c1 c2 c3 c4 c5 c6 c7; obtain ⟨c0, c1, c2, c3, c4, c5, c6, c7⟩ := mv_cells M.out) | (go_at_call 34; (with_reducible refine (C2 _).mono ?_); rintro e w1 ⟨rfl, hb⟩; replace M := Aside0.mk (blk_below M.out hb); replace B := Aside0.mk (below_step B.out hb); clear hb c0 c1 c2 c3 c4 c5 c6 c7; obtain ⟨c0, c1, c2, c3, c4, c5, c6, c7⟩ := mv_cells M.out) | (go_at_call 35; (with_reducible refine (moves_in.calls m3 1 6 true _ V3.out).mono ?_); rintro e w1 ⟨rfl, hb⟩; replace hb := hb.below; replace M := Aside0.mk (blk_below M.out hb); replace B := Aside0.mk (below_step B.out hb); clear hb c0 c1 c2 c3 c4 c5 c6 c7; obtain ⟨c0, c1, c2, c3, c4, c5, c6, c7⟩ := mv_cells M.out) | (go_at_call 36; (with_reducible refine (moves_quantity.calls m0 m1 m2 m3 m4 m5 m6 m7 true _ V4.out).mono ?_); rintro e w1 ⟨rfl, hb⟩; replace M := Aside0.mk (blk_below M.out hb); replace B := Aside0.mk (below_step B.out hb); clear hb c0 c1 c2 c3 c4 c5 c6 c7; obtain ⟨c0, c1, c2, c3, c4, c5, c6, c7⟩ := mv_cells M.out) | (go_at_call 37; (with_reducible refine (moves_cost.calls 1 m0 m1 m2 m3 m4 m5 m6 m7 true _ V5.out).mono ?_); rintro e w1 ⟨rfl, hb⟩; replace M := Aside0.mk (blk_below M.out hb); replace B := Aside0.mk (below_step B.out hb); clear hb c0 c1 c2 c3 c4 c5 c6 c7; obtain ⟨c0, c1, c2, c3, c4, c5, c6, c7⟩ := mv_cells M.out) | (go_at_call 38; (with_reducible refine (C6 _).mono ?_); rintro e w1 ⟨rfl, hb⟩; replace M := Aside0.mk (blk_below M.out hb); replace B := Aside0.mk (below_step B.out hb); clear hb c0 c1 c2 c3 c4 c5 c6 c7; obtain ⟨c0, c1, c2, c3, c4, c5, c6, c7⟩ := mv_cells M.out) | (go_at_call 39; (with_reducible refine (moves_refers.calls m3 true _ V7.out).mono ?_); rintro e w1 ⟨rfl, hb⟩; replace hb := hb.below; replace M := Aside0.mk (blk_below M.out hb); replace B := Aside0.mk (below_step B.out hb); clear hb c0 c1 c2 c3 c4 c5 c6 c7; obtain ⟨c0, c1, c2, c3, c4, c5, c6, c7⟩ := mv_cells M.out))
                  go_ret
                  exact ⟨rfl, B.out⟩
                · have E : oneS m1 m2 m3 m4 m5 m6 m7 = 28 := by unfold oneS refsB; simp only [b0, b1, b2, b3, b4, b5, b7, if_true, Bool.false_eq_true, if_false]; simp [h7]
                  rw [E]
                  have f1 : decide (m7 < 1) = true := decide_eq_true (by omega)
                  clear E h7 b7 b0 b1 b2 b3 b4 b5
                  have M : Aside0 ((w.alloc (.cells #[.int .i64 m0, .int .i64 m1, .string m2, .int .i64 m3, .int .i64 m4, .int .i64 m5, .string m6, .int .i64 m7] 35 (0, 0))).heap[w.heap.size]? = some (.cells #[.int .i64 m0, .int .i64 m1, .string m2, .int .i64 m3, .int .i64 m4, .int .i64 m5, .string m6, .int .i64 m7] 35 (0, 0))) := ⟨heap_alloc_new _ _⟩
                  have B : Aside0 (Below w.heap.size w (w.alloc (.cells #[.int .i64 m0, .int .i64 m1, .string m2, .int .i64 m3, .int .i64 m4, .int .i64 m5, .string m6, .int .i64 m7] 35 (0, 0)))) := ⟨below_alloc (Below.refl _ _) _⟩
                  obtain ⟨c0, c1, c2, c3, c4, c5, c6, c7⟩ := mv_cells M.out
                  go_enter Tryd.func19, Tryd.ntmps19
                  go_wp2_with (first | (go_at_call 33; (with_reducible refine (D _ (Laid.below HL.out B.out)).mono ?_); rintro e w1 ⟨rfl, hb⟩; replace M := Aside0.mk (blk_below M.out hb); replace B := Aside0.mk (below_step B.out hb); clear hb c0 c1 c2 c3 c4 c5 c6 c7; obtain ⟨c0, c1, c2, c3, c4, c5, c6, c7⟩ := mv_cells M.out) | (go_at_call 34; (with_reducible refine (C2 _).mono ?_); rintro e w1 ⟨rfl, hb⟩; replace M := Aside0.mk (blk_below M.out hb); replace B := Aside0.mk (below_step B.out hb); clear hb c0 c1 c2 c3 c4 c5 c6 c7; obtain ⟨c0, c1, c2, c3, c4, c5, c6, c7⟩ := mv_cells M.out) | (go_at_call 35; (with_reducible refine (moves_in.calls m3 1 6 true _ V3.out).mono ?_); rintro e w1 ⟨rfl, hb⟩; replace hb := hb.below; replace M := Aside0.mk (blk_below M.out hb); replace B := Aside0.mk (below_step B.out hb); clear hb c0 c1 c2 c3 c4 c5 c6 c7; obtain ⟨c0, c1, c2, c3, c4, c5, c6, c7⟩ := mv_cells M.out) | (go_at_call 36; (with_reducible refine (moves_quantity.calls m0 m1 m2 m3 m4 m5 m6 m7 true _ V4.out).mono ?_); rintro e w1 ⟨rfl, hb⟩; replace M := Aside0.mk (blk_below M.out hb); replace B := Aside0.mk (below_step B.out hb); clear hb c0 c1 c2 c3 c4 c5 c6 c7; obtain ⟨c0, c1, c2, c3, c4, c5, c6, c7⟩ := mv_cells M.out) | (go_at_call 37; (with_reducible refine (moves_cost.calls 1 m0 m1 m2 m3 m4 m5 m6 m7 true _ V5.out).mono ?_); rintro e w1 ⟨rfl, hb⟩; replace M := Aside0.mk (blk_below M.out hb); replace B := Aside0.mk (below_step B.out hb); clear hb c0 c1 c2 c3 c4 c5 c6 c7; obtain ⟨c0, c1, c2, c3, c4, c5, c6, c7⟩ := mv_cells M.out) | (go_at_call 38; (with_reducible refine (C6 _).mono ?_); rintro e w1 ⟨rfl, hb⟩; replace M := Aside0.mk (blk_below M.out hb); replace B := Aside0.mk (below_step B.out hb); clear hb c0 c1 c2 c3 c4 c5 c6 c7; obtain ⟨c0, c1, c2, c3, c4, c5, c6, c7⟩ := mv_cells M.out) | (go_at_call 39; (with_reducible refine (moves_refers.calls m3 true _ V7.out).mono ?_); rintro e w1 ⟨rfl, hb⟩; replace hb := hb.below; replace M := Aside0.mk (blk_below M.out hb); replace B := Aside0.mk (below_step B.out hb); clear hb c0 c1 c2 c3 c4 c5 c6 c7; obtain ⟨c0, c1, c2, c3, c4, c5, c6, c7⟩ := mv_cells M.out))
                  go_ret
                  exact ⟨rfl, B.out⟩
theorem emp_no {s : ByteArray} (h : s.size = 0) : (!s.toList.isEmpty) = false ∧ s.toList.isEmpty = true ∧ (s.toList == []) = true ∧ (s.toList != []) = false := by
  obtain rfl := empty_of h
  have e : (⟨#[]⟩ : ByteArray).toList = [] := by rw [ByteArray.toList_eq]
  exact ⟨by simp [e], by simp [e], by simp [e], by simp [e]⟩
theorem emp_yes {s : ByteArray} (h : s.size ≠ 0) : (!s.toList.isEmpty) = true ∧ s.toList.isEmpty = false ∧ (s.toList == []) = false ∧ (s.toList != []) = true := by
  have n := toList_ne (s := s) (by omega)
  cases h : s.toList with
  | nil => exact absurd h n
  | cons _ _ => exact ⟨rfl, rfl, rfl, rfl⟩
theorem lot_no {m3 : Int} {m6 : ByteArray} (hk : kindB m3 = true) (h : lotB m3 m6 = false) : ((!m6.toList.isEmpty) = true ∧ m6.toList.isEmpty = false ∧ (m6.toList == []) = false ∧ (m6.toList != []) = true ∧ codeB m6 = false) ∨ ((!m6.toList.isEmpty) = true ∧ m6.toList.isEmpty = false ∧ (m6.toList == []) = false ∧ (m6.toList != []) = true ∧ codeB m6 = true ∧ decide (2 < m3) = true) := by
  have hk' := of_decide_eq_true hk
  unfold lotB at h
  by_cases h0 : m6.size = 0
  · rw [if_pos h0] at h; cases h
  · obtain ⟨a, b, c, d⟩ := emp_yes h0
    rw [if_neg h0] at h
    cases hc : codeB m6
    · exact .inl ⟨a, b, c, d, rfl⟩
    · rw [hc, Bool.true_and] at h
      have := of_decide_eq_false h
      exact .inr ⟨a, b, c, d, rfl, decide_eq_true (by omega)⟩
theorem lot_yes {m3 : Int} {m6 : ByteArray} (hk : kindB m3 = true) (h : lotB m3 m6 = true) : ((!m6.toList.isEmpty) = false ∧ m6.toList.isEmpty = true ∧ (m6.toList == []) = true ∧ (m6.toList != []) = false) ∨ ((!m6.toList.isEmpty) = true ∧ m6.toList.isEmpty = false ∧ (m6.toList == []) = false ∧ (m6.toList != []) = true ∧ codeB m6 = true ∧ decide (2 < m3) = false) := by
  have hk' := of_decide_eq_true hk
  unfold lotB at h
  by_cases h0 : m6.size = 0
  · exact .inl (emp_no h0)
  · obtain ⟨a, b, c, d⟩ := emp_yes h0
    rw [if_neg h0, Bool.and_eq_true] at h
    have := of_decide_eq_true h.2
    exact .inr ⟨a, b, c, d, h.1, decide_eq_false (by omega)⟩
set_option maxHeartbeats 8000000 in
set_option maxRecDepth 100000 in
theorem rone_calls (m0 m1 : Int) (m2 : ByteArray) (m3 m4 m5 : Int) (m6 : ByteArray) (m7 : Int) (w : World) (h2 : m2.size ≤ 140737488351232) (h6 : m6.size ≤ 140737488351232) : Calls Tryd.prog 25 #[.agg #[.int .i64 m0, .int .i64 m1, .string m2, .int .i64 m3, .int .i64 m4, .int .i64 m5, .string m6, .int .i64 m7]] w fun e w' => e = .returned (.int .i64 (oneS m1 m2 m3 m4 m5 m6 m7)) ∧ Below w.heap.size w w' := by
  have HS2 := Aside0.mk h2
  have HS6 := Aside0.mk h6
  clear h2 h6
  cases b0 : dayB m1
  · skip
    have V1 : Aside0 (accountingref33_day.f m1 = some false) := ⟨by rw [rday_is, b0]⟩
    have E : oneS m1 m2 m3 m4 m5 m6 m7 = 11 := by unfold oneS; simp only [b0, if_true, Bool.false_eq_true, if_false]
    rw [E]
    clear E b0
    have M : Aside0 ((w.alloc (.cells #[.int .i64 m0, .int .i64 m1, .string m2, .int .i64 m3, .int .i64 m4, .int .i64 m5, .string m6, .int .i64 m7] 35 (0, 0))).heap[w.heap.size]? = some (.cells #[.int .i64 m0, .int .i64 m1, .string m2, .int .i64 m3, .int .i64 m4, .int .i64 m5, .string m6, .int .i64 m7] 35 (0, 0))) := ⟨heap_alloc_new _ _⟩
    have B : Aside0 (Below w.heap.size w (w.alloc (.cells #[.int .i64 m0, .int .i64 m1, .string m2, .int .i64 m3, .int .i64 m4, .int .i64 m5, .string m6, .int .i64 m7] 35 (0, 0)))) := ⟨below_alloc (Below.refl _ _) _⟩
    obtain ⟨c0, c1, c2, c3, c4, c5, c6, c7⟩ := mv_cells M.out
    go_enter Tryd.func25, Tryd.ntmps25
    go_wp2_with (first | (go_at_call 47; (with_reducible refine (accountingref33_day.calls m1 false _ V1.out).mono ?_); rintro e w1 ⟨rfl, hb⟩; replace hb := hb.below; replace M := Aside0.mk (blk_below M.out hb); replace B := Aside0.mk (below_step B.out hb); clear hb c0 c1 c2 c3 c4 c5 c6 c7; obtain ⟨c0, c1, c2, c3, c4, c5, c6, c7⟩ := mv_cells M.out))
    go_ret
    exact ⟨rfl, B.out⟩
  · skip
    have V1 : Aside0 (accountingref33_day.f m1 = some true) := ⟨by rw [rday_is, b0]⟩
    cases b1 : codeB m2
    · skip
      have C2 := fun W => rcode_calls m2 W HS2.out
      rw [b1] at C2
      have E : oneS m1 m2 m3 m4 m5 m6 m7 = 7 := by unfold oneS; simp only [b0, b1, if_true, Bool.false_eq_true, if_false]
      rw [E]
      clear E b0 b1
      have M : Aside0 ((w.alloc (.cells #[.int .i64 m0, .int .i64 m1, .string m2, .int .i64 m3, .int .i64 m4, .int .i64 m5, .string m6, .int .i64 m7] 35 (0, 0))).heap[w.heap.size]? = some (.cells #[.int .i64 m0, .int .i64 m1, .string m2, .int .i64 m3, .int .i64 m4, .int .i64 m5, .string m6, .int .i64 m7] 35 (0, 0))) := ⟨heap_alloc_new _ _⟩
      have B : Aside0 (Below w.heap.size w (w.alloc (.cells #[.int .i64 m0, .int .i64 m1, .string m2, .int .i64 m3, .int .i64 m4, .int .i64 m5, .string m6, .int .i64 m7] 35 (0, 0)))) := ⟨below_alloc (Below.refl _ _) _⟩
      obtain ⟨c0, c1, c2, c3, c4, c5, c6, c7⟩ := mv_cells M.out
      go_enter Tryd.func25, Tryd.ntmps25
      go_wp2_with (first | (go_at_call 47; (with_reducible refine (accountingref33_day.calls m1 true _ V1.out).mono ?_); rintro e w1 ⟨rfl, hb⟩; replace hb := hb.below; replace M := Aside0.mk (blk_below M.out hb); replace B := Aside0.mk (below_step B.out hb); clear hb c0 c1 c2 c3 c4 c5 c6 c7; obtain ⟨c0, c1, c2, c3, c4, c5, c6, c7⟩ := mv_cells M.out) | (go_at_call 48; (with_reducible refine (C2 _).mono ?_); rintro e w1 ⟨rfl, hb⟩; replace M := Aside0.mk (blk_below M.out hb); replace B := Aside0.mk (below_step B.out hb); clear hb c0 c1 c2 c3 c4 c5 c6 c7; obtain ⟨c0, c1, c2, c3, c4, c5, c6, c7⟩ := mv_cells M.out))
      go_ret
      exact ⟨rfl, B.out⟩
    · skip
      have C2 := fun W => rcode_calls m2 W HS2.out
      rw [b1] at C2
      cases b2 : kindB m3
      · skip
        have hk := of_decide_eq_false b2
        by_cases q : m3 < 1
        · skip
          have f31 : decide (m3 < 1) = true := decide_eq_true q
          clear hk q
          have E : oneS m1 m2 m3 m4 m5 m6 m7 = 10 := by unfold oneS; simp only [b0, b1, b2, if_true, Bool.false_eq_true, if_false]
          rw [E]
          clear E b0 b1 b2
          have M : Aside0 ((w.alloc (.cells #[.int .i64 m0, .int .i64 m1, .string m2, .int .i64 m3, .int .i64 m4, .int .i64 m5, .string m6, .int .i64 m7] 35 (0, 0))).heap[w.heap.size]? = some (.cells #[.int .i64 m0, .int .i64 m1, .string m2, .int .i64 m3, .int .i64 m4, .int .i64 m5, .string m6, .int .i64 m7] 35 (0, 0))) := ⟨heap_alloc_new _ _⟩
          have B : Aside0 (Below w.heap.size w (w.alloc (.cells #[.int .i64 m0, .int .i64 m1, .string m2, .int .i64 m3, .int .i64 m4, .int .i64 m5, .string m6, .int .i64 m7] 35 (0, 0)))) := ⟨below_alloc (Below.refl _ _) _⟩
          obtain ⟨c0, c1, c2, c3, c4, c5, c6, c7⟩ := mv_cells M.out
          go_enter Tryd.func25, Tryd.ntmps25
          go_wp2_with (first | (go_at_call 47; (with_reducible refine (accountingref33_day.calls m1 true _ V1.out).mono ?_); rintro e w1 ⟨rfl, hb⟩; replace hb := hb.below; replace M := Aside0.mk (blk_below M.out hb); replace B := Aside0.mk (below_step B.out hb); clear hb c0 c1 c2 c3 c4 c5 c6 c7; obtain ⟨c0, c1, c2, c3, c4, c5, c6, c7⟩ := mv_cells M.out) | (go_at_call 48; (with_reducible refine (C2 _).mono ?_); rintro e w1 ⟨rfl, hb⟩; replace M := Aside0.mk (blk_below M.out hb); replace B := Aside0.mk (below_step B.out hb); clear hb c0 c1 c2 c3 c4 c5 c6 c7; obtain ⟨c0, c1, c2, c3, c4, c5, c6, c7⟩ := mv_cells M.out))
          go_ret
          exact ⟨rfl, B.out⟩
        · skip
          have f31 : decide (m3 < 1) = false := decide_eq_false q
          have f32 : decide (6 < m3) = true := decide_eq_true (by omega)
          clear hk q
          have E : oneS m1 m2 m3 m4 m5 m6 m7 = 10 := by unfold oneS; simp only [b0, b1, b2, if_true, Bool.false_eq_true, if_false]
          rw [E]
          clear E b0 b1 b2
          have M : Aside0 ((w.alloc (.cells #[.int .i64 m0, .int .i64 m1, .string m2, .int .i64 m3, .int .i64 m4, .int .i64 m5, .string m6, .int .i64 m7] 35 (0, 0))).heap[w.heap.size]? = some (.cells #[.int .i64 m0, .int .i64 m1, .string m2, .int .i64 m3, .int .i64 m4, .int .i64 m5, .string m6, .int .i64 m7] 35 (0, 0))) := ⟨heap_alloc_new _ _⟩
          have B : Aside0 (Below w.heap.size w (w.alloc (.cells #[.int .i64 m0, .int .i64 m1, .string m2, .int .i64 m3, .int .i64 m4, .int .i64 m5, .string m6, .int .i64 m7] 35 (0, 0)))) := ⟨below_alloc (Below.refl _ _) _⟩
          obtain ⟨c0, c1, c2, c3, c4, c5, c6, c7⟩ := mv_cells M.out
          go_enter Tryd.func25, Tryd.ntmps25
          go_wp2_with (first | (go_at_call 47; (with_reducible refine (accountingref33_day.calls m1 true _ V1.out).mono ?_); rintro e w1 ⟨rfl, hb⟩; replace hb := hb.below; replace M := Aside0.mk (blk_below M.out hb); replace B := Aside0.mk (below_step B.out hb); clear hb c0 c1 c2 c3 c4 c5 c6 c7; obtain ⟨c0, c1, c2, c3, c4, c5, c6, c7⟩ := mv_cells M.out) | (go_at_call 48; (with_reducible refine (C2 _).mono ?_); rintro e w1 ⟨rfl, hb⟩; replace M := Aside0.mk (blk_below M.out hb); replace B := Aside0.mk (below_step B.out hb); clear hb c0 c1 c2 c3 c4 c5 c6 c7; obtain ⟨c0, c1, c2, c3, c4, c5, c6, c7⟩ := mv_cells M.out))
          go_ret
          exact ⟨rfl, B.out⟩
      · skip
        have hk := of_decide_eq_true b2
        have f31 : decide (m3 < 1) = false := decide_eq_false (by omega)
        have f32 : decide (6 < m3) = false := decide_eq_false (by omega)
        clear hk
        have HK := Aside0.mk b2
        cases b3 : qtyB m3 m4
        · skip
          have V4 : Aside0 (accountingref33_quantity.f m0 m1 m2 m3 m4 m5 m6 m7 = some false) := ⟨by rw [rquantity_is _ _ _ _ _ _ _ _ HK.out, b3]⟩
          have E : oneS m1 m2 m3 m4 m5 m6 m7 = 3 := by unfold oneS; simp only [b0, b1, b2, b3, if_true, Bool.false_eq_true, if_false]
          rw [E]
          clear E b0 b1 b2 b3
          have M : Aside0 ((w.alloc (.cells #[.int .i64 m0, .int .i64 m1, .string m2, .int .i64 m3, .int .i64 m4, .int .i64 m5, .string m6, .int .i64 m7] 35 (0, 0))).heap[w.heap.size]? = some (.cells #[.int .i64 m0, .int .i64 m1, .string m2, .int .i64 m3, .int .i64 m4, .int .i64 m5, .string m6, .int .i64 m7] 35 (0, 0))) := ⟨heap_alloc_new _ _⟩
          have B : Aside0 (Below w.heap.size w (w.alloc (.cells #[.int .i64 m0, .int .i64 m1, .string m2, .int .i64 m3, .int .i64 m4, .int .i64 m5, .string m6, .int .i64 m7] 35 (0, 0)))) := ⟨below_alloc (Below.refl _ _) _⟩
          obtain ⟨c0, c1, c2, c3, c4, c5, c6, c7⟩ := mv_cells M.out
          go_enter Tryd.func25, Tryd.ntmps25
          go_wp2_with (first | (go_at_call 47; (with_reducible refine (accountingref33_day.calls m1 true _ V1.out).mono ?_); rintro e w1 ⟨rfl, hb⟩; replace hb := hb.below; replace M := Aside0.mk (blk_below M.out hb); replace B := Aside0.mk (below_step B.out hb); clear hb c0 c1 c2 c3 c4 c5 c6 c7; obtain ⟨c0, c1, c2, c3, c4, c5, c6, c7⟩ := mv_cells M.out) | (go_at_call 48; (with_reducible refine (C2 _).mono ?_); rintro e w1 ⟨rfl, hb⟩; replace M := Aside0.mk (blk_below M.out hb); replace B := Aside0.mk (below_step B.out hb); clear hb c0 c1 c2 c3 c4 c5 c6 c7; obtain ⟨c0, c1, c2, c3, c4, c5, c6, c7⟩ := mv_cells M.out) | (go_at_call 49; (with_reducible refine (accountingref33_quantity.calls m0 m1 m2 m3 m4 m5 m6 m7 false _ V4.out).mono ?_); rintro e w1 ⟨rfl, hb⟩; replace M := Aside0.mk (blk_below M.out hb); replace B := Aside0.mk (below_step B.out hb); clear hb c0 c1 c2 c3 c4 c5 c6 c7; obtain ⟨c0, c1, c2, c3, c4, c5, c6, c7⟩ := mv_cells M.out))
          go_ret
          exact ⟨rfl, B.out⟩
        · skip
          have V4 : Aside0 (accountingref33_quantity.f m0 m1 m2 m3 m4 m5 m6 m7 = some true) := ⟨by rw [rquantity_is _ _ _ _ _ _ _ _ HK.out, b3]⟩
          cases b4 : costB m3 m5
          · skip
            have V5 : Aside0 (accountingref33_cost.f 1 m0 m1 m2 m3 m4 m5 m6 m7 = some false) := ⟨by rw [rcost_is, b4]⟩
            have E : oneS m1 m2 m3 m4 m5 m6 m7 = 3 := by unfold oneS; simp only [b0, b1, b2, b3, b4, if_true, Bool.false_eq_true, if_false]
            rw [E]
            clear E b0 b1 b2 b3 b4
            have M : Aside0 ((w.alloc (.cells #[.int .i64 m0, .int .i64 m1, .string m2, .int .i64 m3, .int .i64 m4, .int .i64 m5, .string m6, .int .i64 m7] 35 (0, 0))).heap[w.heap.size]? = some (.cells #[.int .i64 m0, .int .i64 m1, .string m2, .int .i64 m3, .int .i64 m4, .int .i64 m5, .string m6, .int .i64 m7] 35 (0, 0))) := ⟨heap_alloc_new _ _⟩
            have B : Aside0 (Below w.heap.size w (w.alloc (.cells #[.int .i64 m0, .int .i64 m1, .string m2, .int .i64 m3, .int .i64 m4, .int .i64 m5, .string m6, .int .i64 m7] 35 (0, 0)))) := ⟨below_alloc (Below.refl _ _) _⟩
            obtain ⟨c0, c1, c2, c3, c4, c5, c6, c7⟩ := mv_cells M.out
            go_enter Tryd.func25, Tryd.ntmps25
            go_wp2_with (first | (go_at_call 47; (with_reducible refine (accountingref33_day.calls m1 true _ V1.out).mono ?_); rintro e w1 ⟨rfl, hb⟩; replace hb := hb.below; replace M := Aside0.mk (blk_below M.out hb); replace B := Aside0.mk (below_step B.out hb); clear hb c0 c1 c2 c3 c4 c5 c6 c7; obtain ⟨c0, c1, c2, c3, c4, c5, c6, c7⟩ := mv_cells M.out) | (go_at_call 48; (with_reducible refine (C2 _).mono ?_); rintro e w1 ⟨rfl, hb⟩; replace M := Aside0.mk (blk_below M.out hb); replace B := Aside0.mk (below_step B.out hb); clear hb c0 c1 c2 c3 c4 c5 c6 c7; obtain ⟨c0, c1, c2, c3, c4, c5, c6, c7⟩ := mv_cells M.out) | (go_at_call 49; (with_reducible refine (accountingref33_quantity.calls m0 m1 m2 m3 m4 m5 m6 m7 true _ V4.out).mono ?_); rintro e w1 ⟨rfl, hb⟩; replace M := Aside0.mk (blk_below M.out hb); replace B := Aside0.mk (below_step B.out hb); clear hb c0 c1 c2 c3 c4 c5 c6 c7; obtain ⟨c0, c1, c2, c3, c4, c5, c6, c7⟩ := mv_cells M.out) | (go_at_call 50; (with_reducible refine (accountingref33_cost.calls 1 m0 m1 m2 m3 m4 m5 m6 m7 false _ V5.out).mono ?_); rintro e w1 ⟨rfl, hb⟩; replace M := Aside0.mk (blk_below M.out hb); replace B := Aside0.mk (below_step B.out hb); clear hb c0 c1 c2 c3 c4 c5 c6 c7; obtain ⟨c0, c1, c2, c3, c4, c5, c6, c7⟩ := mv_cells M.out))
            go_ret
            exact ⟨rfl, B.out⟩
          · skip
            have V5 : Aside0 (accountingref33_cost.f 1 m0 m1 m2 m3 m4 m5 m6 m7 = some true) := ⟨by rw [rcost_is, b4]⟩
            cases b5 : lotB m3 m6
            · skip
              rcases lot_no HK.out b5 with ⟨z1, z2, z3, z4, hc⟩ | ⟨z1, z2, z3, z4, hc, z5⟩
              · skip
                have C6 := fun W => rcode_calls m6 W HS6.out
                rw [hc] at C6
                clear hc
                have E : oneS m1 m2 m3 m4 m5 m6 m7 = 22 := by unfold oneS; simp only [b0, b1, b2, b3, b4, b5, if_true, Bool.false_eq_true, if_false]
                rw [E]
                clear E b0 b1 b2 b3 b4 b5
                have M : Aside0 ((w.alloc (.cells #[.int .i64 m0, .int .i64 m1, .string m2, .int .i64 m3, .int .i64 m4, .int .i64 m5, .string m6, .int .i64 m7] 35 (0, 0))).heap[w.heap.size]? = some (.cells #[.int .i64 m0, .int .i64 m1, .string m2, .int .i64 m3, .int .i64 m4, .int .i64 m5, .string m6, .int .i64 m7] 35 (0, 0))) := ⟨heap_alloc_new _ _⟩
                have B : Aside0 (Below w.heap.size w (w.alloc (.cells #[.int .i64 m0, .int .i64 m1, .string m2, .int .i64 m3, .int .i64 m4, .int .i64 m5, .string m6, .int .i64 m7] 35 (0, 0)))) := ⟨below_alloc (Below.refl _ _) _⟩
                obtain ⟨c0, c1, c2, c3, c4, c5, c6, c7⟩ := mv_cells M.out
                go_enter Tryd.func25, Tryd.ntmps25
                go_wp2_with (first | (go_at_call 47; (with_reducible refine (accountingref33_day.calls m1 true _ V1.out).mono ?_); rintro e w1 ⟨rfl, hb⟩; replace hb := hb.below; replace M := Aside0.mk (blk_below M.out hb); replace B := Aside0.mk (below_step B.out hb); clear hb c0 c1 c2 c3 c4 c5 c6 c7; obtain ⟨c0, c1, c2, c3, c4, c5, c6, c7⟩ := mv_cells M.out) | (go_at_call 48; (with_reducible refine (C2 _).mono ?_); rintro e w1 ⟨rfl, hb⟩; replace M := Aside0.mk (blk_below M.out hb); replace B := Aside0.mk (below_step B.out hb); clear hb c0 c1 c2 c3 c4 c5 c6 c7; obtain ⟨c0, c1, c2, c3, c4, c5, c6, c7⟩ := mv_cells M.out) | (go_at_call 49; (with_reducible refine (accountingref33_quantity.calls m0 m1 m2 m3 m4 m5 m6 m7 true _ V4.out).mono ?_); rintro e w1 ⟨rfl, hb⟩; replace M := Aside0.mk (blk_below M.out hb); replace B := Aside0.mk (below_step B.out hb); clear hb c0 c1 c2 c3 c4 c5 c6 c7; obtain ⟨c0, c1, c2, c3, c4, c5, c6, c7⟩ := mv_cells M.out) | (go_at_call 50; (with_reducible refine (accountingref33_cost.calls 1 m0 m1 m2 m3 m4 m5 m6 m7 true _ V5.out).mono ?_); rintro e w1 ⟨rfl, hb⟩; replace M := Aside0.mk (blk_below M.out hb); replace B := Aside0.mk (below_step B.out hb); clear hb c0 c1 c2 c3 c4 c5 c6 c7; obtain ⟨c0, c1, c2, c3, c4, c5, c6, c7⟩ := mv_cells M.out) | (go_at_call 48; (with_reducible refine (C6 _).mono ?_); rintro e w1 ⟨rfl, hb⟩; replace M := Aside0.mk (blk_below M.out hb); replace B := Aside0.mk (below_step B.out hb); clear hb c0 c1 c2 c3 c4 c5 c6 c7; obtain ⟨c0, c1, c2, c3, c4, c5, c6, c7⟩ := mv_cells M.out))
                go_ret
                exact ⟨rfl, B.out⟩
              · skip
                have C6 := fun W => rcode_calls m6 W HS6.out
                rw [hc] at C6
                clear hc
                have E : oneS m1 m2 m3 m4 m5 m6 m7 = 22 := by unfold oneS; simp only [b0, b1, b2, b3, b4, b5, if_true, Bool.false_eq_true, if_false]
                rw [E]
                clear E b0 b1 b2 b3 b4 b5
                have M : Aside0 ((w.alloc (.cells #[.int .i64 m0, .int .i64 m1, .string m2, .int .i64 m3, .int .i64 m4, .int .i64 m5, .string m6, .int .i64 m7] 35 (0, 0))).heap[w.heap.size]? = some (.cells #[.int .i64 m0, .int .i64 m1, .string m2, .int .i64 m3, .int .i64 m4, .int .i64 m5, .string m6, .int .i64 m7] 35 (0, 0))) := ⟨heap_alloc_new _ _⟩
                have B : Aside0 (Below w.heap.size w (w.alloc (.cells #[.int .i64 m0, .int .i64 m1, .string m2, .int .i64 m3, .int .i64 m4, .int .i64 m5, .string m6, .int .i64 m7] 35 (0, 0)))) := ⟨below_alloc (Below.refl _ _) _⟩
                obtain ⟨c0, c1, c2, c3, c4, c5, c6, c7⟩ := mv_cells M.out
                go_enter Tryd.func25, Tryd.ntmps25
                go_wp2_with (first | (go_at_call 47; (with_reducible refine (accountingref33_day.calls m1 true _ V1.out).mono ?_); rintro e w1 ⟨rfl, hb⟩; replace hb := hb.below; replace M := Aside0.mk (blk_below M.out hb); replace B := Aside0.mk (below_step B.out hb); clear hb c0 c1 c2 c3 c4 c5 c6 c7; obtain ⟨c0, c1, c2, c3, c4, c5, c6, c7⟩ := mv_cells M.out) | (go_at_call 48; (with_reducible refine (C2 _).mono ?_); rintro e w1 ⟨rfl, hb⟩; replace M := Aside0.mk (blk_below M.out hb); replace B := Aside0.mk (below_step B.out hb); clear hb c0 c1 c2 c3 c4 c5 c6 c7; obtain ⟨c0, c1, c2, c3, c4, c5, c6, c7⟩ := mv_cells M.out) | (go_at_call 49; (with_reducible refine (accountingref33_quantity.calls m0 m1 m2 m3 m4 m5 m6 m7 true _ V4.out).mono ?_); rintro e w1 ⟨rfl, hb⟩; replace M := Aside0.mk (blk_below M.out hb); replace B := Aside0.mk (below_step B.out hb); clear hb c0 c1 c2 c3 c4 c5 c6 c7; obtain ⟨c0, c1, c2, c3, c4, c5, c6, c7⟩ := mv_cells M.out) | (go_at_call 50; (with_reducible refine (accountingref33_cost.calls 1 m0 m1 m2 m3 m4 m5 m6 m7 true _ V5.out).mono ?_); rintro e w1 ⟨rfl, hb⟩; replace M := Aside0.mk (blk_below M.out hb); replace B := Aside0.mk (below_step B.out hb); clear hb c0 c1 c2 c3 c4 c5 c6 c7; obtain ⟨c0, c1, c2, c3, c4, c5, c6, c7⟩ := mv_cells M.out) | (go_at_call 48; (with_reducible refine (C6 _).mono ?_); rintro e w1 ⟨rfl, hb⟩; replace M := Aside0.mk (blk_below M.out hb); replace B := Aside0.mk (below_step B.out hb); clear hb c0 c1 c2 c3 c4 c5 c6 c7; obtain ⟨c0, c1, c2, c3, c4, c5, c6, c7⟩ := mv_cells M.out))
                go_ret
                exact ⟨rfl, B.out⟩
            · skip
              rcases lot_yes HK.out b5 with ⟨z1, z2, z3, z4⟩ | ⟨z1, z2, z3, z4, hc, z5⟩
              · skip
                cases b7 : refB m3
                · have V7 : Aside0 (accountingref33_follows.f m3 = some false) := ⟨by rw [rfollows_is, b7]⟩
                  by_cases h7 : m7 = 0
                  · have E : oneS m1 m2 m3 m4 m5 m6 m7 = 0 := by unfold oneS refsB; simp only [b0, b1, b2, b3, b4, b5, b7, if_true, Bool.false_eq_true, if_false]; simp [h7]
                    rw [E]
                    have f1 : (m7 == 0) = true := beq_iff_eq.mpr h7
                    have f2 : (m7 != 0) = false := bne_eq_false_iff_eq.mpr h7
                    clear E h7 b7 b0 b1 b2 b3 b4 b5
                    have M : Aside0 ((w.alloc (.cells #[.int .i64 m0, .int .i64 m1, .string m2, .int .i64 m3, .int .i64 m4, .int .i64 m5, .string m6, .int .i64 m7] 35 (0, 0))).heap[w.heap.size]? = some (.cells #[.int .i64 m0, .int .i64 m1, .string m2, .int .i64 m3, .int .i64 m4, .int .i64 m5, .string m6, .int .i64 m7] 35 (0, 0))) := ⟨heap_alloc_new _ _⟩
                    have B : Aside0 (Below w.heap.size w (w.alloc (.cells #[.int .i64 m0, .int .i64 m1, .string m2, .int .i64 m3, .int .i64 m4, .int .i64 m5, .string m6, .int .i64 m7] 35 (0, 0)))) := ⟨below_alloc (Below.refl _ _) _⟩
                    obtain ⟨c0, c1, c2, c3, c4, c5, c6, c7⟩ := mv_cells M.out
                    go_enter Tryd.func25, Tryd.ntmps25
                    go_wp2_with (first | (go_at_call 47; (with_reducible refine (accountingref33_day.calls m1 true _ V1.out).mono ?_); rintro e w1 ⟨rfl, hb⟩; replace hb := hb.below; replace M := Aside0.mk (blk_below M.out hb); replace B := Aside0.mk (below_step B.out hb); clear hb c0 c1 c2 c3 c4 c5 c6 c7; obtain ⟨c0, c1, c2, c3, c4, c5, c6, c7⟩ := mv_cells M.out) | (go_at_call 48; (with_reducible refine (C2 _).mono ?_); rintro e w1 ⟨rfl, hb⟩; replace M := Aside0.mk (blk_below M.out hb); replace B := Aside0.mk (below_step B.out hb); clear hb c0 c1 c2 c3 c4 c5 c6 c7; obtain ⟨c0, c1, c2, c3, c4, c5, c6, c7⟩ := mv_cells M.out) | (go_at_call 49; (with_reducible refine (accountingref33_quantity.calls m0 m1 m2 m3 m4 m5 m6 m7 true _ V4.out).mono ?_); rintro e w1 ⟨rfl, hb⟩; replace M := Aside0.mk (blk_below M.out hb); replace B := Aside0.mk (below_step B.out hb); clear hb c0 c1 c2 c3 c4 c5 c6 c7; obtain ⟨c0, c1, c2, c3, c4, c5, c6, c7⟩ := mv_cells M.out) | (go_at_call 50; (with_reducible refine (accountingref33_cost.calls 1 m0 m1 m2 m3 m4 m5 m6 m7 true _ V5.out).mono ?_); rintro e w1 ⟨rfl, hb⟩; replace M := Aside0.mk (blk_below M.out hb); replace B := Aside0.mk (below_step B.out hb); clear hb c0 c1 c2 c3 c4 c5 c6 c7; obtain ⟨c0, c1, c2, c3, c4, c5, c6, c7⟩ := mv_cells M.out) | (go_at_call 51; (with_reducible refine (accountingref33_follows.calls m3 false _ V7.out).mono ?_); rintro e w1 ⟨rfl, hb⟩; replace hb := hb.below; replace M := Aside0.mk (blk_below M.out hb); replace B := Aside0.mk (below_step B.out hb); clear hb c0 c1 c2 c3 c4 c5 c6 c7; obtain ⟨c0, c1, c2, c3, c4, c5, c6, c7⟩ := mv_cells M.out))
                    go_ret
                    exact ⟨rfl, B.out⟩
                  · have E : oneS m1 m2 m3 m4 m5 m6 m7 = 28 := by unfold oneS refsB; simp only [b0, b1, b2, b3, b4, b5, b7, if_true, Bool.false_eq_true, if_false]; simp [h7]
                    rw [E]
                    have f1 : (m7 == 0) = false := beq_eq_false_iff_ne.mpr h7
                    have f2 : (m7 != 0) = true := bne_iff_ne.mpr h7
                    clear E h7 b7 b0 b1 b2 b3 b4 b5
                    have M : Aside0 ((w.alloc (.cells #[.int .i64 m0, .int .i64 m1, .string m2, .int .i64 m3, .int .i64 m4, .int .i64 m5, .string m6, .int .i64 m7] 35 (0, 0))).heap[w.heap.size]? = some (.cells #[.int .i64 m0, .int .i64 m1, .string m2, .int .i64 m3, .int .i64 m4, .int .i64 m5, .string m6, .int .i64 m7] 35 (0, 0))) := ⟨heap_alloc_new _ _⟩
                    have B : Aside0 (Below w.heap.size w (w.alloc (.cells #[.int .i64 m0, .int .i64 m1, .string m2, .int .i64 m3, .int .i64 m4, .int .i64 m5, .string m6, .int .i64 m7] 35 (0, 0)))) := ⟨below_alloc (Below.refl _ _) _⟩
                    obtain ⟨c0, c1, c2, c3, c4, c5, c6, c7⟩ := mv_cells M.out
                    go_enter Tryd.func25, Tryd.ntmps25
                    go_wp2_with (first | (go_at_call 47; (with_reducible refine (accountingref33_day.calls m1 true _ V1.out).mono ?_); rintro e w1 ⟨rfl, hb⟩; replace hb := hb.below; replace M := Aside0.mk (blk_below M.out hb); replace B := Aside0.mk (below_step B.out hb); clear hb c0 c1 c2 c3 c4 c5 c6 c7; obtain ⟨c0, c1, c2, c3, c4, c5, c6, c7⟩ := mv_cells M.out) | (go_at_call 48; (with_reducible refine (C2 _).mono ?_); rintro e w1 ⟨rfl, hb⟩; replace M := Aside0.mk (blk_below M.out hb); replace B := Aside0.mk (below_step B.out hb); clear hb c0 c1 c2 c3 c4 c5 c6 c7; obtain ⟨c0, c1, c2, c3, c4, c5, c6, c7⟩ := mv_cells M.out) | (go_at_call 49; (with_reducible refine (accountingref33_quantity.calls m0 m1 m2 m3 m4 m5 m6 m7 true _ V4.out).mono ?_); rintro e w1 ⟨rfl, hb⟩; replace M := Aside0.mk (blk_below M.out hb); replace B := Aside0.mk (below_step B.out hb); clear hb c0 c1 c2 c3 c4 c5 c6 c7; obtain ⟨c0, c1, c2, c3, c4, c5, c6, c7⟩ := mv_cells M.out) | (go_at_call 50; (with_reducible refine (accountingref33_cost.calls 1 m0 m1 m2 m3 m4 m5 m6 m7 true _ V5.out).mono ?_); rintro e w1 ⟨rfl, hb⟩; replace M := Aside0.mk (blk_below M.out hb); replace B := Aside0.mk (below_step B.out hb); clear hb c0 c1 c2 c3 c4 c5 c6 c7; obtain ⟨c0, c1, c2, c3, c4, c5, c6, c7⟩ := mv_cells M.out) | (go_at_call 51; (with_reducible refine (accountingref33_follows.calls m3 false _ V7.out).mono ?_); rintro e w1 ⟨rfl, hb⟩; replace hb := hb.below; replace M := Aside0.mk (blk_below M.out hb); replace B := Aside0.mk (below_step B.out hb); clear hb c0 c1 c2 c3 c4 c5 c6 c7; obtain ⟨c0, c1, c2, c3, c4, c5, c6, c7⟩ := mv_cells M.out))
                    go_ret
                    exact ⟨rfl, B.out⟩
                · have V7 : Aside0 (accountingref33_follows.f m3 = some true) := ⟨by rw [rfollows_is, b7]⟩
                  by_cases h7 : 1 ≤ m7
                  · have E : oneS m1 m2 m3 m4 m5 m6 m7 = 0 := by unfold oneS refsB; simp only [b0, b1, b2, b3, b4, b5, b7, if_true, Bool.false_eq_true, if_false]; simp [h7]
                    rw [E]
                    have f1 : decide (m7 < 1) = false := decide_eq_false (by omega)
                    clear E h7 b7 b0 b1 b2 b3 b4 b5
                    have M : Aside0 ((w.alloc (.cells #[.int .i64 m0, .int .i64 m1, .string m2, .int .i64 m3, .int .i64 m4, .int .i64 m5, .string m6, .int .i64 m7] 35 (0, 0))).heap[w.heap.size]? = some (.cells #[.int .i64 m0, .int .i64 m1, .string m2, .int .i64 m3, .int .i64 m4, .int .i64 m5, .string m6, .int .i64 m7] 35 (0, 0))) := ⟨heap_alloc_new _ _⟩
                    have B : Aside0 (Below w.heap.size w (w.alloc (.cells #[.int .i64 m0, .int .i64 m1, .string m2, .int .i64 m3, .int .i64 m4, .int .i64 m5, .string m6, .int .i64 m7] 35 (0, 0)))) := ⟨below_alloc (Below.refl _ _) _⟩
                    obtain ⟨c0, c1, c2, c3, c4, c5, c6, c7⟩ := mv_cells M.out
                    go_enter Tryd.func25, Tryd.ntmps25
                    go_wp2_with (first | (go_at_call 47; (with_reducible refine (accountingref33_day.calls m1 true _ V1.out).mono ?_); rintro e w1 ⟨rfl, hb⟩; replace hb := hb.below; replace M := Aside0.mk (blk_below M.out hb); replace B := Aside0.mk (below_step B.out hb); clear hb c0 c1 c2 c3 c4 c5 c6 c7; obtain ⟨c0, c1, c2, c3, c4, c5, c6, c7⟩ := mv_cells M.out) | (go_at_call 48; (with_reducible refine (C2 _).mono ?_); rintro e w1 ⟨rfl, hb⟩; replace M := Aside0.mk (blk_below M.out hb); replace B := Aside0.mk (below_step B.out hb); clear hb c0 c1 c2 c3 c4 c5 c6 c7; obtain ⟨c0, c1, c2, c3, c4, c5, c6, c7⟩ := mv_cells M.out) | (go_at_call 49; (with_reducible refine (accountingref33_quantity.calls m0 m1 m2 m3 m4 m5 m6 m7 true _ V4.out).mono ?_); rintro e w1 ⟨rfl, hb⟩; replace M := Aside0.mk (blk_below M.out hb); replace B := Aside0.mk (below_step B.out hb); clear hb c0 c1 c2 c3 c4 c5 c6 c7; obtain ⟨c0, c1, c2, c3, c4, c5, c6, c7⟩ := mv_cells M.out) | (go_at_call 50; (with_reducible refine (accountingref33_cost.calls 1 m0 m1 m2 m3 m4 m5 m6 m7 true _ V5.out).mono ?_); rintro e w1 ⟨rfl, hb⟩; replace M := Aside0.mk (blk_below M.out hb); replace B := Aside0.mk (below_step B.out hb); clear hb c0 c1 c2 c3 c4 c5 c6 c7; obtain ⟨c0, c1, c2, c3, c4, c5, c6, c7⟩ := mv_cells M.out) | (go_at_call 51; (with_reducible refine (accountingref33_follows.calls m3 true _ V7.out).mono ?_); rintro e w1 ⟨rfl, hb⟩; replace hb := hb.below; replace M := Aside0.mk (blk_below M.out hb); replace B := Aside0.mk (below_step B.out hb); clear hb c0 c1 c2 c3 c4 c5 c6 c7; obtain ⟨c0, c1, c2, c3, c4, c5, c6, c7⟩ := mv_cells M.out))
                    go_ret
                    exact ⟨rfl, B.out⟩
                  · have E : oneS m1 m2 m3 m4 m5 m6 m7 = 28 := by unfold oneS refsB; simp only [b0, b1, b2, b3, b4, b5, b7, if_true, Bool.false_eq_true, if_false]; simp [h7]
                    rw [E]
                    have f1 : decide (m7 < 1) = true := decide_eq_true (by omega)
                    clear E h7 b7 b0 b1 b2 b3 b4 b5
                    have M : Aside0 ((w.alloc (.cells #[.int .i64 m0, .int .i64 m1, .string m2, .int .i64 m3, .int .i64 m4, .int .i64 m5, .string m6, .int .i64 m7] 35 (0, 0))).heap[w.heap.size]? = some (.cells #[.int .i64 m0, .int .i64 m1, .string m2, .int .i64 m3, .int .i64 m4, .int .i64 m5, .string m6, .int .i64 m7] 35 (0, 0))) := ⟨heap_alloc_new _ _⟩
                    have B : Aside0 (Below w.heap.size w (w.alloc (.cells #[.int .i64 m0, .int .i64 m1, .string m2, .int .i64 m3, .int .i64 m4, .int .i64 m5, .string m6, .int .i64 m7] 35 (0, 0)))) := ⟨below_alloc (Below.refl _ _) _⟩
                    obtain ⟨c0, c1, c2, c3, c4, c5, c6, c7⟩ := mv_cells M.out
                    go_enter Tryd.func25, Tryd.ntmps25
                    go_wp2_with (first | (go_at_call 47; (with_reducible refine (accountingref33_day.calls m1 true _ V1.out).mono ?_); rintro e w1 ⟨rfl, hb⟩; replace hb := hb.below; replace M := Aside0.mk (blk_below M.out hb); replace B := Aside0.mk (below_step B.out hb); clear hb c0 c1 c2 c3 c4 c5 c6 c7; obtain ⟨c0, c1, c2, c3, c4, c5, c6, c7⟩ := mv_cells M.out) | (go_at_call 48; (with_reducible refine (C2 _).mono ?_); rintro e w1 ⟨rfl, hb⟩; replace M := Aside0.mk (blk_below M.out hb); replace B := Aside0.mk (below_step B.out hb); clear hb c0 c1 c2 c3 c4 c5 c6 c7; obtain ⟨c0, c1, c2, c3, c4, c5, c6, c7⟩ := mv_cells M.out) | (go_at_call 49; (with_reducible refine (accountingref33_quantity.calls m0 m1 m2 m3 m4 m5 m6 m7 true _ V4.out).mono ?_); rintro e w1 ⟨rfl, hb⟩; replace M := Aside0.mk (blk_below M.out hb); replace B := Aside0.mk (below_step B.out hb); clear hb c0 c1 c2 c3 c4 c5 c6 c7; obtain ⟨c0, c1, c2, c3, c4, c5, c6, c7⟩ := mv_cells M.out) | (go_at_call 50; (with_reducible refine (accountingref33_cost.calls 1 m0 m1 m2 m3 m4 m5 m6 m7 true _ V5.out).mono ?_); rintro e w1 ⟨rfl, hb⟩; replace M := Aside0.mk (blk_below M.out hb); replace B := Aside0.mk (below_step B.out hb); clear hb c0 c1 c2 c3 c4 c5 c6 c7; obtain ⟨c0, c1, c2, c3, c4, c5, c6, c7⟩ := mv_cells M.out) | (go_at_call 51; (with_reducible refine (accountingref33_follows.calls m3 true _ V7.out).mono ?_); rintro e w1 ⟨rfl, hb⟩; replace hb := hb.below; replace M := Aside0.mk (blk_below M.out hb); replace B := Aside0.mk (below_step B.out hb); clear hb c0 c1 c2 c3 c4 c5 c6 c7; obtain ⟨c0, c1, c2, c3, c4, c5, c6, c7⟩ := mv_cells M.out))
                    go_ret
                    exact ⟨rfl, B.out⟩
              · skip
                have C6 := fun W => rcode_calls m6 W HS6.out
                rw [hc] at C6
                clear hc
                cases b7 : refB m3
                · have V7 : Aside0 (accountingref33_follows.f m3 = some false) := ⟨by rw [rfollows_is, b7]⟩
                  by_cases h7 : m7 = 0
                  · have E : oneS m1 m2 m3 m4 m5 m6 m7 = 0 := by unfold oneS refsB; simp only [b0, b1, b2, b3, b4, b5, b7, if_true, Bool.false_eq_true, if_false]; simp [h7]
                    rw [E]
                    have f1 : (m7 == 0) = true := beq_iff_eq.mpr h7
                    have f2 : (m7 != 0) = false := bne_eq_false_iff_eq.mpr h7
                    clear E h7 b7 b0 b1 b2 b3 b4 b5
                    have M : Aside0 ((w.alloc (.cells #[.int .i64 m0, .int .i64 m1, .string m2, .int .i64 m3, .int .i64 m4, .int .i64 m5, .string m6, .int .i64 m7] 35 (0, 0))).heap[w.heap.size]? = some (.cells #[.int .i64 m0, .int .i64 m1, .string m2, .int .i64 m3, .int .i64 m4, .int .i64 m5, .string m6, .int .i64 m7] 35 (0, 0))) := ⟨heap_alloc_new _ _⟩
                    have B : Aside0 (Below w.heap.size w (w.alloc (.cells #[.int .i64 m0, .int .i64 m1, .string m2, .int .i64 m3, .int .i64 m4, .int .i64 m5, .string m6, .int .i64 m7] 35 (0, 0)))) := ⟨below_alloc (Below.refl _ _) _⟩
                    obtain ⟨c0, c1, c2, c3, c4, c5, c6, c7⟩ := mv_cells M.out
                    go_enter Tryd.func25, Tryd.ntmps25
                    go_wp2_with (first | (go_at_call 47; (with_reducible refine (accountingref33_day.calls m1 true _ V1.out).mono ?_); rintro e w1 ⟨rfl, hb⟩; replace hb := hb.below; replace M := Aside0.mk (blk_below M.out hb); replace B := Aside0.mk (below_step B.out hb); clear hb c0 c1 c2 c3 c4 c5 c6 c7; obtain ⟨c0, c1, c2, c3, c4, c5, c6, c7⟩ := mv_cells M.out) | (go_at_call 48; (with_reducible refine (C2 _).mono ?_); rintro e w1 ⟨rfl, hb⟩; replace M := Aside0.mk (blk_below M.out hb); replace B := Aside0.mk (below_step B.out hb); clear hb c0 c1 c2 c3 c4 c5 c6 c7; obtain ⟨c0, c1, c2, c3, c4, c5, c6, c7⟩ := mv_cells M.out) | (go_at_call 49; (with_reducible refine (accountingref33_quantity.calls m0 m1 m2 m3 m4 m5 m6 m7 true _ V4.out).mono ?_); rintro e w1 ⟨rfl, hb⟩; replace M := Aside0.mk (blk_below M.out hb); replace B := Aside0.mk (below_step B.out hb); clear hb c0 c1 c2 c3 c4 c5 c6 c7; obtain ⟨c0, c1, c2, c3, c4, c5, c6, c7⟩ := mv_cells M.out) | (go_at_call 50; (with_reducible refine (accountingref33_cost.calls 1 m0 m1 m2 m3 m4 m5 m6 m7 true _ V5.out).mono ?_); rintro e w1 ⟨rfl, hb⟩; replace M := Aside0.mk (blk_below M.out hb); replace B := Aside0.mk (below_step B.out hb); clear hb c0 c1 c2 c3 c4 c5 c6 c7; obtain ⟨c0, c1, c2, c3, c4, c5, c6, c7⟩ := mv_cells M.out) | (go_at_call 48; (with_reducible refine (C6 _).mono ?_); rintro e w1 ⟨rfl, hb⟩; replace M := Aside0.mk (blk_below M.out hb); replace B := Aside0.mk (below_step B.out hb); clear hb c0 c1 c2 c3 c4 c5 c6 c7; obtain ⟨c0, c1, c2, c3, c4, c5, c6, c7⟩ := mv_cells M.out) | (go_at_call 51; (with_reducible refine (accountingref33_follows.calls m3 false _ V7.out).mono ?_); rintro e w1 ⟨rfl, hb⟩; replace hb := hb.below; replace M := Aside0.mk (blk_below M.out hb); replace B := Aside0.mk (below_step B.out hb); clear hb c0 c1 c2 c3 c4 c5 c6 c7; obtain ⟨c0, c1, c2, c3, c4, c5, c6, c7⟩ := mv_cells M.out))
                    go_ret
                    exact ⟨rfl, B.out⟩
                  · have E : oneS m1 m2 m3 m4 m5 m6 m7 = 28 := by unfold oneS refsB; simp only [b0, b1, b2, b3, b4, b5, b7, if_true, Bool.false_eq_true, if_false]; simp [h7]
                    rw [E]
                    have f1 : (m7 == 0) = false := beq_eq_false_iff_ne.mpr h7
                    have f2 : (m7 != 0) = true := bne_iff_ne.mpr h7
                    clear E h7 b7 b0 b1 b2 b3 b4 b5
                    have M : Aside0 ((w.alloc (.cells #[.int .i64 m0, .int .i64 m1, .string m2, .int .i64 m3, .int .i64 m4, .int .i64 m5, .string m6, .int .i64 m7] 35 (0, 0))).heap[w.heap.size]? = some (.cells #[.int .i64 m0, .int .i64 m1, .string m2, .int .i64 m3, .int .i64 m4, .int .i64 m5, .string m6, .int .i64 m7] 35 (0, 0))) := ⟨heap_alloc_new _ _⟩
                    have B : Aside0 (Below w.heap.size w (w.alloc (.cells #[.int .i64 m0, .int .i64 m1, .string m2, .int .i64 m3, .int .i64 m4, .int .i64 m5, .string m6, .int .i64 m7] 35 (0, 0)))) := ⟨below_alloc (Below.refl _ _) _⟩
                    obtain ⟨c0, c1, c2, c3, c4, c5, c6, c7⟩ := mv_cells M.out
                    go_enter Tryd.func25, Tryd.ntmps25
                    go_wp2_with (first | (go_at_call 47; (with_reducible refine (accountingref33_day.calls m1 true _ V1.out).mono ?_); rintro e w1 ⟨rfl, hb⟩; replace hb := hb.below; replace M := Aside0.mk (blk_below M.out hb); replace B := Aside0.mk (below_step B.out hb); clear hb c0 c1 c2 c3 c4 c5 c6 c7; obtain ⟨c0, c1, c2, c3, c4, c5, c6, c7⟩ := mv_cells M.out) | (go_at_call 48; (with_reducible refine (C2 _).mono ?_); rintro e w1 ⟨rfl, hb⟩; replace M := Aside0.mk (blk_below M.out hb); replace B := Aside0.mk (below_step B.out hb); clear hb c0 c1 c2 c3 c4 c5 c6 c7; obtain ⟨c0, c1, c2, c3, c4, c5, c6, c7⟩ := mv_cells M.out) | (go_at_call 49; (with_reducible refine (accountingref33_quantity.calls m0 m1 m2 m3 m4 m5 m6 m7 true _ V4.out).mono ?_); rintro e w1 ⟨rfl, hb⟩; replace M := Aside0.mk (blk_below M.out hb); replace B := Aside0.mk (below_step B.out hb); clear hb c0 c1 c2 c3 c4 c5 c6 c7; obtain ⟨c0, c1, c2, c3, c4, c5, c6, c7⟩ := mv_cells M.out) | (go_at_call 50; (with_reducible refine (accountingref33_cost.calls 1 m0 m1 m2 m3 m4 m5 m6 m7 true _ V5.out).mono ?_); rintro e w1 ⟨rfl, hb⟩; replace M := Aside0.mk (blk_below M.out hb); replace B := Aside0.mk (below_step B.out hb); clear hb c0 c1 c2 c3 c4 c5 c6 c7; obtain ⟨c0, c1, c2, c3, c4, c5, c6, c7⟩ := mv_cells M.out) | (go_at_call 48; (with_reducible refine (C6 _).mono ?_); rintro e w1 ⟨rfl, hb⟩; replace M := Aside0.mk (blk_below M.out hb); replace B := Aside0.mk (below_step B.out hb); clear hb c0 c1 c2 c3 c4 c5 c6 c7; obtain ⟨c0, c1, c2, c3, c4, c5, c6, c7⟩ := mv_cells M.out) | (go_at_call 51; (with_reducible refine (accountingref33_follows.calls m3 false _ V7.out).mono ?_); rintro e w1 ⟨rfl, hb⟩; replace hb := hb.below; replace M := Aside0.mk (blk_below M.out hb); replace B := Aside0.mk (below_step B.out hb); clear hb c0 c1 c2 c3 c4 c5 c6 c7; obtain ⟨c0, c1, c2, c3, c4, c5, c6, c7⟩ := mv_cells M.out))
                    go_ret
                    exact ⟨rfl, B.out⟩
                · have V7 : Aside0 (accountingref33_follows.f m3 = some true) := ⟨by rw [rfollows_is, b7]⟩
                  by_cases h7 : 1 ≤ m7
                  · have E : oneS m1 m2 m3 m4 m5 m6 m7 = 0 := by unfold oneS refsB; simp only [b0, b1, b2, b3, b4, b5, b7, if_true, Bool.false_eq_true, if_false]; simp [h7]
                    rw [E]
                    have f1 : decide (m7 < 1) = false := decide_eq_false (by omega)
                    clear E h7 b7 b0 b1 b2 b3 b4 b5
                    have M : Aside0 ((w.alloc (.cells #[.int .i64 m0, .int .i64 m1, .string m2, .int .i64 m3, .int .i64 m4, .int .i64 m5, .string m6, .int .i64 m7] 35 (0, 0))).heap[w.heap.size]? = some (.cells #[.int .i64 m0, .int .i64 m1, .string m2, .int .i64 m3, .int .i64 m4, .int .i64 m5, .string m6, .int .i64 m7] 35 (0, 0))) := ⟨heap_alloc_new _ _⟩
                    have B : Aside0 (Below w.heap.size w (w.alloc (.cells #[.int .i64 m0, .int .i64 m1, .string m2, .int .i64 m3, .int .i64 m4, .int .i64 m5, .string m6, .int .i64 m7] 35 (0, 0)))) := ⟨below_alloc (Below.refl _ _) _⟩
                    obtain ⟨c0, c1, c2, c3, c4, c5, c6, c7⟩ := mv_cells M.out
                    go_enter Tryd.func25, Tryd.ntmps25
                    go_wp2_with (first | (go_at_call 47; (with_reducible refine (accountingref33_day.calls m1 true _ V1.out).mono ?_); rintro e w1 ⟨rfl, hb⟩; replace hb := hb.below; replace M := Aside0.mk (blk_below M.out hb); replace B := Aside0.mk (below_step B.out hb); clear hb c0 c1 c2 c3 c4 c5 c6 c7; obtain ⟨c0, c1, c2, c3, c4, c5, c6, c7⟩ := mv_cells M.out) | (go_at_call 48; (with_reducible refine (C2 _).mono ?_); rintro e w1 ⟨rfl, hb⟩; replace M := Aside0.mk (blk_below M.out hb); replace B := Aside0.mk (below_step B.out hb); clear hb c0 c1 c2 c3 c4 c5 c6 c7; obtain ⟨c0, c1, c2, c3, c4, c5, c6, c7⟩ := mv_cells M.out) | (go_at_call 49; (with_reducible refine (accountingref33_quantity.calls m0 m1 m2 m3 m4 m5 m6 m7 true _ V4.out).mono ?_); rintro e w1 ⟨rfl, hb⟩; replace M := Aside0.mk (blk_below M.out hb); replace B := Aside0.mk (below_step B.out hb); clear hb c0 c1 c2 c3 c4 c5 c6 c7; obtain ⟨c0, c1, c2, c3, c4, c5, c6, c7⟩ := mv_cells M.out) | (go_at_call 50; (with_reducible refine (accountingref33_cost.calls 1 m0 m1 m2 m3 m4 m5 m6 m7 true _ V5.out).mono ?_); rintro e w1 ⟨rfl, hb⟩; replace M := Aside0.mk (blk_below M.out hb); replace B := Aside0.mk (below_step B.out hb); clear hb c0 c1 c2 c3 c4 c5 c6 c7; obtain ⟨c0, c1, c2, c3, c4, c5, c6, c7⟩ := mv_cells M.out) | (go_at_call 48; (with_reducible refine (C6 _).mono ?_); rintro e w1 ⟨rfl, hb⟩; replace M := Aside0.mk (blk_below M.out hb); replace B := Aside0.mk (below_step B.out hb); clear hb c0 c1 c2 c3 c4 c5 c6 c7; obtain ⟨c0, c1, c2, c3, c4, c5, c6, c7⟩ := mv_cells M.out) | (go_at_call 51; (with_reducible refine (accountingref33_follows.calls m3 true _ V7.out).mono ?_); rintro e w1 ⟨rfl, hb⟩; replace hb := hb.below; replace M := Aside0.mk (blk_below M.out hb); replace B := Aside0.mk (below_step B.out hb); clear hb c0 c1 c2 c3 c4 c5 c6 c7; obtain ⟨c0, c1, c2, c3, c4, c5, c6, c7⟩ := mv_cells M.out))
                    go_ret
                    exact ⟨rfl, B.out⟩
                  · have E : oneS m1 m2 m3 m4 m5 m6 m7 = 28 := by unfold oneS refsB; simp only [b0, b1, b2, b3, b4, b5, b7, if_true, Bool.false_eq_true, if_false]; simp [h7]
                    rw [E]
                    have f1 : decide (m7 < 1) = true := decide_eq_true (by omega)
                    clear E h7 b7 b0 b1 b2 b3 b4 b5
                    have M : Aside0 ((w.alloc (.cells #[.int .i64 m0, .int .i64 m1, .string m2, .int .i64 m3, .int .i64 m4, .int .i64 m5, .string m6, .int .i64 m7] 35 (0, 0))).heap[w.heap.size]? = some (.cells #[.int .i64 m0, .int .i64 m1, .string m2, .int .i64 m3, .int .i64 m4, .int .i64 m5, .string m6, .int .i64 m7] 35 (0, 0))) := ⟨heap_alloc_new _ _⟩
                    have B : Aside0 (Below w.heap.size w (w.alloc (.cells #[.int .i64 m0, .int .i64 m1, .string m2, .int .i64 m3, .int .i64 m4, .int .i64 m5, .string m6, .int .i64 m7] 35 (0, 0)))) := ⟨below_alloc (Below.refl _ _) _⟩
                    obtain ⟨c0, c1, c2, c3, c4, c5, c6, c7⟩ := mv_cells M.out
                    go_enter Tryd.func25, Tryd.ntmps25
                    go_wp2_with (first | (go_at_call 47; (with_reducible refine (accountingref33_day.calls m1 true _ V1.out).mono ?_); rintro e w1 ⟨rfl, hb⟩; replace hb := hb.below; replace M := Aside0.mk (blk_below M.out hb); replace B := Aside0.mk (below_step B.out hb); clear hb c0 c1 c2 c3 c4 c5 c6 c7; obtain ⟨c0, c1, c2, c3, c4, c5, c6, c7⟩ := mv_cells M.out) | (go_at_call 48; (with_reducible refine (C2 _).mono ?_); rintro e w1 ⟨rfl, hb⟩; replace M := Aside0.mk (blk_below M.out hb); replace B := Aside0.mk (below_step B.out hb); clear hb c0 c1 c2 c3 c4 c5 c6 c7; obtain ⟨c0, c1, c2, c3, c4, c5, c6, c7⟩ := mv_cells M.out) | (go_at_call 49; (with_reducible refine (accountingref33_quantity.calls m0 m1 m2 m3 m4 m5 m6 m7 true _ V4.out).mono ?_); rintro e w1 ⟨rfl, hb⟩; replace M := Aside0.mk (blk_below M.out hb); replace B := Aside0.mk (below_step B.out hb); clear hb c0 c1 c2 c3 c4 c5 c6 c7; obtain ⟨c0, c1, c2, c3, c4, c5, c6, c7⟩ := mv_cells M.out) | (go_at_call 50; (with_reducible refine (accountingref33_cost.calls 1 m0 m1 m2 m3 m4 m5 m6 m7 true _ V5.out).mono ?_); rintro e w1 ⟨rfl, hb⟩; replace M := Aside0.mk (blk_below M.out hb); replace B := Aside0.mk (below_step B.out hb); clear hb c0 c1 c2 c3 c4 c5 c6 c7; obtain ⟨c0, c1, c2, c3, c4, c5, c6, c7⟩ := mv_cells M.out) | (go_at_call 48; (with_reducible refine (C6 _).mono ?_); rintro e w1 ⟨rfl, hb⟩; replace M := Aside0.mk (blk_below M.out hb); replace B := Aside0.mk (below_step B.out hb); clear hb c0 c1 c2 c3 c4 c5 c6 c7; obtain ⟨c0, c1, c2, c3, c4, c5, c6, c7⟩ := mv_cells M.out) | (go_at_call 51; (with_reducible refine (accountingref33_follows.calls m3 true _ V7.out).mono ?_); rintro e w1 ⟨rfl, hb⟩; replace hb := hb.below; replace M := Aside0.mk (blk_below M.out hb); replace B := Aside0.mk (below_step B.out hb); clear hb c0 c1 c2 c3 c4 c5 c6 c7; obtain ⟨c0, c1, c2, c3, c4, c5, c6, c7⟩ := mv_cells M.out))
                    go_ret
                    exact ⟨rfl, B.out⟩
end Go.Proofs.YticcaknflnldgaaDoor.Co
