/- The executor and what hangs on it, merged (LuI): a verified abstract run of code over memory, and the walks by it; each theorem names its conditions. -/
import Derived.Test.YtcjdkaigimcofaaDoorX2
/- The law LotsKeeps, walked. No condition but 64 bits. -/
namespace Go.Proofs.YtcjdkaigimcofaaDoor.Ff
open Go.RowKit Go.Proofs.YtcjdkaigimcofaaDoorW.PrintWords Go.Proofs.YtcjdkaigimcofaaDoor.Ex
set_option linter.unusedVariables false
set_option linter.unusedSimpArgs false
set_option maxRecDepth 100000
theorem LotsKeeps_calls {W : World} {V : Value} {l : List Mv} {m : Mv} (hL : Laid W) (h1 : Src W V .mv l) (hl : MvsI l) (hm : MvI m) (z1 : m.item.size ≤ 140737488351232) (z2 : m.lot.size ≤ 140737488351232) :
    Calls Tryd.prog 8 #[V, .agg (mvC m).toArray] W fun e w1 => e = .returned (.bool true) ∧ Below W.heap.size W w1 := by
  obtain ⟨ρ, e1, hS⟩ := start1 h1
  have hg : ∀ i, ¬ (gW W).S i := fun i h => h
  refine (calls_awp (f := 8) (vs := [V, .agg (mvC m).toArray]) (cx_ok (C := CL) (nt := 53) (cl_ok hL hg)) mixed_ok Tryd.func8 rfl rfl hS (avs := [.one (.row 0), .agg (mvL m)])
    (fun ρ' h => ⟨row_rel h (by simp [findR]) e1 h1, mvL_args m ρ', trivial⟩) (le_of_ble (by kernel_rfl)) (K := fun x A => x = .one (.v (.bool true))) ?_).mono ?_
  · have hs := playS_pl hl
    have n0 : (playS l).la.length ≤ 1000000000 := by have := hs.la; omega
    have n1 : (playS l).pa.length ≤ 1000000000 := by have := hs.pa; omega
    have hsm : SmI (playS l) m := hs.sm (by omega) hm z1 z2
    have hs2 := hs.step stpF_f hm
    have n2 := hs2.la
    have n3 := hs2.pa
    unfold mvL
    ((conv => whnf) <;> repeat (refine obl_ ?_; conv => whnf))
    refine LoopP.introR (cx_ok (cl_ok hL hg)) mixed_ok (ι := Nat × List La) (fun k => ⟨[(10, .one (.v (.int .i64 (k.1 : Int)))), (7, .one (.ptr 17 0)), (6, .one (.ptr 16 0)), (5, .one (.ptr 15 0)), (4, .one (.v (.bool false)))], [(17, 26, stockL (stpF (playS l) m).2.1 6000 6001), (16, 26, stockL (playS l) 5002 5003), (15, 26, stockL (playS l) 5000 5001)], [(5000, some ⟨.la, (playS l).la, true⟩), (5001, some ⟨.pa, (playS l).pa, true⟩), (5002, some ⟨.la, (playS l).la, true⟩), (5003, some ⟨.pa, (playS l).pa, true⟩), (6000, some ⟨.la, k.2, true⟩), (6001, some ⟨.pa, (stpF (playS l) m).2.1.pa, true⟩)]⟩) (fun k => k.1 ≤ k.2.length ∧ k.2.length ≤ 1000) (fun k => k.2.length - k.1) (0, (stpF (playS l) m).2.1.la) ⟨Nat.zero_le _, by simp only; omega⟩ ⟨[(5000, some 23), (5001, some 523), (5002, some 25), (5003, some 525), (6000, some 29), (6001, some 529)], by (refine ⟨?_, ?_, ?_, by kernel_rfl⟩ <;> repeat' (first | exact trivial | exact rfl | assumption | apply And.intro))⟩ ?_
    rintro ⟨j, xs⟩ ⟨hj, hx⟩
    simp only at hj hx
    ((conv => whnf) <;> repeat (refine obl_ ?_; conv => whnf))
    refine cond_ (fun h => ?_) (fun h => ?_)
    · have hjl : j < xs.length := by have := of_decide_eq_true h; simp only at this; omega
      have j1 : 0 ≤ (j : Int) := by omega
      have j2 : (j : Int) < (xs.length : Int) := by omega
      ((conv => whnf) <;> repeat (refine obl_ ?_; conv => whnf))
      refine ⟨(j + 1, xs.set j zLa), ⟨by simp only [List.length_set]; omega, by simp only [List.length_set]; omega⟩, by simp only [List.length_set]; omega, [], ?_⟩
      (refine ⟨?_, ?_, ?_, by kernel_rfl⟩ <;> repeat' (first | exact trivial | exact rfl | assumption | apply And.intro))
      exact up_ (by omega)
    ((conv => whnf) <;> repeat (refine obl_ ?_; conv => whnf))
    refine LoopP.introR (cx_ok (cl_ok hL hg)) mixed_ok (ι := Nat × List Pa) (fun k => ⟨[(11, .one (.v (.int .i64 (k.1 : Int)))), (7, .one (.ptr 17 0)), (6, .one (.ptr 16 0)), (5, .one (.ptr 15 0)), (4, .one (.v (.bool false)))], [(17, 26, stockL (stpF (playS l) m).2.1 6000 6001), (16, 26, stockL (playS l) 5002 5003), (15, 26, stockL (playS l) 5000 5001)], [(5000, some ⟨.la, (playS l).la, true⟩), (5001, some ⟨.pa, (playS l).pa, true⟩), (5002, some ⟨.la, (playS l).la, true⟩), (5003, some ⟨.pa, (playS l).pa, true⟩), (6000, some ⟨.la, xs, true⟩), (6001, some ⟨.pa, k.2, true⟩)]⟩) (fun k => k.1 ≤ k.2.length ∧ k.2.length ≤ 1000) (fun k => k.2.length - k.1) (0, (stpF (playS l) m).2.1.pa) ⟨Nat.zero_le _, by simp only; omega⟩ ⟨[], by (refine ⟨?_, ?_, ?_, by kernel_rfl⟩ <;> repeat' (first | exact trivial | exact rfl | assumption | apply And.intro))⟩ ?_
    rintro ⟨j, ys⟩ ⟨hj, hy⟩
    simp only at hj hy
    ((conv => whnf) <;> repeat (refine obl_ ?_; conv => whnf))
    refine cond_ (fun h => ?_) (fun h => ?_)
    · have hjl : j < ys.length := by have := of_decide_eq_true h; simp only at this; omega
      have j1 : 0 ≤ (j : Int) := by omega
      have j2 : (j : Int) < (ys.length : Int) := by omega
      ((conv => whnf) <;> repeat (refine obl_ ?_; conv => whnf))
      refine ⟨(j + 1, ys.set j zPa), ⟨by simp only [List.length_set]; omega, by simp only [List.length_set]; omega⟩, by simp only [List.length_set]; omega, [], ?_⟩
      (refine ⟨?_, ?_, ?_, by kernel_rfl⟩ <;> repeat' (first | exact trivial | exact rfl | assumption | apply And.intro))
      exact up_ (by omega)
    ((conv => whnf) <;> repeat (refine obl_ ?_; conv => whnf))
    exact rfl
  · rintro e w1 ⟨x, v, A1, ρ1, a1, rfl, hv, rfl, hS1, _⟩
    exact ⟨by rw [show x = _ from hv], hS1.rel.bel⟩
end Go.Proofs.YtcjdkaigimcofaaDoor.Ff
