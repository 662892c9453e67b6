/- The executor and what hangs on it, merged (AxM): a verified abstract run of code over memory, and the walks by it; each theorem names its conditions. -/
import Derived.Test.YticcaknflnldgaaDoorX2
/- The law AverageOwn, walked. No condition but 64 bits. -/
namespace Go.Proofs.YticcaknflnldgaaDoor.Ff
open Go.RowKit Go.Proofs.YticcaknflnldgaaDoorW.PrintWords Go.Proofs.YticcaknflnldgaaDoor.Ex
set_option linter.unusedVariables false
set_option linter.unusedSimpArgs false
set_option maxRecDepth 100000
theorem AverageOwn_calls {W : World} {V : Value} {l : List Mv} {m : Mv} (hL : Laid W) (h1 : Src W V .mv l) (hl : MvsI l) (hm : MvI m) (z1 : m.item.size ≤ 140737488351232) (z2 : m.lot.size ≤ 140737488351232) :
    Calls Tryd.prog 8 #[V, .agg (mvC m).toArray] W fun e w1 => e = .returned (.bool true) ∧ Below W.heap.size W w1 := by
  obtain ⟨ρ, e1, hS⟩ := start1 h1
  have hg : ∀ i, ¬ (gW W).S i := fun i h => h
  refine (calls_awp (f := 8) (vs := [V, .agg (mvC m).toArray]) (cx_ok (C := CL) (nt := 88) (cl_ok hL hg)) mixed_ok Tryd.func8 rfl rfl hS (avs := [.one (.row 0), .agg (mvL m)])
    (fun ρ' h => ⟨row_rel h (by simp [findR]) e1 h1, mvL_args m ρ', trivial⟩) (le_of_ble (by kernel_rfl)) (K := fun x A => x = .one (.v (.bool true))) ?_).mono ?_
  · unfold mvL
    ((conv => whnf) <;> repeat (refine obl_ ?_; conv => whnf))
    refine cond_ (fun h => ?_) (fun h => ?_)
    · ((conv => whnf) <;> repeat (refine obl_ ?_; conv => whnf))
      exact rfl
    have hB : largeB l = false := h
    have hlen := large_f hB
    ((conv => whnf) <;> repeat (refine obl_ ?_; conv => whnf))
    refine cond_ (fun h => ?_) (fun h => ?_)
    · ((conv => whnf) <;> repeat (refine obl_ ?_; conv => whnf))
      exact rfl
    have hs := s0_pl hl
    have hsm : SmA (s0 l) m := hs.kn.sm1 (by omega) hm z1 z2
    have hz := stepA_z (s := s0 l) (m := m)
    have lcs := hs.len
    have lpa : (playA l).1.pa.length ≤ 1000000000 := by have := (playA_pl hl).kn.pl.pa; omega
    have lp2 : (stepA (s0 l) m).2.1.pa.length ≤ 1000 := by have := stepA_f.pa (s0 l) m; have := hs.kn.pl.pa; omega
    ((conv => whnf) <;> repeat (refine obl_ ?_; conv => whnf))
    refine LoopP.introR (cx_ok (cl_ok hL hg)) mixed_ok (ι := Nat × List Pa) (fun k => ⟨[(12, .one (.v (.int .i64 (k.1 : Int)))), (11, .one (.v (.bool true))), (10, .one (.v (.int .i64 (stepA (s0 l) m).1))), (8, .one (.ptr 18 0)), (7, .one (.ptr 17 0)), (5, .one (.ptr 15 0)), (4, .one (.v (.bool false)))], [(18, 28, stockN (stepA (s0 l) m).2.1 45), (17, 28, stockN (s0 l) 40), (15, 28, stockN (s0 l) 33)], [(33, some ⟨.pa, (playA l).1.pa, true⟩), (40, some ⟨.pa, (playA l).1.pa, true⟩), (45, some ⟨.pa, k.2, true⟩)]⟩) (fun k => k.1 ≤ k.2.length ∧ k.2.length = (stepA (s0 l) m).2.1.pa.length) (fun k => k.2.length - k.1) (0, (stepA (s0 l) m).2.1.pa) ⟨Nat.zero_le _, rfl⟩ ⟨[], by (refine ⟨?_, ?_, ?_, by kernel_rfl⟩ <;> repeat' (first | exact trivial | exact rfl | assumption | apply And.intro))⟩ ?_
    rintro ⟨j, ys⟩ ⟨hj, hy⟩
    simp only at hj hy
    ((conv => whnf) <;> repeat (refine obl_ ?_; conv => whnf))
    refine cond_ (fun h => ?_) (fun h => ?_)
    · have hjl : j < ys.length := by have := of_decide_eq_true h; simp only at this; omega
      have j1 : 0 ≤ (j : Int) := by omega
      have j2 : (j : Int) < (ys.length : Int) := by omega
      ((conv => whnf) <;> repeat (refine obl_ ?_; conv => whnf))
      refine ⟨(j + 1, ys.set j { ys.getD j zPa with used := wr ((ys.getD j zPa).used + 1) }), ⟨by simp only [List.length_set]; omega, by simp only [List.length_set]; omega⟩, by simp only [List.length_set]; omega, [], ?_⟩
      (refine ⟨?_, ?_, ?_, by kernel_rfl⟩ <;> repeat' (first | exact trivial | exact rfl | assumption | apply And.intro))
      exact up_ (by omega)
    ((conv => whnf) <;> repeat (refine obl_ ?_; conv => whnf))
    refine cond_ (fun he => ?_) (fun he => ?_)
    · have h0 : (stepA (s0 l) m).1 ≠ 0 := bne_iff_ne.1 he
      have hc := (hz h0).1
      have c1 : (stepA (s0 l) m).2.1.q = 0 := by rw [hc]; rfl
      have c2 : (stepA (s0 l) m).2.1.v = 0 := by rw [hc]; rfl
      have c3 : (ys.length : Int) = 0 := by rw [hy, hc]; rfl
      ((conv => whnf) <;> repeat (refine obl_ ?_; conv => whnf))
      refine cond_ (fun h => (bne_no h c1).elim) (fun _ => ?_)
      ((conv => whnf) <;> repeat (refine obl_ ?_; conv => whnf))
      refine cond_ (fun h => (bne_no h c2).elim) (fun _ => ?_)
      ((conv => whnf) <;> repeat (refine obl_ ?_; conv => whnf))
      refine cond_ (fun h => (bne_no h c3).elim) (fun _ => ?_)
      ((conv => whnf) <;> repeat (refine obl_ ?_; conv => whnf))
      exact rfl
    ((conv => whnf) <;> repeat (refine obl_ ?_; conv => whnf))
    exact rfl
  · rintro e w1 ⟨x, v, A1, ρ1, a1, rfl, hv, rfl, hS1, _⟩
    exact ⟨by rw [show x = _ from hv], hS1.rel.bel⟩
end Go.Proofs.YticcaknflnldgaaDoor.Ff
