/- The executor and what hangs on it, merged (FgB, LuJ): a verified abstract run of code over memory, and the walks by it; each theorem names its conditions. -/
import Derived.Test.YtcjdkaigimcofaaDoorX2
/- What a row's data say of a stock. No condition. -/
namespace Go.Proofs.YtcjdkaigimcofaaDoor.Ff
open Go.RowKit Go.ChangeShapes Go.WideShapes Go.ChangeMaps Go.Proofs.YtcjdkaigimcofaaDoorW.PrintWords Go.Proofs.YtcjdkaigimcofaaDoor.Ex
set_option linter.unusedVariables false
set_option linter.unusedSimpArgs false
set_option maxRecDepth 100000 in
theorem open_la {H : Type} {enc : TypeId × Value → H} {W : World} {fuel : Nat} {cs : List Value} {y : DataW H × List MemPlace} (h : DataW.trod enc Tryd.prog W 0 (fun _ => true) true fuel 40 cs = some y) : ∃ x : La, cs = laC x ∧ LaI x := by
  obtain ⟨xs, n, _, rfl, hl, hlen, hf⟩ := DataW.trod_struct Tryd.underlying40 h
  rw [show Tryd.prog.cellsOf 40 = 4 by kernel_rfl] at hl
  match cs, hl with
  | [c0, c1, c2, c3], _ =>
  match xs, hlen with
  | [x0, x1, x2, x3], _ =>
  have z3 : Tryd.prog.cellsOf 3 = 1 := by kernel_rfl
  have z9 : Tryd.prog.cellsOf 9 = 1 := by kernel_rfl
  have f0 : DataW.trod enc Tryd.prog W 0 (fun _ => true) true n 3 [c0] = some x0 := by
    have h_ : DataW.trod enc Tryd.prog W 0 (fun _ => true) true n 3 (([c0, c1, c2, c3].drop 0).take (Tryd.prog.cellsOf 3)) = some x0 := hf 0 _ rfl
    rw [z3] at h_
    exact h_
  have f1 : DataW.trod enc Tryd.prog W 0 (fun _ => true) true n 9 [c1] = some x1 := by
    have h_ : DataW.trod enc Tryd.prog W 0 (fun _ => true) true n 9 (([c0, c1, c2, c3].drop 1).take (Tryd.prog.cellsOf 9)) = some x1 := hf 1 _ rfl
    rw [z9] at h_
    exact h_
  have f2 : DataW.trod enc Tryd.prog W 0 (fun _ => true) true n 3 [c2] = some x2 := by
    have h_ : DataW.trod enc Tryd.prog W 0 (fun _ => true) true n 3 (([c0, c1, c2, c3].drop 2).take (Tryd.prog.cellsOf 3)) = some x2 := hf 2 _ rfl
    rw [z3] at h_
    exact h_
  have f3 : DataW.trod enc Tryd.prog W 0 (fun _ => true) true n 3 [c3] = some x3 := by
    have h_ : DataW.trod enc Tryd.prog W 0 (fun _ => true) true n 3 (([c0, c1, c2, c3].drop 3).take (Tryd.prog.cellsOf 3)) = some x3 := hf 3 _ rfl
    rw [z3] at h_
    exact h_
  obtain ⟨v0, e0, rfl, w0⟩ := DataW.trod_int Tryd.underlying3 f0
  obtain ⟨v1, e1, rfl, w1⟩ := DataW.trod_string Tryd.underlying9 f1
  obtain ⟨v2, e2, rfl, w2⟩ := DataW.trod_int Tryd.underlying3 f2
  obtain ⟨v3, e3, rfl, w3⟩ := DataW.trod_int Tryd.underlying3 f3
  simp only [List.cons.injEq, and_true] at e0 e1 e2 e3
  subst e0 e1 e2 e3
  exact ⟨⟨v0, v1, v2, v3⟩, rfl, bounds_i64 w0, bounds_i64 w2, bounds_i64 w3⟩
set_option maxRecDepth 100000 in
theorem open_pa {H : Type} {enc : TypeId × Value → H} {W : World} {fuel : Nat} {cs : List Value} {y : DataW H × List MemPlace} (h : DataW.trod enc Tryd.prog W 0 (fun _ => true) true fuel 50 cs = some y) : ∃ x : Pa, cs = paC x ∧ PaI x := by
  obtain ⟨xs, n, _, rfl, hl, hlen, hf⟩ := DataW.trod_struct Tryd.underlying50 h
  rw [show Tryd.prog.cellsOf 50 = 7 by kernel_rfl] at hl
  match cs, hl with
  | [c0, c1, c2, c3, c4, c5, c6], _ =>
  match xs, hlen with
  | [x0, x1, x2, x3, x4, x5, x6], _ =>
  have z3 : Tryd.prog.cellsOf 3 = 1 := by kernel_rfl
  have z9 : Tryd.prog.cellsOf 9 = 1 := by kernel_rfl
  have f0 : DataW.trod enc Tryd.prog W 0 (fun _ => true) true n 3 [c0] = some x0 := by
    have h_ : DataW.trod enc Tryd.prog W 0 (fun _ => true) true n 3 (([c0, c1, c2, c3, c4, c5, c6].drop 0).take (Tryd.prog.cellsOf 3)) = some x0 := hf 0 _ rfl
    rw [z3] at h_
    exact h_
  have f1 : DataW.trod enc Tryd.prog W 0 (fun _ => true) true n 3 [c1] = some x1 := by
    have h_ : DataW.trod enc Tryd.prog W 0 (fun _ => true) true n 3 (([c0, c1, c2, c3, c4, c5, c6].drop 1).take (Tryd.prog.cellsOf 3)) = some x1 := hf 1 _ rfl
    rw [z3] at h_
    exact h_
  have f2 : DataW.trod enc Tryd.prog W 0 (fun _ => true) true n 9 [c2] = some x2 := by
    have h_ : DataW.trod enc Tryd.prog W 0 (fun _ => true) true n 9 (([c0, c1, c2, c3, c4, c5, c6].drop 2).take (Tryd.prog.cellsOf 9)) = some x2 := hf 2 _ rfl
    rw [z9] at h_
    exact h_
  have f3 : DataW.trod enc Tryd.prog W 0 (fun _ => true) true n 3 [c3] = some x3 := by
    have h_ : DataW.trod enc Tryd.prog W 0 (fun _ => true) true n 3 (([c0, c1, c2, c3, c4, c5, c6].drop 3).take (Tryd.prog.cellsOf 3)) = some x3 := hf 3 _ rfl
    rw [z3] at h_
    exact h_
  have f4 : DataW.trod enc Tryd.prog W 0 (fun _ => true) true n 3 [c4] = some x4 := by
    have h_ : DataW.trod enc Tryd.prog W 0 (fun _ => true) true n 3 (([c0, c1, c2, c3, c4, c5, c6].drop 4).take (Tryd.prog.cellsOf 3)) = some x4 := hf 4 _ rfl
    rw [z3] at h_
    exact h_
  have f5 : DataW.trod enc Tryd.prog W 0 (fun _ => true) true n 3 [c5] = some x5 := by
    have h_ : DataW.trod enc Tryd.prog W 0 (fun _ => true) true n 3 (([c0, c1, c2, c3, c4, c5, c6].drop 5).take (Tryd.prog.cellsOf 3)) = some x5 := hf 5 _ rfl
    rw [z3] at h_
    exact h_
  have f6 : DataW.trod enc Tryd.prog W 0 (fun _ => true) true n 3 [c6] = some x6 := by
    have h_ : DataW.trod enc Tryd.prog W 0 (fun _ => true) true n 3 (([c0, c1, c2, c3, c4, c5, c6].drop 6).take (Tryd.prog.cellsOf 3)) = some x6 := hf 6 _ rfl
    rw [z3] at h_
    exact h_
  obtain ⟨v0, e0, rfl, w0⟩ := DataW.trod_int Tryd.underlying3 f0
  obtain ⟨v1, e1, rfl, w1⟩ := DataW.trod_int Tryd.underlying3 f1
  obtain ⟨v2, e2, rfl, w2⟩ := DataW.trod_string Tryd.underlying9 f2
  obtain ⟨v3, e3, rfl, w3⟩ := DataW.trod_int Tryd.underlying3 f3
  obtain ⟨v4, e4, rfl, w4⟩ := DataW.trod_int Tryd.underlying3 f4
  obtain ⟨v5, e5, rfl, w5⟩ := DataW.trod_int Tryd.underlying3 f5
  obtain ⟨v6, e6, rfl, w6⟩ := DataW.trod_int Tryd.underlying3 f6
  simp only [List.cons.injEq, and_true] at e0 e1 e2 e3 e4 e5 e6
  subst e0 e1 e2 e3 e4 e5 e6
  exact ⟨⟨v0, v1, v2, v3, v4, v5, v6⟩, rfl, bounds_i64 w0, bounds_i64 w1, bounds_i64 w3, bounds_i64 w4, bounds_i64 w5, bounds_i64 w6⟩
theorem open_row {rk : RK} {t T : TypeId} {pr : rk.El → Prop} {H : Type} {enc : TypeId × Value → H} {W : World} {fuel : Nat} {cs : List Value} {x : DataW H × List MemPlace} (hu : Tryd.prog.underlying T = some (.slice t)) (hc : Tryd.prog.cellsOf t = rk.fk.sz) (hsz : 0 < rk.fk.sz)
    (ho : ∀ {fuel : Nat} {cs : List Value} {y : DataW H × List MemPlace}, DataW.trod enc Tryd.prog W 0 (fun _ => true) true fuel t cs = some y → ∃ x : rk.El, cs = rk.fk.enc x ∧ pr x) (h : DataW.trod enc Tryd.prog W 0 (fun _ => true) true fuel T cs = some x) :
    ∃ (A : Option Addr) (cap : Nat) (l : List rk.El), cs = [.slice A l.length cap] ∧ Src W (.slice A l.length cap) rk l ∧ ∀ x ∈ l, pr x := by
  rcases DataW.trod_slice hu h with ⟨rfl, rfl⟩ | ⟨a, len, cap, elems, rest, n, _, rfl, rfl, hb, hl, hm, hlen, hel, hsp, hns⟩
  · exact ⟨none, 0, [], rfl, src_nil W rk, fun m hm => absurd hm List.not_mem_nil⟩
  rw [hc] at hel
  have each : ∀ i : Fin len, ∃ m : rk.El, W.cells? 0 (a.add (i.1 * rk.fk.sz)) rk.fk.sz = some (rk.fk.enc m) ∧ pr m := by
    intro i
    have hi := i.2
    have h1 := hel i.1 hi
    have hi2 : i.1 < elems.length := by omega
    rw [List.getElem?_eq_getElem hi2, Option.bind_eq_some_iff] at h1
    obtain ⟨cs', hcs, hy⟩ := h1
    obtain ⟨m, rfl, hw⟩ := ho hy
    exact ⟨m, hcs, hw⟩
  obtain ⟨f, hf⟩ := Classical.axiomOfChoice each
  have hof : ∀ m ∈ List.ofFn f, ∃ i, f i = m := fun m hm => by simpa [List.mem_ofFn] using hm
  refine ⟨some a, cap, List.ofFn f, by simp, ?_, ?_⟩
  · refine src_of (rk := rk) (by simpa using hl) (by simp only [List.length_ofFn]; simp only [maxLen] at hm; omega) hsz (fun i hi => ?_)
    rw [List.length_ofFn] at hi
    have e : (List.ofFn f).getD i rk.fk.dft = f ⟨i, hi⟩ := by rw [List.getD_eq_getElem?_getD, List.getElem?_eq_getElem (by simpa using hi)]; simp
    exact (hf ⟨i, hi⟩).1.trans (congrArg (fun m => some (rk.fk.enc m)) e.symm)
  · intro m hm
    obtain ⟨i, rfl⟩ := hof m hm
    exact (hf i).2
set_option maxRecDepth 100000 in
theorem open_stock {H : Type} {enc : TypeId × Value → H} {W : World} {fuel : Nat} {cs : List Value} {y : DataW H × List MemPlace} (h : DataW.trod enc Tryd.prog W 0 (fun _ => true) true fuel 26 cs = some y) :
    ∃ (s : St) (LV PV : Value), cs = [.int .i64 s.q, .int .i64 s.v, .int .i64 s.pr, LV, PV] ∧ Src W LV .la s.la ∧ Src W PV .pa s.pa ∧ StI s := by
  obtain ⟨xs, n, _, rfl, hl, hlen, hf⟩ := DataW.trod_struct Tryd.underlying26 h
  rw [show Tryd.prog.cellsOf 26 = 5 by kernel_rfl] at hl
  match cs, hl with
  | [c0, c1, c2, c3, c4], _ =>
  match xs, hlen with
  | [x0, x1, x2, x3, x4], _ =>
  have z3 : Tryd.prog.cellsOf 3 = 1 := by kernel_rfl
  have zl : Tryd.prog.cellsOf 23 = 1 := by kernel_rfl
  have zp : Tryd.prog.cellsOf 24 = 1 := by kernel_rfl
  have f0 : DataW.trod enc Tryd.prog W 0 (fun _ => true) true n 3 [c0] = some x0 := by
    have h_ : DataW.trod enc Tryd.prog W 0 (fun _ => true) true n 3 (([c0, c1, c2, c3, c4].drop 0).take (Tryd.prog.cellsOf 3)) = some x0 := hf 0 _ rfl
    rw [z3] at h_
    exact h_
  have f1 : DataW.trod enc Tryd.prog W 0 (fun _ => true) true n 3 [c1] = some x1 := by
    have h_ : DataW.trod enc Tryd.prog W 0 (fun _ => true) true n 3 (([c0, c1, c2, c3, c4].drop 1).take (Tryd.prog.cellsOf 3)) = some x1 := hf 1 _ rfl
    rw [z3] at h_
    exact h_
  have f2 : DataW.trod enc Tryd.prog W 0 (fun _ => true) true n 3 [c2] = some x2 := by
    have h_ : DataW.trod enc Tryd.prog W 0 (fun _ => true) true n 3 (([c0, c1, c2, c3, c4].drop 2).take (Tryd.prog.cellsOf 3)) = some x2 := hf 2 _ rfl
    rw [z3] at h_
    exact h_
  have f3 : DataW.trod enc Tryd.prog W 0 (fun _ => true) true n 23 [c3] = some x3 := by
    have h_ : DataW.trod enc Tryd.prog W 0 (fun _ => true) true n 23 (([c0, c1, c2, c3, c4].drop 3).take (Tryd.prog.cellsOf 23)) = some x3 := hf 3 _ rfl
    rw [zl] at h_
    exact h_
  have f4 : DataW.trod enc Tryd.prog W 0 (fun _ => true) true n 24 [c4] = some x4 := by
    have h_ : DataW.trod enc Tryd.prog W 0 (fun _ => true) true n 24 (([c0, c1, c2, c3, c4].drop 4).take (Tryd.prog.cellsOf 24)) = some x4 := hf 4 _ rfl
    rw [zp] at h_
    exact h_
  obtain ⟨v0, e0, rfl, w0⟩ := DataW.trod_int Tryd.underlying3 f0
  obtain ⟨v1, e1, rfl, w1⟩ := DataW.trod_int Tryd.underlying3 f1
  obtain ⟨v2, e2, rfl, w2⟩ := DataW.trod_int Tryd.underlying3 f2
  obtain ⟨A3, cap3, la, e3, s3, i3⟩ := open_row (rk := .la) (pr := LaI) Tryd.underlying23 (by kernel_rfl) (by decide) (fun h => open_la h) f3
  obtain ⟨A4, cap4, pa, e4, s4, i4⟩ := open_row (rk := .pa) (pr := PaI) Tryd.underlying24 (by kernel_rfl) (by decide) (fun h => open_pa h) f4
  simp only [List.cons.injEq, and_true] at e0 e1 e2 e3 e4
  subst e0 e1 e2 e3 e4
  exact ⟨⟨v0, v1, v2, la, pa⟩, _, _, rfl, s3, s4, ⟨bounds_i64 w0, bounds_i64 w1, i3, i4⟩⟩
end Go.Proofs.YtcjdkaigimcofaaDoor.Ff

/- The law LotsAny, walked. No condition but 64 bits. -/
namespace Go.Proofs.YtcjdkaigimcofaaDoor.Ff
open Go.RowKit Go.Proofs.YtcjdkaigimcofaaDoorW.PrintWords Go.Proofs.YtcjdkaigimcofaaDoor.Ex
set_option linter.unusedVariables false
set_option linter.unusedSimpArgs false
set_option maxRecDepth 100000
theorem LotsAny_calls {W : World} {LV PV : Value} {s : St} {m : Mv} (hL : Laid W) (h1 : Src W LV .la s.la) (h2 : Src W PV .pa s.pa) (hs : StI s) (hm : MvI m) (z1 : m.item.size ≤ 140737488351232) (z2 : m.lot.size ≤ 140737488351232) :
    Calls Tryd.prog 9 #[.agg #[.int .i64 s.q, .int .i64 s.v, .int .i64 s.pr, LV, PV], .agg (mvC m).toArray] W fun e w1 => e = .returned (.bool true) ∧ Below W.heap.size W w1 := by
  obtain ⟨ρ, e1, e2, hS⟩ := start2 h1 h2
  have hg : ∀ i, ¬ (gW W).S i := fun i h => h
  refine (calls_awp (f := 9) (vs := [.agg #[.int .i64 s.q, .int .i64 s.v, .int .i64 s.pr, LV, PV], .agg (mvC m).toArray]) (cx_ok (C := CL) (nt := 19) (cl_ok hL hg)) mixed_ok Tryd.func9 rfl rfl hS (avs := [.agg [.v (.int .i64 s.q), .v (.int .i64 s.v), .v (.int .i64 s.pr), .row 0, .row 1], .agg (mvL m)])
    (fun ρ' h => ⟨⟨_, rfl, rfl, rfl, rfl, row_rel h (by simp [findR]) e1 h1, row_rel h (by simp [findR]) e2 h2, trivial⟩, mvL_args m ρ', trivial⟩) (le_of_ble (by kernel_rfl)) (K := fun x A => x = .one (.v (.bool true))) ?_).mono ?_
  · unfold mvL
    ((conv => whnf) <;> repeat (refine obl_ ?_; conv => whnf))
    refine cond_ (fun h => ?_) (fun h => ?_)
    · ((conv => whnf) <;> repeat (refine obl_ ?_; conv => whnf))
      exact rfl
    have x1 : ¬ (100 : Int) < s.la.length := of_decide_eq_false h
    ((conv => whnf) <;> repeat (refine obl_ ?_; conv => whnf))
    refine cond_ (fun h => ?_) (fun h => ?_)
    · ((conv => whnf) <;> repeat (refine obl_ ?_; conv => whnf))
      exact rfl
    have x2 : ¬ (100 : Int) < s.pa.length := of_decide_eq_false h
    have hsm : SmI s m := ⟨by omega, by omega, z1, z2, hs, hm⟩
    ((conv => whnf) <;> repeat (refine obl_ ?_; conv => whnf))
    exact rfl
  · rintro e w1 ⟨x, v, A1, ρ1, a1, rfl, hv, rfl, hS1, _⟩
    exact ⟨by rw [show x = _ from hv], hS1.rel.bel⟩
end Go.Proofs.YtcjdkaigimcofaaDoor.Ff
