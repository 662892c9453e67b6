/- What is laid when the call begins: the table days.lengths, as its twelve cells; how it stays; and what the row's own condition gives. No condition but that. -/
import Derived.Test.YticcaknflnldgaaDoorRows
import Derived.Test.YticcaknflnldgaaDoorWWords
import Derived.Test.YticcaknflnldgaaDoorWLast
import Derived.ProofKit
import Derived.LaidMore
import Derived.OpenShut
import Derived.Stop.Joined
namespace Go.Proofs.YticcaknflnldgaaDoor
open Go.ChangeShapes Go.WideShapes Go.ChangeAt Go.RowKit Go.Proofs.YticcaknflnldgaaDoorW.PrintWords
set_option linter.unusedVariables false
set_option maxRecDepth 100000
set_option linter.unusedSimpArgs false

/-- The table's numbers. -/
def lens (j : Nat) : Int := [31, 28, 31, 30, 31, 30, 31, 31, 30, 31, 30, 31].getD j 0
def Laid (w : World) : Prop := ∀ j : Nat, j < 12 → w.cell? ⟨0, j, none⟩ = some (.int .i64 (lens j))
theorem Laid.below {w w1 : World} (h : Laid w) (hb : Below w.heap.size w w1) : Laid w1 := fun j hj => pw_cell_below hb (h j hj)
theorem Laid.drewN {w : World} {n : Nat} (h : Laid w) : Laid (w.drewN n) := h.below (pw_below_drewN (Below.refl _ _) n)
theorem Laid.drew {w : World} (h : Laid w) : Laid w.drew := h.below (below_drew (Below.refl _ _))
theorem Laid.alloc {w : World} (h : Laid w) (o : Obj) : Laid (w.alloc o) := h.below (below_alloc (Below.refl _ _) o)

def Laid.steps : Nat := 400
def laidList : List (String × DataW Unit) := [("accounting/days.lengths", Rows.laid_accounting_days_lengths)]
theorem gLen : Tryd.prog.globalNamed "accounting/days.lengths" = some 0 := by kernel_rfl
theorem tLen : (Tryd.prog.globals[0]?).map (·.type) = some 95 := by kernel_rfl

/-- The door's own heap meets the condition: three closed facts. -/
theorem Laid.door_met (os : Os) (args : Array Value) : laidMetH Tryd.prog laidList ((World.doorLaid Tryd.prog Laid.steps os).forCall (fun _ _ => 0) ⟨#[], args, []⟩).memory :=
  laidMetH_of_parts3 (fuel := 8) (laidMet_of_run' 8 (by kernel_rfl) (by kernel_rfl)) (by kernel_rfl) (by kernel_rfl)

theorem Laid.of_laid {W : World} (h : laidMetH Tryd.prog laidList W) : Laid W := by
  rw [MakeChecks.laidMetH_plain _ _ _ (by kernel_rfl)] at h
  obtain ⟨ps, ⟨g0, t0, cs0, f0, p0, q0, hg0, ht0, hv0, hd0, _, _⟩, _, _⟩ := h
  obtain rfl := Option.some.inj (gLen.symm.trans hg0)
  obtain rfl := Option.some.inj (tLen.symm.trans ht0)
  obtain ⟨xs, m1, rfl, hx1, hlen, hn3, hel⟩ := DataW.trod_array Tryd.underlying95 hd0
  have c3 : Tryd.prog.cellsOf 3 = 1 := by kernel_rfl
  have c24 : Tryd.prog.cellsOf 95 = 12 := by kernel_rfl
  simp only [Prod.mk.injEq, Rows.laid_accounting_days_lengths, DataW.agg.injEq] at hx1
  intro j hj
  obtain ⟨x, hx⟩ : ∃ x, xs[j]? = some x := ⟨_, List.getElem?_eq_getElem (by omega)⟩
  have g := (hel j hj).trans hx
  rw [c3, Nat.mul_one] at g
  obtain ⟨k, e1, e2, _⟩ := DataW.trod_int Tryd.underlying3 g
  have h1 : cs0.toList[j]? = some (.int .i64 k) := by
    have := congrArg (fun l => l[0]?) e1
    simpa using this
  have h2 : (xs.map (fun x => x.1))[j]? = some (.lit (.int .i64 k)) := by rw [List.getElem?_map, hx, e2]; rfl
  rw [← hx1.1] at h2
  have h3 : ∀ (j : Nat), j < 12 → ([.lit (.int .i64 31), .lit (.int .i64 28), .lit (.int .i64 31), .lit (.int .i64 30), .lit (.int .i64 31), .lit (.int .i64 30), .lit (.int .i64 31), .lit (.int .i64 31), .lit (.int .i64 30), .lit (.int .i64 31), .lit (.int .i64 30), .lit (.int .i64 31)] : List (DataW Unit))[j]? = some (.lit (.int .i64 (lens j))) := fun j hj =>
    match j, hj with
    | 0, _ => rfl | 1, _ => rfl | 2, _ => rfl | 3, _ => rfl | 4, _ => rfl | 5, _ => rfl | 6, _ => rfl | 7, _ => rfl | 8, _ => rfl | 9, _ => rfl | 10, _ => rfl | 11, _ => rfl
    | n + 12, h => absurd h (by omega)
  rw [h3 j hj] at h2
  have hk : lens j = k := by
    injection h2 with h2; injection h2 with h2; injection h2
  have h4 := World.var?_cell hg0 hv0 j
  rw [← Array.getElem?_toList, h1, ← hk] at h4
  exact h4
end Go.Proofs.YticcaknflnldgaaDoor
