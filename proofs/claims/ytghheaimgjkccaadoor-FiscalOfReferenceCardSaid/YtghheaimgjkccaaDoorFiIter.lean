/- The iterator of a range over a string, at any address: what 'next' answers and which block changes; no condition but that the iterator lies there. -/
import Derived.Test.YtghheaimgjkccaaDoorProg
import Derived.Laws.RangeString
import Derived.Below
import Derived.Lib.SlBytesConst
import Derived.Laws.BytesArg
import Derived.LoopN
import Derived.IntWalk
import Derived.RegionTactic
namespace Go.Proofs.YtghheaimgjkccaaDoor.Fi
open Go Go.RowKit
set_option linter.unusedVariables false
set_option linter.unusedSimpArgs false

/-- The world with the iterator at block b set to position p. -/
def itW (W : World) (b : Nat) (s : ByteArray) (p : Nat) : World := { W with heap := W.heap.setIfInBounds b (.stringIter s p) }
theorem itW_same {W : World} {b : Nat} {s : ByteArray} {p : Nat} (h : b < W.heap.size) : (itW W b s p).heap[b]? = some (.stringIter s p) := by
  unfold itW; simp [h]
theorem itW_other {W : World} {b : Nat} {s : ByteArray} {p i : Nat} (hi : i ≠ b) : (itW W b s p).heap[i]? = W.heap[i]? := by
  unfold itW; simp [Array.getElem?_setIfInBounds, Ne.symm hi]
theorem itW_below {w W : World} {b : Nat} {s : ByteArray} {p : Nat} (hw : w.heap.size ≤ b) (hB : Below w.heap.size w W) : Below w.heap.size w (itW W b s p) :=
  ⟨hB.os, hB.tape, hB.output, by unfold itW; simpa using hB.size, fun k hk => (itW_other (by omega)).trans (hB.block k hk)⟩
theorem iter_next {P : Program} {W : World} {b pos : Nat} {s : ByteArray} (hb : W.heap[b]? = some (.stringIter s pos)) (h : pos < s.size) :
    ∀ (ty : TypeId), (Instr.next (.pointer (some ⟨b, 0, none⟩)) true ty).run P W = .ok (.tuple #[.bool true, .int .i64 pos, .int .i32 (Utf8.decode s pos).1]) (itW W b s (pos + (Utf8.decode s pos).2)) := by
  intro ty
  simp only [Instr.next, getObj, setObj, Sem.run_bind, Sem.run, hb, Result.andThen, h, if_true, itW]
  simp [goInt, Sem.run, hb]
theorem iter_end {P : Program} {W : World} {b pos : Nat} {s : ByteArray} (hb : W.heap[b]? = some (.stringIter s pos)) (h : ¬ pos < s.size) :
    ∀ (ty : TypeId), (Instr.next (.pointer (some ⟨b, 0, none⟩)) true ty).run P W = .ok (.tuple #[.bool false]) W := by
  intro ty
  simp [Instr.next, getObj, Sem.run, hb, h]
/-! A row that bears a conversion's mark behind its last cell. -/
theorem bm_cell {w : World} {g : Nat} {t : TypeId} {cs : Array Value} {fr : Nat × Nat} (h : w.heap[g]? = some (.cells cs t fr)) (i : Nat) : w.cell? ⟨g, i, none⟩ = cs[i]? := cell_of_row w g i cs t fr h
theorem bm_frozen {w : World} {g : Nat} {t : TypeId} {cs : Array Value} {n : Nat} (h : w.heap[g]? = some (.cells cs t (n, n + 1))) (i : Nat) (hi : i < n) : w.frozen? ⟨g, i, none⟩ = false := by
  simp [World.frozen?, h]; omega
theorem bm_put {w : World} {g : Nat} {t : TypeId} {cs cs' : Array Value} {fr : Nat × Nat} (h : w.heap[g]? = some (.cells cs t fr)) (i : Nat) (u : Value) (e : cs.setIfInBounds i u = cs') : (w.setCell ⟨g, i, none⟩ u).heap[g]? = some (.cells cs' t fr) := by
  subst e; simp [World.setCell, Array.getElem?_modify, h]
/-- A digit's byte. -/
def dgB_ (x : Int) : UInt8 := UInt8.ofNat (48 + x).toNat
def ptxt_ (y n : Int) : ByteArray := ⟨#[dgB_ (y / 1000), dgB_ (y / 100 % 10), dgB_ (y / 10 % 10), dgB_ (y % 10), 45, dgB_ (n / 10), dgB_ (n % 10)]⟩
theorem txa_ (d3 d2 d1 d0 n1 n0 : Int) : (⟨#[dgB_ d3, dgB_ d2, dgB_ d1, dgB_ d0, 45, dgB_ n1, dgB_ n0]⟩ : ByteArray) = strOfNums [48 + d3, 48 + d2, 48 + d1, 48 + d0, 45, 48 + n1, 48 + n0] := by
  unfold strOfNums dgB_
  simp only [List.map_cons, List.map_nil]
  rfl
theorem catT_ (a b c d e f g : UInt8) : ((⟨#[a]⟩ : ByteArray) ++ (⟨#[b]⟩ ++ (⟨#[c]⟩ ++ (⟨#[d]⟩ ++ ⟨#[]⟩))) ++ ⟨#[e]⟩ ++ ⟨#[f]⟩ ++ ⟨#[g]⟩ : ByteArray) = ⟨#[a, b, c, d, e, f, g]⟩ := by
  apply ByteArray.ext
  simp [ByteArray.data_append]
/-- Two periods compared. -/
def pcmp_ (y1 n1 y2 n2 : Int) : Int := if y1 = y2 then (if n1 = n2 then 0 else if n1 < n2 then -1 else 1) else if y1 < y2 then -1 else 1
theorem fparse_bad_ {a b c r1 r2 r3 : Int} (h : (some (a, b, c) : Option (Int × Int × Int)) = some (r1, r2, r3)) : r1 = a ∧ r2 = b ∧ r3 = c := by simp at h; exact ⟨h.1.symm, h.2.1.symm, h.2.2.symm⟩
end Go.Proofs.YtghheaimgjkccaaDoor.Fi
