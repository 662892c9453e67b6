/-
  No cell of these rows narrows 'for every input' (looked for: loops, veiled, ifaces, maps, wideKeys, modest, calm, conditions, laid).
  DERIVED. THE GIVEN ROWS OF THIS SEAT. 7 by the template 'for every input the law returns true; each argument reads behind the call as it read before'; 0 by the template 'total and deterministic' (their statements: YtmmokegelmgdeaaTotals.lean).
  GIVEN WITH THE SEED: the statements are not yours to turn. If you find one false, say at which input.
  Laid BY PROGRAM, IN A SANDBOX (cutbox-rows.mjs): the forced cells as the released guide's own fill.sh prints them over the translation 196435e454810357… (all of the seat's roots in one cut). By AI agents, Wed Nov 11 2026. No macro, syntax, notation, axiom, sorry.
-/
import Derived.Test.YtmmokegelmgdeaaChecked
import GoSem.Claim
import GoSem.ClaimJoined
import GoSem.ClaimMapViews
import Derived.JoinedTies
import Derived.KernelRfl
namespace Go.Proofs.Ytmmokegelmgdeaa
/- THE CELL 'sum', in the pinned program and in every row, IS THE sha256 OF THE DUMP (.gsa) THAT YtmmokegelmgdeaaProg.lean LOADS. Nothing in Lean hashes anything: it is a label: what it is worth is what the hold of that sum in a sandbox is worth. -/
noncomputable def Try.pinned : Pinned := { name := "ytmmokegelmgdeaa", sum := "196435e4548103570944e9d4b9b4d2b0691d02f2cc3afe58d93863ca46927380", checked := Try.checked }
namespace Rows
def none {H : Type} : Left H := { results := [], args := [] }

/-- 'accountinglaw02.MuldivReference': WHATEVER THE INPUT: true; the input reads as it did. -/
def muldivReferenceSpec : ChangeSpec := { name := "muldivReference", fn := fun _ => fun
  | [d] => { results := [.lit (.bool true)], args := [d] }
  | _ => none }
def muldivReferenceRow : OpenClaim := { program := "ytmmokegelmgdeaa", sum := "196435e4548103570944e9d4b9b4d2b0691d02f2cc3afe58d93863ca46927380", func := "accounting/accountinglaw02.MuldivReference", spec := "muldivReference", apart := false }
def MuldivReferenceSaid : Prop := muldivReferenceRow.holds Try.pinned (OpenSpec.ofChange muldivReferenceSpec)

/-- ITS FALSE NEIGHBOUR: 'it returns false'. Refute it at one input. -/
def muldivReferenceWrong : ChangeSpec := { name := "muldivReference", fn := fun _ => fun
  | [d] => { results := [.lit (.bool false)], args := [d] }
  | _ => none }
def MuldivReferenceWrongFalsely : Prop := muldivReferenceRow.holds Try.pinned (OpenSpec.ofChange muldivReferenceWrong)

/-- 'accountinglaw02.MuldivCompares': WHATEVER THE INPUT: true; the input reads as it did. -/
def muldivComparesSpec : ChangeSpec := { name := "muldivCompares", fn := fun _ => fun
  | [d] => { results := [.lit (.bool true)], args := [d] }
  | _ => none }
def muldivComparesRow : OpenClaim := { program := "ytmmokegelmgdeaa", sum := "196435e4548103570944e9d4b9b4d2b0691d02f2cc3afe58d93863ca46927380", func := "accounting/accountinglaw02.MuldivCompares", spec := "muldivCompares", apart := false }
def MuldivComparesSaid : Prop := muldivComparesRow.holds Try.pinned (OpenSpec.ofChange muldivComparesSpec)

/-- ITS FALSE NEIGHBOUR: 'it returns false'. Refute it at one input. -/
def muldivComparesWrong : ChangeSpec := { name := "muldivCompares", fn := fun _ => fun
  | [d] => { results := [.lit (.bool false)], args := [d] }
  | _ => none }
def MuldivComparesWrongFalsely : Prop := muldivComparesRow.holds Try.pinned (OpenSpec.ofChange muldivComparesWrong)

/-- 'accountinglaw02.MuldivDivides': WHATEVER THE INPUT: true; the input reads as it did. -/
def muldivDividesSpec : ChangeSpec := { name := "muldivDivides", fn := fun _ => fun
  | [d1, d2, d3] => { results := [.lit (.bool true)], args := [d1, d2, d3] }
  | _ => none }
def muldivDividesRow : OpenClaim := { program := "ytmmokegelmgdeaa", sum := "196435e4548103570944e9d4b9b4d2b0691d02f2cc3afe58d93863ca46927380", func := "accounting/accountinglaw02.MuldivDivides", spec := "muldivDivides", apart := false }
def MuldivDividesSaid : Prop := muldivDividesRow.holds Try.pinned (OpenSpec.ofChange muldivDividesSpec)

/-- ITS FALSE NEIGHBOUR: 'it returns false'. Refute it at one input. -/
def muldivDividesWrong : ChangeSpec := { name := "muldivDivides", fn := fun _ => fun
  | [d1, d2, d3] => { results := [.lit (.bool false)], args := [d1, d2, d3] }
  | _ => none }
def MuldivDividesWrongFalsely : Prop := muldivDividesRow.holds Try.pinned (OpenSpec.ofChange muldivDividesWrong)

/-- 'accountinglaw02.MuldivModes': WHATEVER THE INPUT: true; the input reads as it did. -/
def muldivModesSpec : ChangeSpec := { name := "muldivModes", fn := fun _ => fun
  | [d1, d2, d3] => { results := [.lit (.bool true)], args := [d1, d2, d3] }
  | _ => none }
def muldivModesRow : OpenClaim := { program := "ytmmokegelmgdeaa", sum := "196435e4548103570944e9d4b9b4d2b0691d02f2cc3afe58d93863ca46927380", func := "accounting/accountinglaw02.MuldivModes", spec := "muldivModes", apart := false }
def MuldivModesSaid : Prop := muldivModesRow.holds Try.pinned (OpenSpec.ofChange muldivModesSpec)

/-- ITS FALSE NEIGHBOUR: 'it returns false'. Refute it at one input. -/
def muldivModesWrong : ChangeSpec := { name := "muldivModes", fn := fun _ => fun
  | [d1, d2, d3] => { results := [.lit (.bool false)], args := [d1, d2, d3] }
  | _ => none }
def MuldivModesWrongFalsely : Prop := muldivModesRow.holds Try.pinned (OpenSpec.ofChange muldivModesWrong)

/-- 'accountinglaw02.MuldivNegates': WHATEVER THE INPUT: true; the input reads as it did. -/
def muldivNegatesSpec : ChangeSpec := { name := "muldivNegates", fn := fun _ => fun
  | [d] => { results := [.lit (.bool true)], args := [d] }
  | _ => none }
def muldivNegatesRow : OpenClaim := { program := "ytmmokegelmgdeaa", sum := "196435e4548103570944e9d4b9b4d2b0691d02f2cc3afe58d93863ca46927380", func := "accounting/accountinglaw02.MuldivNegates", spec := "muldivNegates", apart := false }
def MuldivNegatesSaid : Prop := muldivNegatesRow.holds Try.pinned (OpenSpec.ofChange muldivNegatesSpec)

/-- ITS FALSE NEIGHBOUR: 'it returns false'. Refute it at one input. -/
def muldivNegatesWrong : ChangeSpec := { name := "muldivNegates", fn := fun _ => fun
  | [d] => { results := [.lit (.bool false)], args := [d] }
  | _ => none }
def MuldivNegatesWrongFalsely : Prop := muldivNegatesRow.holds Try.pinned (OpenSpec.ofChange muldivNegatesWrong)

/-- 'accountinglaw02.MuldivCancels': WHATEVER THE INPUT: true; the input reads as it did. -/
def muldivCancelsSpec : ChangeSpec := { name := "muldivCancels", fn := fun _ => fun
  | [d1, d2, d3] => { results := [.lit (.bool true)], args := [d1, d2, d3] }
  | _ => none }
def muldivCancelsRow : OpenClaim := { program := "ytmmokegelmgdeaa", sum := "196435e4548103570944e9d4b9b4d2b0691d02f2cc3afe58d93863ca46927380", func := "accounting/accountinglaw02.MuldivCancels", spec := "muldivCancels", apart := false }
def MuldivCancelsSaid : Prop := muldivCancelsRow.holds Try.pinned (OpenSpec.ofChange muldivCancelsSpec)

/-- ITS FALSE NEIGHBOUR: 'it returns false'. Refute it at one input. -/
def muldivCancelsWrong : ChangeSpec := { name := "muldivCancels", fn := fun _ => fun
  | [d1, d2, d3] => { results := [.lit (.bool false)], args := [d1, d2, d3] }
  | _ => none }
def MuldivCancelsWrongFalsely : Prop := muldivCancelsRow.holds Try.pinned (OpenSpec.ofChange muldivCancelsWrong)

/-- 'accountinglaw02.MuldivNear': WHATEVER THE INPUT: true; the input reads as it did. -/
def muldivNearSpec : ChangeSpec := { name := "muldivNear", fn := fun _ => fun
  | [d1, d2, d3] => { results := [.lit (.bool true)], args := [d1, d2, d3] }
  | _ => none }
def muldivNearRow : OpenClaim := { program := "ytmmokegelmgdeaa", sum := "196435e4548103570944e9d4b9b4d2b0691d02f2cc3afe58d93863ca46927380", func := "accounting/accountinglaw02.MuldivNear", spec := "muldivNear", apart := false }
def MuldivNearSaid : Prop := muldivNearRow.holds Try.pinned (OpenSpec.ofChange muldivNearSpec)

/-- ITS FALSE NEIGHBOUR: 'it returns false'. Refute it at one input. -/
def muldivNearWrong : ChangeSpec := { name := "muldivNear", fn := fun _ => fun
  | [d1, d2, d3] => { results := [.lit (.bool false)], args := [d1, d2, d3] }
  | _ => none }
def MuldivNearWrongFalsely : Prop := muldivNearRow.holds Try.pinned (OpenSpec.ofChange muldivNearWrong)

/- THE SECOND FORM. 'bulk': how many values and letters a reading holds, each counted each time it is reached (what is shared counts as often as it is met; a slice's spare places count too). A statement '..UptoSaid' is the law's where the arguments, and the package variables that the reading takes, are together of bulk at most 1048576: NARROWER than '..Said'. Prove '..Said' where nothing that the law and all that it calls make is longer than what came in: it says more and counts as full. Else prove '..UptoSaid'. A law counts once. -/
mutual
def uptoBulk {H : Type} : DataW H → Nat
  | .lit (.string bytes) => bytes.length + 1
  | .lit _ => 1
  | .nil => 1
  | .ptr d => uptoBulk d + 1
  | .slice elems spare => uptoBulkAll elems + uptoBulkAll spare + 1
  | .agg parts => uptoBulkAll parts + 1
  | .iface _ d => uptoBulk d + 1
  | .map entries => uptoBulkEntries entries + 1
  | .held _ => 1
def uptoBulkAll {H : Type} : List (DataW H) → Nat
  | [] => 0
  | d :: r => uptoBulk d + uptoBulkAll r
def uptoBulkEntries {H : Type} : List (Lit × DataW H) → Nat
  | [] => 0
  | x :: r => uptoBulkEntry x + uptoBulkEntries r
def uptoBulkEntry {H : Type} : Lit × DataW H → Nat
  | (.string bytes, d) => bytes.length + uptoBulk d + 1
  | (_, d) => uptoBulk d + 1
 end
def uptoSmall : (H : Type) → List (DataW H) → Bool := fun _ ds => decide (uptoBulkAll ds ≤ 1048576)
def OpenSpec.upto (s : _root_.Go.ChangeSpec) : _root_.Go.OpenSpec := { _root_.Go.OpenSpec.ofChange s with cond := some uptoSmall }

/-- 'accountinglaw02.MuldivReference', WHERE WHAT IT READS IS OF BULK AT MOST 1048576: true; the input reads as it did. -/
def muldivReferenceUptoRow : OpenClaim := { program := "ytmmokegelmgdeaa", sum := "196435e4548103570944e9d4b9b4d2b0691d02f2cc3afe58d93863ca46927380", func := "accounting/accountinglaw02.MuldivReference", spec := "muldivReference", apart := false, narrowed := true }
def MuldivReferenceUptoSaid : Prop := muldivReferenceUptoRow.holds Try.pinned (OpenSpec.upto muldivReferenceSpec)

/-- 'accountinglaw02.MuldivCompares', WHERE WHAT IT READS IS OF BULK AT MOST 1048576: true; the input reads as it did. -/
def muldivComparesUptoRow : OpenClaim := { program := "ytmmokegelmgdeaa", sum := "196435e4548103570944e9d4b9b4d2b0691d02f2cc3afe58d93863ca46927380", func := "accounting/accountinglaw02.MuldivCompares", spec := "muldivCompares", apart := false, narrowed := true }
def MuldivComparesUptoSaid : Prop := muldivComparesUptoRow.holds Try.pinned (OpenSpec.upto muldivComparesSpec)

/-- 'accountinglaw02.MuldivDivides', WHERE WHAT IT READS IS OF BULK AT MOST 1048576: true; the input reads as it did. -/
def muldivDividesUptoRow : OpenClaim := { program := "ytmmokegelmgdeaa", sum := "196435e4548103570944e9d4b9b4d2b0691d02f2cc3afe58d93863ca46927380", func := "accounting/accountinglaw02.MuldivDivides", spec := "muldivDivides", apart := false, narrowed := true }
def MuldivDividesUptoSaid : Prop := muldivDividesUptoRow.holds Try.pinned (OpenSpec.upto muldivDividesSpec)

/-- 'accountinglaw02.MuldivModes', WHERE WHAT IT READS IS OF BULK AT MOST 1048576: true; the input reads as it did. -/
def muldivModesUptoRow : OpenClaim := { program := "ytmmokegelmgdeaa", sum := "196435e4548103570944e9d4b9b4d2b0691d02f2cc3afe58d93863ca46927380", func := "accounting/accountinglaw02.MuldivModes", spec := "muldivModes", apart := false, narrowed := true }
def MuldivModesUptoSaid : Prop := muldivModesUptoRow.holds Try.pinned (OpenSpec.upto muldivModesSpec)

/-- 'accountinglaw02.MuldivNegates', WHERE WHAT IT READS IS OF BULK AT MOST 1048576: true; the input reads as it did. -/
def muldivNegatesUptoRow : OpenClaim := { program := "ytmmokegelmgdeaa", sum := "196435e4548103570944e9d4b9b4d2b0691d02f2cc3afe58d93863ca46927380", func := "accounting/accountinglaw02.MuldivNegates", spec := "muldivNegates", apart := false, narrowed := true }
def MuldivNegatesUptoSaid : Prop := muldivNegatesUptoRow.holds Try.pinned (OpenSpec.upto muldivNegatesSpec)

/-- 'accountinglaw02.MuldivCancels', WHERE WHAT IT READS IS OF BULK AT MOST 1048576: true; the input reads as it did. -/
def muldivCancelsUptoRow : OpenClaim := { program := "ytmmokegelmgdeaa", sum := "196435e4548103570944e9d4b9b4d2b0691d02f2cc3afe58d93863ca46927380", func := "accounting/accountinglaw02.MuldivCancels", spec := "muldivCancels", apart := false, narrowed := true }
def MuldivCancelsUptoSaid : Prop := muldivCancelsUptoRow.holds Try.pinned (OpenSpec.upto muldivCancelsSpec)

/-- 'accountinglaw02.MuldivNear', WHERE WHAT IT READS IS OF BULK AT MOST 1048576: true; the input reads as it did. -/
def muldivNearUptoRow : OpenClaim := { program := "ytmmokegelmgdeaa", sum := "196435e4548103570944e9d4b9b4d2b0691d02f2cc3afe58d93863ca46927380", func := "accounting/accountinglaw02.MuldivNear", spec := "muldivNear", apart := false, narrowed := true }
def MuldivNearUptoSaid : Prop := muldivNearUptoRow.holds Try.pinned (OpenSpec.upto muldivNearSpec)

end Rows
end Go.Proofs.Ytmmokegelmgdeaa
