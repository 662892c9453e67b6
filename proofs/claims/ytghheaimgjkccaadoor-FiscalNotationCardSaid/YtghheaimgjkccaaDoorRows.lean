/-
  NARROWER THAN 'FOR EVERY INPUT', by the rows' own cells (each row's printed sentence says how): FiscalSpanReference: laid · FiscalOfReference: laid · FiscalNotation: laid · FiscalContains: laid · FiscalTiles: laid · FiscalCounts: laid · FiscalStepsReference: laid · FiscalNextPrev: laid.
  DERIVED. THE GIVEN ROWS OF THIS SEAT. 8 by the template 'for every input the law returns true; each argument reads behind the call as it read before'; 0 by the template 'total and deterministic' (their statements: YtghheaimgjkccaaDoorTotals.lean).
  GIVEN WITH THE SEED: the statements are not yours to turn. If you find one false, say at which input.
  Laid BY PROGRAM, IN A SANDBOX (cutbox-rows.mjs): the forced cells as the released guide's own fill.sh prints them over the translation 776999d724093666… (all of the seat's roots in one cut). By AI agents, Wed Nov 11 2026. No macro, syntax, notation, axiom, sorry.
-/
import Derived.Test.YtghheaimgjkccaaDoorChecked
import GoSem.Claim
import GoSem.ClaimJoined
import GoSem.ClaimMapViews
import Derived.JoinedTies
import Derived.KernelRfl
namespace Go.Proofs.YtghheaimgjkccaaDoor
/- THE CELL 'sum', in the pinned program and in every row, IS THE sha256 OF THE DUMP (.gsa) THAT YtghheaimgjkccaaDoorProg.lean LOADS. Nothing in Lean hashes anything: it is a label: what it is worth is what the hold of that sum in a sandbox is worth. -/
noncomputable def Tryd.pinned : Pinned := { name := "ytghheaimgjkccaadoor", sum := "776999d72409366619becbb85c077737037e178022b29115774a993daefc7d35", checked := Tryd.checked }
namespace Rows
def none {H : Type} : Left H := { results := [], args := [] }

/- WHAT THE LISTED PACKAGE-LEVEL VARIABLES READ AS WHEN THE CALL BEGINS. Each datum BY PROGRAM (the guide's laid-datum.mjs) off the statement by which the dump's own 'gosem.cut.vars' lays the variable. In a bare row this is a premise. The card (YtghheaimgjkccaaDoorCards.lean) ties it to the program's text. -/
def laid_accounting_days_lengths {H : Type} : DataW H := .agg [.lit (.int .i64 31), .lit (.int .i64 28), .lit (.int .i64 31), .lit (.int .i64 30), .lit (.int .i64 31), .lit (.int .i64 30), .lit (.int .i64 31), .lit (.int .i64 31), .lit (.int .i64 30), .lit (.int .i64 31), .lit (.int .i64 30), .lit (.int .i64 31)]

/-- 'accountinglaw05.FiscalSpanReference': WHATEVER THE INPUT: true; the input reads as it did. -/
def fiscalSpanReferenceSpec : ChangeSpec := { name := "fiscalSpanReference", fn := fun _ => fun
  | [d1, d2] => { results := [.lit (.bool true)], args := [d1, d2] }
  | _ => none }
def fiscalSpanReferenceRow : OpenClaim := { program := "ytghheaimgjkccaadoor", sum := "776999d72409366619becbb85c077737037e178022b29115774a993daefc7d35", func := "accounting/accountinglaw05.FiscalSpanReference", spec := "fiscalSpanReference", named := ["accounting/days.lengths"], apart := false, laid := [("accounting/days.lengths", laid_accounting_days_lengths)] }
def FiscalSpanReferenceSaid : Prop := fiscalSpanReferenceRow.holds Tryd.pinned (OpenSpec.ofChange fiscalSpanReferenceSpec)

/-- ITS FALSE NEIGHBOUR: 'it returns false'. Refute it at one input. -/
def fiscalSpanReferenceWrong : ChangeSpec := { name := "fiscalSpanReference", fn := fun _ => fun
  | [d1, d2] => { results := [.lit (.bool false)], args := [d1, d2] }
  | _ => none }
def FiscalSpanReferenceWrongFalsely : Prop := fiscalSpanReferenceRow.holds Tryd.pinned (OpenSpec.ofChange fiscalSpanReferenceWrong)

/-- 'accountinglaw05.FiscalOfReference': WHATEVER THE INPUT: true; the input reads as it did. -/
def fiscalOfReferenceSpec : ChangeSpec := { name := "fiscalOfReference", fn := fun _ => fun
  | [d1, d2, d3] => { results := [.lit (.bool true)], args := [d1, d2, d3] }
  | _ => none }
def fiscalOfReferenceRow : OpenClaim := { program := "ytghheaimgjkccaadoor", sum := "776999d72409366619becbb85c077737037e178022b29115774a993daefc7d35", func := "accounting/accountinglaw05.FiscalOfReference", spec := "fiscalOfReference", named := ["accounting/days.lengths"], apart := false, laid := [("accounting/days.lengths", laid_accounting_days_lengths)] }
def FiscalOfReferenceSaid : Prop := fiscalOfReferenceRow.holds Tryd.pinned (OpenSpec.ofChange fiscalOfReferenceSpec)

/-- ITS FALSE NEIGHBOUR: 'it returns false'. Refute it at one input. -/
def fiscalOfReferenceWrong : ChangeSpec := { name := "fiscalOfReference", fn := fun _ => fun
  | [d1, d2, d3] => { results := [.lit (.bool false)], args := [d1, d2, d3] }
  | _ => none }
def FiscalOfReferenceWrongFalsely : Prop := fiscalOfReferenceRow.holds Tryd.pinned (OpenSpec.ofChange fiscalOfReferenceWrong)

/-- 'accountinglaw05.FiscalNotation': WHATEVER THE INPUT: true; the input reads as it did. -/
def fiscalNotationSpec : ChangeSpec := { name := "fiscalNotation", fn := fun _ => fun
  | [d1, d2] => { results := [.lit (.bool true)], args := [d1, d2] }
  | _ => none }
def fiscalNotationRow : OpenClaim := { program := "ytghheaimgjkccaadoor", sum := "776999d72409366619becbb85c077737037e178022b29115774a993daefc7d35", func := "accounting/accountinglaw05.FiscalNotation", spec := "fiscalNotation", named := ["accounting/days.lengths"], apart := false, laid := [("accounting/days.lengths", laid_accounting_days_lengths)] }
def FiscalNotationSaid : Prop := fiscalNotationRow.holds Tryd.pinned (OpenSpec.ofChange fiscalNotationSpec)

/-- ITS FALSE NEIGHBOUR: 'it returns false'. Refute it at one input. -/
def fiscalNotationWrong : ChangeSpec := { name := "fiscalNotation", fn := fun _ => fun
  | [d1, d2] => { results := [.lit (.bool false)], args := [d1, d2] }
  | _ => none }
def FiscalNotationWrongFalsely : Prop := fiscalNotationRow.holds Tryd.pinned (OpenSpec.ofChange fiscalNotationWrong)

/-- 'accountinglaw05.FiscalContains': WHATEVER THE INPUT: true; the input reads as it did. -/
def fiscalContainsSpec : ChangeSpec := { name := "fiscalContains", fn := fun _ => fun
  | [d1, d2, d3] => { results := [.lit (.bool true)], args := [d1, d2, d3] }
  | _ => none }
def fiscalContainsRow : OpenClaim := { program := "ytghheaimgjkccaadoor", sum := "776999d72409366619becbb85c077737037e178022b29115774a993daefc7d35", func := "accounting/accountinglaw05.FiscalContains", spec := "fiscalContains", named := ["accounting/days.lengths"], apart := false, laid := [("accounting/days.lengths", laid_accounting_days_lengths)] }
def FiscalContainsSaid : Prop := fiscalContainsRow.holds Tryd.pinned (OpenSpec.ofChange fiscalContainsSpec)

/-- ITS FALSE NEIGHBOUR: 'it returns false'. Refute it at one input. -/
def fiscalContainsWrong : ChangeSpec := { name := "fiscalContains", fn := fun _ => fun
  | [d1, d2, d3] => { results := [.lit (.bool false)], args := [d1, d2, d3] }
  | _ => none }
def FiscalContainsWrongFalsely : Prop := fiscalContainsRow.holds Tryd.pinned (OpenSpec.ofChange fiscalContainsWrong)

/-- 'accountinglaw05.FiscalTiles': WHATEVER THE INPUT: true; the input reads as it did. -/
def fiscalTilesSpec : ChangeSpec := { name := "fiscalTiles", fn := fun _ => fun
  | [d1, d2] => { results := [.lit (.bool true)], args := [d1, d2] }
  | _ => none }
def fiscalTilesRow : OpenClaim := { program := "ytghheaimgjkccaadoor", sum := "776999d72409366619becbb85c077737037e178022b29115774a993daefc7d35", func := "accounting/accountinglaw05.FiscalTiles", spec := "fiscalTiles", named := ["accounting/days.lengths"], apart := false, laid := [("accounting/days.lengths", laid_accounting_days_lengths)] }
def FiscalTilesSaid : Prop := fiscalTilesRow.holds Tryd.pinned (OpenSpec.ofChange fiscalTilesSpec)

/-- ITS FALSE NEIGHBOUR: 'it returns false'. Refute it at one input. -/
def fiscalTilesWrong : ChangeSpec := { name := "fiscalTiles", fn := fun _ => fun
  | [d1, d2] => { results := [.lit (.bool false)], args := [d1, d2] }
  | _ => none }
def FiscalTilesWrongFalsely : Prop := fiscalTilesRow.holds Tryd.pinned (OpenSpec.ofChange fiscalTilesWrong)

/-- 'accountinglaw05.FiscalCounts': WHATEVER THE INPUT: true; the input reads as it did. -/
def fiscalCountsSpec : ChangeSpec := { name := "fiscalCounts", fn := fun _ => fun
  | [d] => { results := [.lit (.bool true)], args := [d] }
  | _ => none }
def fiscalCountsRow : OpenClaim := { program := "ytghheaimgjkccaadoor", sum := "776999d72409366619becbb85c077737037e178022b29115774a993daefc7d35", func := "accounting/accountinglaw05.FiscalCounts", spec := "fiscalCounts", named := ["accounting/days.lengths"], apart := false, laid := [("accounting/days.lengths", laid_accounting_days_lengths)] }
def FiscalCountsSaid : Prop := fiscalCountsRow.holds Tryd.pinned (OpenSpec.ofChange fiscalCountsSpec)

/-- ITS FALSE NEIGHBOUR: 'it returns false'. Refute it at one input. -/
def fiscalCountsWrong : ChangeSpec := { name := "fiscalCounts", fn := fun _ => fun
  | [d] => { results := [.lit (.bool false)], args := [d] }
  | _ => none }
def FiscalCountsWrongFalsely : Prop := fiscalCountsRow.holds Tryd.pinned (OpenSpec.ofChange fiscalCountsWrong)

/-- 'accountinglaw05.FiscalStepsReference': WHATEVER THE INPUT: true; the input reads as it did. -/
def fiscalStepsReferenceSpec : ChangeSpec := { name := "fiscalStepsReference", fn := fun _ => fun
  | [d1, d2, d3] => { results := [.lit (.bool true)], args := [d1, d2, d3] }
  | _ => none }
def fiscalStepsReferenceRow : OpenClaim := { program := "ytghheaimgjkccaadoor", sum := "776999d72409366619becbb85c077737037e178022b29115774a993daefc7d35", func := "accounting/accountinglaw05.FiscalStepsReference", spec := "fiscalStepsReference", named := ["accounting/days.lengths"], apart := false, laid := [("accounting/days.lengths", laid_accounting_days_lengths)] }
def FiscalStepsReferenceSaid : Prop := fiscalStepsReferenceRow.holds Tryd.pinned (OpenSpec.ofChange fiscalStepsReferenceSpec)

/-- ITS FALSE NEIGHBOUR: 'it returns false'. Refute it at one input. -/
def fiscalStepsReferenceWrong : ChangeSpec := { name := "fiscalStepsReference", fn := fun _ => fun
  | [d1, d2, d3] => { results := [.lit (.bool false)], args := [d1, d2, d3] }
  | _ => none }
def FiscalStepsReferenceWrongFalsely : Prop := fiscalStepsReferenceRow.holds Tryd.pinned (OpenSpec.ofChange fiscalStepsReferenceWrong)

/-- 'accountinglaw05.FiscalNextPrev': WHATEVER THE INPUT: true; the input reads as it did. -/
def fiscalNextPrevSpec : ChangeSpec := { name := "fiscalNextPrev", fn := fun _ => fun
  | [d1, d2] => { results := [.lit (.bool true)], args := [d1, d2] }
  | _ => none }
def fiscalNextPrevRow : OpenClaim := { program := "ytghheaimgjkccaadoor", sum := "776999d72409366619becbb85c077737037e178022b29115774a993daefc7d35", func := "accounting/accountinglaw05.FiscalNextPrev", spec := "fiscalNextPrev", named := ["accounting/days.lengths"], apart := false, laid := [("accounting/days.lengths", laid_accounting_days_lengths)] }
def FiscalNextPrevSaid : Prop := fiscalNextPrevRow.holds Tryd.pinned (OpenSpec.ofChange fiscalNextPrevSpec)

/-- ITS FALSE NEIGHBOUR: 'it returns false'. Refute it at one input. -/
def fiscalNextPrevWrong : ChangeSpec := { name := "fiscalNextPrev", fn := fun _ => fun
  | [d1, d2] => { results := [.lit (.bool false)], args := [d1, d2] }
  | _ => none }
def FiscalNextPrevWrongFalsely : Prop := fiscalNextPrevRow.holds Tryd.pinned (OpenSpec.ofChange fiscalNextPrevWrong)

/- THE SECOND FORM. 'bulk': how many values and letters a reading holds, each counted each time it is reached (what is shared counts as often as it is met; a slice's spare places count too). A statement '..UptoSaid' is the law's where the arguments, and the package variables that the reading takes, are together of bulk at most 1048576: NARROWER than '..Said'. Prove '..Said' where nothing that the law and all that it calls make is longer than what came in: it says more and counts as full. Else prove '..UptoSaid'. A law counts once. -/
mutual
def uptoBulk {H : Type} : DataW H → Nat
  | .lit (.string bytes) => bytes.length + 1
  | .lit _ => 1
  | .nil => 1
  | .ptr d => uptoBulk d + 1
  | .slice elems spare => uptoBulkAll elems + uptoBulkAll spare + 1
  | .agg parts => uptoBulkAll parts + 1
  | .iface _ d => uptoBulk d + 1
  | .map entries => uptoBulkEntries entries + 1
  | .held _ => 1
def uptoBulkAll {H : Type} : List (DataW H) → Nat
  | [] => 0
  | d :: r => uptoBulk d + uptoBulkAll r
def uptoBulkEntries {H : Type} : List (Lit × DataW H) → Nat
  | [] => 0
  | x :: r => uptoBulkEntry x + uptoBulkEntries r
def uptoBulkEntry {H : Type} : Lit × DataW H → Nat
  | (.string bytes, d) => bytes.length + uptoBulk d + 1
  | (_, d) => uptoBulk d + 1
 end
def uptoSmall : (H : Type) → List (DataW H) → Bool := fun _ ds => decide (uptoBulkAll ds ≤ 1048576)
def OpenSpec.upto (s : _root_.Go.ChangeSpec) : _root_.Go.OpenSpec := { _root_.Go.OpenSpec.ofChange s with cond := some uptoSmall }

/-- 'accountinglaw05.FiscalSpanReference', WHERE WHAT IT READS IS OF BULK AT MOST 1048576: true; the input reads as it did. -/
def fiscalSpanReferenceUptoRow : OpenClaim := { program := "ytghheaimgjkccaadoor", sum := "776999d72409366619becbb85c077737037e178022b29115774a993daefc7d35", func := "accounting/accountinglaw05.FiscalSpanReference", spec := "fiscalSpanReference", named := ["accounting/days.lengths"], apart := false, laid := [("accounting/days.lengths", laid_accounting_days_lengths)], narrowed := true }
def FiscalSpanReferenceUptoSaid : Prop := fiscalSpanReferenceUptoRow.holds Tryd.pinned (OpenSpec.upto fiscalSpanReferenceSpec)

/-- 'accountinglaw05.FiscalOfReference', WHERE WHAT IT READS IS OF BULK AT MOST 1048576: true; the input reads as it did. -/
def fiscalOfReferenceUptoRow : OpenClaim := { program := "ytghheaimgjkccaadoor", sum := "776999d72409366619becbb85c077737037e178022b29115774a993daefc7d35", func := "accounting/accountinglaw05.FiscalOfReference", spec := "fiscalOfReference", named := ["accounting/days.lengths"], apart := false, laid := [("accounting/days.lengths", laid_accounting_days_lengths)], narrowed := true }
def FiscalOfReferenceUptoSaid : Prop := fiscalOfReferenceUptoRow.holds Tryd.pinned (OpenSpec.upto fiscalOfReferenceSpec)

/-- 'accountinglaw05.FiscalNotation', WHERE WHAT IT READS IS OF BULK AT MOST 1048576: true; the input reads as it did. -/
def fiscalNotationUptoRow : OpenClaim := { program := "ytghheaimgjkccaadoor", sum := "776999d72409366619becbb85c077737037e178022b29115774a993daefc7d35", func := "accounting/accountinglaw05.FiscalNotation", spec := "fiscalNotation", named := ["accounting/days.lengths"], apart := false, laid := [("accounting/days.lengths", laid_accounting_days_lengths)], narrowed := true }
def FiscalNotationUptoSaid : Prop := fiscalNotationUptoRow.holds Tryd.pinned (OpenSpec.upto fiscalNotationSpec)

/-- 'accountinglaw05.FiscalContains', WHERE WHAT IT READS IS OF BULK AT MOST 1048576: true; the input reads as it did. -/
def fiscalContainsUptoRow : OpenClaim := { program := "ytghheaimgjkccaadoor", sum := "776999d72409366619becbb85c077737037e178022b29115774a993daefc7d35", func := "accounting/accountinglaw05.FiscalContains", spec := "fiscalContains", named := ["accounting/days.lengths"], apart := false, laid := [("accounting/days.lengths", laid_accounting_days_lengths)], narrowed := true }
def FiscalContainsUptoSaid : Prop := fiscalContainsUptoRow.holds Tryd.pinned (OpenSpec.upto fiscalContainsSpec)

/-- 'accountinglaw05.FiscalTiles', WHERE WHAT IT READS IS OF BULK AT MOST 1048576: true; the input reads as it did. -/
def fiscalTilesUptoRow : OpenClaim := { program := "ytghheaimgjkccaadoor", sum := "776999d72409366619becbb85c077737037e178022b29115774a993daefc7d35", func := "accounting/accountinglaw05.FiscalTiles", spec := "fiscalTiles", named := ["accounting/days.lengths"], apart := false, laid := [("accounting/days.lengths", laid_accounting_days_lengths)], narrowed := true }
def FiscalTilesUptoSaid : Prop := fiscalTilesUptoRow.holds Tryd.pinned (OpenSpec.upto fiscalTilesSpec)

/-- 'accountinglaw05.FiscalCounts', WHERE WHAT IT READS IS OF BULK AT MOST 1048576: true; the input reads as it did. -/
def fiscalCountsUptoRow : OpenClaim := { program := "ytghheaimgjkccaadoor", sum := "776999d72409366619becbb85c077737037e178022b29115774a993daefc7d35", func := "accounting/accountinglaw05.FiscalCounts", spec := "fiscalCounts", named := ["accounting/days.lengths"], apart := false, laid := [("accounting/days.lengths", laid_accounting_days_lengths)], narrowed := true }
def FiscalCountsUptoSaid : Prop := fiscalCountsUptoRow.holds Tryd.pinned (OpenSpec.upto fiscalCountsSpec)

/-- 'accountinglaw05.FiscalStepsReference', WHERE WHAT IT READS IS OF BULK AT MOST 1048576: true; the input reads as it did. -/
def fiscalStepsReferenceUptoRow : OpenClaim := { program := "ytghheaimgjkccaadoor", sum := "776999d72409366619becbb85c077737037e178022b29115774a993daefc7d35", func := "accounting/accountinglaw05.FiscalStepsReference", spec := "fiscalStepsReference", named := ["accounting/days.lengths"], apart := false, laid := [("accounting/days.lengths", laid_accounting_days_lengths)], narrowed := true }
def FiscalStepsReferenceUptoSaid : Prop := fiscalStepsReferenceUptoRow.holds Tryd.pinned (OpenSpec.upto fiscalStepsReferenceSpec)

/-- 'accountinglaw05.FiscalNextPrev', WHERE WHAT IT READS IS OF BULK AT MOST 1048576: true; the input reads as it did. -/
def fiscalNextPrevUptoRow : OpenClaim := { program := "ytghheaimgjkccaadoor", sum := "776999d72409366619becbb85c077737037e178022b29115774a993daefc7d35", func := "accounting/accountinglaw05.FiscalNextPrev", spec := "fiscalNextPrev", named := ["accounting/days.lengths"], apart := false, laid := [("accounting/days.lengths", laid_accounting_days_lengths)], narrowed := true }
def FiscalNextPrevUptoSaid : Prop := fiscalNextPrevUptoRow.holds Tryd.pinned (OpenSpec.upto fiscalNextPrevSpec)

end Rows
end Go.Proofs.YtghheaimgjkccaaDoor
