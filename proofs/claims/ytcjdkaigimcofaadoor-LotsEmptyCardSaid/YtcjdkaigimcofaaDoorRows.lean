/-
  NARROWER THAN 'FOR EVERY INPUT', by the rows' own cells (each row's printed sentence says how): LotsSteps: laid · LotsSums: laid · LotsApart: laid · LotsEmpty: laid · LotsUndo: laid · LotsKeeps: laid · LotsAny: laid.
  DERIVED. THE GIVEN ROWS OF THIS SEAT. 7 by the template 'for every input the law returns true; each argument reads behind the call as it read before'; 0 by the template 'total and deterministic' (their statements: YtcjdkaigimcofaaDoorTotals.lean).
  GIVEN WITH THE SEED: the statements are not yours to turn. If you find one false, say at which input.
  Laid BY PROGRAM, IN A SANDBOX (cutbox-rows.mjs): the forced cells as the released guide's own fill.sh prints them over the translation df2548367db42828… (all of the seat's roots in one cut). By AI agents, Wed Nov 11 2026. No macro, syntax, notation, axiom, sorry.
-/
import Derived.Test.YtcjdkaigimcofaaDoorChecked
import GoSem.Claim
import GoSem.ClaimJoined
import GoSem.ClaimMapViews
import Derived.JoinedTies
import Derived.KernelRfl
namespace Go.Proofs.YtcjdkaigimcofaaDoor
/- THE CELL 'sum', in the pinned program and in every row, IS THE sha256 OF THE DUMP (.gsa) THAT YtcjdkaigimcofaaDoorProg.lean LOADS. Nothing in Lean hashes anything: it is a label: what it is worth is what the hold of that sum in a sandbox is worth. -/
noncomputable def Tryd.pinned : Pinned := { name := "ytcjdkaigimcofaadoor", sum := "df2548367db4282807a0d065323dd5ba892eacf4886f3a11d11c2fe6afc60c47", checked := Tryd.checked }
namespace Rows
def none {H : Type} : Left H := { results := [], args := [] }

/- WHAT THE LISTED PACKAGE-LEVEL VARIABLES READ AS WHEN THE CALL BEGINS. Each datum BY PROGRAM (the guide's laid-datum.mjs) off the statement by which the dump's own 'gosem.cut.vars' lays the variable. In a bare row this is a premise. The card (YtcjdkaigimcofaaDoorCards.lean) ties it to the program's text. -/
def laid_accounting_days_lengths {H : Type} : DataW H := .agg [.lit (.int .i64 31), .lit (.int .i64 28), .lit (.int .i64 31), .lit (.int .i64 30), .lit (.int .i64 31), .lit (.int .i64 30), .lit (.int .i64 31), .lit (.int .i64 31), .lit (.int .i64 30), .lit (.int .i64 31), .lit (.int .i64 30), .lit (.int .i64 31)]

/-- 'accountinglaw37.LotsSteps': WHATEVER THE INPUT: true; the input reads as it did. -/
def lotsStepsSpec : ChangeSpec := { name := "lotsSteps", fn := fun _ => fun
  | [d] => { results := [.lit (.bool true)], args := [d] }
  | _ => none }
def lotsStepsRow : OpenClaim := { program := "ytcjdkaigimcofaadoor", sum := "df2548367db4282807a0d065323dd5ba892eacf4886f3a11d11c2fe6afc60c47", func := "accounting/accountinglaw37.LotsSteps", spec := "lotsSteps", unfollowed := true, recurses := true, named := ["accounting/days.lengths"], apart := false, laid := [("accounting/days.lengths", laid_accounting_days_lengths)] }
def LotsStepsSaid : Prop := lotsStepsRow.holds Tryd.pinned (OpenSpec.ofChange lotsStepsSpec)

/-- ITS FALSE NEIGHBOUR: 'it returns false'. Refute it at one input. -/
def lotsStepsWrong : ChangeSpec := { name := "lotsSteps", fn := fun _ => fun
  | [d] => { results := [.lit (.bool false)], args := [d] }
  | _ => none }
def LotsStepsWrongFalsely : Prop := lotsStepsRow.holds Tryd.pinned (OpenSpec.ofChange lotsStepsWrong)

/-- 'accountinglaw37.LotsSums': WHATEVER THE INPUT: true; the input reads as it did. -/
def lotsSumsSpec : ChangeSpec := { name := "lotsSums", fn := fun _ => fun
  | [d] => { results := [.lit (.bool true)], args := [d] }
  | _ => none }
def lotsSumsRow : OpenClaim := { program := "ytcjdkaigimcofaadoor", sum := "df2548367db4282807a0d065323dd5ba892eacf4886f3a11d11c2fe6afc60c47", func := "accounting/accountinglaw37.LotsSums", spec := "lotsSums", unfollowed := true, recurses := true, named := ["accounting/days.lengths"], apart := false, laid := [("accounting/days.lengths", laid_accounting_days_lengths)] }
def LotsSumsSaid : Prop := lotsSumsRow.holds Tryd.pinned (OpenSpec.ofChange lotsSumsSpec)

/-- ITS FALSE NEIGHBOUR: 'it returns false'. Refute it at one input. -/
def lotsSumsWrong : ChangeSpec := { name := "lotsSums", fn := fun _ => fun
  | [d] => { results := [.lit (.bool false)], args := [d] }
  | _ => none }
def LotsSumsWrongFalsely : Prop := lotsSumsRow.holds Tryd.pinned (OpenSpec.ofChange lotsSumsWrong)

/-- 'accountinglaw37.LotsApart': WHATEVER THE INPUT: true; the input reads as it did. -/
def lotsApartSpec : ChangeSpec := { name := "lotsApart", fn := fun _ => fun
  | [d1, d2, d3, d4] => { results := [.lit (.bool true)], args := [d1, d2, d3, d4] }
  | _ => none }
def lotsApartRow : OpenClaim := { program := "ytcjdkaigimcofaadoor", sum := "df2548367db4282807a0d065323dd5ba892eacf4886f3a11d11c2fe6afc60c47", func := "accounting/accountinglaw37.LotsApart", spec := "lotsApart", unfollowed := true, recurses := true, named := ["accounting/days.lengths"], apart := false, laid := [("accounting/days.lengths", laid_accounting_days_lengths)] }
def LotsApartSaid : Prop := lotsApartRow.holds Tryd.pinned (OpenSpec.ofChange lotsApartSpec)

/-- ITS FALSE NEIGHBOUR: 'it returns false'. Refute it at one input. -/
def lotsApartWrong : ChangeSpec := { name := "lotsApart", fn := fun _ => fun
  | [d1, d2, d3, d4] => { results := [.lit (.bool false)], args := [d1, d2, d3, d4] }
  | _ => none }
def LotsApartWrongFalsely : Prop := lotsApartRow.holds Tryd.pinned (OpenSpec.ofChange lotsApartWrong)

/-- 'accountinglaw37.LotsEmpty': WHATEVER THE INPUT: true; the input reads as it did. -/
def lotsEmptySpec : ChangeSpec := { name := "lotsEmpty", fn := fun _ => fun
  | [d1, d2, d3] => { results := [.lit (.bool true)], args := [d1, d2, d3] }
  | _ => none }
def lotsEmptyRow : OpenClaim := { program := "ytcjdkaigimcofaadoor", sum := "df2548367db4282807a0d065323dd5ba892eacf4886f3a11d11c2fe6afc60c47", func := "accounting/accountinglaw37.LotsEmpty", spec := "lotsEmpty", unfollowed := true, recurses := true, named := ["accounting/days.lengths"], apart := false, laid := [("accounting/days.lengths", laid_accounting_days_lengths)] }
def LotsEmptySaid : Prop := lotsEmptyRow.holds Tryd.pinned (OpenSpec.ofChange lotsEmptySpec)

/-- ITS FALSE NEIGHBOUR: 'it returns false'. Refute it at one input. -/
def lotsEmptyWrong : ChangeSpec := { name := "lotsEmpty", fn := fun _ => fun
  | [d1, d2, d3] => { results := [.lit (.bool false)], args := [d1, d2, d3] }
  | _ => none }
def LotsEmptyWrongFalsely : Prop := lotsEmptyRow.holds Tryd.pinned (OpenSpec.ofChange lotsEmptyWrong)

/-- 'accountinglaw37.LotsUndo': WHATEVER THE INPUT: true; the input reads as it did. -/
def lotsUndoSpec : ChangeSpec := { name := "lotsUndo", fn := fun _ => fun
  | [d1, d2, d3, d4] => { results := [.lit (.bool true)], args := [d1, d2, d3, d4] }
  | _ => none }
def lotsUndoRow : OpenClaim := { program := "ytcjdkaigimcofaadoor", sum := "df2548367db4282807a0d065323dd5ba892eacf4886f3a11d11c2fe6afc60c47", func := "accounting/accountinglaw37.LotsUndo", spec := "lotsUndo", unfollowed := true, recurses := true, named := ["accounting/days.lengths"], apart := false, laid := [("accounting/days.lengths", laid_accounting_days_lengths)] }
def LotsUndoSaid : Prop := lotsUndoRow.holds Tryd.pinned (OpenSpec.ofChange lotsUndoSpec)

/-- ITS FALSE NEIGHBOUR: 'it returns false'. Refute it at one input. -/
def lotsUndoWrong : ChangeSpec := { name := "lotsUndo", fn := fun _ => fun
  | [d1, d2, d3, d4] => { results := [.lit (.bool false)], args := [d1, d2, d3, d4] }
  | _ => none }
def LotsUndoWrongFalsely : Prop := lotsUndoRow.holds Tryd.pinned (OpenSpec.ofChange lotsUndoWrong)

/-- 'accountinglaw37.LotsKeeps': WHATEVER THE INPUT: true; the input reads as it did. -/
def lotsKeepsSpec : ChangeSpec := { name := "lotsKeeps", fn := fun _ => fun
  | [d1, d2] => { results := [.lit (.bool true)], args := [d1, d2] }
  | _ => none }
def lotsKeepsRow : OpenClaim := { program := "ytcjdkaigimcofaadoor", sum := "df2548367db4282807a0d065323dd5ba892eacf4886f3a11d11c2fe6afc60c47", func := "accounting/accountinglaw37.LotsKeeps", spec := "lotsKeeps", unfollowed := true, recurses := true, named := ["accounting/days.lengths"], apart := false, laid := [("accounting/days.lengths", laid_accounting_days_lengths)] }
def LotsKeepsSaid : Prop := lotsKeepsRow.holds Tryd.pinned (OpenSpec.ofChange lotsKeepsSpec)

/-- ITS FALSE NEIGHBOUR: 'it returns false'. Refute it at one input. -/
def lotsKeepsWrong : ChangeSpec := { name := "lotsKeeps", fn := fun _ => fun
  | [d1, d2] => { results := [.lit (.bool false)], args := [d1, d2] }
  | _ => none }
def LotsKeepsWrongFalsely : Prop := lotsKeepsRow.holds Tryd.pinned (OpenSpec.ofChange lotsKeepsWrong)

/-- 'accountinglaw37.LotsAny': WHATEVER THE INPUT: true; the input reads as it did. -/
def lotsAnySpec : ChangeSpec := { name := "lotsAny", fn := fun _ => fun
  | [d1, d2] => { results := [.lit (.bool true)], args := [d1, d2] }
  | _ => none }
def lotsAnyRow : OpenClaim := { program := "ytcjdkaigimcofaadoor", sum := "df2548367db4282807a0d065323dd5ba892eacf4886f3a11d11c2fe6afc60c47", func := "accounting/accountinglaw37.LotsAny", spec := "lotsAny", unfollowed := true, recurses := true, named := ["accounting/days.lengths"], apart := false, laid := [("accounting/days.lengths", laid_accounting_days_lengths)] }
def LotsAnySaid : Prop := lotsAnyRow.holds Tryd.pinned (OpenSpec.ofChange lotsAnySpec)

/-- ITS FALSE NEIGHBOUR: 'it returns false'. Refute it at one input. -/
def lotsAnyWrong : ChangeSpec := { name := "lotsAny", fn := fun _ => fun
  | [d1, d2] => { results := [.lit (.bool false)], args := [d1, d2] }
  | _ => none }
def LotsAnyWrongFalsely : Prop := lotsAnyRow.holds Tryd.pinned (OpenSpec.ofChange lotsAnyWrong)

/- THE SECOND FORM. 'bulk': how many values and letters a reading holds, each counted each time it is reached (what is shared counts as often as it is met; a slice's spare places count too). A statement '..UptoSaid' is the law's where the arguments, and the package variables that the reading takes, are together of bulk at most 1048576: NARROWER than '..Said'. Prove '..Said' where nothing that the law and all that it calls make is longer than what came in: it says more and counts as full. Else prove '..UptoSaid'. A law counts once. -/
mutual
def uptoBulk {H : Type} : DataW H → Nat
  | .lit (.string bytes) => bytes.length + 1
  | .lit _ => 1
  | .nil => 1
  | .ptr d => uptoBulk d + 1
  | .slice elems spare => uptoBulkAll elems + uptoBulkAll spare + 1
  | .agg parts => uptoBulkAll parts + 1
  | .iface _ d => uptoBulk d + 1
  | .map entries => uptoBulkEntries entries + 1
  | .held _ => 1
def uptoBulkAll {H : Type} : List (DataW H) → Nat
  | [] => 0
  | d :: r => uptoBulk d + uptoBulkAll r
def uptoBulkEntries {H : Type} : List (Lit × DataW H) → Nat
  | [] => 0
  | x :: r => uptoBulkEntry x + uptoBulkEntries r
def uptoBulkEntry {H : Type} : Lit × DataW H → Nat
  | (.string bytes, d) => bytes.length + uptoBulk d + 1
  | (_, d) => uptoBulk d + 1
 end
def uptoSmall : (H : Type) → List (DataW H) → Bool := fun _ ds => decide (uptoBulkAll ds ≤ 1048576)
def OpenSpec.upto (s : _root_.Go.ChangeSpec) : _root_.Go.OpenSpec := { _root_.Go.OpenSpec.ofChange s with cond := some uptoSmall }

/-- 'accountinglaw37.LotsSteps', WHERE WHAT IT READS IS OF BULK AT MOST 1048576: true; the input reads as it did. -/
def lotsStepsUptoRow : OpenClaim := { program := "ytcjdkaigimcofaadoor", sum := "df2548367db4282807a0d065323dd5ba892eacf4886f3a11d11c2fe6afc60c47", func := "accounting/accountinglaw37.LotsSteps", spec := "lotsSteps", unfollowed := true, recurses := true, named := ["accounting/days.lengths"], apart := false, laid := [("accounting/days.lengths", laid_accounting_days_lengths)], narrowed := true }
def LotsStepsUptoSaid : Prop := lotsStepsUptoRow.holds Tryd.pinned (OpenSpec.upto lotsStepsSpec)

/-- 'accountinglaw37.LotsSums', WHERE WHAT IT READS IS OF BULK AT MOST 1048576: true; the input reads as it did. -/
def lotsSumsUptoRow : OpenClaim := { program := "ytcjdkaigimcofaadoor", sum := "df2548367db4282807a0d065323dd5ba892eacf4886f3a11d11c2fe6afc60c47", func := "accounting/accountinglaw37.LotsSums", spec := "lotsSums", unfollowed := true, recurses := true, named := ["accounting/days.lengths"], apart := false, laid := [("accounting/days.lengths", laid_accounting_days_lengths)], narrowed := true }
def LotsSumsUptoSaid : Prop := lotsSumsUptoRow.holds Tryd.pinned (OpenSpec.upto lotsSumsSpec)

/-- 'accountinglaw37.LotsApart', WHERE WHAT IT READS IS OF BULK AT MOST 1048576: true; the input reads as it did. -/
def lotsApartUptoRow : OpenClaim := { program := "ytcjdkaigimcofaadoor", sum := "df2548367db4282807a0d065323dd5ba892eacf4886f3a11d11c2fe6afc60c47", func := "accounting/accountinglaw37.LotsApart", spec := "lotsApart", unfollowed := true, recurses := true, named := ["accounting/days.lengths"], apart := false, laid := [("accounting/days.lengths", laid_accounting_days_lengths)], narrowed := true }
def LotsApartUptoSaid : Prop := lotsApartUptoRow.holds Tryd.pinned (OpenSpec.upto lotsApartSpec)

/-- 'accountinglaw37.LotsEmpty', WHERE WHAT IT READS IS OF BULK AT MOST 1048576: true; the input reads as it did. -/
def lotsEmptyUptoRow : OpenClaim := { program := "ytcjdkaigimcofaadoor", sum := "df2548367db4282807a0d065323dd5ba892eacf4886f3a11d11c2fe6afc60c47", func := "accounting/accountinglaw37.LotsEmpty", spec := "lotsEmpty", unfollowed := true, recurses := true, named := ["accounting/days.lengths"], apart := false, laid := [("accounting/days.lengths", laid_accounting_days_lengths)], narrowed := true }
def LotsEmptyUptoSaid : Prop := lotsEmptyUptoRow.holds Tryd.pinned (OpenSpec.upto lotsEmptySpec)

/-- 'accountinglaw37.LotsUndo', WHERE WHAT IT READS IS OF BULK AT MOST 1048576: true; the input reads as it did. -/
def lotsUndoUptoRow : OpenClaim := { program := "ytcjdkaigimcofaadoor", sum := "df2548367db4282807a0d065323dd5ba892eacf4886f3a11d11c2fe6afc60c47", func := "accounting/accountinglaw37.LotsUndo", spec := "lotsUndo", unfollowed := true, recurses := true, named := ["accounting/days.lengths"], apart := false, laid := [("accounting/days.lengths", laid_accounting_days_lengths)], narrowed := true }
def LotsUndoUptoSaid : Prop := lotsUndoUptoRow.holds Tryd.pinned (OpenSpec.upto lotsUndoSpec)

/-- 'accountinglaw37.LotsKeeps', WHERE WHAT IT READS IS OF BULK AT MOST 1048576: true; the input reads as it did. -/
def lotsKeepsUptoRow : OpenClaim := { program := "ytcjdkaigimcofaadoor", sum := "df2548367db4282807a0d065323dd5ba892eacf4886f3a11d11c2fe6afc60c47", func := "accounting/accountinglaw37.LotsKeeps", spec := "lotsKeeps", unfollowed := true, recurses := true, named := ["accounting/days.lengths"], apart := false, laid := [("accounting/days.lengths", laid_accounting_days_lengths)], narrowed := true }
def LotsKeepsUptoSaid : Prop := lotsKeepsUptoRow.holds Tryd.pinned (OpenSpec.upto lotsKeepsSpec)

/-- 'accountinglaw37.LotsAny', WHERE WHAT IT READS IS OF BULK AT MOST 1048576: true; the input reads as it did. -/
def lotsAnyUptoRow : OpenClaim := { program := "ytcjdkaigimcofaadoor", sum := "df2548367db4282807a0d065323dd5ba892eacf4886f3a11d11c2fe6afc60c47", func := "accounting/accountinglaw37.LotsAny", spec := "lotsAny", unfollowed := true, recurses := true, named := ["accounting/days.lengths"], apart := false, laid := [("accounting/days.lengths", laid_accounting_days_lengths)], narrowed := true }
def LotsAnyUptoSaid : Prop := lotsAnyUptoRow.holds Tryd.pinned (OpenSpec.upto lotsAnySpec)

end Rows
end Go.Proofs.YtcjdkaigimcofaaDoor
