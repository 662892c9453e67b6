/-
  NARROWER THAN 'FOR EVERY INPUT', by the rows' own cells (each row's printed sentence says how): FifoSteps: laid · FifoSums: laid · FifoOldest: laid · FifoEmpty: laid · FifoUndo: laid · FifoKeeps: laid · FifoAny: laid.
  DERIVED. THE GIVEN ROWS OF THIS SEAT. 7 by the template 'for every input the law returns true; each argument reads behind the call as it read before'; 0 by the template 'total and deterministic' (their statements: YtclohjmakcfikaaDoorTotals.lean).
  GIVEN WITH THE SEED: the statements are not yours to turn. If you find one false, say at which input.
  Laid BY PROGRAM, IN A SANDBOX (cutbox-rows.mjs): the forced cells as the released guide's own fill.sh prints them over the translation f2a705b98c20b6ff… (all of the seat's roots in one cut). By AI agents, Wed Nov 11 2026. No macro, syntax, notation, axiom, sorry.
-/
import Derived.Test.YtclohjmakcfikaaDoorChecked
import GoSem.Claim
import GoSem.ClaimJoined
import GoSem.ClaimMapViews
import Derived.JoinedTies
import Derived.KernelRfl
namespace Go.Proofs.YtclohjmakcfikaaDoor
/- THE CELL 'sum', in the pinned program and in every row, IS THE sha256 OF THE DUMP (.gsa) THAT YtclohjmakcfikaaDoorProg.lean LOADS. Nothing in Lean hashes anything: it is a label: what it is worth is what the hold of that sum in a sandbox is worth. -/
noncomputable def Tryd.pinned : Pinned := { name := "ytclohjmakcfikaadoor", sum := "f2a705b98c20b6fffdade5b257e22f4041022f194b646ef4995e8bcc526e4476", checked := Tryd.checked }
namespace Rows
def none {H : Type} : Left H := { results := [], args := [] }

/- WHAT THE LISTED PACKAGE-LEVEL VARIABLES READ AS WHEN THE CALL BEGINS. Each datum BY PROGRAM (the guide's laid-datum.mjs) off the statement by which the dump's own 'gosem.cut.vars' lays the variable. In a bare row this is a premise. The card (YtclohjmakcfikaaDoorCards.lean) ties it to the program's text. -/
def laid_accounting_days_lengths {H : Type} : DataW H := .agg [.lit (.int .i64 31), .lit (.int .i64 28), .lit (.int .i64 31), .lit (.int .i64 30), .lit (.int .i64 31), .lit (.int .i64 30), .lit (.int .i64 31), .lit (.int .i64 31), .lit (.int .i64 30), .lit (.int .i64 31), .lit (.int .i64 30), .lit (.int .i64 31)]

/-- 'accountinglaw34.FifoSteps': WHATEVER THE INPUT: true; the input reads as it did. -/
def fifoStepsSpec : ChangeSpec := { name := "fifoSteps", fn := fun _ => fun
  | [d] => { results := [.lit (.bool true)], args := [d] }
  | _ => none }
def fifoStepsRow : OpenClaim := { program := "ytclohjmakcfikaadoor", sum := "f2a705b98c20b6fffdade5b257e22f4041022f194b646ef4995e8bcc526e4476", func := "accounting/accountinglaw34.FifoSteps", spec := "fifoSteps", unfollowed := true, recurses := true, named := ["accounting/days.lengths"], apart := false, laid := [("accounting/days.lengths", laid_accounting_days_lengths)] }
def FifoStepsSaid : Prop := fifoStepsRow.holds Tryd.pinned (OpenSpec.ofChange fifoStepsSpec)

/-- ITS FALSE NEIGHBOUR: 'it returns false'. Refute it at one input. -/
def fifoStepsWrong : ChangeSpec := { name := "fifoSteps", fn := fun _ => fun
  | [d] => { results := [.lit (.bool false)], args := [d] }
  | _ => none }
def FifoStepsWrongFalsely : Prop := fifoStepsRow.holds Tryd.pinned (OpenSpec.ofChange fifoStepsWrong)

/-- 'accountinglaw34.FifoSums': WHATEVER THE INPUT: true; the input reads as it did. -/
def fifoSumsSpec : ChangeSpec := { name := "fifoSums", fn := fun _ => fun
  | [d] => { results := [.lit (.bool true)], args := [d] }
  | _ => none }
def fifoSumsRow : OpenClaim := { program := "ytclohjmakcfikaadoor", sum := "f2a705b98c20b6fffdade5b257e22f4041022f194b646ef4995e8bcc526e4476", func := "accounting/accountinglaw34.FifoSums", spec := "fifoSums", unfollowed := true, recurses := true, named := ["accounting/days.lengths"], apart := false, laid := [("accounting/days.lengths", laid_accounting_days_lengths)] }
def FifoSumsSaid : Prop := fifoSumsRow.holds Tryd.pinned (OpenSpec.ofChange fifoSumsSpec)

/-- ITS FALSE NEIGHBOUR: 'it returns false'. Refute it at one input. -/
def fifoSumsWrong : ChangeSpec := { name := "fifoSums", fn := fun _ => fun
  | [d] => { results := [.lit (.bool false)], args := [d] }
  | _ => none }
def FifoSumsWrongFalsely : Prop := fifoSumsRow.holds Tryd.pinned (OpenSpec.ofChange fifoSumsWrong)

/-- 'accountinglaw34.FifoOldest': WHATEVER THE INPUT: true; the input reads as it did. -/
def fifoOldestSpec : ChangeSpec := { name := "fifoOldest", fn := fun _ => fun
  | [d1, d2] => { results := [.lit (.bool true)], args := [d1, d2] }
  | _ => none }
def fifoOldestRow : OpenClaim := { program := "ytclohjmakcfikaadoor", sum := "f2a705b98c20b6fffdade5b257e22f4041022f194b646ef4995e8bcc526e4476", func := "accounting/accountinglaw34.FifoOldest", spec := "fifoOldest", unfollowed := true, recurses := true, named := ["accounting/days.lengths"], apart := false, laid := [("accounting/days.lengths", laid_accounting_days_lengths)] }
def FifoOldestSaid : Prop := fifoOldestRow.holds Tryd.pinned (OpenSpec.ofChange fifoOldestSpec)

/-- ITS FALSE NEIGHBOUR: 'it returns false'. Refute it at one input. -/
def fifoOldestWrong : ChangeSpec := { name := "fifoOldest", fn := fun _ => fun
  | [d1, d2] => { results := [.lit (.bool false)], args := [d1, d2] }
  | _ => none }
def FifoOldestWrongFalsely : Prop := fifoOldestRow.holds Tryd.pinned (OpenSpec.ofChange fifoOldestWrong)

/-- 'accountinglaw34.FifoEmpty': WHATEVER THE INPUT: true; the input reads as it did. -/
def fifoEmptySpec : ChangeSpec := { name := "fifoEmpty", fn := fun _ => fun
  | [d1, d2] => { results := [.lit (.bool true)], args := [d1, d2] }
  | _ => none }
def fifoEmptyRow : OpenClaim := { program := "ytclohjmakcfikaadoor", sum := "f2a705b98c20b6fffdade5b257e22f4041022f194b646ef4995e8bcc526e4476", func := "accounting/accountinglaw34.FifoEmpty", spec := "fifoEmpty", unfollowed := true, recurses := true, named := ["accounting/days.lengths"], apart := false, laid := [("accounting/days.lengths", laid_accounting_days_lengths)] }
def FifoEmptySaid : Prop := fifoEmptyRow.holds Tryd.pinned (OpenSpec.ofChange fifoEmptySpec)

/-- ITS FALSE NEIGHBOUR: 'it returns false'. Refute it at one input. -/
def fifoEmptyWrong : ChangeSpec := { name := "fifoEmpty", fn := fun _ => fun
  | [d1, d2] => { results := [.lit (.bool false)], args := [d1, d2] }
  | _ => none }
def FifoEmptyWrongFalsely : Prop := fifoEmptyRow.holds Tryd.pinned (OpenSpec.ofChange fifoEmptyWrong)

/-- 'accountinglaw34.FifoUndo': WHATEVER THE INPUT: true; the input reads as it did. -/
def fifoUndoSpec : ChangeSpec := { name := "fifoUndo", fn := fun _ => fun
  | [d1, d2, d3] => { results := [.lit (.bool true)], args := [d1, d2, d3] }
  | _ => none }
def fifoUndoRow : OpenClaim := { program := "ytclohjmakcfikaadoor", sum := "f2a705b98c20b6fffdade5b257e22f4041022f194b646ef4995e8bcc526e4476", func := "accounting/accountinglaw34.FifoUndo", spec := "fifoUndo", unfollowed := true, recurses := true, named := ["accounting/days.lengths"], apart := false, laid := [("accounting/days.lengths", laid_accounting_days_lengths)] }
def FifoUndoSaid : Prop := fifoUndoRow.holds Tryd.pinned (OpenSpec.ofChange fifoUndoSpec)

/-- ITS FALSE NEIGHBOUR: 'it returns false'. Refute it at one input. -/
def fifoUndoWrong : ChangeSpec := { name := "fifoUndo", fn := fun _ => fun
  | [d1, d2, d3] => { results := [.lit (.bool false)], args := [d1, d2, d3] }
  | _ => none }
def FifoUndoWrongFalsely : Prop := fifoUndoRow.holds Tryd.pinned (OpenSpec.ofChange fifoUndoWrong)

/-- 'accountinglaw34.FifoKeeps': WHATEVER THE INPUT: true; the input reads as it did. -/
def fifoKeepsSpec : ChangeSpec := { name := "fifoKeeps", fn := fun _ => fun
  | [d1, d2] => { results := [.lit (.bool true)], args := [d1, d2] }
  | _ => none }
def fifoKeepsRow : OpenClaim := { program := "ytclohjmakcfikaadoor", sum := "f2a705b98c20b6fffdade5b257e22f4041022f194b646ef4995e8bcc526e4476", func := "accounting/accountinglaw34.FifoKeeps", spec := "fifoKeeps", unfollowed := true, recurses := true, named := ["accounting/days.lengths"], apart := false, laid := [("accounting/days.lengths", laid_accounting_days_lengths)] }
def FifoKeepsSaid : Prop := fifoKeepsRow.holds Tryd.pinned (OpenSpec.ofChange fifoKeepsSpec)

/-- ITS FALSE NEIGHBOUR: 'it returns false'. Refute it at one input. -/
def fifoKeepsWrong : ChangeSpec := { name := "fifoKeeps", fn := fun _ => fun
  | [d1, d2] => { results := [.lit (.bool false)], args := [d1, d2] }
  | _ => none }
def FifoKeepsWrongFalsely : Prop := fifoKeepsRow.holds Tryd.pinned (OpenSpec.ofChange fifoKeepsWrong)

/-- 'accountinglaw34.FifoAny': WHATEVER THE INPUT: true; the input reads as it did. -/
def fifoAnySpec : ChangeSpec := { name := "fifoAny", fn := fun _ => fun
  | [d1, d2] => { results := [.lit (.bool true)], args := [d1, d2] }
  | _ => none }
def fifoAnyRow : OpenClaim := { program := "ytclohjmakcfikaadoor", sum := "f2a705b98c20b6fffdade5b257e22f4041022f194b646ef4995e8bcc526e4476", func := "accounting/accountinglaw34.FifoAny", spec := "fifoAny", unfollowed := true, recurses := true, named := ["accounting/days.lengths"], apart := false, laid := [("accounting/days.lengths", laid_accounting_days_lengths)] }
def FifoAnySaid : Prop := fifoAnyRow.holds Tryd.pinned (OpenSpec.ofChange fifoAnySpec)

/-- ITS FALSE NEIGHBOUR: 'it returns false'. Refute it at one input. -/
def fifoAnyWrong : ChangeSpec := { name := "fifoAny", fn := fun _ => fun
  | [d1, d2] => { results := [.lit (.bool false)], args := [d1, d2] }
  | _ => none }
def FifoAnyWrongFalsely : Prop := fifoAnyRow.holds Tryd.pinned (OpenSpec.ofChange fifoAnyWrong)

/- THE SECOND FORM. 'bulk': how many values and letters a reading holds, each counted each time it is reached (what is shared counts as often as it is met; a slice's spare places count too). A statement '..UptoSaid' is the law's where the arguments, and the package variables that the reading takes, are together of bulk at most 1048576: NARROWER than '..Said'. Prove '..Said' where nothing that the law and all that it calls make is longer than what came in: it says more and counts as full. Else prove '..UptoSaid'. A law counts once. -/
mutual
def uptoBulk {H : Type} : DataW H → Nat
  | .lit (.string bytes) => bytes.length + 1
  | .lit _ => 1
  | .nil => 1
  | .ptr d => uptoBulk d + 1
  | .slice elems spare => uptoBulkAll elems + uptoBulkAll spare + 1
  | .agg parts => uptoBulkAll parts + 1
  | .iface _ d => uptoBulk d + 1
  | .map entries => uptoBulkEntries entries + 1
  | .held _ => 1
def uptoBulkAll {H : Type} : List (DataW H) → Nat
  | [] => 0
  | d :: r => uptoBulk d + uptoBulkAll r
def uptoBulkEntries {H : Type} : List (Lit × DataW H) → Nat
  | [] => 0
  | x :: r => uptoBulkEntry x + uptoBulkEntries r
def uptoBulkEntry {H : Type} : Lit × DataW H → Nat
  | (.string bytes, d) => bytes.length + uptoBulk d + 1
  | (_, d) => uptoBulk d + 1
 end
def uptoSmall : (H : Type) → List (DataW H) → Bool := fun _ ds => decide (uptoBulkAll ds ≤ 1048576)
def OpenSpec.upto (s : _root_.Go.ChangeSpec) : _root_.Go.OpenSpec := { _root_.Go.OpenSpec.ofChange s with cond := some uptoSmall }

/-- 'accountinglaw34.FifoSteps', WHERE WHAT IT READS IS OF BULK AT MOST 1048576: true; the input reads as it did. -/
def fifoStepsUptoRow : OpenClaim := { program := "ytclohjmakcfikaadoor", sum := "f2a705b98c20b6fffdade5b257e22f4041022f194b646ef4995e8bcc526e4476", func := "accounting/accountinglaw34.FifoSteps", spec := "fifoSteps", unfollowed := true, recurses := true, named := ["accounting/days.lengths"], apart := false, laid := [("accounting/days.lengths", laid_accounting_days_lengths)], narrowed := true }
def FifoStepsUptoSaid : Prop := fifoStepsUptoRow.holds Tryd.pinned (OpenSpec.upto fifoStepsSpec)

/-- 'accountinglaw34.FifoSums', WHERE WHAT IT READS IS OF BULK AT MOST 1048576: true; the input reads as it did. -/
def fifoSumsUptoRow : OpenClaim := { program := "ytclohjmakcfikaadoor", sum := "f2a705b98c20b6fffdade5b257e22f4041022f194b646ef4995e8bcc526e4476", func := "accounting/accountinglaw34.FifoSums", spec := "fifoSums", unfollowed := true, recurses := true, named := ["accounting/days.lengths"], apart := false, laid := [("accounting/days.lengths", laid_accounting_days_lengths)], narrowed := true }
def FifoSumsUptoSaid : Prop := fifoSumsUptoRow.holds Tryd.pinned (OpenSpec.upto fifoSumsSpec)

/-- 'accountinglaw34.FifoOldest', WHERE WHAT IT READS IS OF BULK AT MOST 1048576: true; the input reads as it did. -/
def fifoOldestUptoRow : OpenClaim := { program := "ytclohjmakcfikaadoor", sum := "f2a705b98c20b6fffdade5b257e22f4041022f194b646ef4995e8bcc526e4476", func := "accounting/accountinglaw34.FifoOldest", spec := "fifoOldest", unfollowed := true, recurses := true, named := ["accounting/days.lengths"], apart := false, laid := [("accounting/days.lengths", laid_accounting_days_lengths)], narrowed := true }
def FifoOldestUptoSaid : Prop := fifoOldestUptoRow.holds Tryd.pinned (OpenSpec.upto fifoOldestSpec)

/-- 'accountinglaw34.FifoEmpty', WHERE WHAT IT READS IS OF BULK AT MOST 1048576: true; the input reads as it did. -/
def fifoEmptyUptoRow : OpenClaim := { program := "ytclohjmakcfikaadoor", sum := "f2a705b98c20b6fffdade5b257e22f4041022f194b646ef4995e8bcc526e4476", func := "accounting/accountinglaw34.FifoEmpty", spec := "fifoEmpty", unfollowed := true, recurses := true, named := ["accounting/days.lengths"], apart := false, laid := [("accounting/days.lengths", laid_accounting_days_lengths)], narrowed := true }
def FifoEmptyUptoSaid : Prop := fifoEmptyUptoRow.holds Tryd.pinned (OpenSpec.upto fifoEmptySpec)

/-- 'accountinglaw34.FifoUndo', WHERE WHAT IT READS IS OF BULK AT MOST 1048576: true; the input reads as it did. -/
def fifoUndoUptoRow : OpenClaim := { program := "ytclohjmakcfikaadoor", sum := "f2a705b98c20b6fffdade5b257e22f4041022f194b646ef4995e8bcc526e4476", func := "accounting/accountinglaw34.FifoUndo", spec := "fifoUndo", unfollowed := true, recurses := true, named := ["accounting/days.lengths"], apart := false, laid := [("accounting/days.lengths", laid_accounting_days_lengths)], narrowed := true }
def FifoUndoUptoSaid : Prop := fifoUndoUptoRow.holds Tryd.pinned (OpenSpec.upto fifoUndoSpec)

/-- 'accountinglaw34.FifoKeeps', WHERE WHAT IT READS IS OF BULK AT MOST 1048576: true; the input reads as it did. -/
def fifoKeepsUptoRow : OpenClaim := { program := "ytclohjmakcfikaadoor", sum := "f2a705b98c20b6fffdade5b257e22f4041022f194b646ef4995e8bcc526e4476", func := "accounting/accountinglaw34.FifoKeeps", spec := "fifoKeeps", unfollowed := true, recurses := true, named := ["accounting/days.lengths"], apart := false, laid := [("accounting/days.lengths", laid_accounting_days_lengths)], narrowed := true }
def FifoKeepsUptoSaid : Prop := fifoKeepsUptoRow.holds Tryd.pinned (OpenSpec.upto fifoKeepsSpec)

/-- 'accountinglaw34.FifoAny', WHERE WHAT IT READS IS OF BULK AT MOST 1048576: true; the input reads as it did. -/
def fifoAnyUptoRow : OpenClaim := { program := "ytclohjmakcfikaadoor", sum := "f2a705b98c20b6fffdade5b257e22f4041022f194b646ef4995e8bcc526e4476", func := "accounting/accountinglaw34.FifoAny", spec := "fifoAny", unfollowed := true, recurses := true, named := ["accounting/days.lengths"], apart := false, laid := [("accounting/days.lengths", laid_accounting_days_lengths)], narrowed := true }
def FifoAnyUptoSaid : Prop := fifoAnyUptoRow.holds Tryd.pinned (OpenSpec.upto fifoAnySpec)

end Rows
end Go.Proofs.YtclohjmakcfikaaDoor
