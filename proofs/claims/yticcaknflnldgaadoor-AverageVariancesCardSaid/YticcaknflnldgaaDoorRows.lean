/-
  NARROWER THAN 'FOR EVERY INPUT', by the rows' own cells (each row's printed sentence says how): AverageSteps: laid · AverageSums: laid · AverageVariances: laid · AverageReturned: laid · AverageLots: laid · AverageOwn: laid · AverageNear: laid.
  DERIVED. THE GIVEN ROWS OF THIS SEAT. 7 by the template 'for every input the law returns true; each argument reads behind the call as it read before'; 0 by the template 'total and deterministic' (their statements: YticcaknflnldgaaDoorTotals.lean).
  GIVEN WITH THE SEED: the statements are not yours to turn. If you find one false, say at which input.
  Laid BY PROGRAM, IN A SANDBOX (cutbox-rows.mjs): the forced cells as the released guide's own fill.sh prints them over the translation dd4e0cf6d2fec264… (all of the seat's roots in one cut). By AI agents, Wed Nov 11 2026. No macro, syntax, notation, axiom, sorry.
-/
import Derived.Test.YticcaknflnldgaaDoorChecked
import GoSem.Claim
import GoSem.ClaimJoined
import GoSem.ClaimMapViews
import Derived.JoinedTies
import Derived.KernelRfl
namespace Go.Proofs.YticcaknflnldgaaDoor
/- THE CELL 'sum', in the pinned program and in every row, IS THE sha256 OF THE DUMP (.gsa) THAT YticcaknflnldgaaDoorProg.lean LOADS. Nothing in Lean hashes anything: it is a label: what it is worth is what the hold of that sum in a sandbox is worth. -/
noncomputable def Tryd.pinned : Pinned := { name := "yticcaknflnldgaadoor", sum := "dd4e0cf6d2fec2644d567e1d8f167414769b31ce29cac39e97013ccb9fbae129", checked := Tryd.checked }
namespace Rows
def none {H : Type} : Left H := { results := [], args := [] }

/- WHAT THE LISTED PACKAGE-LEVEL VARIABLES READ AS WHEN THE CALL BEGINS. Each datum BY PROGRAM (the guide's laid-datum.mjs) off the statement by which the dump's own 'gosem.cut.vars' lays the variable. In a bare row this is a premise. The card (YticcaknflnldgaaDoorCards.lean) ties it to the program's text. -/
def laid_accounting_days_lengths {H : Type} : DataW H := .agg [.lit (.int .i64 31), .lit (.int .i64 28), .lit (.int .i64 31), .lit (.int .i64 30), .lit (.int .i64 31), .lit (.int .i64 30), .lit (.int .i64 31), .lit (.int .i64 31), .lit (.int .i64 30), .lit (.int .i64 31), .lit (.int .i64 30), .lit (.int .i64 31)]

/-- 'accountinglaw35.AverageSteps': WHATEVER THE INPUT: true; the input reads as it did. -/
def averageStepsSpec : ChangeSpec := { name := "averageSteps", fn := fun _ => fun
  | [d] => { results := [.lit (.bool true)], args := [d] }
  | _ => none }
def averageStepsRow : OpenClaim := { program := "yticcaknflnldgaadoor", sum := "dd4e0cf6d2fec2644d567e1d8f167414769b31ce29cac39e97013ccb9fbae129", func := "accounting/accountinglaw35.AverageSteps", spec := "averageSteps", unfollowed := true, recurses := true, named := ["accounting/days.lengths"], apart := false, laid := [("accounting/days.lengths", laid_accounting_days_lengths)] }
def AverageStepsSaid : Prop := averageStepsRow.holds Tryd.pinned (OpenSpec.ofChange averageStepsSpec)

/-- ITS FALSE NEIGHBOUR: 'it returns false'. Refute it at one input. -/
def averageStepsWrong : ChangeSpec := { name := "averageSteps", fn := fun _ => fun
  | [d] => { results := [.lit (.bool false)], args := [d] }
  | _ => none }
def AverageStepsWrongFalsely : Prop := averageStepsRow.holds Tryd.pinned (OpenSpec.ofChange averageStepsWrong)

/-- 'accountinglaw35.AverageSums': WHATEVER THE INPUT: true; the input reads as it did. -/
def averageSumsSpec : ChangeSpec := { name := "averageSums", fn := fun _ => fun
  | [d] => { results := [.lit (.bool true)], args := [d] }
  | _ => none }
def averageSumsRow : OpenClaim := { program := "yticcaknflnldgaadoor", sum := "dd4e0cf6d2fec2644d567e1d8f167414769b31ce29cac39e97013ccb9fbae129", func := "accounting/accountinglaw35.AverageSums", spec := "averageSums", unfollowed := true, recurses := true, named := ["accounting/days.lengths"], apart := false, laid := [("accounting/days.lengths", laid_accounting_days_lengths)] }
def AverageSumsSaid : Prop := averageSumsRow.holds Tryd.pinned (OpenSpec.ofChange averageSumsSpec)

/-- ITS FALSE NEIGHBOUR: 'it returns false'. Refute it at one input. -/
def averageSumsWrong : ChangeSpec := { name := "averageSums", fn := fun _ => fun
  | [d] => { results := [.lit (.bool false)], args := [d] }
  | _ => none }
def AverageSumsWrongFalsely : Prop := averageSumsRow.holds Tryd.pinned (OpenSpec.ofChange averageSumsWrong)

/-- 'accountinglaw35.AverageVariances': WHATEVER THE INPUT: true; the input reads as it did. -/
def averageVariancesSpec : ChangeSpec := { name := "averageVariances", fn := fun _ => fun
  | [d1, d2] => { results := [.lit (.bool true)], args := [d1, d2] }
  | _ => none }
def averageVariancesRow : OpenClaim := { program := "yticcaknflnldgaadoor", sum := "dd4e0cf6d2fec2644d567e1d8f167414769b31ce29cac39e97013ccb9fbae129", func := "accounting/accountinglaw35.AverageVariances", spec := "averageVariances", unfollowed := true, recurses := true, named := ["accounting/days.lengths"], apart := false, laid := [("accounting/days.lengths", laid_accounting_days_lengths)] }
def AverageVariancesSaid : Prop := averageVariancesRow.holds Tryd.pinned (OpenSpec.ofChange averageVariancesSpec)

/-- ITS FALSE NEIGHBOUR: 'it returns false'. Refute it at one input. -/
def averageVariancesWrong : ChangeSpec := { name := "averageVariances", fn := fun _ => fun
  | [d1, d2] => { results := [.lit (.bool false)], args := [d1, d2] }
  | _ => none }
def AverageVariancesWrongFalsely : Prop := averageVariancesRow.holds Tryd.pinned (OpenSpec.ofChange averageVariancesWrong)

/-- 'accountinglaw35.AverageReturned': WHATEVER THE INPUT: true; the input reads as it did. -/
def averageReturnedSpec : ChangeSpec := { name := "averageReturned", fn := fun _ => fun
  | [d1, d2, d3] => { results := [.lit (.bool true)], args := [d1, d2, d3] }
  | _ => none }
def averageReturnedRow : OpenClaim := { program := "yticcaknflnldgaadoor", sum := "dd4e0cf6d2fec2644d567e1d8f167414769b31ce29cac39e97013ccb9fbae129", func := "accounting/accountinglaw35.AverageReturned", spec := "averageReturned", unfollowed := true, recurses := true, named := ["accounting/days.lengths"], apart := false, laid := [("accounting/days.lengths", laid_accounting_days_lengths)] }
def AverageReturnedSaid : Prop := averageReturnedRow.holds Tryd.pinned (OpenSpec.ofChange averageReturnedSpec)

/-- ITS FALSE NEIGHBOUR: 'it returns false'. Refute it at one input. -/
def averageReturnedWrong : ChangeSpec := { name := "averageReturned", fn := fun _ => fun
  | [d1, d2, d3] => { results := [.lit (.bool false)], args := [d1, d2, d3] }
  | _ => none }
def AverageReturnedWrongFalsely : Prop := averageReturnedRow.holds Tryd.pinned (OpenSpec.ofChange averageReturnedWrong)

/-- 'accountinglaw35.AverageLots': WHATEVER THE INPUT: true; the input reads as it did. -/
def averageLotsSpec : ChangeSpec := { name := "averageLots", fn := fun _ => fun
  | [d] => { results := [.lit (.bool true)], args := [d] }
  | _ => none }
def averageLotsRow : OpenClaim := { program := "yticcaknflnldgaadoor", sum := "dd4e0cf6d2fec2644d567e1d8f167414769b31ce29cac39e97013ccb9fbae129", func := "accounting/accountinglaw35.AverageLots", spec := "averageLots", unfollowed := true, recurses := true, named := ["accounting/days.lengths"], apart := false, laid := [("accounting/days.lengths", laid_accounting_days_lengths)] }
def AverageLotsSaid : Prop := averageLotsRow.holds Tryd.pinned (OpenSpec.ofChange averageLotsSpec)

/-- ITS FALSE NEIGHBOUR: 'it returns false'. Refute it at one input. -/
def averageLotsWrong : ChangeSpec := { name := "averageLots", fn := fun _ => fun
  | [d] => { results := [.lit (.bool false)], args := [d] }
  | _ => none }
def AverageLotsWrongFalsely : Prop := averageLotsRow.holds Tryd.pinned (OpenSpec.ofChange averageLotsWrong)

/-- 'accountinglaw35.AverageOwn': WHATEVER THE INPUT: true; the input reads as it did. -/
def averageOwnSpec : ChangeSpec := { name := "averageOwn", fn := fun _ => fun
  | [d1, d2] => { results := [.lit (.bool true)], args := [d1, d2] }
  | _ => none }
def averageOwnRow : OpenClaim := { program := "yticcaknflnldgaadoor", sum := "dd4e0cf6d2fec2644d567e1d8f167414769b31ce29cac39e97013ccb9fbae129", func := "accounting/accountinglaw35.AverageOwn", spec := "averageOwn", unfollowed := true, recurses := true, named := ["accounting/days.lengths"], apart := false, laid := [("accounting/days.lengths", laid_accounting_days_lengths)] }
def AverageOwnSaid : Prop := averageOwnRow.holds Tryd.pinned (OpenSpec.ofChange averageOwnSpec)

/-- ITS FALSE NEIGHBOUR: 'it returns false'. Refute it at one input. -/
def averageOwnWrong : ChangeSpec := { name := "averageOwn", fn := fun _ => fun
  | [d1, d2] => { results := [.lit (.bool false)], args := [d1, d2] }
  | _ => none }
def AverageOwnWrongFalsely : Prop := averageOwnRow.holds Tryd.pinned (OpenSpec.ofChange averageOwnWrong)

/-- 'accountinglaw35.AverageNear': WHATEVER THE INPUT: true; the input reads as it did. -/
def averageNearSpec : ChangeSpec := { name := "averageNear", fn := fun _ => fun
  | [d1, d2] => { results := [.lit (.bool true)], args := [d1, d2] }
  | _ => none }
def averageNearRow : OpenClaim := { program := "yticcaknflnldgaadoor", sum := "dd4e0cf6d2fec2644d567e1d8f167414769b31ce29cac39e97013ccb9fbae129", func := "accounting/accountinglaw35.AverageNear", spec := "averageNear", unfollowed := true, recurses := true, named := ["accounting/days.lengths"], apart := false, laid := [("accounting/days.lengths", laid_accounting_days_lengths)] }
def AverageNearSaid : Prop := averageNearRow.holds Tryd.pinned (OpenSpec.ofChange averageNearSpec)

/-- ITS FALSE NEIGHBOUR: 'it returns false'. Refute it at one input. -/
def averageNearWrong : ChangeSpec := { name := "averageNear", fn := fun _ => fun
  | [d1, d2] => { results := [.lit (.bool false)], args := [d1, d2] }
  | _ => none }
def AverageNearWrongFalsely : Prop := averageNearRow.holds Tryd.pinned (OpenSpec.ofChange averageNearWrong)

/- THE SECOND FORM. 'bulk': how many values and letters a reading holds, each counted each time it is reached (what is shared counts as often as it is met; a slice's spare places count too). A statement '..UptoSaid' is the law's where the arguments, and the package variables that the reading takes, are together of bulk at most 1048576: NARROWER than '..Said'. Prove '..Said' where nothing that the law and all that it calls make is longer than what came in: it says more and counts as full. Else prove '..UptoSaid'. A law counts once. -/
mutual
def uptoBulk {H : Type} : DataW H → Nat
  | .lit (.string bytes) => bytes.length + 1
  | .lit _ => 1
  | .nil => 1
  | .ptr d => uptoBulk d + 1
  | .slice elems spare => uptoBulkAll elems + uptoBulkAll spare + 1
  | .agg parts => uptoBulkAll parts + 1
  | .iface _ d => uptoBulk d + 1
  | .map entries => uptoBulkEntries entries + 1
  | .held _ => 1
def uptoBulkAll {H : Type} : List (DataW H) → Nat
  | [] => 0
  | d :: r => uptoBulk d + uptoBulkAll r
def uptoBulkEntries {H : Type} : List (Lit × DataW H) → Nat
  | [] => 0
  | x :: r => uptoBulkEntry x + uptoBulkEntries r
def uptoBulkEntry {H : Type} : Lit × DataW H → Nat
  | (.string bytes, d) => bytes.length + uptoBulk d + 1
  | (_, d) => uptoBulk d + 1
 end
def uptoSmall : (H : Type) → List (DataW H) → Bool := fun _ ds => decide (uptoBulkAll ds ≤ 1048576)
def OpenSpec.upto (s : _root_.Go.ChangeSpec) : _root_.Go.OpenSpec := { _root_.Go.OpenSpec.ofChange s with cond := some uptoSmall }

/-- 'accountinglaw35.AverageSteps', WHERE WHAT IT READS IS OF BULK AT MOST 1048576: true; the input reads as it did. -/
def averageStepsUptoRow : OpenClaim := { program := "yticcaknflnldgaadoor", sum := "dd4e0cf6d2fec2644d567e1d8f167414769b31ce29cac39e97013ccb9fbae129", func := "accounting/accountinglaw35.AverageSteps", spec := "averageSteps", unfollowed := true, recurses := true, named := ["accounting/days.lengths"], apart := false, laid := [("accounting/days.lengths", laid_accounting_days_lengths)], narrowed := true }
def AverageStepsUptoSaid : Prop := averageStepsUptoRow.holds Tryd.pinned (OpenSpec.upto averageStepsSpec)

/-- 'accountinglaw35.AverageSums', WHERE WHAT IT READS IS OF BULK AT MOST 1048576: true; the input reads as it did. -/
def averageSumsUptoRow : OpenClaim := { program := "yticcaknflnldgaadoor", sum := "dd4e0cf6d2fec2644d567e1d8f167414769b31ce29cac39e97013ccb9fbae129", func := "accounting/accountinglaw35.AverageSums", spec := "averageSums", unfollowed := true, recurses := true, named := ["accounting/days.lengths"], apart := false, laid := [("accounting/days.lengths", laid_accounting_days_lengths)], narrowed := true }
def AverageSumsUptoSaid : Prop := averageSumsUptoRow.holds Tryd.pinned (OpenSpec.upto averageSumsSpec)

/-- 'accountinglaw35.AverageVariances', WHERE WHAT IT READS IS OF BULK AT MOST 1048576: true; the input reads as it did. -/
def averageVariancesUptoRow : OpenClaim := { program := "yticcaknflnldgaadoor", sum := "dd4e0cf6d2fec2644d567e1d8f167414769b31ce29cac39e97013ccb9fbae129", func := "accounting/accountinglaw35.AverageVariances", spec := "averageVariances", unfollowed := true, recurses := true, named := ["accounting/days.lengths"], apart := false, laid := [("accounting/days.lengths", laid_accounting_days_lengths)], narrowed := true }
def AverageVariancesUptoSaid : Prop := averageVariancesUptoRow.holds Tryd.pinned (OpenSpec.upto averageVariancesSpec)

/-- 'accountinglaw35.AverageReturned', WHERE WHAT IT READS IS OF BULK AT MOST 1048576: true; the input reads as it did. -/
def averageReturnedUptoRow : OpenClaim := { program := "yticcaknflnldgaadoor", sum := "dd4e0cf6d2fec2644d567e1d8f167414769b31ce29cac39e97013ccb9fbae129", func := "accounting/accountinglaw35.AverageReturned", spec := "averageReturned", unfollowed := true, recurses := true, named := ["accounting/days.lengths"], apart := false, laid := [("accounting/days.lengths", laid_accounting_days_lengths)], narrowed := true }
def AverageReturnedUptoSaid : Prop := averageReturnedUptoRow.holds Tryd.pinned (OpenSpec.upto averageReturnedSpec)

/-- 'accountinglaw35.AverageLots', WHERE WHAT IT READS IS OF BULK AT MOST 1048576: true; the input reads as it did. -/
def averageLotsUptoRow : OpenClaim := { program := "yticcaknflnldgaadoor", sum := "dd4e0cf6d2fec2644d567e1d8f167414769b31ce29cac39e97013ccb9fbae129", func := "accounting/accountinglaw35.AverageLots", spec := "averageLots", unfollowed := true, recurses := true, named := ["accounting/days.lengths"], apart := false, laid := [("accounting/days.lengths", laid_accounting_days_lengths)], narrowed := true }
def AverageLotsUptoSaid : Prop := averageLotsUptoRow.holds Tryd.pinned (OpenSpec.upto averageLotsSpec)

/-- 'accountinglaw35.AverageOwn', WHERE WHAT IT READS IS OF BULK AT MOST 1048576: true; the input reads as it did. -/
def averageOwnUptoRow : OpenClaim := { program := "yticcaknflnldgaadoor", sum := "dd4e0cf6d2fec2644d567e1d8f167414769b31ce29cac39e97013ccb9fbae129", func := "accounting/accountinglaw35.AverageOwn", spec := "averageOwn", unfollowed := true, recurses := true, named := ["accounting/days.lengths"], apart := false, laid := [("accounting/days.lengths", laid_accounting_days_lengths)], narrowed := true }
def AverageOwnUptoSaid : Prop := averageOwnUptoRow.holds Tryd.pinned (OpenSpec.upto averageOwnSpec)

/-- 'accountinglaw35.AverageNear', WHERE WHAT IT READS IS OF BULK AT MOST 1048576: true; the input reads as it did. -/
def averageNearUptoRow : OpenClaim := { program := "yticcaknflnldgaadoor", sum := "dd4e0cf6d2fec2644d567e1d8f167414769b31ce29cac39e97013ccb9fbae129", func := "accounting/accountinglaw35.AverageNear", spec := "averageNear", unfollowed := true, recurses := true, named := ["accounting/days.lengths"], apart := false, laid := [("accounting/days.lengths", laid_accounting_days_lengths)], narrowed := true }
def AverageNearUptoSaid : Prop := averageNearUptoRow.holds Tryd.pinned (OpenSpec.upto averageNearSpec)

end Rows
end Go.Proofs.YticcaknflnldgaaDoor
