/-
  NARROWER THAN 'FOR EVERY INPUT', by the rows' own cells (each row's printed sentence says how): DaysDates: laid · DaysMonths: laid · DaysAdds: laid · DaysReturns: laid · DaysFollow: laid · DaysTexts: laid · DaysParses: laid · DaysNumbers: laid.
  DERIVED. THE GIVEN ROWS OF THIS SEAT. 8 by the template 'for every input the law returns true; each argument reads behind the call as it read before'; 0 by the template 'total and deterministic' (their statements: YtkjacjkmmboklaaDoorTotals.lean).
  GIVEN WITH THE SEED: the statements are not yours to turn. If you find one false, say at which input.
  Laid BY PROGRAM, IN A SANDBOX (cutbox-rows.mjs): the forced cells as the released guide's own fill.sh prints them over the translation ce7fc9e510c36777… (all of the seat's roots in one cut). By AI agents, Wed Nov 11 2026. No macro, syntax, notation, axiom, sorry.
-/
import Derived.Test.YtkjacjkmmboklaaDoorChecked
import GoSem.Claim
import GoSem.ClaimJoined
import GoSem.ClaimMapViews
import Derived.JoinedTies
import Derived.KernelRfl
namespace Go.Proofs.YtkjacjkmmboklaaDoor
/- THE CELL 'sum', in the pinned program and in every row, IS THE sha256 OF THE DUMP (.gsa) THAT YtkjacjkmmboklaaDoorProg.lean LOADS. Nothing in Lean hashes anything: it is a label: what it is worth is what the hold of that sum in a sandbox is worth. -/
noncomputable def Tryd.pinned : Pinned := { name := "ytkjacjkmmboklaadoor", sum := "ce7fc9e510c36777b8754f6c3f0228b336e3daa01eb113a9beeff540a558d345", checked := Tryd.checked }
namespace Rows
def none {H : Type} : Left H := { results := [], args := [] }

/- WHAT THE LISTED PACKAGE-LEVEL VARIABLES READ AS WHEN THE CALL BEGINS. Each datum BY PROGRAM (the guide's laid-datum.mjs) off the statement by which the dump's own 'gosem.cut.vars' lays the variable. In a bare row this is a premise. The card (YtkjacjkmmboklaaDoorCards.lean) ties it to the program's text. -/
def laid_accounting_days_lengths {H : Type} : DataW H := .agg [.lit (.int .i64 31), .lit (.int .i64 28), .lit (.int .i64 31), .lit (.int .i64 30), .lit (.int .i64 31), .lit (.int .i64 30), .lit (.int .i64 31), .lit (.int .i64 31), .lit (.int .i64 30), .lit (.int .i64 31), .lit (.int .i64 30), .lit (.int .i64 31)]

/-- 'accountinglaw04.DaysDates': WHATEVER THE INPUT: true; the input reads as it did. -/
def daysDatesSpec : ChangeSpec := { name := "daysDates", fn := fun _ => fun
  | [d] => { results := [.lit (.bool true)], args := [d] }
  | _ => none }
def daysDatesRow : OpenClaim := { program := "ytkjacjkmmboklaadoor", sum := "ce7fc9e510c36777b8754f6c3f0228b336e3daa01eb113a9beeff540a558d345", func := "accounting/accountinglaw04.DaysDates", spec := "daysDates", named := ["accounting/days.lengths"], apart := false, laid := [("accounting/days.lengths", laid_accounting_days_lengths)] }
def DaysDatesSaid : Prop := daysDatesRow.holds Tryd.pinned (OpenSpec.ofChange daysDatesSpec)

/-- ITS FALSE NEIGHBOUR: 'it returns false'. Refute it at one input. -/
def daysDatesWrong : ChangeSpec := { name := "daysDates", fn := fun _ => fun
  | [d] => { results := [.lit (.bool false)], args := [d] }
  | _ => none }
def DaysDatesWrongFalsely : Prop := daysDatesRow.holds Tryd.pinned (OpenSpec.ofChange daysDatesWrong)

/-- 'accountinglaw04.DaysMonths': WHATEVER THE INPUT: true; the input reads as it did. -/
def daysMonthsSpec : ChangeSpec := { name := "daysMonths", fn := fun _ => fun
  | [d1, d2] => { results := [.lit (.bool true)], args := [d1, d2] }
  | _ => none }
def daysMonthsRow : OpenClaim := { program := "ytkjacjkmmboklaadoor", sum := "ce7fc9e510c36777b8754f6c3f0228b336e3daa01eb113a9beeff540a558d345", func := "accounting/accountinglaw04.DaysMonths", spec := "daysMonths", named := ["accounting/days.lengths"], apart := false, laid := [("accounting/days.lengths", laid_accounting_days_lengths)] }
def DaysMonthsSaid : Prop := daysMonthsRow.holds Tryd.pinned (OpenSpec.ofChange daysMonthsSpec)

/-- ITS FALSE NEIGHBOUR: 'it returns false'. Refute it at one input. -/
def daysMonthsWrong : ChangeSpec := { name := "daysMonths", fn := fun _ => fun
  | [d1, d2] => { results := [.lit (.bool false)], args := [d1, d2] }
  | _ => none }
def DaysMonthsWrongFalsely : Prop := daysMonthsRow.holds Tryd.pinned (OpenSpec.ofChange daysMonthsWrong)

/-- 'accountinglaw04.DaysAdds': WHATEVER THE INPUT: true; the input reads as it did. -/
def daysAddsSpec : ChangeSpec := { name := "daysAdds", fn := fun _ => fun
  | [d1, d2] => { results := [.lit (.bool true)], args := [d1, d2] }
  | _ => none }
def daysAddsRow : OpenClaim := { program := "ytkjacjkmmboklaadoor", sum := "ce7fc9e510c36777b8754f6c3f0228b336e3daa01eb113a9beeff540a558d345", func := "accounting/accountinglaw04.DaysAdds", spec := "daysAdds", named := ["accounting/days.lengths"], apart := false, laid := [("accounting/days.lengths", laid_accounting_days_lengths)] }
def DaysAddsSaid : Prop := daysAddsRow.holds Tryd.pinned (OpenSpec.ofChange daysAddsSpec)

/-- ITS FALSE NEIGHBOUR: 'it returns false'. Refute it at one input. -/
def daysAddsWrong : ChangeSpec := { name := "daysAdds", fn := fun _ => fun
  | [d1, d2] => { results := [.lit (.bool false)], args := [d1, d2] }
  | _ => none }
def DaysAddsWrongFalsely : Prop := daysAddsRow.holds Tryd.pinned (OpenSpec.ofChange daysAddsWrong)

/-- 'accountinglaw04.DaysReturns': WHATEVER THE INPUT: true; the input reads as it did. -/
def daysReturnsSpec : ChangeSpec := { name := "daysReturns", fn := fun _ => fun
  | [d1, d2] => { results := [.lit (.bool true)], args := [d1, d2] }
  | _ => none }
def daysReturnsRow : OpenClaim := { program := "ytkjacjkmmboklaadoor", sum := "ce7fc9e510c36777b8754f6c3f0228b336e3daa01eb113a9beeff540a558d345", func := "accounting/accountinglaw04.DaysReturns", spec := "daysReturns", named := ["accounting/days.lengths"], apart := false, laid := [("accounting/days.lengths", laid_accounting_days_lengths)] }
def DaysReturnsSaid : Prop := daysReturnsRow.holds Tryd.pinned (OpenSpec.ofChange daysReturnsSpec)

/-- ITS FALSE NEIGHBOUR: 'it returns false'. Refute it at one input. -/
def daysReturnsWrong : ChangeSpec := { name := "daysReturns", fn := fun _ => fun
  | [d1, d2] => { results := [.lit (.bool false)], args := [d1, d2] }
  | _ => none }
def DaysReturnsWrongFalsely : Prop := daysReturnsRow.holds Tryd.pinned (OpenSpec.ofChange daysReturnsWrong)

/-- 'accountinglaw04.DaysFollow': WHATEVER THE INPUT: true; the input reads as it did. -/
def daysFollowSpec : ChangeSpec := { name := "daysFollow", fn := fun _ => fun
  | [d] => { results := [.lit (.bool true)], args := [d] }
  | _ => none }
def daysFollowRow : OpenClaim := { program := "ytkjacjkmmboklaadoor", sum := "ce7fc9e510c36777b8754f6c3f0228b336e3daa01eb113a9beeff540a558d345", func := "accounting/accountinglaw04.DaysFollow", spec := "daysFollow", named := ["accounting/days.lengths"], apart := false, laid := [("accounting/days.lengths", laid_accounting_days_lengths)] }
def DaysFollowSaid : Prop := daysFollowRow.holds Tryd.pinned (OpenSpec.ofChange daysFollowSpec)

/-- ITS FALSE NEIGHBOUR: 'it returns false'. Refute it at one input. -/
def daysFollowWrong : ChangeSpec := { name := "daysFollow", fn := fun _ => fun
  | [d] => { results := [.lit (.bool false)], args := [d] }
  | _ => none }
def DaysFollowWrongFalsely : Prop := daysFollowRow.holds Tryd.pinned (OpenSpec.ofChange daysFollowWrong)

/-- 'accountinglaw04.DaysTexts': WHATEVER THE INPUT: true; the input reads as it did. -/
def daysTextsSpec : ChangeSpec := { name := "daysTexts", fn := fun _ => fun
  | [d] => { results := [.lit (.bool true)], args := [d] }
  | _ => none }
def daysTextsRow : OpenClaim := { program := "ytkjacjkmmboklaadoor", sum := "ce7fc9e510c36777b8754f6c3f0228b336e3daa01eb113a9beeff540a558d345", func := "accounting/accountinglaw04.DaysTexts", spec := "daysTexts", named := ["accounting/days.lengths"], apart := false, laid := [("accounting/days.lengths", laid_accounting_days_lengths)] }
def DaysTextsSaid : Prop := daysTextsRow.holds Tryd.pinned (OpenSpec.ofChange daysTextsSpec)

/-- ITS FALSE NEIGHBOUR: 'it returns false'. Refute it at one input. -/
def daysTextsWrong : ChangeSpec := { name := "daysTexts", fn := fun _ => fun
  | [d] => { results := [.lit (.bool false)], args := [d] }
  | _ => none }
def DaysTextsWrongFalsely : Prop := daysTextsRow.holds Tryd.pinned (OpenSpec.ofChange daysTextsWrong)

/-- 'accountinglaw04.DaysParses': WHATEVER THE INPUT: true; the input reads as it did. -/
def daysParsesSpec : ChangeSpec := { name := "daysParses", fn := fun _ => fun
  | [d] => { results := [.lit (.bool true)], args := [d] }
  | _ => none }
def daysParsesRow : OpenClaim := { program := "ytkjacjkmmboklaadoor", sum := "ce7fc9e510c36777b8754f6c3f0228b336e3daa01eb113a9beeff540a558d345", func := "accounting/accountinglaw04.DaysParses", spec := "daysParses", named := ["accounting/days.lengths"], apart := false, laid := [("accounting/days.lengths", laid_accounting_days_lengths)] }
def DaysParsesSaid : Prop := daysParsesRow.holds Tryd.pinned (OpenSpec.ofChange daysParsesSpec)

/-- ITS FALSE NEIGHBOUR: 'it returns false'. Refute it at one input. -/
def daysParsesWrong : ChangeSpec := { name := "daysParses", fn := fun _ => fun
  | [d] => { results := [.lit (.bool false)], args := [d] }
  | _ => none }
def DaysParsesWrongFalsely : Prop := daysParsesRow.holds Tryd.pinned (OpenSpec.ofChange daysParsesWrong)

/-- 'accountinglaw04.DaysNumbers': WHATEVER THE INPUT: true; the input reads as it did. -/
def daysNumbersSpec : ChangeSpec := { name := "daysNumbers", fn := fun _ => fun
  | [d] => { results := [.lit (.bool true)], args := [d] }
  | _ => none }
def daysNumbersRow : OpenClaim := { program := "ytkjacjkmmboklaadoor", sum := "ce7fc9e510c36777b8754f6c3f0228b336e3daa01eb113a9beeff540a558d345", func := "accounting/accountinglaw04.DaysNumbers", spec := "daysNumbers", named := ["accounting/days.lengths"], apart := false, laid := [("accounting/days.lengths", laid_accounting_days_lengths)] }
def DaysNumbersSaid : Prop := daysNumbersRow.holds Tryd.pinned (OpenSpec.ofChange daysNumbersSpec)

/-- ITS FALSE NEIGHBOUR: 'it returns false'. Refute it at one input. -/
def daysNumbersWrong : ChangeSpec := { name := "daysNumbers", fn := fun _ => fun
  | [d] => { results := [.lit (.bool false)], args := [d] }
  | _ => none }
def DaysNumbersWrongFalsely : Prop := daysNumbersRow.holds Tryd.pinned (OpenSpec.ofChange daysNumbersWrong)

/- THE SECOND FORM. 'bulk': how many values and letters a reading holds, each counted each time it is reached (what is shared counts as often as it is met; a slice's spare places count too). A statement '..UptoSaid' is the law's where the arguments, and the package variables that the reading takes, are together of bulk at most 1048576: NARROWER than '..Said'. Prove '..Said' where nothing that the law and all that it calls make is longer than what came in: it says more and counts as full. Else prove '..UptoSaid'. A law counts once. -/
mutual
def uptoBulk {H : Type} : DataW H → Nat
  | .lit (.string bytes) => bytes.length + 1
  | .lit _ => 1
  | .nil => 1
  | .ptr d => uptoBulk d + 1
  | .slice elems spare => uptoBulkAll elems + uptoBulkAll spare + 1
  | .agg parts => uptoBulkAll parts + 1
  | .iface _ d => uptoBulk d + 1
  | .map entries => uptoBulkEntries entries + 1
  | .held _ => 1
def uptoBulkAll {H : Type} : List (DataW H) → Nat
  | [] => 0
  | d :: r => uptoBulk d + uptoBulkAll r
def uptoBulkEntries {H : Type} : List (Lit × DataW H) → Nat
  | [] => 0
  | x :: r => uptoBulkEntry x + uptoBulkEntries r
def uptoBulkEntry {H : Type} : Lit × DataW H → Nat
  | (.string bytes, d) => bytes.length + uptoBulk d + 1
  | (_, d) => uptoBulk d + 1
 end
def uptoSmall : (H : Type) → List (DataW H) → Bool := fun _ ds => decide (uptoBulkAll ds ≤ 1048576)
def OpenSpec.upto (s : _root_.Go.ChangeSpec) : _root_.Go.OpenSpec := { _root_.Go.OpenSpec.ofChange s with cond := some uptoSmall }

/-- 'accountinglaw04.DaysDates', WHERE WHAT IT READS IS OF BULK AT MOST 1048576: true; the input reads as it did. -/
def daysDatesUptoRow : OpenClaim := { program := "ytkjacjkmmboklaadoor", sum := "ce7fc9e510c36777b8754f6c3f0228b336e3daa01eb113a9beeff540a558d345", func := "accounting/accountinglaw04.DaysDates", spec := "daysDates", named := ["accounting/days.lengths"], apart := false, laid := [("accounting/days.lengths", laid_accounting_days_lengths)], narrowed := true }
def DaysDatesUptoSaid : Prop := daysDatesUptoRow.holds Tryd.pinned (OpenSpec.upto daysDatesSpec)

/-- 'accountinglaw04.DaysMonths', WHERE WHAT IT READS IS OF BULK AT MOST 1048576: true; the input reads as it did. -/
def daysMonthsUptoRow : OpenClaim := { program := "ytkjacjkmmboklaadoor", sum := "ce7fc9e510c36777b8754f6c3f0228b336e3daa01eb113a9beeff540a558d345", func := "accounting/accountinglaw04.DaysMonths", spec := "daysMonths", named := ["accounting/days.lengths"], apart := false, laid := [("accounting/days.lengths", laid_accounting_days_lengths)], narrowed := true }
def DaysMonthsUptoSaid : Prop := daysMonthsUptoRow.holds Tryd.pinned (OpenSpec.upto daysMonthsSpec)

/-- 'accountinglaw04.DaysAdds', WHERE WHAT IT READS IS OF BULK AT MOST 1048576: true; the input reads as it did. -/
def daysAddsUptoRow : OpenClaim := { program := "ytkjacjkmmboklaadoor", sum := "ce7fc9e510c36777b8754f6c3f0228b336e3daa01eb113a9beeff540a558d345", func := "accounting/accountinglaw04.DaysAdds", spec := "daysAdds", named := ["accounting/days.lengths"], apart := false, laid := [("accounting/days.lengths", laid_accounting_days_lengths)], narrowed := true }
def DaysAddsUptoSaid : Prop := daysAddsUptoRow.holds Tryd.pinned (OpenSpec.upto daysAddsSpec)

/-- 'accountinglaw04.DaysReturns', WHERE WHAT IT READS IS OF BULK AT MOST 1048576: true; the input reads as it did. -/
def daysReturnsUptoRow : OpenClaim := { program := "ytkjacjkmmboklaadoor", sum := "ce7fc9e510c36777b8754f6c3f0228b336e3daa01eb113a9beeff540a558d345", func := "accounting/accountinglaw04.DaysReturns", spec := "daysReturns", named := ["accounting/days.lengths"], apart := false, laid := [("accounting/days.lengths", laid_accounting_days_lengths)], narrowed := true }
def DaysReturnsUptoSaid : Prop := daysReturnsUptoRow.holds Tryd.pinned (OpenSpec.upto daysReturnsSpec)

/-- 'accountinglaw04.DaysFollow', WHERE WHAT IT READS IS OF BULK AT MOST 1048576: true; the input reads as it did. -/
def daysFollowUptoRow : OpenClaim := { program := "ytkjacjkmmboklaadoor", sum := "ce7fc9e510c36777b8754f6c3f0228b336e3daa01eb113a9beeff540a558d345", func := "accounting/accountinglaw04.DaysFollow", spec := "daysFollow", named := ["accounting/days.lengths"], apart := false, laid := [("accounting/days.lengths", laid_accounting_days_lengths)], narrowed := true }
def DaysFollowUptoSaid : Prop := daysFollowUptoRow.holds Tryd.pinned (OpenSpec.upto daysFollowSpec)

/-- 'accountinglaw04.DaysTexts', WHERE WHAT IT READS IS OF BULK AT MOST 1048576: true; the input reads as it did. -/
def daysTextsUptoRow : OpenClaim := { program := "ytkjacjkmmboklaadoor", sum := "ce7fc9e510c36777b8754f6c3f0228b336e3daa01eb113a9beeff540a558d345", func := "accounting/accountinglaw04.DaysTexts", spec := "daysTexts", named := ["accounting/days.lengths"], apart := false, laid := [("accounting/days.lengths", laid_accounting_days_lengths)], narrowed := true }
def DaysTextsUptoSaid : Prop := daysTextsUptoRow.holds Tryd.pinned (OpenSpec.upto daysTextsSpec)

/-- 'accountinglaw04.DaysParses', WHERE WHAT IT READS IS OF BULK AT MOST 1048576: true; the input reads as it did. -/
def daysParsesUptoRow : OpenClaim := { program := "ytkjacjkmmboklaadoor", sum := "ce7fc9e510c36777b8754f6c3f0228b336e3daa01eb113a9beeff540a558d345", func := "accounting/accountinglaw04.DaysParses", spec := "daysParses", named := ["accounting/days.lengths"], apart := false, laid := [("accounting/days.lengths", laid_accounting_days_lengths)], narrowed := true }
def DaysParsesUptoSaid : Prop := daysParsesUptoRow.holds Tryd.pinned (OpenSpec.upto daysParsesSpec)

/-- 'accountinglaw04.DaysNumbers', WHERE WHAT IT READS IS OF BULK AT MOST 1048576: true; the input reads as it did. -/
def daysNumbersUptoRow : OpenClaim := { program := "ytkjacjkmmboklaadoor", sum := "ce7fc9e510c36777b8754f6c3f0228b336e3daa01eb113a9beeff540a558d345", func := "accounting/accountinglaw04.DaysNumbers", spec := "daysNumbers", named := ["accounting/days.lengths"], apart := false, laid := [("accounting/days.lengths", laid_accounting_days_lengths)], narrowed := true }
def DaysNumbersUptoSaid : Prop := daysNumbersUptoRow.holds Tryd.pinned (OpenSpec.upto daysNumbersSpec)

end Rows
end Go.Proofs.YtkjacjkmmboklaaDoor
