/-
  NARROWER THAN 'FOR EVERY INPUT', by the rows' own cells (each row's printed sentence says how): StandardSteps: laid · StandardValue: laid · StandardVariance: laid · StandardBack: laid · StandardKeeps: laid.
  DERIVED. THE GIVEN ROWS OF THIS SEAT. 5 by the template 'for every input the law returns true; each argument reads behind the call as it read before'; 0 by the template 'total and deterministic' (their statements: YtkimndddlnbeiaaDoorTotals.lean).
  GIVEN WITH THE SEED: the statements are not yours to turn. If you find one false, say at which input.
  Laid BY PROGRAM, IN A SANDBOX (cutbox-rows.mjs): the forced cells as the released guide's own fill.sh prints them over the translation e8c63f9215f98bfd… (all of the seat's roots in one cut). By AI agents, Wed Nov 11 2026. No macro, syntax, notation, axiom, sorry.
-/
import Derived.Test.YtkimndddlnbeiaaDoorChecked
import GoSem.Claim
import GoSem.ClaimJoined
import GoSem.ClaimMapViews
import Derived.JoinedTies
import Derived.KernelRfl
namespace Go.Proofs.YtkimndddlnbeiaaDoor
/- THE CELL 'sum', in the pinned program and in every row, IS THE sha256 OF THE DUMP (.gsa) THAT YtkimndddlnbeiaaDoorProg.lean LOADS. Nothing in Lean hashes anything: it is a label: what it is worth is what the hold of that sum in a sandbox is worth. -/
noncomputable def Tryd.pinned : Pinned := { name := "ytkimndddlnbeiaadoor", sum := "e8c63f9215f98bfdd8bf9023040cfb0f6ae5278bab6d94fa0db3d6decd3913f2", checked := Tryd.checked }
namespace Rows
def none {H : Type} : Left H := { results := [], args := [] }

/- WHAT THE LISTED PACKAGE-LEVEL VARIABLES READ AS WHEN THE CALL BEGINS. Each datum BY PROGRAM (the guide's laid-datum.mjs) off the statement by which the dump's own 'gosem.cut.vars' lays the variable. In a bare row this is a premise. The card (YtkimndddlnbeiaaDoorCards.lean) ties it to the program's text. -/
def laid_accounting_days_lengths {H : Type} : DataW H := .agg [.lit (.int .i64 31), .lit (.int .i64 28), .lit (.int .i64 31), .lit (.int .i64 30), .lit (.int .i64 31), .lit (.int .i64 30), .lit (.int .i64 31), .lit (.int .i64 31), .lit (.int .i64 30), .lit (.int .i64 31), .lit (.int .i64 30), .lit (.int .i64 31)]

/-- 'accountinglaw36.StandardSteps': WHATEVER THE INPUT: true; the input reads as it did. -/
def standardStepsSpec : ChangeSpec := { name := "standardSteps", fn := fun _ => fun
  | [d1, d2] => { results := [.lit (.bool true)], args := [d1, d2] }
  | _ => none }
def standardStepsRow : OpenClaim := { program := "ytkimndddlnbeiaadoor", sum := "e8c63f9215f98bfdd8bf9023040cfb0f6ae5278bab6d94fa0db3d6decd3913f2", func := "accounting/accountinglaw36.StandardSteps", spec := "standardSteps", unfollowed := true, recurses := true, named := ["accounting/days.lengths"], apart := false, laid := [("accounting/days.lengths", laid_accounting_days_lengths)] }
def StandardStepsSaid : Prop := standardStepsRow.holds Tryd.pinned (OpenSpec.ofChange standardStepsSpec)

/-- ITS FALSE NEIGHBOUR: 'it returns false'. Refute it at one input. -/
def standardStepsWrong : ChangeSpec := { name := "standardSteps", fn := fun _ => fun
  | [d1, d2] => { results := [.lit (.bool false)], args := [d1, d2] }
  | _ => none }
def StandardStepsWrongFalsely : Prop := standardStepsRow.holds Tryd.pinned (OpenSpec.ofChange standardStepsWrong)

/-- 'accountinglaw36.StandardValue': WHATEVER THE INPUT: true; the input reads as it did. -/
def standardValueSpec : ChangeSpec := { name := "standardValue", fn := fun _ => fun
  | [d1, d2] => { results := [.lit (.bool true)], args := [d1, d2] }
  | _ => none }
def standardValueRow : OpenClaim := { program := "ytkimndddlnbeiaadoor", sum := "e8c63f9215f98bfdd8bf9023040cfb0f6ae5278bab6d94fa0db3d6decd3913f2", func := "accounting/accountinglaw36.StandardValue", spec := "standardValue", unfollowed := true, recurses := true, named := ["accounting/days.lengths"], apart := false, laid := [("accounting/days.lengths", laid_accounting_days_lengths)] }
def StandardValueSaid : Prop := standardValueRow.holds Tryd.pinned (OpenSpec.ofChange standardValueSpec)

/-- ITS FALSE NEIGHBOUR: 'it returns false'. Refute it at one input. -/
def standardValueWrong : ChangeSpec := { name := "standardValue", fn := fun _ => fun
  | [d1, d2] => { results := [.lit (.bool false)], args := [d1, d2] }
  | _ => none }
def StandardValueWrongFalsely : Prop := standardValueRow.holds Tryd.pinned (OpenSpec.ofChange standardValueWrong)

/-- 'accountinglaw36.StandardVariance': WHATEVER THE INPUT: true; the input reads as it did. -/
def standardVarianceSpec : ChangeSpec := { name := "standardVariance", fn := fun _ => fun
  | [d1, d2] => { results := [.lit (.bool true)], args := [d1, d2] }
  | _ => none }
def standardVarianceRow : OpenClaim := { program := "ytkimndddlnbeiaadoor", sum := "e8c63f9215f98bfdd8bf9023040cfb0f6ae5278bab6d94fa0db3d6decd3913f2", func := "accounting/accountinglaw36.StandardVariance", spec := "standardVariance", unfollowed := true, recurses := true, named := ["accounting/days.lengths"], apart := false, laid := [("accounting/days.lengths", laid_accounting_days_lengths)] }
def StandardVarianceSaid : Prop := standardVarianceRow.holds Tryd.pinned (OpenSpec.ofChange standardVarianceSpec)

/-- ITS FALSE NEIGHBOUR: 'it returns false'. Refute it at one input. -/
def standardVarianceWrong : ChangeSpec := { name := "standardVariance", fn := fun _ => fun
  | [d1, d2] => { results := [.lit (.bool false)], args := [d1, d2] }
  | _ => none }
def StandardVarianceWrongFalsely : Prop := standardVarianceRow.holds Tryd.pinned (OpenSpec.ofChange standardVarianceWrong)

/-- 'accountinglaw36.StandardBack': WHATEVER THE INPUT: true; the input reads as it did. -/
def standardBackSpec : ChangeSpec := { name := "standardBack", fn := fun _ => fun
  | [d1, d2, d3, d4] => { results := [.lit (.bool true)], args := [d1, d2, d3, d4] }
  | _ => none }
def standardBackRow : OpenClaim := { program := "ytkimndddlnbeiaadoor", sum := "e8c63f9215f98bfdd8bf9023040cfb0f6ae5278bab6d94fa0db3d6decd3913f2", func := "accounting/accountinglaw36.StandardBack", spec := "standardBack", unfollowed := true, recurses := true, named := ["accounting/days.lengths"], apart := false, laid := [("accounting/days.lengths", laid_accounting_days_lengths)] }
def StandardBackSaid : Prop := standardBackRow.holds Tryd.pinned (OpenSpec.ofChange standardBackSpec)

/-- ITS FALSE NEIGHBOUR: 'it returns false'. Refute it at one input. -/
def standardBackWrong : ChangeSpec := { name := "standardBack", fn := fun _ => fun
  | [d1, d2, d3, d4] => { results := [.lit (.bool false)], args := [d1, d2, d3, d4] }
  | _ => none }
def StandardBackWrongFalsely : Prop := standardBackRow.holds Tryd.pinned (OpenSpec.ofChange standardBackWrong)

/-- 'accountinglaw36.StandardKeeps': WHATEVER THE INPUT: true; the input reads as it did. -/
def standardKeepsSpec : ChangeSpec := { name := "standardKeeps", fn := fun _ => fun
  | [d1, d2] => { results := [.lit (.bool true)], args := [d1, d2] }
  | _ => none }
def standardKeepsRow : OpenClaim := { program := "ytkimndddlnbeiaadoor", sum := "e8c63f9215f98bfdd8bf9023040cfb0f6ae5278bab6d94fa0db3d6decd3913f2", func := "accounting/accountinglaw36.StandardKeeps", spec := "standardKeeps", unfollowed := true, recurses := true, named := ["accounting/days.lengths"], apart := false, laid := [("accounting/days.lengths", laid_accounting_days_lengths)] }
def StandardKeepsSaid : Prop := standardKeepsRow.holds Tryd.pinned (OpenSpec.ofChange standardKeepsSpec)

/-- ITS FALSE NEIGHBOUR: 'it returns false'. Refute it at one input. -/
def standardKeepsWrong : ChangeSpec := { name := "standardKeeps", fn := fun _ => fun
  | [d1, d2] => { results := [.lit (.bool false)], args := [d1, d2] }
  | _ => none }
def StandardKeepsWrongFalsely : Prop := standardKeepsRow.holds Tryd.pinned (OpenSpec.ofChange standardKeepsWrong)

/- THE SECOND FORM. 'bulk': how many values and letters a reading holds, each counted each time it is reached (what is shared counts as often as it is met; a slice's spare places count too). A statement '..UptoSaid' is the law's where the arguments, and the package variables that the reading takes, are together of bulk at most 1048576: NARROWER than '..Said'. Prove '..Said' where nothing that the law and all that it calls make is longer than what came in: it says more and counts as full. Else prove '..UptoSaid'. A law counts once. -/
mutual
def uptoBulk {H : Type} : DataW H → Nat
  | .lit (.string bytes) => bytes.length + 1
  | .lit _ => 1
  | .nil => 1
  | .ptr d => uptoBulk d + 1
  | .slice elems spare => uptoBulkAll elems + uptoBulkAll spare + 1
  | .agg parts => uptoBulkAll parts + 1
  | .iface _ d => uptoBulk d + 1
  | .map entries => uptoBulkEntries entries + 1
  | .held _ => 1
def uptoBulkAll {H : Type} : List (DataW H) → Nat
  | [] => 0
  | d :: r => uptoBulk d + uptoBulkAll r
def uptoBulkEntries {H : Type} : List (Lit × DataW H) → Nat
  | [] => 0
  | x :: r => uptoBulkEntry x + uptoBulkEntries r
def uptoBulkEntry {H : Type} : Lit × DataW H → Nat
  | (.string bytes, d) => bytes.length + uptoBulk d + 1
  | (_, d) => uptoBulk d + 1
 end
def uptoSmall : (H : Type) → List (DataW H) → Bool := fun _ ds => decide (uptoBulkAll ds ≤ 1048576)
def OpenSpec.upto (s : _root_.Go.ChangeSpec) : _root_.Go.OpenSpec := { _root_.Go.OpenSpec.ofChange s with cond := some uptoSmall }

/-- 'accountinglaw36.StandardSteps', WHERE WHAT IT READS IS OF BULK AT MOST 1048576: true; the input reads as it did. -/
def standardStepsUptoRow : OpenClaim := { program := "ytkimndddlnbeiaadoor", sum := "e8c63f9215f98bfdd8bf9023040cfb0f6ae5278bab6d94fa0db3d6decd3913f2", func := "accounting/accountinglaw36.StandardSteps", spec := "standardSteps", unfollowed := true, recurses := true, named := ["accounting/days.lengths"], apart := false, laid := [("accounting/days.lengths", laid_accounting_days_lengths)], narrowed := true }
def StandardStepsUptoSaid : Prop := standardStepsUptoRow.holds Tryd.pinned (OpenSpec.upto standardStepsSpec)

/-- 'accountinglaw36.StandardValue', WHERE WHAT IT READS IS OF BULK AT MOST 1048576: true; the input reads as it did. -/
def standardValueUptoRow : OpenClaim := { program := "ytkimndddlnbeiaadoor", sum := "e8c63f9215f98bfdd8bf9023040cfb0f6ae5278bab6d94fa0db3d6decd3913f2", func := "accounting/accountinglaw36.StandardValue", spec := "standardValue", unfollowed := true, recurses := true, named := ["accounting/days.lengths"], apart := false, laid := [("accounting/days.lengths", laid_accounting_days_lengths)], narrowed := true }
def StandardValueUptoSaid : Prop := standardValueUptoRow.holds Tryd.pinned (OpenSpec.upto standardValueSpec)

/-- 'accountinglaw36.StandardVariance', WHERE WHAT IT READS IS OF BULK AT MOST 1048576: true; the input reads as it did. -/
def standardVarianceUptoRow : OpenClaim := { program := "ytkimndddlnbeiaadoor", sum := "e8c63f9215f98bfdd8bf9023040cfb0f6ae5278bab6d94fa0db3d6decd3913f2", func := "accounting/accountinglaw36.StandardVariance", spec := "standardVariance", unfollowed := true, recurses := true, named := ["accounting/days.lengths"], apart := false, laid := [("accounting/days.lengths", laid_accounting_days_lengths)], narrowed := true }
def StandardVarianceUptoSaid : Prop := standardVarianceUptoRow.holds Tryd.pinned (OpenSpec.upto standardVarianceSpec)

/-- 'accountinglaw36.StandardBack', WHERE WHAT IT READS IS OF BULK AT MOST 1048576: true; the input reads as it did. -/
def standardBackUptoRow : OpenClaim := { program := "ytkimndddlnbeiaadoor", sum := "e8c63f9215f98bfdd8bf9023040cfb0f6ae5278bab6d94fa0db3d6decd3913f2", func := "accounting/accountinglaw36.StandardBack", spec := "standardBack", unfollowed := true, recurses := true, named := ["accounting/days.lengths"], apart := false, laid := [("accounting/days.lengths", laid_accounting_days_lengths)], narrowed := true }
def StandardBackUptoSaid : Prop := standardBackUptoRow.holds Tryd.pinned (OpenSpec.upto standardBackSpec)

/-- 'accountinglaw36.StandardKeeps', WHERE WHAT IT READS IS OF BULK AT MOST 1048576: true; the input reads as it did. -/
def standardKeepsUptoRow : OpenClaim := { program := "ytkimndddlnbeiaadoor", sum := "e8c63f9215f98bfdd8bf9023040cfb0f6ae5278bab6d94fa0db3d6decd3913f2", func := "accounting/accountinglaw36.StandardKeeps", spec := "standardKeeps", unfollowed := true, recurses := true, named := ["accounting/days.lengths"], apart := false, laid := [("accounting/days.lengths", laid_accounting_days_lengths)], narrowed := true }
def StandardKeepsUptoSaid : Prop := standardKeepsUptoRow.holds Tryd.pinned (OpenSpec.upto standardKeepsSpec)

end Rows
end Go.Proofs.YtkimndddlnbeiaaDoor
