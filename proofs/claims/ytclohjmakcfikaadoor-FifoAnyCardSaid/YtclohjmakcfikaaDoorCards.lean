/-
  DERIVED. GIVEN WITH THE SEED: THE CARDS: each row of YtclohjmakcfikaaDoorRows.lean that lists a variable, with what it lists TIED to the program's text (the seventh form; the later family's looks); each row that meets fmt, with fmt's text TOLD by the authors' own Lean function (tested against real Go, not proved from fmt's source: count such statements apart). THE CARD IS WHAT COUNTS. Prove the row's statement (the work); the ties are given (YtclohjmakcfikaaDoorTie.lean); close each card by the builder's one call (the guide's Derived/Test/ToyasCard.lean, 'card_holds'). Laid BY PROGRAM, IN A SANDBOX (cutbox-door.mjs). By AI agents, Wed Nov 11 2026. No macro, syntax, notation, axiom, sorry.
-/
import Derived.Test.YtclohjmakcfikaaDoorRows
import GoSem.ClaimSeven
namespace Go.Proofs.YtclohjmakcfikaaDoor
namespace Rows

/-- THE TIED CARD OF 'accountinglaw34.FifoSteps'. -/
def fifoStepsCard : Claim7 := { stood := { row := fifoStepsRow, standIns := [], harness := (true, "92d0db5376bf50bec0faf905c48525dcc098b03c893965685c5264bfacd83041"), looks := false }, kinds := [], alts := [], laidByText := true, laidKinds := [.data], laidTests := true, laidLooks := .later }
def FifoStepsCardSaid : Prop := Claim7.holds Tryd.pinned (.plain (OpenSpec.ofChange fifoStepsSpec)) fifoStepsCard

/-- THE TIED CARD OF 'accountinglaw34.FifoSums'. -/
def fifoSumsCard : Claim7 := { stood := { row := fifoSumsRow, standIns := [], harness := (true, "92d0db5376bf50bec0faf905c48525dcc098b03c893965685c5264bfacd83041"), looks := false }, kinds := [], alts := [], laidByText := true, laidKinds := [.data], laidTests := true, laidLooks := .later }
def FifoSumsCardSaid : Prop := Claim7.holds Tryd.pinned (.plain (OpenSpec.ofChange fifoSumsSpec)) fifoSumsCard

/-- THE TIED CARD OF 'accountinglaw34.FifoOldest'. -/
def fifoOldestCard : Claim7 := { stood := { row := fifoOldestRow, standIns := [], harness := (true, "92d0db5376bf50bec0faf905c48525dcc098b03c893965685c5264bfacd83041"), looks := false }, kinds := [], alts := [], laidByText := true, laidKinds := [.data], laidTests := true, laidLooks := .later }
def FifoOldestCardSaid : Prop := Claim7.holds Tryd.pinned (.plain (OpenSpec.ofChange fifoOldestSpec)) fifoOldestCard

/-- THE TIED CARD OF 'accountinglaw34.FifoEmpty'. -/
def fifoEmptyCard : Claim7 := { stood := { row := fifoEmptyRow, standIns := [], harness := (true, "92d0db5376bf50bec0faf905c48525dcc098b03c893965685c5264bfacd83041"), looks := false }, kinds := [], alts := [], laidByText := true, laidKinds := [.data], laidTests := true, laidLooks := .later }
def FifoEmptyCardSaid : Prop := Claim7.holds Tryd.pinned (.plain (OpenSpec.ofChange fifoEmptySpec)) fifoEmptyCard

/-- THE TIED CARD OF 'accountinglaw34.FifoUndo'. -/
def fifoUndoCard : Claim7 := { stood := { row := fifoUndoRow, standIns := [], harness := (true, "92d0db5376bf50bec0faf905c48525dcc098b03c893965685c5264bfacd83041"), looks := false }, kinds := [], alts := [], laidByText := true, laidKinds := [.data], laidTests := true, laidLooks := .later }
def FifoUndoCardSaid : Prop := Claim7.holds Tryd.pinned (.plain (OpenSpec.ofChange fifoUndoSpec)) fifoUndoCard

/-- THE TIED CARD OF 'accountinglaw34.FifoKeeps'. -/
def fifoKeepsCard : Claim7 := { stood := { row := fifoKeepsRow, standIns := [], harness := (true, "92d0db5376bf50bec0faf905c48525dcc098b03c893965685c5264bfacd83041"), looks := false }, kinds := [], alts := [], laidByText := true, laidKinds := [.data], laidTests := true, laidLooks := .later }
def FifoKeepsCardSaid : Prop := Claim7.holds Tryd.pinned (.plain (OpenSpec.ofChange fifoKeepsSpec)) fifoKeepsCard

/-- THE TIED CARD OF 'accountinglaw34.FifoAny'. -/
def fifoAnyCard : Claim7 := { stood := { row := fifoAnyRow, standIns := [], harness := (true, "92d0db5376bf50bec0faf905c48525dcc098b03c893965685c5264bfacd83041"), looks := false }, kinds := [], alts := [], laidByText := true, laidKinds := [.data], laidTests := true, laidLooks := .later }
def FifoAnyCardSaid : Prop := Claim7.holds Tryd.pinned (.plain (OpenSpec.ofChange fifoAnySpec)) fifoAnyCard

/-- THE SECOND FORM's CARD OF 'accountinglaw34.FifoSteps'. -/
def fifoStepsUptoCard : Claim7 := { stood := { row := fifoStepsUptoRow, standIns := [], harness := (true, "92d0db5376bf50bec0faf905c48525dcc098b03c893965685c5264bfacd83041"), looks := false }, kinds := [], alts := [], laidByText := true, laidKinds := [.data], laidTests := true, laidLooks := .later }
def FifoStepsUptoCardSaid : Prop := Claim7.holds Tryd.pinned (.plain (OpenSpec.upto fifoStepsSpec)) fifoStepsUptoCard

/-- THE SECOND FORM's CARD OF 'accountinglaw34.FifoSums'. -/
def fifoSumsUptoCard : Claim7 := { stood := { row := fifoSumsUptoRow, standIns := [], harness := (true, "92d0db5376bf50bec0faf905c48525dcc098b03c893965685c5264bfacd83041"), looks := false }, kinds := [], alts := [], laidByText := true, laidKinds := [.data], laidTests := true, laidLooks := .later }
def FifoSumsUptoCardSaid : Prop := Claim7.holds Tryd.pinned (.plain (OpenSpec.upto fifoSumsSpec)) fifoSumsUptoCard

/-- THE SECOND FORM's CARD OF 'accountinglaw34.FifoOldest'. -/
def fifoOldestUptoCard : Claim7 := { stood := { row := fifoOldestUptoRow, standIns := [], harness := (true, "92d0db5376bf50bec0faf905c48525dcc098b03c893965685c5264bfacd83041"), looks := false }, kinds := [], alts := [], laidByText := true, laidKinds := [.data], laidTests := true, laidLooks := .later }
def FifoOldestUptoCardSaid : Prop := Claim7.holds Tryd.pinned (.plain (OpenSpec.upto fifoOldestSpec)) fifoOldestUptoCard

/-- THE SECOND FORM's CARD OF 'accountinglaw34.FifoEmpty'. -/
def fifoEmptyUptoCard : Claim7 := { stood := { row := fifoEmptyUptoRow, standIns := [], harness := (true, "92d0db5376bf50bec0faf905c48525dcc098b03c893965685c5264bfacd83041"), looks := false }, kinds := [], alts := [], laidByText := true, laidKinds := [.data], laidTests := true, laidLooks := .later }
def FifoEmptyUptoCardSaid : Prop := Claim7.holds Tryd.pinned (.plain (OpenSpec.upto fifoEmptySpec)) fifoEmptyUptoCard

/-- THE SECOND FORM's CARD OF 'accountinglaw34.FifoUndo'. -/
def fifoUndoUptoCard : Claim7 := { stood := { row := fifoUndoUptoRow, standIns := [], harness := (true, "92d0db5376bf50bec0faf905c48525dcc098b03c893965685c5264bfacd83041"), looks := false }, kinds := [], alts := [], laidByText := true, laidKinds := [.data], laidTests := true, laidLooks := .later }
def FifoUndoUptoCardSaid : Prop := Claim7.holds Tryd.pinned (.plain (OpenSpec.upto fifoUndoSpec)) fifoUndoUptoCard

/-- THE SECOND FORM's CARD OF 'accountinglaw34.FifoKeeps'. -/
def fifoKeepsUptoCard : Claim7 := { stood := { row := fifoKeepsUptoRow, standIns := [], harness := (true, "92d0db5376bf50bec0faf905c48525dcc098b03c893965685c5264bfacd83041"), looks := false }, kinds := [], alts := [], laidByText := true, laidKinds := [.data], laidTests := true, laidLooks := .later }
def FifoKeepsUptoCardSaid : Prop := Claim7.holds Tryd.pinned (.plain (OpenSpec.upto fifoKeepsSpec)) fifoKeepsUptoCard

/-- THE SECOND FORM's CARD OF 'accountinglaw34.FifoAny'. -/
def fifoAnyUptoCard : Claim7 := { stood := { row := fifoAnyUptoRow, standIns := [], harness := (true, "92d0db5376bf50bec0faf905c48525dcc098b03c893965685c5264bfacd83041"), looks := false }, kinds := [], alts := [], laidByText := true, laidKinds := [.data], laidTests := true, laidLooks := .later }
def FifoAnyUptoCardSaid : Prop := Claim7.holds Tryd.pinned (.plain (OpenSpec.upto fifoAnySpec)) fifoAnyUptoCard
end Rows
end Go.Proofs.YtclohjmakcfikaaDoor
