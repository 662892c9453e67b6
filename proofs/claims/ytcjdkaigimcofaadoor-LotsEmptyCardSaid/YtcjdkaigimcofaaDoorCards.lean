/-
  DERIVED. GIVEN WITH THE SEED: THE CARDS: each row of YtcjdkaigimcofaaDoorRows.lean that lists a variable, with what it lists TIED to the program's text (the seventh form; the later family's looks); each row that meets fmt, with fmt's text TOLD by the authors' own Lean function (tested against real Go, not proved from fmt's source: count such statements apart). THE CARD IS WHAT COUNTS. Prove the row's statement (the work); the ties are given (YtcjdkaigimcofaaDoorTie.lean); close each card by the builder's one call (the guide's Derived/Test/ToyasCard.lean, 'card_holds'). Laid BY PROGRAM, IN A SANDBOX (cutbox-door.mjs). By AI agents, Wed Nov 11 2026. No macro, syntax, notation, axiom, sorry.
-/
import Derived.Test.YtcjdkaigimcofaaDoorRows
import GoSem.ClaimSeven
namespace Go.Proofs.YtcjdkaigimcofaaDoor
namespace Rows

/-- THE TIED CARD OF 'accountinglaw37.LotsSteps'. -/
def lotsStepsCard : Claim7 := { stood := { row := lotsStepsRow, standIns := [], harness := (true, "55691551bebd4f0d997874ecb40c9718e3e1368390dd6dc55dd022daa987d0d8"), looks := false }, kinds := [], alts := [], laidByText := true, laidKinds := [.data], laidTests := true, laidLooks := .later }
def LotsStepsCardSaid : Prop := Claim7.holds Tryd.pinned (.plain (OpenSpec.ofChange lotsStepsSpec)) lotsStepsCard

/-- THE TIED CARD OF 'accountinglaw37.LotsSums'. -/
def lotsSumsCard : Claim7 := { stood := { row := lotsSumsRow, standIns := [], harness := (true, "55691551bebd4f0d997874ecb40c9718e3e1368390dd6dc55dd022daa987d0d8"), looks := false }, kinds := [], alts := [], laidByText := true, laidKinds := [.data], laidTests := true, laidLooks := .later }
def LotsSumsCardSaid : Prop := Claim7.holds Tryd.pinned (.plain (OpenSpec.ofChange lotsSumsSpec)) lotsSumsCard

/-- THE TIED CARD OF 'accountinglaw37.LotsApart'. -/
def lotsApartCard : Claim7 := { stood := { row := lotsApartRow, standIns := [], harness := (true, "55691551bebd4f0d997874ecb40c9718e3e1368390dd6dc55dd022daa987d0d8"), looks := false }, kinds := [], alts := [], laidByText := true, laidKinds := [.data], laidTests := true, laidLooks := .later }
def LotsApartCardSaid : Prop := Claim7.holds Tryd.pinned (.plain (OpenSpec.ofChange lotsApartSpec)) lotsApartCard

/-- THE TIED CARD OF 'accountinglaw37.LotsEmpty'. -/
def lotsEmptyCard : Claim7 := { stood := { row := lotsEmptyRow, standIns := [], harness := (true, "55691551bebd4f0d997874ecb40c9718e3e1368390dd6dc55dd022daa987d0d8"), looks := false }, kinds := [], alts := [], laidByText := true, laidKinds := [.data], laidTests := true, laidLooks := .later }
def LotsEmptyCardSaid : Prop := Claim7.holds Tryd.pinned (.plain (OpenSpec.ofChange lotsEmptySpec)) lotsEmptyCard

/-- THE TIED CARD OF 'accountinglaw37.LotsUndo'. -/
def lotsUndoCard : Claim7 := { stood := { row := lotsUndoRow, standIns := [], harness := (true, "55691551bebd4f0d997874ecb40c9718e3e1368390dd6dc55dd022daa987d0d8"), looks := false }, kinds := [], alts := [], laidByText := true, laidKinds := [.data], laidTests := true, laidLooks := .later }
def LotsUndoCardSaid : Prop := Claim7.holds Tryd.pinned (.plain (OpenSpec.ofChange lotsUndoSpec)) lotsUndoCard

/-- THE TIED CARD OF 'accountinglaw37.LotsKeeps'. -/
def lotsKeepsCard : Claim7 := { stood := { row := lotsKeepsRow, standIns := [], harness := (true, "55691551bebd4f0d997874ecb40c9718e3e1368390dd6dc55dd022daa987d0d8"), looks := false }, kinds := [], alts := [], laidByText := true, laidKinds := [.data], laidTests := true, laidLooks := .later }
def LotsKeepsCardSaid : Prop := Claim7.holds Tryd.pinned (.plain (OpenSpec.ofChange lotsKeepsSpec)) lotsKeepsCard

/-- THE TIED CARD OF 'accountinglaw37.LotsAny'. -/
def lotsAnyCard : Claim7 := { stood := { row := lotsAnyRow, standIns := [], harness := (true, "55691551bebd4f0d997874ecb40c9718e3e1368390dd6dc55dd022daa987d0d8"), looks := false }, kinds := [], alts := [], laidByText := true, laidKinds := [.data], laidTests := true, laidLooks := .later }
def LotsAnyCardSaid : Prop := Claim7.holds Tryd.pinned (.plain (OpenSpec.ofChange lotsAnySpec)) lotsAnyCard

/-- THE SECOND FORM's CARD OF 'accountinglaw37.LotsSteps'. -/
def lotsStepsUptoCard : Claim7 := { stood := { row := lotsStepsUptoRow, standIns := [], harness := (true, "55691551bebd4f0d997874ecb40c9718e3e1368390dd6dc55dd022daa987d0d8"), looks := false }, kinds := [], alts := [], laidByText := true, laidKinds := [.data], laidTests := true, laidLooks := .later }
def LotsStepsUptoCardSaid : Prop := Claim7.holds Tryd.pinned (.plain (OpenSpec.upto lotsStepsSpec)) lotsStepsUptoCard

/-- THE SECOND FORM's CARD OF 'accountinglaw37.LotsSums'. -/
def lotsSumsUptoCard : Claim7 := { stood := { row := lotsSumsUptoRow, standIns := [], harness := (true, "55691551bebd4f0d997874ecb40c9718e3e1368390dd6dc55dd022daa987d0d8"), looks := false }, kinds := [], alts := [], laidByText := true, laidKinds := [.data], laidTests := true, laidLooks := .later }
def LotsSumsUptoCardSaid : Prop := Claim7.holds Tryd.pinned (.plain (OpenSpec.upto lotsSumsSpec)) lotsSumsUptoCard

/-- THE SECOND FORM's CARD OF 'accountinglaw37.LotsApart'. -/
def lotsApartUptoCard : Claim7 := { stood := { row := lotsApartUptoRow, standIns := [], harness := (true, "55691551bebd4f0d997874ecb40c9718e3e1368390dd6dc55dd022daa987d0d8"), looks := false }, kinds := [], alts := [], laidByText := true, laidKinds := [.data], laidTests := true, laidLooks := .later }
def LotsApartUptoCardSaid : Prop := Claim7.holds Tryd.pinned (.plain (OpenSpec.upto lotsApartSpec)) lotsApartUptoCard

/-- THE SECOND FORM's CARD OF 'accountinglaw37.LotsEmpty'. -/
def lotsEmptyUptoCard : Claim7 := { stood := { row := lotsEmptyUptoRow, standIns := [], harness := (true, "55691551bebd4f0d997874ecb40c9718e3e1368390dd6dc55dd022daa987d0d8"), looks := false }, kinds := [], alts := [], laidByText := true, laidKinds := [.data], laidTests := true, laidLooks := .later }
def LotsEmptyUptoCardSaid : Prop := Claim7.holds Tryd.pinned (.plain (OpenSpec.upto lotsEmptySpec)) lotsEmptyUptoCard

/-- THE SECOND FORM's CARD OF 'accountinglaw37.LotsUndo'. -/
def lotsUndoUptoCard : Claim7 := { stood := { row := lotsUndoUptoRow, standIns := [], harness := (true, "55691551bebd4f0d997874ecb40c9718e3e1368390dd6dc55dd022daa987d0d8"), looks := false }, kinds := [], alts := [], laidByText := true, laidKinds := [.data], laidTests := true, laidLooks := .later }
def LotsUndoUptoCardSaid : Prop := Claim7.holds Tryd.pinned (.plain (OpenSpec.upto lotsUndoSpec)) lotsUndoUptoCard

/-- THE SECOND FORM's CARD OF 'accountinglaw37.LotsKeeps'. -/
def lotsKeepsUptoCard : Claim7 := { stood := { row := lotsKeepsUptoRow, standIns := [], harness := (true, "55691551bebd4f0d997874ecb40c9718e3e1368390dd6dc55dd022daa987d0d8"), looks := false }, kinds := [], alts := [], laidByText := true, laidKinds := [.data], laidTests := true, laidLooks := .later }
def LotsKeepsUptoCardSaid : Prop := Claim7.holds Tryd.pinned (.plain (OpenSpec.upto lotsKeepsSpec)) lotsKeepsUptoCard

/-- THE SECOND FORM's CARD OF 'accountinglaw37.LotsAny'. -/
def lotsAnyUptoCard : Claim7 := { stood := { row := lotsAnyUptoRow, standIns := [], harness := (true, "55691551bebd4f0d997874ecb40c9718e3e1368390dd6dc55dd022daa987d0d8"), looks := false }, kinds := [], alts := [], laidByText := true, laidKinds := [.data], laidTests := true, laidLooks := .later }
def LotsAnyUptoCardSaid : Prop := Claim7.holds Tryd.pinned (.plain (OpenSpec.upto lotsAnySpec)) lotsAnyUptoCard
end Rows
end Go.Proofs.YtcjdkaigimcofaaDoor
