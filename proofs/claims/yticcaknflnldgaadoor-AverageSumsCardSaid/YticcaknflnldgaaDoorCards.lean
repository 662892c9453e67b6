/-
  DERIVED. GIVEN WITH THE SEED: THE CARDS: each row of YticcaknflnldgaaDoorRows.lean that lists a variable, with what it lists TIED to the program's text (the seventh form; the later family's looks); each row that meets fmt, with fmt's text TOLD by the authors' own Lean function (tested against real Go, not proved from fmt's source: count such statements apart). THE CARD IS WHAT COUNTS. Prove the row's statement (the work); the ties are given (YticcaknflnldgaaDoorTie.lean); close each card by the builder's one call (the guide's Derived/Test/ToyasCard.lean, 'card_holds'). Laid BY PROGRAM, IN A SANDBOX (cutbox-door.mjs). By AI agents, Wed Nov 11 2026. No macro, syntax, notation, axiom, sorry.
-/
import Derived.Test.YticcaknflnldgaaDoorRows
import GoSem.ClaimSeven
namespace Go.Proofs.YticcaknflnldgaaDoor
namespace Rows

/-- THE TIED CARD OF 'accountinglaw35.AverageSteps'. -/
def averageStepsCard : Claim7 := { stood := { row := averageStepsRow, standIns := [], harness := (true, "28f766d6d949997488d8a55251734a6e4c3ca7a100d9365d9fb31752ae31b5f8"), looks := false }, kinds := [], alts := [], laidByText := true, laidKinds := [.data], laidTests := true, laidLooks := .later }
def AverageStepsCardSaid : Prop := Claim7.holds Tryd.pinned (.plain (OpenSpec.ofChange averageStepsSpec)) averageStepsCard

/-- THE TIED CARD OF 'accountinglaw35.AverageSums'. -/
def averageSumsCard : Claim7 := { stood := { row := averageSumsRow, standIns := [], harness := (true, "28f766d6d949997488d8a55251734a6e4c3ca7a100d9365d9fb31752ae31b5f8"), looks := false }, kinds := [], alts := [], laidByText := true, laidKinds := [.data], laidTests := true, laidLooks := .later }
def AverageSumsCardSaid : Prop := Claim7.holds Tryd.pinned (.plain (OpenSpec.ofChange averageSumsSpec)) averageSumsCard

/-- THE TIED CARD OF 'accountinglaw35.AverageVariances'. -/
def averageVariancesCard : Claim7 := { stood := { row := averageVariancesRow, standIns := [], harness := (true, "28f766d6d949997488d8a55251734a6e4c3ca7a100d9365d9fb31752ae31b5f8"), looks := false }, kinds := [], alts := [], laidByText := true, laidKinds := [.data], laidTests := true, laidLooks := .later }
def AverageVariancesCardSaid : Prop := Claim7.holds Tryd.pinned (.plain (OpenSpec.ofChange averageVariancesSpec)) averageVariancesCard

/-- THE TIED CARD OF 'accountinglaw35.AverageReturned'. -/
def averageReturnedCard : Claim7 := { stood := { row := averageReturnedRow, standIns := [], harness := (true, "28f766d6d949997488d8a55251734a6e4c3ca7a100d9365d9fb31752ae31b5f8"), looks := false }, kinds := [], alts := [], laidByText := true, laidKinds := [.data], laidTests := true, laidLooks := .later }
def AverageReturnedCardSaid : Prop := Claim7.holds Tryd.pinned (.plain (OpenSpec.ofChange averageReturnedSpec)) averageReturnedCard

/-- THE TIED CARD OF 'accountinglaw35.AverageLots'. -/
def averageLotsCard : Claim7 := { stood := { row := averageLotsRow, standIns := [], harness := (true, "28f766d6d949997488d8a55251734a6e4c3ca7a100d9365d9fb31752ae31b5f8"), looks := false }, kinds := [], alts := [], laidByText := true, laidKinds := [.data], laidTests := true, laidLooks := .later }
def AverageLotsCardSaid : Prop := Claim7.holds Tryd.pinned (.plain (OpenSpec.ofChange averageLotsSpec)) averageLotsCard

/-- THE TIED CARD OF 'accountinglaw35.AverageOwn'. -/
def averageOwnCard : Claim7 := { stood := { row := averageOwnRow, standIns := [], harness := (true, "28f766d6d949997488d8a55251734a6e4c3ca7a100d9365d9fb31752ae31b5f8"), looks := false }, kinds := [], alts := [], laidByText := true, laidKinds := [.data], laidTests := true, laidLooks := .later }
def AverageOwnCardSaid : Prop := Claim7.holds Tryd.pinned (.plain (OpenSpec.ofChange averageOwnSpec)) averageOwnCard

/-- THE TIED CARD OF 'accountinglaw35.AverageNear'. -/
def averageNearCard : Claim7 := { stood := { row := averageNearRow, standIns := [], harness := (true, "28f766d6d949997488d8a55251734a6e4c3ca7a100d9365d9fb31752ae31b5f8"), looks := false }, kinds := [], alts := [], laidByText := true, laidKinds := [.data], laidTests := true, laidLooks := .later }
def AverageNearCardSaid : Prop := Claim7.holds Tryd.pinned (.plain (OpenSpec.ofChange averageNearSpec)) averageNearCard

/-- THE SECOND FORM's CARD OF 'accountinglaw35.AverageSteps'. -/
def averageStepsUptoCard : Claim7 := { stood := { row := averageStepsUptoRow, standIns := [], harness := (true, "28f766d6d949997488d8a55251734a6e4c3ca7a100d9365d9fb31752ae31b5f8"), looks := false }, kinds := [], alts := [], laidByText := true, laidKinds := [.data], laidTests := true, laidLooks := .later }
def AverageStepsUptoCardSaid : Prop := Claim7.holds Tryd.pinned (.plain (OpenSpec.upto averageStepsSpec)) averageStepsUptoCard

/-- THE SECOND FORM's CARD OF 'accountinglaw35.AverageSums'. -/
def averageSumsUptoCard : Claim7 := { stood := { row := averageSumsUptoRow, standIns := [], harness := (true, "28f766d6d949997488d8a55251734a6e4c3ca7a100d9365d9fb31752ae31b5f8"), looks := false }, kinds := [], alts := [], laidByText := true, laidKinds := [.data], laidTests := true, laidLooks := .later }
def AverageSumsUptoCardSaid : Prop := Claim7.holds Tryd.pinned (.plain (OpenSpec.upto averageSumsSpec)) averageSumsUptoCard

/-- THE SECOND FORM's CARD OF 'accountinglaw35.AverageVariances'. -/
def averageVariancesUptoCard : Claim7 := { stood := { row := averageVariancesUptoRow, standIns := [], harness := (true, "28f766d6d949997488d8a55251734a6e4c3ca7a100d9365d9fb31752ae31b5f8"), looks := false }, kinds := [], alts := [], laidByText := true, laidKinds := [.data], laidTests := true, laidLooks := .later }
def AverageVariancesUptoCardSaid : Prop := Claim7.holds Tryd.pinned (.plain (OpenSpec.upto averageVariancesSpec)) averageVariancesUptoCard

/-- THE SECOND FORM's CARD OF 'accountinglaw35.AverageReturned'. -/
def averageReturnedUptoCard : Claim7 := { stood := { row := averageReturnedUptoRow, standIns := [], harness := (true, "28f766d6d949997488d8a55251734a6e4c3ca7a100d9365d9fb31752ae31b5f8"), looks := false }, kinds := [], alts := [], laidByText := true, laidKinds := [.data], laidTests := true, laidLooks := .later }
def AverageReturnedUptoCardSaid : Prop := Claim7.holds Tryd.pinned (.plain (OpenSpec.upto averageReturnedSpec)) averageReturnedUptoCard

/-- THE SECOND FORM's CARD OF 'accountinglaw35.AverageLots'. -/
def averageLotsUptoCard : Claim7 := { stood := { row := averageLotsUptoRow, standIns := [], harness := (true, "28f766d6d949997488d8a55251734a6e4c3ca7a100d9365d9fb31752ae31b5f8"), looks := false }, kinds := [], alts := [], laidByText := true, laidKinds := [.data], laidTests := true, laidLooks := .later }
def AverageLotsUptoCardSaid : Prop := Claim7.holds Tryd.pinned (.plain (OpenSpec.upto averageLotsSpec)) averageLotsUptoCard

/-- THE SECOND FORM's CARD OF 'accountinglaw35.AverageOwn'. -/
def averageOwnUptoCard : Claim7 := { stood := { row := averageOwnUptoRow, standIns := [], harness := (true, "28f766d6d949997488d8a55251734a6e4c3ca7a100d9365d9fb31752ae31b5f8"), looks := false }, kinds := [], alts := [], laidByText := true, laidKinds := [.data], laidTests := true, laidLooks := .later }
def AverageOwnUptoCardSaid : Prop := Claim7.holds Tryd.pinned (.plain (OpenSpec.upto averageOwnSpec)) averageOwnUptoCard

/-- THE SECOND FORM's CARD OF 'accountinglaw35.AverageNear'. -/
def averageNearUptoCard : Claim7 := { stood := { row := averageNearUptoRow, standIns := [], harness := (true, "28f766d6d949997488d8a55251734a6e4c3ca7a100d9365d9fb31752ae31b5f8"), looks := false }, kinds := [], alts := [], laidByText := true, laidKinds := [.data], laidTests := true, laidLooks := .later }
def AverageNearUptoCardSaid : Prop := Claim7.holds Tryd.pinned (.plain (OpenSpec.upto averageNearSpec)) averageNearUptoCard
end Rows
end Go.Proofs.YticcaknflnldgaaDoor
