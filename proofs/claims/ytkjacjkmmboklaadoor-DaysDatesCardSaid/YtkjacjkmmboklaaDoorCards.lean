/-
  DERIVED. GIVEN WITH THE SEED: THE CARDS: each row of YtkjacjkmmboklaaDoorRows.lean that lists a variable, with what it lists TIED to the program's text (the seventh form; the later family's looks); each row that meets fmt, with fmt's text TOLD by the authors' own Lean function (tested against real Go, not proved from fmt's source: count such statements apart). THE CARD IS WHAT COUNTS. Prove the row's statement (the work); the ties are given (YtkjacjkmmboklaaDoorTie.lean); close each card by the builder's one call (the guide's Derived/Test/ToyasCard.lean, 'card_holds'). Laid BY PROGRAM, IN A SANDBOX (cutbox-door.mjs). By AI agents, Wed Nov 11 2026. No macro, syntax, notation, axiom, sorry.
-/
import Derived.Test.YtkjacjkmmboklaaDoorRows
import GoSem.ClaimSeven
namespace Go.Proofs.YtkjacjkmmboklaaDoor
namespace Rows

/-- THE TIED CARD OF 'accountinglaw04.DaysDates'. -/
def daysDatesCard : Claim7 := { stood := { row := daysDatesRow, standIns := [], harness := (true, "898c314accf3ae8c80b81906704f521814504957358c978bae5b2bed1a915527"), looks := false }, kinds := [], alts := [], laidByText := true, laidKinds := [.data], laidTests := true, laidLooks := .later }
def DaysDatesCardSaid : Prop := Claim7.holds Tryd.pinned (.plain (OpenSpec.ofChange daysDatesSpec)) daysDatesCard

/-- THE TIED CARD OF 'accountinglaw04.DaysMonths'. -/
def daysMonthsCard : Claim7 := { stood := { row := daysMonthsRow, standIns := [], harness := (true, "898c314accf3ae8c80b81906704f521814504957358c978bae5b2bed1a915527"), looks := false }, kinds := [], alts := [], laidByText := true, laidKinds := [.data], laidTests := true, laidLooks := .later }
def DaysMonthsCardSaid : Prop := Claim7.holds Tryd.pinned (.plain (OpenSpec.ofChange daysMonthsSpec)) daysMonthsCard

/-- THE TIED CARD OF 'accountinglaw04.DaysAdds'. -/
def daysAddsCard : Claim7 := { stood := { row := daysAddsRow, standIns := [], harness := (true, "898c314accf3ae8c80b81906704f521814504957358c978bae5b2bed1a915527"), looks := false }, kinds := [], alts := [], laidByText := true, laidKinds := [.data], laidTests := true, laidLooks := .later }
def DaysAddsCardSaid : Prop := Claim7.holds Tryd.pinned (.plain (OpenSpec.ofChange daysAddsSpec)) daysAddsCard

/-- THE TIED CARD OF 'accountinglaw04.DaysReturns'. -/
def daysReturnsCard : Claim7 := { stood := { row := daysReturnsRow, standIns := [], harness := (true, "898c314accf3ae8c80b81906704f521814504957358c978bae5b2bed1a915527"), looks := false }, kinds := [], alts := [], laidByText := true, laidKinds := [.data], laidTests := true, laidLooks := .later }
def DaysReturnsCardSaid : Prop := Claim7.holds Tryd.pinned (.plain (OpenSpec.ofChange daysReturnsSpec)) daysReturnsCard

/-- THE TIED CARD OF 'accountinglaw04.DaysFollow'. -/
def daysFollowCard : Claim7 := { stood := { row := daysFollowRow, standIns := [], harness := (true, "898c314accf3ae8c80b81906704f521814504957358c978bae5b2bed1a915527"), looks := false }, kinds := [], alts := [], laidByText := true, laidKinds := [.data], laidTests := true, laidLooks := .later }
def DaysFollowCardSaid : Prop := Claim7.holds Tryd.pinned (.plain (OpenSpec.ofChange daysFollowSpec)) daysFollowCard

/-- THE TIED CARD OF 'accountinglaw04.DaysTexts'. -/
def daysTextsCard : Claim7 := { stood := { row := daysTextsRow, standIns := [], harness := (true, "898c314accf3ae8c80b81906704f521814504957358c978bae5b2bed1a915527"), looks := false }, kinds := [], alts := [], laidByText := true, laidKinds := [.data], laidTests := true, laidLooks := .later }
def DaysTextsCardSaid : Prop := Claim7.holds Tryd.pinned (.plain (OpenSpec.ofChange daysTextsSpec)) daysTextsCard

/-- THE TIED CARD OF 'accountinglaw04.DaysParses'. -/
def daysParsesCard : Claim7 := { stood := { row := daysParsesRow, standIns := [], harness := (true, "898c314accf3ae8c80b81906704f521814504957358c978bae5b2bed1a915527"), looks := false }, kinds := [], alts := [], laidByText := true, laidKinds := [.data], laidTests := true, laidLooks := .later }
def DaysParsesCardSaid : Prop := Claim7.holds Tryd.pinned (.plain (OpenSpec.ofChange daysParsesSpec)) daysParsesCard

/-- THE TIED CARD OF 'accountinglaw04.DaysNumbers'. -/
def daysNumbersCard : Claim7 := { stood := { row := daysNumbersRow, standIns := [], harness := (true, "898c314accf3ae8c80b81906704f521814504957358c978bae5b2bed1a915527"), looks := false }, kinds := [], alts := [], laidByText := true, laidKinds := [.data], laidTests := true, laidLooks := .later }
def DaysNumbersCardSaid : Prop := Claim7.holds Tryd.pinned (.plain (OpenSpec.ofChange daysNumbersSpec)) daysNumbersCard

/-- THE SECOND FORM's CARD OF 'accountinglaw04.DaysDates'. -/
def daysDatesUptoCard : Claim7 := { stood := { row := daysDatesUptoRow, standIns := [], harness := (true, "898c314accf3ae8c80b81906704f521814504957358c978bae5b2bed1a915527"), looks := false }, kinds := [], alts := [], laidByText := true, laidKinds := [.data], laidTests := true, laidLooks := .later }
def DaysDatesUptoCardSaid : Prop := Claim7.holds Tryd.pinned (.plain (OpenSpec.upto daysDatesSpec)) daysDatesUptoCard

/-- THE SECOND FORM's CARD OF 'accountinglaw04.DaysMonths'. -/
def daysMonthsUptoCard : Claim7 := { stood := { row := daysMonthsUptoRow, standIns := [], harness := (true, "898c314accf3ae8c80b81906704f521814504957358c978bae5b2bed1a915527"), looks := false }, kinds := [], alts := [], laidByText := true, laidKinds := [.data], laidTests := true, laidLooks := .later }
def DaysMonthsUptoCardSaid : Prop := Claim7.holds Tryd.pinned (.plain (OpenSpec.upto daysMonthsSpec)) daysMonthsUptoCard

/-- THE SECOND FORM's CARD OF 'accountinglaw04.DaysAdds'. -/
def daysAddsUptoCard : Claim7 := { stood := { row := daysAddsUptoRow, standIns := [], harness := (true, "898c314accf3ae8c80b81906704f521814504957358c978bae5b2bed1a915527"), looks := false }, kinds := [], alts := [], laidByText := true, laidKinds := [.data], laidTests := true, laidLooks := .later }
def DaysAddsUptoCardSaid : Prop := Claim7.holds Tryd.pinned (.plain (OpenSpec.upto daysAddsSpec)) daysAddsUptoCard

/-- THE SECOND FORM's CARD OF 'accountinglaw04.DaysReturns'. -/
def daysReturnsUptoCard : Claim7 := { stood := { row := daysReturnsUptoRow, standIns := [], harness := (true, "898c314accf3ae8c80b81906704f521814504957358c978bae5b2bed1a915527"), looks := false }, kinds := [], alts := [], laidByText := true, laidKinds := [.data], laidTests := true, laidLooks := .later }
def DaysReturnsUptoCardSaid : Prop := Claim7.holds Tryd.pinned (.plain (OpenSpec.upto daysReturnsSpec)) daysReturnsUptoCard

/-- THE SECOND FORM's CARD OF 'accountinglaw04.DaysFollow'. -/
def daysFollowUptoCard : Claim7 := { stood := { row := daysFollowUptoRow, standIns := [], harness := (true, "898c314accf3ae8c80b81906704f521814504957358c978bae5b2bed1a915527"), looks := false }, kinds := [], alts := [], laidByText := true, laidKinds := [.data], laidTests := true, laidLooks := .later }
def DaysFollowUptoCardSaid : Prop := Claim7.holds Tryd.pinned (.plain (OpenSpec.upto daysFollowSpec)) daysFollowUptoCard

/-- THE SECOND FORM's CARD OF 'accountinglaw04.DaysTexts'. -/
def daysTextsUptoCard : Claim7 := { stood := { row := daysTextsUptoRow, standIns := [], harness := (true, "898c314accf3ae8c80b81906704f521814504957358c978bae5b2bed1a915527"), looks := false }, kinds := [], alts := [], laidByText := true, laidKinds := [.data], laidTests := true, laidLooks := .later }
def DaysTextsUptoCardSaid : Prop := Claim7.holds Tryd.pinned (.plain (OpenSpec.upto daysTextsSpec)) daysTextsUptoCard

/-- THE SECOND FORM's CARD OF 'accountinglaw04.DaysParses'. -/
def daysParsesUptoCard : Claim7 := { stood := { row := daysParsesUptoRow, standIns := [], harness := (true, "898c314accf3ae8c80b81906704f521814504957358c978bae5b2bed1a915527"), looks := false }, kinds := [], alts := [], laidByText := true, laidKinds := [.data], laidTests := true, laidLooks := .later }
def DaysParsesUptoCardSaid : Prop := Claim7.holds Tryd.pinned (.plain (OpenSpec.upto daysParsesSpec)) daysParsesUptoCard

/-- THE SECOND FORM's CARD OF 'accountinglaw04.DaysNumbers'. -/
def daysNumbersUptoCard : Claim7 := { stood := { row := daysNumbersUptoRow, standIns := [], harness := (true, "898c314accf3ae8c80b81906704f521814504957358c978bae5b2bed1a915527"), looks := false }, kinds := [], alts := [], laidByText := true, laidKinds := [.data], laidTests := true, laidLooks := .later }
def DaysNumbersUptoCardSaid : Prop := Claim7.holds Tryd.pinned (.plain (OpenSpec.upto daysNumbersSpec)) daysNumbersUptoCard
end Rows
end Go.Proofs.YtkjacjkmmboklaaDoor
