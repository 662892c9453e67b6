/-
  DERIVED. GIVEN WITH THE SEED: THE CARDS: each row of YtghheaimgjkccaaDoorRows.lean that lists a variable, with what it lists TIED to the program's text (the seventh form; the later family's looks); each row that meets fmt, with fmt's text TOLD by the authors' own Lean function (tested against real Go, not proved from fmt's source: count such statements apart). THE CARD IS WHAT COUNTS. Prove the row's statement (the work); the ties are given (YtghheaimgjkccaaDoorTie.lean); close each card by the builder's one call (the guide's Derived/Test/ToyasCard.lean, 'card_holds'). Laid BY PROGRAM, IN A SANDBOX (cutbox-door.mjs). By AI agents, Wed Nov 11 2026. No macro, syntax, notation, axiom, sorry.
-/
import Derived.Test.YtghheaimgjkccaaDoorRows
import GoSem.ClaimSeven
namespace Go.Proofs.YtghheaimgjkccaaDoor
namespace Rows

/-- THE TIED CARD OF 'accountinglaw05.FiscalSpanReference'. -/
def fiscalSpanReferenceCard : Claim7 := { stood := { row := fiscalSpanReferenceRow, standIns := [], harness := (true, "beae3e4d5a895cd88dc99d529fe7d88bc5648dc6b32d46cb8fd3bbdf90d4b24f"), looks := false }, kinds := [], alts := [], laidByText := true, laidKinds := [.data], laidTests := true, laidLooks := .later }
def FiscalSpanReferenceCardSaid : Prop := Claim7.holds Tryd.pinned (.plain (OpenSpec.ofChange fiscalSpanReferenceSpec)) fiscalSpanReferenceCard

/-- THE TIED CARD OF 'accountinglaw05.FiscalOfReference'. -/
def fiscalOfReferenceCard : Claim7 := { stood := { row := fiscalOfReferenceRow, standIns := [], harness := (true, "beae3e4d5a895cd88dc99d529fe7d88bc5648dc6b32d46cb8fd3bbdf90d4b24f"), looks := false }, kinds := [], alts := [], laidByText := true, laidKinds := [.data], laidTests := true, laidLooks := .later }
def FiscalOfReferenceCardSaid : Prop := Claim7.holds Tryd.pinned (.plain (OpenSpec.ofChange fiscalOfReferenceSpec)) fiscalOfReferenceCard

/-- THE TIED CARD OF 'accountinglaw05.FiscalNotation'. -/
def fiscalNotationCard : Claim7 := { stood := { row := fiscalNotationRow, standIns := [], harness := (true, "beae3e4d5a895cd88dc99d529fe7d88bc5648dc6b32d46cb8fd3bbdf90d4b24f"), looks := false }, kinds := [], alts := [], laidByText := true, laidKinds := [.data], laidTests := true, laidLooks := .later }
def FiscalNotationCardSaid : Prop := Claim7.holds Tryd.pinned (.plain (OpenSpec.ofChange fiscalNotationSpec)) fiscalNotationCard

/-- THE TIED CARD OF 'accountinglaw05.FiscalContains'. -/
def fiscalContainsCard : Claim7 := { stood := { row := fiscalContainsRow, standIns := [], harness := (true, "beae3e4d5a895cd88dc99d529fe7d88bc5648dc6b32d46cb8fd3bbdf90d4b24f"), looks := false }, kinds := [], alts := [], laidByText := true, laidKinds := [.data], laidTests := true, laidLooks := .later }
def FiscalContainsCardSaid : Prop := Claim7.holds Tryd.pinned (.plain (OpenSpec.ofChange fiscalContainsSpec)) fiscalContainsCard

/-- THE TIED CARD OF 'accountinglaw05.FiscalTiles'. -/
def fiscalTilesCard : Claim7 := { stood := { row := fiscalTilesRow, standIns := [], harness := (true, "beae3e4d5a895cd88dc99d529fe7d88bc5648dc6b32d46cb8fd3bbdf90d4b24f"), looks := false }, kinds := [], alts := [], laidByText := true, laidKinds := [.data], laidTests := true, laidLooks := .later }
def FiscalTilesCardSaid : Prop := Claim7.holds Tryd.pinned (.plain (OpenSpec.ofChange fiscalTilesSpec)) fiscalTilesCard

/-- THE TIED CARD OF 'accountinglaw05.FiscalCounts'. -/
def fiscalCountsCard : Claim7 := { stood := { row := fiscalCountsRow, standIns := [], harness := (true, "beae3e4d5a895cd88dc99d529fe7d88bc5648dc6b32d46cb8fd3bbdf90d4b24f"), looks := false }, kinds := [], alts := [], laidByText := true, laidKinds := [.data], laidTests := true, laidLooks := .later }
def FiscalCountsCardSaid : Prop := Claim7.holds Tryd.pinned (.plain (OpenSpec.ofChange fiscalCountsSpec)) fiscalCountsCard

/-- THE TIED CARD OF 'accountinglaw05.FiscalStepsReference'. -/
def fiscalStepsReferenceCard : Claim7 := { stood := { row := fiscalStepsReferenceRow, standIns := [], harness := (true, "beae3e4d5a895cd88dc99d529fe7d88bc5648dc6b32d46cb8fd3bbdf90d4b24f"), looks := false }, kinds := [], alts := [], laidByText := true, laidKinds := [.data], laidTests := true, laidLooks := .later }
def FiscalStepsReferenceCardSaid : Prop := Claim7.holds Tryd.pinned (.plain (OpenSpec.ofChange fiscalStepsReferenceSpec)) fiscalStepsReferenceCard

/-- THE TIED CARD OF 'accountinglaw05.FiscalNextPrev'. -/
def fiscalNextPrevCard : Claim7 := { stood := { row := fiscalNextPrevRow, standIns := [], harness := (true, "beae3e4d5a895cd88dc99d529fe7d88bc5648dc6b32d46cb8fd3bbdf90d4b24f"), looks := false }, kinds := [], alts := [], laidByText := true, laidKinds := [.data], laidTests := true, laidLooks := .later }
def FiscalNextPrevCardSaid : Prop := Claim7.holds Tryd.pinned (.plain (OpenSpec.ofChange fiscalNextPrevSpec)) fiscalNextPrevCard

/-- THE SECOND FORM's CARD OF 'accountinglaw05.FiscalSpanReference'. -/
def fiscalSpanReferenceUptoCard : Claim7 := { stood := { row := fiscalSpanReferenceUptoRow, standIns := [], harness := (true, "beae3e4d5a895cd88dc99d529fe7d88bc5648dc6b32d46cb8fd3bbdf90d4b24f"), looks := false }, kinds := [], alts := [], laidByText := true, laidKinds := [.data], laidTests := true, laidLooks := .later }
def FiscalSpanReferenceUptoCardSaid : Prop := Claim7.holds Tryd.pinned (.plain (OpenSpec.upto fiscalSpanReferenceSpec)) fiscalSpanReferenceUptoCard

/-- THE SECOND FORM's CARD OF 'accountinglaw05.FiscalOfReference'. -/
def fiscalOfReferenceUptoCard : Claim7 := { stood := { row := fiscalOfReferenceUptoRow, standIns := [], harness := (true, "beae3e4d5a895cd88dc99d529fe7d88bc5648dc6b32d46cb8fd3bbdf90d4b24f"), looks := false }, kinds := [], alts := [], laidByText := true, laidKinds := [.data], laidTests := true, laidLooks := .later }
def FiscalOfReferenceUptoCardSaid : Prop := Claim7.holds Tryd.pinned (.plain (OpenSpec.upto fiscalOfReferenceSpec)) fiscalOfReferenceUptoCard

/-- THE SECOND FORM's CARD OF 'accountinglaw05.FiscalNotation'. -/
def fiscalNotationUptoCard : Claim7 := { stood := { row := fiscalNotationUptoRow, standIns := [], harness := (true, "beae3e4d5a895cd88dc99d529fe7d88bc5648dc6b32d46cb8fd3bbdf90d4b24f"), looks := false }, kinds := [], alts := [], laidByText := true, laidKinds := [.data], laidTests := true, laidLooks := .later }
def FiscalNotationUptoCardSaid : Prop := Claim7.holds Tryd.pinned (.plain (OpenSpec.upto fiscalNotationSpec)) fiscalNotationUptoCard

/-- THE SECOND FORM's CARD OF 'accountinglaw05.FiscalContains'. -/
def fiscalContainsUptoCard : Claim7 := { stood := { row := fiscalContainsUptoRow, standIns := [], harness := (true, "beae3e4d5a895cd88dc99d529fe7d88bc5648dc6b32d46cb8fd3bbdf90d4b24f"), looks := false }, kinds := [], alts := [], laidByText := true, laidKinds := [.data], laidTests := true, laidLooks := .later }
def FiscalContainsUptoCardSaid : Prop := Claim7.holds Tryd.pinned (.plain (OpenSpec.upto fiscalContainsSpec)) fiscalContainsUptoCard

/-- THE SECOND FORM's CARD OF 'accountinglaw05.FiscalTiles'. -/
def fiscalTilesUptoCard : Claim7 := { stood := { row := fiscalTilesUptoRow, standIns := [], harness := (true, "beae3e4d5a895cd88dc99d529fe7d88bc5648dc6b32d46cb8fd3bbdf90d4b24f"), looks := false }, kinds := [], alts := [], laidByText := true, laidKinds := [.data], laidTests := true, laidLooks := .later }
def FiscalTilesUptoCardSaid : Prop := Claim7.holds Tryd.pinned (.plain (OpenSpec.upto fiscalTilesSpec)) fiscalTilesUptoCard

/-- THE SECOND FORM's CARD OF 'accountinglaw05.FiscalCounts'. -/
def fiscalCountsUptoCard : Claim7 := { stood := { row := fiscalCountsUptoRow, standIns := [], harness := (true, "beae3e4d5a895cd88dc99d529fe7d88bc5648dc6b32d46cb8fd3bbdf90d4b24f"), looks := false }, kinds := [], alts := [], laidByText := true, laidKinds := [.data], laidTests := true, laidLooks := .later }
def FiscalCountsUptoCardSaid : Prop := Claim7.holds Tryd.pinned (.plain (OpenSpec.upto fiscalCountsSpec)) fiscalCountsUptoCard

/-- THE SECOND FORM's CARD OF 'accountinglaw05.FiscalStepsReference'. -/
def fiscalStepsReferenceUptoCard : Claim7 := { stood := { row := fiscalStepsReferenceUptoRow, standIns := [], harness := (true, "beae3e4d5a895cd88dc99d529fe7d88bc5648dc6b32d46cb8fd3bbdf90d4b24f"), looks := false }, kinds := [], alts := [], laidByText := true, laidKinds := [.data], laidTests := true, laidLooks := .later }
def FiscalStepsReferenceUptoCardSaid : Prop := Claim7.holds Tryd.pinned (.plain (OpenSpec.upto fiscalStepsReferenceSpec)) fiscalStepsReferenceUptoCard

/-- THE SECOND FORM's CARD OF 'accountinglaw05.FiscalNextPrev'. -/
def fiscalNextPrevUptoCard : Claim7 := { stood := { row := fiscalNextPrevUptoRow, standIns := [], harness := (true, "beae3e4d5a895cd88dc99d529fe7d88bc5648dc6b32d46cb8fd3bbdf90d4b24f"), looks := false }, kinds := [], alts := [], laidByText := true, laidKinds := [.data], laidTests := true, laidLooks := .later }
def FiscalNextPrevUptoCardSaid : Prop := Claim7.holds Tryd.pinned (.plain (OpenSpec.upto fiscalNextPrevSpec)) fiscalNextPrevUptoCard
end Rows
end Go.Proofs.YtghheaimgjkccaaDoor
