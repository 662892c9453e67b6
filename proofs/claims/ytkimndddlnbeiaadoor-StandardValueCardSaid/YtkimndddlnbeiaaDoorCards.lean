/-
  DERIVED. GIVEN WITH THE SEED: THE CARDS: each row of YtkimndddlnbeiaaDoorRows.lean that lists a variable, with what it lists TIED to the program's text (the seventh form; the later family's looks); each row that meets fmt, with fmt's text TOLD by the authors' own Lean function (tested against real Go, not proved from fmt's source: count such statements apart). THE CARD IS WHAT COUNTS. Prove the row's statement (the work); the ties are given (YtkimndddlnbeiaaDoorTie.lean); close each card by the builder's one call (the guide's Derived/Test/ToyasCard.lean, 'card_holds'). Laid BY PROGRAM, IN A SANDBOX (cutbox-door.mjs). By AI agents, Wed Nov 11 2026. No macro, syntax, notation, axiom, sorry.
-/
import Derived.Test.YtkimndddlnbeiaaDoorRows
import GoSem.ClaimSeven
namespace Go.Proofs.YtkimndddlnbeiaaDoor
namespace Rows

/-- THE TIED CARD OF 'accountinglaw36.StandardSteps'. -/
def standardStepsCard : Claim7 := { stood := { row := standardStepsRow, standIns := [], harness := (true, "bf05bf3fe8a4e8068f3df3c4efa46a8bc29c1cb9c689e766a0661cee510d401b"), looks := false }, kinds := [], alts := [], laidByText := true, laidKinds := [.data], laidTests := true, laidLooks := .later }
def StandardStepsCardSaid : Prop := Claim7.holds Tryd.pinned (.plain (OpenSpec.ofChange standardStepsSpec)) standardStepsCard

/-- THE TIED CARD OF 'accountinglaw36.StandardValue'. -/
def standardValueCard : Claim7 := { stood := { row := standardValueRow, standIns := [], harness := (true, "bf05bf3fe8a4e8068f3df3c4efa46a8bc29c1cb9c689e766a0661cee510d401b"), looks := false }, kinds := [], alts := [], laidByText := true, laidKinds := [.data], laidTests := true, laidLooks := .later }
def StandardValueCardSaid : Prop := Claim7.holds Tryd.pinned (.plain (OpenSpec.ofChange standardValueSpec)) standardValueCard

/-- THE TIED CARD OF 'accountinglaw36.StandardVariance'. -/
def standardVarianceCard : Claim7 := { stood := { row := standardVarianceRow, standIns := [], harness := (true, "bf05bf3fe8a4e8068f3df3c4efa46a8bc29c1cb9c689e766a0661cee510d401b"), looks := false }, kinds := [], alts := [], laidByText := true, laidKinds := [.data], laidTests := true, laidLooks := .later }
def StandardVarianceCardSaid : Prop := Claim7.holds Tryd.pinned (.plain (OpenSpec.ofChange standardVarianceSpec)) standardVarianceCard

/-- THE TIED CARD OF 'accountinglaw36.StandardBack'. -/
def standardBackCard : Claim7 := { stood := { row := standardBackRow, standIns := [], harness := (true, "bf05bf3fe8a4e8068f3df3c4efa46a8bc29c1cb9c689e766a0661cee510d401b"), looks := false }, kinds := [], alts := [], laidByText := true, laidKinds := [.data], laidTests := true, laidLooks := .later }
def StandardBackCardSaid : Prop := Claim7.holds Tryd.pinned (.plain (OpenSpec.ofChange standardBackSpec)) standardBackCard

/-- THE TIED CARD OF 'accountinglaw36.StandardKeeps'. -/
def standardKeepsCard : Claim7 := { stood := { row := standardKeepsRow, standIns := [], harness := (true, "bf05bf3fe8a4e8068f3df3c4efa46a8bc29c1cb9c689e766a0661cee510d401b"), looks := false }, kinds := [], alts := [], laidByText := true, laidKinds := [.data], laidTests := true, laidLooks := .later }
def StandardKeepsCardSaid : Prop := Claim7.holds Tryd.pinned (.plain (OpenSpec.ofChange standardKeepsSpec)) standardKeepsCard

/-- THE SECOND FORM's CARD OF 'accountinglaw36.StandardSteps'. -/
def standardStepsUptoCard : Claim7 := { stood := { row := standardStepsUptoRow, standIns := [], harness := (true, "bf05bf3fe8a4e8068f3df3c4efa46a8bc29c1cb9c689e766a0661cee510d401b"), looks := false }, kinds := [], alts := [], laidByText := true, laidKinds := [.data], laidTests := true, laidLooks := .later }
def StandardStepsUptoCardSaid : Prop := Claim7.holds Tryd.pinned (.plain (OpenSpec.upto standardStepsSpec)) standardStepsUptoCard

/-- THE SECOND FORM's CARD OF 'accountinglaw36.StandardValue'. -/
def standardValueUptoCard : Claim7 := { stood := { row := standardValueUptoRow, standIns := [], harness := (true, "bf05bf3fe8a4e8068f3df3c4efa46a8bc29c1cb9c689e766a0661cee510d401b"), looks := false }, kinds := [], alts := [], laidByText := true, laidKinds := [.data], laidTests := true, laidLooks := .later }
def StandardValueUptoCardSaid : Prop := Claim7.holds Tryd.pinned (.plain (OpenSpec.upto standardValueSpec)) standardValueUptoCard

/-- THE SECOND FORM's CARD OF 'accountinglaw36.StandardVariance'. -/
def standardVarianceUptoCard : Claim7 := { stood := { row := standardVarianceUptoRow, standIns := [], harness := (true, "bf05bf3fe8a4e8068f3df3c4efa46a8bc29c1cb9c689e766a0661cee510d401b"), looks := false }, kinds := [], alts := [], laidByText := true, laidKinds := [.data], laidTests := true, laidLooks := .later }
def StandardVarianceUptoCardSaid : Prop := Claim7.holds Tryd.pinned (.plain (OpenSpec.upto standardVarianceSpec)) standardVarianceUptoCard

/-- THE SECOND FORM's CARD OF 'accountinglaw36.StandardBack'. -/
def standardBackUptoCard : Claim7 := { stood := { row := standardBackUptoRow, standIns := [], harness := (true, "bf05bf3fe8a4e8068f3df3c4efa46a8bc29c1cb9c689e766a0661cee510d401b"), looks := false }, kinds := [], alts := [], laidByText := true, laidKinds := [.data], laidTests := true, laidLooks := .later }
def StandardBackUptoCardSaid : Prop := Claim7.holds Tryd.pinned (.plain (OpenSpec.upto standardBackSpec)) standardBackUptoCard

/-- THE SECOND FORM's CARD OF 'accountinglaw36.StandardKeeps'. -/
def standardKeepsUptoCard : Claim7 := { stood := { row := standardKeepsUptoRow, standIns := [], harness := (true, "bf05bf3fe8a4e8068f3df3c4efa46a8bc29c1cb9c689e766a0661cee510d401b"), looks := false }, kinds := [], alts := [], laidByText := true, laidKinds := [.data], laidTests := true, laidLooks := .later }
def StandardKeepsUptoCardSaid : Prop := Claim7.holds Tryd.pinned (.plain (OpenSpec.upto standardKeepsSpec)) standardKeepsUptoCard
end Rows
end Go.Proofs.YtkimndddlnbeiaaDoor
