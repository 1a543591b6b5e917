/-
  DERIVED. GIVEN WITH THE SEED: THE CARDS: each row of YtdgenbliehokjaaGreatDoorRows.lean that lists a variable, with what it lists TIED to the program's text (the seventh form; the later family's looks); each row that meets fmt, with fmt's text TOLD by the authors' own Lean function (tested against real Go, not proved from fmt's source: count such statements apart). THE CARD IS WHAT COUNTS. Prove the row's statement (the work); the ties are given (YtdgenbliehokjaaGreatDoorTie.lean); close each card by the builder's one call (the guide's Derived/Test/ToyasCard.lean, 'card_holds'). Laid BY PROGRAM, IN A SANDBOX (cutbox-door.mjs). By AI agents, Wed Nov 11 2026. No macro, syntax, notation, axiom, sorry.
-/
import Derived.Test.YtdgenbliehokjaaGreatDoorRows
import GoSem.ClaimSeven
namespace Go.Proofs.YtdgenbliehokjaaGreatDoor
namespace Rows

/-- THE TIED CARD OF 'bitloftlaw32.ExtractOne'. -/
def extractOneCard : Claim7 := { stood := { row := extractOneRow, standIns := [], harness := (true, "d305d7ebf2b65a80d269897cf994cecd08b9e786855115a05bc4f6278ecc52f0"), looks := true }, kinds := [], alts := [], laidByText := true, laidKinds := [.data, .handle, .data, .data, .data, .data, .pinned], laidTests := true, laidLooks := .later }
def ExtractOneCardSaid : Prop := Claim7.holds Tryz.pinned (.plain (OpenSpec.ofChange extractOneSpec)) extractOneCard

/-- THE TIED CARD OF 'bitloftlaw33.VerifyFine'. -/
def verifyFineCard : Claim7 := { stood := { row := verifyFineRow, standIns := [], harness := (true, "d305d7ebf2b65a80d269897cf994cecd08b9e786855115a05bc4f6278ecc52f0"), looks := true }, kinds := [], alts := [], laidByText := true, laidKinds := [.data, .handle, .data, .data, .data, .data, .pinned], laidTests := true, laidLooks := .later }
def VerifyFineCardSaid : Prop := Claim7.holds Tryz.pinned (.plain (OpenSpec.ofChange verifyFineSpec)) verifyFineCard

/-- THE SECOND FORM's CARD OF 'bitloftlaw32.ExtractOne'. -/
def extractOneUptoCard : Claim7 := { stood := { row := extractOneUptoRow, standIns := [], harness := (true, "d305d7ebf2b65a80d269897cf994cecd08b9e786855115a05bc4f6278ecc52f0"), looks := true }, kinds := [], alts := [], laidByText := true, laidKinds := [.data, .handle, .data, .data, .data, .data, .pinned], laidTests := true, laidLooks := .later }
def ExtractOneUptoCardSaid : Prop := Claim7.holds Tryz.pinned (.plain (OpenSpec.upto extractOneSpec)) extractOneUptoCard

/-- THE SECOND FORM's CARD OF 'bitloftlaw33.VerifyFine'. -/
def verifyFineUptoCard : Claim7 := { stood := { row := verifyFineUptoRow, standIns := [], harness := (true, "d305d7ebf2b65a80d269897cf994cecd08b9e786855115a05bc4f6278ecc52f0"), looks := true }, kinds := [], alts := [], laidByText := true, laidKinds := [.data, .handle, .data, .data, .data, .data, .pinned], laidTests := true, laidLooks := .later }
def VerifyFineUptoCardSaid : Prop := Claim7.holds Tryz.pinned (.plain (OpenSpec.upto verifyFineSpec)) verifyFineUptoCard
end Rows
end Go.Proofs.YtdgenbliehokjaaGreatDoor
