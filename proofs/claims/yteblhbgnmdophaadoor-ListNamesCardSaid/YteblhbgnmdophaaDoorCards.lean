/-
  DERIVED. GIVEN WITH THE SEED: THE CARDS: each row of YteblhbgnmdophaaDoorRows.lean that lists a variable, with what it lists TIED to the program's text (the seventh form; the later family's looks); each row that meets fmt, with fmt's text TOLD by the authors' own Lean function (tested against real Go, not proved from fmt's source: count such statements apart). THE CARD IS WHAT COUNTS. Prove the row's statement (the work); the ties are given (YteblhbgnmdophaaDoorTie.lean); close each card by the builder's one call (the guide's Derived/Test/ToyasCard.lean, 'card_holds'). Laid BY PROGRAM, IN A SANDBOX (cutbox-door.mjs). By AI agents, Wed Nov 11 2026. No macro, syntax, notation, axiom, sorry.
-/
import Derived.Test.YteblhbgnmdophaaDoorRows
import GoSem.ClaimSeven
namespace Go.Proofs.YteblhbgnmdophaaDoor
namespace Rows

/-- THE TIED CARD OF 'bitloftlaw31.ListNames'. -/
def listNamesCard : Claim7 := { stood := { row := listNamesRow, standIns := [], harness := (true, "e46b10818c4d28d59bd67ac7d4a17549315779df9b2e243e1f38ef4a06073e66"), looks := true }, kinds := [], alts := [], laidByText := true, laidKinds := [.handle, .data, .data], laidTests := true, laidLooks := .later }
def ListNamesCardSaid : Prop := Claim7.holds Tryd.pinned (.plain (OpenSpec.ofChange listNamesSpec)) listNamesCard

/-- THE SECOND FORM's CARD OF 'bitloftlaw31.ListNames'. -/
def listNamesUptoCard : Claim7 := { stood := { row := listNamesUptoRow, standIns := [], harness := (true, "e46b10818c4d28d59bd67ac7d4a17549315779df9b2e243e1f38ef4a06073e66"), looks := true }, kinds := [], alts := [], laidByText := true, laidKinds := [.handle, .data, .data], laidTests := true, laidLooks := .later }
def ListNamesUptoCardSaid : Prop := Claim7.holds Tryd.pinned (.plain (OpenSpec.upto listNamesSpec)) listNamesUptoCard
end Rows
end Go.Proofs.YteblhbgnmdophaaDoor
