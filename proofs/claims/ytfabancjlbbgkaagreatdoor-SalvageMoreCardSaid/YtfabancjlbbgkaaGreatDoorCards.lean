/-
  DERIVED. GIVEN WITH THE SEED: THE CARDS: each row of YtfabancjlbbgkaaGreatDoorRows.lean that lists a variable, with what it lists TIED to the program's text (the seventh form; the later family's looks); each row that meets fmt, with fmt's text TOLD by the authors' own Lean function (tested against real Go, not proved from fmt's source: count such statements apart). THE CARD IS WHAT COUNTS. Prove the row's statement (the work); the ties are given (YtfabancjlbbgkaaGreatDoorTie.lean); close each card by the builder's one call (the guide's Derived/Test/ToyasCard.lean, 'card_holds'). Laid BY PROGRAM, IN A SANDBOX (cutbox-door.mjs). By AI agents, Wed Nov 11 2026. No macro, syntax, notation, axiom, sorry.
-/
import Derived.Test.YtfabancjlbbgkaaGreatDoorRows
import GoSem.ClaimSeven
namespace Go.Proofs.YtfabancjlbbgkaaGreatDoor
namespace Rows

/-- THE TIED CARD OF 'bitloftlaw34.SalvageNames'. -/
def salvageNamesCard : Claim7 := { stood := { row := salvageNamesRow, standIns := [], harness := (true, "88a3727bd520289a021c5a1dcb05d793b632ca22f8315a44ce3a129bc138a550"), looks := false }, kinds := [], alts := [], laidByText := true, laidKinds := [.data, .data, .data, .data, .data, .pinned], laidTests := true, laidLooks := .later }
def SalvageNamesCardSaid : Prop := Claim7.holds Tryz.pinned (.plain (OpenSpec.ofChange salvageNamesSpec)) salvageNamesCard

/-- THE TIED CARD OF 'bitloftlaw34.SalvageBehind'. -/
def salvageBehindCard : Claim7 := { stood := { row := salvageBehindRow, standIns := [], harness := (true, "88a3727bd520289a021c5a1dcb05d793b632ca22f8315a44ce3a129bc138a550"), looks := false }, kinds := [], alts := [], laidByText := true, laidKinds := [.data, .data, .data, .data, .data, .pinned], laidTests := true, laidLooks := .later }
def SalvageBehindCardSaid : Prop := Claim7.holds Tryz.pinned (.plain (OpenSpec.ofChange salvageBehindSpec)) salvageBehindCard

/-- THE TIED CARD OF 'bitloftlaw34.SalvageMore'. -/
def salvageMoreCard : Claim7 := { stood := { row := salvageMoreRow, standIns := [], harness := (true, "88a3727bd520289a021c5a1dcb05d793b632ca22f8315a44ce3a129bc138a550"), looks := false }, kinds := [], alts := [], laidByText := true, laidKinds := [.data, .data, .data, .data, .data, .pinned], laidTests := true, laidLooks := .later }
def SalvageMoreCardSaid : Prop := Claim7.holds Tryz.pinned (.plain (OpenSpec.ofChange salvageMoreSpec)) salvageMoreCard

/-- THE SECOND FORM's CARD OF 'bitloftlaw34.SalvageNames'. -/
def salvageNamesUptoCard : Claim7 := { stood := { row := salvageNamesUptoRow, standIns := [], harness := (true, "88a3727bd520289a021c5a1dcb05d793b632ca22f8315a44ce3a129bc138a550"), looks := false }, kinds := [], alts := [], laidByText := true, laidKinds := [.data, .data, .data, .data, .data, .pinned], laidTests := true, laidLooks := .later }
def SalvageNamesUptoCardSaid : Prop := Claim7.holds Tryz.pinned (.plain (OpenSpec.upto salvageNamesSpec)) salvageNamesUptoCard

/-- THE SECOND FORM's CARD OF 'bitloftlaw34.SalvageBehind'. -/
def salvageBehindUptoCard : Claim7 := { stood := { row := salvageBehindUptoRow, standIns := [], harness := (true, "88a3727bd520289a021c5a1dcb05d793b632ca22f8315a44ce3a129bc138a550"), looks := false }, kinds := [], alts := [], laidByText := true, laidKinds := [.data, .data, .data, .data, .data, .pinned], laidTests := true, laidLooks := .later }
def SalvageBehindUptoCardSaid : Prop := Claim7.holds Tryz.pinned (.plain (OpenSpec.upto salvageBehindSpec)) salvageBehindUptoCard

/-- THE SECOND FORM's CARD OF 'bitloftlaw34.SalvageMore'. -/
def salvageMoreUptoCard : Claim7 := { stood := { row := salvageMoreUptoRow, standIns := [], harness := (true, "88a3727bd520289a021c5a1dcb05d793b632ca22f8315a44ce3a129bc138a550"), looks := false }, kinds := [], alts := [], laidByText := true, laidKinds := [.data, .data, .data, .data, .data, .pinned], laidTests := true, laidLooks := .later }
def SalvageMoreUptoCardSaid : Prop := Claim7.holds Tryz.pinned (.plain (OpenSpec.upto salvageMoreSpec)) salvageMoreUptoCard
end Rows
end Go.Proofs.YtfabancjlbbgkaaGreatDoor
