/-
  DERIVED. GIVEN WITH THE SEED: THE CARDS: each row of YtbgokmkefnepcaaGreatDoorRows.lean that lists a variable, with what it lists TIED to the program's text (the seventh form; the later family's looks); each row that meets fmt, with fmt's text TOLD by the authors' own Lean function (tested against real Go, not proved from fmt's source: count such statements apart). THE CARD IS WHAT COUNTS. Prove the row's statement (the work); the ties are given (YtbgokmkefnepcaaGreatDoorTie.lean); close each card by the builder's one call (the guide's Derived/Test/ToyasCard.lean, 'card_holds'). Laid BY PROGRAM, IN A SANDBOX (cutbox-door.mjs). By AI agents, Wed Nov 11 2026. No macro, syntax, notation, axiom, sorry.
-/
import Derived.Test.YtbgokmkefnepcaaGreatDoorRows
import GoSem.ClaimSeven
namespace Go.Proofs.YtbgokmkefnepcaaGreatDoor
namespace Rows

/-- THE TIED CARD OF 'bitloftlaw27.BlockRead'. -/
def blockReadCard : Claim7 := { stood := { row := blockReadRow, standIns := [], harness := (true, "e5b8e7bdf4f688becfc73325005eecd327ddc4be432c4e5fe960fece56697a25"), looks := false }, kinds := [], alts := [], laidByText := true, laidKinds := [.data, .data, .data, .data, .data, .pinned], laidTests := true, laidLooks := .later }
def BlockReadCardSaid : Prop := Claim7.holds Tryz.pinned (.plain (OpenSpec.ofChange blockReadSpec)) blockReadCard

/-- THE TIED CARD OF 'bitloftlaw27.BlockMakes'. -/
def blockMakesCard : Claim7 := { stood := { row := blockMakesRow, standIns := [], harness := (true, "e5b8e7bdf4f688becfc73325005eecd327ddc4be432c4e5fe960fece56697a25"), looks := false }, kinds := [], alts := [], laidByText := true, laidKinds := [.data, .data, .data, .data, .data, .pinned], laidTests := true, laidLooks := .later }
def BlockMakesCardSaid : Prop := Claim7.holds Tryz.pinned (.plain (OpenSpec.ofChange blockMakesSpec)) blockMakesCard

/-- THE TIED CARD OF 'bitloftlaw27.BlockNames'. -/
def blockNamesCard : Claim7 := { stood := { row := blockNamesRow, standIns := [], harness := (true, "e5b8e7bdf4f688becfc73325005eecd327ddc4be432c4e5fe960fece56697a25"), looks := false }, kinds := [], alts := [], laidByText := true, laidKinds := [.data, .data, .data, .data, .data, .pinned], laidTests := true, laidLooks := .later }
def BlockNamesCardSaid : Prop := Claim7.holds Tryz.pinned (.plain (OpenSpec.ofChange blockNamesSpec)) blockNamesCard

/-- THE TIED CARD OF 'bitloftlaw27.BlockBack'. -/
def blockBackCard : Claim7 := { stood := { row := blockBackRow, standIns := [], harness := (true, "e5b8e7bdf4f688becfc73325005eecd327ddc4be432c4e5fe960fece56697a25"), looks := false }, kinds := [], alts := [], laidByText := true, laidKinds := [.data, .data, .data, .data, .data, .pinned], laidTests := true, laidLooks := .later }
def BlockBackCardSaid : Prop := Claim7.holds Tryz.pinned (.plain (OpenSpec.ofChange blockBackSpec)) blockBackCard

/-- THE TIED CARD OF 'bitloftlaw27.BlockChanged'. -/
def blockChangedCard : Claim7 := { stood := { row := blockChangedRow, standIns := [], harness := (true, "e5b8e7bdf4f688becfc73325005eecd327ddc4be432c4e5fe960fece56697a25"), looks := false }, kinds := [], alts := [], laidByText := true, laidKinds := [.data, .data, .data, .data, .data, .pinned], laidTests := true, laidLooks := .later }
def BlockChangedCardSaid : Prop := Claim7.holds Tryz.pinned (.plain (OpenSpec.ofChange blockChangedSpec)) blockChangedCard

/-- THE SECOND FORM's CARD OF 'bitloftlaw27.BlockRead'. -/
def blockReadUptoCard : Claim7 := { stood := { row := blockReadUptoRow, standIns := [], harness := (true, "e5b8e7bdf4f688becfc73325005eecd327ddc4be432c4e5fe960fece56697a25"), looks := false }, kinds := [], alts := [], laidByText := true, laidKinds := [.data, .data, .data, .data, .data, .pinned], laidTests := true, laidLooks := .later }
def BlockReadUptoCardSaid : Prop := Claim7.holds Tryz.pinned (.plain (OpenSpec.upto blockReadSpec)) blockReadUptoCard

/-- THE SECOND FORM's CARD OF 'bitloftlaw27.BlockMakes'. -/
def blockMakesUptoCard : Claim7 := { stood := { row := blockMakesUptoRow, standIns := [], harness := (true, "e5b8e7bdf4f688becfc73325005eecd327ddc4be432c4e5fe960fece56697a25"), looks := false }, kinds := [], alts := [], laidByText := true, laidKinds := [.data, .data, .data, .data, .data, .pinned], laidTests := true, laidLooks := .later }
def BlockMakesUptoCardSaid : Prop := Claim7.holds Tryz.pinned (.plain (OpenSpec.upto blockMakesSpec)) blockMakesUptoCard

/-- THE SECOND FORM's CARD OF 'bitloftlaw27.BlockNames'. -/
def blockNamesUptoCard : Claim7 := { stood := { row := blockNamesUptoRow, standIns := [], harness := (true, "e5b8e7bdf4f688becfc73325005eecd327ddc4be432c4e5fe960fece56697a25"), looks := false }, kinds := [], alts := [], laidByText := true, laidKinds := [.data, .data, .data, .data, .data, .pinned], laidTests := true, laidLooks := .later }
def BlockNamesUptoCardSaid : Prop := Claim7.holds Tryz.pinned (.plain (OpenSpec.upto blockNamesSpec)) blockNamesUptoCard

/-- THE SECOND FORM's CARD OF 'bitloftlaw27.BlockBack'. -/
def blockBackUptoCard : Claim7 := { stood := { row := blockBackUptoRow, standIns := [], harness := (true, "e5b8e7bdf4f688becfc73325005eecd327ddc4be432c4e5fe960fece56697a25"), looks := false }, kinds := [], alts := [], laidByText := true, laidKinds := [.data, .data, .data, .data, .data, .pinned], laidTests := true, laidLooks := .later }
def BlockBackUptoCardSaid : Prop := Claim7.holds Tryz.pinned (.plain (OpenSpec.upto blockBackSpec)) blockBackUptoCard

/-- THE SECOND FORM's CARD OF 'bitloftlaw27.BlockChanged'. -/
def blockChangedUptoCard : Claim7 := { stood := { row := blockChangedUptoRow, standIns := [], harness := (true, "e5b8e7bdf4f688becfc73325005eecd327ddc4be432c4e5fe960fece56697a25"), looks := false }, kinds := [], alts := [], laidByText := true, laidKinds := [.data, .data, .data, .data, .data, .pinned], laidTests := true, laidLooks := .later }
def BlockChangedUptoCardSaid : Prop := Claim7.holds Tryz.pinned (.plain (OpenSpec.upto blockChangedSpec)) blockChangedUptoCard
end Rows
end Go.Proofs.YtbgokmkefnepcaaGreatDoor
