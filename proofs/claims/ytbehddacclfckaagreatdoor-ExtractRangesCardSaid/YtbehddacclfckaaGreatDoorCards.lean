/-
  DERIVED. GIVEN WITH THE SEED: THE CARDS: each row of YtbehddacclfckaaGreatDoorRows.lean that lists a variable, with what it lists TIED to the program's text (the seventh form; the later family's looks); each row that meets fmt, with fmt's text TOLD by the authors' own Lean function (tested against real Go, not proved from fmt's source: count such statements apart). THE CARD IS WHAT COUNTS. Prove the row's statement (the work); the ties are given (YtbehddacclfckaaGreatDoorTie.lean); close each card by the builder's one call (the guide's Derived/Test/ToyasCard.lean, 'card_holds'). Laid BY PROGRAM, IN A SANDBOX (cutbox-door.mjs). By AI agents, Wed Nov 11 2026. No macro, syntax, notation, axiom, sorry.
-/
import Derived.Test.YtbehddacclfckaaGreatDoorRows
import GoSem.ClaimSeven
namespace Go.Proofs.YtbehddacclfckaaGreatDoor
namespace Rows

/-- THE TIED CARD OF 'bitloftlaw32.ExtractNames'. -/
def extractNamesCard : Claim7 := { stood := { row := extractNamesRow, standIns := [], harness := (true, "883312847803388fb5a81454a4f6d12bdf923010438a42e5363fbf2c69dc47ac"), looks := true }, kinds := [], alts := [], laidByText := true, laidKinds := [.data, .handle, .data, .data, .data, .data, .pinned], laidTests := true, laidLooks := .later }
def ExtractNamesCardSaid : Prop := Claim7.holds Tryz.pinned (.plain (OpenSpec.ofChange extractNamesSpec)) extractNamesCard

/-- THE TIED CARD OF 'bitloftlaw32.ExtractRanges'. -/
def extractRangesCard : Claim7 := { stood := { row := extractRangesRow, standIns := [], harness := (true, "883312847803388fb5a81454a4f6d12bdf923010438a42e5363fbf2c69dc47ac"), looks := true }, kinds := [], alts := [], laidByText := true, laidKinds := [.data, .handle, .data, .data, .data, .data, .pinned], laidTests := true, laidLooks := .later }
def ExtractRangesCardSaid : Prop := Claim7.holds Tryz.pinned (.plain (OpenSpec.ofChange extractRangesSpec)) extractRangesCard

/-- THE SECOND FORM's CARD OF 'bitloftlaw32.ExtractNames'. -/
def extractNamesUptoCard : Claim7 := { stood := { row := extractNamesUptoRow, standIns := [], harness := (true, "883312847803388fb5a81454a4f6d12bdf923010438a42e5363fbf2c69dc47ac"), looks := true }, kinds := [], alts := [], laidByText := true, laidKinds := [.data, .handle, .data, .data, .data, .data, .pinned], laidTests := true, laidLooks := .later }
def ExtractNamesUptoCardSaid : Prop := Claim7.holds Tryz.pinned (.plain (OpenSpec.upto extractNamesSpec)) extractNamesUptoCard

/-- THE SECOND FORM's CARD OF 'bitloftlaw32.ExtractRanges'. -/
def extractRangesUptoCard : Claim7 := { stood := { row := extractRangesUptoRow, standIns := [], harness := (true, "883312847803388fb5a81454a4f6d12bdf923010438a42e5363fbf2c69dc47ac"), looks := true }, kinds := [], alts := [], laidByText := true, laidKinds := [.data, .handle, .data, .data, .data, .data, .pinned], laidTests := true, laidLooks := .later }
def ExtractRangesUptoCardSaid : Prop := Claim7.holds Tryz.pinned (.plain (OpenSpec.upto extractRangesSpec)) extractRangesUptoCard
end Rows
end Go.Proofs.YtbehddacclfckaaGreatDoor
