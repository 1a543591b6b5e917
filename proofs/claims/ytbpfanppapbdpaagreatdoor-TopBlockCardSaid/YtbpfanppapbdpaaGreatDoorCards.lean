/-
  DERIVED. GIVEN WITH THE SEED: THE CARDS: each row of YtbpfanppapbdpaaGreatDoorRows.lean that lists a variable, with what it lists TIED to the program's text (the seventh form; the later family's looks); each row that meets fmt, with fmt's text TOLD by the authors' own Lean function (tested against real Go, not proved from fmt's source: count such statements apart). THE CARD IS WHAT COUNTS. Prove the row's statement (the work); the ties are given (YtbpfanppapbdpaaGreatDoorTie.lean); close each card by the builder's one call (the guide's Derived/Test/ToyasCard.lean, 'card_holds'). Laid BY PROGRAM, IN A SANDBOX (cutbox-door.mjs). By AI agents, Wed Nov 11 2026. No macro, syntax, notation, axiom, sorry.
-/
import Derived.Test.YtbpfanppapbdpaaGreatDoorRows
import GoSem.ClaimSeven
namespace Go.Proofs.YtbpfanppapbdpaaGreatDoor
namespace Rows

/-- THE TIED CARD OF 'bitlofttop.TopBlock'. -/
def topBlockCard : Claim7 := { stood := { row := topBlockRow, standIns := [], harness := (true, "97865ebf20859a187792aace3d31031616efbeec9d97df21d309741bea2e68f3"), looks := true }, kinds := [], alts := [], laidByText := true, laidKinds := [.data, .handle, .data, .data, .data, .data, .pinned], laidTests := true, laidLooks := .later }
def TopBlockCardSaid : Prop := Claim7.holds Tryz.pinned (.plain (OpenSpec.ofChange topBlockSpec)) topBlockCard

/-- THE SECOND FORM's CARD OF 'bitlofttop.TopBlock'. -/
def topBlockUptoCard : Claim7 := { stood := { row := topBlockUptoRow, standIns := [], harness := (true, "97865ebf20859a187792aace3d31031616efbeec9d97df21d309741bea2e68f3"), looks := true }, kinds := [], alts := [], laidByText := true, laidKinds := [.data, .handle, .data, .data, .data, .data, .pinned], laidTests := true, laidLooks := .later }
def TopBlockUptoCardSaid : Prop := Claim7.holds Tryz.pinned (.plain (OpenSpec.upto topBlockSpec)) topBlockUptoCard
end Rows
end Go.Proofs.YtbpfanppapbdpaaGreatDoor
