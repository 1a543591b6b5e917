/-
  DERIVED. GIVEN WITH THE SEED: THE CARDS: each row of YtdhmnakopofmpaaGreatDoorRows.lean that lists a variable, with what it lists TIED to the program's text (the seventh form; the later family's looks); each row that meets fmt, with fmt's text TOLD by the authors' own Lean function (tested against real Go, not proved from fmt's source: count such statements apart). THE CARD IS WHAT COUNTS. Prove the row's statement (the work); the ties are given (YtdhmnakopofmpaaGreatDoorTie.lean); close each card by the builder's one call (the guide's Derived/Test/ToyasCard.lean, 'card_holds'). Laid BY PROGRAM, IN A SANDBOX (cutbox-door.mjs). By AI agents, Wed Nov 11 2026. No macro, syntax, notation, axiom, sorry.
-/
import Derived.Test.YtdhmnakopofmpaaGreatDoorRows
import GoSem.ClaimSeven
namespace Go.Proofs.YtdhmnakopofmpaaGreatDoor
namespace Rows

/-- THE TIED CARD OF 'bitloftlaw35.DamageNames'. -/
def damageNamesCard : Claim7 := { stood := { row := damageNamesRow, standIns := [], harness := (true, "88780267258e4b596c2c64d96b16fee548fb8dc5a0b8b571008d7a249fe08563"), looks := true }, kinds := [], alts := [], laidByText := true, laidKinds := [.handle, .data, .data], laidTests := true, laidLooks := .later }
def DamageNamesCardSaid : Prop := Claim7.holds Tryz.pinned (.plain (OpenSpec.ofChange damageNamesSpec)) damageNamesCard

/-- THE SECOND FORM's CARD OF 'bitloftlaw35.DamageNames'. -/
def damageNamesUptoCard : Claim7 := { stood := { row := damageNamesUptoRow, standIns := [], harness := (true, "88780267258e4b596c2c64d96b16fee548fb8dc5a0b8b571008d7a249fe08563"), looks := true }, kinds := [], alts := [], laidByText := true, laidKinds := [.handle, .data, .data], laidTests := true, laidLooks := .later }
def DamageNamesUptoCardSaid : Prop := Claim7.holds Tryz.pinned (.plain (OpenSpec.upto damageNamesSpec)) damageNamesUptoCard
end Rows
end Go.Proofs.YtdhmnakopofmpaaGreatDoor
