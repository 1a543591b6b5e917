/-
  DERIVED. GIVEN WITH THE SEED: THE CARDS: each row of YtgdhbgphdojmoaaGreatDoorRows.lean that lists a variable, with what it lists TIED to the program's text (the seventh form; the later family's looks); each row that meets fmt, with fmt's text TOLD by the authors' own Lean function (tested against real Go, not proved from fmt's source: count such statements apart). THE CARD IS WHAT COUNTS. Prove the row's statement (the work); the ties are given (YtgdhbgphdojmoaaGreatDoorTie.lean); close each card by the builder's one call (the guide's Derived/Test/ToyasCard.lean, 'card_holds'). Laid BY PROGRAM, IN A SANDBOX (cutbox-door.mjs). By AI agents, Wed Nov 11 2026. No macro, syntax, notation, axiom, sorry.
-/
import Derived.Test.YtgdhbgphdojmoaaGreatDoorRows
import GoSem.ClaimSeven
namespace Go.Proofs.YtgdhbgphdojmoaaGreatDoor
namespace Rows

/-- THE TIED CARD OF 'bitloftlaw35.DamageSurvivors'. -/
def damageSurvivorsCard : Claim7 := { stood := { row := damageSurvivorsRow, standIns := [], harness := (true, "2d31ef27e479737ac8d95e5da77d92ecfa6c2d8551563498930bdd85908ec3d4"), looks := true }, kinds := [], alts := [], laidByText := true, laidKinds := [.data, .handle, .data, .data, .data, .data, .pinned], laidTests := true, laidLooks := .later }
def DamageSurvivorsCardSaid : Prop := Claim7.holds Tryz.pinned (.plain (OpenSpec.ofChange damageSurvivorsSpec)) damageSurvivorsCard

/-- THE SECOND FORM's CARD OF 'bitloftlaw35.DamageSurvivors'. -/
def damageSurvivorsUptoCard : Claim7 := { stood := { row := damageSurvivorsUptoRow, standIns := [], harness := (true, "2d31ef27e479737ac8d95e5da77d92ecfa6c2d8551563498930bdd85908ec3d4"), looks := true }, kinds := [], alts := [], laidByText := true, laidKinds := [.data, .handle, .data, .data, .data, .data, .pinned], laidTests := true, laidLooks := .later }
def DamageSurvivorsUptoCardSaid : Prop := Claim7.holds Tryz.pinned (.plain (OpenSpec.upto damageSurvivorsSpec)) damageSurvivorsUptoCard
end Rows
end Go.Proofs.YtgdhbgphdojmoaaGreatDoor
