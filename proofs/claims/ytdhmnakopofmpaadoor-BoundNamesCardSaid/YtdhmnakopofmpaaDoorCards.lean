/-
  DERIVED. GIVEN WITH THE SEED: THE CARDS: each row of YtdhmnakopofmpaaDoorRows.lean that lists a variable, with what it lists TIED to the program's text (the seventh form; the later family's looks); each row that meets fmt, with fmt's text TOLD by the authors' own Lean function (tested against real Go, not proved from fmt's source: count such statements apart). THE CARD IS WHAT COUNTS. Prove the row's statement (the work); the ties are given (YtdhmnakopofmpaaDoorTie.lean); close each card by the builder's one call (the guide's Derived/Test/ToyasCard.lean, 'card_holds'). Laid BY PROGRAM, IN A SANDBOX (cutbox-door.mjs). By AI agents, Wed Nov 11 2026. No macro, syntax, notation, axiom, sorry.
-/
import Derived.Test.YtdhmnakopofmpaaDoorRows
import GoSem.ClaimSeven
namespace Go.Proofs.YtdhmnakopofmpaaDoor
namespace Rows

/-- THE TIED CARD OF 'bitloftlaw27.BlockWrites'. -/
def blockWritesCard : Claim7 := { stood := { row := blockWritesRow, standIns := [], harness := (true, "aa92b200415bcab4fc89bdb95d0137d8ed52c0cd11e70dc3850a8702f95c58b4"), looks := true }, kinds := [], alts := [], laidByText := true, laidKinds := [.data], laidTests := true, laidLooks := .later }
def BlockWritesCardSaid : Prop := Claim7.holds Tryd.pinned (.plain (OpenSpec.ofChange blockWritesSpec)) blockWritesCard

/-- THE TIED CARD OF 'bitloftlaw30.PackHeads'. -/
def packHeadsCard : Claim7 := { stood := { row := packHeadsRow, standIns := [], harness := (true, "aa92b200415bcab4fc89bdb95d0137d8ed52c0cd11e70dc3850a8702f95c58b4"), looks := true }, kinds := [], alts := [], laidByText := true, laidKinds := [.data], laidTests := true, laidLooks := .later }
def PackHeadsCardSaid : Prop := Claim7.holds Tryd.pinned (.plain (OpenSpec.ofChange packHeadsSpec)) packHeadsCard

/-- THE TIED CARD OF 'bitloftlaw36.BoundCounts'. -/
def boundCountsCard : Claim7 := { stood := { row := boundCountsRow, standIns := [], harness := (true, "aa92b200415bcab4fc89bdb95d0137d8ed52c0cd11e70dc3850a8702f95c58b4"), looks := true }, kinds := [], alts := [], laidByText := true, laidKinds := [.data], laidTests := true, laidLooks := .later }
def BoundCountsCardSaid : Prop := Claim7.holds Tryd.pinned (.plain (OpenSpec.ofChange boundCountsSpec)) boundCountsCard

/-- THE TIED CARD OF 'bitloftlaw34.SalvageBuilds'. -/
def salvageBuildsCard : Claim7 := { stood := { row := salvageBuildsRow, standIns := [], harness := (true, "aa92b200415bcab4fc89bdb95d0137d8ed52c0cd11e70dc3850a8702f95c58b4"), looks := true }, kinds := [], alts := [], laidByText := true, laidKinds := [.data, .data], laidTests := true, laidLooks := .later }
def SalvageBuildsCardSaid : Prop := Claim7.holds Tryd.pinned (.plain (OpenSpec.ofChange salvageBuildsSpec)) salvageBuildsCard

/-- THE TIED CARD OF 'bitloftlaw36.BoundGrows'. -/
def boundGrowsCard : Claim7 := { stood := { row := boundGrowsRow, standIns := [], harness := (true, "aa92b200415bcab4fc89bdb95d0137d8ed52c0cd11e70dc3850a8702f95c58b4"), looks := true }, kinds := [], alts := [], laidByText := true, laidKinds := [.data], laidTests := true, laidLooks := .later }
def BoundGrowsCardSaid : Prop := Claim7.holds Tryd.pinned (.plain (OpenSpec.ofChange boundGrowsSpec)) boundGrowsCard

/-- THE TIED CARD OF 'bitloftlaw36.BoundBack'. -/
def boundBackCard : Claim7 := { stood := { row := boundBackRow, standIns := [], harness := (true, "aa92b200415bcab4fc89bdb95d0137d8ed52c0cd11e70dc3850a8702f95c58b4"), looks := true }, kinds := [], alts := [], laidByText := true, laidKinds := [.data], laidTests := true, laidLooks := .later }
def BoundBackCardSaid : Prop := Claim7.holds Tryd.pinned (.plain (OpenSpec.ofChange boundBackSpec)) boundBackCard

/-- THE TIED CARD OF 'bitloftlaw31.ListPlaces'. -/
def listPlacesCard : Claim7 := { stood := { row := listPlacesRow, standIns := [], harness := (true, "aa92b200415bcab4fc89bdb95d0137d8ed52c0cd11e70dc3850a8702f95c58b4"), looks := true }, kinds := [], alts := [], laidByText := true, laidKinds := [.data], laidTests := true, laidLooks := .later }
def ListPlacesCardSaid : Prop := Claim7.holds Tryd.pinned (.plain (OpenSpec.ofChange listPlacesSpec)) listPlacesCard

/-- THE TIED CARD OF 'bitloftlaw36.BoundRooms'. -/
def boundRoomsCard : Claim7 := { stood := { row := boundRoomsRow, standIns := [], harness := (true, "aa92b200415bcab4fc89bdb95d0137d8ed52c0cd11e70dc3850a8702f95c58b4"), looks := true }, kinds := [], alts := [], laidByText := true, laidKinds := [.data], laidTests := true, laidLooks := .later }
def BoundRoomsCardSaid : Prop := Claim7.holds Tryd.pinned (.plain (OpenSpec.ofChange boundRoomsSpec)) boundRoomsCard

/-- THE TIED CARD OF 'bitloftlaw36.BoundNames'. -/
def boundNamesCard : Claim7 := { stood := { row := boundNamesRow, standIns := [], harness := (true, "aa92b200415bcab4fc89bdb95d0137d8ed52c0cd11e70dc3850a8702f95c58b4"), looks := true }, kinds := [], alts := [], laidByText := true, laidKinds := [.data], laidTests := true, laidLooks := .later }
def BoundNamesCardSaid : Prop := Claim7.holds Tryd.pinned (.plain (OpenSpec.ofChange boundNamesSpec)) boundNamesCard

/-- THE TIED CARD OF 'bitloftlaw31.ListReads'. -/
def listReadsCard : Claim7 := { stood := { row := listReadsRow, standIns := [], harness := (true, "aa92b200415bcab4fc89bdb95d0137d8ed52c0cd11e70dc3850a8702f95c58b4"), looks := true }, kinds := [], alts := [], laidByText := true, laidKinds := [.handle, .data, .data], laidTests := true, laidLooks := .later }
def ListReadsCardSaid : Prop := Claim7.holds Tryd.pinned (.plain (OpenSpec.ofChange listReadsSpec)) listReadsCard

/-- THE TIED CARD OF 'bitloftlaw31.ListEnds'. -/
def listEndsCard : Claim7 := { stood := { row := listEndsRow, standIns := [], harness := (true, "aa92b200415bcab4fc89bdb95d0137d8ed52c0cd11e70dc3850a8702f95c58b4"), looks := true }, kinds := [], alts := [], laidByText := true, laidKinds := [.handle, .data, .data], laidTests := true, laidLooks := .later }
def ListEndsCardSaid : Prop := Claim7.holds Tryd.pinned (.plain (OpenSpec.ofChange listEndsSpec)) listEndsCard

/-- THE TIED CARD OF 'bitloftlaw31.ListNames'. -/
def listNamesCard : Claim7 := { stood := { row := listNamesRow, standIns := [], harness := (true, "aa92b200415bcab4fc89bdb95d0137d8ed52c0cd11e70dc3850a8702f95c58b4"), looks := true }, kinds := [], alts := [], laidByText := true, laidKinds := [.handle, .data, .data], laidTests := true, laidLooks := .later }
def ListNamesCardSaid : Prop := Claim7.holds Tryd.pinned (.plain (OpenSpec.ofChange listNamesSpec)) listNamesCard

/-- THE TIED CARD OF 'bitloftlaw31.ListStands'. -/
def listStandsCard : Claim7 := { stood := { row := listStandsRow, standIns := [], harness := (true, "aa92b200415bcab4fc89bdb95d0137d8ed52c0cd11e70dc3850a8702f95c58b4"), looks := true }, kinds := [], alts := [], laidByText := true, laidKinds := [.handle, .data, .data], laidTests := true, laidLooks := .later }
def ListStandsCardSaid : Prop := Claim7.holds Tryd.pinned (.plain (OpenSpec.ofChange listStandsSpec)) listStandsCard

/-- THE SECOND FORM's CARD OF 'bitloftlaw27.BlockWrites'. -/
def blockWritesUptoCard : Claim7 := { stood := { row := blockWritesUptoRow, standIns := [], harness := (true, "aa92b200415bcab4fc89bdb95d0137d8ed52c0cd11e70dc3850a8702f95c58b4"), looks := true }, kinds := [], alts := [], laidByText := true, laidKinds := [.data], laidTests := true, laidLooks := .later }
def BlockWritesUptoCardSaid : Prop := Claim7.holds Tryd.pinned (.plain (OpenSpec.upto blockWritesSpec)) blockWritesUptoCard

/-- THE SECOND FORM's CARD OF 'bitloftlaw30.PackHeads'. -/
def packHeadsUptoCard : Claim7 := { stood := { row := packHeadsUptoRow, standIns := [], harness := (true, "aa92b200415bcab4fc89bdb95d0137d8ed52c0cd11e70dc3850a8702f95c58b4"), looks := true }, kinds := [], alts := [], laidByText := true, laidKinds := [.data], laidTests := true, laidLooks := .later }
def PackHeadsUptoCardSaid : Prop := Claim7.holds Tryd.pinned (.plain (OpenSpec.upto packHeadsSpec)) packHeadsUptoCard

/-- THE SECOND FORM's CARD OF 'bitloftlaw36.BoundCounts'. -/
def boundCountsUptoCard : Claim7 := { stood := { row := boundCountsUptoRow, standIns := [], harness := (true, "aa92b200415bcab4fc89bdb95d0137d8ed52c0cd11e70dc3850a8702f95c58b4"), looks := true }, kinds := [], alts := [], laidByText := true, laidKinds := [.data], laidTests := true, laidLooks := .later }
def BoundCountsUptoCardSaid : Prop := Claim7.holds Tryd.pinned (.plain (OpenSpec.upto boundCountsSpec)) boundCountsUptoCard

/-- THE SECOND FORM's CARD OF 'bitloftlaw34.SalvageBuilds'. -/
def salvageBuildsUptoCard : Claim7 := { stood := { row := salvageBuildsUptoRow, standIns := [], harness := (true, "aa92b200415bcab4fc89bdb95d0137d8ed52c0cd11e70dc3850a8702f95c58b4"), looks := true }, kinds := [], alts := [], laidByText := true, laidKinds := [.data, .data], laidTests := true, laidLooks := .later }
def SalvageBuildsUptoCardSaid : Prop := Claim7.holds Tryd.pinned (.plain (OpenSpec.upto salvageBuildsSpec)) salvageBuildsUptoCard

/-- THE SECOND FORM's CARD OF 'bitloftlaw36.BoundGrows'. -/
def boundGrowsUptoCard : Claim7 := { stood := { row := boundGrowsUptoRow, standIns := [], harness := (true, "aa92b200415bcab4fc89bdb95d0137d8ed52c0cd11e70dc3850a8702f95c58b4"), looks := true }, kinds := [], alts := [], laidByText := true, laidKinds := [.data], laidTests := true, laidLooks := .later }
def BoundGrowsUptoCardSaid : Prop := Claim7.holds Tryd.pinned (.plain (OpenSpec.upto boundGrowsSpec)) boundGrowsUptoCard

/-- THE SECOND FORM's CARD OF 'bitloftlaw36.BoundBack'. -/
def boundBackUptoCard : Claim7 := { stood := { row := boundBackUptoRow, standIns := [], harness := (true, "aa92b200415bcab4fc89bdb95d0137d8ed52c0cd11e70dc3850a8702f95c58b4"), looks := true }, kinds := [], alts := [], laidByText := true, laidKinds := [.data], laidTests := true, laidLooks := .later }
def BoundBackUptoCardSaid : Prop := Claim7.holds Tryd.pinned (.plain (OpenSpec.upto boundBackSpec)) boundBackUptoCard

/-- THE SECOND FORM's CARD OF 'bitloftlaw31.ListPlaces'. -/
def listPlacesUptoCard : Claim7 := { stood := { row := listPlacesUptoRow, standIns := [], harness := (true, "aa92b200415bcab4fc89bdb95d0137d8ed52c0cd11e70dc3850a8702f95c58b4"), looks := true }, kinds := [], alts := [], laidByText := true, laidKinds := [.data], laidTests := true, laidLooks := .later }
def ListPlacesUptoCardSaid : Prop := Claim7.holds Tryd.pinned (.plain (OpenSpec.upto listPlacesSpec)) listPlacesUptoCard

/-- THE SECOND FORM's CARD OF 'bitloftlaw36.BoundRooms'. -/
def boundRoomsUptoCard : Claim7 := { stood := { row := boundRoomsUptoRow, standIns := [], harness := (true, "aa92b200415bcab4fc89bdb95d0137d8ed52c0cd11e70dc3850a8702f95c58b4"), looks := true }, kinds := [], alts := [], laidByText := true, laidKinds := [.data], laidTests := true, laidLooks := .later }
def BoundRoomsUptoCardSaid : Prop := Claim7.holds Tryd.pinned (.plain (OpenSpec.upto boundRoomsSpec)) boundRoomsUptoCard

/-- THE SECOND FORM's CARD OF 'bitloftlaw36.BoundNames'. -/
def boundNamesUptoCard : Claim7 := { stood := { row := boundNamesUptoRow, standIns := [], harness := (true, "aa92b200415bcab4fc89bdb95d0137d8ed52c0cd11e70dc3850a8702f95c58b4"), looks := true }, kinds := [], alts := [], laidByText := true, laidKinds := [.data], laidTests := true, laidLooks := .later }
def BoundNamesUptoCardSaid : Prop := Claim7.holds Tryd.pinned (.plain (OpenSpec.upto boundNamesSpec)) boundNamesUptoCard

/-- THE SECOND FORM's CARD OF 'bitloftlaw31.ListReads'. -/
def listReadsUptoCard : Claim7 := { stood := { row := listReadsUptoRow, standIns := [], harness := (true, "aa92b200415bcab4fc89bdb95d0137d8ed52c0cd11e70dc3850a8702f95c58b4"), looks := true }, kinds := [], alts := [], laidByText := true, laidKinds := [.handle, .data, .data], laidTests := true, laidLooks := .later }
def ListReadsUptoCardSaid : Prop := Claim7.holds Tryd.pinned (.plain (OpenSpec.upto listReadsSpec)) listReadsUptoCard

/-- THE SECOND FORM's CARD OF 'bitloftlaw31.ListEnds'. -/
def listEndsUptoCard : Claim7 := { stood := { row := listEndsUptoRow, standIns := [], harness := (true, "aa92b200415bcab4fc89bdb95d0137d8ed52c0cd11e70dc3850a8702f95c58b4"), looks := true }, kinds := [], alts := [], laidByText := true, laidKinds := [.handle, .data, .data], laidTests := true, laidLooks := .later }
def ListEndsUptoCardSaid : Prop := Claim7.holds Tryd.pinned (.plain (OpenSpec.upto listEndsSpec)) listEndsUptoCard

/-- THE SECOND FORM's CARD OF 'bitloftlaw31.ListNames'. -/
def listNamesUptoCard : Claim7 := { stood := { row := listNamesUptoRow, standIns := [], harness := (true, "aa92b200415bcab4fc89bdb95d0137d8ed52c0cd11e70dc3850a8702f95c58b4"), looks := true }, kinds := [], alts := [], laidByText := true, laidKinds := [.handle, .data, .data], laidTests := true, laidLooks := .later }
def ListNamesUptoCardSaid : Prop := Claim7.holds Tryd.pinned (.plain (OpenSpec.upto listNamesSpec)) listNamesUptoCard

/-- THE SECOND FORM's CARD OF 'bitloftlaw31.ListStands'. -/
def listStandsUptoCard : Claim7 := { stood := { row := listStandsUptoRow, standIns := [], harness := (true, "aa92b200415bcab4fc89bdb95d0137d8ed52c0cd11e70dc3850a8702f95c58b4"), looks := true }, kinds := [], alts := [], laidByText := true, laidKinds := [.handle, .data, .data], laidTests := true, laidLooks := .later }
def ListStandsUptoCardSaid : Prop := Claim7.holds Tryd.pinned (.plain (OpenSpec.upto listStandsSpec)) listStandsUptoCard
end Rows
end Go.Proofs.YtdhmnakopofmpaaDoor
