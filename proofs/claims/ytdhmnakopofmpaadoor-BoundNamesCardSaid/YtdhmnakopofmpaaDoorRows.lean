/-
  NARROWER THAN 'FOR EVERY INPUT', by the rows' own cells (each row's printed sentence says how): BlockWrites: laid · PackHeads: laid · BoundCounts: laid · SalvageBuilds: laid · BoundGrows: laid · BoundBack: laid · ListPlaces: laid · BoundRooms: laid · BoundNames: laid · ListReads: laid · ListEnds: laid · ListNames: laid · ListStands: laid.
  DERIVED. THE GIVEN ROWS OF THIS SEAT. 13 by the template 'for every input the law returns true; each argument reads behind the call as it read before'; 0 by the template 'total and deterministic' (their statements: YtdhmnakopofmpaaDoorTotals.lean).
  GIVEN WITH THE SEED: the statements are not yours to turn. If you find one false, say at which input.
  Laid BY PROGRAM, IN A SANDBOX (cutbox-rows.mjs): the forced cells as the released guide's own fill.sh prints them over the translation 674952844049d710… (all of the seat's roots in one cut). By AI agents, Wed Nov 11 2026. No macro, syntax, notation, axiom, sorry.
-/
import Derived.Test.YtdhmnakopofmpaaDoorChecked
import GoSem.Claim
import GoSem.ClaimJoined
import GoSem.ClaimMapViews
import Derived.JoinedTies
import Derived.KernelRfl
namespace Go.Proofs.YtdhmnakopofmpaaDoor
/- THE CELL 'sum', in the pinned program and in every row, IS THE sha256 OF THE DUMP (.gsa) THAT YtdhmnakopofmpaaDoorProg.lean LOADS. Nothing in Lean hashes anything: it is a label: what it is worth is what the hold of that sum in a sandbox is worth. -/
noncomputable def Tryd.pinned : Pinned := { name := "ytdhmnakopofmpaadoor", sum := "674952844049d71051858fe0adfed85233b3973cb349f33d66f6d462ce8fa31a", checked := Tryd.checked }
namespace Rows
def none {H : Type} : Left H := { results := [], args := [] }

/- WHAT THE LISTED PACKAGE-LEVEL VARIABLES READ AS WHEN THE CALL BEGINS. Each datum BY PROGRAM (the guide's laid-datum.mjs) off the statement by which the dump's own 'gosem.cut.vars' lays the variable. In a bare row this is a premise. The card (YtdhmnakopofmpaaDoorCards.lean) ties it to the program's text. -/
def laid_bitloft_header_widths {H : Type} : DataW H := .agg [.lit (.int .i64 1), .lit (.int .i64 1), .lit (.int .i64 2), .lit (.int .i64 2), .lit (.int .i64 2)]
def laid_bitloft_sha_quarters {H : Type} : DataW H := .agg [.lit (.int .u32 1518500249), .lit (.int .u32 1859775393), .lit (.int .u32 2400959708), .lit (.int .u32 3395469782)]
def laid_errors_errorType {H : Type} : DataW H := .iface "internal/reflectlite.rtype" (.agg [.ptr (.lit (.string [101, 114, 114, 111, 114]))])

/-- 'bitloftlaw27.BlockWrites': WHATEVER THE INPUT: true; the input reads as it did. -/
def blockWritesSpec : ChangeSpec := { name := "blockWrites", fn := fun _ => fun
  | [d1, d2] => { results := [.lit (.bool true)], args := [d1, d2] }
  | _ => none }
def blockWritesRow : OpenClaim := { program := "ytdhmnakopofmpaadoor", sum := "674952844049d71051858fe0adfed85233b3973cb349f33d66f6d462ce8fa31a", func := "bitloft/bitloftlaw27.BlockWrites", spec := "blockWrites", inPlace := ["internal/bytealg.MakeNoZero"], named := ["bitloft/header.widths"], plainKeys := false, apart := false, laid := [("bitloft/header.widths", laid_bitloft_header_widths)] }
def BlockWritesSaid : Prop := blockWritesRow.holds Tryd.pinned (OpenSpec.ofChange blockWritesSpec)

/-- ITS FALSE NEIGHBOUR: 'it returns false'. Refute it at one input. -/
def blockWritesWrong : ChangeSpec := { name := "blockWrites", fn := fun _ => fun
  | [d1, d2] => { results := [.lit (.bool false)], args := [d1, d2] }
  | _ => none }
def BlockWritesWrongFalsely : Prop := blockWritesRow.holds Tryd.pinned (OpenSpec.ofChange blockWritesWrong)

/-- 'bitloftlaw30.PackHeads': WHATEVER THE INPUT: true; the input reads as it did. -/
def packHeadsSpec : ChangeSpec := { name := "packHeads", fn := fun _ => fun
  | [d1, d2] => { results := [.lit (.bool true)], args := [d1, d2] }
  | _ => none }
def packHeadsRow : OpenClaim := { program := "ytdhmnakopofmpaadoor", sum := "674952844049d71051858fe0adfed85233b3973cb349f33d66f6d462ce8fa31a", func := "bitloft/bitloftlaw30.PackHeads", spec := "packHeads", named := ["bitloft/sha.quarters"], plainKeys := false, apart := false, laid := [("bitloft/sha.quarters", laid_bitloft_sha_quarters)] }
def PackHeadsSaid : Prop := packHeadsRow.holds Tryd.pinned (OpenSpec.ofChange packHeadsSpec)

/-- ITS FALSE NEIGHBOUR: 'it returns false'. Refute it at one input. -/
def packHeadsWrong : ChangeSpec := { name := "packHeads", fn := fun _ => fun
  | [d1, d2] => { results := [.lit (.bool false)], args := [d1, d2] }
  | _ => none }
def PackHeadsWrongFalsely : Prop := packHeadsRow.holds Tryd.pinned (OpenSpec.ofChange packHeadsWrong)

/-- 'bitloftlaw36.BoundCounts': WHATEVER THE INPUT: true; the input reads as it did. -/
def boundCountsSpec : ChangeSpec := { name := "boundCounts", fn := fun _ => fun
  | [d1, d2] => { results := [.lit (.bool true)], args := [d1, d2] }
  | _ => none }
def boundCountsRow : OpenClaim := { program := "ytdhmnakopofmpaadoor", sum := "674952844049d71051858fe0adfed85233b3973cb349f33d66f6d462ce8fa31a", func := "bitloft/bitloftlaw36.BoundCounts", spec := "boundCounts", unfollowed := true, recurses := true, named := ["bitloft/sha.quarters"], plainKeys := false, apart := false, laid := [("bitloft/sha.quarters", laid_bitloft_sha_quarters)] }
def BoundCountsSaid : Prop := boundCountsRow.holds Tryd.pinned (OpenSpec.ofChange boundCountsSpec)

/-- ITS FALSE NEIGHBOUR: 'it returns false'. Refute it at one input. -/
def boundCountsWrong : ChangeSpec := { name := "boundCounts", fn := fun _ => fun
  | [d1, d2] => { results := [.lit (.bool false)], args := [d1, d2] }
  | _ => none }
def BoundCountsWrongFalsely : Prop := boundCountsRow.holds Tryd.pinned (OpenSpec.ofChange boundCountsWrong)

/-- 'bitloftlaw34.SalvageBuilds': WHATEVER THE INPUT: true; the input reads as it did. -/
def salvageBuildsSpec : ChangeSpec := { name := "salvageBuilds", fn := fun _ => fun
  | [d1, d2] => { results := [.lit (.bool true)], args := [d1, d2] }
  | _ => none }
def salvageBuildsRow : OpenClaim := { program := "ytdhmnakopofmpaadoor", sum := "674952844049d71051858fe0adfed85233b3973cb349f33d66f6d462ce8fa31a", func := "bitloft/bitloftlaw34.SalvageBuilds", spec := "salvageBuilds", unfollowed := true, recurses := true, named := ["bitloft/sha.quarters", "bitloft/header.widths"], plainKeys := false, apart := false, laid := [("bitloft/sha.quarters", laid_bitloft_sha_quarters), ("bitloft/header.widths", laid_bitloft_header_widths)] }
def SalvageBuildsSaid : Prop := salvageBuildsRow.holds Tryd.pinned (OpenSpec.ofChange salvageBuildsSpec)

/-- ITS FALSE NEIGHBOUR: 'it returns false'. Refute it at one input. -/
def salvageBuildsWrong : ChangeSpec := { name := "salvageBuilds", fn := fun _ => fun
  | [d1, d2] => { results := [.lit (.bool false)], args := [d1, d2] }
  | _ => none }
def SalvageBuildsWrongFalsely : Prop := salvageBuildsRow.holds Tryd.pinned (OpenSpec.ofChange salvageBuildsWrong)

/-- 'bitloftlaw36.BoundGrows': WHATEVER THE INPUT: true; the input reads as it did. -/
def boundGrowsSpec : ChangeSpec := { name := "boundGrows", fn := fun _ => fun
  | [d1, d2, d3, d4] => { results := [.lit (.bool true)], args := [d1, d2, d3, d4] }
  | _ => none }
def boundGrowsRow : OpenClaim := { program := "ytdhmnakopofmpaadoor", sum := "674952844049d71051858fe0adfed85233b3973cb349f33d66f6d462ce8fa31a", func := "bitloft/bitloftlaw36.BoundGrows", spec := "boundGrows", unfollowed := true, recurses := true, named := ["bitloft/sha.quarters"], plainKeys := false, apart := false, laid := [("bitloft/sha.quarters", laid_bitloft_sha_quarters)] }
def BoundGrowsSaid : Prop := boundGrowsRow.holds Tryd.pinned (OpenSpec.ofChange boundGrowsSpec)

/-- ITS FALSE NEIGHBOUR: 'it returns false'. Refute it at one input. -/
def boundGrowsWrong : ChangeSpec := { name := "boundGrows", fn := fun _ => fun
  | [d1, d2, d3, d4] => { results := [.lit (.bool false)], args := [d1, d2, d3, d4] }
  | _ => none }
def BoundGrowsWrongFalsely : Prop := boundGrowsRow.holds Tryd.pinned (OpenSpec.ofChange boundGrowsWrong)

/-- 'bitloftlaw36.BoundBack': WHATEVER THE INPUT: true; the input reads as it did. -/
def boundBackSpec : ChangeSpec := { name := "boundBack", fn := fun _ => fun
  | [d1, d2, d3] => { results := [.lit (.bool true)], args := [d1, d2, d3] }
  | _ => none }
def boundBackRow : OpenClaim := { program := "ytdhmnakopofmpaadoor", sum := "674952844049d71051858fe0adfed85233b3973cb349f33d66f6d462ce8fa31a", func := "bitloft/bitloftlaw36.BoundBack", spec := "boundBack", unfollowed := true, recurses := true, named := ["bitloft/sha.quarters"], plainKeys := false, apart := false, laid := [("bitloft/sha.quarters", laid_bitloft_sha_quarters)] }
def BoundBackSaid : Prop := boundBackRow.holds Tryd.pinned (OpenSpec.ofChange boundBackSpec)

/-- ITS FALSE NEIGHBOUR: 'it returns false'. Refute it at one input. -/
def boundBackWrong : ChangeSpec := { name := "boundBack", fn := fun _ => fun
  | [d1, d2, d3] => { results := [.lit (.bool false)], args := [d1, d2, d3] }
  | _ => none }
def BoundBackWrongFalsely : Prop := boundBackRow.holds Tryd.pinned (OpenSpec.ofChange boundBackWrong)

/-- 'bitloftlaw31.ListPlaces': WHATEVER THE INPUT: true; the input reads as it did. -/
def listPlacesSpec : ChangeSpec := { name := "listPlaces", fn := fun _ => fun
  | [d] => { results := [.lit (.bool true)], args := [d] }
  | _ => none }
def listPlacesRow : OpenClaim := { program := "ytdhmnakopofmpaadoor", sum := "674952844049d71051858fe0adfed85233b3973cb349f33d66f6d462ce8fa31a", func := "bitloft/bitloftlaw31.ListPlaces", spec := "listPlaces", unfollowed := true, recurses := true, named := ["bitloft/sha.quarters"], plainKeys := false, apart := false, laid := [("bitloft/sha.quarters", laid_bitloft_sha_quarters)] }
def ListPlacesSaid : Prop := listPlacesRow.holds Tryd.pinned (OpenSpec.ofChange listPlacesSpec)

/-- ITS FALSE NEIGHBOUR: 'it returns false'. Refute it at one input. -/
def listPlacesWrong : ChangeSpec := { name := "listPlaces", fn := fun _ => fun
  | [d] => { results := [.lit (.bool false)], args := [d] }
  | _ => none }
def ListPlacesWrongFalsely : Prop := listPlacesRow.holds Tryd.pinned (OpenSpec.ofChange listPlacesWrong)

/-- 'bitloftlaw36.BoundRooms': WHATEVER THE INPUT: true; the input reads as it did. -/
def boundRoomsSpec : ChangeSpec := { name := "boundRooms", fn := fun _ => fun
  | [d1, d2, d3, d4] => { results := [.lit (.bool true)], args := [d1, d2, d3, d4] }
  | _ => none }
def boundRoomsRow : OpenClaim := { program := "ytdhmnakopofmpaadoor", sum := "674952844049d71051858fe0adfed85233b3973cb349f33d66f6d462ce8fa31a", func := "bitloft/bitloftlaw36.BoundRooms", spec := "boundRooms", unfollowed := true, recurses := true, named := ["bitloft/sha.quarters"], plainKeys := false, apart := false, laid := [("bitloft/sha.quarters", laid_bitloft_sha_quarters)] }
def BoundRoomsSaid : Prop := boundRoomsRow.holds Tryd.pinned (OpenSpec.ofChange boundRoomsSpec)

/-- ITS FALSE NEIGHBOUR: 'it returns false'. Refute it at one input. -/
def boundRoomsWrong : ChangeSpec := { name := "boundRooms", fn := fun _ => fun
  | [d1, d2, d3, d4] => { results := [.lit (.bool false)], args := [d1, d2, d3, d4] }
  | _ => none }
def BoundRoomsWrongFalsely : Prop := boundRoomsRow.holds Tryd.pinned (OpenSpec.ofChange boundRoomsWrong)

/-- 'bitloftlaw36.BoundNames': WHATEVER THE INPUT: true; the input reads as it did. -/
def boundNamesSpec : ChangeSpec := { name := "boundNames", fn := fun _ => fun
  | [] => { results := [.lit (.bool true)], args := [] }
  | _ => none }
def boundNamesRow : OpenClaim := { program := "ytdhmnakopofmpaadoor", sum := "674952844049d71051858fe0adfed85233b3973cb349f33d66f6d462ce8fa31a", func := "bitloft/bitloftlaw36.BoundNames", spec := "boundNames", unfollowed := true, recurses := true, named := ["bitloft/sha.quarters"], plainKeys := false, apart := false, laid := [("bitloft/sha.quarters", laid_bitloft_sha_quarters)] }
def BoundNamesSaid : Prop := boundNamesRow.holds Tryd.pinned (OpenSpec.ofChange boundNamesSpec)

/-- ITS FALSE NEIGHBOUR: 'it returns false'. Refute it at one input. -/
def boundNamesWrong : ChangeSpec := { name := "boundNames", fn := fun _ => fun
  | [] => { results := [.lit (.bool false)], args := [] }
  | _ => none }
def BoundNamesWrongFalsely : Prop := boundNamesRow.holds Tryd.pinned (OpenSpec.ofChange boundNamesWrong)

/-- 'bitloftlaw31.ListReads': WHATEVER THE INPUT: true; the input reads as it did. -/
def listReadsSpec : ChangeSpec := { name := "listReads", fn := fun _ => fun
  | [d1, d2] => { results := [.lit (.bool true)], args := [d1, d2] }
  | _ => none }
def listReadsRow : OpenClaim := { program := "ytdhmnakopofmpaadoor", sum := "674952844049d71051858fe0adfed85233b3973cb349f33d66f6d462ce8fa31a", func := "bitloft/bitloftlaw31.ListReads", spec := "listReads", inPlace := ["internal/reflectlite.ValueOf", "(internal/reflectlite.Value).Type", "(internal/reflectlite.Value).IsNil", "internal/reflectlite.TypeOf", "(internal/reflectlite.Value).Elem", "(internal/reflectlite.Value).Set"], unfollowed := true, recurses := true, named := ["errors.errorType", "bitloft/sha.quarters", "bitloft/header.widths"], plainKeys := false, apart := false, laid := [("errors.errorType", laid_errors_errorType), ("bitloft/sha.quarters", laid_bitloft_sha_quarters), ("bitloft/header.widths", laid_bitloft_header_widths)] }
def ListReadsSaid : Prop := listReadsRow.holds Tryd.pinned (OpenSpec.ofChange listReadsSpec)

/-- ITS FALSE NEIGHBOUR: 'it returns false'. Refute it at one input. -/
def listReadsWrong : ChangeSpec := { name := "listReads", fn := fun _ => fun
  | [d1, d2] => { results := [.lit (.bool false)], args := [d1, d2] }
  | _ => none }
def ListReadsWrongFalsely : Prop := listReadsRow.holds Tryd.pinned (OpenSpec.ofChange listReadsWrong)

/-- 'bitloftlaw31.ListEnds': WHATEVER THE INPUT: true; the input reads as it did. -/
def listEndsSpec : ChangeSpec := { name := "listEnds", fn := fun _ => fun
  | [d1, d2, d3] => { results := [.lit (.bool true)], args := [d1, d2, d3] }
  | _ => none }
def listEndsRow : OpenClaim := { program := "ytdhmnakopofmpaadoor", sum := "674952844049d71051858fe0adfed85233b3973cb349f33d66f6d462ce8fa31a", func := "bitloft/bitloftlaw31.ListEnds", spec := "listEnds", inPlace := ["internal/reflectlite.ValueOf", "(internal/reflectlite.Value).Type", "(internal/reflectlite.Value).IsNil", "internal/reflectlite.TypeOf", "(internal/reflectlite.Value).Elem", "(internal/reflectlite.Value).Set"], unfollowed := true, recurses := true, named := ["errors.errorType", "bitloft/sha.quarters", "bitloft/header.widths"], plainKeys := false, apart := false, laid := [("errors.errorType", laid_errors_errorType), ("bitloft/sha.quarters", laid_bitloft_sha_quarters), ("bitloft/header.widths", laid_bitloft_header_widths)] }
def ListEndsSaid : Prop := listEndsRow.holds Tryd.pinned (OpenSpec.ofChange listEndsSpec)

/-- ITS FALSE NEIGHBOUR: 'it returns false'. Refute it at one input. -/
def listEndsWrong : ChangeSpec := { name := "listEnds", fn := fun _ => fun
  | [d1, d2, d3] => { results := [.lit (.bool false)], args := [d1, d2, d3] }
  | _ => none }
def ListEndsWrongFalsely : Prop := listEndsRow.holds Tryd.pinned (OpenSpec.ofChange listEndsWrong)

/-- 'bitloftlaw31.ListNames': WHATEVER THE INPUT: true; the input reads as it did. -/
def listNamesSpec : ChangeSpec := { name := "listNames", fn := fun _ => fun
  | [] => { results := [.lit (.bool true)], args := [] }
  | _ => none }
def listNamesRow : OpenClaim := { program := "ytdhmnakopofmpaadoor", sum := "674952844049d71051858fe0adfed85233b3973cb349f33d66f6d462ce8fa31a", func := "bitloft/bitloftlaw31.ListNames", spec := "listNames", inPlace := ["internal/reflectlite.ValueOf", "(internal/reflectlite.Value).Type", "(internal/reflectlite.Value).IsNil", "internal/reflectlite.TypeOf", "(internal/reflectlite.Value).Elem", "(internal/reflectlite.Value).Set"], unfollowed := true, recurses := true, named := ["errors.errorType", "bitloft/sha.quarters", "bitloft/header.widths"], plainKeys := false, apart := false, laid := [("errors.errorType", laid_errors_errorType), ("bitloft/sha.quarters", laid_bitloft_sha_quarters), ("bitloft/header.widths", laid_bitloft_header_widths)] }
def ListNamesSaid : Prop := listNamesRow.holds Tryd.pinned (OpenSpec.ofChange listNamesSpec)

/-- ITS FALSE NEIGHBOUR: 'it returns false'. Refute it at one input. -/
def listNamesWrong : ChangeSpec := { name := "listNames", fn := fun _ => fun
  | [] => { results := [.lit (.bool false)], args := [] }
  | _ => none }
def ListNamesWrongFalsely : Prop := listNamesRow.holds Tryd.pinned (OpenSpec.ofChange listNamesWrong)

/-- 'bitloftlaw31.ListStands': WHATEVER THE INPUT: true; the input reads as it did. -/
def listStandsSpec : ChangeSpec := { name := "listStands", fn := fun _ => fun
  | [d] => { results := [.lit (.bool true)], args := [d] }
  | _ => none }
def listStandsRow : OpenClaim := { program := "ytdhmnakopofmpaadoor", sum := "674952844049d71051858fe0adfed85233b3973cb349f33d66f6d462ce8fa31a", func := "bitloft/bitloftlaw31.ListStands", spec := "listStands", inPlace := ["internal/reflectlite.ValueOf", "(internal/reflectlite.Value).Type", "(internal/reflectlite.Value).IsNil", "internal/reflectlite.TypeOf", "(internal/reflectlite.Value).Elem", "(internal/reflectlite.Value).Set"], unfollowed := true, recurses := true, named := ["errors.errorType", "bitloft/sha.quarters", "bitloft/header.widths"], plainKeys := false, apart := false, laid := [("errors.errorType", laid_errors_errorType), ("bitloft/sha.quarters", laid_bitloft_sha_quarters), ("bitloft/header.widths", laid_bitloft_header_widths)] }
def ListStandsSaid : Prop := listStandsRow.holds Tryd.pinned (OpenSpec.ofChange listStandsSpec)

/-- ITS FALSE NEIGHBOUR: 'it returns false'. Refute it at one input. -/
def listStandsWrong : ChangeSpec := { name := "listStands", fn := fun _ => fun
  | [d] => { results := [.lit (.bool false)], args := [d] }
  | _ => none }
def ListStandsWrongFalsely : Prop := listStandsRow.holds Tryd.pinned (OpenSpec.ofChange listStandsWrong)

/- THE SECOND FORM. 'bulk': how many values and letters a reading holds, each counted each time it is reached (what is shared counts as often as it is met; a slice's spare places count too). A statement '..UptoSaid' is the law's where the arguments, and the package variables that the reading takes, are together of bulk at most 1048576: NARROWER than '..Said'. Prove '..Said' where nothing that the law and all that it calls make is longer than what came in: it says more and counts as full. Else prove '..UptoSaid'. A law counts once. -/
mutual
def uptoBulk {H : Type} : DataW H → Nat
  | .lit (.string bytes) => bytes.length + 1
  | .lit _ => 1
  | .nil => 1
  | .ptr d => uptoBulk d + 1
  | .slice elems spare => uptoBulkAll elems + uptoBulkAll spare + 1
  | .agg parts => uptoBulkAll parts + 1
  | .iface _ d => uptoBulk d + 1
  | .map entries => uptoBulkEntries entries + 1
  | .held _ => 1
def uptoBulkAll {H : Type} : List (DataW H) → Nat
  | [] => 0
  | d :: r => uptoBulk d + uptoBulkAll r
def uptoBulkEntries {H : Type} : List (Lit × DataW H) → Nat
  | [] => 0
  | x :: r => uptoBulkEntry x + uptoBulkEntries r
def uptoBulkEntry {H : Type} : Lit × DataW H → Nat
  | (.string bytes, d) => bytes.length + uptoBulk d + 1
  | (_, d) => uptoBulk d + 1
 end
def uptoSmall : (H : Type) → List (DataW H) → Bool := fun _ ds => decide (uptoBulkAll ds ≤ 1048576)
def OpenSpec.upto (s : _root_.Go.ChangeSpec) : _root_.Go.OpenSpec := { _root_.Go.OpenSpec.ofChange s with cond := some uptoSmall }

/-- 'bitloftlaw27.BlockWrites', WHERE WHAT IT READS IS OF BULK AT MOST 1048576: true; the input reads as it did. -/
def blockWritesUptoRow : OpenClaim := { program := "ytdhmnakopofmpaadoor", sum := "674952844049d71051858fe0adfed85233b3973cb349f33d66f6d462ce8fa31a", func := "bitloft/bitloftlaw27.BlockWrites", spec := "blockWrites", inPlace := ["internal/bytealg.MakeNoZero"], named := ["bitloft/header.widths"], plainKeys := false, apart := false, laid := [("bitloft/header.widths", laid_bitloft_header_widths)], narrowed := true }
def BlockWritesUptoSaid : Prop := blockWritesUptoRow.holds Tryd.pinned (OpenSpec.upto blockWritesSpec)

/-- 'bitloftlaw30.PackHeads', WHERE WHAT IT READS IS OF BULK AT MOST 1048576: true; the input reads as it did. -/
def packHeadsUptoRow : OpenClaim := { program := "ytdhmnakopofmpaadoor", sum := "674952844049d71051858fe0adfed85233b3973cb349f33d66f6d462ce8fa31a", func := "bitloft/bitloftlaw30.PackHeads", spec := "packHeads", named := ["bitloft/sha.quarters"], plainKeys := false, apart := false, laid := [("bitloft/sha.quarters", laid_bitloft_sha_quarters)], narrowed := true }
def PackHeadsUptoSaid : Prop := packHeadsUptoRow.holds Tryd.pinned (OpenSpec.upto packHeadsSpec)

/-- 'bitloftlaw36.BoundCounts', WHERE WHAT IT READS IS OF BULK AT MOST 1048576: true; the input reads as it did. -/
def boundCountsUptoRow : OpenClaim := { program := "ytdhmnakopofmpaadoor", sum := "674952844049d71051858fe0adfed85233b3973cb349f33d66f6d462ce8fa31a", func := "bitloft/bitloftlaw36.BoundCounts", spec := "boundCounts", unfollowed := true, recurses := true, named := ["bitloft/sha.quarters"], plainKeys := false, apart := false, laid := [("bitloft/sha.quarters", laid_bitloft_sha_quarters)], narrowed := true }
def BoundCountsUptoSaid : Prop := boundCountsUptoRow.holds Tryd.pinned (OpenSpec.upto boundCountsSpec)

/-- 'bitloftlaw34.SalvageBuilds', WHERE WHAT IT READS IS OF BULK AT MOST 1048576: true; the input reads as it did. -/
def salvageBuildsUptoRow : OpenClaim := { program := "ytdhmnakopofmpaadoor", sum := "674952844049d71051858fe0adfed85233b3973cb349f33d66f6d462ce8fa31a", func := "bitloft/bitloftlaw34.SalvageBuilds", spec := "salvageBuilds", unfollowed := true, recurses := true, named := ["bitloft/sha.quarters", "bitloft/header.widths"], plainKeys := false, apart := false, laid := [("bitloft/sha.quarters", laid_bitloft_sha_quarters), ("bitloft/header.widths", laid_bitloft_header_widths)], narrowed := true }
def SalvageBuildsUptoSaid : Prop := salvageBuildsUptoRow.holds Tryd.pinned (OpenSpec.upto salvageBuildsSpec)

/-- 'bitloftlaw36.BoundGrows', WHERE WHAT IT READS IS OF BULK AT MOST 1048576: true; the input reads as it did. -/
def boundGrowsUptoRow : OpenClaim := { program := "ytdhmnakopofmpaadoor", sum := "674952844049d71051858fe0adfed85233b3973cb349f33d66f6d462ce8fa31a", func := "bitloft/bitloftlaw36.BoundGrows", spec := "boundGrows", unfollowed := true, recurses := true, named := ["bitloft/sha.quarters"], plainKeys := false, apart := false, laid := [("bitloft/sha.quarters", laid_bitloft_sha_quarters)], narrowed := true }
def BoundGrowsUptoSaid : Prop := boundGrowsUptoRow.holds Tryd.pinned (OpenSpec.upto boundGrowsSpec)

/-- 'bitloftlaw36.BoundBack', WHERE WHAT IT READS IS OF BULK AT MOST 1048576: true; the input reads as it did. -/
def boundBackUptoRow : OpenClaim := { program := "ytdhmnakopofmpaadoor", sum := "674952844049d71051858fe0adfed85233b3973cb349f33d66f6d462ce8fa31a", func := "bitloft/bitloftlaw36.BoundBack", spec := "boundBack", unfollowed := true, recurses := true, named := ["bitloft/sha.quarters"], plainKeys := false, apart := false, laid := [("bitloft/sha.quarters", laid_bitloft_sha_quarters)], narrowed := true }
def BoundBackUptoSaid : Prop := boundBackUptoRow.holds Tryd.pinned (OpenSpec.upto boundBackSpec)

/-- 'bitloftlaw31.ListPlaces', WHERE WHAT IT READS IS OF BULK AT MOST 1048576: true; the input reads as it did. -/
def listPlacesUptoRow : OpenClaim := { program := "ytdhmnakopofmpaadoor", sum := "674952844049d71051858fe0adfed85233b3973cb349f33d66f6d462ce8fa31a", func := "bitloft/bitloftlaw31.ListPlaces", spec := "listPlaces", unfollowed := true, recurses := true, named := ["bitloft/sha.quarters"], plainKeys := false, apart := false, laid := [("bitloft/sha.quarters", laid_bitloft_sha_quarters)], narrowed := true }
def ListPlacesUptoSaid : Prop := listPlacesUptoRow.holds Tryd.pinned (OpenSpec.upto listPlacesSpec)

/-- 'bitloftlaw36.BoundRooms', WHERE WHAT IT READS IS OF BULK AT MOST 1048576: true; the input reads as it did. -/
def boundRoomsUptoRow : OpenClaim := { program := "ytdhmnakopofmpaadoor", sum := "674952844049d71051858fe0adfed85233b3973cb349f33d66f6d462ce8fa31a", func := "bitloft/bitloftlaw36.BoundRooms", spec := "boundRooms", unfollowed := true, recurses := true, named := ["bitloft/sha.quarters"], plainKeys := false, apart := false, laid := [("bitloft/sha.quarters", laid_bitloft_sha_quarters)], narrowed := true }
def BoundRoomsUptoSaid : Prop := boundRoomsUptoRow.holds Tryd.pinned (OpenSpec.upto boundRoomsSpec)

/-- 'bitloftlaw36.BoundNames', WHERE WHAT IT READS IS OF BULK AT MOST 1048576: true; the input reads as it did. -/
def boundNamesUptoRow : OpenClaim := { program := "ytdhmnakopofmpaadoor", sum := "674952844049d71051858fe0adfed85233b3973cb349f33d66f6d462ce8fa31a", func := "bitloft/bitloftlaw36.BoundNames", spec := "boundNames", unfollowed := true, recurses := true, named := ["bitloft/sha.quarters"], plainKeys := false, apart := false, laid := [("bitloft/sha.quarters", laid_bitloft_sha_quarters)], narrowed := true }
def BoundNamesUptoSaid : Prop := boundNamesUptoRow.holds Tryd.pinned (OpenSpec.upto boundNamesSpec)

/-- 'bitloftlaw31.ListReads', WHERE WHAT IT READS IS OF BULK AT MOST 1048576: true; the input reads as it did. -/
def listReadsUptoRow : OpenClaim := { program := "ytdhmnakopofmpaadoor", sum := "674952844049d71051858fe0adfed85233b3973cb349f33d66f6d462ce8fa31a", func := "bitloft/bitloftlaw31.ListReads", spec := "listReads", inPlace := ["internal/reflectlite.ValueOf", "(internal/reflectlite.Value).Type", "(internal/reflectlite.Value).IsNil", "internal/reflectlite.TypeOf", "(internal/reflectlite.Value).Elem", "(internal/reflectlite.Value).Set"], unfollowed := true, recurses := true, named := ["errors.errorType", "bitloft/sha.quarters", "bitloft/header.widths"], plainKeys := false, apart := false, laid := [("errors.errorType", laid_errors_errorType), ("bitloft/sha.quarters", laid_bitloft_sha_quarters), ("bitloft/header.widths", laid_bitloft_header_widths)], narrowed := true }
def ListReadsUptoSaid : Prop := listReadsUptoRow.holds Tryd.pinned (OpenSpec.upto listReadsSpec)

/-- 'bitloftlaw31.ListEnds', WHERE WHAT IT READS IS OF BULK AT MOST 1048576: true; the input reads as it did. -/
def listEndsUptoRow : OpenClaim := { program := "ytdhmnakopofmpaadoor", sum := "674952844049d71051858fe0adfed85233b3973cb349f33d66f6d462ce8fa31a", func := "bitloft/bitloftlaw31.ListEnds", spec := "listEnds", inPlace := ["internal/reflectlite.ValueOf", "(internal/reflectlite.Value).Type", "(internal/reflectlite.Value).IsNil", "internal/reflectlite.TypeOf", "(internal/reflectlite.Value).Elem", "(internal/reflectlite.Value).Set"], unfollowed := true, recurses := true, named := ["errors.errorType", "bitloft/sha.quarters", "bitloft/header.widths"], plainKeys := false, apart := false, laid := [("errors.errorType", laid_errors_errorType), ("bitloft/sha.quarters", laid_bitloft_sha_quarters), ("bitloft/header.widths", laid_bitloft_header_widths)], narrowed := true }
def ListEndsUptoSaid : Prop := listEndsUptoRow.holds Tryd.pinned (OpenSpec.upto listEndsSpec)

/-- 'bitloftlaw31.ListNames', WHERE WHAT IT READS IS OF BULK AT MOST 1048576: true; the input reads as it did. -/
def listNamesUptoRow : OpenClaim := { program := "ytdhmnakopofmpaadoor", sum := "674952844049d71051858fe0adfed85233b3973cb349f33d66f6d462ce8fa31a", func := "bitloft/bitloftlaw31.ListNames", spec := "listNames", inPlace := ["internal/reflectlite.ValueOf", "(internal/reflectlite.Value).Type", "(internal/reflectlite.Value).IsNil", "internal/reflectlite.TypeOf", "(internal/reflectlite.Value).Elem", "(internal/reflectlite.Value).Set"], unfollowed := true, recurses := true, named := ["errors.errorType", "bitloft/sha.quarters", "bitloft/header.widths"], plainKeys := false, apart := false, laid := [("errors.errorType", laid_errors_errorType), ("bitloft/sha.quarters", laid_bitloft_sha_quarters), ("bitloft/header.widths", laid_bitloft_header_widths)], narrowed := true }
def ListNamesUptoSaid : Prop := listNamesUptoRow.holds Tryd.pinned (OpenSpec.upto listNamesSpec)

/-- 'bitloftlaw31.ListStands', WHERE WHAT IT READS IS OF BULK AT MOST 1048576: true; the input reads as it did. -/
def listStandsUptoRow : OpenClaim := { program := "ytdhmnakopofmpaadoor", sum := "674952844049d71051858fe0adfed85233b3973cb349f33d66f6d462ce8fa31a", func := "bitloft/bitloftlaw31.ListStands", spec := "listStands", inPlace := ["internal/reflectlite.ValueOf", "(internal/reflectlite.Value).Type", "(internal/reflectlite.Value).IsNil", "internal/reflectlite.TypeOf", "(internal/reflectlite.Value).Elem", "(internal/reflectlite.Value).Set"], unfollowed := true, recurses := true, named := ["errors.errorType", "bitloft/sha.quarters", "bitloft/header.widths"], plainKeys := false, apart := false, laid := [("errors.errorType", laid_errors_errorType), ("bitloft/sha.quarters", laid_bitloft_sha_quarters), ("bitloft/header.widths", laid_bitloft_header_widths)], narrowed := true }
def ListStandsUptoSaid : Prop := listStandsUptoRow.holds Tryd.pinned (OpenSpec.upto listStandsSpec)

end Rows
end Go.Proofs.YtdhmnakopofmpaaDoor
