/-
  No cell of these rows narrows 'for every input' (looked for: loops, veiled, ifaces, maps, wideKeys, modest, calm, conditions, laid).
  DERIVED. THE GIVEN ROWS OF THIS SEAT. 4 by the template 'for every input the law returns true; each argument reads behind the call as it read before'; 0 by the template 'total and deterministic' (their statements: YtdhmnakopofmpaaTotals.lean).
  GIVEN WITH THE SEED: the statements are not yours to turn. If you find one false, say at which input.
  Laid BY PROGRAM, IN A SANDBOX (cutbox-rows.mjs): the forced cells as the released guide's own fill.sh prints them over the translation 71dd77b7387249d5… (all of the seat's roots in one cut). By AI agents, Wed Nov 11 2026. No macro, syntax, notation, axiom, sorry.
-/
import Derived.Test.YtdhmnakopofmpaaChecked
import GoSem.Claim
import GoSem.ClaimJoined
import GoSem.ClaimMapViews
import Derived.JoinedTies
import Derived.KernelRfl
namespace Go.Proofs.Ytdhmnakopofmpaa
/- THE CELL 'sum', in the pinned program and in every row, IS THE sha256 OF THE DUMP (.gsa) THAT YtdhmnakopofmpaaProg.lean LOADS. Nothing in Lean hashes anything: it is a label: what it is worth is what the hold of that sum in a sandbox is worth. -/
noncomputable def Try.pinned : Pinned := { name := "ytdhmnakopofmpaa", sum := "71dd77b7387249d573502a36f714ac0d3ae3cbb2e26cda719eb56827a8109030", checked := Try.checked }
namespace Rows
def none {H : Type} : Left H := { results := [], args := [] }

/-- 'bitloftlaw35.DamageDoes': WHATEVER THE INPUT: true; the input reads as it did. -/
def damageDoesSpec : ChangeSpec := { name := "damageDoes", fn := fun _ => fun
  | [d1, d2, d3] => { results := [.lit (.bool true)], args := [d1, d2, d3] }
  | _ => none }
def damageDoesRow : OpenClaim := { program := "ytdhmnakopofmpaa", sum := "71dd77b7387249d573502a36f714ac0d3ae3cbb2e26cda719eb56827a8109030", func := "bitloft/bitloftlaw35.DamageDoes", spec := "damageDoes", inPlace := ["slices.overlaps[byte]", "slices.overlaps[int]"], unfollowed := true, recurses := true, apart := false }
def DamageDoesSaid : Prop := damageDoesRow.holds Try.pinned (OpenSpec.ofChange damageDoesSpec)

/-- ITS FALSE NEIGHBOUR: 'it returns false'. Refute it at one input. -/
def damageDoesWrong : ChangeSpec := { name := "damageDoes", fn := fun _ => fun
  | [d1, d2, d3] => { results := [.lit (.bool false)], args := [d1, d2, d3] }
  | _ => none }
def DamageDoesWrongFalsely : Prop := damageDoesRow.holds Try.pinned (OpenSpec.ofChange damageDoesWrong)

/-- 'bitloftlaw35.DamageOrigins': WHATEVER THE INPUT: true; the input reads as it did. -/
def damageOriginsSpec : ChangeSpec := { name := "damageOrigins", fn := fun _ => fun
  | [d1, d2] => { results := [.lit (.bool true)], args := [d1, d2] }
  | _ => none }
def damageOriginsRow : OpenClaim := { program := "ytdhmnakopofmpaa", sum := "71dd77b7387249d573502a36f714ac0d3ae3cbb2e26cda719eb56827a8109030", func := "bitloft/bitloftlaw35.DamageOrigins", spec := "damageOrigins", inPlace := ["slices.overlaps[byte]", "slices.overlaps[int]"], unfollowed := true, recurses := true, apart := false }
def DamageOriginsSaid : Prop := damageOriginsRow.holds Try.pinned (OpenSpec.ofChange damageOriginsSpec)

/-- ITS FALSE NEIGHBOUR: 'it returns false'. Refute it at one input. -/
def damageOriginsWrong : ChangeSpec := { name := "damageOrigins", fn := fun _ => fun
  | [d1, d2] => { results := [.lit (.bool false)], args := [d1, d2] }
  | _ => none }
def DamageOriginsWrongFalsely : Prop := damageOriginsRow.holds Try.pinned (OpenSpec.ofChange damageOriginsWrong)

/-- 'bitloftlaw35.DamageParts': WHATEVER THE INPUT: true; the input reads as it did. -/
def damagePartsSpec : ChangeSpec := { name := "damageParts", fn := fun _ => fun
  | [d1, d2, d3] => { results := [.lit (.bool true)], args := [d1, d2, d3] }
  | _ => none }
def damagePartsRow : OpenClaim := { program := "ytdhmnakopofmpaa", sum := "71dd77b7387249d573502a36f714ac0d3ae3cbb2e26cda719eb56827a8109030", func := "bitloft/bitloftlaw35.DamageParts", spec := "damageParts", inPlace := ["slices.overlaps[byte]", "slices.overlaps[int]"], unfollowed := true, recurses := true, apart := false }
def DamagePartsSaid : Prop := damagePartsRow.holds Try.pinned (OpenSpec.ofChange damagePartsSpec)

/-- ITS FALSE NEIGHBOUR: 'it returns false'. Refute it at one input. -/
def damagePartsWrong : ChangeSpec := { name := "damageParts", fn := fun _ => fun
  | [d1, d2, d3] => { results := [.lit (.bool false)], args := [d1, d2, d3] }
  | _ => none }
def DamagePartsWrongFalsely : Prop := damagePartsRow.holds Try.pinned (OpenSpec.ofChange damagePartsWrong)

/-- 'bitloftlaw35.DamageRanges': WHATEVER THE INPUT: true; the input reads as it did. -/
def damageRangesSpec : ChangeSpec := { name := "damageRanges", fn := fun _ => fun
  | [d1, d2, d3] => { results := [.lit (.bool true)], args := [d1, d2, d3] }
  | _ => none }
def damageRangesRow : OpenClaim := { program := "ytdhmnakopofmpaa", sum := "71dd77b7387249d573502a36f714ac0d3ae3cbb2e26cda719eb56827a8109030", func := "bitloft/bitloftlaw35.DamageRanges", spec := "damageRanges", inPlace := ["slices.overlaps[byte]", "slices.overlaps[int]"], unfollowed := true, recurses := true, apart := false }
def DamageRangesSaid : Prop := damageRangesRow.holds Try.pinned (OpenSpec.ofChange damageRangesSpec)

/-- ITS FALSE NEIGHBOUR: 'it returns false'. Refute it at one input. -/
def damageRangesWrong : ChangeSpec := { name := "damageRanges", fn := fun _ => fun
  | [d1, d2, d3] => { results := [.lit (.bool false)], args := [d1, d2, d3] }
  | _ => none }
def DamageRangesWrongFalsely : Prop := damageRangesRow.holds Try.pinned (OpenSpec.ofChange damageRangesWrong)

/- THE SECOND FORM. 'bulk': how many values and letters a reading holds, each counted each time it is reached (what is shared counts as often as it is met; a slice's spare places count too). A statement '..UptoSaid' is the law's where the arguments, and the package variables that the reading takes, are together of bulk at most 1048576: NARROWER than '..Said'. Prove '..Said' where nothing that the law and all that it calls make is longer than what came in: it says more and counts as full. Else prove '..UptoSaid'. A law counts once. -/
mutual
def uptoBulk {H : Type} : DataW H → Nat
  | .lit (.string bytes) => bytes.length + 1
  | .lit _ => 1
  | .nil => 1
  | .ptr d => uptoBulk d + 1
  | .slice elems spare => uptoBulkAll elems + uptoBulkAll spare + 1
  | .agg parts => uptoBulkAll parts + 1
  | .iface _ d => uptoBulk d + 1
  | .map entries => uptoBulkEntries entries + 1
  | .held _ => 1
def uptoBulkAll {H : Type} : List (DataW H) → Nat
  | [] => 0
  | d :: r => uptoBulk d + uptoBulkAll r
def uptoBulkEntries {H : Type} : List (Lit × DataW H) → Nat
  | [] => 0
  | x :: r => uptoBulkEntry x + uptoBulkEntries r
def uptoBulkEntry {H : Type} : Lit × DataW H → Nat
  | (.string bytes, d) => bytes.length + uptoBulk d + 1
  | (_, d) => uptoBulk d + 1
 end
def uptoSmall : (H : Type) → List (DataW H) → Bool := fun _ ds => decide (uptoBulkAll ds ≤ 1048576)
def OpenSpec.upto (s : _root_.Go.ChangeSpec) : _root_.Go.OpenSpec := { _root_.Go.OpenSpec.ofChange s with cond := some uptoSmall }

/-- 'bitloftlaw35.DamageDoes', WHERE WHAT IT READS IS OF BULK AT MOST 1048576: true; the input reads as it did. -/
def damageDoesUptoRow : OpenClaim := { program := "ytdhmnakopofmpaa", sum := "71dd77b7387249d573502a36f714ac0d3ae3cbb2e26cda719eb56827a8109030", func := "bitloft/bitloftlaw35.DamageDoes", spec := "damageDoes", inPlace := ["slices.overlaps[byte]", "slices.overlaps[int]"], unfollowed := true, recurses := true, apart := false, narrowed := true }
def DamageDoesUptoSaid : Prop := damageDoesUptoRow.holds Try.pinned (OpenSpec.upto damageDoesSpec)

/-- 'bitloftlaw35.DamageOrigins', WHERE WHAT IT READS IS OF BULK AT MOST 1048576: true; the input reads as it did. -/
def damageOriginsUptoRow : OpenClaim := { program := "ytdhmnakopofmpaa", sum := "71dd77b7387249d573502a36f714ac0d3ae3cbb2e26cda719eb56827a8109030", func := "bitloft/bitloftlaw35.DamageOrigins", spec := "damageOrigins", inPlace := ["slices.overlaps[byte]", "slices.overlaps[int]"], unfollowed := true, recurses := true, apart := false, narrowed := true }
def DamageOriginsUptoSaid : Prop := damageOriginsUptoRow.holds Try.pinned (OpenSpec.upto damageOriginsSpec)

/-- 'bitloftlaw35.DamageParts', WHERE WHAT IT READS IS OF BULK AT MOST 1048576: true; the input reads as it did. -/
def damagePartsUptoRow : OpenClaim := { program := "ytdhmnakopofmpaa", sum := "71dd77b7387249d573502a36f714ac0d3ae3cbb2e26cda719eb56827a8109030", func := "bitloft/bitloftlaw35.DamageParts", spec := "damageParts", inPlace := ["slices.overlaps[byte]", "slices.overlaps[int]"], unfollowed := true, recurses := true, apart := false, narrowed := true }
def DamagePartsUptoSaid : Prop := damagePartsUptoRow.holds Try.pinned (OpenSpec.upto damagePartsSpec)

/-- 'bitloftlaw35.DamageRanges', WHERE WHAT IT READS IS OF BULK AT MOST 1048576: true; the input reads as it did. -/
def damageRangesUptoRow : OpenClaim := { program := "ytdhmnakopofmpaa", sum := "71dd77b7387249d573502a36f714ac0d3ae3cbb2e26cda719eb56827a8109030", func := "bitloft/bitloftlaw35.DamageRanges", spec := "damageRanges", inPlace := ["slices.overlaps[byte]", "slices.overlaps[int]"], unfollowed := true, recurses := true, apart := false, narrowed := true }
def DamageRangesUptoSaid : Prop := damageRangesUptoRow.holds Try.pinned (OpenSpec.upto damageRangesSpec)

end Rows
end Go.Proofs.Ytdhmnakopofmpaa
