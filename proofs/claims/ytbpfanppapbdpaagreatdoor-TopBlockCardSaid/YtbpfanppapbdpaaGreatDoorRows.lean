/-
  NARROWER THAN 'FOR EVERY INPUT', by the rows' own cells (each row's printed sentence says how): TopBlock: laid.
  DERIVED. THE GIVEN ROWS OF THIS SEAT. 1 by the template 'for every input the law returns true; each argument reads behind the call as it read before'; 0 by the template 'total and deterministic' (their statements: YtbpfanppapbdpaaGreatDoorTotals.lean).
  GIVEN WITH THE SEED: the statements are not yours to turn. If you find one false, say at which input.
  Laid BY PROGRAM, IN A SANDBOX (cutbox-rows.mjs): the forced cells as the released guide's own fill.sh prints them over the translation ed56ab42057f73b8… (all of the seat's roots in one cut). By AI agents, Wed Nov 11 2026. No macro, syntax, notation, axiom, sorry.
-/
import Derived.Test.YtbpfanppapbdpaaGreatDoorChecked
import GoSem.PinnedTables
import GoSem.Claim
import GoSem.ClaimJoined
import GoSem.ClaimMapViews
import Derived.JoinedTies
import Derived.KernelRfl
namespace Go.Proofs.YtbpfanppapbdpaaGreatDoor
/- THE CELL 'sum', in the pinned program and in every row, IS THE sha256 OF THE DUMP (.gsa) THAT YtbpfanppapbdpaaGreatDoorProg.lean LOADS. Nothing in Lean hashes anything: it is a label: what it is worth is what the hold of that sum in a sandbox is worth. -/
noncomputable def Tryz.pinned : Pinned := { name := "ytbpfanppapbdpaagreatdoor", sum := "ed56ab42057f73b88aeda11c841d992539dff6aa7a62588e2f07f8f63470094e", checked := Tryz.checked }
namespace Rows
def none {H : Type} : Left H := { results := [], args := [] }

/- WHAT THE LISTED PACKAGE-LEVEL VARIABLES READ AS WHEN THE CALL BEGINS. Each datum BY PROGRAM (the guide's laid-datum.mjs) off the statement by which the dump's own 'gosem.cut.vars' lays the variable. In a bare row this is a premise. The card (YtbpfanppapbdpaaGreatDoorCards.lean) ties it to the program's text. -/
def laid_unicode_utf8_acceptRanges {H : Type} : DataW H := .agg [.agg [.lit (.int .u8 128), .lit (.int .u8 191)], .agg [.lit (.int .u8 160), .lit (.int .u8 191)], .agg [.lit (.int .u8 128), .lit (.int .u8 159)], .agg [.lit (.int .u8 144), .lit (.int .u8 191)], .agg [.lit (.int .u8 128), .lit (.int .u8 143)], .agg [.lit (.int .u8 0), .lit (.int .u8 0)], .agg [.lit (.int .u8 0), .lit (.int .u8 0)], .agg [.lit (.int .u8 0), .lit (.int .u8 0)], .agg [.lit (.int .u8 0), .lit (.int .u8 0)], .agg [.lit (.int .u8 0), .lit (.int .u8 0)], .agg [.lit (.int .u8 0), .lit (.int .u8 0)], .agg [.lit (.int .u8 0), .lit (.int .u8 0)], .agg [.lit (.int .u8 0), .lit (.int .u8 0)], .agg [.lit (.int .u8 0), .lit (.int .u8 0)], .agg [.lit (.int .u8 0), .lit (.int .u8 0)], .agg [.lit (.int .u8 0), .lit (.int .u8 0)]]
def laid_errors_errorType {H : Type} : DataW H := .iface "internal/reflectlite.rtype" (.agg [.ptr (.lit (.string [101, 114, 114, 111, 114]))])
def laid_bitloft_sha_quarters {H : Type} : DataW H := .agg [.lit (.int .u32 1518500249), .lit (.int .u32 1859775393), .lit (.int .u32 2400959708), .lit (.int .u32 3395469782)]
def laid_bitloft_header_widths {H : Type} : DataW H := .agg [.lit (.int .i64 1), .lit (.int .i64 1), .lit (.int .i64 2), .lit (.int .i64 2), .lit (.int .i64 2)]
def laid_bitloft_adapt_targets {H : Type} : DataW H := .agg [.lit (.int .i32 0), .lit (.int .i32 65535)]
def laid_bitloft_squash_row {H : Type} : DataW H := .agg [.lit (.int .i32 1), .lit (.int .i32 2), .lit (.int .i32 3), .lit (.int .i32 6), .lit (.int .i32 10), .lit (.int .i32 16), .lit (.int .i32 27), .lit (.int .i32 45), .lit (.int .i32 73), .lit (.int .i32 120), .lit (.int .i32 194), .lit (.int .i32 310), .lit (.int .i32 488), .lit (.int .i32 747), .lit (.int .i32 1101), .lit (.int .i32 1546), .lit (.int .i32 2047), .lit (.int .i32 2549), .lit (.int .i32 2994), .lit (.int .i32 3348), .lit (.int .i32 3607), .lit (.int .i32 3785), .lit (.int .i32 3901), .lit (.int .i32 3975), .lit (.int .i32 4022), .lit (.int .i32 4050), .lit (.int .i32 4068), .lit (.int .i32 4079), .lit (.int .i32 4085), .lit (.int .i32 4089), .lit (.int .i32 4092), .lit (.int .i32 4093), .lit (.int .i32 4094)]
/-- One of Go's own tables, pinned by name: the form's constant. -/
def laid_unicode_utf8_first : DataW Unit := Go.Pinned.utf8First

/-- 'bitlofttop.TopBlock': WHATEVER THE INPUT: true; the input reads as it did. -/
def topBlockSpec : ChangeSpec := { name := "topBlock", fn := fun _ => fun
  | [d1, d2] => { results := [.lit (.bool true)], args := [d1, d2] }
  | _ => none }
def topBlockRow : OpenClaim := { program := "ytbpfanppapbdpaagreatdoor", sum := "ed56ab42057f73b88aeda11c841d992539dff6aa7a62588e2f07f8f63470094e", func := "bitloft/bitlofttop.TopBlock", spec := "topBlock", inPlace := ["math/bits.Add64", "internal/bytealg.MakeNoZero", "internal/bytealg.IndexByte", "internal/bytealg.Index", "internal/reflectlite.ValueOf", "(internal/reflectlite.Value).Type", "(internal/reflectlite.Value).IsNil", "internal/reflectlite.TypeOf", "(internal/reflectlite.Value).Elem", "(internal/reflectlite.Value).Set"], unfollowed := true, recurses := true, named := ["bitloft/squash.row", "unicode/utf8.first", "unicode/utf8.acceptRanges", "bitloft/adapt.targets", "bitloft/header.widths", "bitloft/sha.quarters", "internal/bytealg.MaxLen", "errors.errorType"], apart := false, laid := [("unicode/utf8.acceptRanges", laid_unicode_utf8_acceptRanges), ("errors.errorType", laid_errors_errorType), ("bitloft/sha.quarters", laid_bitloft_sha_quarters), ("bitloft/header.widths", laid_bitloft_header_widths), ("bitloft/adapt.targets", laid_bitloft_adapt_targets), ("bitloft/squash.row", laid_bitloft_squash_row), ("unicode/utf8.first", laid_unicode_utf8_first)] }
def TopBlockSaid : Prop := topBlockRow.holds Tryz.pinned (OpenSpec.ofChange topBlockSpec)

/-- ITS FALSE NEIGHBOUR: 'it returns false'. Refute it at one input. -/
def topBlockWrong : ChangeSpec := { name := "topBlock", fn := fun _ => fun
  | [d1, d2] => { results := [.lit (.bool false)], args := [d1, d2] }
  | _ => none }
def TopBlockWrongFalsely : Prop := topBlockRow.holds Tryz.pinned (OpenSpec.ofChange topBlockWrong)

/- THE SECOND FORM. 'bulk': how many values and letters a reading holds, each counted each time it is reached (what is shared counts as often as it is met; a slice's spare places count too). A statement '..UptoSaid' is the law's where the arguments, and the package variables that the reading takes, are together of bulk at most 1048576: NARROWER than '..Said'. Prove '..Said' where nothing that the law and all that it calls make is longer than what came in: it says more and counts as full. Else prove '..UptoSaid'. A law counts once. -/
mutual
def uptoBulk {H : Type} : DataW H → Nat
  | .lit (.string bytes) => bytes.length + 1
  | .lit _ => 1
  | .nil => 1
  | .ptr d => uptoBulk d + 1
  | .slice elems spare => uptoBulkAll elems + uptoBulkAll spare + 1
  | .agg parts => uptoBulkAll parts + 1
  | .iface _ d => uptoBulk d + 1
  | .map entries => uptoBulkEntries entries + 1
  | .held _ => 1
def uptoBulkAll {H : Type} : List (DataW H) → Nat
  | [] => 0
  | d :: r => uptoBulk d + uptoBulkAll r
def uptoBulkEntries {H : Type} : List (Lit × DataW H) → Nat
  | [] => 0
  | x :: r => uptoBulkEntry x + uptoBulkEntries r
def uptoBulkEntry {H : Type} : Lit × DataW H → Nat
  | (.string bytes, d) => bytes.length + uptoBulk d + 1
  | (_, d) => uptoBulk d + 1
 end
def uptoSmall : (H : Type) → List (DataW H) → Bool := fun _ ds => decide (uptoBulkAll ds ≤ 1048576)
def OpenSpec.upto (s : _root_.Go.ChangeSpec) : _root_.Go.OpenSpec := { _root_.Go.OpenSpec.ofChange s with cond := some uptoSmall }

/-- 'bitlofttop.TopBlock', WHERE WHAT IT READS IS OF BULK AT MOST 1048576: true; the input reads as it did. -/
def topBlockUptoRow : OpenClaim := { program := "ytbpfanppapbdpaagreatdoor", sum := "ed56ab42057f73b88aeda11c841d992539dff6aa7a62588e2f07f8f63470094e", func := "bitloft/bitlofttop.TopBlock", spec := "topBlock", inPlace := ["math/bits.Add64", "internal/bytealg.MakeNoZero", "internal/bytealg.IndexByte", "internal/bytealg.Index", "internal/reflectlite.ValueOf", "(internal/reflectlite.Value).Type", "(internal/reflectlite.Value).IsNil", "internal/reflectlite.TypeOf", "(internal/reflectlite.Value).Elem", "(internal/reflectlite.Value).Set"], unfollowed := true, recurses := true, named := ["bitloft/squash.row", "unicode/utf8.first", "unicode/utf8.acceptRanges", "bitloft/adapt.targets", "bitloft/header.widths", "bitloft/sha.quarters", "internal/bytealg.MaxLen", "errors.errorType"], apart := false, laid := [("unicode/utf8.acceptRanges", laid_unicode_utf8_acceptRanges), ("errors.errorType", laid_errors_errorType), ("bitloft/sha.quarters", laid_bitloft_sha_quarters), ("bitloft/header.widths", laid_bitloft_header_widths), ("bitloft/adapt.targets", laid_bitloft_adapt_targets), ("bitloft/squash.row", laid_bitloft_squash_row), ("unicode/utf8.first", laid_unicode_utf8_first)], narrowed := true }
def TopBlockUptoSaid : Prop := topBlockUptoRow.holds Tryz.pinned (OpenSpec.upto topBlockSpec)

end Rows
end Go.Proofs.YtbpfanppapbdpaaGreatDoor
