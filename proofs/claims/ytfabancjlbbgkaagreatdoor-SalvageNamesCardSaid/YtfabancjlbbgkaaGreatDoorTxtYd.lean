/-
  An abstract machine over the model's code and its soundness; what the functions compute, as plain functions (printed by a program of this repo's own, checked here by the kernel); plain laws of them: part 4. Helper text, no statement of the claim stands here.
-/
import Derived.Test.YtfabancjlbbgkaaGreatDoorTxtYc
import Derived.Test.YtfabancjlbbgkaaGreatDoorProg
import Derived.Laws.Externs
import Derived.Shelf.Bytes.SlIndexWhole
set_option linter.unusedVariables false
set_option linter.unusedSimpArgs false
namespace Go.Ab
open Go Go.Proofs
def bits_Add64 (x y c : Int) : Option (Int × Int) :=
  if 0 ≤ x ∧ 0 ≤ y ∧ 0 ≤ c ∧ c ≤ 1 then some ((x + y + c) % 18446744073709551616, (x + y + c) / 18446744073709551616) else none
def bits_Add64_fn : List AV → List (Nat × Obj) → Option (Int × Int)
  | [.int .u64 x, .int .u64 y, .int .u64 c], [] => bits_Add64 x y c
  | _, _ => none
set_option maxRecDepth 100000 in
theorem bits_Add64_ok {GT : GTab} {avs : List AV} {pre : List (Nat × Obj)} {r : Int × Int} (h : bits_Add64_fn avs pre = some r) : CallOK Tryz.prog GT 211 avs pre (.tup [.int .u64 r.1, .int .u64 r.2]) [] := by
  unfold bits_Add64_fn at h
  split at h
  · rename_i x y c
    unfold bits_Add64 at h
    split at h
    · rename_i hc
      obtain ⟨c1, c2, c3, c4⟩ := hc
      injection h with h; subst h
      intro w F G K vs hg hI hG hK hF hv
      obtain ⟨v1, r1, rfl, h1, h2⟩ := hv
      obtain ⟨v2, r2, rfl, h2, h3⟩ := h2
      obtain ⟨v3, r3, rfl, h3, h4⟩ := h3
      simp only [VRdL] at h4; subst h4
      simp only [VRd] at h1 h2 h3; subst h1; subst h2; subst h3
      have hr := run_callFunc_extern (w := w) (args := #[.int .u64 x, .int .u64 y, .int .u64 c]) Tryz.func211 (by kernel_rfl) (by kernel_rfl) (by kernel_rfl) (e := add64Entry) (by kernel_rfl)
      rw [run_add64 x y c c1 c2 c3 c4] at hr
      unfold Called
      rw [hr]
      exact ⟨K, fun _ _ h => h, hI, _, rfl, _, _, rfl, rfl, _, _, rfl, rfl, rfl⟩
    · cases h
  · cases h
end Go.Ab

/-
  bytes.Index, by the shelf's contract.
-/
set_option linter.unusedVariables false
set_option linter.unusedSimpArgs false
namespace Go.Ab
open Go Go.Proofs Go.Shelf
def ixRen : Ren := ⟨fun | 185 => 39 | 187 => 65 | 115 => 47 | 253 => 66 | 224 => 67 | 254 => 68 | 255 => 92 | 291 => 93 | n => n, fun | 37 => 22 | 3 => 3 | 4 => 4 | 0 => 0 | 5 => 5 | 46 => 119 | 9 => 9 | 146 => 183 | 51 => 114 | n => n, fun | 1 => 0 | n => n⟩
set_option maxRecDepth 100000 in
theorem ixLays : Lays.n185 Tryz.prog ixRen := {
  mixed := by kernel_rfl,
  f115 := Tryz.func47.trans (congrArg some (by kernel_rfl)),
  f185 := Tryz.func39.trans (congrArg some (by kernel_rfl)),
  f187 := Tryz.func65.trans (congrArg some (by kernel_rfl)),
  f224 := Tryz.func67.trans (congrArg some (by kernel_rfl)),
  f253 := Tryz.func66.trans (congrArg some (by kernel_rfl)),
  f254 := Tryz.func68.trans (congrArg some (by kernel_rfl)),
  f255 := Tryz.func92.trans (congrArg some (by kernel_rfl)),
  f291 := Tryz.func93.trans (congrArg some (by kernel_rfl)),
  t0 := Tryz.underlying0,
  a0 := Tryz.isAgg0,
  z0 := Tryz.sizeOf0,
  v0 := Tryz.zeroValue0,
  t3 := Tryz.underlying3,
  a3 := Tryz.isAgg3,
  z3 := Tryz.sizeOf3,
  v3 := Tryz.zeroValue3,
  t4 := Tryz.underlying4,
  a4 := Tryz.isAgg4,
  z4 := Tryz.sizeOf4,
  v4 := Tryz.zeroValue4,
  t5 := Tryz.underlying5,
  a5 := Tryz.isAgg5,
  z5 := Tryz.sizeOf5,
  v5 := Tryz.zeroValue5,
  t9 := Tryz.underlying9,
  a9 := Tryz.isAgg9,
  z9 := Tryz.sizeOf9,
  v9 := Tryz.zeroValue9,
  t37 := Tryz.underlying22,
  a37 := Tryz.isAgg22,
  z37 := Tryz.sizeOf22,
  v37 := Tryz.zeroValue22,
  t46 := Tryz.underlying119,
  a46 := Tryz.isAgg119,
  z46 := Tryz.sizeOf119,
  v46 := Tryz.zeroValue119,
  t51 := Tryz.underlying114,
  a51 := Tryz.isAgg114,
  z51 := Tryz.sizeOf114,
  v51 := Tryz.zeroValue114,
  t146 := Tryz.underlying183,
  a146 := Tryz.isAgg183,
  z146 := Tryz.sizeOf183,
  v146 := Tryz.zeroValue183,
  g1 := by kernel_rfl }
def ixB (s t : List Int) : Int := Lib.index (Lib.bytesOf s) (Lib.bytesOf t)
noncomputable def bytes_Index (s t : List Int) : Option Int :=
  gd (s.length < 4294967281) <|
  gd (2 ≤ t.length) <|
  gd (t.length ≤ 9223372036854775807) <|
  gd ((∀ x ∈ s, 0 ≤ x ∧ x < 256) ∧ ∀ y ∈ t, 0 ≤ y ∧ y < 256) <|
  some (ixB s t)
noncomputable def bytes_Index_fn : List AV → List (Nat × Obj) → Option Int
  | [.sl (.int .u8) _ s, .sl (.int .u8) _ t], [] => bytes_Index s t
  | _, _ => none
theorem ix_cells {w : World} {N : Nat → Prop} {xs : List Int} {A : Option Addr} (h1 : xs ≠ []) (h : xs = [] ∨ ∃ b o cl, A = some ⟨b, o, none⟩ ∧ N b ∧ CellsAt w b o cl ∧ Cat (PRd w N (.int .u8)) xs cl) :
    ∃ a, A = some a ∧ ∀ i, i < xs.length → w.cell? (a.add i) = some (.int .u8 (xs.getD i 0)) := by
  rcases h with h | ⟨b, o, cl, hA, hN, hc, hx⟩
  · exact absurd h h1
  · refine ⟨_, hA, fun i hi => ?_⟩
    have e : cl = xs.map (Value.int .u8) := cat_nums_cells (k := .u8) hx
    rw [Lib.add_plain']
    refine hc i _ ?_
    rw [e, List.getElem?_map, List.getElem?_eq_getElem hi, List.getD_eq_getElem?_getD, List.getElem?_eq_getElem hi]
    rfl
set_option maxRecDepth 100000 in
theorem bytes_Index_ok {GT : GTab} (hGT : lookL GT 0 = some ⟨.pair .unit .unit, ((), ())⟩) {avs : List AV} {pre : List (Nat × Obj)} {r : Int} (h : bytes_Index_fn avs pre = some r) : CallOK Tryz.prog GT 39 avs pre (.one (.int .i64 r)) [] := by
  unfold bytes_Index_fn at h
  split at h
  · rename_i f1 s f2 t
    unfold bytes_Index at h
    obtain ⟨hs, h⟩ := gd_some h
    obtain ⟨ht, h⟩ := gd_some h
    obtain ⟨ht2, h⟩ := gd_some h
    obtain ⟨⟨hb1, hb2⟩, h⟩ := gd_some h
    obtain rfl := Option.some.inj h
    intro w F G K vs hg hI hG hK hF hv
    obtain ⟨v1, r1, rfl, h1, h2⟩ := hv
    obtain ⟨v2, r2, rfl, h2, h3⟩ := h2
    simp only [VRdL] at h3; subst h3
    obtain ⟨A1, c1, e1, l1, k1⟩ := h1
    obtain ⟨A2, c2, e2, l2, k2⟩ := h2
    obtain rfl := (List.cons.inj e1).1
    obtain rfl := (List.cons.inj e2).1
    obtain ⟨m, hm⟩ := hg.2.2.2 0 hGT
    have fin : ∀ (w' : World) (q : Nat), w' = w.drewN q → ∃ K', (∀ l gh, K l = some gh → K' l = some gh) ∧ Inv ⟨w, F, G, (ngOf GT), []⟩ (lookL []) K' w' ∧ TVRd w' (NN ⟨w, F, G, (ngOf GT), []⟩ (lookL []) K' w') K' (.one (.int .i64 (ixB s t))) (.int .i64 (ixB s t)) := by
      rintro w' q rfl
      exact ⟨K, fun _ _ h => h, (hI.more (w' := w.drewN q) rfl rfl rfl (Nat.le_refl _) (fun k hk => rfl)).1, rfl⟩
    refine called_of (by kernel_rfl) (by kernel_rfl) ?_
    by_cases hlt : s.length < t.length
    · have hc := Any.bytes_Index_longer ixLays A1 A2 s.length c1 t.length c2 w ht hlt ht2
      have hi : ixB s t = -1 := by
        have hr := Lib.index_room (Lib.bytesOf s) (Lib.bytesOf t)
        have hge := Lib.index_ge (Lib.bytesOf s) (Lib.bytesOf t)
        unfold ixB
        have e1 : (Lib.bytesOf s).length = s.length := List.length_map ..
        have e2 : (Lib.bytesOf t).length = t.length := List.length_map ..
        rw [e1, e2] at hr
        by_cases h0 : 0 ≤ Lib.index (Lib.bytesOf s) (Lib.bytesOf t)
        · have := hr h0; omega
        · omega
      refine Calls.mono hc ?_
      rintro e w' ⟨rfl, rfl⟩
      refine ⟨_, rfl, ?_⟩
      rw [← hi]
      exact fin _ 0 rfl
    · obtain ⟨a1, rfl, hc1⟩ := ix_cells (xs := s) (by intro h; rw [h] at hlt; simp only [List.length_nil] at hlt; omega) k1
      obtain ⟨a2, rfl, hc2⟩ := ix_cells (xs := t) (by intro h; rw [h] at ht; simp at ht) k2
      have hc := Any.bytes_Index_at ixLays a1 a2 s.length c1 t.length c2 s t m w rfl rfl hb1 hb2 hc1 hc2 l1 hs ht2 hm
      refine Calls.mono hc ?_
      rintro e w' ⟨rfl, q, rfl⟩
      exact ⟨_, rfl, fin _ q rfl⟩
  · cases h
end Go.Ab

set_option linter.unusedVariables false
set_option maxRecDepth 20000
namespace Go.Ab
open Go Go.Proofs
def t38Tab1 : ByteArray := (ByteArray.mk #[0, 1, 2, 2, 3, 3, 3, 3, 4, 4, 4, 4, 4, 4, 4, 4, 5, 5, 5, 5, 5, 5, 5, 5, 5, 5, 5, 5, 5, 5, 5, 5, 6, 6, 6, 6, 6, 6, 6, 6, 6, 6, 6, 6, 6, 6, 6, 6, 6, 6, 6, 6, 6, 6, 6, 6, 6, 6, 6, 6, 6, 6, 6, 6, 7, 7, 7, 7, 7, 7, 7, 7, 7, 7, 7, 7, 7, 7, 7, 7, 7, 7, 7, 7, 7, 7, 7, 7, 7, 7, 7, 7, 7, 7, 7, 7, 7, 7, 7, 7, 7, 7, 7, 7, 7, 7, 7, 7, 7, 7, 7, 7, 7, 7, 7, 7, 7, 7, 7, 7, 7, 7, 7, 7, 7, 7, 7, 7, 8, 8, 8, 8, 8, 8, 8, 8, 8, 8, 8, 8, 8, 8, 8, 8, 8, 8, 8, 8, 8, 8, 8, 8, 8, 8, 8, 8, 8, 8, 8, 8, 8, 8, 8, 8, 8, 8, 8, 8, 8, 8, 8, 8, 8, 8, 8, 8, 8, 8, 8, 8, 8, 8, 8, 8, 8, 8, 8, 8, 8, 8, 8, 8, 8, 8, 8, 8, 8, 8, 8, 8, 8, 8, 8, 8, 8, 8, 8, 8, 8, 8, 8, 8, 8, 8, 8, 8, 8, 8, 8, 8, 8, 8, 8, 8, 8, 8, 8, 8, 8, 8, 8, 8, 8, 8, 8, 8, 8, 8, 8, 8, 8, 8, 8, 8, 8, 8, 8, 8, 8, 8, 8, 8, 8, 8, 8, 8])
abbrev T_api_BlockHead : Ty := (.pair (.int .u8) (.pair (.int .i64) (.pair (.int .i64) (.pair (.int .i64) (.pair (.int .i64) (.pair (.arr 20 (.int .u8)) .unit))))))
abbrev D_api_BlockHead : Type := (Int × (Int × (Int × (Int × (Int × ((List Int) × Unit))))))
abbrev T_api_Found : Ty := (.pair (.int .i64) (.pair T_api_BlockHead (.pair (.slice (.int .u8)) .unit)))
abbrev D_api_Found : Type := (Int × (D_api_BlockHead × ((List Int) × Unit)))
abbrev T_api_Block : Ty := (.pair T_api_BlockHead (.pair (.slice (.int .u8)) .unit))
abbrev D_api_Block : Type := (D_api_BlockHead × ((List Int) × Unit))
abbrev T_api_Member : Ty := (.pair .str (.pair (.slice (.int .u8)) .unit))
abbrev D_api_Member : Type := (ByteArray × ((List Int) × Unit))
abbrev T_api_Piece : Ty := (.pair (.int .i64) (.pair (.int .i64) (.pair (.int .i64) .unit)))
abbrev D_api_Piece : Type := (Int × (Int × (Int × Unit)))
abbrev T_api_Part : Ty := (.pair T_api_Piece (.pair (.slice (.int .u8)) .unit))
abbrev D_api_Part : Type := (D_api_Piece × ((List Int) × Unit))
abbrev T_api_Record : Ty := (.pair .str (.pair (.int .i64) (.pair (.arr 20 (.int .u8)) .unit)))
abbrev D_api_Record : Type := (ByteArray × (Int × ((List Int) × Unit)))
abbrev T_api_Settings : Ty := (.pair (.int .i64) (.pair (.int .i64) .unit))
abbrev D_api_Settings : Type := (Int × (Int × Unit))
abbrev T_api_Ring : Ty := (.pair (.int .i64) (.pair (.slice (.int .u8)) (.pair (.int .i64) .unit)))
abbrev D_api_Ring : Type := (Int × ((List Int) × (Int × Unit)))
abbrev T_api_Mixer : Ty := (.pair (.slice (.slice (.int .i32))) .unit)
abbrev D_api_Mixer : Type := ((List (List Int)) × Unit)
abbrev T_api_Final : Ty := (.pair T_api_Mixer (.pair T_api_Mixer .unit))
abbrev D_api_Final : Type := (D_api_Mixer × (D_api_Mixer × Unit))
abbrev T_api_Finder : Ty := (.pair (.int .i64) (.pair (.slice (.int .i64)) .unit))
abbrev D_api_Finder : Type := (Int × ((List Int) × Unit))
abbrev D_api_Match : Type := D_api_Settings
abbrev T_api_Walk : Ty := (.pair (.int .i64) .unit)
abbrev D_api_Walk : Type := (Int × Unit)
abbrev T_api_Predictor : Ty := (.pair (.int .i64) (.pair T_api_Ring (.pair (.slice (.pair (.int .i64) (.pair (.slice (.pair (.int .u8) (.pair (.arr 15 (.int .u8)) .unit))) .unit))) (.pair (.slice (.pair (.int .i32) (.pair (.slice (.int .i32)) (.pair (.slice (.int .i32)) .unit)))) (.pair T_api_Mixer (.pair T_api_Final (.pair T_api_Finder (.pair T_api_Settings (.pair T_api_Walk (.pair (.arr 6 (.int .u32)) (.pair (.arr 6 (.int .i64)) .unit)))))))))))
abbrev D_api_Predictor : Type := (Int × (D_api_Ring × ((List (Int × ((List (Int × ((List Int) × Unit))) × Unit))) × ((List (Int × ((List Int) × ((List Int) × Unit)))) × (D_api_Mixer × (D_api_Final × (D_api_Finder × (D_api_Settings × (D_api_Walk × ((List Int) × ((List Int) × Unit)))))))))))
abbrev T_api_Decoder : Ty := (.pair (.int .u32) (.pair (.int .u32) (.pair (.int .u32) (.pair (.slice (.int .u8)) T_api_Walk))))
abbrev D_api_Decoder : Type := (Int × (Int × (Int × ((List Int) × D_api_Walk))))
abbrev T_api_Encoder : Ty := (.pair (.int .u32) (.pair (.int .u32) (.pair (.slice (.int .u8)) .unit)))
abbrev D_api_Encoder : Type := (Int × (Int × ((List Int) × Unit)))
abbrev T_api_Chosen : Ty := (.pair (.arr 2 (.int .i64)) (.pair (.arr 2 (.int .i64)) .unit))
abbrev D_api_Chosen : Type := ((List Int) × ((List Int) × Unit))
abbrev T_predict_seen : Ty := (.pair (.int .i64) (.pair (.slice (.int .u8)) (.pair (.slice (.int .i32)) (.pair (.int .i32) (.pair (.int .i32) (.pair T_api_Chosen .unit))))))
abbrev D_predict_seen : Type := (Int × ((List Int) × ((List Int) × (Int × (Int × (D_api_Chosen × Unit))))))
abbrev T_api_Table : Ty := (.pair (.int .i64) (.pair (.slice (.pair (.int .u8) (.pair (.arr 15 (.int .u8)) .unit))) .unit))
abbrev D_api_Table : Type := (Int × ((List (Int × ((List Int) × Unit))) × Unit))
abbrev T_api_Adapt : Ty := (.pair (.int .i32) (.pair (.slice (.int .i32)) (.pair (.slice (.int .i32)) .unit)))
abbrev D_api_Adapt : Type := (Int × ((List Int) × ((List Int) × Unit)))
abbrev T_api_Slot : Ty := (.pair (.int .u8) (.pair (.arr 15 (.int .u8)) .unit))
abbrev D_api_Slot : Type := (Int × ((List Int) × Unit))
abbrev T_api_Count : Ty := (.pair (.int .i32) (.pair (.int .i32) (.pair (.int .u8) .unit)))
abbrev D_api_Count : Type := (Int × (Int × (Int × Unit)))
def G_widths : List Int := [1, 1, 2, 2, 2]
def G_targets : List Int := [0, 65535]
def G_row : List Int := [1, 2, 3, 6, 10, 16, 27, 45, 73, 120, 194, 310, 488, 747, 1101, 1546, 2047, 2549, 2994, 3348, 3607, 3785, 3901, 3975, 4022, 4050, 4068, 4079, 4085, 4089, 4092, 4093, 4094]
def G_quarters : List Int := [1518500249, 1859775393, 2400959708, 3395469782]
def GT : GTab := [(0, ⟨(.pair .unit .unit), ((), ())⟩), (1, ⟨(.arr 5 (.int .i64)), G_widths⟩), (2, ⟨(.arr 4 (.int .u32)), G_quarters⟩), (3, ⟨(.arr 2 (.int .i32)), G_targets⟩), (4, ⟨(.arr 33 (.int .i32)), G_row⟩)]
theorem mixed : Tryz.prog.follows .mixedOrders = true := by kernel_rfl
noncomputable def bits_Add64_S (acc : List AV → Bool) : Summ Tryz.prog GT := { f := 211, acc := acc, rows := false, nils := false, R := Int × Int, fn := bits_Add64_fn, res := fun r => .tup [.int .u64 r.1, .int .u64 r.2], post := fun _ => [], ok := fun _ _ _ h => bits_Add64_ok h }
noncomputable def bytes_Index_S (acc : List AV → Bool) : Summ Tryz.prog GT := { f := 39, acc := acc, rows := false, nils := false, R := Int, fn := bytes_Index_fn, res := fun r => .one (.int .i64 r), post := fun _ => [], ok := fun _ _ _ h => bytes_Index_ok rfl h }
noncomputable def marker_check_I : FnI Tryz.prog GT := { f := 38, cuts := [], tab := [], fm := ⟨true, [.val (.int .i64) []]⟩ }
noncomputable def marker_check (a0 : List Int) (a1 : Int) : Option (Int) := marker_check_I.call [(.sl (.int .u8) false a0), (.int .i64 a1)] []
theorem marker_check_eq (a0 : List Int) (a1 : Int) : marker_check a0 a1 = (
if (decide ((Int.ofNat (List.length a0)) > (50000 : Int))) = true then
some (4 : Int)
else
if (decide (a1 < (0 : Int))) = true then
some (2 : Int)
else
if (decide (a1 > (Int.ofNat (List.length a0)))) = true then
some (2 : Int)
else
some (0 : Int)) := (FnI.call_eq (by kernel_rfl)).trans (by kernel_rfl)
noncomputable def marker_check_S (acc : List AV → Bool) : Summ Tryz.prog GT := marker_check_I.summ mixed acc false false
noncomputable def marker_Bytes_I : FnI Tryz.prog GT := { f := 40, cuts := [], tab := [], fm := ⟨true, [.val (.slice (.int .u8)) [.pu]]⟩ }
noncomputable def marker_Bytes : Option (List Int) := marker_Bytes_I.call [] []
theorem marker_Bytes_eq : marker_Bytes = (
gd (0 < 13) <|
some ([(183 : Int), (98 : Int), (105 : Int), (116 : Int), (108 : Int), (111 : Int), (102 : Int), (116 : Int), (32 : Int), (98 : Int), (108 : Int), (107 : Int), (10 : Int)])) := (FnI.call_eq (by kernel_rfl)).trans (by kernel_rfl)
noncomputable def marker_Bytes_S (acc : List AV → Bool) : Summ Tryz.prog GT := marker_Bytes_I.summ mixed acc false false
noncomputable def marker_Find_I : FnI Tryz.prog GT := { f := 20, cuts := [], tab := [marker_check_S (fun _ => true), marker_Bytes_S (fun _ => true), bytes_Index_S (fun _ => true)], fm := ⟨true, [.val (.int .i64) [], .val (.int .i64) []]⟩ }
noncomputable def marker_Find (a0 : List Int) (a1 : Int) : Option (Int × Int) := marker_Find_I.call [(.sl (.int .u8) false a0), (.int .i64 a1)] []
theorem marker_Find_eq (a0 : List Int) (a1 : Int) : marker_Find a0 a1 = (
(marker_check a0 a1).bind fun r1 =>
if (r1 != (0 : Int)) = true then
some ((0 : Int), r1)
else
gd (0 ≤ a1) <|
gd (a1 ≤ (Int.ofNat (List.length a0))) <|
(marker_Bytes).bind fun r2 =>
(bytes_Index (List.drop (Int.toNat a1) a0) r2).bind fun r3 =>
if (decide (r3 < (0 : Int))) = true then
some ((0 : Int), (6 : Int))
else
some ((IntKind.wrap .i64 (a1 + r3)), (0 : Int))) := (FnI.call_eq (by kernel_rfl)).trans (by kernel_rfl)
noncomputable def marker_Find_S (acc : List AV → Bool) : Summ Tryz.prog GT := marker_Find_I.summ mixed acc false false
noncomputable def header_Check_I : FnI Tryz.prog GT := { f := 69, cuts := [], tab := [], fm := ⟨true, [.val (.int .i64) []]⟩ }
noncomputable def header_Check (a0 : D_api_BlockHead) : Option (Int) := header_Check_I.call [(.agg T_api_BlockHead (inj false T_api_BlockHead a0))] []
theorem header_Check_eq (a0 : D_api_BlockHead) : header_Check a0 = (
if (decide (a0.2.1 < (0 : Int))) = true then
some (8 : Int)
else
if (decide (a0.2.1 ≥ (16 : Int))) = true then
if (decide (a0.2.1 ≥ (16 : Int))) = true then
some (8 : Int)
else
if (a0.1 == (1 : Int)) = true then
if (a0.2.2.2.2.1 == a0.2.2.2.1) = true then
if (a0.2.2.2.2.1 == a0.2.2.2.1) = true then
some (0 : Int)
else
some (8 : Int)
else
if (a0.1 == (2 : Int)) = true then
if (decide (a0.2.2.2.2.1 > (0 : Int))) = true then
if (decide (a0.2.2.2.2.1 < a0.2.2.2.1)) = true then
some (0 : Int)
else
some (8 : Int)
else
some (8 : Int)
else
some (8 : Int)
else
if (a0.1 == (2 : Int)) = true then
if (decide (a0.2.2.2.2.1 > (0 : Int))) = true then
if (decide (a0.2.2.2.2.1 < a0.2.2.2.1)) = true then
some (0 : Int)
else
some (8 : Int)
else
some (8 : Int)
else
some (8 : Int)
else
if (decide (a0.2.2.2.1 < (1 : Int))) = true then
some (8 : Int)
else
if (decide (a0.2.2.2.1 > (4096 : Int))) = true then
if (decide (a0.2.2.2.1 > (4096 : Int))) = true then
some (8 : Int)
else
if (a0.1 == (1 : Int)) = true then
if (a0.2.2.2.2.1 == a0.2.2.2.1) = true then
if (a0.2.2.2.2.1 == a0.2.2.2.1) = true then
some (0 : Int)
else
some (8 : Int)
else
if (a0.1 == (2 : Int)) = true then
if (decide (a0.2.2.2.2.1 > (0 : Int))) = true then
if (decide (a0.2.2.2.2.1 < a0.2.2.2.1)) = true then
some (0 : Int)
else
some (8 : Int)
else
some (8 : Int)
else
some (8 : Int)
else
if (a0.1 == (2 : Int)) = true then
if (decide (a0.2.2.2.2.1 > (0 : Int))) = true then
if (decide (a0.2.2.2.2.1 < a0.2.2.2.1)) = true then
some (0 : Int)
else
some (8 : Int)
else
some (8 : Int)
else
some (8 : Int)
else
if (decide (a0.2.2.1 < (0 : Int))) = true then
some (8 : Int)
else
if (decide (a0.2.2.1 > (IntKind.wrap .i64 ((8192 : Int) - a0.2.2.2.1)))) = true then
some (8 : Int)
else
if (a0.1 == (1 : Int)) = true then
if (a0.2.2.2.2.1 == a0.2.2.2.1) = true then
if (a0.2.2.2.2.1 == a0.2.2.2.1) = true then
some (0 : Int)
else
some (8 : Int)
else
if (a0.1 == (2 : Int)) = true then
if (decide (a0.2.2.2.2.1 > (0 : Int))) = true then
if (decide (a0.2.2.2.2.1 < a0.2.2.2.1)) = true then
some (0 : Int)
else
some (8 : Int)
else
some (8 : Int)
else
some (8 : Int)
else
if (a0.1 == (2 : Int)) = true then
if (decide (a0.2.2.2.2.1 > (0 : Int))) = true then
if (decide (a0.2.2.2.2.1 < a0.2.2.2.1)) = true then
some (0 : Int)
else
some (8 : Int)
else
some (8 : Int)
else
some (8 : Int)) := (FnI.call_eq (by kernel_rfl)).trans (by kernel_rfl)
noncomputable def header_Check_S (acc : List AV → Bool) : Summ Tryz.prog GT := header_Check_I.summ mixed acc false false
noncomputable def header_Parse_I : FnI Tryz.prog GT := { f := 41, cuts := [⟨(5, 3), [0, 2, 4, 12, 13], false, false, []⟩, ⟨(8, 7), [0, 2, 4, 5, 12, 13, 17, 18], false, false, []⟩], tab := [header_Check_S (fun _ => true)], fm := ⟨true, [.val T_api_BlockHead [], .val (.int .i64) []]⟩ }
noncomputable def header_Parse (a0 : List Int) : Option (D_api_BlockHead × Int) := header_Parse_I.call [(.sl (.int .u8) false a0)] []
noncomputable def header_Parse_c1 (v0 : List Int) (v12 : (List Int)) (v13 : Int) (b8 : D_api_BlockHead) (b9 : (List Int)) : Option (D_api_BlockHead × Int) := header_Parse_I.sem ⟨[.code (cIn (cIn (cSnd (cFst (cSnd (cSnd (cSnd (bodyOf Tryz.prog 41)))))))), .inLoop (cIn (cIn (cSnd (cFst (cSnd (cSnd (cSnd (bodyOf Tryz.prog 41)))))))), .inBlock 0, .code (cSnd (cSnd (cSnd (cSnd (bodyOf Tryz.prog 41)))))], ⟨[(0, (.one (.sl (.int .u8) false v0))), (2, (.one (.ptr T_api_BlockHead 8 []))), (4, (.one (.ptr (.arr 5 (.int .i64)) 9 []))), (12, (.one (.agg (.arr 5 (.int .i64)) v12))), (13, (.one (.int .i64 v13)))], [(8, some (.box T_api_BlockHead (inj false T_api_BlockHead b8))), (9, some (.box (.arr 5 (.int .i64)) b9))], 10⟩⟩
noncomputable def header_Parse_c2 (v0 : List Int) (v5 : Int) (v12 : (List Int)) (v13 : Int) (v17 : Int) (v18 : Int) (b8 : D_api_BlockHead) (b9 : (List Int)) : Option (D_api_BlockHead × Int) := header_Parse_I.sem ⟨[.code (cIn (cIn (cSnd (cSnd (cIn (cFst (cSnd (cSnd (cIn (cIn (cSnd (cFst (cSnd (cSnd (cSnd (bodyOf Tryz.prog 41)))))))))))))))), .inLoop (cIn (cIn (cSnd (cSnd (cIn (cFst (cSnd (cSnd (cIn (cIn (cSnd (cFst (cSnd (cSnd (cSnd (bodyOf Tryz.prog 41)))))))))))))))), .inBlock 2, .inBlock 1, .code (cSnd (cSnd (cSnd (cIn (cIn (cSnd (cFst (cSnd (cSnd (cSnd (bodyOf Tryz.prog 41))))))))))), .inLoop (cIn (cIn (cSnd (cFst (cSnd (cSnd (cSnd (bodyOf Tryz.prog 41)))))))), .inBlock 0, .code (cSnd (cSnd (cSnd (cSnd (bodyOf Tryz.prog 41)))))], ⟨[(0, (.one (.sl (.int .u8) false v0))), (2, (.one (.ptr T_api_BlockHead 8 []))), (4, (.one (.ptr (.arr 5 (.int .i64)) 9 []))), (5, (.one (.int .i64 v5))), (12, (.one (.agg (.arr 5 (.int .i64)) v12))), (13, (.one (.int .i64 v13))), (17, (.one (.int .i64 v17))), (18, (.one (.int .i64 v18)))], [(8, some (.box T_api_BlockHead (inj false T_api_BlockHead b8))), (9, some (.box (.arr 5 (.int .i64)) b9))], 10⟩⟩
theorem header_Parse_eq (a0 : List Int) : header_Parse a0 = (
if ((Int.ofNat (List.length a0)) != (28 : Int)) = true then
some (((0 : Int), ((0 : Int), ((0 : Int), ((0 : Int), ((0 : Int), ((List.replicate 20 (0 : Int)), ())))))), (12 : Int))
else
header_Parse_c1 a0 G_widths (0 : Int) ((0 : Int), ((0 : Int), ((0 : Int), ((0 : Int), ((0 : Int), ((List.replicate 20 (0 : Int)), ())))))) (List.replicate 5 (0 : Int))) := (FnI.call_eq (by kernel_rfl)).trans (by kernel_rfl)
theorem header_Parse_c1_eq (v0 : List Int) (v12 : (List Int)) (v13 : Int) (b8 : D_api_BlockHead) (b9 : (List Int)) : header_Parse_c1 v0 v12 v13 b8 b9 = (
if (decide (v13 < (5 : Int))) = true then
gd (0 ≤ v13) <|
gd (v13 < (5 : Int)) <|
header_Parse_c2 v0 v13 v12 v13 (List.getD v12 (Int.toNat v13) (0 : Int)) (0 : Int) b8 b9
else
gd (0 ≤ (0 : Int)) <|
gd ((0 : Int) < (5 : Int)) <|
gd (0 ≤ (1 : Int)) <|
gd ((1 : Int) < (5 : Int)) <|
gd (0 ≤ (2 : Int)) <|
gd ((2 : Int) < (5 : Int)) <|
gd (0 ≤ (3 : Int)) <|
gd ((3 : Int) < (5 : Int)) <|
gd (0 ≤ (4 : Int)) <|
gd ((4 : Int) < (5 : Int)) <|
(header_Check ((IntKind.wrap .u8 (List.getD b9 0 (0 : Int))), ((List.getD b9 1 (0 : Int)), ((List.getD b9 2 (0 : Int)), ((List.getD b9 3 (0 : Int)), ((List.getD b9 4 (0 : Int)), ((splice (List.replicate 20 (0 : Int)) 0 (List.take (min (List.length v0) 20) v0)), ()))))))).bind fun r1 =>
if (r1 != (0 : Int)) = true then
some (((0 : Int), ((0 : Int), ((0 : Int), ((0 : Int), ((0 : Int), ((List.replicate 20 (0 : Int)), ())))))), (12 : Int))
else
some (((IntKind.wrap .u8 (List.getD b9 0 (0 : Int))), ((List.getD b9 1 (0 : Int)), ((List.getD b9 2 (0 : Int)), ((List.getD b9 3 (0 : Int)), ((List.getD b9 4 (0 : Int)), ((splice (List.replicate 20 (0 : Int)) 0 (List.take (min (List.length v0) 20) v0)), ())))))), (0 : Int))) := (FnI.sem_eq _).trans (by kernel_rfl)
theorem header_Parse_c2_eq (v0 : List Int) (v5 : Int) (v12 : (List Int)) (v13 : Int) (v17 : Int) (v18 : Int) (b8 : D_api_BlockHead) (b9 : (List Int)) : header_Parse_c2 v0 v5 v12 v13 v17 v18 b8 b9 = (
if (decide (v18 < v17)) = true then
gd (0 ≤ v5) <|
gd (v5 < (5 : Int)) <|
gd (0 ≤ (8 : Int)) <|
gd (0 ≤ (0 : Int)) <|
gd ((0 : Int) < (Int.ofNat (List.length v0))) <|
gd (0 ≤ v5) <|
gd (v5 < (5 : Int)) <|
gd (0 ≤ (1 : Int)) <|
gd ((1 : Int) ≤ (Int.ofNat (List.length v0))) <|
header_Parse_c2 (List.drop 1 v0) v5 v12 v13 v17 (IntKind.wrap .i64 (v18 + (1 : Int))) b8 (List.set b9 (Int.toNat v5) (bitsOr .i64 (IntKind.wrap .i64 ((List.getD b9 (Int.toNat v5) (0 : Int)) * (256 : Int))) (IntKind.wrap .i64 (List.getD v0 0 (0 : Int)))))
else
header_Parse_c1 v0 v12 (IntKind.wrap .i64 (v13 + (1 : Int))) b8 b9) := (FnI.sem_eq _).trans (by kernel_rfl)
noncomputable def header_Parse_S (acc : List AV → Bool) : Summ Tryz.prog GT := header_Parse_I.summ mixed acc false false
noncomputable def bytes_Equal_I : FnI Tryz.prog GT := { f := 47, cuts := [], tab := [], fm := ⟨true, [.val .bool []]⟩ }
noncomputable def bytes_Equal (a0 : List Int) (a1 : List Int) : Option (Bool) := bytes_Equal_I.call [(.sl (.int .u8) false a0), (.sl (.int .u8) false a1)] []
theorem bytes_Equal_eq (a0 : List Int) (a1 : List Int) : bytes_Equal a0 a1 = (
some ((ByteArray.toList (toStr a0)) == (ByteArray.toList (toStr a1)))) := (FnI.call_eq (by kernel_rfl)).trans (by kernel_rfl)
noncomputable def bytes_Equal_S (acc : List AV → Bool) : Summ Tryz.prog GT := bytes_Equal_I.summ mixed acc false false
noncomputable def bytes_HasPrefix_I : FnI Tryz.prog GT := { f := 70, cuts := [], tab := [bytes_Equal_S (fun _ => true)], fm := ⟨true, [.val .bool []]⟩ }
noncomputable def bytes_HasPrefix (a0 : List Int) (a1 : List Int) : Option (Bool) := bytes_HasPrefix_I.call [(.sl (.int .u8) false a0), (.sl (.int .u8) false a1)] []
theorem bytes_HasPrefix_eq (a0 : List Int) (a1 : List Int) : bytes_HasPrefix a0 a1 = (
if (decide ((Int.ofNat (List.length a0)) ≥ (Int.ofNat (List.length a1)))) = true then
gd (0 ≤ (Int.ofNat (List.length a1))) <|
gd ((Int.ofNat (List.length a1)) ≤ (Int.ofNat (List.length a0))) <|
(bytes_Equal (List.take (List.length a1) a0) a1).bind fun r1 =>
some (r1)
else
some (false)) := (FnI.call_eq (by kernel_rfl)).trans (by kernel_rfl)
noncomputable def bytes_HasPrefix_S (acc : List AV → Bool) : Summ Tryz.prog GT := bytes_HasPrefix_I.summ mixed acc false false
noncomputable def marker_At_I : FnI Tryz.prog GT := { f := 42, cuts := [], tab := [marker_check_S (fun _ => true), marker_Bytes_S (fun _ => true), bytes_HasPrefix_S (fun _ => true)], fm := ⟨true, [.val .bool [], .val (.int .i64) []]⟩ }
noncomputable def marker_At (a0 : List Int) (a1 : Int) : Option (Bool × Int) := marker_At_I.call [(.sl (.int .u8) false a0), (.int .i64 a1)] []
theorem marker_At_eq (a0 : List Int) (a1 : Int) : marker_At a0 a1 = (
(marker_check a0 a1).bind fun r1 =>
if (r1 != (0 : Int)) = true then
some (false, r1)
else
gd (0 ≤ a1) <|
gd (a1 ≤ (Int.ofNat (List.length a0))) <|
(marker_Bytes).bind fun r2 =>
(bytes_HasPrefix (List.drop (Int.toNat a1) a0) r2).bind fun r3 =>
some (r3, (0 : Int))) := (FnI.call_eq (by kernel_rfl)).trans (by kernel_rfl)
noncomputable def marker_At_S (acc : List AV → Bool) : Summ Tryz.prog GT := marker_At_I.summ mixed acc false false
noncomputable def bytes_Clone_I : FnI Tryz.prog GT := { f := 28, cuts := [], tab := [], fm := ⟨true, [.val (.slice (.int .u8)) [.nw]]⟩ }
noncomputable def bytes_Clone (a0 : List Int) : Option (List Int) := bytes_Clone_I.call [(.sl (.int .u8) false a0)] []
theorem bytes_Clone_eq (a0 : List Int) : bytes_Clone a0 = (
anyv (fun (r1 : Bool) => r1 = true → a0 = []) fun (r1 : Bool) =>
if r1 = true then
some ([])
else
gd ((List.length ([] ++ a0)) * 1 ≤ 140737488355328) <|
some ([] ++ a0)) := (FnI.call_eq (by kernel_rfl)).trans (by kernel_rfl)
noncomputable def bytes_Clone_S (acc : List AV → Bool) : Summ Tryz.prog GT := bytes_Clone_I.summ mixed acc false false
noncomputable def block_Read_I : FnI Tryz.prog GT := { f := 21, cuts := [], tab := [header_Parse_S (fun _ => true), marker_At_S (fun _ => true), bytes_Clone_S (fun _ => true)], fm := ⟨true, [.val T_api_Block [], .val (.int .i64) [], .val (.int .i64) []]⟩ }
noncomputable def block_Read (a0 : List Int) : Option (D_api_Block × Int × Int) := block_Read_I.call [(.sl (.int .u8) false a0)] []
theorem block_Read_eq (a0 : List Int) : block_Read a0 = (
if (decide ((Int.ofNat (List.length a0)) > (50000 : Int))) = true then
some ((((0 : Int), ((0 : Int), ((0 : Int), ((0 : Int), ((0 : Int), ((List.replicate 20 (0 : Int)), ())))))), ([], ())), ((0 : Int), (4 : Int)))
else
if (decide ((Int.ofNat (List.length a0)) < (41 : Int))) = true then
some ((((0 : Int), ((0 : Int), ((0 : Int), ((0 : Int), ((0 : Int), ((List.replicate 20 (0 : Int)), ())))))), ([], ())), ((0 : Int), (18 : Int)))
else
gd (0 ≤ (13 : Int)) <|
gd ((13 : Int) ≤ (41 : Int)) <|
gd ((41 : Int) ≤ (Int.ofNat (List.length a0))) <|
(header_Parse (List.take 28 (List.drop 13 a0))).bind fun r1 =>
(marker_At a0 (0 : Int)).bind fun r2 =>
if (not r2.1) = true then
some ((((0 : Int), ((0 : Int), ((0 : Int), ((0 : Int), ((0 : Int), ((List.replicate 20 (0 : Int)), ())))))), ([], ())), ((0 : Int), (12 : Int)))
else
if (r1.2 != (0 : Int)) = true then
some ((((0 : Int), ((0 : Int), ((0 : Int), ((0 : Int), ((0 : Int), ((List.replicate 20 (0 : Int)), ())))))), ([], ())), ((0 : Int), (12 : Int)))
else
if (decide ((Int.ofNat (List.length a0)) < (IntKind.wrap .i64 ((41 : Int) + r1.1.2.2.2.2.1)))) = true then
some ((((0 : Int), ((0 : Int), ((0 : Int), ((0 : Int), ((0 : Int), ((List.replicate 20 (0 : Int)), ())))))), ([], ())), ((0 : Int), (18 : Int)))
else
gd (0 ≤ (41 : Int)) <|
gd ((41 : Int) ≤ (IntKind.wrap .i64 ((41 : Int) + r1.1.2.2.2.2.1))) <|
gd ((IntKind.wrap .i64 ((41 : Int) + r1.1.2.2.2.2.1)) ≤ (Int.ofNat (List.length a0))) <|
(bytes_Clone (List.take ((Int.toNat (IntKind.wrap .i64 ((41 : Int) + r1.1.2.2.2.2.1))) - 41) (List.drop 41 a0))).bind fun r3 =>
some ((r1.1, (r3, ())), ((IntKind.wrap .i64 ((41 : Int) + r1.1.2.2.2.2.1)), (0 : Int)))) := (FnI.call_eq (by kernel_rfl)).trans (by kernel_rfl)
noncomputable def block_Read_S (acc : List AV → Bool) : Summ Tryz.prog GT := block_Read_I.summ mixed acc false false
noncomputable def block_Check_I : FnI Tryz.prog GT := { f := 43, cuts := [], tab := [header_Check_S (fun _ => true)], fm := ⟨true, [.val (.int .i64) []]⟩ }
noncomputable def block_Check (a0 : D_api_Block) : Option (Int) := block_Check_I.call [(.agg T_api_Block (inj false T_api_Block a0))] []
theorem block_Check_eq (a0 : D_api_Block) : block_Check a0 = (
(header_Check a0.1).bind fun r1 =>
if (r1 != (0 : Int)) = true then
some (8 : Int)
else
if ((Int.ofNat (List.length a0.2.1)) != a0.1.2.2.2.2.1) = true then
some (8 : Int)
else
some (0 : Int)) := (FnI.call_eq (by kernel_rfl)).trans (by kernel_rfl)
noncomputable def block_Check_S (acc : List AV → Bool) : Summ Tryz.prog GT := block_Check_I.summ mixed acc false false
noncomputable def block_isLevel_I : FnI Tryz.prog GT := { f := 44, cuts := [], tab := [], fm := ⟨true, [.val .bool []]⟩ }
noncomputable def block_isLevel (a0 : Int) : Option (Bool) := block_isLevel_I.call [(.int .i64 a0)] []
theorem block_isLevel_eq (a0 : Int) : block_isLevel a0 = (
if (decide (a0 ≥ (0 : Int))) = true then
some (decide (a0 ≤ (7 : Int)))
else
some (false)) := (FnI.call_eq (by kernel_rfl)).trans (by kernel_rfl)
noncomputable def block_isLevel_S (acc : List AV → Bool) : Summ Tryz.prog GT := block_isLevel_I.summ mixed acc false false
noncomputable def ring_places_I : FnI Tryz.prog GT := { f := 142, cuts := [], tab := [], fm := ⟨true, [.val (.int .i64) []]⟩ }
noncomputable def ring_places (a0 : Int) : Option (Int) := ring_places_I.call [(.int .i64 a0)] []
theorem ring_places_eq (a0 : Int) : ring_places a0 = (
gd (0 ≤ a0) <|
some (IntKind.wrap .i64 (shlBy .i64 (64 : Int) a0))) := (FnI.call_eq (by kernel_rfl)).trans (by kernel_rfl)
noncomputable def ring_places_S (acc : List AV → Bool) : Summ Tryz.prog GT := ring_places_I.summ mixed acc false false
noncomputable def ring_New_I : FnI Tryz.prog GT := { f := 112, cuts := [], tab := [ring_places_S (fun _ => true)], fm := ⟨true, [.val T_api_Ring [], .val (.int .i64) []]⟩ }
noncomputable def ring_New (a0 : Int) : Option (D_api_Ring × Int) := ring_New_I.call [(.int .i64 a0)] []
theorem ring_New_eq (a0 : Int) : ring_New a0 = (
if (decide (a0 < (0 : Int))) = true then
some (((0 : Int), ([], ((0 : Int), ()))), (2 : Int))
else
if (decide (a0 > (7 : Int))) = true then
some (((0 : Int), ([], ((0 : Int), ()))), (2 : Int))
else
(ring_places a0).bind fun r1 =>
gd (r1 = r1) <|
gd (0 ≤ r1) <|
gd (r1 * 1 ≤ 140737488355328) <|
gd (r1 ≤ 9223372036854775807) <|
some ((a0, ((List.replicate (Int.toNat r1) (0 : Int)), ((0 : Int), ()))), (0 : Int))) := (FnI.call_eq (by kernel_rfl)).trans (by kernel_rfl)
noncomputable def ring_New_S (acc : List AV → Bool) : Summ Tryz.prog GT := ring_New_I.summ mixed acc false false
noncomputable def squash_Squash_I : FnI Tryz.prog GT := { f := 167, cuts := [], tab := [], fm := ⟨true, [.val (.int .i32) []]⟩ }
noncomputable def squash_Squash (a0 : Int) : Option (Int) := squash_Squash_I.call [(.int .i32 a0)] []
theorem squash_Squash_eq (a0 : Int) : squash_Squash a0 = (
if (decide (a0 > (2047 : Int))) = true then
some (4095 : Int)
else
if (decide (a0 < (-2047 : Int))) = true then
some (0 : Int)
else
gd (0 ≤ (7 : Int)) <|
gd (0 ≤ (IntKind.wrap .i32 ((Int.fdiv a0 (128 : Int)) + (16 : Int)))) <|
gd ((IntKind.wrap .i32 ((Int.fdiv a0 (128 : Int)) + (16 : Int))) < (33 : Int)) <|
gd (0 ≤ (IntKind.wrap .i32 ((IntKind.wrap .i32 ((Int.fdiv a0 (128 : Int)) + (16 : Int))) + (1 : Int)))) <|
gd ((IntKind.wrap .i32 ((IntKind.wrap .i32 ((Int.fdiv a0 (128 : Int)) + (16 : Int))) + (1 : Int))) < (33 : Int)) <|
gd (0 ≤ (IntKind.wrap .i32 ((Int.fdiv a0 (128 : Int)) + (16 : Int)))) <|
gd ((IntKind.wrap .i32 ((Int.fdiv a0 (128 : Int)) + (16 : Int))) < (33 : Int)) <|
gd (0 ≤ (7 : Int)) <|
some (Int.fdiv (IntKind.wrap .i32 ((IntKind.wrap .i32 ((IntKind.wrap .i32 ((List.getD G_row (Int.toNat (IntKind.wrap .i32 ((Int.fdiv a0 (128 : Int)) + (16 : Int)))) (0 : Int)) * (128 : Int))) + (IntKind.wrap .i32 ((IntKind.wrap .i32 ((List.getD G_row (Int.toNat (IntKind.wrap .i32 ((IntKind.wrap .i32 ((Int.fdiv a0 (128 : Int)) + (16 : Int))) + (1 : Int)))) (0 : Int)) - (List.getD G_row (Int.toNat (IntKind.wrap .i32 ((Int.fdiv a0 (128 : Int)) + (16 : Int)))) (0 : Int)))) * (bitsAnd .i32 a0 (127 : Int)))))) + (64 : Int))) (128 : Int))) := (FnI.call_eq (by kernel_rfl)).trans (by kernel_rfl)
noncomputable def squash_Squash_S (acc : List AV → Bool) : Summ Tryz.prog GT := squash_Squash_I.summ mixed acc false false
noncomputable def slices_Clone_int32_int32_I : FnI Tryz.prog GT := { f := 181, cuts := [], tab := [], fm := ⟨true, [.val (.slice (.int .i32)) [.nw]]⟩ }
noncomputable def slices_Clone_int32_int32 (a0 : List Int) : Option (List Int) := slices_Clone_int32_int32_I.call [(.sl (.int .i32) false a0)] []
theorem slices_Clone_int32_int32_eq (a0 : List Int) : slices_Clone_int32_int32 a0 = (
anyv (fun (r1 : Bool) => r1 = true → a0 = []) fun (r1 : Bool) =>
if r1 = true then
some ([])
else
gd ((List.length ([] ++ a0)) * 4 ≤ 140737488355328) <|
some ([] ++ a0)) := (FnI.call_eq (by kernel_rfl)).trans (by kernel_rfl)
noncomputable def slices_Clone_int32_int32_S (acc : List AV → Bool) : Summ Tryz.prog GT := slices_Clone_int32_int32_I.summ mixed acc false false
noncomputable def refine_New_I : FnI Tryz.prog GT := { f := 143, cuts := [⟨(5, 3), [0, 2, 4, 14], false, false, []⟩, ⟨(11, 3), [2, 4, 6, 26, 27], false, false, []⟩], tab := [squash_Squash_S (fun _ => true), slices_Clone_int32_int32_S (fun _ => true)], fm := ⟨true, [.val T_api_Mixer [], .val (.int .i64) []]⟩ }
noncomputable def refine_New (a0 : Int) : Option (D_api_Mixer × Int) := refine_New_I.call [(.int .i64 a0)] []
noncomputable def refine_New_c1 (v0 : Int) (v14 : Int) (b8b : Unit) (h9 : List Int) (h10 : List (List Int)) : Option (D_api_Mixer × Int) := refine_New_I.sem ⟨[.code (cIn (cIn (cSnd (cFst (cSnd (cSnd (cSnd (bodyOf Tryz.prog 143)))))))), .inLoop (cIn (cIn (cSnd (cFst (cSnd (cSnd (cSnd (bodyOf Tryz.prog 143)))))))), .inBlock 0, .code (cSnd (cSnd (cSnd (cSnd (bodyOf Tryz.prog 143)))))], ⟨[(0, (.one (.int .i64 v0))), (2, (.one (.ptr T_api_Mixer 8 []))), (4, (.one (.ref (.int .i32) 9 0 (List.length h9) true))), (14, (.one (.int .i32 v14)))], [(8, some (.box T_api_Mixer ((SV.ref 10 0 (List.length h10) true), b8b))), (9, some (.row (.int .i32) true h9)), (10, some (.row (.slice (.int .i32)) true h10))], 11⟩⟩
noncomputable def refine_New_c2 (v26 : Int) (v27 : Int) (b8b : Unit) (h9 : List Int) (b10b : Unit) (h11 : List (List Int)) (h12 : List (List Int)) : Option (D_api_Mixer × Int) := refine_New_I.sem ⟨[.code (cIn (cIn (cSnd (cFst (cSnd (cSnd (cSnd (cSnd (cSnd (bodyOf Tryz.prog 143)))))))))), .inLoop (cIn (cIn (cSnd (cFst (cSnd (cSnd (cSnd (cSnd (cSnd (bodyOf Tryz.prog 143)))))))))), .inBlock 2, .code (cSnd (cSnd (cSnd (cSnd (cSnd (cSnd (bodyOf Tryz.prog 143)))))))], ⟨[(2, (.one (.ptr T_api_Mixer 8 []))), (4, (.one (.ref (.int .i32) 9 0 (List.length h9) true))), (6, (.one (.ptr T_api_Mixer 10 []))), (26, (.one (.int .i64 v26))), (27, (.one (.int .i64 v27)))], [(8, some (.box T_api_Mixer ((SV.ref 11 0 (List.length h11) true), b8b))), (9, some (.row (.int .i32) true h9)), (10, some (.box T_api_Mixer ((SV.ref 12 0 (List.length h12) true), b10b))), (11, some (.row (.slice (.int .i32)) true h11)), (12, some (.row (.slice (.int .i32)) true h12))], 13⟩⟩
theorem refine_New_eq (a0 : Int) : refine_New a0 = (
if (decide (a0 < (1 : Int))) = true then
some (([], ()), (2 : Int))
else
if (decide (a0 > (256 : Int))) = true then
some (([], ()), (2 : Int))
else
refine_New_c1 a0 (0 : Int) () [] []) := (FnI.call_eq (by kernel_rfl)).trans (by kernel_rfl)
theorem refine_New_c1_eq (v0 : Int) (v14 : Int) (b8b : Unit) (h9 : List Int) (h10 : List (List Int)) : refine_New_c1 v0 v14 b8b h9 h10 = (
if (decide (v14 < (33 : Int))) = true then
(squash_Squash (IntKind.wrap .i32 ((128 : Int) * (IntKind.wrap .i32 (v14 - (16 : Int)))))).bind fun r1 =>
gd ((List.length (h9 ++ [(IntKind.wrap .i32 ((16 : Int) * r1))])) * 4 ≤ 140737488355328) <|
refine_New_c1 v0 (IntKind.wrap .i32 (v14 + (1 : Int))) b8b (h9 ++ [(IntKind.wrap .i32 ((16 : Int) * r1))]) h10
else
refine_New_c2 v0 (0 : Int) b8b h9 () h10 []) := (FnI.sem_eq _).trans (by kernel_rfl)
theorem refine_New_c2_eq (v26 : Int) (v27 : Int) (b8b : Unit) (h9 : List Int) (b10b : Unit) (h11 : List (List Int)) (h12 : List (List Int)) : refine_New_c2 v26 v27 b8b h9 b10b h11 h12 = (
if (decide (v27 < v26)) = true then
(slices_Clone_int32_int32 h9).bind fun r2 =>
gd ((List.length (h12 ++ [r2])) * 24 ≤ 140737488355328) <|
refine_New_c2 v26 (IntKind.wrap .i64 (v27 + (1 : Int))) b8b h9 b10b h11 (h12 ++ [r2])
else
some ((h12, b10b), (0 : Int))) := (FnI.sem_eq _).trans (by kernel_rfl)
noncomputable def refine_New_S (acc : List AV → Bool) : Summ Tryz.prog GT := refine_New_I.summ mixed acc false false
noncomputable def final_New_I : FnI Tryz.prog GT := { f := 113, cuts := [], tab := [refine_New_S (fun _ => true)], fm := ⟨true, [.val T_api_Final []]⟩ }
noncomputable def final_New : Option (D_api_Final) := final_New_I.call [] []
theorem final_New_eq : final_New = (
(refine_New (256 : Int)).bind fun r1 =>
(refine_New (256 : Int)).bind fun r2 =>
some (r1.1, (r2.1, ()))) := (FnI.call_eq (by kernel_rfl)).trans (by kernel_rfl)
noncomputable def final_New_S (acc : List AV → Bool) : Summ Tryz.prog GT := final_New_I.summ mixed acc false false
noncomputable def match_New_I : FnI Tryz.prog GT := { f := 114, cuts := [], tab := [], fm := ⟨true, [.val T_api_Settings []]⟩ }
noncomputable def match_New : Option (D_api_Settings) := match_New_I.call [] []
theorem match_New_eq : match_New = (
some ((-1 : Int), ((0 : Int), ()))) := (FnI.call_eq (by kernel_rfl)).trans (by kernel_rfl)
noncomputable def match_New_S (acc : List AV → Bool) : Summ Tryz.prog GT := match_New_I.summ mixed acc false false
noncomputable def nibble_New_I : FnI Tryz.prog GT := { f := 115, cuts := [], tab := [], fm := ⟨true, [.val T_api_Walk []]⟩ }
noncomputable def nibble_New : Option (D_api_Walk) := nibble_New_I.call [] []
theorem nibble_New_eq : nibble_New = (
some ((1 : Int), ())) := (FnI.call_eq (by kernel_rfl)).trans (by kernel_rfl)
noncomputable def nibble_New_S (acc : List AV → Bool) : Summ Tryz.prog GT := nibble_New_I.summ mixed acc false false
noncomputable def finder_places_I : FnI Tryz.prog GT := { f := 145, cuts := [], tab := [], fm := ⟨true, [.val (.int .i64) []]⟩ }
noncomputable def finder_places (a0 : Int) : Option (Int) := finder_places_I.call [(.int .i64 a0)] []
theorem finder_places_eq (a0 : Int) : finder_places a0 = (
gd (0 ≤ a0) <|
some (IntKind.wrap .i64 (shlBy .i64 (64 : Int) a0))) := (FnI.call_eq (by kernel_rfl)).trans (by kernel_rfl)
noncomputable def finder_places_S (acc : List AV → Bool) : Summ Tryz.prog GT := finder_places_I.summ mixed acc false false
noncomputable def math_bits_Mul64_I : FnI Tryz.prog GT := { f := 230, cuts := [], tab := [], fm := ⟨true, [.val (.int .u64) [], .val (.int .u64) []]⟩ }
noncomputable def math_bits_Mul64 (a0 : Int) (a1 : Int) : Option (Int × Int) := math_bits_Mul64_I.call [(.int .u64 a0), (.int .u64 a1)] []
theorem math_bits_Mul64_eq (a0 : Int) (a1 : Int) : math_bits_Mul64 a0 a1 = (
gd (0 ≤ (32 : Int)) <|
gd (0 ≤ (32 : Int)) <|
gd (0 ≤ (32 : Int)) <|
gd (0 ≤ (32 : Int)) <|
gd (0 ≤ (32 : Int)) <|
some ((IntKind.wrap .u64 ((IntKind.wrap .u64 ((IntKind.wrap .u64 ((Int.fdiv a0 (4294967296 : Int)) * (Int.fdiv a1 (4294967296 : Int)))) + (Int.fdiv (IntKind.wrap .u64 ((IntKind.wrap .u64 ((Int.fdiv a0 (4294967296 : Int)) * (bitsAnd .u64 a1 (4294967295 : Int)))) + (Int.fdiv (IntKind.wrap .u64 ((bitsAnd .u64 a0 (4294967295 : Int)) * (bitsAnd .u64 a1 (4294967295 : Int)))) (4294967296 : Int)))) (4294967296 : Int)))) + (Int.fdiv (IntKind.wrap .u64 ((bitsAnd .u64 (IntKind.wrap .u64 ((IntKind.wrap .u64 ((Int.fdiv a0 (4294967296 : Int)) * (bitsAnd .u64 a1 (4294967295 : Int)))) + (Int.fdiv (IntKind.wrap .u64 ((bitsAnd .u64 a0 (4294967295 : Int)) * (bitsAnd .u64 a1 (4294967295 : Int)))) (4294967296 : Int)))) (4294967295 : Int)) + (IntKind.wrap .u64 ((bitsAnd .u64 a0 (4294967295 : Int)) * (Int.fdiv a1 (4294967296 : Int)))))) (4294967296 : Int)))), (IntKind.wrap .u64 (a0 * a1)))) := (FnI.call_eq (by kernel_rfl)).trans (by kernel_rfl)
noncomputable def math_bits_Mul64_S (acc : List AV → Bool) : Summ Tryz.prog GT := math_bits_Mul64_I.summ mixed acc false false
noncomputable def math_bits_Mul_I : FnI Tryz.prog GT := { f := 190, cuts := [], tab := [math_bits_Mul64_S (fun _ => true)], fm := ⟨true, [.val (.int .u64) [], .val (.int .u64) []]⟩ }
noncomputable def math_bits_Mul (a0 : Int) (a1 : Int) : Option (Int × Int) := math_bits_Mul_I.call [(.int .u64 a0), (.int .u64 a1)] []
theorem math_bits_Mul_eq (a0 : Int) (a1 : Int) : math_bits_Mul a0 a1 = (
(math_bits_Mul64 a0 a1).bind fun r1 =>
some (r1)) := (FnI.call_eq (by kernel_rfl)).trans (by kernel_rfl)
noncomputable def math_bits_Mul_S (acc : List AV → Bool) : Summ Tryz.prog GT := math_bits_Mul_I.summ mixed acc false false
noncomputable def slices_Repeat_int_int_I : FnI Tryz.prog GT := { f := 144, cuts := [⟨(8, 3), [7, 8], false, false, []⟩], tab := [math_bits_Mul_S (fun _ => true)], fm := ⟨true, [.val (.slice (.int .i64)) [.nw]]⟩ }
noncomputable def slices_Repeat_int_int (a0 : List Int) (a1 : Int) : Option (List Int) := slices_Repeat_int_int_I.call [(.sl (.int .i64) false a0), (.int .i64 a1)] []
noncomputable def slices_Repeat_int_int_c1 (v8 : Int) (h8 : List Int) : Option (List Int) := slices_Repeat_int_int_I.sem ⟨[.code (cIn (cIn (cFst (cSnd (cSnd (cSnd (cSnd (cSnd (cSnd (bodyOf Tryz.prog 144)))))))))), .inLoop (cIn (cIn (cFst (cSnd (cSnd (cSnd (cSnd (cSnd (cSnd (bodyOf Tryz.prog 144)))))))))), .inBlock 0, .code (cSnd (cSnd (cSnd (cSnd (cSnd (cSnd (cSnd (bodyOf Tryz.prog 144))))))))], ⟨[(7, (.one (.ref (.int .i64) 8 0 (List.length h8) true))), (8, (.one (.int .i64 v8)))], [(8, some (.row (.int .i64) true h8))], 9⟩⟩
theorem slices_Repeat_int_int_eq (a0 : List Int) (a1 : Int) : slices_Repeat_int_int a0 a1 = (
if (decide (a1 < (0 : Int))) = true then
none
else
(math_bits_Mul (IntKind.wrap .u64 (Int.ofNat (List.length a0))) (IntKind.wrap .u64 a1)).bind fun r1 =>
if (decide (r1.1 > (0 : Int))) = true then
none
else
if (decide (r1.2 > (9223372036854775807 : Int))) = true then
none
else
gd ((IntKind.wrap .i64 r1.2) = (IntKind.wrap .i64 r1.2)) <|
gd (0 ≤ (IntKind.wrap .i64 r1.2)) <|
gd ((IntKind.wrap .i64 r1.2) * 8 ≤ 140737488355328) <|
gd ((IntKind.wrap .i64 r1.2) ≤ 9223372036854775807) <|
slices_Repeat_int_int_c1 (Int.ofNat (min (List.length a0) (List.length (List.replicate (Int.toNat (IntKind.wrap .i64 r1.2)) (0 : Int))))) (splice (List.replicate (Int.toNat (IntKind.wrap .i64 r1.2)) (0 : Int)) 0 (List.take (min (List.length a0) (List.length (List.replicate (Int.toNat (IntKind.wrap .i64 r1.2)) (0 : Int)))) a0))) := (FnI.call_eq (by kernel_rfl)).trans (by kernel_rfl)
theorem slices_Repeat_int_int_c1_eq (v8 : Int) (h8 : List Int) : slices_Repeat_int_int_c1 v8 h8 = (
if (decide (v8 < (Int.ofNat (List.length h8)))) = true then
gd (0 ≤ v8) <|
gd (v8 ≤ (Int.ofNat (List.length h8))) <|
gd (0 ≤ v8) <|
gd (v8 ≤ (Int.ofNat (List.length h8))) <|
slices_Repeat_int_int_c1 (IntKind.wrap .i64 (v8 + (Int.ofNat (min (List.length (List.take ((Int.toNat v8) - 0) (List.drop 0 h8))) ((List.length h8) - (Int.toNat v8)))))) (splice h8 (0 + (Int.toNat v8)) (List.take (min (List.length (List.take ((Int.toNat v8) - 0) (List.drop 0 h8))) ((List.length h8) - (Int.toNat v8))) (List.take ((Int.toNat v8) - 0) (List.drop 0 h8))))
else
some (h8)) := (FnI.sem_eq _).trans (by kernel_rfl)
noncomputable def slices_Repeat_int_int_S (acc : List AV → Bool) : Summ Tryz.prog GT := slices_Repeat_int_int_I.summ mixed acc false false
noncomputable def finder_New_I : FnI Tryz.prog GT := { f := 116, cuts := [], tab := [finder_places_S (fun _ => true), slices_Repeat_int_int_S (fun _ => true)], fm := ⟨true, [.val T_api_Finder [], .val (.int .i64) []]⟩ }
noncomputable def finder_New (a0 : Int) : Option (D_api_Finder × Int) := finder_New_I.call [(.int .i64 a0)] []
theorem finder_New_eq (a0 : Int) : finder_New a0 = (
if (decide (a0 < (0 : Int))) = true then
some (((0 : Int), ([], ())), (2 : Int))
else
if (decide (a0 > (7 : Int))) = true then
some (((0 : Int), ([], ())), (2 : Int))
else
(finder_places a0).bind fun r1 =>
(slices_Repeat_int_int [(-1 : Int)] r1).bind fun r2 =>
some ((a0, (r2, ())), (0 : Int))) := (FnI.call_eq (by kernel_rfl)).trans (by kernel_rfl)
noncomputable def finder_New_S (acc : List AV → Bool) : Summ Tryz.prog GT := finder_New_I.summ mixed acc false false
noncomputable def slices_Repeat_int32_int32_I : FnI Tryz.prog GT := { f := 148, cuts := [⟨(8, 3), [7, 8], false, false, []⟩], tab := [math_bits_Mul_S (fun _ => true)], fm := ⟨true, [.val (.slice (.int .i32)) [.nw]]⟩ }
noncomputable def slices_Repeat_int32_int32 (a0 : List Int) (a1 : Int) : Option (List Int) := slices_Repeat_int32_int32_I.call [(.sl (.int .i32) false a0), (.int .i64 a1)] []
noncomputable def slices_Repeat_int32_int32_c1 (v8 : Int) (h8 : List Int) : Option (List Int) := slices_Repeat_int32_int32_I.sem ⟨[.code (cIn (cIn (cFst (cSnd (cSnd (cSnd (cSnd (cSnd (cSnd (bodyOf Tryz.prog 148)))))))))), .inLoop (cIn (cIn (cFst (cSnd (cSnd (cSnd (cSnd (cSnd (cSnd (bodyOf Tryz.prog 148)))))))))), .inBlock 0, .code (cSnd (cSnd (cSnd (cSnd (cSnd (cSnd (cSnd (bodyOf Tryz.prog 148))))))))], ⟨[(7, (.one (.ref (.int .i32) 8 0 (List.length h8) true))), (8, (.one (.int .i64 v8)))], [(8, some (.row (.int .i32) true h8))], 9⟩⟩
theorem slices_Repeat_int32_int32_eq (a0 : List Int) (a1 : Int) : slices_Repeat_int32_int32 a0 a1 = (
if (decide (a1 < (0 : Int))) = true then
none
else
(math_bits_Mul (IntKind.wrap .u64 (Int.ofNat (List.length a0))) (IntKind.wrap .u64 a1)).bind fun r1 =>
if (decide (r1.1 > (0 : Int))) = true then
none
else
if (decide (r1.2 > (9223372036854775807 : Int))) = true then
none
else
gd ((IntKind.wrap .i64 r1.2) = (IntKind.wrap .i64 r1.2)) <|
gd (0 ≤ (IntKind.wrap .i64 r1.2)) <|
gd ((IntKind.wrap .i64 r1.2) * 4 ≤ 140737488355328) <|
gd ((IntKind.wrap .i64 r1.2) ≤ 9223372036854775807) <|
slices_Repeat_int32_int32_c1 (Int.ofNat (min (List.length a0) (List.length (List.replicate (Int.toNat (IntKind.wrap .i64 r1.2)) (0 : Int))))) (splice (List.replicate (Int.toNat (IntKind.wrap .i64 r1.2)) (0 : Int)) 0 (List.take (min (List.length a0) (List.length (List.replicate (Int.toNat (IntKind.wrap .i64 r1.2)) (0 : Int)))) a0))) := (FnI.call_eq (by kernel_rfl)).trans (by kernel_rfl)
theorem slices_Repeat_int32_int32_c1_eq (v8 : Int) (h8 : List Int) : slices_Repeat_int32_int32_c1 v8 h8 = (
if (decide (v8 < (Int.ofNat (List.length h8)))) = true then
gd (0 ≤ v8) <|
gd (v8 ≤ (Int.ofNat (List.length h8))) <|
gd (0 ≤ v8) <|
gd (v8 ≤ (Int.ofNat (List.length h8))) <|
slices_Repeat_int32_int32_c1 (IntKind.wrap .i64 (v8 + (Int.ofNat (min (List.length (List.take ((Int.toNat v8) - 0) (List.drop 0 h8))) ((List.length h8) - (Int.toNat v8)))))) (splice h8 (0 + (Int.toNat v8)) (List.take (min (List.length (List.take ((Int.toNat v8) - 0) (List.drop 0 h8))) ((List.length h8) - (Int.toNat v8))) (List.take ((Int.toNat v8) - 0) (List.drop 0 h8))))
else
some (h8)) := (FnI.sem_eq _).trans (by kernel_rfl)
noncomputable def slices_Repeat_int32_int32_S (acc : List AV → Bool) : Summ Tryz.prog GT := slices_Repeat_int32_int32_I.summ mixed acc false false
noncomputable def mixer_fill_int32_I : FnI Tryz.prog GT := { f := 146, cuts := [], tab := [slices_Repeat_int32_int32_S (fun _ => true)], fm := ⟨true, [.val (.slice (.int .i32)) [.nw]]⟩ }
noncomputable def mixer_fill_int32 (a0 : Int) (a1 : Int) : Option (List Int) := mixer_fill_int32_I.call [(.int .i64 a0), (.int .i32 a1)] []
theorem mixer_fill_int32_eq (a0 : Int) (a1 : Int) : mixer_fill_int32 a0 a1 = (
(slices_Repeat_int32_int32 [a1] a0).bind fun r1 =>
some (r1)) := (FnI.call_eq (by kernel_rfl)).trans (by kernel_rfl)
noncomputable def mixer_fill_int32_S (acc : List AV → Bool) : Summ Tryz.prog GT := mixer_fill_int32_I.summ mixed acc false false
noncomputable def mixer_New_I : FnI Tryz.prog GT := { f := 117, cuts := [⟨(5, 3), [1, 4, 6, 14, 15], false, false, []⟩], tab := [mixer_fill_int32_S (fun _ => true)], fm := ⟨true, [.val T_api_Mixer [], .val (.int .i64) []]⟩ }
noncomputable def mixer_New (a0 : Int) (a1 : Int) : Option (D_api_Mixer × Int) := mixer_New_I.call [(.int .i64 a0), (.int .i32 a1)] []
noncomputable def mixer_New_c1 (v1 : Int) (v14 : Int) (v15 : Int) (b8b : Unit) (b9b : Unit) (h10 : List (List Int)) (h11 : List (List Int)) : Option (D_api_Mixer × Int) := mixer_New_I.sem ⟨[.code (cIn (cIn (cSnd (cFst (cSnd (cSnd (cSnd (bodyOf Tryz.prog 117)))))))), .inLoop (cIn (cIn (cSnd (cFst (cSnd (cSnd (cSnd (bodyOf Tryz.prog 117)))))))), .inBlock 0, .code (cSnd (cSnd (cSnd (cSnd (bodyOf Tryz.prog 117)))))], ⟨[(1, (.one (.int .i32 v1))), (4, (.one (.ptr T_api_Mixer 8 []))), (6, (.one (.ptr T_api_Mixer 9 []))), (14, (.one (.int .i64 v14))), (15, (.one (.int .i64 v15)))], [(8, some (.box T_api_Mixer ((SV.ref 10 0 (List.length h10) true), b8b))), (9, some (.box T_api_Mixer ((SV.ref 11 0 (List.length h11) true), b9b))), (10, some (.row (.slice (.int .i32)) true h10)), (11, some (.row (.slice (.int .i32)) true h11))], 12⟩⟩
theorem mixer_New_eq (a0 : Int) (a1 : Int) : mixer_New a0 a1 = (
if (decide (a0 < (1 : Int))) = true then
some (([], ()), (2 : Int))
else
if (decide (a0 > (256 : Int))) = true then
some (([], ()), (2 : Int))
else
mixer_New_c1 a1 a0 (0 : Int) () () [] []) := (FnI.call_eq (by kernel_rfl)).trans (by kernel_rfl)
theorem mixer_New_c1_eq (v1 : Int) (v14 : Int) (v15 : Int) (b8b : Unit) (b9b : Unit) (h10 : List (List Int)) (h11 : List (List Int)) : mixer_New_c1 v1 v14 v15 b8b b9b h10 h11 = (
if (decide (v15 < v14)) = true then
(mixer_fill_int32 (8 : Int) v1).bind fun r1 =>
gd ((List.length (h11 ++ [r1])) * 24 ≤ 140737488355328) <|
mixer_New_c1 v1 v14 (IntKind.wrap .i64 (v15 + (1 : Int))) b8b b9b h10 (h11 ++ [r1])
else
some ((h11, b9b), (0 : Int))) := (FnI.sem_eq _).trans (by kernel_rfl)
noncomputable def mixer_New_S (acc : List AV → Bool) : Summ Tryz.prog GT := mixer_New_I.summ mixed acc false false
noncomputable def slots_size_I : FnI Tryz.prog GT := { f := 147, cuts := [], tab := [], fm := ⟨true, [.val (.int .i64) []]⟩ }
noncomputable def slots_size (a0 : Int) : Option (Int) := slots_size_I.call [(.int .i64 a0)] []
theorem slots_size_eq (a0 : Int) : slots_size a0 = (
gd (0 ≤ a0) <|
some (IntKind.wrap .i64 (shlBy .i64 (16 : Int) a0))) := (FnI.call_eq (by kernel_rfl)).trans (by kernel_rfl)
noncomputable def slots_size_S (acc : List AV → Bool) : Summ Tryz.prog GT := slots_size_I.summ mixed acc false false
noncomputable def slots_New_I : FnI Tryz.prog GT := { f := 118, cuts := [], tab := [slots_size_S (fun _ => true)], fm := ⟨true, [.val T_api_Table [], .val (.int .i64) []]⟩ }
noncomputable def slots_New (a0 : Int) : Option (D_api_Table × Int) := slots_New_I.call [(.int .i64 a0)] []
theorem slots_New_eq (a0 : Int) : slots_New a0 = (
if (decide (a0 < (0 : Int))) = true then
some (((0 : Int), ([], ())), (2 : Int))
else
if (decide (a0 > (7 : Int))) = true then
some (((0 : Int), ([], ())), (2 : Int))
else
(slots_size a0).bind fun r1 =>
gd (r1 = r1) <|
gd (0 ≤ r1) <|
gd (r1 * 16 ≤ 140737488355328) <|
gd (r1 ≤ 9223372036854775807) <|
some ((a0, ((List.replicate (Int.toNat r1) (pzero T_api_Slot)), ())), (0 : Int))) := (FnI.call_eq (by kernel_rfl)).trans (by kernel_rfl)
noncomputable def slots_New_S (acc : List AV → Bool) : Summ Tryz.prog GT := slots_New_I.summ mixed acc false false
noncomputable def adapt_New_I : FnI Tryz.prog GT := { f := 119, cuts := [], tab := [slices_Repeat_int32_int32_S (fun _ => true)], fm := ⟨true, [.val T_api_Adapt [], .val (.int .i64) []]⟩ }
noncomputable def adapt_New (a0 : Int) : Option (D_api_Adapt × Int) := adapt_New_I.call [(.int .i64 a0)] []
theorem adapt_New_eq (a0 : Int) : adapt_New a0 = (
if (decide (a0 < (1 : Int))) = true then
some (((0 : Int), ([], ([], ()))), (2 : Int))
else
if (decide (a0 > (1000 : Int))) = true then
some (((0 : Int), ([], ([], ()))), (2 : Int))
else
(slices_Repeat_int32_int32 [(32768 : Int)] (193 : Int)).bind fun r1 =>
gd ((193 : Int) = (193 : Int)) <|
gd (0 ≤ (193 : Int)) <|
gd ((193 : Int) * 4 ≤ 140737488355328) <|
gd ((193 : Int) ≤ 9223372036854775807) <|
some (((IntKind.wrap .i32 a0), (r1, ((List.replicate 193 (0 : Int)), ()))), (0 : Int))) := (FnI.call_eq (by kernel_rfl)).trans (by kernel_rfl)
noncomputable def adapt_New_S (acc : List AV → Bool) : Summ Tryz.prog GT := adapt_New_I.summ mixed acc false false
noncomputable def unicode_utf8_decodeRuneSlow_I : FnI Tryz.prog GT := { f := 254, cuts := [], tab := [], fm := ⟨true, [.val (.int .i32) [], .val (.int .i64) []]⟩ }
noncomputable def unicode_utf8_decodeRuneSlow (a0 : List Int) : Option (Int × Int) := unicode_utf8_decodeRuneSlow_I.call [(.sl (.int .u8) false a0)] []
noncomputable def unicode_utf8_decodeRuneSlow_S (acc : List AV → Bool) : Summ Tryz.prog GT := unicode_utf8_decodeRuneSlow_I.summ mixed acc false false
noncomputable def unicode_utf8_DecodeRune_I : FnI Tryz.prog GT := { f := 248, cuts := [⟨(2, 3), [0, 6, 7, 8], false, false, []⟩], tab := [unicode_utf8_decodeRuneSlow_S (fun _ => true)], fm := ⟨true, [.val (.int .i32) [], .val (.int .i64) []]⟩ }
noncomputable def unicode_utf8_DecodeRune (a0 : List Int) : Option (Int × Int) := unicode_utf8_DecodeRune_I.call [(.sl (.int .u8) false a0)] []
noncomputable def unicode_utf8_DecodeRune_c1 (v0 : List Int) (v6 : List Int) (v7 : Int) (v8 : Int) : Option (Int × Int) := unicode_utf8_DecodeRune_I.sem ⟨[.code (cIn (cIn (cSnd (cFst (cSnd (bodyOf Tryz.prog 248)))))), .inLoop (cIn (cIn (cSnd (cFst (cSnd (bodyOf Tryz.prog 248)))))), .inBlock 0, .code (cSnd (cSnd (bodyOf Tryz.prog 248)))], ⟨[(0, (.one (.sl (.int .u8) false v0))), (6, (.one (.sl (.int .u8) false v6))), (7, (.one (.int .i64 v7))), (8, (.one (.int .i64 v8)))], [], 8⟩⟩
theorem unicode_utf8_DecodeRune_eq (a0 : List Int) : unicode_utf8_DecodeRune a0 = (
unicode_utf8_DecodeRune_c1 a0 a0 (Int.ofNat (List.length a0)) (0 : Int)) := (FnI.call_eq (by kernel_rfl)).trans (by kernel_rfl)
theorem unicode_utf8_DecodeRune_c1_eq (v0 : List Int) (v6 : List Int) (v7 : Int) (v8 : Int) : unicode_utf8_DecodeRune_c1 v0 v6 v7 v8 = (
if (decide (v8 < v7)) = true then
gd (0 ≤ v8) <|
gd (v8 < (Int.ofNat (List.length v6))) <|
if (decide ((List.getD v6 (Int.toNat v8) (0 : Int)) < (128 : Int))) = true then
some ((IntKind.wrap .i32 (List.getD v6 (Int.toNat v8) (0 : Int))), (1 : Int))
else
(unicode_utf8_decodeRuneSlow v0).bind fun r1 =>
some (r1)
else
(unicode_utf8_decodeRuneSlow v0).bind fun r2 =>
some (r2)) := (FnI.sem_eq _).trans (by kernel_rfl)
noncomputable def unicode_utf8_DecodeRune_S (acc : List AV → Bool) : Summ Tryz.prog GT := unicode_utf8_DecodeRune_I.summ mixed acc false false
noncomputable def ring_Check_1_I : FnI Tryz.prog GT := { f := 192, cuts := [], tab := [], fm := ⟨true, [.val .bool []]⟩ }
noncomputable def ring_Check_1 (a0 : Int) : Option (Bool) := ring_Check_1_I.call [(.int .i32 a0)] []
theorem ring_Check_1_eq (a0 : Int) : ring_Check_1 a0 = (
some (a0 != (0 : Int))) := (FnI.call_eq (by kernel_rfl)).trans (by kernel_rfl)
noncomputable def ring_Check_1_S (acc : List AV → Bool) : Summ Tryz.prog GT := ring_Check_1_I.summ mixed acc false false
noncomputable def bytes_indexFunc_I : FnI Tryz.prog GT := { f := 241, cuts := [⟨(2, 3), [0, 1, 2, 7], false, false, []⟩], tab := [unicode_utf8_DecodeRune_S (fun _ => true), ring_Check_1_S (fun _ => true)], fm := ⟨true, [.val (.int .i64) []]⟩ }
noncomputable def bytes_indexFunc (a0 : List Int) (a2 : Bool) : Option (Int) := bytes_indexFunc_I.call [(.sl (.int .u8) false a0), (.func 192 []), (.bool a2)] []
noncomputable def bytes_indexFunc_c1 (v0 : List Int) (v2 : Bool) (v7 : Int) : Option (Int) := bytes_indexFunc_I.sem ⟨[.code (cIn (cIn (cFst (cSnd (cSnd (bodyOf Tryz.prog 241)))))), .inLoop (cIn (cIn (cFst (cSnd (cSnd (bodyOf Tryz.prog 241)))))), .inBlock 0, .code (cSnd (cSnd (cSnd (bodyOf Tryz.prog 241))))], ⟨[(0, (.one (.sl (.int .u8) false v0))), (1, (.one (.func 192 []))), (2, (.one (.bool v2))), (7, (.one (.int .i64 v7)))], [], 8⟩⟩
theorem bytes_indexFunc_eq (a0 : List Int) (a2 : Bool) : bytes_indexFunc a0 a2 = (
bytes_indexFunc_c1 a0 a2 (0 : Int)) := (FnI.call_eq (by kernel_rfl)).trans (by kernel_rfl)
theorem bytes_indexFunc_c1_eq (v0 : List Int) (v2 : Bool) (v7 : Int) : bytes_indexFunc_c1 v0 v2 v7 = (
if (decide (v7 < (Int.ofNat (List.length v0)))) = true then
gd (0 ≤ v7) <|
gd (v7 ≤ (Int.ofNat (List.length v0))) <|
(unicode_utf8_DecodeRune (List.drop (Int.toNat v7) v0)).bind fun r1 =>
(ring_Check_1 r1.1).bind fun r2 =>
if (r2 == v2) = true then
some (v7)
else
bytes_indexFunc_c1 v0 v2 (IntKind.wrap .i64 (v7 + r1.2))
else
some (-1 : Int)) := (FnI.sem_eq _).trans (by kernel_rfl)
noncomputable def bytes_indexFunc_S (acc : List AV → Bool) : Summ Tryz.prog GT := bytes_indexFunc_I.summ mixed acc false false
noncomputable def bytes_IndexFunc_I : FnI Tryz.prog GT := { f := 231, cuts := [], tab := [bytes_indexFunc_S (fun _ => true)], fm := ⟨true, [.val (.int .i64) []]⟩ }
noncomputable def bytes_IndexFunc (a0 : List Int) : Option (Int) := bytes_IndexFunc_I.call [(.sl (.int .u8) false a0), (.func 192 [])] []
theorem bytes_IndexFunc_eq (a0 : List Int) : bytes_IndexFunc a0 = (
(bytes_indexFunc a0 true).bind fun r1 =>
some (r1)) := (FnI.call_eq (by kernel_rfl)).trans (by kernel_rfl)
noncomputable def bytes_IndexFunc_S (acc : List AV → Bool) : Summ Tryz.prog GT := bytes_IndexFunc_I.summ mixed acc false false
noncomputable def bytes_ContainsFunc_I : FnI Tryz.prog GT := { f := 191, cuts := [], tab := [bytes_IndexFunc_S (fun _ => true)], fm := ⟨true, [.val .bool []]⟩ }
noncomputable def bytes_ContainsFunc (a0 : List Int) : Option (Bool) := bytes_ContainsFunc_I.call [(.sl (.int .u8) false a0), (.func 192 [])] []
theorem bytes_ContainsFunc_eq (a0 : List Int) : bytes_ContainsFunc a0 = (
(bytes_IndexFunc a0).bind fun r1 =>
some (decide (r1 ≥ (0 : Int)))) := (FnI.call_eq (by kernel_rfl)).trans (by kernel_rfl)
noncomputable def bytes_ContainsFunc_S (acc : List AV → Bool) : Summ Tryz.prog GT := bytes_ContainsFunc_I.summ mixed acc false false
noncomputable def ring_Check_I : FnI Tryz.prog GT := { f := 149, cuts := [], tab := [ring_places_S (fun _ => true), bytes_ContainsFunc_S (fun _ => true)], fm := ⟨true, [.val (.int .i64) []]⟩ }
noncomputable def ring_Check (a0 : D_api_Ring) : Option (Int) := ring_Check_I.call [(.agg T_api_Ring (inj false T_api_Ring a0))] []
theorem ring_Check_eq (a0 : D_api_Ring) : ring_Check a0 = (
if (decide (a0.1 < (0 : Int))) = true then
some (8 : Int)
else
if (decide (a0.1 > (7 : Int))) = true then
some (8 : Int)
else
(ring_places a0.1).bind fun r1 =>
if ((Int.ofNat (List.length a0.2.1)) != r1) = true then
some (8 : Int)
else
if (decide (a0.2.2.1 < (0 : Int))) = true then
some (8 : Int)
else
if (decide (a0.2.2.1 > (1073741824 : Int))) = true then
some (8 : Int)
else
if (decide (a0.2.2.1 < (Int.ofNat (List.length a0.2.1)))) = true then
gd (0 ≤ a0.2.2.1) <|
gd (a0.2.2.1 ≤ (Int.ofNat (List.length a0.2.1))) <|
(bytes_ContainsFunc (List.drop (Int.toNat a0.2.2.1) a0.2.1)).bind fun r2 =>
if r2 = true then
some (8 : Int)
else
some (0 : Int)
else
some (0 : Int)) := (FnI.call_eq (by kernel_rfl)).trans (by kernel_rfl)
noncomputable def ring_Check_S (acc : List AV → Bool) : Summ Tryz.prog GT := ring_Check_I.summ mixed acc false false
noncomputable def ring_ago_I : FnI Tryz.prog GT := { f := 232, cuts := [], tab := [], fm := ⟨true, [.val (.int .u8) []]⟩ }
noncomputable def ring_ago (a0 : D_api_Ring) (a1 : Int) : Option (Int) := ring_ago_I.call [(.agg T_api_Ring (inj false T_api_Ring a0)), (.int .i64 a1)] []
theorem ring_ago_eq (a0 : D_api_Ring) (a1 : Int) : ring_ago a0 a1 = (
gd (0 ≤ (bitsAnd .i64 (IntKind.wrap .i64 (a0.2.2.1 - a1)) (IntKind.wrap .i64 ((Int.ofNat (List.length a0.2.1)) - (1 : Int))))) <|
gd ((bitsAnd .i64 (IntKind.wrap .i64 (a0.2.2.1 - a1)) (IntKind.wrap .i64 ((Int.ofNat (List.length a0.2.1)) - (1 : Int)))) < (Int.ofNat (List.length a0.2.1))) <|
some (List.getD a0.2.1 (Int.toNat (bitsAnd .i64 (IntKind.wrap .i64 (a0.2.2.1 - a1)) (IntKind.wrap .i64 ((Int.ofNat (List.length a0.2.1)) - (1 : Int))))) (0 : Int))) := (FnI.call_eq (by kernel_rfl)).trans (by kernel_rfl)
noncomputable def ring_ago_S (acc : List AV → Bool) : Summ Tryz.prog GT := ring_ago_I.summ mixed acc false false
noncomputable def ring_Back_I : FnI Tryz.prog GT := { f := 193, cuts := [], tab := [ring_Check_S (fun _ => true), ring_ago_S (fun _ => true)], fm := ⟨true, [.val (.int .u8) [], .val (.int .i64) []]⟩ }
noncomputable def ring_Back (a0 : D_api_Ring) (a1 : Int) : Option (Int × Int) := ring_Back_I.call [(.agg T_api_Ring (inj false T_api_Ring a0)), (.int .i64 a1)] []
theorem ring_Back_eq (a0 : D_api_Ring) (a1 : Int) : ring_Back a0 a1 = (
(ring_Check a0).bind fun r1 =>
if (r1 != (0 : Int)) = true then
some ((0 : Int), r1)
else
if (decide (a1 < (1 : Int))) = true then
some ((0 : Int), (2 : Int))
else
if (decide (a1 > (Int.ofNat (List.length a0.2.1)))) = true then
some ((0 : Int), (2 : Int))
else
if (decide (a1 > a0.2.2.1)) = true then
some ((0 : Int), (0 : Int))
else
(ring_ago a0 a1).bind fun r2 =>
some (r2, (0 : Int))) := (FnI.call_eq (by kernel_rfl)).trans (by kernel_rfl)
noncomputable def ring_Back_S (acc : List AV → Bool) : Summ Tryz.prog GT := ring_Back_I.summ mixed acc false false
noncomputable def context_back_I : FnI Tryz.prog GT := { f := 150, cuts := [⟨(3, 3), [2, 5, 6], false, false, []⟩], tab := [ring_Back_S (fun _ => true)], fm := ⟨true, [.val (.slice (.int .u8)) [.nw]]⟩ }
noncomputable def context_back (a0 : D_api_Ring) (a1 : Int) : Option (List Int) := context_back_I.call [(.agg T_api_Ring (inj false T_api_Ring a0)), (.int .i64 a1)] []
noncomputable def context_back_c1 (v6 : Int) (b8 : D_api_Ring) (h9 : List Int) : Option (List Int) := context_back_I.sem ⟨[.code (cIn (cIn (cSnd (cFst (cSnd (cSnd (bodyOf Tryz.prog 150))))))), .inLoop (cIn (cIn (cSnd (cFst (cSnd (cSnd (bodyOf Tryz.prog 150))))))), .inBlock 0, .code (cSnd (cSnd (cSnd (bodyOf Tryz.prog 150))))], ⟨[(2, (.one (.ptr T_api_Ring 8 []))), (5, (.one (.ref (.int .u8) 9 0 (List.length h9) true))), (6, (.one (.int .i64 v6)))], [(8, some (.box T_api_Ring (inj false T_api_Ring b8))), (9, some (.row (.int .u8) true h9))], 10⟩⟩
theorem context_back_eq (a0 : D_api_Ring) (a1 : Int) : context_back a0 a1 = (
context_back_c1 a1 a0 []) := (FnI.call_eq (by kernel_rfl)).trans (by kernel_rfl)
theorem context_back_c1_eq (v6 : Int) (b8 : D_api_Ring) (h9 : List Int) : context_back_c1 v6 b8 h9 = (
if (decide (v6 > (0 : Int))) = true then
(ring_Back b8 v6).bind fun r1 =>
gd ((List.length (h9 ++ [r1.1])) * 1 ≤ 140737488355328) <|
context_back_c1 (IntKind.wrap .i64 (v6 - (1 : Int))) b8 (h9 ++ [r1.1])
else
some (h9)) := (FnI.sem_eq _).trans (by kernel_rfl)
noncomputable def context_back_S (acc : List AV → Bool) : Summ Tryz.prog GT := context_back_I.summ mixed acc false false
noncomputable def hashes_Start_I : FnI Tryz.prog GT := { f := 194, cuts := [], tab := [], fm := ⟨true, [.val (.int .u32) [], .val (.int .i64) []]⟩ }
noncomputable def hashes_Start (a0 : Int) : Option (Int × Int) := hashes_Start_I.call [(.int .i64 a0)] []
theorem hashes_Start_eq (a0 : Int) : hashes_Start a0 = (
if (decide (a0 < (0 : Int))) = true then
some ((0 : Int), (2 : Int))
else
if (decide (a0 ≥ (8 : Int))) = true then
some ((0 : Int), (2 : Int))
else
some ((IntKind.wrap .u32 ((2654435769 : Int) * (IntKind.wrap .u32 (IntKind.wrap .i64 (a0 + (1 : Int)))))), (0 : Int))) := (FnI.call_eq (by kernel_rfl)).trans (by kernel_rfl)
noncomputable def hashes_Start_S (acc : List AV → Bool) : Summ Tryz.prog GT := hashes_Start_I.summ mixed acc false false
noncomputable def hashes_steps_I : FnI Tryz.prog GT := { f := 195, cuts := [⟨(2, 3), [0, 7, 8, 9], false, false, []⟩], tab := [], fm := ⟨true, [.val (.int .u32) []]⟩ }
noncomputable def hashes_steps (a0 : Int) (a1 : List Int) : Option (Int) := hashes_steps_I.call [(.int .u32 a0), (.sl (.int .u8) false a1)] []
noncomputable def hashes_steps_c1 (v0 : Int) (v7 : List Int) (v8 : Int) (v9 : Int) : Option (Int) := hashes_steps_I.sem ⟨[.code (cIn (cIn (cSnd (cFst (cSnd (bodyOf Tryz.prog 195)))))), .inLoop (cIn (cIn (cSnd (cFst (cSnd (bodyOf Tryz.prog 195)))))), .inBlock 0, .code (cSnd (cSnd (bodyOf Tryz.prog 195)))], ⟨[(0, (.one (.int .u32 v0))), (7, (.one (.sl (.int .u8) false v7))), (8, (.one (.int .i64 v8))), (9, (.one (.int .i64 v9)))], [], 8⟩⟩
theorem hashes_steps_eq (a0 : Int) (a1 : List Int) : hashes_steps a0 a1 = (
hashes_steps_c1 a0 a1 (Int.ofNat (List.length a1)) (0 : Int)) := (FnI.call_eq (by kernel_rfl)).trans (by kernel_rfl)
theorem hashes_steps_c1_eq (v0 : Int) (v7 : List Int) (v8 : Int) (v9 : Int) : hashes_steps_c1 v0 v7 v8 v9 = (
if (decide (v9 < v8)) = true then
gd (0 ≤ v9) <|
gd (v9 < (Int.ofNat (List.length v7))) <|
gd (0 ≤ (15 : Int)) <|
hashes_steps_c1 (bitsXor .u32 (IntKind.wrap .u32 ((bitsXor .u32 v0 (IntKind.wrap .u32 (List.getD v7 (Int.toNat v9) (0 : Int)))) * (16777619 : Int))) (Int.fdiv (IntKind.wrap .u32 ((bitsXor .u32 v0 (IntKind.wrap .u32 (List.getD v7 (Int.toNat v9) (0 : Int)))) * (16777619 : Int))) (32768 : Int))) v7 v8 (IntKind.wrap .i64 (v9 + (1 : Int)))
else
some (v0)) := (FnI.sem_eq _).trans (by kernel_rfl)
noncomputable def hashes_steps_S (acc : List AV → Bool) : Summ Tryz.prog GT := hashes_steps_I.summ mixed acc false false
noncomputable def hashes_Of_I : FnI Tryz.prog GT := { f := 151, cuts := [], tab := [hashes_Start_S (fun _ => true), hashes_steps_S (fun _ => true)], fm := ⟨true, [.val (.int .u32) [], .val (.int .i64) []]⟩ }
noncomputable def hashes_Of (a0 : Int) (a1 : List Int) : Option (Int × Int) := hashes_Of_I.call [(.int .i64 a0), (.sl (.int .u8) false a1)] []
theorem hashes_Of_eq (a0 : Int) (a1 : List Int) : hashes_Of a0 a1 = (
(hashes_Start a0).bind fun r1 =>
if (r1.2 != (0 : Int)) = true then
some ((0 : Int), r1.2)
else
if (decide ((Int.ofNat (List.length a1)) > (20000 : Int))) = true then
some ((0 : Int), (4 : Int))
else
(hashes_steps r1.1 a1).bind fun r2 =>
some (r2, (0 : Int))) := (FnI.call_eq (by kernel_rfl)).trans (by kernel_rfl)
noncomputable def hashes_Of_S (acc : List AV → Bool) : Summ Tryz.prog GT := hashes_Of_I.summ mixed acc false false
noncomputable def context_small_I : FnI Tryz.prog GT := { f := 196, cuts := [], tab := [], fm := ⟨true, [.val (.int .u8) []]⟩ }
noncomputable def context_small (a0 : Int) : Option (Int) := context_small_I.call [(.int .u8 a0)] []
theorem context_small_eq (a0 : Int) : context_small a0 = (
if (decide (a0 ≥ (97 : Int))) = true then
if (decide (a0 ≤ (122 : Int))) = true then
some (a0)
else
if (decide (a0 ≥ (65 : Int))) = true then
if (decide (a0 ≤ (90 : Int))) = true then
some (IntKind.wrap .u8 (a0 + (32 : Int)))
else
some (0 : Int)
else
some (0 : Int)
else
if (decide (a0 ≥ (65 : Int))) = true then
if (decide (a0 ≤ (90 : Int))) = true then
some (IntKind.wrap .u8 (a0 + (32 : Int)))
else
some (0 : Int)
else
some (0 : Int)) := (FnI.call_eq (by kernel_rfl)).trans (by kernel_rfl)
noncomputable def context_small_S (acc : List AV → Bool) : Summ Tryz.prog GT := context_small_I.summ mixed acc false false
noncomputable def context_word_I : FnI Tryz.prog GT := { f := 152, cuts := [⟨(3, 3), [3, 4], false, false, []⟩, ⟨(7, 3), [5, 27, 28, 29], false, false, []⟩], tab := [context_back_S (fun _ => true), context_small_S (fun _ => true)], fm := ⟨true, [.val (.slice (.int .u8)) [.nw]]⟩ }
noncomputable def context_word (a0 : D_api_Ring) : Option (List Int) := context_word_I.call [(.agg T_api_Ring (inj false T_api_Ring a0))] []
noncomputable def context_word_c1 (v4 : Int) (h8 : List Int) : Option (List Int) := context_word_I.sem ⟨[.code (cIn (cIn (cFst (cSnd (cSnd (cSnd (bodyOf Tryz.prog 152))))))), .inLoop (cIn (cIn (cFst (cSnd (cSnd (cSnd (bodyOf Tryz.prog 152))))))), .inBlock 0, .code (cSnd (cSnd (cSnd (cSnd (bodyOf Tryz.prog 152)))))], ⟨[(3, (.one (.ref (.int .u8) 8 0 (List.length h8) true))), (4, (.one (.int .i64 v4)))], [(8, some (.row (.int .u8) true h8))], 9⟩⟩
noncomputable def context_word_c2 (v27o : Nat) (v27n : Nat) (v28 : Int) (v29 : Int) (h8 : List Int) (h9 : List Int) : Option (List Int) := context_word_I.sem ⟨[.code (cIn (cIn (cSnd (cFst (cSnd (cSnd (cSnd (cSnd (cSnd (bodyOf Tryz.prog 152)))))))))), .inLoop (cIn (cIn (cSnd (cFst (cSnd (cSnd (cSnd (cSnd (cSnd (bodyOf Tryz.prog 152)))))))))), .inBlock 2, .code (cSnd (cSnd (cSnd (cSnd (cSnd (cSnd (bodyOf Tryz.prog 152)))))))], ⟨[(5, (.one (.ref (.int .u8) 8 0 (List.length h8) true))), (27, (.one (.ref (.int .u8) 9 v27o v27n false))), (28, (.one (.int .i64 v28))), (29, (.one (.int .i64 v29)))], [(8, some (.row (.int .u8) true h8)), (9, some (.row (.int .u8) true h9))], 10⟩⟩
theorem context_word_eq (a0 : D_api_Ring) : context_word a0 = (
(context_back a0 (16 : Int)).bind fun r1 =>
context_word_c1 (Int.ofNat (List.length r1)) r1) := (FnI.call_eq (by kernel_rfl)).trans (by kernel_rfl)
theorem context_word_c1_eq (v4 : Int) (h8 : List Int) : context_word_c1 v4 h8 = (
if (decide (v4 > (0 : Int))) = true then
gd (0 ≤ (IntKind.wrap .i64 (v4 - (1 : Int)))) <|
gd ((IntKind.wrap .i64 (v4 - (1 : Int))) < (Int.ofNat (List.length h8))) <|
(context_small (List.getD h8 (0 + (Int.toNat (IntKind.wrap .i64 (v4 - (1 : Int))))) (0 : Int))).bind fun r2 =>
if (r2 != (0 : Int)) = true then
context_word_c1 (IntKind.wrap .i64 (v4 - (1 : Int))) h8
else
gd (0 ≤ v4) <|
gd (v4 ≤ (Int.ofNat (List.length h8))) <|
context_word_c2 (0 + (Int.toNat v4)) ((List.length h8) - (Int.toNat v4)) (Int.ofNat ((List.length h8) - (Int.toNat v4))) (0 : Int) [] h8
else
gd (0 ≤ v4) <|
gd (v4 ≤ (Int.ofNat (List.length h8))) <|
context_word_c2 (0 + (Int.toNat v4)) ((List.length h8) - (Int.toNat v4)) (Int.ofNat ((List.length h8) - (Int.toNat v4))) (0 : Int) [] h8) := (FnI.sem_eq _).trans (by kernel_rfl)
theorem context_word_c2_eq (v27o : Nat) (v27n : Nat) (v28 : Int) (v29 : Int) (h8 : List Int) (h9 : List Int) : context_word_c2 v27o v27n v28 v29 h8 h9 = (
if (decide (v29 < v28)) = true then
gd (0 ≤ v29) <|
gd (v29 < (Int.ofNat v27n)) <|
(context_small (List.getD h9 (v27o + (Int.toNat v29)) (0 : Int))).bind fun r3 =>
gd ((List.length (h8 ++ [r3])) * 1 ≤ 140737488355328) <|
context_word_c2 v27o v27n v28 (IntKind.wrap .i64 (v29 + (1 : Int))) (h8 ++ [r3]) h9
else
some (h8)) := (FnI.sem_eq _).trans (by kernel_rfl)
noncomputable def context_word_S (acc : List AV → Bool) : Summ Tryz.prog GT := context_word_I.summ mixed acc false false
noncomputable def context_Of_I : FnI Tryz.prog GT := { f := 120, cuts := [⟨(7, 3), [1, 2, 4, 6, 17, 18], false, false, []⟩], tab := [ring_Check_S (fun _ => true), context_back_S (fun _ => true), hashes_Of_S (fun _ => true), context_word_S (fun _ => true)], fm := ⟨true, [.val (.arr 6 (.int .u32)) [], .val (.int .i64) []]⟩ }
noncomputable def context_Of (a0 : D_api_Ring) : Option ((List Int) × Int) := context_Of_I.call [(.agg T_api_Ring (inj false T_api_Ring a0))] []
noncomputable def context_Of_c1 (v17 : (List Int)) (v18 : Int) (b8 : D_api_Ring) (b9 : (List Int)) (b10 : (List Int)) (h11 : List Int) : Option ((List Int) × Int) := context_Of_I.sem ⟨[.code (cIn (cIn (cSnd (cFst (cSnd (cSnd (cSnd (cSnd (bodyOf Tryz.prog 120))))))))), .inLoop (cIn (cIn (cSnd (cFst (cSnd (cSnd (cSnd (cSnd (bodyOf Tryz.prog 120))))))))), .inBlock 0, .code (cSnd (cSnd (cSnd (cSnd (cSnd (bodyOf Tryz.prog 120))))))], ⟨[(1, (.one (.ptr T_api_Ring 8 []))), (2, (.one (.ptr (.arr 6 (.int .u32)) 9 []))), (4, (.one (.ptr (.arr 6 (.int .u32)) 10 []))), (6, (.one (.ref (.int .u8) 11 0 (List.length h11) true))), (17, (.one (.agg (.arr 5 (.int .i64)) v17))), (18, (.one (.int .i64 v18)))], [(8, some (.box T_api_Ring (inj false T_api_Ring b8))), (9, some (.box (.arr 6 (.int .u32)) b9)), (10, some (.box (.arr 6 (.int .u32)) b10)), (11, some (.row (.int .u8) true h11))], 12⟩⟩
theorem context_Of_eq (a0 : D_api_Ring) : context_Of a0 = (
(ring_Check a0).bind fun r1 =>
if (r1 != (0 : Int)) = true then
some ((List.replicate 6 (0 : Int)), r1)
else
(context_back a0 (6 : Int)).bind fun r2 =>
context_Of_c1 (List.set (List.set (List.set (List.set (List.set (List.replicate 5 (0 : Int)) 0 (1 : Int)) 1 (2 : Int)) 2 (3 : Int)) 3 (4 : Int)) 4 (6 : Int)) (0 : Int) a0 (List.replicate 6 (0 : Int)) (List.replicate 6 (0 : Int)) r2) := (FnI.call_eq (by kernel_rfl)).trans (by kernel_rfl)
theorem context_Of_c1_eq (v17 : (List Int)) (v18 : Int) (b8 : D_api_Ring) (b9 : (List Int)) (b10 : (List Int)) (h11 : List Int) : context_Of_c1 v17 v18 b8 b9 b10 h11 = (
if (decide (v18 < (5 : Int))) = true then
gd (0 ≤ v18) <|
gd (v18 < (5 : Int)) <|
gd (0 ≤ (IntKind.wrap .i64 ((6 : Int) - (List.getD v17 (Int.toNat v18) (0 : Int))))) <|
gd ((IntKind.wrap .i64 ((6 : Int) - (List.getD v17 (Int.toNat v18) (0 : Int)))) ≤ (Int.ofNat (List.length h11))) <|
(hashes_Of v18 (List.take ((List.length h11) - (Int.toNat (IntKind.wrap .i64 ((6 : Int) - (List.getD v17 (Int.toNat v18) (0 : Int)))))) (List.drop (0 + (Int.toNat (IntKind.wrap .i64 ((6 : Int) - (List.getD v17 (Int.toNat v18) (0 : Int)))))) h11))).bind fun r3 =>
gd (0 ≤ v18) <|
gd (v18 < (6 : Int)) <|
context_Of_c1 v17 (IntKind.wrap .i64 (v18 + (1 : Int))) b8 b9 (List.set b10 (Int.toNat v18) r3.1) h11
else
(context_word b8).bind fun r4 =>
(hashes_Of (5 : Int) r4).bind fun r5 =>
gd (0 ≤ (5 : Int)) <|
gd ((5 : Int) < (6 : Int)) <|
some ((List.set b10 5 r5.1), (0 : Int))) := (FnI.sem_eq _).trans (by kernel_rfl)
noncomputable def context_Of_S (acc : List AV → Bool) : Summ Tryz.prog GT := context_Of_I.summ mixed acc false false
noncomputable def slices_Max_uint8_uint8_I : FnI Tryz.prog GT := { f := 201, cuts := [⟨(5, 3), [0, 3, 4], false, false, []⟩], tab := [], fm := ⟨true, [.val (.int .u8) []]⟩ }
noncomputable def slices_Max_uint8_uint8 (a0 : List Int) : Option (Int) := slices_Max_uint8_uint8_I.call [(.sl (.int .u8) false a0)] []
noncomputable def slices_Max_uint8_uint8_c1 (v0 : List Int) (v3 : Int) (v4 : Int) : Option (Int) := slices_Max_uint8_uint8_I.sem ⟨[.code (cIn (cIn (cSnd (cFst (cSnd (cSnd (cSnd (bodyOf Tryz.prog 201)))))))), .inLoop (cIn (cIn (cSnd (cFst (cSnd (cSnd (cSnd (bodyOf Tryz.prog 201)))))))), .inBlock 0, .code (cSnd (cSnd (cSnd (cSnd (bodyOf Tryz.prog 201)))))], ⟨[(0, (.one (.sl (.int .u8) false v0))), (3, (.one (.int .u8 v3))), (4, (.one (.int .i64 v4)))], [], 8⟩⟩
theorem slices_Max_uint8_uint8_eq (a0 : List Int) : slices_Max_uint8_uint8 a0 = (
if (decide ((Int.ofNat (List.length a0)) < (1 : Int))) = true then
none
else
gd (0 ≤ (0 : Int)) <|
gd ((0 : Int) < (Int.ofNat (List.length a0))) <|
slices_Max_uint8_uint8_c1 a0 (List.getD a0 0 (0 : Int)) (1 : Int)) := (FnI.call_eq (by kernel_rfl)).trans (by kernel_rfl)
theorem slices_Max_uint8_uint8_c1_eq (v0 : List Int) (v3 : Int) (v4 : Int) : slices_Max_uint8_uint8_c1 v0 v3 v4 = (
if (decide (v4 < (Int.ofNat (List.length v0)))) = true then
gd (0 ≤ v4) <|
gd (v4 < (Int.ofNat (List.length v0))) <|
slices_Max_uint8_uint8_c1 v0 (if (List.getD v0 (Int.toNat v4) (0 : Int)) > v3 then (List.getD v0 (Int.toNat v4) (0 : Int)) else v3) (IntKind.wrap .i64 (v4 + (1 : Int)))
else
some (v3)) := (FnI.sem_eq _).trans (by kernel_rfl)
noncomputable def slices_Max_uint8_uint8_S (acc : List AV → Bool) : Summ Tryz.prog GT := slices_Max_uint8_uint8_I.summ mixed acc false false
noncomputable def slots_Check_I : FnI Tryz.prog GT := { f := 155, cuts := [⟨(4, 3), [23, 24, 25], false, false, []⟩], tab := [slots_size_S (fun _ => true), slices_Max_uint8_uint8_S (fun _ => true)], fm := ⟨true, [.val (.int .i64) []]⟩ }
noncomputable def slots_Check (a0 : D_api_Table) : Option (Int) := slots_Check_I.call [(.agg T_api_Table (inj false T_api_Table a0))] []
noncomputable def slots_Check_c1 (v23 : List D_api_Slot) (v24 : Int) (v25 : Int) : Option (Int) := slots_Check_I.sem ⟨[.code (cIn (cIn (cSnd (cFst (cSnd (cSnd (bodyOf Tryz.prog 155))))))), .inLoop (cIn (cIn (cSnd (cFst (cSnd (cSnd (bodyOf Tryz.prog 155))))))), .inBlock 0, .code (cSnd (cSnd (cSnd (bodyOf Tryz.prog 155))))], ⟨[(23, (.one (.sl T_api_Slot false v23))), (24, (.one (.int .i64 v24))), (25, (.one (.int .i64 v25)))], [], 8⟩⟩
theorem slots_Check_eq (a0 : D_api_Table) : slots_Check a0 = (
if (decide (a0.1 < (0 : Int))) = true then
some (8 : Int)
else
if (decide (a0.1 > (7 : Int))) = true then
some (8 : Int)
else
(slots_size a0.1).bind fun r1 =>
if ((Int.ofNat (List.length a0.2.1)) != r1) = true then
some (8 : Int)
else
slots_Check_c1 a0.2.1 (Int.ofNat (List.length a0.2.1)) (0 : Int)) := (FnI.call_eq (by kernel_rfl)).trans (by kernel_rfl)
theorem slots_Check_c1_eq (v23 : List D_api_Slot) (v24 : Int) (v25 : Int) : slots_Check_c1 v23 v24 v25 = (
if (decide (v25 < v24)) = true then
gd (0 ≤ v25) <|
gd (v25 < (Int.ofNat (List.length v23))) <|
(slices_Max_uint8_uint8 (List.take 15 (List.drop 0 (List.getD v23 (Int.toNat v25) (pzero T_api_Slot)).2.1))).bind fun r2 =>
if (decide (r2 ≥ (193 : Int))) = true then
some (8 : Int)
else
slots_Check_c1 v23 v24 (IntKind.wrap .i64 (v25 + (1 : Int)))
else
some (0 : Int)) := (FnI.sem_eq _).trans (by kernel_rfl)
noncomputable def slots_Check_S (acc : List AV → Bool) : Summ Tryz.prog GT := slots_Check_I.summ mixed acc false false
noncomputable def hashes_Place_I : FnI Tryz.prog GT := { f := 173, cuts := [], tab := [], fm := ⟨true, [.val (.int .i64) [], .val (.int .i64) []]⟩ }
noncomputable def hashes_Place (a0 : Int) (a1 : Int) : Option (Int × Int) := hashes_Place_I.call [(.int .u32 a0), (.int .i64 a1)] []
theorem hashes_Place_eq (a0 : Int) (a1 : Int) : hashes_Place a0 a1 = (
if (decide (a1 < (1 : Int))) = true then
some ((0 : Int), (2 : Int))
else
if (decide (a1 > (1048576 : Int))) = true then
some ((0 : Int), (2 : Int))
else
if ((bitsAnd .i64 a1 (IntKind.wrap .i64 (a1 - (1 : Int)))) != (0 : Int)) = true then
some ((0 : Int), (2 : Int))
else
some ((bitsAnd .i64 (IntKind.wrap .i64 a0) (IntKind.wrap .i64 (a1 - (1 : Int)))), (0 : Int))) := (FnI.call_eq (by kernel_rfl)).trans (by kernel_rfl)
noncomputable def hashes_Place_S (acc : List AV → Bool) : Summ Tryz.prog GT := hashes_Place_I.summ mixed acc false false
noncomputable def hashes_Check_I : FnI Tryz.prog GT := { f := 197, cuts := [], tab := [], fm := ⟨true, [.val (.int .u8) []]⟩ }
noncomputable def hashes_Check (a0 : Int) : Option (Int) := hashes_Check_I.call [(.int .u32 a0)] []
theorem hashes_Check_eq (a0 : Int) : hashes_Check a0 = (
gd (0 ≤ (24 : Int)) <|
some (IntKind.wrap .u8 (Int.fdiv a0 (16777216 : Int)))) := (FnI.call_eq (by kernel_rfl)).trans (by kernel_rfl)
noncomputable def hashes_Check_S (acc : List AV → Bool) : Summ Tryz.prog GT := hashes_Check_I.summ mixed acc false false
noncomputable def slices_Clone_api_Slot_api_Slot_I : FnI Tryz.prog GT := { f := 180, cuts := [], tab := [], fm := ⟨true, [.val (.slice T_api_Slot) [.nw]]⟩ }
noncomputable def slices_Clone_api_Slot_api_Slot (a0 : List D_api_Slot) : Option (List D_api_Slot) := slices_Clone_api_Slot_api_Slot_I.call [(.sl T_api_Slot false a0)] []
theorem slices_Clone_api_Slot_api_Slot_eq (a0 : List D_api_Slot) : slices_Clone_api_Slot_api_Slot a0 = (
anyv (fun (r1 : Bool) => r1 = true → a0 = []) fun (r1 : Bool) =>
if r1 = true then
some ([])
else
gd ((List.length ([] ++ a0)) * 16 ≤ 140737488355328) <|
some ([] ++ a0)) := (FnI.call_eq (by kernel_rfl)).trans (by kernel_rfl)
noncomputable def slices_Clone_api_Slot_api_Slot_S (acc : List AV → Bool) : Summ Tryz.prog GT := slices_Clone_api_Slot_api_Slot_I.summ mixed acc false false
noncomputable def states_Size_I : FnI Tryz.prog GT := { f := 249, cuts := [], tab := [], fm := ⟨true, [.val (.int .i64) []]⟩ }
noncomputable def states_Size : Option (Int) := states_Size_I.call [] []
theorem states_Size_eq : states_Size = (
some (193 : Int)) := (FnI.call_eq (by kernel_rfl)).trans (by kernel_rfl)
noncomputable def states_Size_S (acc : List AV → Bool) : Summ Tryz.prog GT := states_Size_I.summ mixed acc false false
noncomputable def states_Count_I : FnI Tryz.prog GT := { f := 242, cuts := [], tab := [states_Size_S (fun _ => true)], fm := ⟨true, [.val T_api_Count [], .val (.int .i64) []]⟩ }
noncomputable def states_Count (a0 : Int) : Option (D_api_Count × Int) := states_Count_I.call [(.int .u8 a0)] []
theorem states_Count_eq (a0 : Int) : states_Count a0 = (
(states_Size).bind fun r1 =>
if (decide ((IntKind.wrap .i64 a0) ≥ r1)) = true then
some (((0 : Int), ((0 : Int), ((0 : Int), ()))), (2 : Int))
else
if (a0 == (0 : Int)) = true then
some (((0 : Int), ((0 : Int), ((0 : Int), ()))), (0 : Int))
else
gd ((8 : Int) ≠ 0) <|
gd ((12 : Int) ≠ 0) <|
gd ((8 : Int) ≠ 0) <|
gd ((12 : Int) ≠ 0) <|
gd ((8 : Int) ≠ 0) <|
gd (0 ≤ (IntKind.wrap .i32 (Int.tdiv (IntKind.wrap .i32 (Int.tdiv (IntKind.wrap .i32 (IntKind.wrap .u8 (a0 - (1 : Int)))) (8 : Int))) (12 : Int)))) <|
gd ((IntKind.wrap .i32 (Int.tdiv (IntKind.wrap .i32 (Int.tdiv (IntKind.wrap .i32 (IntKind.wrap .u8 (a0 - (1 : Int)))) (8 : Int))) (12 : Int))) < (2 : Int)) <|
gd (0 ≤ (IntKind.wrap .i32 ((1 : Int) - (IntKind.wrap .i32 (Int.tdiv (IntKind.wrap .i32 (Int.tdiv (IntKind.wrap .i32 (IntKind.wrap .u8 (a0 - (1 : Int)))) (8 : Int))) (12 : Int)))))) <|
gd ((IntKind.wrap .i32 ((1 : Int) - (IntKind.wrap .i32 (Int.tdiv (IntKind.wrap .i32 (Int.tdiv (IntKind.wrap .i32 (IntKind.wrap .u8 (a0 - (1 : Int)))) (8 : Int))) (12 : Int))))) < (2 : Int)) <|
gd (0 ≤ (0 : Int)) <|
gd ((0 : Int) < (2 : Int)) <|
gd (0 ≤ (1 : Int)) <|
gd ((1 : Int) < (2 : Int)) <|
some (((List.getD (List.set (List.set (List.replicate 2 (0 : Int)) (Int.toNat (IntKind.wrap .i32 (Int.tdiv (IntKind.wrap .i32 (Int.tdiv (IntKind.wrap .i32 (IntKind.wrap .u8 (a0 - (1 : Int)))) (8 : Int))) (12 : Int)))) (IntKind.wrap .i32 ((Int.tmod (IntKind.wrap .i32 (Int.tdiv (IntKind.wrap .i32 (IntKind.wrap .u8 (a0 - (1 : Int)))) (8 : Int))) (12 : Int)) + (1 : Int)))) (Int.toNat (IntKind.wrap .i32 ((1 : Int) - (IntKind.wrap .i32 (Int.tdiv (IntKind.wrap .i32 (Int.tdiv (IntKind.wrap .i32 (IntKind.wrap .u8 (a0 - (1 : Int)))) (8 : Int))) (12 : Int)))))) (Int.tmod (IntKind.wrap .i32 (IntKind.wrap .u8 (a0 - (1 : Int)))) (8 : Int))) 0 (0 : Int)), ((List.getD (List.set (List.set (List.replicate 2 (0 : Int)) (Int.toNat (IntKind.wrap .i32 (Int.tdiv (IntKind.wrap .i32 (Int.tdiv (IntKind.wrap .i32 (IntKind.wrap .u8 (a0 - (1 : Int)))) (8 : Int))) (12 : Int)))) (IntKind.wrap .i32 ((Int.tmod (IntKind.wrap .i32 (Int.tdiv (IntKind.wrap .i32 (IntKind.wrap .u8 (a0 - (1 : Int)))) (8 : Int))) (12 : Int)) + (1 : Int)))) (Int.toNat (IntKind.wrap .i32 ((1 : Int) - (IntKind.wrap .i32 (Int.tdiv (IntKind.wrap .i32 (Int.tdiv (IntKind.wrap .i32 (IntKind.wrap .u8 (a0 - (1 : Int)))) (8 : Int))) (12 : Int)))))) (Int.tmod (IntKind.wrap .i32 (IntKind.wrap .u8 (a0 - (1 : Int)))) (8 : Int))) 1 (0 : Int)), ((IntKind.wrap .u8 (IntKind.wrap .i32 (Int.tdiv (IntKind.wrap .i32 (Int.tdiv (IntKind.wrap .i32 (IntKind.wrap .u8 (a0 - (1 : Int)))) (8 : Int))) (12 : Int)))), ()))), (0 : Int))) := (FnI.call_eq (by kernel_rfl)).trans (by kernel_rfl)
noncomputable def states_Count_S (acc : List AV → Bool) : Summ Tryz.prog GT := states_Count_I.summ mixed acc false false
noncomputable def states_Total_I : FnI Tryz.prog GT := { f := 233, cuts := [], tab := [states_Count_S (fun _ => true)], fm := ⟨true, [.val (.int .i32) [], .val (.int .i64) []]⟩ }
noncomputable def states_Total (a0 : Int) : Option (Int × Int) := states_Total_I.call [(.int .u8 a0)] []
theorem states_Total_eq (a0 : Int) : states_Total a0 = (
(states_Count a0).bind fun r1 =>
some ((IntKind.wrap .i32 (r1.1.1 + r1.1.2.1)), r1.2)) := (FnI.call_eq (by kernel_rfl)).trans (by kernel_rfl)
noncomputable def states_Total_S (acc : List AV → Bool) : Summ Tryz.prog GT := states_Total_I.summ mixed acc false false
noncomputable def slots_priority_I : FnI Tryz.prog GT := { f := 198, cuts := [], tab := [states_Total_S (fun _ => true)], fm := ⟨true, [.val (.int .i32) []]⟩ }
noncomputable def slots_priority (a0 : D_api_Slot) : Option (Int) := slots_priority_I.call [(.agg T_api_Slot (inj false T_api_Slot a0))] []
theorem slots_priority_eq (a0 : D_api_Slot) : slots_priority a0 = (
gd (0 ≤ (0 : Int)) <|
gd ((0 : Int) < (15 : Int)) <|
(states_Total (List.getD a0.2.1 0 (0 : Int))).bind fun r1 =>
some (r1.1)) := (FnI.call_eq (by kernel_rfl)).trans (by kernel_rfl)
noncomputable def slots_priority_S (acc : List AV → Bool) : Summ Tryz.prog GT := slots_priority_I.summ mixed acc false false
noncomputable def slots_Find_I : FnI Tryz.prog GT := { f := 153, cuts := [], tab := [slots_Check_S (fun _ => true), hashes_Place_S (fun _ => true), hashes_Check_S (fun _ => true), slices_Clone_api_Slot_api_Slot_S (fun _ => true), slots_priority_S (fun _ => true)], fm := ⟨true, [.val T_api_Table [], .val (.int .i64) [], .val (.int .i64) []]⟩ }
noncomputable def slots_Find (a0 : D_api_Table) (a1 : Int) : Option (D_api_Table × Int × Int) := slots_Find_I.call [(.agg T_api_Table (inj false T_api_Table a0)), (.int .u32 a1)] []
theorem slots_Find_eq (a0 : D_api_Table) (a1 : Int) : slots_Find a0 a1 = (
(slots_Check a0).bind fun r1 =>
if (r1 != (0 : Int)) = true then
some (((0 : Int), ([], ())), ((0 : Int), r1))
else
(hashes_Place a1 (Int.ofNat (List.length a0.2.1))).bind fun r2 =>
if (r2.2 != (0 : Int)) = true then
some (((0 : Int), ([], ())), ((0 : Int), r2.2))
else
(hashes_Check a1).bind fun r3 =>
(slices_Clone_api_Slot_api_Slot a0.2.1).bind fun r4 =>
gd (0 ≤ r2.1) <|
gd (r2.1 < (Int.ofNat (List.length a0.2.1))) <|
if ((List.getD a0.2.1 (Int.toNat r2.1) (pzero T_api_Slot)).1 == r3) = true then
some ((a0.1, (r4, ())), (r2.1, (0 : Int)))
else
gd (0 ≤ (bitsXor .i64 r2.1 (1 : Int))) <|
gd ((bitsXor .i64 r2.1 (1 : Int)) < (Int.ofNat (List.length a0.2.1))) <|
if ((List.getD a0.2.1 (Int.toNat (bitsXor .i64 r2.1 (1 : Int))) (pzero T_api_Slot)).1 == r3) = true then
some ((a0.1, (r4, ())), ((bitsXor .i64 r2.1 (1 : Int)), (0 : Int)))
else
gd (0 ≤ (bitsXor .i64 r2.1 (1 : Int))) <|
gd ((bitsXor .i64 r2.1 (1 : Int)) < (Int.ofNat (List.length a0.2.1))) <|
(slots_priority (List.getD a0.2.1 (Int.toNat (bitsXor .i64 r2.1 (1 : Int))) (pzero T_api_Slot))).bind fun r5 =>
gd (0 ≤ r2.1) <|
gd (r2.1 < (Int.ofNat (List.length a0.2.1))) <|
(slots_priority (List.getD a0.2.1 (Int.toNat r2.1) (pzero T_api_Slot))).bind fun r6 =>
if (decide (r5 < r6)) = true then
gd (0 ≤ (bitsXor .i64 r2.1 (1 : Int))) <|
gd ((bitsXor .i64 r2.1 (1 : Int)) < (Int.ofNat (List.length r4))) <|
some ((a0.1, ((List.set r4 (0 + (Int.toNat (bitsXor .i64 r2.1 (1 : Int)))) (r3, ((List.replicate 15 (0 : Int)), ()))), ())), ((bitsXor .i64 r2.1 (1 : Int)), (0 : Int)))
else
gd (0 ≤ r2.1) <|
gd (r2.1 < (Int.ofNat (List.length r4))) <|
some ((a0.1, ((List.set r4 (0 + (Int.toNat r2.1)) (r3, ((List.replicate 15 (0 : Int)), ()))), ())), (r2.1, (0 : Int)))) := (FnI.call_eq (by kernel_rfl)).trans (by kernel_rfl)
noncomputable def slots_Find_S (acc : List AV → Bool) : Summ Tryz.prog GT := slots_Find_I.summ mixed acc false false
noncomputable def predict_find_v2_I : FnI Tryz.prog GT := { f := 121, cuts := [⟨(2, 2), [0, 6, 7], false, false, []⟩], tab := [slots_Find_S (fun _ => true)], fm := ⟨false, [.box 0 T_api_Predictor [.pu, (.kp 1), (.kp 2), .pu, .pu, .pu, .pu], .row 1 T_api_Table, .row 2 T_api_Adapt]⟩ }
noncomputable def predict_find_v2 (a1 : (List Int)) (b0a : Int) (b0ba : D_api_Ring) (b0bbbb : (D_api_Mixer × (D_api_Final × (D_api_Finder × (D_api_Settings × (D_api_Walk × ((List Int) × ((List Int) × Unit)))))))) (h1 : List D_api_Table) (h2 : List D_api_Adapt) : Option (D_api_Predictor × List D_api_Table × List D_api_Adapt) := predict_find_v2_I.call [(.ptr T_api_Predictor 0 []), (.agg (.arr 6 (.int .u32)) a1)] [(0, (.box T_api_Predictor (b0a, ((inj false T_api_Ring b0ba), ((SV.ref 1 0 (List.length h1) true), ((SV.ref 2 0 (List.length h2) true), (inj false (.pair T_api_Mixer (.pair T_api_Final (.pair T_api_Finder (.pair T_api_Settings (.pair T_api_Walk (.pair (.arr 6 (.int .u32)) (.pair (.arr 6 (.int .i64)) .unit))))))) b0bbbb))))))), (1, (.row T_api_Table false h1)), (2, (.row T_api_Adapt false h2))]
noncomputable def predict_find_v2_c1 (v6 : (List Int)) (v7 : Int) (b0a : Int) (b0ba : D_api_Ring) (b0bbbb : (D_api_Mixer × (D_api_Final × (D_api_Finder × (D_api_Settings × (D_api_Walk × ((List Int) × ((List Int) × Unit)))))))) (h1 : List D_api_Table) (h2 : List D_api_Adapt) : Option (D_api_Predictor × List D_api_Table × List D_api_Adapt) := predict_find_v2_I.sem ⟨[.code (cIn (cIn (cSnd (cSnd (bodyOf Tryz.prog 121))))), .inLoop (cIn (cIn (cSnd (cSnd (bodyOf Tryz.prog 121))))), .inBlock 0], ⟨[(0, (.one (.ptr T_api_Predictor 0 []))), (6, (.one (.agg (.arr 6 (.int .u32)) v6))), (7, (.one (.int .i64 v7)))], [(0, some (.box T_api_Predictor (b0a, ((inj false T_api_Ring b0ba), ((SV.ref 1 0 (List.length h1) true), ((SV.ref 2 0 (List.length h2) true), (inj false (.pair T_api_Mixer (.pair T_api_Final (.pair T_api_Finder (.pair T_api_Settings (.pair T_api_Walk (.pair (.arr 6 (.int .u32)) (.pair (.arr 6 (.int .i64)) .unit))))))) b0bbbb))))))), (1, some (.row T_api_Table false h1)), (2, some (.row T_api_Adapt false h2))], 11⟩⟩
theorem predict_find_v2_eq (a1 : (List Int)) (b0a : Int) (b0ba : D_api_Ring) (b0bbbb : (D_api_Mixer × (D_api_Final × (D_api_Finder × (D_api_Settings × (D_api_Walk × ((List Int) × ((List Int) × Unit)))))))) (h1 : List D_api_Table) (h2 : List D_api_Adapt) : predict_find_v2 a1 b0a b0ba b0bbbb h1 h2 = (
predict_find_v2_c1 a1 (0 : Int) b0a b0ba b0bbbb h1 h2) := (FnI.call_eq (by kernel_rfl)).trans (by kernel_rfl)
theorem predict_find_v2_c1_eq (v6 : (List Int)) (v7 : Int) (b0a : Int) (b0ba : D_api_Ring) (b0bbbb : (D_api_Mixer × (D_api_Final × (D_api_Finder × (D_api_Settings × (D_api_Walk × ((List Int) × ((List Int) × Unit)))))))) (h1 : List D_api_Table) (h2 : List D_api_Adapt) : predict_find_v2_c1 v6 v7 b0a b0ba b0bbbb h1 h2 = (
if (decide (v7 < (6 : Int))) = true then
gd (0 ≤ v7) <|
gd (v7 < (6 : Int)) <|
gd (0 ≤ v7) <|
gd (v7 < (Int.ofNat (List.length h1))) <|
(slots_Find (List.getD h1 (0 + (Int.toNat v7)) (pzero T_api_Table)) (List.getD v6 (Int.toNat v7) (0 : Int))).bind fun r1 =>
gd (0 ≤ v7) <|
gd (v7 < (Int.ofNat (List.length h1))) <|
gd (0 ≤ v7) <|
gd (v7 < (6 : Int)) <|
predict_find_v2_c1 v6 (IntKind.wrap .i64 (v7 + (1 : Int))) b0a b0ba (b0bbbb.1, (b0bbbb.2.1, (b0bbbb.2.2.1, (b0bbbb.2.2.2.1, (b0bbbb.2.2.2.2.1, (b0bbbb.2.2.2.2.2.1, ((List.set b0bbbb.2.2.2.2.2.2.1 (Int.toNat v7) r1.2.1), b0bbbb.2.2.2.2.2.2.2))))))) (List.set h1 (0 + (Int.toNat v7)) r1.1) h2
else
some ((b0a, (b0ba, (h1, (h2, b0bbbb)))), (h1, h2))) := (FnI.sem_eq _).trans (by kernel_rfl)
noncomputable def predict_find_v2_S (acc : List AV → Bool) : Summ Tryz.prog GT := predict_find_v2_I.summ mixed acc true false
noncomputable def predict_New_I : FnI Tryz.prog GT := { f := 94, cuts := [⟨(8, 3), [0, 2, 4, 6, 36], false, false, []⟩], tab := [ring_New_S (fun _ => true), final_New_S (fun _ => true), match_New_S (fun _ => true), nibble_New_S (fun _ => true), finder_New_S (fun _ => true), mixer_New_S (fun _ => true), slots_New_S (fun _ => true), adapt_New_S (fun _ => true), context_Of_S (fun _ => true), (predict_find_v2_S (fun _ => true)).dropping], fm := ⟨false, [.val T_api_Predictor [], .val (.int .i64) []]⟩ }
noncomputable def predict_New (a0 : Int) : Option (D_api_Predictor × Int) := predict_New_I.call [(.int .i64 a0)] []
noncomputable def predict_New_c1 (v0 : Int) (v36 : Int) (b8a : Int) (b8baa : Int) (b8babb : D_api_Walk) (b8bbbbab : Unit) (b8bbbbbaab : Unit) (b8bbbbbabab : Unit) (b8bbbbbabb : Unit) (b8bbbbbbaa : Int) (b8bbbbbbabb : Unit) (b8bbbbbbb : (D_api_Settings × (D_api_Walk × ((List Int) × ((List Int) × Unit))))) (b9 : D_api_Ring) (b10a : Int) (b10ba : D_api_Ring) (b10bbbb : (D_api_Mixer × (D_api_Final × (D_api_Finder × (D_api_Settings × (D_api_Walk × ((List Int) × ((List Int) × Unit)))))))) (h11 : List Int) (h12 : List D_api_Table) (h13 : List D_api_Adapt) (h14 : List (List Int)) (h15 : List (List Int)) (h16 : List (List Int)) (h17 : List Int) (h18 : List D_api_Table) (h19 : List D_api_Adapt) : Option (D_api_Predictor × Int) := predict_New_I.sem ⟨[.code (cIn (cIn (cSnd (cFst (cSnd (cSnd (cSnd (cSnd (cSnd (cSnd (bodyOf Tryz.prog 94))))))))))), .inLoop (cIn (cIn (cSnd (cFst (cSnd (cSnd (cSnd (cSnd (cSnd (cSnd (bodyOf Tryz.prog 94))))))))))), .inBlock 0, .code (cSnd (cSnd (cSnd (cSnd (cSnd (cSnd (cSnd (bodyOf Tryz.prog 94))))))))], ⟨[(0, (.one (.int .i64 v0))), (2, (.one (.ptr T_api_Predictor 8 []))), (4, (.one (.ptr T_api_Ring 9 []))), (6, (.one (.ptr T_api_Predictor 10 []))), (36, (.one (.int .i64 v36)))], [(8, some (.box T_api_Predictor (b8a, ((b8baa, ((SV.ref 11 0 (List.length h11) true), (inj false T_api_Walk b8babb))), ((SV.ref 12 0 (List.length h12) true), ((SV.ref 13 0 (List.length h13) true), (((SV.ref 14 0 (List.length h14) true), b8bbbbab), ((((SV.ref 15 0 (List.length h15) true), b8bbbbbaab), (((SV.ref 16 0 (List.length h16) true), b8bbbbbabab), b8bbbbbabb)), ((b8bbbbbbaa, ((SV.ref 17 0 (List.length h17) true), b8bbbbbbabb)), (inj false (.pair T_api_Settings (.pair T_api_Walk (.pair (.arr 6 (.int .u32)) (.pair (.arr 6 (.int .i64)) .unit)))) b8bbbbbbb)))))))))), (9, some (.box T_api_Ring (inj true T_api_Ring b9))), (10, some (.box T_api_Predictor (b10a, ((inj true T_api_Ring b10ba), ((SV.ref 18 0 (List.length h18) true), ((SV.ref 19 0 (List.length h19) true), (inj true (.pair T_api_Mixer (.pair T_api_Final (.pair T_api_Finder (.pair T_api_Settings (.pair T_api_Walk (.pair (.arr 6 (.int .u32)) (.pair (.arr 6 (.int .i64)) .unit))))))) b10bbbb))))))), (11, some (.row (.int .u8) true h11)), (12, some (.row T_api_Table true h12)), (13, some (.row T_api_Adapt true h13)), (14, some (.row (.slice (.int .i32)) true h14)), (15, some (.row (.slice (.int .i32)) true h15)), (16, some (.row (.slice (.int .i32)) true h16)), (17, some (.row (.int .i64) true h17)), (18, some (.row T_api_Table true h18)), (19, some (.row T_api_Adapt true h19))], 20⟩⟩
theorem predict_New_eq (a0 : Int) : predict_New a0 = (
(ring_New a0).bind fun r1 =>
if (r1.2 != (0 : Int)) = true then
some (((0 : Int), (((0 : Int), ([], ((0 : Int), ()))), ([], ([], (([], ()), ((([], ()), (([], ()), ())), (((0 : Int), ([], ())), (((0 : Int), ((0 : Int), ())), (((0 : Int), ()), ((List.replicate 6 (0 : Int)), ((List.replicate 6 (0 : Int)), ()))))))))))), (2 : Int))
else
(final_New).bind fun r2 =>
(match_New).bind fun r3 =>
(nibble_New).bind fun r4 =>
(finder_New a0).bind fun r5 =>
(mixer_New (256 : Int) (16384 : Int)).bind fun r6 =>
predict_New_c1 a0 (0 : Int) (0 : Int) (0 : Int) ((0 : Int), ()) () () () () (0 : Int) () (((0 : Int), ((0 : Int), ())), (((0 : Int), ()), ((List.replicate 6 (0 : Int)), ((List.replicate 6 (0 : Int)), ())))) r1.1 a0 r1.1 (r6.1, (r2, (r5.1, (r3, (r4, ((List.replicate 6 (0 : Int)), ((List.replicate 6 (0 : Int)), ()))))))) [] [] [] [] [] [] [] [] []) := (FnI.call_eq (by kernel_rfl)).trans (by kernel_rfl)
theorem predict_New_c1_eq (v0 : Int) (v36 : Int) (b8a : Int) (b8baa : Int) (b8babb : D_api_Walk) (b8bbbbab : Unit) (b8bbbbbaab : Unit) (b8bbbbbabab : Unit) (b8bbbbbabb : Unit) (b8bbbbbbaa : Int) (b8bbbbbbabb : Unit) (b8bbbbbbb : (D_api_Settings × (D_api_Walk × ((List Int) × ((List Int) × Unit))))) (b9 : D_api_Ring) (b10a : Int) (b10ba : D_api_Ring) (b10bbbb : (D_api_Mixer × (D_api_Final × (D_api_Finder × (D_api_Settings × (D_api_Walk × ((List Int) × ((List Int) × Unit)))))))) (h11 : List Int) (h12 : List D_api_Table) (h13 : List D_api_Adapt) (h14 : List (List Int)) (h15 : List (List Int)) (h16 : List (List Int)) (h17 : List Int) (h18 : List D_api_Table) (h19 : List D_api_Adapt) : predict_New_c1 v0 v36 b8a b8baa b8babb b8bbbbab b8bbbbbaab b8bbbbbabab b8bbbbbabb b8bbbbbbaa b8bbbbbbabb b8bbbbbbb b9 b10a b10ba b10bbbb h11 h12 h13 h14 h15 h16 h17 h18 h19 = (
if (decide (v36 < (6 : Int))) = true then
(slots_New v0).bind fun r7 =>
(adapt_New (255 : Int)).bind fun r8 =>
gd ((List.length (h18 ++ [r7.1])) * 32 ≤ 140737488355328) <|
gd ((List.length (h19 ++ [r8.1])) * 56 ≤ 140737488355328) <|
predict_New_c1 v0 (IntKind.wrap .i64 (v36 + (1 : Int))) b8a b8baa b8babb b8bbbbab b8bbbbbaab b8bbbbbabab b8bbbbbabb b8bbbbbbaa b8bbbbbbabb b8bbbbbbb b9 b10a b10ba b10bbbb h11 h12 h13 h14 h15 h16 h17 (h18 ++ [r7.1]) (h19 ++ [r8.1])
else
(context_Of b9).bind fun r9 =>
(predict_find_v2 r9.1 b10a b10ba (b10bbbb.1, (b10bbbb.2.1, (b10bbbb.2.2.1, (b10bbbb.2.2.2.1, (b10bbbb.2.2.2.2.1, (r9.1, b10bbbb.2.2.2.2.2.2)))))) h18 h19).bind fun r10 =>
some ((r10.1.1, (r10.1.2.1, (r10.2.1, (r10.2.2, r10.1.2.2.2.2)))), (0 : Int))) := (FnI.sem_eq _).trans (by kernel_rfl)
noncomputable def predict_New_S (acc : List AV → Bool) : Summ Tryz.prog GT := predict_New_I.summ mixed acc false false
noncomputable def codec_start_I : FnI Tryz.prog GT := { f := 71, cuts := [], tab := [(predict_New_S (fun _ => true)).dropping], fm := ⟨false, [.val T_api_Predictor [], .val (.int .i64) []]⟩ }
noncomputable def codec_start (a0 : Int) (a1 : Int) : Option (D_api_Predictor × Int) := codec_start_I.call [(.int .i64 a0), (.int .i64 a1)] []
theorem codec_start_eq (a0 : Int) (a1 : Int) : codec_start a0 a1 = (
(predict_New a0).bind fun r1 =>
if (r1.2 == (0 : Int)) = true then
if (decide (a1 > (4096 : Int))) = true then
some (r1.1, (4 : Int))
else
some (r1)
else
some (r1)) := (FnI.call_eq (by kernel_rfl)).trans (by kernel_rfl)
noncomputable def codec_start_S (acc : List AV → Bool) : Summ Tryz.prog GT := codec_start_I.summ mixed acc false false
noncomputable def slices_Clone_byte_byte_I : FnI Tryz.prog GT := { f := 96, cuts := [], tab := [], fm := ⟨true, [.val (.slice (.int .u8)) [.nw]]⟩ }
noncomputable def slices_Clone_byte_byte (a0 : List Int) : Option (List Int) := slices_Clone_byte_byte_I.call [(.sl (.int .u8) false a0)] []
theorem slices_Clone_byte_byte_eq (a0 : List Int) : slices_Clone_byte_byte a0 = (
anyv (fun (r1 : Bool) => r1 = true → a0 = []) fun (r1 : Bool) =>
if r1 = true then
some ([])
else
gd ((List.length ([] ++ a0)) * 1 ≤ 140737488355328) <|
some ([] ++ a0)) := (FnI.call_eq (by kernel_rfl)).trans (by kernel_rfl)
noncomputable def slices_Clone_byte_byte_S (acc : List AV → Bool) : Summ Tryz.prog GT := slices_Clone_byte_byte_I.summ mixed acc false false
noncomputable def decoder_at_I : FnI Tryz.prog GT := { f := 122, cuts := [], tab := [], fm := ⟨true, [.val (.int .u8) []]⟩ }
noncomputable def decoder_at (a0 : List Int) (a1 : Int) : Option (Int) := decoder_at_I.call [(.sl (.int .u8) false a0), (.int .i64 a1)] []
theorem decoder_at_eq (a0 : List Int) (a1 : Int) : decoder_at a0 a1 = (
if (decide (a1 < (Int.ofNat (List.length a0)))) = true then
gd (0 ≤ a1) <|
gd (a1 < (Int.ofNat (List.length a0))) <|
some (List.getD a0 (Int.toNat a1) (0 : Int))
else
some (0 : Int)) := (FnI.call_eq (by kernel_rfl)).trans (by kernel_rfl)
noncomputable def decoder_at_S (acc : List AV → Bool) : Summ Tryz.prog GT := decoder_at_I.summ mixed acc false false
noncomputable def decoder_start_I : FnI Tryz.prog GT := { f := 95, cuts := [⟨(2, 3), [0, 2, 3], false, false, []⟩], tab := [decoder_at_S (fun _ => true)], fm := ⟨false, [.val T_api_Decoder []]⟩ }
noncomputable def decoder_start (a0 : List Int) : Option (D_api_Decoder) := decoder_start_I.call [(.sl (.int .u8) false a0)] []
noncomputable def decoder_start_c1 (v0 : List Int) (b8a : Int) (b8ba : Int) (b8bba : Int) (b8bbbb : D_api_Walk) (b9 : D_api_Decoder) (h10 : List Int) : Option (D_api_Decoder) := decoder_start_I.sem ⟨[.code (cIn (cIn (cFst (cSnd (cSnd (bodyOf Tryz.prog 95)))))), .inLoop (cIn (cIn (cFst (cSnd (cSnd (bodyOf Tryz.prog 95)))))), .inBlock 0, .code (cSnd (cSnd (cSnd (bodyOf Tryz.prog 95))))], ⟨[(0, (.one (.sl (.int .u8) false v0))), (2, (.one (.ptr T_api_Decoder 8 []))), (3, (.one (.ptr T_api_Decoder 9 [])))], [(8, some (.box T_api_Decoder (b8a, (b8ba, (b8bba, ((SV.ref 10 0 (List.length h10) true), (inj false T_api_Walk b8bbbb))))))), (9, some (.box T_api_Decoder (inj false T_api_Decoder b9))), (10, some (.row (.int .u8) true h10))], 11⟩⟩
theorem decoder_start_eq (a0 : List Int) : decoder_start a0 = (
decoder_start_c1 a0 (0 : Int) (0 : Int) (0 : Int) ((0 : Int), ()) ((0 : Int), ((4294967295 : Int), ((0 : Int), (a0, ((0 : Int), ()))))) []) := (FnI.call_eq (by kernel_rfl)).trans (by kernel_rfl)
theorem decoder_start_c1_eq (v0 : List Int) (b8a : Int) (b8ba : Int) (b8bba : Int) (b8bbbb : D_api_Walk) (b9 : D_api_Decoder) (h10 : List Int) : decoder_start_c1 v0 b8a b8ba b8bba b8bbbb b9 h10 = (
if (decide (b9.2.2.2.2.1 < (4 : Int))) = true then
gd (0 ≤ (8 : Int)) <|
(decoder_at v0 b9.2.2.2.2.1).bind fun r1 =>
decoder_start_c1 v0 b8a b8ba b8bba b8bbbb (b9.1, (b9.2.1, ((bitsOr .u32 (IntKind.wrap .u32 (b9.2.2.1 * (256 : Int))) (IntKind.wrap .u32 r1)), (b9.2.2.2.1, ((IntKind.wrap .i64 (b9.2.2.2.2.1 + (1 : Int))), b9.2.2.2.2.2))))) h10
else
some (b9)) := (FnI.sem_eq _).trans (by kernel_rfl)
noncomputable def decoder_start_S (acc : List AV → Bool) : Summ Tryz.prog GT := decoder_start_I.summ mixed acc false false
noncomputable def decoder_New_I : FnI Tryz.prog GT := { f := 72, cuts := [], tab := [slices_Clone_byte_byte_S (fun _ => true), (decoder_start_S (fun _ => true)).dropping], fm := ⟨false, [.val T_api_Decoder [], .val (.int .i64) []]⟩ }
noncomputable def decoder_New (a0 : List Int) : Option (D_api_Decoder × Int) := decoder_New_I.call [(.sl (.int .u8) false a0)] []
theorem decoder_New_eq (a0 : List Int) : decoder_New a0 = (
if (decide ((Int.ofNat (List.length a0)) > (20000 : Int))) = true then
some (((0 : Int), ((0 : Int), ((0 : Int), ([], ((0 : Int), ()))))), (4 : Int))
else
(slices_Clone_byte_byte a0).bind fun r1 =>
(decoder_start r1).bind fun r2 =>
some (r2, (0 : Int))) := (FnI.call_eq (by kernel_rfl)).trans (by kernel_rfl)
noncomputable def decoder_New_S (acc : List AV → Bool) : Summ Tryz.prog GT := decoder_New_I.summ mixed acc false false
noncomputable def finder_Check_1_I : FnI Tryz.prog GT := { f := 200, cuts := [], tab := [], fm := ⟨true, [.val .bool []]⟩ }
noncomputable def finder_Check_1 (a0 : Int) : Option (Bool) := finder_Check_1_I.call [(.int .i64 a0)] []
theorem finder_Check_1_eq (a0 : Int) : finder_Check_1 a0 = (
if (decide (a0 < (-1 : Int))) = true then
some (true)
else
some (decide (a0 > (1073741824 : Int)))) := (FnI.call_eq (by kernel_rfl)).trans (by kernel_rfl)
noncomputable def finder_Check_1_S (acc : List AV → Bool) : Summ Tryz.prog GT := finder_Check_1_I.summ mixed acc false false
noncomputable def slices_IndexFunc_int_int_I : FnI Tryz.prog GT := { f := 234, cuts := [⟨(2, 3), [0, 1, 7, 8], false, false, []⟩], tab := [finder_Check_1_S (fun _ => true)], fm := ⟨true, [.val (.int .i64) []]⟩ }
noncomputable def slices_IndexFunc_int_int (a0 : List Int) : Option (Int) := slices_IndexFunc_int_int_I.call [(.sl (.int .i64) false a0), (.func 200 [])] []
noncomputable def slices_IndexFunc_int_int_c1 (v0 : List Int) (v7 : Int) (v8 : Int) : Option (Int) := slices_IndexFunc_int_int_I.sem ⟨[.code (cIn (cIn (cSnd (cFst (cSnd (bodyOf Tryz.prog 234)))))), .inLoop (cIn (cIn (cSnd (cFst (cSnd (bodyOf Tryz.prog 234)))))), .inBlock 0, .code (cSnd (cSnd (bodyOf Tryz.prog 234)))], ⟨[(0, (.one (.sl (.int .i64) false v0))), (1, (.one (.func 200 []))), (7, (.one (.int .i64 v7))), (8, (.one (.int .i64 v8)))], [], 8⟩⟩
theorem slices_IndexFunc_int_int_eq (a0 : List Int) : slices_IndexFunc_int_int a0 = (
slices_IndexFunc_int_int_c1 a0 (Int.ofNat (List.length a0)) (0 : Int)) := (FnI.call_eq (by kernel_rfl)).trans (by kernel_rfl)
theorem slices_IndexFunc_int_int_c1_eq (v0 : List Int) (v7 : Int) (v8 : Int) : slices_IndexFunc_int_int_c1 v0 v7 v8 = (
if (decide (v8 < v7)) = true then
gd (0 ≤ v8) <|
gd (v8 < (Int.ofNat (List.length v0))) <|
(finder_Check_1 (List.getD v0 (Int.toNat v8) (0 : Int))).bind fun r1 =>
if r1 = true then
some (v8)
else
slices_IndexFunc_int_int_c1 v0 v7 (IntKind.wrap .i64 (v8 + (1 : Int)))
else
some (-1 : Int)) := (FnI.sem_eq _).trans (by kernel_rfl)
noncomputable def slices_IndexFunc_int_int_S (acc : List AV → Bool) : Summ Tryz.prog GT := slices_IndexFunc_int_int_I.summ mixed acc false false
noncomputable def slices_ContainsFunc_int_int_I : FnI Tryz.prog GT := { f := 199, cuts := [], tab := [slices_IndexFunc_int_int_S (fun _ => true)], fm := ⟨true, [.val .bool []]⟩ }
noncomputable def slices_ContainsFunc_int_int (a0 : List Int) : Option (Bool) := slices_ContainsFunc_int_int_I.call [(.sl (.int .i64) false a0), (.func 200 [])] []
theorem slices_ContainsFunc_int_int_eq (a0 : List Int) : slices_ContainsFunc_int_int a0 = (
(slices_IndexFunc_int_int a0).bind fun r1 =>
some (decide (r1 ≥ (0 : Int)))) := (FnI.call_eq (by kernel_rfl)).trans (by kernel_rfl)
noncomputable def slices_ContainsFunc_int_int_S (acc : List AV → Bool) : Summ Tryz.prog GT := slices_ContainsFunc_int_int_I.summ mixed acc false false
noncomputable def finder_Check_I : FnI Tryz.prog GT := { f := 154, cuts := [], tab := [finder_places_S (fun _ => true), slices_ContainsFunc_int_int_S (fun _ => true)], fm := ⟨true, [.val (.int .i64) []]⟩ }
noncomputable def finder_Check (a0 : D_api_Finder) : Option (Int) := finder_Check_I.call [(.agg T_api_Finder (inj false T_api_Finder a0))] []
theorem finder_Check_eq (a0 : D_api_Finder) : finder_Check a0 = (
if (decide (a0.1 < (0 : Int))) = true then
some (8 : Int)
else
if (decide (a0.1 > (7 : Int))) = true then
some (8 : Int)
else
(finder_places a0.1).bind fun r1 =>
if ((Int.ofNat (List.length a0.2.1)) != r1) = true then
some (8 : Int)
else
(slices_ContainsFunc_int_int a0.2.1).bind fun r2 =>
if r2 = true then
some (8 : Int)
else
some (0 : Int)) := (FnI.call_eq (by kernel_rfl)).trans (by kernel_rfl)
noncomputable def finder_Check_S (acc : List AV → Bool) : Summ Tryz.prog GT := finder_Check_I.summ mixed acc false false
noncomputable def slices_Min_int32_int32_I : FnI Tryz.prog GT := { f := 205, cuts := [⟨(5, 3), [0, 3, 4], false, false, []⟩], tab := [], fm := ⟨true, [.val (.int .i32) []]⟩ }
noncomputable def slices_Min_int32_int32 (a0 : List Int) : Option (Int) := slices_Min_int32_int32_I.call [(.sl (.int .i32) false a0)] []
noncomputable def slices_Min_int32_int32_c1 (v0 : List Int) (v3 : Int) (v4 : Int) : Option (Int) := slices_Min_int32_int32_I.sem ⟨[.code (cIn (cIn (cSnd (cFst (cSnd (cSnd (cSnd (bodyOf Tryz.prog 205)))))))), .inLoop (cIn (cIn (cSnd (cFst (cSnd (cSnd (cSnd (bodyOf Tryz.prog 205)))))))), .inBlock 0, .code (cSnd (cSnd (cSnd (cSnd (bodyOf Tryz.prog 205)))))], ⟨[(0, (.one (.sl (.int .i32) false v0))), (3, (.one (.int .i32 v3))), (4, (.one (.int .i64 v4)))], [], 8⟩⟩
theorem slices_Min_int32_int32_eq (a0 : List Int) : slices_Min_int32_int32 a0 = (
if (decide ((Int.ofNat (List.length a0)) < (1 : Int))) = true then
none
else
gd (0 ≤ (0 : Int)) <|
gd ((0 : Int) < (Int.ofNat (List.length a0))) <|
slices_Min_int32_int32_c1 a0 (List.getD a0 0 (0 : Int)) (1 : Int)) := (FnI.call_eq (by kernel_rfl)).trans (by kernel_rfl)
theorem slices_Min_int32_int32_c1_eq (v0 : List Int) (v3 : Int) (v4 : Int) : slices_Min_int32_int32_c1 v0 v3 v4 = (
if (decide (v4 < (Int.ofNat (List.length v0)))) = true then
gd (0 ≤ v4) <|
gd (v4 < (Int.ofNat (List.length v0))) <|
slices_Min_int32_int32_c1 v0 (if (List.getD v0 (Int.toNat v4) (0 : Int)) < v3 then (List.getD v0 (Int.toNat v4) (0 : Int)) else v3) (IntKind.wrap .i64 (v4 + (1 : Int)))
else
some (v3)) := (FnI.sem_eq _).trans (by kernel_rfl)
noncomputable def slices_Min_int32_int32_S (acc : List AV → Bool) : Summ Tryz.prog GT := slices_Min_int32_int32_I.summ mixed acc false false
noncomputable def slices_Max_int32_int32_I : FnI Tryz.prog GT := { f := 206, cuts := [⟨(5, 3), [0, 3, 4], false, false, []⟩], tab := [], fm := ⟨true, [.val (.int .i32) []]⟩ }
noncomputable def slices_Max_int32_int32 (a0 : List Int) : Option (Int) := slices_Max_int32_int32_I.call [(.sl (.int .i32) false a0)] []
noncomputable def slices_Max_int32_int32_c1 (v0 : List Int) (v3 : Int) (v4 : Int) : Option (Int) := slices_Max_int32_int32_I.sem ⟨[.code (cIn (cIn (cSnd (cFst (cSnd (cSnd (cSnd (bodyOf Tryz.prog 206)))))))), .inLoop (cIn (cIn (cSnd (cFst (cSnd (cSnd (cSnd (bodyOf Tryz.prog 206)))))))), .inBlock 0, .code (cSnd (cSnd (cSnd (cSnd (bodyOf Tryz.prog 206)))))], ⟨[(0, (.one (.sl (.int .i32) false v0))), (3, (.one (.int .i32 v3))), (4, (.one (.int .i64 v4)))], [], 8⟩⟩
theorem slices_Max_int32_int32_eq (a0 : List Int) : slices_Max_int32_int32 a0 = (
if (decide ((Int.ofNat (List.length a0)) < (1 : Int))) = true then
none
else
gd (0 ≤ (0 : Int)) <|
gd ((0 : Int) < (Int.ofNat (List.length a0))) <|
slices_Max_int32_int32_c1 a0 (List.getD a0 0 (0 : Int)) (1 : Int)) := (FnI.call_eq (by kernel_rfl)).trans (by kernel_rfl)
theorem slices_Max_int32_int32_c1_eq (v0 : List Int) (v3 : Int) (v4 : Int) : slices_Max_int32_int32_c1 v0 v3 v4 = (
if (decide (v4 < (Int.ofNat (List.length v0)))) = true then
gd (0 ≤ v4) <|
gd (v4 < (Int.ofNat (List.length v0))) <|
slices_Max_int32_int32_c1 v0 (if (List.getD v0 (Int.toNat v4) (0 : Int)) > v3 then (List.getD v0 (Int.toNat v4) (0 : Int)) else v3) (IntKind.wrap .i64 (v4 + (1 : Int)))
else
some (v3)) := (FnI.sem_eq _).trans (by kernel_rfl)
noncomputable def slices_Max_int32_int32_S (acc : List AV → Bool) : Summ Tryz.prog GT := slices_Max_int32_int32_I.summ mixed acc false false
noncomputable def adapt_outside_I : FnI Tryz.prog GT := { f := 202, cuts := [], tab := [slices_Min_int32_int32_S (fun _ => true), slices_Max_int32_int32_S (fun _ => true)], fm := ⟨true, [.val .bool []]⟩ }
noncomputable def adapt_outside (a0 : List Int) (a1 : Int) : Option (Bool) := adapt_outside_I.call [(.sl (.int .i32) false a0), (.int .i32 a1)] []
theorem adapt_outside_eq (a0 : List Int) (a1 : Int) : adapt_outside a0 a1 = (
if ((Int.ofNat (List.length a0)) != (193 : Int)) = true then
some (true)
else
(slices_Min_int32_int32 a0).bind fun r1 =>
if (decide (r1 < (0 : Int))) = true then
some (true)
else
(slices_Max_int32_int32 a0).bind fun r2 =>
some (decide (r2 > a1))) := (FnI.call_eq (by kernel_rfl)).trans (by kernel_rfl)
noncomputable def adapt_outside_S (acc : List AV → Bool) : Summ Tryz.prog GT := adapt_outside_I.summ mixed acc false false
noncomputable def adapt_Check_I : FnI Tryz.prog GT := { f := 157, cuts := [], tab := [adapt_outside_S (fun _ => true)], fm := ⟨true, [.val (.int .i64) []]⟩ }
noncomputable def adapt_Check (a0 : D_api_Adapt) : Option (Int) := adapt_Check_I.call [(.agg T_api_Adapt (inj false T_api_Adapt a0))] []
theorem adapt_Check_eq (a0 : D_api_Adapt) : adapt_Check a0 = (
if (decide (a0.1 < (1 : Int))) = true then
some (8 : Int)
else
if (decide (a0.1 > (1000 : Int))) = true then
some (8 : Int)
else
gd (0 ≤ (1 : Int)) <|
gd ((1 : Int) < (2 : Int)) <|
(adapt_outside a0.2.1 (List.getD G_targets 1 (0 : Int))).bind fun r1 =>
if r1 = true then
some (8 : Int)
else
(adapt_outside a0.2.2.1 a0.1).bind fun r2 =>
if r2 = true then
some (8 : Int)
else
some (0 : Int)) := (FnI.call_eq (by kernel_rfl)).trans (by kernel_rfl)
noncomputable def adapt_Check_S (acc : List AV → Bool) : Summ Tryz.prog GT := adapt_Check_I.summ mixed acc false false
noncomputable def predict_parts_1_I : FnI Tryz.prog GT := { f := 156, cuts := [], tab := [adapt_Check_S (fun _ => true)], fm := ⟨true, [.val .bool []]⟩ }
noncomputable def predict_parts_1 (a0 : D_api_Adapt) : Option (Bool) := predict_parts_1_I.call [(.agg T_api_Adapt (inj false T_api_Adapt a0))] []
theorem predict_parts_1_eq (a0 : D_api_Adapt) : predict_parts_1 a0 = (
(adapt_Check a0).bind fun r1 =>
if (r1 != (0 : Int)) = true then
some (true)
else
some (a0.1 != (255 : Int))) := (FnI.call_eq (by kernel_rfl)).trans (by kernel_rfl)
noncomputable def predict_parts_1_S (acc : List AV → Bool) : Summ Tryz.prog GT := predict_parts_1_I.summ mixed acc false false
noncomputable def slices_IndexFunc_api_Adapt_api_Adapt_I : FnI Tryz.prog GT := { f := 203, cuts := [⟨(2, 3), [0, 1, 7, 8], false, false, []⟩], tab := [predict_parts_1_S (fun _ => true)], fm := ⟨true, [.val (.int .i64) []]⟩ }
noncomputable def slices_IndexFunc_api_Adapt_api_Adapt (a0 : List D_api_Adapt) : Option (Int) := slices_IndexFunc_api_Adapt_api_Adapt_I.call [(.sl T_api_Adapt false a0), (.func 156 [])] []
noncomputable def slices_IndexFunc_api_Adapt_api_Adapt_c1 (v0 : List D_api_Adapt) (v7 : Int) (v8 : Int) : Option (Int) := slices_IndexFunc_api_Adapt_api_Adapt_I.sem ⟨[.code (cIn (cIn (cSnd (cFst (cSnd (bodyOf Tryz.prog 203)))))), .inLoop (cIn (cIn (cSnd (cFst (cSnd (bodyOf Tryz.prog 203)))))), .inBlock 0, .code (cSnd (cSnd (bodyOf Tryz.prog 203)))], ⟨[(0, (.one (.sl T_api_Adapt false v0))), (1, (.one (.func 156 []))), (7, (.one (.int .i64 v7))), (8, (.one (.int .i64 v8)))], [], 8⟩⟩
theorem slices_IndexFunc_api_Adapt_api_Adapt_eq (a0 : List D_api_Adapt) : slices_IndexFunc_api_Adapt_api_Adapt a0 = (
slices_IndexFunc_api_Adapt_api_Adapt_c1 a0 (Int.ofNat (List.length a0)) (0 : Int)) := (FnI.call_eq (by kernel_rfl)).trans (by kernel_rfl)
theorem slices_IndexFunc_api_Adapt_api_Adapt_c1_eq (v0 : List D_api_Adapt) (v7 : Int) (v8 : Int) : slices_IndexFunc_api_Adapt_api_Adapt_c1 v0 v7 v8 = (
if (decide (v8 < v7)) = true then
gd (0 ≤ v8) <|
gd (v8 < (Int.ofNat (List.length v0))) <|
(predict_parts_1 (List.getD v0 (Int.toNat v8) (pzero T_api_Adapt))).bind fun r1 =>
if r1 = true then
some (v8)
else
slices_IndexFunc_api_Adapt_api_Adapt_c1 v0 v7 (IntKind.wrap .i64 (v8 + (1 : Int)))
else
some (-1 : Int)) := (FnI.sem_eq _).trans (by kernel_rfl)
noncomputable def slices_IndexFunc_api_Adapt_api_Adapt_S (acc : List AV → Bool) : Summ Tryz.prog GT := slices_IndexFunc_api_Adapt_api_Adapt_I.summ mixed acc false false
noncomputable def slices_ContainsFunc_api_Adapt_api_Adapt_I : FnI Tryz.prog GT := { f := 158, cuts := [], tab := [slices_IndexFunc_api_Adapt_api_Adapt_S (fun _ => true)], fm := ⟨true, [.val .bool []]⟩ }
noncomputable def slices_ContainsFunc_api_Adapt_api_Adapt (a0 : List D_api_Adapt) : Option (Bool) := slices_ContainsFunc_api_Adapt_api_Adapt_I.call [(.sl T_api_Adapt false a0), (.func 156 [])] []
theorem slices_ContainsFunc_api_Adapt_api_Adapt_eq (a0 : List D_api_Adapt) : slices_ContainsFunc_api_Adapt_api_Adapt a0 = (
(slices_IndexFunc_api_Adapt_api_Adapt a0).bind fun r1 =>
some (decide (r1 ≥ (0 : Int)))) := (FnI.call_eq (by kernel_rfl)).trans (by kernel_rfl)
noncomputable def slices_ContainsFunc_api_Adapt_api_Adapt_S (acc : List AV → Bool) : Summ Tryz.prog GT := slices_ContainsFunc_api_Adapt_api_Adapt_I.summ mixed acc false false
noncomputable def predict_parts_I : FnI Tryz.prog GT := { f := 123, cuts := [⟨(6, 3), [1, 53, 54, 55], false, false, []⟩], tab := [ring_Check_S (fun _ => true), finder_Check_S (fun _ => true), slots_Check_S (fun _ => true), slices_ContainsFunc_api_Adapt_api_Adapt_S (fun _ => true)], fm := ⟨true, [.val .bool []]⟩ }
noncomputable def predict_parts (a0 : D_api_Predictor) : Option (Bool) := predict_parts_I.call [(.agg T_api_Predictor (inj false T_api_Predictor a0))] []
noncomputable def predict_parts_c1 (v53 : List D_api_Table) (v54 : Int) (v55 : Int) (b8 : D_api_Predictor) : Option (Bool) := predict_parts_I.sem ⟨[.code (cIn (cIn (cSnd (cFst (cSnd (cSnd (cSnd (bodyOf Tryz.prog 123)))))))), .inLoop (cIn (cIn (cSnd (cFst (cSnd (cSnd (cSnd (bodyOf Tryz.prog 123)))))))), .inBlock 0, .code (cSnd (cSnd (cSnd (cSnd (bodyOf Tryz.prog 123)))))], ⟨[(1, (.one (.ptr T_api_Predictor 8 []))), (53, (.one (.sl T_api_Table false v53))), (54, (.one (.int .i64 v54))), (55, (.one (.int .i64 v55)))], [(8, some (.box T_api_Predictor (inj false T_api_Predictor b8)))], 9⟩⟩
theorem predict_parts_eq (a0 : D_api_Predictor) : predict_parts a0 = (
if (decide (a0.1 < (0 : Int))) = true then
some (false)
else
if (decide (a0.1 > (7 : Int))) = true then
some (false)
else
if ((Int.ofNat (List.length a0.2.2.1)) != (6 : Int)) = true then
some (false)
else
if ((Int.ofNat (List.length a0.2.2.2.1)) != (6 : Int)) = true then
some (false)
else
(ring_Check a0.2.1).bind fun r1 =>
if (r1 != (0 : Int)) = true then
some (false)
else
if (a0.2.1.1 != a0.1) = true then
some (false)
else
(finder_Check a0.2.2.2.2.2.2.1).bind fun r2 =>
if (r2 != (0 : Int)) = true then
some (false)
else
if (a0.2.2.2.2.2.2.1.1 != a0.1) = true then
some (false)
else
predict_parts_c1 a0.2.2.1 (Int.ofNat (List.length a0.2.2.1)) (0 : Int) a0) := (FnI.call_eq (by kernel_rfl)).trans (by kernel_rfl)
theorem predict_parts_c1_eq (v53 : List D_api_Table) (v54 : Int) (v55 : Int) (b8 : D_api_Predictor) : predict_parts_c1 v53 v54 v55 b8 = (
if (decide (v55 < v54)) = true then
gd (0 ≤ v55) <|
gd (v55 < (Int.ofNat (List.length v53))) <|
(slots_Check (List.getD v53 (Int.toNat v55) (pzero T_api_Table))).bind fun r3 =>
if (r3 != (0 : Int)) = true then
some (false)
else
if ((List.getD v53 (Int.toNat v55) (pzero T_api_Table)).1 != b8.1) = true then
some (false)
else
gd (0 ≤ v55) <|
gd (v55 < (6 : Int)) <|
if (decide ((List.getD b8.2.2.2.2.2.2.2.2.2.2.1 (Int.toNat v55) (0 : Int)) < (0 : Int))) = true then
some (false)
else
gd (0 ≤ v55) <|
gd (v55 < (6 : Int)) <|
if (decide ((List.getD b8.2.2.2.2.2.2.2.2.2.2.1 (Int.toNat v55) (0 : Int)) ≥ (Int.ofNat (List.length (List.getD v53 (Int.toNat v55) (pzero T_api_Table)).2.1)))) = true then
some (false)
else
predict_parts_c1 v53 v54 (IntKind.wrap .i64 (v55 + (1 : Int))) b8
else
(slices_ContainsFunc_api_Adapt_api_Adapt b8.2.2.2.1).bind fun r4 =>
some (not r4)) := (FnI.sem_eq _).trans (by kernel_rfl)
noncomputable def predict_parts_S (acc : List AV → Bool) : Summ Tryz.prog GT := predict_parts_I.summ mixed acc false false
noncomputable def mixer_Check_1_I : FnI Tryz.prog GT := { f := 159, cuts := [], tab := [], fm := ⟨true, [.val .bool []]⟩ }
noncomputable def mixer_Check_1 (a0 : List Int) : Option (Bool) := mixer_Check_1_I.call [(.sl (.int .i32) false a0)] []
theorem mixer_Check_1_eq (a0 : List Int) : mixer_Check_1 a0 = (
some ((Int.ofNat (List.length a0)) != (8 : Int))) := (FnI.call_eq (by kernel_rfl)).trans (by kernel_rfl)
noncomputable def mixer_Check_1_S (acc : List AV → Bool) : Summ Tryz.prog GT := mixer_Check_1_I.summ mixed acc false false
noncomputable def slices_IndexFunc_int32_int32_I : FnI Tryz.prog GT := { f := 204, cuts := [⟨(2, 3), [0, 1, 7, 8], false, false, []⟩], tab := [mixer_Check_1_S (fun _ => true)], fm := ⟨true, [.val (.int .i64) []]⟩ }
noncomputable def slices_IndexFunc_int32_int32 (a0 : List (List Int)) : Option (Int) := slices_IndexFunc_int32_int32_I.call [(.sl (.slice (.int .i32)) false a0), (.func 159 [])] []
noncomputable def slices_IndexFunc_int32_int32_c1 (v0 : List (List Int)) (v7 : Int) (v8 : Int) : Option (Int) := slices_IndexFunc_int32_int32_I.sem ⟨[.code (cIn (cIn (cSnd (cFst (cSnd (bodyOf Tryz.prog 204)))))), .inLoop (cIn (cIn (cSnd (cFst (cSnd (bodyOf Tryz.prog 204)))))), .inBlock 0, .code (cSnd (cSnd (bodyOf Tryz.prog 204)))], ⟨[(0, (.one (.sl (.slice (.int .i32)) false v0))), (1, (.one (.func 159 []))), (7, (.one (.int .i64 v7))), (8, (.one (.int .i64 v8)))], [], 8⟩⟩
theorem slices_IndexFunc_int32_int32_eq (a0 : List (List Int)) : slices_IndexFunc_int32_int32 a0 = (
slices_IndexFunc_int32_int32_c1 a0 (Int.ofNat (List.length a0)) (0 : Int)) := (FnI.call_eq (by kernel_rfl)).trans (by kernel_rfl)
theorem slices_IndexFunc_int32_int32_c1_eq (v0 : List (List Int)) (v7 : Int) (v8 : Int) : slices_IndexFunc_int32_int32_c1 v0 v7 v8 = (
if (decide (v8 < v7)) = true then
gd (0 ≤ v8) <|
gd (v8 < (Int.ofNat (List.length v0))) <|
(mixer_Check_1 (List.getD v0 (Int.toNat v8) [])).bind fun r1 =>
if r1 = true then
some (v8)
else
slices_IndexFunc_int32_int32_c1 v0 v7 (IntKind.wrap .i64 (v8 + (1 : Int)))
else
some (-1 : Int)) := (FnI.sem_eq _).trans (by kernel_rfl)
noncomputable def slices_IndexFunc_int32_int32_S (acc : List AV → Bool) : Summ Tryz.prog GT := slices_IndexFunc_int32_int32_I.summ mixed acc false false
noncomputable def slices_ContainsFunc_int32_int32_I : FnI Tryz.prog GT := { f := 160, cuts := [], tab := [slices_IndexFunc_int32_int32_S (fun _ => true)], fm := ⟨true, [.val .bool []]⟩ }
noncomputable def slices_ContainsFunc_int32_int32 (a0 : List (List Int)) : Option (Bool) := slices_ContainsFunc_int32_int32_I.call [(.sl (.slice (.int .i32)) false a0), (.func 159 [])] []
theorem slices_ContainsFunc_int32_int32_eq (a0 : List (List Int)) : slices_ContainsFunc_int32_int32 a0 = (
(slices_IndexFunc_int32_int32 a0).bind fun r1 =>
some (decide (r1 ≥ (0 : Int)))) := (FnI.call_eq (by kernel_rfl)).trans (by kernel_rfl)
noncomputable def slices_ContainsFunc_int32_int32_S (acc : List AV → Bool) : Summ Tryz.prog GT := slices_ContainsFunc_int32_int32_I.summ mixed acc false false
noncomputable def mixer_Check_I : FnI Tryz.prog GT := { f := 124, cuts := [], tab := [slices_ContainsFunc_int32_int32_S (fun _ => true)], fm := ⟨true, [.val (.int .i64) []]⟩ }
noncomputable def mixer_Check (a0 : D_api_Mixer) : Option (Int) := mixer_Check_I.call [(.agg T_api_Mixer (inj false T_api_Mixer a0))] []
theorem mixer_Check_eq (a0 : D_api_Mixer) : mixer_Check a0 = (
if (decide ((Int.ofNat (List.length a0.1)) < (1 : Int))) = true then
some (8 : Int)
else
if (decide ((Int.ofNat (List.length a0.1)) > (256 : Int))) = true then
some (8 : Int)
else
(slices_ContainsFunc_int32_int32 a0.1).bind fun r1 =>
if r1 = true then
some (8 : Int)
else
some (0 : Int)) := (FnI.call_eq (by kernel_rfl)).trans (by kernel_rfl)
noncomputable def mixer_Check_S (acc : List AV → Bool) : Summ Tryz.prog GT := mixer_Check_I.summ mixed acc false false
noncomputable def refine_Check_I : FnI Tryz.prog GT := { f := 161, cuts := [⟨(4, 3), [16, 17, 18], false, false, []⟩], tab := [slices_Min_int32_int32_S (fun _ => true), slices_Max_int32_int32_S (fun _ => true)], fm := ⟨true, [.val (.int .i64) []]⟩ }
noncomputable def refine_Check (a0 : D_api_Mixer) : Option (Int) := refine_Check_I.call [(.agg T_api_Mixer (inj false T_api_Mixer a0))] []
noncomputable def refine_Check_c1 (v16 : List (List Int)) (v17 : Int) (v18 : Int) : Option (Int) := refine_Check_I.sem ⟨[.code (cIn (cIn (cSnd (cFst (cSnd (cSnd (bodyOf Tryz.prog 161))))))), .inLoop (cIn (cIn (cSnd (cFst (cSnd (cSnd (bodyOf Tryz.prog 161))))))), .inBlock 0, .code (cSnd (cSnd (cSnd (bodyOf Tryz.prog 161))))], ⟨[(16, (.one (.sl (.slice (.int .i32)) false v16))), (17, (.one (.int .i64 v17))), (18, (.one (.int .i64 v18)))], [], 8⟩⟩
theorem refine_Check_eq (a0 : D_api_Mixer) : refine_Check a0 = (
if (decide ((Int.ofNat (List.length a0.1)) < (1 : Int))) = true then
some (8 : Int)
else
if (decide ((Int.ofNat (List.length a0.1)) > (256 : Int))) = true then
some (8 : Int)
else
refine_Check_c1 a0.1 (Int.ofNat (List.length a0.1)) (0 : Int)) := (FnI.call_eq (by kernel_rfl)).trans (by kernel_rfl)
theorem refine_Check_c1_eq (v16 : List (List Int)) (v17 : Int) (v18 : Int) : refine_Check_c1 v16 v17 v18 = (
if (decide (v18 < v17)) = true then
gd (0 ≤ v18) <|
gd (v18 < (Int.ofNat (List.length v16))) <|
if ((Int.ofNat (List.length (List.getD v16 (Int.toNat v18) []))) != (33 : Int)) = true then
some (8 : Int)
else
(slices_Min_int32_int32 (List.getD v16 (Int.toNat v18) [])).bind fun r1 =>
if (decide (r1 < (0 : Int))) = true then
some (8 : Int)
else
(slices_Max_int32_int32 (List.getD v16 (Int.toNat v18) [])).bind fun r2 =>
if (decide (r2 > (65535 : Int))) = true then
some (8 : Int)
else
refine_Check_c1 v16 v17 (IntKind.wrap .i64 (v18 + (1 : Int)))
else
some (0 : Int)) := (FnI.sem_eq _).trans (by kernel_rfl)
noncomputable def refine_Check_S (acc : List AV → Bool) : Summ Tryz.prog GT := refine_Check_I.summ mixed acc false false
noncomputable def final_Check_I : FnI Tryz.prog GT := { f := 125, cuts := [⟨(2, 3), [9, 10, 11], false, false, []⟩], tab := [refine_Check_S (fun _ => true)], fm := ⟨true, [.val (.int .i64) []]⟩ }
noncomputable def final_Check (a0 : D_api_Final) : Option (Int) := final_Check_I.call [(.agg T_api_Final (inj false T_api_Final a0))] []
noncomputable def final_Check_c1 (v10 : Int) (v11 : Int) (h8 : List D_api_Mixer) : Option (Int) := final_Check_I.sem ⟨[.code (cIn (cIn (cSnd (cFst (cSnd (bodyOf Tryz.prog 125)))))), .inLoop (cIn (cIn (cSnd (cFst (cSnd (bodyOf Tryz.prog 125)))))), .inBlock 0, .code (cSnd (cSnd (bodyOf Tryz.prog 125)))], ⟨[(9, (.one (.ref T_api_Mixer 8 0 (List.length h8) true))), (10, (.one (.int .i64 v10))), (11, (.one (.int .i64 v11)))], [(8, some (.row T_api_Mixer false h8))], 9⟩⟩
theorem final_Check_eq (a0 : D_api_Final) : final_Check a0 = (
final_Check_c1 (2 : Int) (0 : Int) [a0.1, a0.2.1]) := (FnI.call_eq (by kernel_rfl)).trans (by kernel_rfl)
theorem final_Check_c1_eq (v10 : Int) (v11 : Int) (h8 : List D_api_Mixer) : final_Check_c1 v10 v11 h8 = (
if (decide (v11 < v10)) = true then
gd (0 ≤ v11) <|
gd (v11 < (Int.ofNat (List.length h8))) <|
(refine_Check (List.getD h8 (0 + (Int.toNat v11)) (pzero T_api_Mixer))).bind fun r1 =>
if (r1 != (0 : Int)) = true then
some (8 : Int)
else
if ((Int.ofNat (List.length (List.getD h8 (0 + (Int.toNat v11)) (pzero T_api_Mixer)).1)) != (256 : Int)) = true then
some (8 : Int)
else
final_Check_c1 v10 (IntKind.wrap .i64 (v11 + (1 : Int))) h8
else
some (0 : Int)) := (FnI.sem_eq _).trans (by kernel_rfl)
noncomputable def final_Check_S (acc : List AV → Bool) : Summ Tryz.prog GT := final_Check_I.summ mixed acc false false
noncomputable def match_Check_I : FnI Tryz.prog GT := { f := 126, cuts := [], tab := [match_New_S (fun _ => true)], fm := ⟨true, [.val (.int .i64) []]⟩ }
noncomputable def match_Check (a0 : D_api_Settings) : Option (Int) := match_Check_I.call [(.agg T_api_Settings (inj false T_api_Settings a0))] []
theorem match_Check_eq (a0 : D_api_Settings) : match_Check a0 = (
(match_New).bind fun r1 =>
if (peq T_api_Settings a0 r1) = true then
some (0 : Int)
else
if (decide (a0.1 ≥ (0 : Int))) = true then
if (decide (a0.1 ≤ (1073741824 : Int))) = true then
if (decide (a0.2.1 ≥ (1 : Int))) = true then
if (decide (a0.2.1 ≤ (40 : Int))) = true then
some (0 : Int)
else
some (8 : Int)
else
some (8 : Int)
else
some (8 : Int)
else
some (8 : Int)) := (FnI.call_eq (by kernel_rfl)).trans (by kernel_rfl)
noncomputable def match_Check_S (acc : List AV → Bool) : Summ Tryz.prog GT := match_Check_I.summ mixed acc false false
noncomputable def nibble_Check_I : FnI Tryz.prog GT := { f := 127, cuts := [], tab := [], fm := ⟨true, [.val (.int .i64) []]⟩ }
noncomputable def nibble_Check (a0 : D_api_Walk) : Option (Int) := nibble_Check_I.call [(.agg T_api_Walk (inj false T_api_Walk a0))] []
theorem nibble_Check_eq (a0 : D_api_Walk) : nibble_Check a0 = (
if (decide (a0.1 < (1 : Int))) = true then
some (8 : Int)
else
if (decide (a0.1 > (255 : Int))) = true then
some (8 : Int)
else
some (0 : Int)) := (FnI.call_eq (by kernel_rfl)).trans (by kernel_rfl)
noncomputable def nibble_Check_S (acc : List AV → Bool) : Summ Tryz.prog GT := nibble_Check_I.summ mixed acc false false
noncomputable def predict_Check_I : FnI Tryz.prog GT := { f := 97, cuts := [], tab := [predict_parts_S (fun _ => true), mixer_Check_S (fun _ => true), final_Check_S (fun _ => true), match_Check_S (fun _ => true), nibble_Check_S (fun _ => true), context_Of_S (fun _ => true)], fm := ⟨true, [.val (.int .i64) []]⟩ }
noncomputable def predict_Check (a0 : D_api_Predictor) : Option (Int) := predict_Check_I.call [(.agg T_api_Predictor (inj false T_api_Predictor a0))] []
theorem predict_Check_eq (a0 : D_api_Predictor) : predict_Check a0 = (
(predict_parts a0).bind fun r1 =>
if (not r1) = true then
some (8 : Int)
else
(mixer_Check a0.2.2.2.2.1).bind fun r2 =>
if (r2 != (0 : Int)) = true then
some (8 : Int)
else
if ((Int.ofNat (List.length a0.2.2.2.2.1.1)) != (256 : Int)) = true then
some (8 : Int)
else
(final_Check a0.2.2.2.2.2.1).bind fun r3 =>
if (r3 != (0 : Int)) = true then
some (8 : Int)
else
(match_Check a0.2.2.2.2.2.2.2.1).bind fun r4 =>
if (r4 != (0 : Int)) = true then
some (8 : Int)
else
(nibble_Check a0.2.2.2.2.2.2.2.2.1).bind fun r5 =>
if (r5 != (0 : Int)) = true then
some (8 : Int)
else
(context_Of a0.2.1).bind fun r6 =>
if (not (peq (.arr 6 (.int .u32)) r6.1 a0.2.2.2.2.2.2.2.2.2.1)) = true then
some (8 : Int)
else
some (0 : Int)) := (FnI.call_eq (by kernel_rfl)).trans (by kernel_rfl)
noncomputable def predict_Check_S (acc : List AV → Bool) : Summ Tryz.prog GT := predict_Check_I.summ mixed acc false false
noncomputable def math_bits_Len64_I : FnI Tryz.prog GT := { f := 236, cuts := [], tab := [], fm := ⟨true, [.val (.int .i64) []]⟩ }
noncomputable def math_bits_Len64 (a0 : Int) : Option (Int) := math_bits_Len64_I.call [(.int .u64 a0)] []
theorem math_bits_Len64_eq (a0 : Int) : math_bits_Len64 a0 = (
if (decide (a0 ≥ (4294967296 : Int))) = true then
gd (0 ≤ (32 : Int)) <|
if (decide ((Int.fdiv a0 (4294967296 : Int)) ≥ (65536 : Int))) = true then
gd (0 ≤ (16 : Int)) <|
if (decide ((Int.fdiv (Int.fdiv a0 (4294967296 : Int)) (65536 : Int)) ≥ (256 : Int))) = true then
gd (0 ≤ (8 : Int)) <|
gd (0 ≤ (IntKind.wrap .u8 (Int.fdiv (Int.fdiv (Int.fdiv a0 (4294967296 : Int)) (65536 : Int)) (256 : Int)))) <|
gd ((IntKind.wrap .u8 (Int.fdiv (Int.fdiv (Int.fdiv a0 (4294967296 : Int)) (65536 : Int)) (256 : Int))) < (t38Tab1.size : Int)) <|
some (IntKind.wrap .i64 ((56 : Int) + (IntKind.wrap .i64 (btAt t38Tab1 (Int.toNat (IntKind.wrap .u8 (Int.fdiv (Int.fdiv (Int.fdiv a0 (4294967296 : Int)) (65536 : Int)) (256 : Int))))))))
else
gd (0 ≤ (IntKind.wrap .u8 (Int.fdiv (Int.fdiv a0 (4294967296 : Int)) (65536 : Int)))) <|
gd ((IntKind.wrap .u8 (Int.fdiv (Int.fdiv a0 (4294967296 : Int)) (65536 : Int))) < (t38Tab1.size : Int)) <|
some (IntKind.wrap .i64 ((48 : Int) + (IntKind.wrap .i64 (btAt t38Tab1 (Int.toNat (IntKind.wrap .u8 (Int.fdiv (Int.fdiv a0 (4294967296 : Int)) (65536 : Int))))))))
else
if (decide ((Int.fdiv a0 (4294967296 : Int)) ≥ (256 : Int))) = true then
gd (0 ≤ (8 : Int)) <|
gd (0 ≤ (IntKind.wrap .u8 (Int.fdiv (Int.fdiv a0 (4294967296 : Int)) (256 : Int)))) <|
gd ((IntKind.wrap .u8 (Int.fdiv (Int.fdiv a0 (4294967296 : Int)) (256 : Int))) < (t38Tab1.size : Int)) <|
some (IntKind.wrap .i64 ((40 : Int) + (IntKind.wrap .i64 (btAt t38Tab1 (Int.toNat (IntKind.wrap .u8 (Int.fdiv (Int.fdiv a0 (4294967296 : Int)) (256 : Int))))))))
else
gd (0 ≤ (IntKind.wrap .u8 (Int.fdiv a0 (4294967296 : Int)))) <|
gd ((IntKind.wrap .u8 (Int.fdiv a0 (4294967296 : Int))) < (t38Tab1.size : Int)) <|
some (IntKind.wrap .i64 ((32 : Int) + (IntKind.wrap .i64 (btAt t38Tab1 (Int.toNat (IntKind.wrap .u8 (Int.fdiv a0 (4294967296 : Int))))))))
else
if (decide (a0 ≥ (65536 : Int))) = true then
gd (0 ≤ (16 : Int)) <|
if (decide ((Int.fdiv a0 (65536 : Int)) ≥ (256 : Int))) = true then
gd (0 ≤ (8 : Int)) <|
gd (0 ≤ (IntKind.wrap .u8 (Int.fdiv (Int.fdiv a0 (65536 : Int)) (256 : Int)))) <|
gd ((IntKind.wrap .u8 (Int.fdiv (Int.fdiv a0 (65536 : Int)) (256 : Int))) < (t38Tab1.size : Int)) <|
some (IntKind.wrap .i64 ((24 : Int) + (IntKind.wrap .i64 (btAt t38Tab1 (Int.toNat (IntKind.wrap .u8 (Int.fdiv (Int.fdiv a0 (65536 : Int)) (256 : Int))))))))
else
gd (0 ≤ (IntKind.wrap .u8 (Int.fdiv a0 (65536 : Int)))) <|
gd ((IntKind.wrap .u8 (Int.fdiv a0 (65536 : Int))) < (t38Tab1.size : Int)) <|
some (IntKind.wrap .i64 ((16 : Int) + (IntKind.wrap .i64 (btAt t38Tab1 (Int.toNat (IntKind.wrap .u8 (Int.fdiv a0 (65536 : Int))))))))
else
if (decide (a0 ≥ (256 : Int))) = true then
gd (0 ≤ (8 : Int)) <|
gd (0 ≤ (IntKind.wrap .u8 (Int.fdiv a0 (256 : Int)))) <|
gd ((IntKind.wrap .u8 (Int.fdiv a0 (256 : Int))) < (t38Tab1.size : Int)) <|
some (IntKind.wrap .i64 ((8 : Int) + (IntKind.wrap .i64 (btAt t38Tab1 (Int.toNat (IntKind.wrap .u8 (Int.fdiv a0 (256 : Int))))))))
else
gd (0 ≤ (IntKind.wrap .u8 a0)) <|
gd ((IntKind.wrap .u8 a0) < (t38Tab1.size : Int)) <|
some (IntKind.wrap .i64 ((0 : Int) + (IntKind.wrap .i64 (btAt t38Tab1 (Int.toNat (IntKind.wrap .u8 a0))))))) := (FnI.call_eq (by kernel_rfl)).trans (by kernel_rfl)
noncomputable def math_bits_Len64_S (acc : List AV → Bool) : Summ Tryz.prog GT := math_bits_Len64_I.summ mixed acc false false
noncomputable def math_bits_Len_I : FnI Tryz.prog GT := { f := 207, cuts := [], tab := [math_bits_Len64_S (fun _ => true)], fm := ⟨true, [.val (.int .i64) []]⟩ }
noncomputable def math_bits_Len (a0 : Int) : Option (Int) := math_bits_Len_I.call [(.int .u64 a0)] []
theorem math_bits_Len_eq (a0 : Int) : math_bits_Len a0 = (
(math_bits_Len64 a0).bind fun r1 =>
some (r1)) := (FnI.call_eq (by kernel_rfl)).trans (by kernel_rfl)
noncomputable def math_bits_Len_S (acc : List AV → Bool) : Summ Tryz.prog GT := math_bits_Len_I.summ mixed acc false false
noncomputable def nibble_node_I : FnI Tryz.prog GT := { f := 162, cuts := [], tab := [math_bits_Len_S (fun _ => true)], fm := ⟨true, [.val (.int .i64) []]⟩ }
noncomputable def nibble_node (a0 : Int) : Option (Int) := nibble_node_I.call [(.int .i64 a0)] []
theorem nibble_node_eq (a0 : Int) : nibble_node a0 = (
(math_bits_Len (IntKind.wrap .u64 a0)).bind fun r1 =>
if (decide ((IntKind.wrap .i64 (r1 - (1 : Int))) < (4 : Int))) = true then
some (a0)
else
gd (0 ≤ (IntKind.wrap .i64 ((IntKind.wrap .i64 (r1 - (1 : Int))) - (4 : Int)))) <|
gd ((IntKind.wrap .i64 (shlBy .i64 (1 : Int) (IntKind.wrap .i64 ((IntKind.wrap .i64 (r1 - (1 : Int))) - (4 : Int))))) ≠ 0) <|
some (IntKind.wrap .i64 ((IntKind.wrap .i64 (shlBy .i64 (1 : Int) (IntKind.wrap .i64 ((IntKind.wrap .i64 (r1 - (1 : Int))) - (4 : Int))))) + (Int.tmod a0 (IntKind.wrap .i64 (shlBy .i64 (1 : Int) (IntKind.wrap .i64 ((IntKind.wrap .i64 (r1 - (1 : Int))) - (4 : Int))))))))) := (FnI.call_eq (by kernel_rfl)).trans (by kernel_rfl)
noncomputable def nibble_node_S (acc : List AV → Bool) : Summ Tryz.prog GT := nibble_node_I.summ mixed acc false false
noncomputable def nibble_Node_I : FnI Tryz.prog GT := { f := 128, cuts := [], tab := [nibble_Check_S (fun _ => true), nibble_node_S (fun _ => true)], fm := ⟨true, [.val (.int .i64) [], .val (.int .i64) []]⟩ }
noncomputable def nibble_Node (a0 : D_api_Walk) : Option (Int × Int) := nibble_Node_I.call [(.agg T_api_Walk (inj false T_api_Walk a0))] []
theorem nibble_Node_eq (a0 : D_api_Walk) : nibble_Node a0 = (
(nibble_Check a0).bind fun r1 =>
if (r1 != (0 : Int)) = true then
some ((0 : Int), r1)
else
(nibble_node a0.1).bind fun r2 =>
some (r2, (0 : Int))) := (FnI.call_eq (by kernel_rfl)).trans (by kernel_rfl)
noncomputable def nibble_Node_S (acc : List AV → Bool) : Summ Tryz.prog GT := nibble_Node_I.summ mixed acc false false
noncomputable def slots_at_I : FnI Tryz.prog GT := { f := 163, cuts := [], tab := [slots_Check_S (fun _ => true)], fm := ⟨true, [.val (.int .i64) []]⟩ }
noncomputable def slots_at (a0 : D_api_Table) (a1 : Int) (a2 : Int) : Option (Int) := slots_at_I.call [(.agg T_api_Table (inj false T_api_Table a0)), (.int .i64 a1), (.int .i64 a2)] []
theorem slots_at_eq (a0 : D_api_Table) (a1 : Int) (a2 : Int) : slots_at a0 a1 a2 = (
(slots_Check a0).bind fun r1 =>
if (r1 != (0 : Int)) = true then
some (r1)
else
if (decide (a1 < (0 : Int))) = true then
some (2 : Int)
else
if (decide (a1 ≥ (Int.ofNat (List.length a0.2.1)))) = true then
some (2 : Int)
else
if (decide (a2 < (1 : Int))) = true then
some (2 : Int)
else
if (decide (a2 > (15 : Int))) = true then
some (2 : Int)
else
some (0 : Int)) := (FnI.call_eq (by kernel_rfl)).trans (by kernel_rfl)
noncomputable def slots_at_S (acc : List AV → Bool) : Summ Tryz.prog GT := slots_at_I.summ mixed acc false false
noncomputable def slots_Get_I : FnI Tryz.prog GT := { f := 129, cuts := [], tab := [slots_at_S (fun _ => true)], fm := ⟨true, [.val (.int .u8) [], .val (.int .i64) []]⟩ }
noncomputable def slots_Get (a0 : D_api_Table) (a1 : Int) (a2 : Int) : Option (Int × Int) := slots_Get_I.call [(.agg T_api_Table (inj false T_api_Table a0)), (.int .i64 a1), (.int .i64 a2)] []
theorem slots_Get_eq (a0 : D_api_Table) (a1 : Int) (a2 : Int) : slots_Get a0 a1 a2 = (
(slots_at a0 a1 a2).bind fun r1 =>
if (r1 != (0 : Int)) = true then
some ((0 : Int), r1)
else
gd (0 ≤ a1) <|
gd (a1 < (Int.ofNat (List.length a0.2.1))) <|
gd (0 ≤ (IntKind.wrap .i64 (a2 - (1 : Int)))) <|
gd ((IntKind.wrap .i64 (a2 - (1 : Int))) < (15 : Int)) <|
some ((List.getD (List.getD a0.2.1 (Int.toNat a1) (pzero T_api_Slot)).2.1 (Int.toNat (IntKind.wrap .i64 (a2 - (1 : Int)))) (0 : Int)), (0 : Int))) := (FnI.call_eq (by kernel_rfl)).trans (by kernel_rfl)
noncomputable def slots_Get_S (acc : List AV → Bool) : Summ Tryz.prog GT := slots_Get_I.summ mixed acc false false
noncomputable def adapt_at_I : FnI Tryz.prog GT := { f := 164, cuts := [], tab := [adapt_Check_S (fun _ => true)], fm := ⟨true, [.val (.int .i64) []]⟩ }
noncomputable def adapt_at (a0 : D_api_Adapt) (a1 : Int) : Option (Int) := adapt_at_I.call [(.agg T_api_Adapt (inj false T_api_Adapt a0)), (.int .u8 a1)] []
theorem adapt_at_eq (a0 : D_api_Adapt) (a1 : Int) : adapt_at a0 a1 = (
(adapt_Check a0).bind fun r1 =>
if (r1 != (0 : Int)) = true then
some (r1)
else
if (decide (a1 ≥ (193 : Int))) = true then
some (2 : Int)
else
some (0 : Int)) := (FnI.call_eq (by kernel_rfl)).trans (by kernel_rfl)
noncomputable def adapt_at_S (acc : List AV → Bool) : Summ Tryz.prog GT := adapt_at_I.summ mixed acc false false
noncomputable def adapt_P_I : FnI Tryz.prog GT := { f := 130, cuts := [], tab := [adapt_at_S (fun _ => true)], fm := ⟨true, [.val (.int .i32) [], .val (.int .i64) []]⟩ }
noncomputable def adapt_P (a0 : D_api_Adapt) (a1 : Int) : Option (Int × Int) := adapt_P_I.call [(.agg T_api_Adapt (inj false T_api_Adapt a0)), (.int .u8 a1)] []
theorem adapt_P_eq (a0 : D_api_Adapt) (a1 : Int) : adapt_P a0 a1 = (
(adapt_at a0 a1).bind fun r1 =>
if (r1 != (0 : Int)) = true then
some ((0 : Int), r1)
else
gd (0 ≤ a1) <|
gd (a1 < (Int.ofNat (List.length a0.2.1))) <|
some ((List.getD a0.2.1 (Int.toNat a1) (0 : Int)), (0 : Int))) := (FnI.call_eq (by kernel_rfl)).trans (by kernel_rfl)
noncomputable def adapt_P_S (acc : List AV → Bool) : Summ Tryz.prog GT := adapt_P_I.summ mixed acc false false
noncomputable def squash_Stretch_1_I : FnI Tryz.prog GT := { f := 166, cuts := [], tab := [squash_Squash_S (fun _ => true)], fm := ⟨true, [.val .bool [], .box 0 (.int .i32) []]⟩ }
noncomputable def squash_Stretch_1 (a0 : Int) (b0 : Int) : Option (Bool × Int) := squash_Stretch_1_I.call [(.int .i64 a0), (.ptr (.int .i32) 0 [])] [(0, (.box (.int .i32) b0))]
theorem squash_Stretch_1_eq (a0 : Int) (b0 : Int) : squash_Stretch_1 a0 b0 = (
(squash_Squash (IntKind.wrap .i32 ((IntKind.wrap .i32 a0) - (2047 : Int)))).bind fun r1 =>
some ((decide (r1 ≥ b0)), b0)) := (FnI.call_eq (by kernel_rfl)).trans (by kernel_rfl)
noncomputable def squash_Stretch_1_S (acc : List AV → Bool) : Summ Tryz.prog GT := squash_Stretch_1_I.summ mixed acc false false
noncomputable def sort_Search_I : FnI Tryz.prog GT := { f := 165, cuts := [⟨(2, 3), [1, 5, 6], false, false, []⟩], tab := [squash_Stretch_1_S (fun _ => true)], fm := ⟨true, [.val (.int .i64) [], .box 0 (.int .i32) []]⟩ }
noncomputable def sort_Search (a0 : Int) (b0 : Int) : Option (Int × Int) := sort_Search_I.call [(.int .i64 a0), (.func 166 [0])] [(0, (.box (.int .i32) b0))]
noncomputable def sort_Search_c1 (v5 : Int) (v6 : Int) (b0 : Int) : Option (Int × Int) := sort_Search_I.sem ⟨[.code (cIn (cIn (cFst (cSnd (cSnd (bodyOf Tryz.prog 165)))))), .inLoop (cIn (cIn (cFst (cSnd (cSnd (bodyOf Tryz.prog 165)))))), .inBlock 0, .code (cSnd (cSnd (cSnd (bodyOf Tryz.prog 165))))], ⟨[(1, (.one (.func 166 [0]))), (5, (.one (.int .i64 v5))), (6, (.one (.int .i64 v6)))], [(0, some (.box (.int .i32) b0))], 9⟩⟩
theorem sort_Search_eq (a0 : Int) (b0 : Int) : sort_Search a0 b0 = (
sort_Search_c1 (0 : Int) a0 b0) := (FnI.call_eq (by kernel_rfl)).trans (by kernel_rfl)
theorem sort_Search_c1_eq (v5 : Int) (v6 : Int) (b0 : Int) : sort_Search_c1 v5 v6 b0 = (
if (decide (v5 < v6)) = true then
gd (0 ≤ (1 : Int)) <|
(squash_Stretch_1 (IntKind.wrap .i64 (Int.fdiv (IntKind.wrap .u64 (IntKind.wrap .i64 (v5 + v6))) (2 : Int))) b0).bind fun r1 =>
if (not r1.1) = true then
sort_Search_c1 (IntKind.wrap .i64 ((IntKind.wrap .i64 (Int.fdiv (IntKind.wrap .u64 (IntKind.wrap .i64 (v5 + v6))) (2 : Int))) + (1 : Int))) v6 r1.2
else
sort_Search_c1 v5 (IntKind.wrap .i64 (Int.fdiv (IntKind.wrap .u64 (IntKind.wrap .i64 (v5 + v6))) (2 : Int))) r1.2
else
some (v5, b0)) := (FnI.sem_eq _).trans (by kernel_rfl)
noncomputable def sort_Search_S (acc : List AV → Bool) : Summ Tryz.prog GT := sort_Search_I.summ mixed acc false false
noncomputable def squash_Stretch_I : FnI Tryz.prog GT := { f := 131, cuts := [], tab := [sort_Search_S (fun _ => true)], fm := ⟨true, [.val (.int .i32) []]⟩ }
noncomputable def squash_Stretch (a0 : Int) : Option (Int) := squash_Stretch_I.call [(.int .i32 a0)] []
theorem squash_Stretch_eq (a0 : Int) : squash_Stretch a0 = (
(sort_Search (4094 : Int) a0).bind fun r1 =>
some (IntKind.wrap .i32 ((IntKind.wrap .i32 r1.1) - (2047 : Int)))) := (FnI.call_eq (by kernel_rfl)).trans (by kernel_rfl)
noncomputable def squash_Stretch_S (acc : List AV → Bool) : Summ Tryz.prog GT := squash_Stretch_I.summ mixed acc false false
noncomputable def ring_At_I : FnI Tryz.prog GT := { f := 208, cuts := [], tab := [ring_Check_S (fun _ => true), ring_ago_S (fun _ => true)], fm := ⟨true, [.val (.int .u8) [], .val .bool [], .val (.int .i64) []]⟩ }
noncomputable def ring_At (a0 : D_api_Ring) (a1 : Int) : Option (Int × Bool × Int) := ring_At_I.call [(.agg T_api_Ring (inj false T_api_Ring a0)), (.int .i64 a1)] []
theorem ring_At_eq (a0 : D_api_Ring) (a1 : Int) : ring_At a0 a1 = (
(ring_Check a0).bind fun r1 =>
if (r1 != (0 : Int)) = true then
some ((0 : Int), (false, r1))
else
if (decide (a1 < (0 : Int))) = true then
some ((0 : Int), (false, (2 : Int)))
else
if (decide (a1 ≥ a0.2.2.1)) = true then
some ((0 : Int), (false, (0 : Int)))
else
if (decide ((IntKind.wrap .i64 (a0.2.2.1 - a1)) > (Int.ofNat (List.length a0.2.1)))) = true then
some ((0 : Int), (false, (0 : Int)))
else
(ring_ago a0 (IntKind.wrap .i64 (a0.2.2.1 - a1))).bind fun r2 =>
some (r2, (true, (0 : Int)))) := (FnI.call_eq (by kernel_rfl)).trans (by kernel_rfl)
noncomputable def ring_At_S (acc : List AV → Bool) : Summ Tryz.prog GT := ring_At_I.summ mixed acc false false
noncomputable def match_expect_I : FnI Tryz.prog GT := { f := 168, cuts := [], tab := [ring_At_S (fun _ => true)], fm := ⟨true, [.val (.int .u8) [], .val .bool []]⟩ }
noncomputable def match_expect (a0 : D_api_Settings) (a1 : D_api_Ring) : Option (Int × Bool) := match_expect_I.call [(.agg T_api_Settings (inj false T_api_Settings a0)), (.agg T_api_Ring (inj false T_api_Ring a1))] []
theorem match_expect_eq (a0 : D_api_Settings) (a1 : D_api_Ring) : match_expect a0 a1 = (
if (decide (a0.1 < (0 : Int))) = true then
some ((0 : Int), false)
else
(ring_At a1 a0.1).bind fun r1 =>
some (r1.1, r1.2.1)) := (FnI.call_eq (by kernel_rfl)).trans (by kernel_rfl)
noncomputable def match_expect_S (acc : List AV → Bool) : Summ Tryz.prog GT := match_expect_I.summ mixed acc false false
noncomputable def nibble_Bits_I : FnI Tryz.prog GT := { f := 169, cuts := [⟨(6, 3), [1, 5, 6], false, false, []⟩], tab := [nibble_Check_S (fun _ => true), math_bits_Len_S (fun _ => true)], fm := ⟨true, [.val (.slice .bool) [.nw], .val (.int .i64) []]⟩ }
noncomputable def nibble_Bits (a0 : D_api_Walk) : Option (List Bool × Int) := nibble_Bits_I.call [(.agg T_api_Walk (inj false T_api_Walk a0))] []
noncomputable def nibble_Bits_c1 (v6 : Int) (b8 : D_api_Walk) (h9 : List Bool) : Option (List Bool × Int) := nibble_Bits_I.sem ⟨[.code (cIn (cIn (cSnd (cFst (cSnd (cSnd (cSnd (bodyOf Tryz.prog 169)))))))), .inLoop (cIn (cIn (cSnd (cFst (cSnd (cSnd (cSnd (bodyOf Tryz.prog 169)))))))), .inBlock 0, .code (cSnd (cSnd (cSnd (cSnd (bodyOf Tryz.prog 169)))))], ⟨[(1, (.one (.ptr T_api_Walk 8 []))), (5, (.one (.ref .bool 9 0 (List.length h9) true))), (6, (.one (.int .i64 v6)))], [(8, some (.box T_api_Walk (inj false T_api_Walk b8))), (9, some (.row .bool true h9))], 10⟩⟩
theorem nibble_Bits_eq (a0 : D_api_Walk) : nibble_Bits a0 = (
(nibble_Check a0).bind fun r1 =>
if (r1 != (0 : Int)) = true then
some ([], r1)
else
(math_bits_Len (IntKind.wrap .u64 a0.1)).bind fun r2 =>
nibble_Bits_c1 (IntKind.wrap .i64 (r2 - (2 : Int))) a0 []) := (FnI.call_eq (by kernel_rfl)).trans (by kernel_rfl)
theorem nibble_Bits_c1_eq (v6 : Int) (b8 : D_api_Walk) (h9 : List Bool) : nibble_Bits_c1 v6 b8 h9 = (
if (decide (v6 ≥ (0 : Int))) = true then
gd (0 ≤ v6) <|
gd ((List.length (h9 ++ [((bitsAnd .i64 (shrBy .i64 b8.1 v6) (1 : Int)) == (1 : Int))])) * 1 ≤ 140737488355328) <|
nibble_Bits_c1 (IntKind.wrap .i64 (v6 - (1 : Int))) b8 (h9 ++ [((bitsAnd .i64 (shrBy .i64 b8.1 v6) (1 : Int)) == (1 : Int))])
else
some (h9, (0 : Int))) := (FnI.sem_eq _).trans (by kernel_rfl)
noncomputable def nibble_Bits_S (acc : List AV → Bool) : Summ Tryz.prog GT := nibble_Bits_I.summ mixed acc false false
noncomputable def match_Input_I : FnI Tryz.prog GT := { f := 132, cuts := [], tab := [match_Check_S (fun _ => true), ring_Check_S (fun _ => true), nibble_Check_S (fun _ => true), match_expect_S (fun _ => true), nibble_Bits_S (fun _ => true)], fm := ⟨true, [.val (.int .i32) [], .val (.int .i64) []]⟩ }
noncomputable def match_Input (a0 : D_api_Settings) (a1 : D_api_Ring) (a2 : D_api_Walk) : Option (Int × Int) := match_Input_I.call [(.agg T_api_Settings (inj false T_api_Settings a0)), (.agg T_api_Ring (inj false T_api_Ring a1)), (.agg T_api_Walk (inj false T_api_Walk a2))] []
theorem match_Input_eq (a0 : D_api_Settings) (a1 : D_api_Ring) (a2 : D_api_Walk) : match_Input a0 a1 a2 = (
(match_Check a0).bind fun r1 =>
if (r1 != (0 : Int)) = true then
some ((0 : Int), (8 : Int))
else
(ring_Check a1).bind fun r2 =>
if (r2 != (0 : Int)) = true then
some ((0 : Int), (8 : Int))
else
(nibble_Check a2).bind fun r3 =>
if (r3 != (0 : Int)) = true then
some ((0 : Int), (8 : Int))
else
(match_expect a0 a1).bind fun r4 =>
(nibble_Bits a2).bind fun r5 =>
if (not r4.2) = true then
some ((0 : Int), (0 : Int))
else
gd (0 ≤ (IntKind.wrap .i64 ((8 : Int) - (Int.ofNat (List.length r5.1))))) <|
if ((shrBy .i64 (IntKind.wrap .i64 ((256 : Int) + (IntKind.wrap .i64 r4.1))) (IntKind.wrap .i64 ((8 : Int) - (Int.ofNat (List.length r5.1))))) != a2.1) = true then
some ((0 : Int), (0 : Int))
else
gd (0 ≤ (IntKind.wrap .i64 ((7 : Int) - (Int.ofNat (List.length r5.1))))) <|
if ((bitsAnd .u8 (shrBy .u8 r4.1 (IntKind.wrap .i64 ((7 : Int) - (Int.ofNat (List.length r5.1))))) (1 : Int)) == (1 : Int)) = true then
some ((IntKind.wrap .i32 (IntKind.wrap .i64 ((50 : Int) * a0.2.1))), (0 : Int))
else
some ((IntKind.wrap .i32 (IntKind.wrap .i64 ((-50 : Int) * a0.2.1))), (0 : Int))) := (FnI.call_eq (by kernel_rfl)).trans (by kernel_rfl)
noncomputable def match_Input_S (acc : List AV → Bool) : Summ Tryz.prog GT := match_Input_I.summ mixed acc false false
noncomputable def mixer_keep_I : FnI Tryz.prog GT := { f := 172, cuts := [], tab := [], fm := ⟨true, [.val (.int .i32) []]⟩ }
noncomputable def mixer_keep (a0 : Int) : Option (Int) := mixer_keep_I.call [(.int .i32 a0)] []
theorem mixer_keep_eq (a0 : Int) : mixer_keep a0 = (
some (if (if a0 < (2047 : Int) then a0 else (2047 : Int)) > (-2047 : Int) then (if a0 < (2047 : Int) then a0 else (2047 : Int)) else (-2047 : Int))) := (FnI.call_eq (by kernel_rfl)).trans (by kernel_rfl)
noncomputable def mixer_keep_S (acc : List AV → Bool) : Summ Tryz.prog GT := mixer_keep_I.summ mixed acc false false
noncomputable def mixer_check_1_I : FnI Tryz.prog GT := { f := 209, cuts := [], tab := [mixer_keep_S (fun _ => true)], fm := ⟨true, [.val .bool []]⟩ }
noncomputable def mixer_check_1 (a0 : Int) : Option (Bool) := mixer_check_1_I.call [(.int .i32 a0)] []
theorem mixer_check_1_eq (a0 : Int) : mixer_check_1 a0 = (
(mixer_keep a0).bind fun r1 =>
some (r1 != a0)) := (FnI.call_eq (by kernel_rfl)).trans (by kernel_rfl)
noncomputable def mixer_check_1_S (acc : List AV → Bool) : Summ Tryz.prog GT := mixer_check_1_I.summ mixed acc false false
noncomputable def slices_IndexFunc_int32_int32_v2_I : FnI Tryz.prog GT := { f := 237, cuts := [⟨(2, 3), [0, 1, 7, 8], false, false, []⟩], tab := [mixer_check_1_S (fun _ => true)], fm := ⟨true, [.val (.int .i64) []]⟩ }
noncomputable def slices_IndexFunc_int32_int32_v2 (a0 : List Int) : Option (Int) := slices_IndexFunc_int32_int32_v2_I.call [(.sl (.int .i32) false a0), (.func 209 [])] []
noncomputable def slices_IndexFunc_int32_int32_v2_c1 (v0 : List Int) (v7 : Int) (v8 : Int) : Option (Int) := slices_IndexFunc_int32_int32_v2_I.sem ⟨[.code (cIn (cIn (cSnd (cFst (cSnd (bodyOf Tryz.prog 237)))))), .inLoop (cIn (cIn (cSnd (cFst (cSnd (bodyOf Tryz.prog 237)))))), .inBlock 0, .code (cSnd (cSnd (bodyOf Tryz.prog 237)))], ⟨[(0, (.one (.sl (.int .i32) false v0))), (1, (.one (.func 209 []))), (7, (.one (.int .i64 v7))), (8, (.one (.int .i64 v8)))], [], 8⟩⟩
theorem slices_IndexFunc_int32_int32_v2_eq (a0 : List Int) : slices_IndexFunc_int32_int32_v2 a0 = (
slices_IndexFunc_int32_int32_v2_c1 a0 (Int.ofNat (List.length a0)) (0 : Int)) := (FnI.call_eq (by kernel_rfl)).trans (by kernel_rfl)
theorem slices_IndexFunc_int32_int32_v2_c1_eq (v0 : List Int) (v7 : Int) (v8 : Int) : slices_IndexFunc_int32_int32_v2_c1 v0 v7 v8 = (
if (decide (v8 < v7)) = true then
gd (0 ≤ v8) <|
gd (v8 < (Int.ofNat (List.length v0))) <|
(mixer_check_1 (List.getD v0 (Int.toNat v8) (0 : Int))).bind fun r1 =>
if r1 = true then
some (v8)
else
slices_IndexFunc_int32_int32_v2_c1 v0 v7 (IntKind.wrap .i64 (v8 + (1 : Int)))
else
some (-1 : Int)) := (FnI.sem_eq _).trans (by kernel_rfl)
noncomputable def slices_IndexFunc_int32_int32_v2_S (acc : List AV → Bool) : Summ Tryz.prog GT := slices_IndexFunc_int32_int32_v2_I.summ mixed acc false false
noncomputable def slices_ContainsFunc_int32_int32_v2_I : FnI Tryz.prog GT := { f := 210, cuts := [], tab := [slices_IndexFunc_int32_int32_v2_S (fun _ => true)], fm := ⟨true, [.val .bool []]⟩ }
noncomputable def slices_ContainsFunc_int32_int32_v2 (a0 : List Int) : Option (Bool) := slices_ContainsFunc_int32_int32_v2_I.call [(.sl (.int .i32) false a0), (.func 209 [])] []
theorem slices_ContainsFunc_int32_int32_v2_eq (a0 : List Int) : slices_ContainsFunc_int32_int32_v2 a0 = (
(slices_IndexFunc_int32_int32_v2 a0).bind fun r1 =>
some (decide (r1 ≥ (0 : Int)))) := (FnI.call_eq (by kernel_rfl)).trans (by kernel_rfl)
noncomputable def slices_ContainsFunc_int32_int32_v2_S (acc : List AV → Bool) : Summ Tryz.prog GT := slices_ContainsFunc_int32_int32_v2_I.summ mixed acc false false
noncomputable def mixer_check_I : FnI Tryz.prog GT := { f := 170, cuts := [], tab := [mixer_Check_S (fun _ => true), slices_ContainsFunc_int32_int32_v2_S (fun _ => true)], fm := ⟨true, [.val (.int .i64) []]⟩ }
noncomputable def mixer_check (a0 : D_api_Mixer) (a1 : Int) (a2 : List Int) : Option (Int) := mixer_check_I.call [(.agg T_api_Mixer (inj false T_api_Mixer a0)), (.int .i64 a1), (.sl (.int .i32) false a2)] []
theorem mixer_check_eq (a0 : D_api_Mixer) (a1 : Int) (a2 : List Int) : mixer_check a0 a1 a2 = (
(mixer_Check a0).bind fun r1 =>
if (r1 != (0 : Int)) = true then
some (r1)
else
if (decide (a1 < (0 : Int))) = true then
some (2 : Int)
else
if (decide (a1 ≥ (Int.ofNat (List.length a0.1)))) = true then
some (2 : Int)
else
if ((Int.ofNat (List.length a2)) != (8 : Int)) = true then
some (2 : Int)
else
(slices_ContainsFunc_int32_int32_v2 a2).bind fun r2 =>
if r2 = true then
some (2 : Int)
else
some (0 : Int)) := (FnI.call_eq (by kernel_rfl)).trans (by kernel_rfl)
noncomputable def mixer_check_S (acc : List AV → Bool) : Summ Tryz.prog GT := mixer_check_I.summ mixed acc false false
noncomputable def fixed_Sat_I : FnI Tryz.prog GT := { f := 212, cuts := [], tab := [], fm := ⟨true, [.val (.int .i32) []]⟩ }
noncomputable def fixed_Sat (a0 : Int) : Option (Int) := fixed_Sat_I.call [(.int .i64 a0)] []
theorem fixed_Sat_eq (a0 : Int) : fixed_Sat a0 = (
some (IntKind.wrap .i32 (if (2147483647 : Int) < (if (-2147483648 : Int) > a0 then (-2147483648 : Int) else a0) then (2147483647 : Int) else (if (-2147483648 : Int) > a0 then (-2147483648 : Int) else a0)))) := (FnI.call_eq (by kernel_rfl)).trans (by kernel_rfl)
noncomputable def fixed_Sat_S (acc : List AV → Bool) : Summ Tryz.prog GT := fixed_Sat_I.summ mixed acc false false
noncomputable def fixed_Dot_I : FnI Tryz.prog GT := { f := 171, cuts := [⟨(7, 3), [1, 6, 7, 24, 25, 26], false, false, []⟩], tab := [bits_Add64_S (fun _ => true), fixed_Sat_S (fun _ => true)], fm := ⟨true, [.val (.int .i32) [], .val (.int .i64) []]⟩ }
noncomputable def fixed_Dot (a0 : List Int) (a1 : List Int) : Option (Int × Int) := fixed_Dot_I.call [(.sl (.int .i32) false a0), (.sl (.int .i32) false a1)] []
noncomputable def fixed_Dot_c1 (v1 : List Int) (v6 : Int) (v7 : Int) (v24 : List Int) (v25 : Int) (v26 : Int) : Option (Int × Int) := fixed_Dot_I.sem ⟨[.code (cIn (cIn (cSnd (cFst (cSnd (cSnd (cSnd (cSnd (bodyOf Tryz.prog 171))))))))), .inLoop (cIn (cIn (cSnd (cFst (cSnd (cSnd (cSnd (cSnd (bodyOf Tryz.prog 171))))))))), .inBlock 0, .code (cSnd (cSnd (cSnd (cSnd (cSnd (bodyOf Tryz.prog 171))))))], ⟨[(1, (.one (.sl (.int .i32) false v1))), (6, (.one (.int .i64 v6))), (7, (.one (.int .u64 v7))), (24, (.one (.sl (.int .i32) false v24))), (25, (.one (.int .i64 v25))), (26, (.one (.int .i64 v26)))], [], 8⟩⟩
theorem fixed_Dot_eq (a0 : List Int) (a1 : List Int) : fixed_Dot a0 a1 = (
if (decide ((if (Int.ofNat (List.length a1)) > (Int.ofNat (List.length a0)) then (Int.ofNat (List.length a1)) else (Int.ofNat (List.length a0))) > (16 : Int))) = true then
some ((0 : Int), (4 : Int))
else
if ((Int.ofNat (List.length a0)) != (Int.ofNat (List.length a1))) = true then
some ((0 : Int), (2 : Int))
else
fixed_Dot_c1 a1 (0 : Int) (0 : Int) a0 (Int.ofNat (List.length a0)) (0 : Int)) := (FnI.call_eq (by kernel_rfl)).trans (by kernel_rfl)
theorem fixed_Dot_c1_eq (v1 : List Int) (v6 : Int) (v7 : Int) (v24 : List Int) (v25 : Int) (v26 : Int) : fixed_Dot_c1 v1 v6 v7 v24 v25 v26 = (
if (decide (v26 < v25)) = true then
gd (0 ≤ v26) <|
gd (v26 < (Int.ofNat (List.length v24))) <|
gd (0 ≤ v26) <|
gd (v26 < (Int.ofNat (List.length v1))) <|
(bits_Add64 v7 (IntKind.wrap .u64 (IntKind.wrap .i64 ((IntKind.wrap .i64 (List.getD v24 (Int.toNat v26) (0 : Int))) * (IntKind.wrap .i64 (List.getD v1 (Int.toNat v26) (0 : Int)))))) (0 : Int)).bind fun r1 =>
gd (0 ≤ (63 : Int)) <|
fixed_Dot_c1 v1 (IntKind.wrap .i64 ((IntKind.wrap .i64 (v6 + (Int.fdiv (IntKind.wrap .i64 ((IntKind.wrap .i64 (List.getD v24 (Int.toNat v26) (0 : Int))) * (IntKind.wrap .i64 (List.getD v1 (Int.toNat v26) (0 : Int))))) (9223372036854775808 : Int)))) + (IntKind.wrap .i64 r1.2))) r1.1 v24 v25 (IntKind.wrap .i64 (v26 + (1 : Int)))
else
if (decide (v6 > (0 : Int))) = true then
some ((2147483647 : Int), (0 : Int))
else
if (v6 == (0 : Int)) = true then
if (decide (v7 > (9223372036854775807 : Int))) = true then
some ((2147483647 : Int), (0 : Int))
else
if (decide (v6 < (-1 : Int))) = true then
some ((-2147483648 : Int), (0 : Int))
else
if (v6 == (-1 : Int)) = true then
if (decide (v7 ≤ (9223372036854775807 : Int))) = true then
some ((-2147483648 : Int), (0 : Int))
else
(fixed_Sat (IntKind.wrap .i64 v7)).bind fun r2 =>
some (r2, (0 : Int))
else
(fixed_Sat (IntKind.wrap .i64 v7)).bind fun r3 =>
some (r3, (0 : Int))
else
if (decide (v6 < (-1 : Int))) = true then
some ((-2147483648 : Int), (0 : Int))
else
if (v6 == (-1 : Int)) = true then
if (decide (v7 ≤ (9223372036854775807 : Int))) = true then
some ((-2147483648 : Int), (0 : Int))
else
(fixed_Sat (IntKind.wrap .i64 v7)).bind fun r4 =>
some (r4, (0 : Int))
else
(fixed_Sat (IntKind.wrap .i64 v7)).bind fun r5 =>
some (r5, (0 : Int))) := (FnI.sem_eq _).trans (by kernel_rfl)
noncomputable def fixed_Dot_S (acc : List AV → Bool) : Summ Tryz.prog GT := fixed_Dot_I.summ mixed acc false false
noncomputable def mixer_Mix_I : FnI Tryz.prog GT := { f := 133, cuts := [], tab := [mixer_check_S (fun _ => true), fixed_Dot_S (fun _ => true), mixer_keep_S (fun _ => true), squash_Squash_S (fun _ => true)], fm := ⟨true, [.val (.int .i32) [], .val (.int .i32) [], .val (.int .i64) []]⟩ }
noncomputable def mixer_Mix (a0 : D_api_Mixer) (a1 : Int) (a2 : List Int) : Option (Int × Int × Int) := mixer_Mix_I.call [(.agg T_api_Mixer (inj false T_api_Mixer a0)), (.int .i64 a1), (.sl (.int .i32) false a2)] []
theorem mixer_Mix_eq (a0 : D_api_Mixer) (a1 : Int) (a2 : List Int) : mixer_Mix a0 a1 a2 = (
(mixer_check a0 a1 a2).bind fun r1 =>
if (r1 != (0 : Int)) = true then
some ((0 : Int), ((0 : Int), r1))
else
gd (0 ≤ a1) <|
gd (a1 < (Int.ofNat (List.length a0.1))) <|
(fixed_Dot (List.getD a0.1 (Int.toNat a1) []) a2).bind fun r2 =>
gd (0 ≤ (16 : Int)) <|
(mixer_keep (Int.fdiv r2.1 (65536 : Int))).bind fun r3 =>
(squash_Squash r3).bind fun r4 =>
some (r3, (r4, (0 : Int)))) := (FnI.call_eq (by kernel_rfl)).trans (by kernel_rfl)
noncomputable def mixer_Mix_S (acc : List AV → Bool) : Summ Tryz.prog GT := mixer_Mix_I.summ mixed acc false false
noncomputable def context_Recent_I : FnI Tryz.prog GT := { f := 134, cuts := [], tab := [ring_Check_S (fun _ => true), context_back_S (fun _ => true)], fm := ⟨true, [.val (.int .u8) [], .val (.int .u8) [], .val (.int .i64) []]⟩ }
noncomputable def context_Recent (a0 : D_api_Ring) : Option (Int × Int × Int) := context_Recent_I.call [(.agg T_api_Ring (inj false T_api_Ring a0))] []
theorem context_Recent_eq (a0 : D_api_Ring) : context_Recent a0 = (
(ring_Check a0).bind fun r1 =>
if (r1 != (0 : Int)) = true then
some ((0 : Int), ((0 : Int), r1))
else
(context_back a0 (2 : Int)).bind fun r2 =>
gd (0 ≤ (1 : Int)) <|
gd ((1 : Int) < (Int.ofNat (List.length r2))) <|
gd (0 ≤ (0 : Int)) <|
gd ((0 : Int) < (Int.ofNat (List.length r2))) <|
some ((List.getD r2 1 (0 : Int)), ((List.getD r2 0 (0 : Int)), (0 : Int)))) := (FnI.call_eq (by kernel_rfl)).trans (by kernel_rfl)
noncomputable def context_Recent_S (acc : List AV → Bool) : Summ Tryz.prog GT := context_Recent_I.summ mixed acc false false
noncomputable def final_Rows_I : FnI Tryz.prog GT := { f := 135, cuts := [], tab := [hashes_Of_S (fun _ => true), hashes_Place_S (fun _ => true)], fm := ⟨true, [.val (.arr 2 (.int .i64)) [], .val (.int .i64) []]⟩ }
noncomputable def final_Rows (a0 : Int) (a1 : Int) (a2 : Int) : Option ((List Int) × Int) := final_Rows_I.call [(.int .u8 a0), (.int .u8 a1), (.int .i64 a2)] []
theorem final_Rows_eq (a0 : Int) (a1 : Int) (a2 : Int) : final_Rows a0 a1 a2 = (
if (decide (a2 < (1 : Int))) = true then
some ((List.replicate 2 (0 : Int)), (2 : Int))
else
if (decide (a2 > (255 : Int))) = true then
some ((List.replicate 2 (0 : Int)), (2 : Int))
else
(hashes_Of (7 : Int) [a1, a0, (IntKind.wrap .u8 a2)]).bind fun r1 =>
(hashes_Place r1.1 (256 : Int)).bind fun r2 =>
some ((List.set (List.set (List.replicate 2 (0 : Int)) 0 a2) 1 r2.1), (0 : Int))) := (FnI.call_eq (by kernel_rfl)).trans (by kernel_rfl)
noncomputable def final_Rows_S (acc : List AV → Bool) : Summ Tryz.prog GT := final_Rows_I.summ mixed acc false false
noncomputable def refine_check_I : FnI Tryz.prog GT := { f := 213, cuts := [], tab := [refine_Check_S (fun _ => true)], fm := ⟨true, [.val (.int .i64) []]⟩ }
noncomputable def refine_check (a0 : D_api_Mixer) (a1 : Int) : Option (Int) := refine_check_I.call [(.agg T_api_Mixer (inj false T_api_Mixer a0)), (.int .i64 a1)] []
theorem refine_check_eq (a0 : D_api_Mixer) (a1 : Int) : refine_check a0 a1 = (
(refine_Check a0).bind fun r1 =>
if (r1 != (0 : Int)) = true then
some (r1)
else
if (decide (a1 < (0 : Int))) = true then
some (2 : Int)
else
if (decide (a1 ≥ (Int.ofNat (List.length a0.1)))) = true then
some (2 : Int)
else
some (0 : Int)) := (FnI.call_eq (by kernel_rfl)).trans (by kernel_rfl)
noncomputable def refine_check_S (acc : List AV → Bool) : Summ Tryz.prog GT := refine_check_I.summ mixed acc false false
noncomputable def refine_Look_I : FnI Tryz.prog GT := { f := 174, cuts := [], tab := [refine_check_S (fun _ => true)], fm := ⟨true, [.val (.int .i32) [], .val (.int .i64) [], .val (.int .i64) []]⟩ }
noncomputable def refine_Look (a0 : D_api_Mixer) (a1 : Int) (a2 : Int) : Option (Int × Int × Int) := refine_Look_I.call [(.agg T_api_Mixer (inj false T_api_Mixer a0)), (.int .i64 a1), (.int .i32 a2)] []
theorem refine_Look_eq (a0 : D_api_Mixer) (a1 : Int) (a2 : Int) : refine_Look a0 a1 a2 = (
(refine_check a0 a1).bind fun r1 =>
if (r1 != (0 : Int)) = true then
some ((0 : Int), ((0 : Int), r1))
else
if (decide (a2 < (-2047 : Int))) = true then
some ((0 : Int), ((0 : Int), (2 : Int)))
else
if (decide (a2 > (2047 : Int))) = true then
some ((0 : Int), ((0 : Int), (2 : Int)))
else
gd ((128 : Int) ≠ 0) <|
gd ((128 : Int) ≠ 0) <|
gd (0 ≤ a1) <|
gd (a1 < (Int.ofNat (List.length a0.1))) <|
gd (0 ≤ (IntKind.wrap .i64 (Int.tdiv (IntKind.wrap .i64 (IntKind.wrap .i32 (a2 + (2048 : Int)))) (128 : Int)))) <|
gd ((IntKind.wrap .i64 (Int.tdiv (IntKind.wrap .i64 (IntKind.wrap .i32 (a2 + (2048 : Int)))) (128 : Int))) < (Int.ofNat (List.length (List.getD a0.1 (Int.toNat a1) [])))) <|
gd (0 ≤ (IntKind.wrap .i64 ((IntKind.wrap .i64 (Int.tdiv (IntKind.wrap .i64 (IntKind.wrap .i32 (a2 + (2048 : Int)))) (128 : Int))) + (1 : Int)))) <|
gd ((IntKind.wrap .i64 ((IntKind.wrap .i64 (Int.tdiv (IntKind.wrap .i64 (IntKind.wrap .i32 (a2 + (2048 : Int)))) (128 : Int))) + (1 : Int))) < (Int.ofNat (List.length (List.getD a0.1 (Int.toNat a1) [])))) <|
gd ((2048 : Int) ≠ 0) <|
gd ((64 : Int) ≠ 0) <|
some ((IntKind.wrap .i32 (Int.tdiv (IntKind.wrap .i32 ((IntKind.wrap .i32 ((IntKind.wrap .i32 ((128 : Int) - (Int.tmod (IntKind.wrap .i32 (a2 + (2048 : Int))) (128 : Int)))) * (List.getD (List.getD a0.1 (Int.toNat a1) []) (Int.toNat (IntKind.wrap .i64 (Int.tdiv (IntKind.wrap .i64 (IntKind.wrap .i32 (a2 + (2048 : Int)))) (128 : Int)))) (0 : Int)))) + (IntKind.wrap .i32 ((Int.tmod (IntKind.wrap .i32 (a2 + (2048 : Int))) (128 : Int)) * (List.getD (List.getD a0.1 (Int.toNat a1) []) (Int.toNat (IntKind.wrap .i64 ((IntKind.wrap .i64 (Int.tdiv (IntKind.wrap .i64 (IntKind.wrap .i32 (a2 + (2048 : Int)))) (128 : Int))) + (1 : Int)))) (0 : Int)))))) (2048 : Int))), ((IntKind.wrap .i64 ((IntKind.wrap .i64 (Int.tdiv (IntKind.wrap .i64 (IntKind.wrap .i32 (a2 + (2048 : Int)))) (128 : Int))) + (IntKind.wrap .i64 (IntKind.wrap .i32 (Int.tdiv (Int.tmod (IntKind.wrap .i32 (a2 + (2048 : Int))) (128 : Int)) (64 : Int)))))), (0 : Int)))) := (FnI.call_eq (by kernel_rfl)).trans (by kernel_rfl)
noncomputable def refine_Look_S (acc : List AV → Bool) : Summ Tryz.prog GT := refine_Look_I.summ mixed acc false false
noncomputable def final_prob_I : FnI Tryz.prog GT := { f := 175, cuts := [], tab := [], fm := ⟨true, [.val .bool []]⟩ }
noncomputable def final_prob (a0 : Int) : Option (Bool) := final_prob_I.call [(.int .i32 a0)] []
theorem final_prob_eq (a0 : Int) : final_prob a0 = (
if (decide (a0 ≥ (0 : Int))) = true then
some (decide (a0 ≤ (4095 : Int)))
else
some (false)) := (FnI.call_eq (by kernel_rfl)).trans (by kernel_rfl)
noncomputable def final_prob_S (acc : List AV → Bool) : Summ Tryz.prog GT := final_prob_I.summ mixed acc false false
noncomputable def final_join_I : FnI Tryz.prog GT := { f := 176, cuts := [], tab := [], fm := ⟨true, [.val (.int .i32) []]⟩ }
noncomputable def final_join (a0 : Int) (a1 : Int) (a2 : Int) : Option (Int) := final_join_I.call [(.int .i32 a0), (.int .i32 a1), (.int .i32 a2)] []
theorem final_join_eq (a0 : Int) (a1 : Int) (a2 : Int) : final_join a0 a1 a2 = (
gd ((4 : Int) ≠ 0) <|
gd ((2 : Int) ≠ 0) <|
gd ((2 : Int) ≠ 0) <|
some (if (if (IntKind.wrap .i32 (Int.tdiv (IntKind.wrap .i32 ((IntKind.wrap .i32 ((IntKind.wrap .i32 (Int.tdiv (IntKind.wrap .i32 (a0 + (IntKind.wrap .i32 ((3 : Int) * a1)))) (4 : Int))) + (IntKind.wrap .i32 (Int.tdiv (IntKind.wrap .i32 (a0 + a2)) (2 : Int))))) + (1 : Int))) (2 : Int))) < (4095 : Int) then (IntKind.wrap .i32 (Int.tdiv (IntKind.wrap .i32 ((IntKind.wrap .i32 ((IntKind.wrap .i32 (Int.tdiv (IntKind.wrap .i32 (a0 + (IntKind.wrap .i32 ((3 : Int) * a1)))) (4 : Int))) + (IntKind.wrap .i32 (Int.tdiv (IntKind.wrap .i32 (a0 + a2)) (2 : Int))))) + (1 : Int))) (2 : Int))) else (4095 : Int)) > (1 : Int) then (if (IntKind.wrap .i32 (Int.tdiv (IntKind.wrap .i32 ((IntKind.wrap .i32 ((IntKind.wrap .i32 (Int.tdiv (IntKind.wrap .i32 (a0 + (IntKind.wrap .i32 ((3 : Int) * a1)))) (4 : Int))) + (IntKind.wrap .i32 (Int.tdiv (IntKind.wrap .i32 (a0 + a2)) (2 : Int))))) + (1 : Int))) (2 : Int))) < (4095 : Int) then (IntKind.wrap .i32 (Int.tdiv (IntKind.wrap .i32 ((IntKind.wrap .i32 ((IntKind.wrap .i32 (Int.tdiv (IntKind.wrap .i32 (a0 + (IntKind.wrap .i32 ((3 : Int) * a1)))) (4 : Int))) + (IntKind.wrap .i32 (Int.tdiv (IntKind.wrap .i32 (a0 + a2)) (2 : Int))))) + (1 : Int))) (2 : Int))) else (4095 : Int)) else (1 : Int))) := (FnI.call_eq (by kernel_rfl)).trans (by kernel_rfl)
noncomputable def final_join_S (acc : List AV → Bool) : Summ Tryz.prog GT := final_join_I.summ mixed acc false false
noncomputable def final_Look_I : FnI Tryz.prog GT := { f := 136, cuts := [], tab := [final_Check_S (fun _ => true), refine_Look_S (fun _ => true), final_prob_S (fun _ => true), final_join_S (fun _ => true)], fm := ⟨true, [.val (.int .i32) [], .val T_api_Chosen [], .val (.int .i64) []]⟩ }
noncomputable def final_Look (a0 : D_api_Final) (a1 : (List Int)) (a2 : Int) (a3 : Int) : Option (Int × D_api_Chosen × Int) := final_Look_I.call [(.agg T_api_Final (inj false T_api_Final a0)), (.agg (.arr 2 (.int .i64)) a1), (.int .i32 a2), (.int .i32 a3)] []
theorem final_Look_eq (a0 : D_api_Final) (a1 : (List Int)) (a2 : Int) (a3 : Int) : final_Look a0 a1 a2 a3 = (
(final_Check a0).bind fun r1 =>
if (r1 != (0 : Int)) = true then
some ((0 : Int), (((List.replicate 2 (0 : Int)), ((List.replicate 2 (0 : Int)), ())), r1))
else
gd (0 ≤ (0 : Int)) <|
gd ((0 : Int) < (2 : Int)) <|
(refine_Look a0.1 (List.getD a1 0 (0 : Int)) a2).bind fun r2 =>
gd (0 ≤ (1 : Int)) <|
gd ((1 : Int) < (2 : Int)) <|
(refine_Look a0.2.1 (List.getD a1 1 (0 : Int)) a2).bind fun r3 =>
if (r2.2.2 != (0 : Int)) = true then
some ((0 : Int), (((List.replicate 2 (0 : Int)), ((List.replicate 2 (0 : Int)), ())), (2 : Int)))
else
if (r3.2.2 != (0 : Int)) = true then
some ((0 : Int), (((List.replicate 2 (0 : Int)), ((List.replicate 2 (0 : Int)), ())), (2 : Int)))
else
(final_prob a3).bind fun r4 =>
if (not r4) = true then
some ((0 : Int), (((List.replicate 2 (0 : Int)), ((List.replicate 2 (0 : Int)), ())), (2 : Int)))
else
(final_join a3 r2.1 r3.1).bind fun r5 =>
some (r5, ((a1, ((List.set (List.set (List.replicate 2 (0 : Int)) 0 r2.2.1) 1 r3.2.1), ())), (0 : Int)))) := (FnI.call_eq (by kernel_rfl)).trans (by kernel_rfl)
noncomputable def final_Look_S (acc : List AV → Bool) : Summ Tryz.prog GT := final_Look_I.summ mixed acc false false
noncomputable def predict_see_I : FnI Tryz.prog GT := { f := 98, cuts := [⟨(4, 3), [1, 2, 3, 28, 29, 30], false, false, []⟩], tab := [nibble_Node_S (fun _ => true), slots_Get_S (fun _ => true), adapt_P_S (fun _ => true), squash_Stretch_S (fun _ => true), match_Input_S (fun _ => true), mixer_Mix_S (fun _ => true), context_Recent_S (fun _ => true), final_Rows_S (fun _ => true), final_Look_S (fun _ => true)], fm := ⟨true, [.val T_predict_seen []]⟩ }
noncomputable def predict_see (a0 : D_api_Predictor) : Option (D_predict_seen) := predict_see_I.call [(.agg T_api_Predictor (inj false T_api_Predictor a0))] []
noncomputable def predict_see_c1 (v28 : List D_api_Table) (v29 : Int) (v30 : Int) (b8 : D_api_Predictor) (b9a : Int) (b9bbb : (Int × (Int × (D_api_Chosen × Unit)))) (b10a : Int) (b10bbb : (Int × (Int × (D_api_Chosen × Unit)))) (h11 : List Int) (h12 : List Int) (h13 : List Int) (h14 : List Int) : Option (D_predict_seen) := predict_see_I.sem ⟨[.code (cIn (cIn (cSnd (cFst (cSnd (cSnd (cSnd (bodyOf Tryz.prog 98)))))))), .inLoop (cIn (cIn (cSnd (cFst (cSnd (cSnd (cSnd (bodyOf Tryz.prog 98)))))))), .inBlock 0, .code (cSnd (cSnd (cSnd (cSnd (bodyOf Tryz.prog 98)))))], ⟨[(1, (.one (.ptr T_api_Predictor 8 []))), (2, (.one (.ptr T_predict_seen 9 []))), (3, (.one (.ptr T_predict_seen 10 []))), (28, (.one (.sl T_api_Table false v28))), (29, (.one (.int .i64 v29))), (30, (.one (.int .i64 v30)))], [(8, some (.box T_api_Predictor (inj false T_api_Predictor b8))), (9, some (.box T_predict_seen (b9a, ((SV.ref 11 0 (List.length h11) true), ((SV.ref 12 0 (List.length h12) true), (inj false (.pair (.int .i32) (.pair (.int .i32) (.pair T_api_Chosen .unit))) b9bbb)))))), (10, some (.box T_predict_seen (b10a, ((SV.ref 13 0 (List.length h13) true), ((SV.ref 14 0 (List.length h14) true), (inj false (.pair (.int .i32) (.pair (.int .i32) (.pair T_api_Chosen .unit))) b10bbb)))))), (11, some (.row (.int .u8) true h11)), (12, some (.row (.int .i32) true h12)), (13, some (.row (.int .u8) true h13)), (14, some (.row (.int .i32) true h14))], 15⟩⟩
theorem predict_see_eq (a0 : D_api_Predictor) : predict_see a0 = (
(nibble_Node a0.2.2.2.2.2.2.2.2.1).bind fun r1 =>
predict_see_c1 a0.2.2.1 (Int.ofNat (List.length a0.2.2.1)) (0 : Int) a0 (0 : Int) ((0 : Int), ((0 : Int), (((List.replicate 2 (0 : Int)), ((List.replicate 2 (0 : Int)), ())), ()))) r1.1 ((0 : Int), ((0 : Int), (((List.replicate 2 (0 : Int)), ((List.replicate 2 (0 : Int)), ())), ()))) [] [] [] []) := (FnI.call_eq (by kernel_rfl)).trans (by kernel_rfl)
theorem predict_see_c1_eq (v28 : List D_api_Table) (v29 : Int) (v30 : Int) (b8 : D_api_Predictor) (b9a : Int) (b9bbb : (Int × (Int × (D_api_Chosen × Unit)))) (b10a : Int) (b10bbb : (Int × (Int × (D_api_Chosen × Unit)))) (h11 : List Int) (h12 : List Int) (h13 : List Int) (h14 : List Int) : predict_see_c1 v28 v29 v30 b8 b9a b9bbb b10a b10bbb h11 h12 h13 h14 = (
if (decide (v30 < v29)) = true then
gd (0 ≤ v30) <|
gd (v30 < (Int.ofNat (List.length v28))) <|
gd (0 ≤ v30) <|
gd (v30 < (6 : Int)) <|
(slots_Get (List.getD v28 (Int.toNat v30) (pzero T_api_Table)) (List.getD b8.2.2.2.2.2.2.2.2.2.2.1 (Int.toNat v30) (0 : Int)) b10a).bind fun r2 =>
gd (0 ≤ v30) <|
gd (v30 < (Int.ofNat (List.length b8.2.2.2.1))) <|
(adapt_P (List.getD b8.2.2.2.1 (Int.toNat v30) (pzero T_api_Adapt)) r2.1).bind fun r3 =>
gd ((List.length (h13 ++ [r2.1])) * 1 ≤ 140737488355328) <|
gd ((16 : Int) ≠ 0) <|
(squash_Stretch (IntKind.wrap .i32 (Int.tdiv r3.1 (16 : Int)))).bind fun r4 =>
gd ((List.length (h14 ++ [r4])) * 4 ≤ 140737488355328) <|
predict_see_c1 v28 v29 (IntKind.wrap .i64 (v30 + (1 : Int))) b8 b9a b9bbb b10a b10bbb h11 h12 (h13 ++ [r2.1]) (h14 ++ [r4])
else
(match_Input b8.2.2.2.2.2.2.2.1 b8.2.1 b8.2.2.2.2.2.2.2.2.1).bind fun r5 =>
gd ((List.length (h14 ++ [r5.1, (256 : Int)])) * 4 ≤ 140737488355328) <|
(mixer_Mix b8.2.2.2.2.1 b8.2.2.2.2.2.2.2.2.1.1 (h14 ++ [r5.1, (256 : Int)])).bind fun r6 =>
(context_Recent b8.2.1).bind fun r7 =>
(final_Rows r7.1 r7.2.1 b8.2.2.2.2.2.2.2.2.1.1).bind fun r8 =>
(final_Look b8.2.2.2.2.2.1 r8.1 r6.1 r6.2.1).bind fun r9 =>
some (b10a, (h13, ((h14 ++ [r5.1, (256 : Int)]), (r6.2.1, (r9.1, (r9.2.1, b10bbb.2.2.2))))))) := (FnI.sem_eq _).trans (by kernel_rfl)
noncomputable def predict_see_S (acc : List AV → Bool) : Summ Tryz.prog GT := predict_see_I.summ mixed acc false false
noncomputable def predict_P_I : FnI Tryz.prog GT := { f := 73, cuts := [], tab := [predict_Check_S (fun _ => true), predict_see_S (fun _ => true)], fm := ⟨true, [.val (.int .i64) [], .val (.int .i64) []]⟩ }
noncomputable def predict_P (a0 : D_api_Predictor) : Option (Int × Int) := predict_P_I.call [(.agg T_api_Predictor (inj false T_api_Predictor a0))] []
theorem predict_P_eq (a0 : D_api_Predictor) : predict_P a0 = (
(predict_Check a0).bind fun r1 =>
if (r1 != (0 : Int)) = true then
some ((0 : Int), r1)
else
(predict_see a0).bind fun r2 =>
some ((IntKind.wrap .i64 r2.2.2.2.2.1), (0 : Int))) := (FnI.call_eq (by kernel_rfl)).trans (by kernel_rfl)
noncomputable def predict_P_S (acc : List AV → Bool) : Summ Tryz.prog GT := predict_P_I.summ mixed acc false false
noncomputable def decoder_Check_I : FnI Tryz.prog GT := { f := 99, cuts := [], tab := [], fm := ⟨true, [.val (.int .i64) []]⟩ }
noncomputable def decoder_Check (a0 : D_api_Decoder) : Option (Int) := decoder_Check_I.call [(.agg T_api_Decoder (inj false T_api_Decoder a0))] []
theorem decoder_Check_eq (a0 : D_api_Decoder) : decoder_Check a0 = (
if (decide (a0.1 ≥ a0.2.1)) = true then
some (8 : Int)
else
gd (0 ≤ (24 : Int)) <|
gd (0 ≤ (24 : Int)) <|
if ((Int.fdiv a0.1 (16777216 : Int)) == (Int.fdiv a0.2.1 (16777216 : Int))) = true then
some (8 : Int)
else
if (decide (a0.2.2.1 < a0.1)) = true then
some (8 : Int)
else
if (decide (a0.2.2.1 > a0.2.1)) = true then
some (8 : Int)
else
if (decide ((Int.ofNat (List.length a0.2.2.2.1)) > (20000 : Int))) = true then
some (8 : Int)
else
if (decide (a0.2.2.2.2.1 < (4 : Int))) = true then
some (8 : Int)
else
if (decide (a0.2.2.2.2.1 > (1000000 : Int))) = true then
some (8 : Int)
else
some (0 : Int)) := (FnI.call_eq (by kernel_rfl)).trans (by kernel_rfl)
noncomputable def decoder_Check_S (acc : List AV → Bool) : Summ Tryz.prog GT := decoder_Check_I.summ mixed acc false false
noncomputable def decoder_wrong_I : FnI Tryz.prog GT := { f := 100, cuts := [], tab := [], fm := ⟨true, [.val .bool []]⟩ }
noncomputable def decoder_wrong (a0 : Int) : Option (Bool) := decoder_wrong_I.call [(.int .i64 a0)] []
theorem decoder_wrong_eq (a0 : Int) : decoder_wrong a0 = (
if (decide (a0 < (0 : Int))) = true then
some (true)
else
some (decide (a0 > (4095 : Int)))) := (FnI.call_eq (by kernel_rfl)).trans (by kernel_rfl)
noncomputable def decoder_wrong_S (acc : List AV → Bool) : Summ Tryz.prog GT := decoder_wrong_I.summ mixed acc false false
noncomputable def encoder_prob_I : FnI Tryz.prog GT := { f := 106, cuts := [], tab := [], fm := ⟨true, [.val .bool []]⟩ }
noncomputable def encoder_prob (a0 : Int) : Option (Bool) := encoder_prob_I.call [(.int .i64 a0)] []
theorem encoder_prob_eq (a0 : Int) : encoder_prob a0 = (
if (decide (a0 ≥ (0 : Int))) = true then
some (decide (a0 ≤ (4095 : Int)))
else
some (false)) := (FnI.call_eq (by kernel_rfl)).trans (by kernel_rfl)
noncomputable def encoder_prob_S (acc : List AV → Bool) : Summ Tryz.prog GT := encoder_prob_I.summ mixed acc false false
noncomputable def encoder_split_I : FnI Tryz.prog GT := { f := 141, cuts := [], tab := [], fm := ⟨true, [.val (.int .u32) []]⟩ }
noncomputable def encoder_split (a0 : Int) (a1 : Int) (a2 : Int) : Option (Int) := encoder_split_I.call [(.int .u32 a0), (.int .u32 a1), (.int .i64 a2)] []
theorem encoder_split_eq (a0 : Int) (a1 : Int) (a2 : Int) : encoder_split a0 a1 a2 = (
gd (0 ≤ (12 : Int)) <|
gd (0 ≤ (12 : Int)) <|
some (IntKind.wrap .u32 ((IntKind.wrap .u32 (a0 + (IntKind.wrap .u32 ((Int.fdiv (IntKind.wrap .u32 (a1 - a0)) (4096 : Int)) * (IntKind.wrap .u32 a2))))) + (Int.fdiv (IntKind.wrap .u32 ((bitsAnd .u32 (IntKind.wrap .u32 (a1 - a0)) (4095 : Int)) * (IntKind.wrap .u32 a2))) (4096 : Int))))) := (FnI.call_eq (by kernel_rfl)).trans (by kernel_rfl)
noncomputable def encoder_split_S (acc : List AV → Bool) : Summ Tryz.prog GT := encoder_split_I.summ mixed acc false false
noncomputable def encoder_Split_I : FnI Tryz.prog GT := { f := 137, cuts := [], tab := [encoder_prob_S (fun _ => true), encoder_split_S (fun _ => true)], fm := ⟨true, [.val (.int .u32) [], .val (.int .i64) []]⟩ }
noncomputable def encoder_Split (a0 : Int) (a1 : Int) (a2 : Int) : Option (Int × Int) := encoder_Split_I.call [(.int .u32 a0), (.int .u32 a1), (.int .i64 a2)] []
theorem encoder_Split_eq (a0 : Int) (a1 : Int) (a2 : Int) : encoder_Split a0 a1 a2 = (
if (decide (a0 ≥ a1)) = true then
some ((0 : Int), (2 : Int))
else
(encoder_prob a2).bind fun r1 =>
if (not r1) = true then
some ((0 : Int), (2 : Int))
else
(encoder_split a0 a1 a2).bind fun r2 =>
some (r2, (0 : Int))) := (FnI.call_eq (by kernel_rfl)).trans (by kernel_rfl)
noncomputable def encoder_Split_S (acc : List AV → Bool) : Summ Tryz.prog GT := encoder_Split_I.summ mixed acc false false
noncomputable def decoder_get_I : FnI Tryz.prog GT := { f := 101, cuts := [⟨(6, 3), [0, 7], false, false, []⟩], tab := [encoder_Split_S (fun _ => true), decoder_at_S (fun _ => true)], fm := ⟨false, [.val .bool [], .box 0 T_api_Decoder [.pu]]⟩ }
noncomputable def decoder_get (a1 : Int) (b0 : D_api_Decoder) : Option (Bool × D_api_Decoder) := decoder_get_I.call [(.ptr T_api_Decoder 0 []), (.int .i64 a1)] [(0, (.box T_api_Decoder (inj false T_api_Decoder b0)))]
noncomputable def decoder_get_c1 (v7 : Bool) (b0 : D_api_Decoder) : Option (Bool × D_api_Decoder) := decoder_get_I.sem ⟨[.code (cIn (cIn (cFst (cSnd (cSnd (cSnd (cSnd (bodyOf Tryz.prog 101)))))))), .inLoop (cIn (cIn (cFst (cSnd (cSnd (cSnd (cSnd (bodyOf Tryz.prog 101)))))))), .inBlock 0, .code (cSnd (cSnd (cSnd (cSnd (cSnd (bodyOf Tryz.prog 101))))))], ⟨[(0, (.one (.ptr T_api_Decoder 0 []))), (7, (.one (.bool v7)))], [(0, some (.box T_api_Decoder (inj false T_api_Decoder b0)))], 9⟩⟩
theorem decoder_get_eq (a1 : Int) (b0 : D_api_Decoder) : decoder_get a1 b0 = (
(encoder_Split b0.1 b0.2.1 a1).bind fun r1 =>
if (decide (b0.2.2.1 ≤ r1.1)) = true then
decoder_get_c1 (decide (b0.2.2.1 ≤ r1.1)) (b0.1, (r1.1, b0.2.2))
else
decoder_get_c1 (decide (b0.2.2.1 ≤ r1.1)) ((IntKind.wrap .u32 (r1.1 + (1 : Int))), b0.2)) := (FnI.call_eq (by kernel_rfl)).trans (by kernel_rfl)
theorem decoder_get_c1_eq (v7 : Bool) (b0 : D_api_Decoder) : decoder_get_c1 v7 b0 = (
gd (0 ≤ (24 : Int)) <|
gd (0 ≤ (24 : Int)) <|
if ((Int.fdiv b0.1 (16777216 : Int)) == (Int.fdiv b0.2.1 (16777216 : Int))) = true then
gd (0 ≤ (8 : Int)) <|
gd (0 ≤ (8 : Int)) <|
gd (0 ≤ (8 : Int)) <|
(decoder_at b0.2.2.2.1 b0.2.2.2.2.1).bind fun r2 =>
decoder_get_c1 v7 ((IntKind.wrap .u32 (b0.1 * (256 : Int))), ((bitsOr .u32 (IntKind.wrap .u32 (b0.2.1 * (256 : Int))) (255 : Int)), ((bitsOr .u32 (IntKind.wrap .u32 (b0.2.2.1 * (256 : Int))) (IntKind.wrap .u32 r2)), (b0.2.2.2.1, ((IntKind.wrap .i64 (b0.2.2.2.2.1 + (1 : Int))), b0.2.2.2.2.2)))))
else
some (v7, b0)) := (FnI.sem_eq _).trans (by kernel_rfl)
noncomputable def decoder_get_S (acc : List AV → Bool) : Summ Tryz.prog GT := decoder_get_I.summ mixed acc false false
noncomputable def decoder_Get_I : FnI Tryz.prog GT := { f := 74, cuts := [], tab := [decoder_Check_S (fun _ => true), decoder_wrong_S (fun _ => true), slices_Clone_byte_byte_S (fun _ => true), (decoder_get_S (fun _ => true)).dropping], fm := ⟨false, [.val T_api_Decoder [], .val .bool [], .val (.int .i64) []]⟩ }
noncomputable def decoder_Get (a0 : D_api_Decoder) (a1 : Int) : Option (D_api_Decoder × Bool × Int) := decoder_Get_I.call [(.agg T_api_Decoder (inj false T_api_Decoder a0)), (.int .i64 a1)] []
theorem decoder_Get_eq (a0 : D_api_Decoder) (a1 : Int) : decoder_Get a0 a1 = (
(decoder_Check a0).bind fun r1 =>
if (r1 != (0 : Int)) = true then
some (((0 : Int), ((0 : Int), ((0 : Int), ([], ((0 : Int), ()))))), (false, r1))
else
(decoder_wrong a1).bind fun r2 =>
if r2 = true then
some (((0 : Int), ((0 : Int), ((0 : Int), ([], ((0 : Int), ()))))), (false, (2 : Int)))
else
(slices_Clone_byte_byte a0.2.2.2.1).bind fun r3 =>
(decoder_get a1 (a0.1, (a0.2.1, (a0.2.2.1, (r3, a0.2.2.2.2))))).bind fun r4 =>
if (decide (r4.2.2.2.2.2.1 > (1000000 : Int))) = true then
some (((0 : Int), ((0 : Int), ((0 : Int), ([], ((0 : Int), ()))))), (false, (4 : Int)))
else
some (r4.2, (r4.1, (0 : Int)))) := (FnI.call_eq (by kernel_rfl)).trans (by kernel_rfl)
noncomputable def decoder_Get_S (acc : List AV → Bool) : Summ Tryz.prog GT := decoder_Get_I.summ mixed acc false false
noncomputable def slices_Clone_int_int_I : FnI Tryz.prog GT := { f := 177, cuts := [], tab := [], fm := ⟨true, [.val (.slice (.int .i64)) [.nw]]⟩ }
noncomputable def slices_Clone_int_int (a0 : List Int) : Option (List Int) := slices_Clone_int_int_I.call [(.sl (.int .i64) false a0)] []
theorem slices_Clone_int_int_eq (a0 : List Int) : slices_Clone_int_int a0 = (
anyv (fun (r1 : Bool) => r1 = true → a0 = []) fun (r1 : Bool) =>
if r1 = true then
some ([])
else
gd ((List.length ([] ++ a0)) * 8 ≤ 140737488355328) <|
some ([] ++ a0)) := (FnI.call_eq (by kernel_rfl)).trans (by kernel_rfl)
noncomputable def slices_Clone_int_int_S (acc : List AV → Bool) : Summ Tryz.prog GT := slices_Clone_int_int_I.summ mixed acc false false
noncomputable def slices_Clone_api_Table_api_Table_I : FnI Tryz.prog GT := { f := 178, cuts := [], tab := [], fm := ⟨false, [.val (.slice T_api_Table) [.nw]]⟩ }
noncomputable def slices_Clone_api_Table_api_Table (a0 : List D_api_Table) : Option (List D_api_Table) := slices_Clone_api_Table_api_Table_I.call [(.sl T_api_Table false a0)] []
theorem slices_Clone_api_Table_api_Table_eq (a0 : List D_api_Table) : slices_Clone_api_Table_api_Table a0 = (
anyv (fun (r1 : Bool) => r1 = true → a0 = []) fun (r1 : Bool) =>
if r1 = true then
some ([])
else
gd ((List.length ([] ++ a0)) * 32 ≤ 140737488355328) <|
some ([] ++ a0)) := (FnI.call_eq (by kernel_rfl)).trans (by kernel_rfl)
noncomputable def slices_Clone_api_Table_api_Table_S (acc : List AV → Bool) : Summ Tryz.prog GT := slices_Clone_api_Table_api_Table_I.summ mixed acc false false
noncomputable def slices_Clone_api_Adapt_api_Adapt_I : FnI Tryz.prog GT := { f := 179, cuts := [], tab := [], fm := ⟨false, [.val (.slice T_api_Adapt) [.nw]]⟩ }
noncomputable def slices_Clone_api_Adapt_api_Adapt (a0 : List D_api_Adapt) : Option (List D_api_Adapt) := slices_Clone_api_Adapt_api_Adapt_I.call [(.sl T_api_Adapt false a0)] []
theorem slices_Clone_api_Adapt_api_Adapt_eq (a0 : List D_api_Adapt) : slices_Clone_api_Adapt_api_Adapt a0 = (
anyv (fun (r1 : Bool) => r1 = true → a0 = []) fun (r1 : Bool) =>
if r1 = true then
some ([])
else
gd ((List.length ([] ++ a0)) * 56 ≤ 140737488355328) <|
some ([] ++ a0)) := (FnI.call_eq (by kernel_rfl)).trans (by kernel_rfl)
noncomputable def slices_Clone_api_Adapt_api_Adapt_S (acc : List AV → Bool) : Summ Tryz.prog GT := slices_Clone_api_Adapt_api_Adapt_I.summ mixed acc false false
noncomputable def predict_rows_I : FnI Tryz.prog GT := { f := 182, cuts := [⟨(3, 3), [3, 6, 7, 8], false, false, []⟩], tab := [slices_Clone_int32_int32_S (fun _ => true)], fm := ⟨true, [.val (.slice (.slice (.int .i32))) [.nw]]⟩ }
noncomputable def predict_rows (a0 : List (List Int)) : Option (List (List Int)) := predict_rows_I.call [(.sl (.slice (.int .i32)) false a0)] []
noncomputable def predict_rows_c1 (v6 : List (List Int)) (v7 : Int) (v8 : Int) (h8 : List (List Int)) : Option (List (List Int)) := predict_rows_I.sem ⟨[.code (cIn (cIn (cSnd (cFst (cSnd (cSnd (bodyOf Tryz.prog 182))))))), .inLoop (cIn (cIn (cSnd (cFst (cSnd (cSnd (bodyOf Tryz.prog 182))))))), .inBlock 0, .code (cSnd (cSnd (cSnd (bodyOf Tryz.prog 182))))], ⟨[(3, (.one (.ref (.slice (.int .i32)) 8 0 (List.length h8) true))), (6, (.one (.sl (.slice (.int .i32)) false v6))), (7, (.one (.int .i64 v7))), (8, (.one (.int .i64 v8)))], [(8, some (.row (.slice (.int .i32)) true h8))], 9⟩⟩
theorem predict_rows_eq (a0 : List (List Int)) : predict_rows a0 = (
predict_rows_c1 a0 (Int.ofNat (List.length a0)) (0 : Int) []) := (FnI.call_eq (by kernel_rfl)).trans (by kernel_rfl)
theorem predict_rows_c1_eq (v6 : List (List Int)) (v7 : Int) (v8 : Int) (h8 : List (List Int)) : predict_rows_c1 v6 v7 v8 h8 = (
if (decide (v8 < v7)) = true then
gd (0 ≤ v8) <|
gd (v8 < (Int.ofNat (List.length v6))) <|
(slices_Clone_int32_int32 (List.getD v6 (Int.toNat v8) [])).bind fun r1 =>
gd ((List.length (h8 ++ [r1])) * 24 ≤ 140737488355328) <|
predict_rows_c1 v6 v7 (IntKind.wrap .i64 (v8 + (1 : Int))) (h8 ++ [r1])
else
some (h8)) := (FnI.sem_eq _).trans (by kernel_rfl)
noncomputable def predict_rows_S (acc : List AV → Bool) : Summ Tryz.prog GT := predict_rows_I.summ mixed acc false false
noncomputable def predict_twin_I : FnI Tryz.prog GT := { f := 138, cuts := [⟨(5, 3), [1, 2, 26, 27], false, false, []⟩], tab := [slices_Clone_byte_byte_S (fun _ => true), slices_Clone_int_int_S (fun _ => true), (slices_Clone_api_Table_api_Table_S (fun _ => true)).dropping, (slices_Clone_api_Adapt_api_Adapt_S (fun _ => true)).dropping, slices_Clone_api_Slot_api_Slot_S (fun _ => true), slices_Clone_int32_int32_S (fun _ => true), predict_rows_S (fun _ => true)], fm := ⟨false, [.val T_api_Predictor []]⟩ }
noncomputable def predict_twin (a0 : D_api_Predictor) : Option (D_api_Predictor) := predict_twin_I.call [(.agg T_api_Predictor (inj false T_api_Predictor a0))] []
noncomputable def predict_twin_c1 (v26 : Int) (v27 : Int) (b8a : Int) (b8baa : Int) (b8babb : D_api_Walk) (b8bbbba : D_api_Mixer) (b8bbbbba : D_api_Final) (b8bbbbbbaa : Int) (b8bbbbbbabb : Unit) (b8bbbbbbb : (D_api_Settings × (D_api_Walk × ((List Int) × ((List Int) × Unit))))) (b9a : Int) (b9baa : Int) (b9babb : D_api_Walk) (b9bbbbab : Unit) (b9bbbbbaab : Unit) (b9bbbbbabab : Unit) (b9bbbbbabb : Unit) (b9bbbbbbaa : Int) (b9bbbbbbabb : Unit) (b9bbbbbbb : (D_api_Settings × (D_api_Walk × ((List Int) × ((List Int) × Unit))))) (h10 : List Int) (h11 : List D_api_Table) (h12 : List D_api_Adapt) (h13 : List Int) (h14 : List Int) (h15 : List D_api_Table) (h16 : List D_api_Adapt) (h17 : List (List Int)) (h18 : List (List Int)) (h19 : List (List Int)) (h20 : List Int) : Option (D_api_Predictor) := predict_twin_I.sem ⟨[.code (cIn (cIn (cSnd (cFst (cSnd (cSnd (cSnd (cSnd (bodyOf Tryz.prog 138))))))))), .inLoop (cIn (cIn (cSnd (cFst (cSnd (cSnd (cSnd (cSnd (bodyOf Tryz.prog 138))))))))), .inBlock 0, .code (cSnd (cSnd (cSnd (cSnd (cSnd (bodyOf Tryz.prog 138))))))], ⟨[(1, (.one (.ptr T_api_Predictor 8 []))), (2, (.one (.ptr T_api_Predictor 9 []))), (26, (.one (.int .i64 v26))), (27, (.one (.int .i64 v27)))], [(8, some (.box T_api_Predictor (b8a, ((b8baa, ((SV.ref 10 0 (List.length h10) true), (inj false T_api_Walk b8babb))), ((SV.ref 11 0 (List.length h11) true), ((SV.ref 12 0 (List.length h12) true), ((inj false T_api_Mixer b8bbbba), ((inj false T_api_Final b8bbbbba), ((b8bbbbbbaa, ((SV.ref 13 0 (List.length h13) true), b8bbbbbbabb)), (inj false (.pair T_api_Settings (.pair T_api_Walk (.pair (.arr 6 (.int .u32)) (.pair (.arr 6 (.int .i64)) .unit)))) b8bbbbbbb)))))))))), (9, some (.box T_api_Predictor (b9a, ((b9baa, ((SV.ref 14 0 (List.length h14) true), (inj false T_api_Walk b9babb))), ((SV.ref 15 0 (List.length h15) true), ((SV.ref 16 0 (List.length h16) true), (((SV.ref 17 0 (List.length h17) true), b9bbbbab), ((((SV.ref 18 0 (List.length h18) true), b9bbbbbaab), (((SV.ref 19 0 (List.length h19) true), b9bbbbbabab), b9bbbbbabb)), ((b9bbbbbbaa, ((SV.ref 20 0 (List.length h20) true), b9bbbbbbabb)), (inj false (.pair T_api_Settings (.pair T_api_Walk (.pair (.arr 6 (.int .u32)) (.pair (.arr 6 (.int .i64)) .unit)))) b9bbbbbbb)))))))))), (10, some (.row (.int .u8) true h10)), (11, some (.row T_api_Table false h11)), (12, some (.row T_api_Adapt false h12)), (13, some (.row (.int .i64) true h13)), (14, some (.row (.int .u8) true h14)), (15, some (.row T_api_Table true h15)), (16, some (.row T_api_Adapt true h16)), (17, some (.row (.slice (.int .i32)) true h17)), (18, some (.row (.slice (.int .i32)) true h18)), (19, some (.row (.slice (.int .i32)) true h19)), (20, some (.row (.int .i64) true h20))], 21⟩⟩
theorem predict_twin_eq (a0 : D_api_Predictor) : predict_twin a0 = (
(slices_Clone_byte_byte a0.2.1.2.1).bind fun r1 =>
(slices_Clone_int_int a0.2.2.2.2.2.2.1.2.1).bind fun r2 =>
(slices_Clone_api_Table_api_Table a0.2.2.1).bind fun r3 =>
(slices_Clone_api_Adapt_api_Adapt a0.2.2.2.1).bind fun r4 =>
predict_twin_c1 (Int.ofNat (List.length r3)) (0 : Int) a0.1 a0.2.1.1 a0.2.1.2.2 a0.2.2.2.2.1 a0.2.2.2.2.2.1 a0.2.2.2.2.2.2.1.1 a0.2.2.2.2.2.2.1.2.2 a0.2.2.2.2.2.2.2 (0 : Int) (0 : Int) ((0 : Int), ()) () () () () (0 : Int) () (((0 : Int), ((0 : Int), ())), (((0 : Int), ()), ((List.replicate 6 (0 : Int)), ((List.replicate 6 (0 : Int)), ())))) r1 r3 r4 r2 [] [] [] [] [] [] []) := (FnI.call_eq (by kernel_rfl)).trans (by kernel_rfl)
theorem predict_twin_c1_eq (v26 : Int) (v27 : Int) (b8a : Int) (b8baa : Int) (b8babb : D_api_Walk) (b8bbbba : D_api_Mixer) (b8bbbbba : D_api_Final) (b8bbbbbbaa : Int) (b8bbbbbbabb : Unit) (b8bbbbbbb : (D_api_Settings × (D_api_Walk × ((List Int) × ((List Int) × Unit))))) (b9a : Int) (b9baa : Int) (b9babb : D_api_Walk) (b9bbbbab : Unit) (b9bbbbbaab : Unit) (b9bbbbbabab : Unit) (b9bbbbbabb : Unit) (b9bbbbbbaa : Int) (b9bbbbbbabb : Unit) (b9bbbbbbb : (D_api_Settings × (D_api_Walk × ((List Int) × ((List Int) × Unit))))) (h10 : List Int) (h11 : List D_api_Table) (h12 : List D_api_Adapt) (h13 : List Int) (h14 : List Int) (h15 : List D_api_Table) (h16 : List D_api_Adapt) (h17 : List (List Int)) (h18 : List (List Int)) (h19 : List (List Int)) (h20 : List Int) : predict_twin_c1 v26 v27 b8a b8baa b8babb b8bbbba b8bbbbba b8bbbbbbaa b8bbbbbbabb b8bbbbbbb b9a b9baa b9babb b9bbbbab b9bbbbbaab b9bbbbbabab b9bbbbbabb b9bbbbbbaa b9bbbbbbabb b9bbbbbbb h10 h11 h12 h13 h14 h15 h16 h17 h18 h19 h20 = (
if (decide (v27 < v26)) = true then
gd (0 ≤ v27) <|
gd (v27 < (Int.ofNat (List.length h11))) <|
(slices_Clone_api_Slot_api_Slot (List.getD h11 (0 + (Int.toNat v27)) (pzero T_api_Table)).2.1).bind fun r5 =>
gd (0 ≤ v27) <|
gd (v27 < (Int.ofNat (List.length h11))) <|
gd (0 ≤ v27) <|
gd (v27 < (Int.ofNat (List.length h12))) <|
(slices_Clone_int32_int32 (List.getD h12 (0 + (Int.toNat v27)) (pzero T_api_Adapt)).2.1).bind fun r6 =>
gd (0 ≤ v27) <|
gd (v27 < (Int.ofNat (List.length h12))) <|
(slices_Clone_int32_int32 (List.getD h12 (0 + (Int.toNat v27)) (pzero T_api_Adapt)).2.2.1).bind fun r7 =>
gd (0 ≤ v27) <|
gd (v27 < (Int.ofNat (List.length h12))) <|
gd (0 ≤ v27) <|
gd (v27 < (Int.ofNat (List.length h12))) <|
predict_twin_c1 v26 (IntKind.wrap .i64 (v27 + (1 : Int))) b8a b8baa b8babb b8bbbba b8bbbbba b8bbbbbbaa b8bbbbbbabb b8bbbbbbb b9a b9baa b9babb b9bbbbab b9bbbbbaab b9bbbbbabab b9bbbbbabb b9bbbbbbaa b9bbbbbbabb b9bbbbbbb h10 (List.set h11 (0 + (Int.toNat v27)) ((List.getD h11 (0 + (Int.toNat v27)) (pzero T_api_Table)).1, (r5, (List.getD h11 (0 + (Int.toNat v27)) (pzero T_api_Table)).2.2))) (List.set (List.set h12 (0 + (Int.toNat v27)) ((List.getD h12 (0 + (Int.toNat v27)) (pzero T_api_Adapt)).1, (r6, (List.getD h12 (0 + (Int.toNat v27)) (pzero T_api_Adapt)).2.2))) (0 + (Int.toNat v27)) ((List.getD (List.set h12 (0 + (Int.toNat v27)) ((List.getD h12 (0 + (Int.toNat v27)) (pzero T_api_Adapt)).1, (r6, (List.getD h12 (0 + (Int.toNat v27)) (pzero T_api_Adapt)).2.2))) (0 + (Int.toNat v27)) (pzero T_api_Adapt)).1, ((List.getD (List.set h12 (0 + (Int.toNat v27)) ((List.getD h12 (0 + (Int.toNat v27)) (pzero T_api_Adapt)).1, (r6, (List.getD h12 (0 + (Int.toNat v27)) (pzero T_api_Adapt)).2.2))) (0 + (Int.toNat v27)) (pzero T_api_Adapt)).2.1, (r7, (List.getD (List.set h12 (0 + (Int.toNat v27)) ((List.getD h12 (0 + (Int.toNat v27)) (pzero T_api_Adapt)).1, (r6, (List.getD h12 (0 + (Int.toNat v27)) (pzero T_api_Adapt)).2.2))) (0 + (Int.toNat v27)) (pzero T_api_Adapt)).2.2.2)))) h13 h14 h15 h16 h17 h18 h19 h20
else
(predict_rows b8bbbba.1).bind fun r8 =>
(predict_rows b8bbbbba.1.1).bind fun r9 =>
(predict_rows b8bbbbba.2.1.1).bind fun r10 =>
some (b8a, ((b8baa, (h10, b8babb)), (h11, (h12, ((r8, b8bbbba.2), (((r9, b8bbbbba.1.2), ((r10, b8bbbbba.2.1.2), b8bbbbba.2.2)), ((b8bbbbbbaa, (h13, b8bbbbbbabb)), b8bbbbbbb)))))))) := (FnI.sem_eq _).trans (by kernel_rfl)
noncomputable def predict_twin_S (acc : List AV → Bool) : Summ Tryz.prog GT := predict_twin_I.summ mixed acc false false
noncomputable def adapt_twin_I : FnI Tryz.prog GT := { f := 214, cuts := [], tab := [slices_Clone_int32_int32_S (fun _ => true)], fm := ⟨true, [.val T_api_Adapt [.nw, .nw]]⟩ }
noncomputable def adapt_twin (a0 : D_api_Adapt) : Option (D_api_Adapt) := adapt_twin_I.call [(.agg T_api_Adapt (inj false T_api_Adapt a0))] []
theorem adapt_twin_eq (a0 : D_api_Adapt) : adapt_twin a0 = (
(slices_Clone_int32_int32 a0.2.1).bind fun r1 =>
(slices_Clone_int32_int32 a0.2.2.1).bind fun r2 =>
some (a0.1, (r1, (r2, a0.2.2.2)))) := (FnI.call_eq (by kernel_rfl)).trans (by kernel_rfl)
noncomputable def adapt_twin_S (acc : List AV → Bool) : Summ Tryz.prog GT := adapt_twin_I.summ mixed acc false false
noncomputable def recip_Of_I : FnI Tryz.prog GT := { f := 250, cuts := [], tab := [], fm := ⟨true, [.val (.int .i32) [], .val (.int .i64) []]⟩ }
noncomputable def recip_Of (a0 : Int) : Option (Int × Int) := recip_Of_I.call [(.int .i32 a0)] []
theorem recip_Of_eq (a0 : Int) : recip_Of a0 = (
if (decide (a0 < (1 : Int))) = true then
some ((0 : Int), (2 : Int))
else
if (decide (a0 > (1024 : Int))) = true then
some ((0 : Int), (2 : Int))
else
gd (a0 ≠ 0) <|
some ((IntKind.wrap .i32 (Int.tdiv (65536 : Int) a0)), (0 : Int))) := (FnI.call_eq (by kernel_rfl)).trans (by kernel_rfl)
noncomputable def recip_Of_S (acc : List AV → Bool) : Summ Tryz.prog GT := recip_Of_I.summ mixed acc false false
noncomputable def recip_Div_I : FnI Tryz.prog GT := { f := 243, cuts := [], tab := [recip_Of_S (fun _ => true)], fm := ⟨true, [.val (.int .i32) [], .val (.int .i64) []]⟩ }
noncomputable def recip_Div (a0 : Int) (a1 : Int) : Option (Int × Int) := recip_Div_I.call [(.int .i32 a0), (.int .i32 a1)] []
theorem recip_Div_eq (a0 : Int) (a1 : Int) : recip_Div a0 a1 = (
(recip_Of a1).bind fun r1 =>
if (r1.2 != (0 : Int)) = true then
some ((0 : Int), r1.2)
else
gd (0 ≤ (16 : Int)) <|
some ((IntKind.wrap .i32 (Int.fdiv (IntKind.wrap .i64 ((IntKind.wrap .i64 a0) * (IntKind.wrap .i64 r1.1))) (65536 : Int))), (0 : Int))) := (FnI.call_eq (by kernel_rfl)).trans (by kernel_rfl)
noncomputable def recip_Div_S (acc : List AV → Bool) : Summ Tryz.prog GT := recip_Div_I.summ mixed acc false false
noncomputable def recip_Step_I : FnI Tryz.prog GT := { f := 238, cuts := [], tab := [recip_Div_S (fun _ => true)], fm := ⟨true, [.val (.int .i32) [], .val (.int .i64) []]⟩ }
noncomputable def recip_Step (a0 : Int) (a1 : Int) (a2 : Int) : Option (Int × Int) := recip_Step_I.call [(.int .i32 a0), (.int .i32 a1), (.int .i32 a2)] []
theorem recip_Step_eq (a0 : Int) (a1 : Int) (a2 : Int) : recip_Step a0 a1 a2 = (
if (decide ((if a1 < a0 then a1 else a0) < (0 : Int))) = true then
some ((0 : Int), (2 : Int))
else
if (decide ((if a1 > a0 then a1 else a0) ≥ (65536 : Int))) = true then
some ((0 : Int), (2 : Int))
else
(recip_Div (IntKind.wrap .i32 (a1 - a0)) a2).bind fun r1 =>
if (r1.2 != (0 : Int)) = true then
some ((0 : Int), r1.2)
else
some ((IntKind.wrap .i32 (a0 + r1.1)), (0 : Int))) := (FnI.call_eq (by kernel_rfl)).trans (by kernel_rfl)
noncomputable def recip_Step_S (acc : List AV → Bool) : Summ Tryz.prog GT := recip_Step_I.summ mixed acc false false
noncomputable def adapt_change_I : FnI Tryz.prog GT := { f := 215, cuts := [], tab := [recip_Step_S (fun _ => true)], fm := ⟨false, [.val (.int .i64) [], .row 0 (.int .i32), .row 1 (.int .i32)]⟩ }
noncomputable def adapt_change (a0a : Int) (a0bbb : Unit) (a1 : Int) (a2 : Int) (h0 : List Int) (h1 : List Int) : Option (Int × List Int × List Int) := adapt_change_I.call [(.agg T_api_Adapt (a0a, ((SV.ref 0 0 (List.length h0) true), ((SV.ref 1 0 (List.length h1) true), a0bbb)))), (.int .u8 a1), (.int .u8 a2)] [(0, (.row (.int .i32) false h0)), (1, (.row (.int .i32) false h1))]
theorem adapt_change_eq (a0a : Int) (a0bbb : Unit) (a1 : Int) (a2 : Int) (h0 : List Int) (h1 : List Int) : adapt_change a0a a0bbb a1 a2 h0 h1 = (
gd (0 ≤ a1) <|
gd (a1 < (Int.ofNat (List.length h1))) <|
gd (0 ≤ a1) <|
gd (a1 < (Int.ofNat (List.length h0))) <|
gd (0 ≤ a2) <|
gd (a2 < (2 : Int)) <|
(recip_Step (List.getD h0 (0 + (Int.toNat a1)) (0 : Int)) (List.getD G_targets (Int.toNat a2) (0 : Int)) (IntKind.wrap .i32 ((if a0a < (IntKind.wrap .i32 ((List.getD h1 (0 + (Int.toNat a1)) (0 : Int)) + (1 : Int))) then a0a else (IntKind.wrap .i32 ((List.getD h1 (0 + (Int.toNat a1)) (0 : Int)) + (1 : Int)))) + (1 : Int)))).bind fun r1 =>
gd (0 ≤ a1) <|
gd (a1 < (Int.ofNat (List.length h0))) <|
gd (0 ≤ a1) <|
gd (a1 < (Int.ofNat (List.length h1))) <|
some (r1.2, ((List.set h0 (0 + (Int.toNat a1)) r1.1), (List.set h1 (0 + (Int.toNat a1)) (if a0a < (IntKind.wrap .i32 ((List.getD h1 (0 + (Int.toNat a1)) (0 : Int)) + (1 : Int))) then a0a else (IntKind.wrap .i32 ((List.getD h1 (0 + (Int.toNat a1)) (0 : Int)) + (1 : Int)))))))) := (FnI.call_eq (by kernel_rfl)).trans (by kernel_rfl)
noncomputable def adapt_change_S (acc : List AV → Bool) : Summ Tryz.prog GT := adapt_change_I.summ mixed acc true false
noncomputable def adapt_Update_I : FnI Tryz.prog GT := { f := 183, cuts := [], tab := [adapt_at_S (fun _ => true), adapt_twin_S (fun _ => true), (adapt_change_S (fun _ => true)).dropping], fm := ⟨true, [.val T_api_Adapt [], .val (.int .i64) []]⟩ }
noncomputable def adapt_Update (a0 : D_api_Adapt) (a1 : Int) (a2 : Int) : Option (D_api_Adapt × Int) := adapt_Update_I.call [(.agg T_api_Adapt (inj false T_api_Adapt a0)), (.int .u8 a1), (.int .u8 a2)] []
theorem adapt_Update_eq (a0 : D_api_Adapt) (a1 : Int) (a2 : Int) : adapt_Update a0 a1 a2 = (
(adapt_at a0 a1).bind fun r1 =>
if (r1 != (0 : Int)) = true then
some (((0 : Int), ([], ([], ()))), r1)
else
if (decide (a2 > (1 : Int))) = true then
some (((0 : Int), ([], ([], ()))), (2 : Int))
else
(adapt_twin a0).bind fun r2 =>
(adapt_change r2.1 r2.2.2.2 a1 a2 r2.2.1 r2.2.2.1).bind fun r3 =>
if (r3.1 != (0 : Int)) = true then
some (((0 : Int), ([], ([], ()))), r3.1)
else
some ((r2.1, (r3.2.1, (r3.2.2, r2.2.2.2))), (0 : Int))) := (FnI.call_eq (by kernel_rfl)).trans (by kernel_rfl)
noncomputable def adapt_Update_S (acc : List AV → Bool) : Summ Tryz.prog GT := adapt_Update_I.summ mixed acc false false
noncomputable def states_Run_1_I : FnI Tryz.prog GT := { f := 245, cuts := [], tab := [], fm := ⟨true, [.val .bool []]⟩ }
noncomputable def states_Run_1 (a0 : Int) : Option (Bool) := states_Run_1_I.call [(.int .u8 a0)] []
theorem states_Run_1_eq (a0 : Int) : states_Run_1 a0 = (
some (decide (a0 > (1 : Int)))) := (FnI.call_eq (by kernel_rfl)).trans (by kernel_rfl)
noncomputable def states_Run_1_S (acc : List AV → Bool) : Summ Tryz.prog GT := states_Run_1_I.summ mixed acc false false
noncomputable def slices_IndexFunc_uint8_uint8_I : FnI Tryz.prog GT := { f := 251, cuts := [⟨(2, 3), [0, 1, 7, 8], false, false, []⟩], tab := [states_Run_1_S (fun _ => true)], fm := ⟨true, [.val (.int .i64) []]⟩ }
noncomputable def slices_IndexFunc_uint8_uint8 (a0 : List Int) : Option (Int) := slices_IndexFunc_uint8_uint8_I.call [(.sl (.int .u8) false a0), (.func 245 [])] []
noncomputable def slices_IndexFunc_uint8_uint8_c1 (v0 : List Int) (v7 : Int) (v8 : Int) : Option (Int) := slices_IndexFunc_uint8_uint8_I.sem ⟨[.code (cIn (cIn (cSnd (cFst (cSnd (bodyOf Tryz.prog 251)))))), .inLoop (cIn (cIn (cSnd (cFst (cSnd (bodyOf Tryz.prog 251)))))), .inBlock 0, .code (cSnd (cSnd (bodyOf Tryz.prog 251)))], ⟨[(0, (.one (.sl (.int .u8) false v0))), (1, (.one (.func 245 []))), (7, (.one (.int .i64 v7))), (8, (.one (.int .i64 v8)))], [], 8⟩⟩
theorem slices_IndexFunc_uint8_uint8_eq (a0 : List Int) : slices_IndexFunc_uint8_uint8 a0 = (
slices_IndexFunc_uint8_uint8_c1 a0 (Int.ofNat (List.length a0)) (0 : Int)) := (FnI.call_eq (by kernel_rfl)).trans (by kernel_rfl)
theorem slices_IndexFunc_uint8_uint8_c1_eq (v0 : List Int) (v7 : Int) (v8 : Int) : slices_IndexFunc_uint8_uint8_c1 v0 v7 v8 = (
if (decide (v8 < v7)) = true then
gd (0 ≤ v8) <|
gd (v8 < (Int.ofNat (List.length v0))) <|
(states_Run_1 (List.getD v0 (Int.toNat v8) (0 : Int))).bind fun r1 =>
if r1 = true then
some (v8)
else
slices_IndexFunc_uint8_uint8_c1 v0 v7 (IntKind.wrap .i64 (v8 + (1 : Int)))
else
some (-1 : Int)) := (FnI.sem_eq _).trans (by kernel_rfl)
noncomputable def slices_IndexFunc_uint8_uint8_S (acc : List AV → Bool) : Summ Tryz.prog GT := slices_IndexFunc_uint8_uint8_I.summ mixed acc false false
noncomputable def slices_ContainsFunc_uint8_uint8_I : FnI Tryz.prog GT := { f := 244, cuts := [], tab := [slices_IndexFunc_uint8_uint8_S (fun _ => true)], fm := ⟨true, [.val .bool []]⟩ }
noncomputable def slices_ContainsFunc_uint8_uint8 (a0 : List Int) : Option (Bool) := slices_ContainsFunc_uint8_uint8_I.call [(.sl (.int .u8) false a0), (.func 245 [])] []
theorem slices_ContainsFunc_uint8_uint8_eq (a0 : List Int) : slices_ContainsFunc_uint8_uint8 a0 = (
(slices_IndexFunc_uint8_uint8 a0).bind fun r1 =>
some (decide (r1 ≥ (0 : Int)))) := (FnI.call_eq (by kernel_rfl)).trans (by kernel_rfl)
noncomputable def slices_ContainsFunc_uint8_uint8_S (acc : List AV → Bool) : Summ Tryz.prog GT := slices_ContainsFunc_uint8_uint8_I.summ mixed acc false false
noncomputable def counts_Check_I : FnI Tryz.prog GT := { f := 252, cuts := [], tab := [], fm := ⟨true, [.val (.int .i64) []]⟩ }
noncomputable def counts_Check (a0 : D_api_Count) : Option (Int) := counts_Check_I.call [(.agg T_api_Count (inj false T_api_Count a0))] []
theorem counts_Check_eq (a0 : D_api_Count) : counts_Check a0 = (
if (peq T_api_Count a0 ((0 : Int), ((0 : Int), ((0 : Int), ())))) = true then
some (0 : Int)
else
if (decide (a0.2.2.1 > (1 : Int))) = true then
some (8 : Int)
else
gd (0 ≤ a0.2.2.1) <|
gd (a0.2.2.1 < (2 : Int)) <|
gd (0 ≤ (IntKind.wrap .u8 ((1 : Int) - a0.2.2.1))) <|
gd ((IntKind.wrap .u8 ((1 : Int) - a0.2.2.1)) < (2 : Int)) <|
if (decide ((List.getD (List.set (List.set (List.replicate 2 (0 : Int)) 0 a0.1) 1 a0.2.1) (Int.toNat a0.2.2.1) (0 : Int)) < (1 : Int))) = true then
some (8 : Int)
else
if (decide ((List.getD (List.set (List.set (List.replicate 2 (0 : Int)) 0 a0.1) 1 a0.2.1) (Int.toNat a0.2.2.1) (0 : Int)) > (12 : Int))) = true then
some (8 : Int)
else
if (decide ((List.getD (List.set (List.set (List.replicate 2 (0 : Int)) 0 a0.1) 1 a0.2.1) (Int.toNat (IntKind.wrap .u8 ((1 : Int) - a0.2.2.1))) (0 : Int)) < (0 : Int))) = true then
some (8 : Int)
else
if (decide ((List.getD (List.set (List.set (List.replicate 2 (0 : Int)) 0 a0.1) 1 a0.2.1) (Int.toNat (IntKind.wrap .u8 ((1 : Int) - a0.2.2.1))) (0 : Int)) > (7 : Int))) = true then
some (8 : Int)
else
some (0 : Int)) := (FnI.call_eq (by kernel_rfl)).trans (by kernel_rfl)
noncomputable def counts_Check_S (acc : List AV → Bool) : Summ Tryz.prog GT := counts_Check_I.summ mixed acc false false
noncomputable def counts_next_I : FnI Tryz.prog GT := { f := 253, cuts := [], tab := [], fm := ⟨true, [.val T_api_Count []]⟩ }
noncomputable def counts_next (a0 : D_api_Count) (a1 : Int) : Option (D_api_Count) := counts_next_I.call [(.agg T_api_Count (inj false T_api_Count a0)), (.int .u8 a1)] []
theorem counts_next_eq (a0 : D_api_Count) (a1 : Int) : counts_next a0 a1 = (
gd (0 ≤ a1) <|
gd (a1 < (2 : Int)) <|
gd (0 ≤ a1) <|
gd (a1 < (2 : Int)) <|
gd (0 ≤ (IntKind.wrap .u8 ((1 : Int) - a1))) <|
gd ((IntKind.wrap .u8 ((1 : Int) - a1)) < (2 : Int)) <|
if (decide ((List.getD (List.set (List.set (List.set (List.replicate 2 (0 : Int)) 0 a0.1) 1 a0.2.1) (Int.toNat a1) (if (12 : Int) < (IntKind.wrap .i32 ((List.getD (List.set (List.set (List.replicate 2 (0 : Int)) 0 a0.1) 1 a0.2.1) (Int.toNat a1) (0 : Int)) + (1 : Int))) then (12 : Int) else (IntKind.wrap .i32 ((List.getD (List.set (List.set (List.replicate 2 (0 : Int)) 0 a0.1) 1 a0.2.1) (Int.toNat a1) (0 : Int)) + (1 : Int))))) (Int.toNat (IntKind.wrap .u8 ((1 : Int) - a1))) (0 : Int)) > (2 : Int))) = true then
gd ((2 : Int) ≠ 0) <|
gd (0 ≤ (0 : Int)) <|
gd ((0 : Int) < (2 : Int)) <|
gd (0 ≤ (1 : Int)) <|
gd ((1 : Int) < (2 : Int)) <|
some ((List.getD (List.set (List.set (List.set (List.set (List.replicate 2 (0 : Int)) 0 a0.1) 1 a0.2.1) (Int.toNat a1) (if (12 : Int) < (IntKind.wrap .i32 ((List.getD (List.set (List.set (List.replicate 2 (0 : Int)) 0 a0.1) 1 a0.2.1) (Int.toNat a1) (0 : Int)) + (1 : Int))) then (12 : Int) else (IntKind.wrap .i32 ((List.getD (List.set (List.set (List.replicate 2 (0 : Int)) 0 a0.1) 1 a0.2.1) (Int.toNat a1) (0 : Int)) + (1 : Int))))) (Int.toNat (IntKind.wrap .u8 ((1 : Int) - a1))) (IntKind.wrap .i32 ((IntKind.wrap .i32 (Int.tdiv (List.getD (List.set (List.set (List.set (List.replicate 2 (0 : Int)) 0 a0.1) 1 a0.2.1) (Int.toNat a1) (if (12 : Int) < (IntKind.wrap .i32 ((List.getD (List.set (List.set (List.replicate 2 (0 : Int)) 0 a0.1) 1 a0.2.1) (Int.toNat a1) (0 : Int)) + (1 : Int))) then (12 : Int) else (IntKind.wrap .i32 ((List.getD (List.set (List.set (List.replicate 2 (0 : Int)) 0 a0.1) 1 a0.2.1) (Int.toNat a1) (0 : Int)) + (1 : Int))))) (Int.toNat (IntKind.wrap .u8 ((1 : Int) - a1))) (0 : Int)) (2 : Int))) + (1 : Int)))) 0 (0 : Int)), ((List.getD (List.set (List.set (List.set (List.set (List.replicate 2 (0 : Int)) 0 a0.1) 1 a0.2.1) (Int.toNat a1) (if (12 : Int) < (IntKind.wrap .i32 ((List.getD (List.set (List.set (List.replicate 2 (0 : Int)) 0 a0.1) 1 a0.2.1) (Int.toNat a1) (0 : Int)) + (1 : Int))) then (12 : Int) else (IntKind.wrap .i32 ((List.getD (List.set (List.set (List.replicate 2 (0 : Int)) 0 a0.1) 1 a0.2.1) (Int.toNat a1) (0 : Int)) + (1 : Int))))) (Int.toNat (IntKind.wrap .u8 ((1 : Int) - a1))) (IntKind.wrap .i32 ((IntKind.wrap .i32 (Int.tdiv (List.getD (List.set (List.set (List.set (List.replicate 2 (0 : Int)) 0 a0.1) 1 a0.2.1) (Int.toNat a1) (if (12 : Int) < (IntKind.wrap .i32 ((List.getD (List.set (List.set (List.replicate 2 (0 : Int)) 0 a0.1) 1 a0.2.1) (Int.toNat a1) (0 : Int)) + (1 : Int))) then (12 : Int) else (IntKind.wrap .i32 ((List.getD (List.set (List.set (List.replicate 2 (0 : Int)) 0 a0.1) 1 a0.2.1) (Int.toNat a1) (0 : Int)) + (1 : Int))))) (Int.toNat (IntKind.wrap .u8 ((1 : Int) - a1))) (0 : Int)) (2 : Int))) + (1 : Int)))) 1 (0 : Int)), (a1, ())))
else
gd (0 ≤ (0 : Int)) <|
gd ((0 : Int) < (2 : Int)) <|
gd (0 ≤ (1 : Int)) <|
gd ((1 : Int) < (2 : Int)) <|
some ((List.getD (List.set (List.set (List.set (List.replicate 2 (0 : Int)) 0 a0.1) 1 a0.2.1) (Int.toNat a1) (if (12 : Int) < (IntKind.wrap .i32 ((List.getD (List.set (List.set (List.replicate 2 (0 : Int)) 0 a0.1) 1 a0.2.1) (Int.toNat a1) (0 : Int)) + (1 : Int))) then (12 : Int) else (IntKind.wrap .i32 ((List.getD (List.set (List.set (List.replicate 2 (0 : Int)) 0 a0.1) 1 a0.2.1) (Int.toNat a1) (0 : Int)) + (1 : Int))))) 0 (0 : Int)), ((List.getD (List.set (List.set (List.set (List.replicate 2 (0 : Int)) 0 a0.1) 1 a0.2.1) (Int.toNat a1) (if (12 : Int) < (IntKind.wrap .i32 ((List.getD (List.set (List.set (List.replicate 2 (0 : Int)) 0 a0.1) 1 a0.2.1) (Int.toNat a1) (0 : Int)) + (1 : Int))) then (12 : Int) else (IntKind.wrap .i32 ((List.getD (List.set (List.set (List.replicate 2 (0 : Int)) 0 a0.1) 1 a0.2.1) (Int.toNat a1) (0 : Int)) + (1 : Int))))) 1 (0 : Int)), (a1, ())))) := (FnI.call_eq (by kernel_rfl)).trans (by kernel_rfl)
noncomputable def counts_next_S (acc : List AV → Bool) : Summ Tryz.prog GT := counts_next_I.summ mixed acc false false
noncomputable def counts_Run_I : FnI Tryz.prog GT := { f := 246, cuts := [⟨(9, 3), [2, 4, 31, 32, 33], false, false, []⟩], tab := [counts_Check_S (fun _ => true), slices_Max_uint8_uint8_S (fun _ => true), counts_next_S (fun _ => true)], fm := ⟨true, [.val T_api_Count [], .val (.int .i64) []]⟩ }
noncomputable def counts_Run (a0 : D_api_Count) (a1 : List Int) : Option (D_api_Count × Int) := counts_Run_I.call [(.agg T_api_Count (inj false T_api_Count a0)), (.sl (.int .u8) false a1)] []
noncomputable def counts_Run_c1 (v31 : List Int) (v32 : Int) (v33 : Int) (b8 : D_api_Count) (b9 : D_api_Count) : Option (D_api_Count × Int) := counts_Run_I.sem ⟨[.code (cIn (cIn (cSnd (cFst (cSnd (cSnd (cSnd (bodyOf Tryz.prog 246)))))))), .inLoop (cIn (cIn (cSnd (cFst (cSnd (cSnd (cSnd (bodyOf Tryz.prog 246)))))))), .inBlock 1, .code (cSnd (cSnd (cSnd (cSnd (bodyOf Tryz.prog 246)))))], ⟨[(2, (.one (.ptr T_api_Count 8 []))), (4, (.one (.ptr T_api_Count 9 []))), (31, (.one (.sl (.int .u8) false v31))), (32, (.one (.int .i64 v32))), (33, (.one (.int .i64 v33)))], [(8, some (.box T_api_Count (inj false T_api_Count b8))), (9, some (.box T_api_Count (inj false T_api_Count b9)))], 10⟩⟩
theorem counts_Run_eq (a0 : D_api_Count) (a1 : List Int) : counts_Run a0 a1 = (
(counts_Check a0).bind fun r1 =>
if (r1 != (0 : Int)) = true then
some (((0 : Int), ((0 : Int), ((0 : Int), ()))), r1)
else
if (decide ((Int.ofNat (List.length a1)) > (20000 : Int))) = true then
some (((0 : Int), ((0 : Int), ((0 : Int), ()))), (4 : Int))
else
if (decide ((Int.ofNat (List.length a1)) > (0 : Int))) = true then
(slices_Max_uint8_uint8 a1).bind fun r2 =>
if (decide (r2 > (1 : Int))) = true then
some (((0 : Int), ((0 : Int), ((0 : Int), ()))), (2 : Int))
else
counts_Run_c1 a1 (Int.ofNat (List.length a1)) (0 : Int) a0 ((0 : Int), ((0 : Int), ((0 : Int), ())))
else
counts_Run_c1 a1 (Int.ofNat (List.length a1)) (0 : Int) a0 ((0 : Int), ((0 : Int), ((0 : Int), ())))) := (FnI.call_eq (by kernel_rfl)).trans (by kernel_rfl)
theorem counts_Run_c1_eq (v31 : List Int) (v32 : Int) (v33 : Int) (b8 : D_api_Count) (b9 : D_api_Count) : counts_Run_c1 v31 v32 v33 b8 b9 = (
if (decide (v33 < v32)) = true then
gd (0 ≤ v33) <|
gd (v33 < (Int.ofNat (List.length v31))) <|
(counts_next b8 (List.getD v31 (Int.toNat v33) (0 : Int))).bind fun r3 =>
counts_Run_c1 v31 v32 (IntKind.wrap .i64 (v33 + (1 : Int))) r3 b9
else
some (b8, (0 : Int))) := (FnI.sem_eq _).trans (by kernel_rfl)
noncomputable def counts_Run_S (acc : List AV → Bool) : Summ Tryz.prog GT := counts_Run_I.summ mixed acc false false
noncomputable def states_number_I : FnI Tryz.prog GT := { f := 247, cuts := [], tab := [], fm := ⟨true, [.val (.int .u8) []]⟩ }
noncomputable def states_number (a0 : D_api_Count) : Option (Int) := states_number_I.call [(.agg T_api_Count (inj false T_api_Count a0))] []
theorem states_number_eq (a0 : D_api_Count) : states_number a0 = (
if (peq T_api_Count a0 ((0 : Int), ((0 : Int), ((0 : Int), ())))) = true then
some (0 : Int)
else
gd (0 ≤ a0.2.2.1) <|
gd (a0.2.2.1 < (2 : Int)) <|
gd (0 ≤ (IntKind.wrap .u8 ((1 : Int) - a0.2.2.1))) <|
gd ((IntKind.wrap .u8 ((1 : Int) - a0.2.2.1)) < (2 : Int)) <|
some (IntKind.wrap .u8 (IntKind.wrap .i32 ((IntKind.wrap .i32 ((IntKind.wrap .i32 ((IntKind.wrap .i32 ((IntKind.wrap .i32 ((IntKind.wrap .i32 ((12 : Int) * (IntKind.wrap .i32 a0.2.2.1))) + (List.getD (List.set (List.set (List.replicate 2 (0 : Int)) 0 a0.1) 1 a0.2.1) (Int.toNat a0.2.2.1) (0 : Int)))) - (1 : Int))) * (8 : Int))) + (List.getD (List.set (List.set (List.replicate 2 (0 : Int)) 0 a0.1) 1 a0.2.1) (Int.toNat (IntKind.wrap .u8 ((1 : Int) - a0.2.2.1))) (0 : Int)))) + (1 : Int))))) := (FnI.call_eq (by kernel_rfl)).trans (by kernel_rfl)
noncomputable def states_number_S (acc : List AV → Bool) : Summ Tryz.prog GT := states_number_I.summ mixed acc false false
noncomputable def states_Run_I : FnI Tryz.prog GT := { f := 239, cuts := [], tab := [states_Count_S (fun _ => true), slices_ContainsFunc_uint8_uint8_S (fun _ => true), counts_Run_S (fun _ => true), states_number_S (fun _ => true)], fm := ⟨true, [.val (.int .u8) [], .val (.int .i64) []]⟩ }
noncomputable def states_Run (a0 : Int) (a1 : List Int) : Option (Int × Int) := states_Run_I.call [(.int .u8 a0), (.sl (.int .u8) false a1)] []
theorem states_Run_eq (a0 : Int) (a1 : List Int) : states_Run a0 a1 = (
(states_Count a0).bind fun r1 =>
if (r1.2 != (0 : Int)) = true then
some ((0 : Int), r1.2)
else
if (decide ((Int.ofNat (List.length a1)) > (20000 : Int))) = true then
some ((0 : Int), (4 : Int))
else
(slices_ContainsFunc_uint8_uint8 a1).bind fun r2 =>
if r2 = true then
some ((0 : Int), (2 : Int))
else
(counts_Run r1.1 a1).bind fun r3 =>
if (r3.2 != (0 : Int)) = true then
some ((0 : Int), r3.2)
else
(states_number r3.1).bind fun r4 =>
some (r4, (0 : Int))) := (FnI.call_eq (by kernel_rfl)).trans (by kernel_rfl)
noncomputable def states_Run_S (acc : List AV → Bool) : Summ Tryz.prog GT := states_Run_I.summ mixed acc false false
noncomputable def states_Next_I : FnI Tryz.prog GT := { f := 216, cuts := [], tab := [states_Run_S (fun _ => true)], fm := ⟨true, [.val (.int .u8) [], .val (.int .i64) []]⟩ }
noncomputable def states_Next (a0 : Int) (a1 : Int) : Option (Int × Int) := states_Next_I.call [(.int .u8 a0), (.int .u8 a1)] []
theorem states_Next_eq (a0 : Int) (a1 : Int) : states_Next a0 a1 = (
(states_Run a0 [a1]).bind fun r1 =>
some (r1)) := (FnI.call_eq (by kernel_rfl)).trans (by kernel_rfl)
noncomputable def states_Next_S (acc : List AV → Bool) : Summ Tryz.prog GT := states_Next_I.summ mixed acc false false
noncomputable def slots_Set_I : FnI Tryz.prog GT := { f := 217, cuts := [], tab := [slots_at_S (fun _ => true), slices_Clone_api_Slot_api_Slot_S (fun _ => true)], fm := ⟨true, [.val T_api_Table [], .val (.int .i64) []]⟩ }
noncomputable def slots_Set (a0 : D_api_Table) (a1 : Int) (a2 : Int) (a3 : Int) : Option (D_api_Table × Int) := slots_Set_I.call [(.agg T_api_Table (inj false T_api_Table a0)), (.int .i64 a1), (.int .i64 a2), (.int .u8 a3)] []
theorem slots_Set_eq (a0 : D_api_Table) (a1 : Int) (a2 : Int) (a3 : Int) : slots_Set a0 a1 a2 a3 = (
(slots_at a0 a1 a2).bind fun r1 =>
if (r1 != (0 : Int)) = true then
some (((0 : Int), ([], ())), r1)
else
if (decide (a3 ≥ (193 : Int))) = true then
some (((0 : Int), ([], ())), (2 : Int))
else
(slices_Clone_api_Slot_api_Slot a0.2.1).bind fun r2 =>
gd (0 ≤ a1) <|
gd (a1 < (Int.ofNat (List.length r2))) <|
gd (0 ≤ (IntKind.wrap .i64 (a2 - (1 : Int)))) <|
gd ((IntKind.wrap .i64 (a2 - (1 : Int))) < (15 : Int)) <|
some ((a0.1, ((List.set r2 (0 + (Int.toNat a1)) ((List.getD r2 (0 + (Int.toNat a1)) (pzero T_api_Slot)).1, ((List.set (List.getD r2 (0 + (Int.toNat a1)) (pzero T_api_Slot)).2.1 (Int.toNat (IntKind.wrap .i64 (a2 - (1 : Int)))) a3), (List.getD r2 (0 + (Int.toNat a1)) (pzero T_api_Slot)).2.2))), ())), (0 : Int))) := (FnI.call_eq (by kernel_rfl)).trans (by kernel_rfl)
noncomputable def slots_Set_S (acc : List AV → Bool) : Summ Tryz.prog GT := slots_Set_I.summ mixed acc false false
noncomputable def slots_Bit_I : FnI Tryz.prog GT := { f := 184, cuts := [], tab := [slots_Get_S (fun _ => true), states_Next_S (fun _ => true), slots_Set_S (fun _ => true)], fm := ⟨true, [.val T_api_Table [], .val (.int .i64) []]⟩ }
noncomputable def slots_Bit (a0 : D_api_Table) (a1 : Int) (a2 : Int) (a3 : Int) : Option (D_api_Table × Int) := slots_Bit_I.call [(.agg T_api_Table (inj false T_api_Table a0)), (.int .i64 a1), (.int .i64 a2), (.int .u8 a3)] []
theorem slots_Bit_eq (a0 : D_api_Table) (a1 : Int) (a2 : Int) (a3 : Int) : slots_Bit a0 a1 a2 a3 = (
(slots_Get a0 a1 a2).bind fun r1 =>
if (r1.2 != (0 : Int)) = true then
some (((0 : Int), ([], ())), r1.2)
else
(states_Next r1.1 a3).bind fun r2 =>
if (r2.2 != (0 : Int)) = true then
some (((0 : Int), ([], ())), r2.2)
else
(slots_Set a0 a1 a2 r2.1).bind fun r3 =>
some (r3)) := (FnI.call_eq (by kernel_rfl)).trans (by kernel_rfl)
noncomputable def slots_Bit_S (acc : List AV → Bool) : Summ Tryz.prog GT := slots_Bit_I.summ mixed acc false false
noncomputable def mixer_wrong_I : FnI Tryz.prog GT := { f := 218, cuts := [], tab := [], fm := ⟨true, [.val (.int .i32) []]⟩ }
noncomputable def mixer_wrong (a0 : Int) (a1 : Bool) : Option (Int) := mixer_wrong_I.call [(.int .i32 a0), (.bool a1)] []
theorem mixer_wrong_eq (a0 : Int) (a1 : Bool) : mixer_wrong a0 a1 = (
if a1 = true then
some (IntKind.wrap .i32 ((4095 : Int) - a0))
else
some (IntKind.wrap .i32 ((0 : Int) - a0))) := (FnI.call_eq (by kernel_rfl)).trans (by kernel_rfl)
noncomputable def mixer_wrong_S (acc : List AV → Bool) : Summ Tryz.prog GT := mixer_wrong_I.summ mixed acc false false
noncomputable def fixed_Round_I : FnI Tryz.prog GT := { f := 219, cuts := [], tab := [], fm := ⟨true, [.val (.int .i64) [], .val (.int .i64) []]⟩ }
noncomputable def fixed_Round (a0 : Int) (a1 : Int) : Option (Int × Int) := fixed_Round_I.call [(.int .i64 a0), (.int .i64 a1)] []
theorem fixed_Round_eq (a0 : Int) (a1 : Int) : fixed_Round a0 a1 = (
if (decide (a1 < (0 : Int))) = true then
some ((0 : Int), (2 : Int))
else
if (decide (a1 > (62 : Int))) = true then
some ((0 : Int), (2 : Int))
else
if (a1 == (0 : Int)) = true then
some (a0, (0 : Int))
else
gd (0 ≤ a1) <|
gd (0 ≤ (IntKind.wrap .i64 (a1 - (1 : Int)))) <|
some ((IntKind.wrap .i64 ((shrBy .i64 a0 a1) + (bitsAnd .i64 (shrBy .i64 a0 (IntKind.wrap .i64 (a1 - (1 : Int)))) (1 : Int)))), (0 : Int))) := (FnI.call_eq (by kernel_rfl)).trans (by kernel_rfl)
noncomputable def fixed_Round_S (acc : List AV → Bool) : Summ Tryz.prog GT := fixed_Round_I.summ mixed acc false false
end Go.Ab
