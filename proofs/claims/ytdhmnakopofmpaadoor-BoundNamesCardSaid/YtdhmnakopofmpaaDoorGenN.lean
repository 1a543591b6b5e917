/-
  What the functions compute, as plain functions: printed by a program of this repo's own and checked here by the kernel.
-/
import Derived.Test.YtdhmnakopofmpaaDoorFwC4
import Derived.Test.YtdhmnakopofmpaaDoorProg
set_option linter.unusedVariables false
set_option maxRecDepth 20000
namespace Go.Ab
open Go Go.Proofs
abbrev T_runtime_boundsError : Ty := (.pair (.int .i64) (.pair (.int .i64) (.pair .bool (.pair (.int .u8) .unit))))
abbrev D_runtime_boundsError : Type := (Int × (Int × (Bool × (Int × Unit))))
abbrev T_runtime_errorAddressString : Ty := (.pair .str (.pair (.int .u64) .unit))
abbrev D_runtime_errorAddressString : Type := (ByteArray × (Int × Unit))
abbrev T_api_BlockHead : Ty := (.pair (.int .u8) (.pair (.int .i64) (.pair (.int .i64) (.pair (.int .i64) (.pair (.int .i64) (.pair (.arr 20 (.int .u8)) .unit))))))
abbrev D_api_BlockHead : Type := (Int × (Int × (Int × (Int × (Int × ((List Int) × Unit))))))
abbrev T_api_Block : Ty := (.pair T_api_BlockHead (.pair (.slice (.int .u8)) .unit))
abbrev D_api_Block : Type := (D_api_BlockHead × ((List Int) × Unit))
abbrev T_api_Settings : Ty := (.pair (.int .i64) (.pair (.int .i64) .unit))
abbrev D_api_Settings : Type := (Int × (Int × Unit))
abbrev T_api_Record : Ty := (.pair .str (.pair (.int .i64) (.pair (.arr 20 (.int .u8)) .unit)))
abbrev D_api_Record : Type := (ByteArray × (Int × ((List Int) × Unit)))
abbrev T_api_Listing : Ty := (.pair T_api_Settings (.pair (.slice T_api_Record) (.pair (.slice T_api_BlockHead) .unit)))
abbrev D_api_Listing : Type := (D_api_Settings × ((List D_api_Record) × ((List D_api_BlockHead) × Unit)))
abbrev T_api_Piece : Ty := (.pair (.int .i64) T_api_Settings)
abbrev D_api_Piece : Type := (Int × D_api_Settings)
abbrev T_bound_rule : Ty := (.pair .fn .unit)
abbrev D_bound_rule : Type := ((Option Nat) × Unit)
abbrev T_api_Found : Ty := (.pair (.int .i64) T_api_Block)
abbrev D_api_Found : Type := (Int × D_api_Block)
abbrev T_api_Part : Ty := (.pair T_api_Piece (.pair (.slice (.int .u8)) .unit))
abbrev D_api_Part : Type := (D_api_Piece × ((List Int) × Unit))
abbrev T_api_Member : Ty := (.pair .str (.pair (.slice (.int .u8)) .unit))
abbrev D_api_Member : Type := (ByteArray × ((List Int) × Unit))
abbrev T_member_source : Ty := (.pair (.slice (.int .u8)) (.pair (.int .i64) .unit))
abbrev D_member_source : Type := ((List Int) × (Int × Unit))
abbrev T_member_reader : Ty := (.pair T_member_source .unit)
abbrev D_member_reader : Type := (D_member_source × Unit)
abbrev T_reflectlite_ValueError : Ty := (.pair .str (.pair (.int .u8) .unit))
abbrev D_reflectlite_ValueError : Type := (ByteArray × (Int × Unit))
abbrev T_abi_UncommonType : Ty := (.pair (.int .i32) (.pair (.int .u16) (.pair (.int .u16) (.pair (.int .u32) (.pair (.int .u32) .unit)))))
abbrev D_abi_UncommonType : Type := (Int × (Int × (Int × (Int × (Int × Unit)))))
abbrev T_abi_Method : Ty := (.pair (.int .i32) (.pair (.int .i32) (.pair (.int .i32) (.pair (.int .i32) .unit))))
abbrev D_abi_Method : Type := (Int × (Int × (Int × (Int × Unit))))
def G_widths : List Int := [1, 1, 2, 2, 2]
def G_quarters : List Int := [1518500249, 1859775393, 2400959708, 3395469782]
def GT : GTab := [(2, ⟨(.arr 4 (.int .u32)), G_quarters⟩)]
theorem mixed : Tryd.prog.follows .mixedOrders = true := by kernel_rfl
def mnz : List Nat := [118]
theorem mnz_ok : ∀ f ∈ mnz, IsMNZ Tryd.prog f := by
  intro f hf
  obtain rfl : f = 118 := by simpa [mnz] using hf
  exact ⟨_, #[3], 26, 5, Tryd.func118, by kernel_rfl, by kernel_rfl, by kernel_rfl, by kernel_rfl, by kernel_rfl⟩
/-! bitloft/bitloftref28.GreatRecords -/
noncomputable def bitloftref28_GreatRecords_I : FnI Tryd.prog GT := { f := 23, cuts := [⟨(2, 3), [0, 3], false, false⟩], tab := [], fm := ⟨true, [.val .bool []]⟩ }
noncomputable def bitloftref28_GreatRecords (a0 : List D_api_Record) : Option (Bool) := bitloftref28_GreatRecords_I.call [(.sl T_api_Record false a0)] []
noncomputable def bitloftref28_GreatRecords_c1 (v0 : List D_api_Record) (v3 : Int) : Option (Bool) := bitloftref28_GreatRecords_I.sem ⟨[.code (cIn (cIn (cSnd (cFst (cSnd (bodyOf Tryd.prog 23)))))), .inLoop (cIn (cIn (cSnd (cFst (cSnd (bodyOf Tryd.prog 23)))))), .inBlock 0, .code (cSnd (cSnd (bodyOf Tryd.prog 23)))], ⟨[(0, (.one (.sl T_api_Record false v0))), (3, (.one (.int .i64 v3)))], [], 8⟩⟩
theorem bitloftref28_GreatRecords_eq (a0 : List D_api_Record) : bitloftref28_GreatRecords a0 = (
  bitloftref28_GreatRecords_c1 a0 (0 : Int)) := (FnI.call_eq (by kernel_rfl)).trans (by kernel_rfl)
theorem bitloftref28_GreatRecords_c1_eq (v0 : List D_api_Record) (v3 : Int) : bitloftref28_GreatRecords_c1 v0 v3 = (
  if (decide (v3 < (Int.ofNat (List.length v0)))) = true then
    if (decide (v3 ≤ (30 : Int))) = true then
      gd (0 ≤ v3) <|
      gd (v3 < (Int.ofNat (List.length v0))) <|
      if (decide ((Int.ofNat (ByteArray.size (List.getD v0 (Int.toNat v3) (pzero T_api_Record)).1)) > (100 : Int))) = true then
        some (true)
      else
        bitloftref28_GreatRecords_c1 v0 (IntKind.wrap .i64 (v3 + (1 : Int)))
    else
      some (decide ((Int.ofNat (List.length v0)) > (30 : Int)))
  else
    some (decide ((Int.ofNat (List.length v0)) > (30 : Int)))) := (FnI.sem_eq _).trans (by kernel_rfl)
noncomputable def bitloftref28_GreatRecords_S (acc : List AV → Bool) : Summ Tryd.prog GT := bitloftref28_GreatRecords_I.summ mixed acc false false

/-! bitloft/pack.Check -/
noncomputable def pack_Check_I : FnI Tryd.prog GT := { f := 28, cuts := [], tab := [], fm := ⟨true, [.val (.int .i64) []]⟩ }
noncomputable def pack_Check (a0 : D_api_Settings) : Option (Int) := pack_Check_I.call [(.agg T_api_Settings (inj false T_api_Settings a0))] []
theorem pack_Check_eq (a0 : D_api_Settings) : pack_Check a0 = (
  if (decide (a0.1 < (0 : Int))) = true then
    some (2 : Int)
  else
    if (decide (a0.1 > (7 : Int))) = true then
      some (2 : Int)
    else
      if (decide (a0.2.1 < (16 : Int))) = true then
        some (2 : Int)
      else
        if (decide (a0.2.1 > (4096 : Int))) = true then
          some (2 : Int)
        else
          some (0 : Int)) := (FnI.call_eq (by kernel_rfl)).trans (by kernel_rfl)
noncomputable def pack_Check_S (acc : List AV → Bool) : Summ Tryd.prog GT := pack_Check_I.summ mixed acc false false

/-! bitloft/member.isName -/
noncomputable def member_isName_I : FnI Tryd.prog GT := { f := 141, cuts := [⟨(2, 3), [0, 5, 6], false, false⟩], tab := [], fm := ⟨true, [.val .bool []]⟩ }
noncomputable def member_isName (a0 : ByteArray) : Option (Bool) := member_isName_I.call [(.str a0)] []
noncomputable def member_isName_c1 (v0 : ByteArray) (v5 : Int) (v6 : Int) : Option (Bool) := member_isName_I.sem ⟨[.code (cIn (cIn (cSnd (cFst (cSnd (bodyOf Tryd.prog 141)))))), .inLoop (cIn (cIn (cSnd (cFst (cSnd (bodyOf Tryd.prog 141)))))), .inBlock 0, .code (cSnd (cSnd (bodyOf Tryd.prog 141)))], ⟨[(0, (.one (.str v0))), (5, (.one (.int .i64 v5))), (6, (.one (.int .i64 v6)))], [], 8⟩⟩
theorem member_isName_eq (a0 : ByteArray) : member_isName a0 = (
  member_isName_c1 a0 (Int.ofNat (ByteArray.size a0)) (0 : Int)) := (FnI.call_eq (by kernel_rfl)).trans (by kernel_rfl)
theorem member_isName_c1_eq (v0 : ByteArray) (v5 : Int) (v6 : Int) : member_isName_c1 v0 v5 v6 = (
  if (decide (v6 < v5)) = true then
    gd (0 ≤ v6) <|
    gd (v6 < (v0.size : Int)) <|
    if (decide ((btAt v0 (Int.toNat v6)) ≤ (32 : Int))) = true then
      some (false)
    else
      gd (0 ≤ v6) <|
      gd (v6 < (v0.size : Int)) <|
      if (decide ((btAt v0 (Int.toNat v6)) > (126 : Int))) = true then
        some (false)
      else
        member_isName_c1 v0 v5 (IntKind.wrap .i64 (v6 + (1 : Int)))
  else
    if (decide ((Int.ofNat (ByteArray.size v0)) > (0 : Int))) = true then
      some (decide ((Int.ofNat (ByteArray.size v0)) ≤ (40 : Int)))
    else
      some (false)) := (FnI.sem_eq _).trans (by kernel_rfl)
noncomputable def member_isName_S (acc : List AV → Bool) : Summ Tryd.prog GT := member_isName_I.summ mixed acc false false

/-! bitloft/sha.pad -/
noncomputable def sha_pad_I : FnI Tryd.prog GT := { f := 125, cuts := [⟨(3, 3), [0, 3, 4], false, false⟩], tab := [], fm := ⟨true, [.val (.slice (.int .u8)) [.nw]]⟩ }
noncomputable def sha_pad (a0 : Int) : Option (List Int) := sha_pad_I.call [(.int .i64 a0)] []
noncomputable def sha_pad_c1 (v0 : Int) (v4 : Int) (h8 : List Int) : Option (List Int) := sha_pad_I.sem ⟨[.code (cIn (cIn (cSnd (cFst (cSnd (cSnd (bodyOf Tryd.prog 125))))))), .inLoop (cIn (cIn (cSnd (cFst (cSnd (cSnd (bodyOf Tryd.prog 125))))))), .inBlock 0, .code (cSnd (cSnd (cSnd (bodyOf Tryd.prog 125))))], ⟨[(0, (.one (.int .i64 v0))), (3, (.one (.ref (.int .u8) 8 0 (List.length h8) true))), (4, (.one (.int .i64 v4)))], [(8, some (.row (.int .u8) true h8))], 9⟩⟩
theorem sha_pad_eq (a0 : Int) : sha_pad a0 = (
  gd ((64 : Int) ≠ 0) <|
  gd ((64 : Int) ≠ 0) <|
  gd (0 ≤ (Int.tmod (IntKind.wrap .i64 ((119 : Int) - (Int.tmod a0 (64 : Int)))) (64 : Int))) <|
  gd ((Int.tmod (IntKind.wrap .i64 ((119 : Int) - (Int.tmod a0 (64 : Int)))) (64 : Int)) * 1 ≤ 140737488355328) <|
  gd ((Int.tmod (IntKind.wrap .i64 ((119 : Int) - (Int.tmod a0 (64 : Int)))) (64 : Int)) ≤ 9223372036854775807) <|
  gd ((List.length ([(128 : Int)] ++ (List.replicate (Int.toNat (Int.tmod (IntKind.wrap .i64 ((119 : Int) - (Int.tmod a0 (64 : Int)))) (64 : Int))) (0 : Int)))) * 1 ≤ 140737488355328) <|
  sha_pad_c1 a0 (56 : Int) ([(128 : Int)] ++ (List.replicate (Int.toNat (Int.tmod (IntKind.wrap .i64 ((119 : Int) - (Int.tmod a0 (64 : Int)))) (64 : Int))) (0 : Int)))) := (FnI.call_eq (by kernel_rfl)).trans (by kernel_rfl)
theorem sha_pad_c1_eq (v0 : Int) (v4 : Int) (h8 : List Int) : sha_pad_c1 v0 v4 h8 = (
  if (decide (v4 ≥ (0 : Int))) = true then
    gd (0 ≤ v4) <|
    gd ((List.length (h8 ++ [(IntKind.wrap .u8 (shrBy .u64 (IntKind.wrap .u64 ((IntKind.wrap .u64 v0) * (8 : Int))) v4))])) * 1 ≤ 140737488355328) <|
    sha_pad_c1 v0 (IntKind.wrap .i64 (v4 - (8 : Int))) (h8 ++ [(IntKind.wrap .u8 (shrBy .u64 (IntKind.wrap .u64 ((IntKind.wrap .u64 v0) * (8 : Int))) v4))])
  else
    some (h8)) := (FnI.sem_eq _).trans (by kernel_rfl)
noncomputable def sha_pad_S (acc : List AV → Bool) : Summ Tryd.prog GT := sha_pad_I.summ mixed acc false false

/-! slices.Grow[[]byte,byte] -/
noncomputable def slices_Grow_byte_byte_I : FnI Tryd.prog GT := { f := 151, cuts := [], tab := [], fm := ⟨true, [.part (.int .u8)]⟩ }
noncomputable def slices_Grow_byte_byte (a1 : Int) : Option (List Int × Nat × Nat) := slices_Grow_byte_byte_I.call [.nil, (.int .i64 a1)] []
theorem slices_Grow_byte_byte_eq (a1 : Int) : slices_Grow_byte_byte a1 = (
  if (decide (a1 < (0 : Int))) = true then
    none
  else
    if (decide ((IntKind.wrap .i64 (a1 - (0 : Int))) > (0 : Int))) = true then
      gd (0 ≤ (0 : Int)) <|
      gd ((0 : Int) ≤ (0 : Int)) <|
      gd (0 ≤ (IntKind.wrap .i64 (a1 - (0 : Int)))) <|
      gd ((IntKind.wrap .i64 (a1 - (0 : Int))) * 1 ≤ 140737488355328) <|
      gd ((IntKind.wrap .i64 (a1 - (0 : Int))) ≤ 9223372036854775807) <|
      gd ((List.length (List.replicate (Int.toNat (IntKind.wrap .i64 (a1 - (0 : Int)))) (0 : Int))) * 1 ≤ 140737488355328) <|
      gd (0 ≤ (0 : Int)) <|
      gd ((0 : Int) ≤ (Int.ofNat (List.length (List.replicate (Int.toNat (IntKind.wrap .i64 (a1 - (0 : Int)))) (0 : Int))))) <|
      some ((List.replicate (Int.toNat (IntKind.wrap .i64 (a1 - (0 : Int)))) (0 : Int)), (0, 0))
    else
      some ([], (0, 0))) := (FnI.call_eq (by kernel_rfl)).trans (by kernel_rfl)
noncomputable def slices_Grow_byte_byte_S (acc : List AV → Bool) : Summ Tryd.prog GT := slices_Grow_byte_byte_I.summ mixed acc false true

/-! slices.Concat[[]byte,byte] -/
noncomputable def slices_Concat_byte_byte_I : FnI Tryd.prog GT := { f := 124, cuts := [⟨(3, 3), [0, 3, 9, 10, 11], false, false⟩, ⟨(11, 3), [6, 25, 26, 27], false, false⟩], tab := [slices_Grow_byte_byte_S (fun _ => true)], fm := ⟨true, [.val (.slice (.int .u8)) [.pu]]⟩ }
noncomputable def slices_Concat_byte_byte (a0 : List (List Int)) : Option (List Int) := slices_Concat_byte_byte_I.call [(.sl (.slice (.int .u8)) false a0)] []
noncomputable def slices_Concat_byte_byte_c1 (v0 : List (List Int)) (v3 : Int) (v9 : List (List Int)) (v10 : Int) (v11 : Int) : Option (List Int) := slices_Concat_byte_byte_I.sem ⟨[.code (cIn (cIn (cSnd (cFst (cSnd (cSnd (bodyOf Tryd.prog 124))))))), .inLoop (cIn (cIn (cSnd (cFst (cSnd (cSnd (bodyOf Tryd.prog 124))))))), .inBlock 0, .code (cSnd (cSnd (cSnd (bodyOf Tryd.prog 124))))], ⟨[(0, (.one (.sl (.slice (.int .u8)) false v0))), (3, (.one (.int .i64 v3))), (9, (.one (.sl (.slice (.int .u8)) false v9))), (10, (.one (.int .i64 v10))), (11, (.one (.int .i64 v11)))], [], 8⟩⟩
noncomputable def slices_Concat_byte_byte_c2 (v6o : Nat) (v6n : Nat) (v25 : List (List Int)) (v26 : Int) (v27 : Int) (h8 : List Int) : Option (List Int) := slices_Concat_byte_byte_I.sem ⟨[.code (cIn (cIn (cSnd (cFst (cSnd (cSnd (cSnd (cSnd (bodyOf Tryd.prog 124))))))))), .inLoop (cIn (cIn (cSnd (cFst (cSnd (cSnd (cSnd (cSnd (bodyOf Tryd.prog 124))))))))), .inBlock 2, .code (cSnd (cSnd (cSnd (cSnd (cSnd (bodyOf Tryd.prog 124))))))], ⟨[(6, (.one (.ref (.int .u8) 8 v6o v6n false))), (25, (.one (.sl (.slice (.int .u8)) false v25))), (26, (.one (.int .i64 v26))), (27, (.one (.int .i64 v27)))], [(8, some (.row (.int .u8) true h8))], 9⟩⟩
noncomputable def slices_Concat_byte_byte_c3 (v25 : List (List Int)) (v26 : Int) (v27 : Int) (h8 : List Int) : Option (List Int) := slices_Concat_byte_byte_I.sem ⟨[.code (cIn (cIn (cSnd (cFst (cSnd (cSnd (cSnd (cSnd (bodyOf Tryd.prog 124))))))))), .inLoop (cIn (cIn (cSnd (cFst (cSnd (cSnd (cSnd (cSnd (bodyOf Tryd.prog 124))))))))), .inBlock 2, .code (cSnd (cSnd (cSnd (cSnd (cSnd (bodyOf Tryd.prog 124))))))], ⟨[(6, (.one (.ref (.int .u8) 8 0 (List.length h8) true))), (25, (.one (.sl (.slice (.int .u8)) false v25))), (26, (.one (.int .i64 v26))), (27, (.one (.int .i64 v27)))], [(8, some (.row (.int .u8) true h8))], 9⟩⟩
theorem slices_Concat_byte_byte_eq (a0 : List (List Int)) : slices_Concat_byte_byte a0 = (
  slices_Concat_byte_byte_c1 a0 (0 : Int) a0 (Int.ofNat (List.length a0)) (0 : Int)) := (FnI.call_eq (by kernel_rfl)).trans (by kernel_rfl)
theorem slices_Concat_byte_byte_c1_eq (v0 : List (List Int)) (v3 : Int) (v9 : List (List Int)) (v10 : Int) (v11 : Int) : slices_Concat_byte_byte_c1 v0 v3 v9 v10 v11 = (
  if (decide (v11 < v10)) = true then
    gd (0 ≤ v11) <|
    gd (v11 < (Int.ofNat (List.length v9))) <|
    if (decide ((IntKind.wrap .i64 (v3 + (Int.ofNat (List.length (List.getD v9 (Int.toNat v11) []))))) < (0 : Int))) = true then
      none
    else
      slices_Concat_byte_byte_c1 v0 (IntKind.wrap .i64 (v3 + (Int.ofNat (List.length (List.getD v9 (Int.toNat v11) []))))) v9 v10 (IntKind.wrap .i64 (v11 + (1 : Int)))
  else
    (slices_Grow_byte_byte v3).bind fun (r1 : (List Int × Nat × Nat)) =>
    slices_Concat_byte_byte_c2 r1.2.1 r1.2.2 v0 (Int.ofNat (List.length v0)) (0 : Int) r1.1) := (FnI.sem_eq _).trans (by kernel_rfl)
theorem slices_Concat_byte_byte_c2_eq (v6o : Nat) (v6n : Nat) (v25 : List (List Int)) (v26 : Int) (v27 : Int) (h8 : List Int) : slices_Concat_byte_byte_c2 v6o v6n v25 v26 v27 h8 = (
  if (decide (v27 < v26)) = true then
    gd (0 ≤ v27) <|
    gd (v27 < (Int.ofNat (List.length v25))) <|
    gd ((List.length ((List.take v6n (List.drop v6o h8)) ++ (List.getD v25 (Int.toNat v27) []))) * 1 ≤ 140737488355328) <|
    slices_Concat_byte_byte_c3 v25 v26 (IntKind.wrap .i64 (v27 + (1 : Int))) ((List.take v6n (List.drop v6o h8)) ++ (List.getD v25 (Int.toNat v27) []))
  else
    some (List.take v6n (List.drop v6o h8))) := (FnI.sem_eq _).trans (by kernel_rfl)
theorem slices_Concat_byte_byte_c3_eq (v25 : List (List Int)) (v26 : Int) (v27 : Int) (h8 : List Int) : slices_Concat_byte_byte_c3 v25 v26 v27 h8 = (
  if (decide (v27 < v26)) = true then
    gd (0 ≤ v27) <|
    gd (v27 < (Int.ofNat (List.length v25))) <|
    gd ((List.length (h8 ++ (List.getD v25 (Int.toNat v27) []))) * 1 ≤ 140737488355328) <|
    slices_Concat_byte_byte_c3 v25 v26 (IntKind.wrap .i64 (v27 + (1 : Int))) (h8 ++ (List.getD v25 (Int.toNat v27) []))
  else
    some (h8)) := (FnI.sem_eq _).trans (by kernel_rfl)
noncomputable def slices_Concat_byte_byte_S (acc : List AV → Bool) : Summ Tryd.prog GT := slices_Concat_byte_byte_I.summ mixed acc false false

/-! math/bits.RotateLeft32 -/
noncomputable def math_bits_RotateLeft32_I : FnI Tryd.prog GT := { f := 152, cuts := [], tab := [], fm := ⟨true, [.val (.int .u32) []]⟩ }
noncomputable def math_bits_RotateLeft32 (a0 : Int) (a1 : Int) : Option (Int) := math_bits_RotateLeft32_I.call [(.int .u32 a0), (.int .i64 a1)] []
theorem math_bits_RotateLeft32_eq (a0 : Int) (a1 : Int) : math_bits_RotateLeft32 a0 a1 = (
  gd (0 ≤ (bitsAnd .u64 (IntKind.wrap .u64 a1) (31 : Int))) <|
  gd (0 ≤ (IntKind.wrap .u64 ((32 : Int) - (bitsAnd .u64 (IntKind.wrap .u64 a1) (31 : Int))))) <|
  some (bitsOr .u32 (IntKind.wrap .u32 (shlBy .u32 a0 (bitsAnd .u64 (IntKind.wrap .u64 a1) (31 : Int)))) (shrBy .u32 a0 (IntKind.wrap .u64 ((32 : Int) - (bitsAnd .u64 (IntKind.wrap .u64 a1) (31 : Int))))))) := (FnI.call_eq (by kernel_rfl)).trans (by kernel_rfl)
noncomputable def math_bits_RotateLeft32_S (acc : List AV → Bool) : Summ Tryd.prog GT := math_bits_RotateLeft32_I.summ mixed acc false false

/-! bitloft/sha.mix -/
noncomputable def sha_mix_I : FnI Tryd.prog GT := { f := 153, cuts := [], tab := [], fm := ⟨true, [.val (.int .u32) []]⟩ }
noncomputable def sha_mix (a0 : Int) (a1 : Int) (a2 : Int) (a3 : Int) : Option (Int) := sha_mix_I.call [(.int .i64 a0), (.int .u32 a1), (.int .u32 a2), (.int .u32 a3)] []
theorem sha_mix_eq (a0 : Int) (a1 : Int) (a2 : Int) (a3 : Int) : sha_mix a0 a1 a2 a3 = (
  if (a0 == (0 : Int)) = true then
    some (bitsXor .u32 a3 (bitsAnd .u32 a1 (bitsXor .u32 a2 a3)))
  else
    if (a0 == (2 : Int)) = true then
      some (bitsOr .u32 (bitsAnd .u32 a1 a2) (bitsAnd .u32 a3 (bitsOr .u32 a1 a2)))
    else
      some (bitsXor .u32 (bitsXor .u32 a1 a2) a3)) := (FnI.call_eq (by kernel_rfl)).trans (by kernel_rfl)
noncomputable def sha_mix_S (acc : List AV → Bool) : Summ Tryd.prog GT := sha_mix_I.summ mixed acc false false

/-! bitloft/sha.do -/
noncomputable def sha_do_I : FnI Tryd.prog GT := { f := 126, cuts := [⟨(3, 3), [2, 4, 5, 16, 17, 18], false, false⟩, ⟨(9, 3), [2, 4, 5, 8, 9, 10, 11, 12, 45], false, false⟩], tab := [math_bits_RotateLeft32_S (fun _ => true), sha_mix_S (fun _ => true)], fm := ⟨true, [.val (.arr 5 (.int .u32)) []]⟩ }
noncomputable def sha_do (a0 : (List Int)) (a1 : List Int) : Option ((List Int)) := sha_do_I.call [(.agg (.arr 5 (.int .u32)) a0), (.sl (.int .u8) false a1)] []
noncomputable def sha_do_c1 (v16 : List Int) (v17 : Int) (v18 : Int) (b8 : (List Int)) (b9 : (List Int)) (b10 : (List Int)) : Option ((List Int)) := sha_do_I.sem ⟨[.code (cIn (cIn (cSnd (cFst (cSnd (cSnd (bodyOf Tryd.prog 126))))))), .inLoop (cIn (cIn (cSnd (cFst (cSnd (cSnd (bodyOf Tryd.prog 126))))))), .inBlock 0, .code (cSnd (cSnd (cSnd (bodyOf Tryd.prog 126))))], ⟨[(2, (.one (.ptr (.arr 5 (.int .u32)) 8 []))), (4, (.one (.ptr (.arr 5 (.int .u32)) 9 []))), (5, (.one (.ptr (.arr 16 (.int .u32)) 10 []))), (16, (.one (.sl (.int .u8) false v16))), (17, (.one (.int .i64 v17))), (18, (.one (.int .i64 v18)))], [(8, some (.box (.arr 5 (.int .u32)) b8)), (9, some (.box (.arr 5 (.int .u32)) b9)), (10, some (.box (.arr 16 (.int .u32)) b10))], 11⟩⟩
noncomputable def sha_do_c2 (v8 : Int) (v9 : Int) (v10 : Int) (v11 : Int) (v12 : Int) (v45 : Int) (b8 : (List Int)) (b9 : (List Int)) (b10 : (List Int)) : Option ((List Int)) := sha_do_I.sem ⟨[.code (cIn (cIn (cSnd (cFst (cSnd (cSnd (cSnd (cSnd (bodyOf Tryd.prog 126))))))))), .inLoop (cIn (cIn (cSnd (cFst (cSnd (cSnd (cSnd (cSnd (bodyOf Tryd.prog 126))))))))), .inBlock 2, .code (cSnd (cSnd (cSnd (cSnd (cSnd (bodyOf Tryd.prog 126))))))], ⟨[(2, (.one (.ptr (.arr 5 (.int .u32)) 8 []))), (4, (.one (.ptr (.arr 5 (.int .u32)) 9 []))), (5, (.one (.ptr (.arr 16 (.int .u32)) 10 []))), (8, (.one (.int .u32 v8))), (9, (.one (.int .u32 v9))), (10, (.one (.int .u32 v10))), (11, (.one (.int .u32 v11))), (12, (.one (.int .u32 v12))), (45, (.one (.int .i64 v45)))], [(8, some (.box (.arr 5 (.int .u32)) b8)), (9, some (.box (.arr 5 (.int .u32)) b9)), (10, some (.box (.arr 16 (.int .u32)) b10))], 11⟩⟩
theorem sha_do_eq (a0 : (List Int)) (a1 : List Int) : sha_do a0 a1 = (
  gd (0 ≤ (64 : Int)) <|
  gd ((64 : Int) ≤ (Int.ofNat (List.length a1))) <|
  sha_do_c1 (List.take 64 a1) (Int.ofNat (List.length (List.take 64 a1))) (0 : Int) a0 (List.replicate 5 (0 : Int)) (List.replicate 16 (0 : Int))) := (FnI.call_eq (by kernel_rfl)).trans (by kernel_rfl)
theorem sha_do_c1_eq (v16 : List Int) (v17 : Int) (v18 : Int) (b8 : (List Int)) (b9 : (List Int)) (b10 : (List Int)) : sha_do_c1 v16 v17 v18 b8 b9 b10 = (
  if (decide (v18 < v17)) = true then
    gd (0 ≤ v18) <|
    gd (v18 < (Int.ofNat (List.length v16))) <|
    gd ((4 : Int) ≠ 0) <|
    gd ((4 : Int) ≠ 0) <|
    gd (0 ≤ (IntKind.wrap .i64 (Int.tdiv v18 (4 : Int)))) <|
    gd ((IntKind.wrap .i64 (Int.tdiv v18 (4 : Int))) < (16 : Int)) <|
    gd (0 ≤ (8 : Int)) <|
    gd (0 ≤ (IntKind.wrap .i64 (Int.tdiv v18 (4 : Int)))) <|
    gd ((IntKind.wrap .i64 (Int.tdiv v18 (4 : Int))) < (16 : Int)) <|
    sha_do_c1 v16 v17 (IntKind.wrap .i64 (v18 + (1 : Int))) b8 b9 (List.set b10 (Int.toNat (IntKind.wrap .i64 (Int.tdiv v18 (4 : Int)))) (bitsOr .u32 (IntKind.wrap .u32 ((List.getD b10 (Int.toNat (IntKind.wrap .i64 (Int.tdiv v18 (4 : Int)))) (0 : Int)) * (256 : Int))) (IntKind.wrap .u32 (List.getD v16 (Int.toNat v18) (0 : Int)))))
  else
    gd (0 ≤ (0 : Int)) <|
    gd ((0 : Int) < (5 : Int)) <|
    gd (0 ≤ (1 : Int)) <|
    gd ((1 : Int) < (5 : Int)) <|
    gd (0 ≤ (2 : Int)) <|
    gd ((2 : Int) < (5 : Int)) <|
    gd (0 ≤ (3 : Int)) <|
    gd ((3 : Int) < (5 : Int)) <|
    gd (0 ≤ (4 : Int)) <|
    gd ((4 : Int) < (5 : Int)) <|
    sha_do_c2 (List.getD b8 0 (0 : Int)) (List.getD b8 1 (0 : Int)) (List.getD b8 2 (0 : Int)) (List.getD b8 3 (0 : Int)) (List.getD b8 4 (0 : Int)) (0 : Int) b8 b9 b10) := (FnI.sem_eq _).trans (by kernel_rfl)
theorem sha_do_c2_eq (v8 : Int) (v9 : Int) (v10 : Int) (v11 : Int) (v12 : Int) (v45 : Int) (b8 : (List Int)) (b9 : (List Int)) (b10 : (List Int)) : sha_do_c2 v8 v9 v10 v11 v12 v45 b8 b9 b10 = (
  if (decide (v45 < (80 : Int))) = true then
    if (decide (v45 ≥ (16 : Int))) = true then
      gd ((16 : Int) ≠ 0) <|
      gd ((16 : Int) ≠ 0) <|
      gd (0 ≤ (Int.tmod (IntKind.wrap .i64 (v45 + (13 : Int))) (16 : Int))) <|
      gd ((Int.tmod (IntKind.wrap .i64 (v45 + (13 : Int))) (16 : Int)) < (16 : Int)) <|
      gd ((16 : Int) ≠ 0) <|
      gd (0 ≤ (Int.tmod (IntKind.wrap .i64 (v45 + (8 : Int))) (16 : Int))) <|
      gd ((Int.tmod (IntKind.wrap .i64 (v45 + (8 : Int))) (16 : Int)) < (16 : Int)) <|
      gd ((16 : Int) ≠ 0) <|
      gd (0 ≤ (Int.tmod (IntKind.wrap .i64 (v45 + (2 : Int))) (16 : Int))) <|
      gd ((Int.tmod (IntKind.wrap .i64 (v45 + (2 : Int))) (16 : Int)) < (16 : Int)) <|
      gd ((16 : Int) ≠ 0) <|
      gd (0 ≤ (Int.tmod v45 (16 : Int))) <|
      gd ((Int.tmod v45 (16 : Int)) < (16 : Int)) <|
      (math_bits_RotateLeft32 (bitsXor .u32 (bitsXor .u32 (bitsXor .u32 (List.getD b10 (Int.toNat (Int.tmod (IntKind.wrap .i64 (v45 + (13 : Int))) (16 : Int))) (0 : Int)) (List.getD b10 (Int.toNat (Int.tmod (IntKind.wrap .i64 (v45 + (8 : Int))) (16 : Int))) (0 : Int))) (List.getD b10 (Int.toNat (Int.tmod (IntKind.wrap .i64 (v45 + (2 : Int))) (16 : Int))) (0 : Int))) (List.getD b10 (Int.toNat (Int.tmod v45 (16 : Int))) (0 : Int))) (1 : Int)).bind fun (r1 : (Int)) =>
      gd (0 ≤ (Int.tmod v45 (16 : Int))) <|
      gd ((Int.tmod v45 (16 : Int)) < (16 : Int)) <|
      (math_bits_RotateLeft32 v8 (5 : Int)).bind fun (r2 : (Int)) =>
      gd ((20 : Int) ≠ 0) <|
      (sha_mix (IntKind.wrap .i64 (Int.tdiv v45 (20 : Int))) v9 v10 v11).bind fun (r3 : (Int)) =>
      gd ((20 : Int) ≠ 0) <|
      gd (0 ≤ (IntKind.wrap .i64 (Int.tdiv v45 (20 : Int)))) <|
      gd ((IntKind.wrap .i64 (Int.tdiv v45 (20 : Int))) < (4 : Int)) <|
      gd ((16 : Int) ≠ 0) <|
      gd (0 ≤ (Int.tmod v45 (16 : Int))) <|
      gd ((Int.tmod v45 (16 : Int)) < (16 : Int)) <|
      (math_bits_RotateLeft32 v9 (30 : Int)).bind fun (r4 : (Int)) =>
      sha_do_c2 (IntKind.wrap .u32 ((IntKind.wrap .u32 ((IntKind.wrap .u32 ((IntKind.wrap .u32 (r2 + r3)) + v12)) + (List.getD G_quarters (Int.toNat (IntKind.wrap .i64 (Int.tdiv v45 (20 : Int)))) (0 : Int)))) + (List.getD (List.set b10 (Int.toNat (Int.tmod v45 (16 : Int))) r1) (Int.toNat (Int.tmod v45 (16 : Int))) (0 : Int)))) v8 r4 v10 v11 (IntKind.wrap .i64 (v45 + (1 : Int))) b8 b9 (List.set b10 (Int.toNat (Int.tmod v45 (16 : Int))) r1)
    else
      (math_bits_RotateLeft32 v8 (5 : Int)).bind fun (r5 : (Int)) =>
      gd ((20 : Int) ≠ 0) <|
      (sha_mix (IntKind.wrap .i64 (Int.tdiv v45 (20 : Int))) v9 v10 v11).bind fun (r6 : (Int)) =>
      gd ((20 : Int) ≠ 0) <|
      gd (0 ≤ (IntKind.wrap .i64 (Int.tdiv v45 (20 : Int)))) <|
      gd ((IntKind.wrap .i64 (Int.tdiv v45 (20 : Int))) < (4 : Int)) <|
      gd ((16 : Int) ≠ 0) <|
      gd (0 ≤ (Int.tmod v45 (16 : Int))) <|
      gd ((Int.tmod v45 (16 : Int)) < (16 : Int)) <|
      (math_bits_RotateLeft32 v9 (30 : Int)).bind fun (r7 : (Int)) =>
      sha_do_c2 (IntKind.wrap .u32 ((IntKind.wrap .u32 ((IntKind.wrap .u32 ((IntKind.wrap .u32 (r5 + r6)) + v12)) + (List.getD G_quarters (Int.toNat (IntKind.wrap .i64 (Int.tdiv v45 (20 : Int)))) (0 : Int)))) + (List.getD b10 (Int.toNat (Int.tmod v45 (16 : Int))) (0 : Int)))) v8 r7 v10 v11 (IntKind.wrap .i64 (v45 + (1 : Int))) b8 b9 b10
  else
    gd (0 ≤ (0 : Int)) <|
    gd ((0 : Int) < (5 : Int)) <|
    gd (0 ≤ (1 : Int)) <|
    gd ((1 : Int) < (5 : Int)) <|
    gd (0 ≤ (2 : Int)) <|
    gd ((2 : Int) < (5 : Int)) <|
    gd (0 ≤ (3 : Int)) <|
    gd ((3 : Int) < (5 : Int)) <|
    gd (0 ≤ (4 : Int)) <|
    gd ((4 : Int) < (5 : Int)) <|
    some (List.set (List.set (List.set (List.set (List.set (List.replicate 5 (0 : Int)) 0 (IntKind.wrap .u32 ((List.getD b8 0 (0 : Int)) + v8))) 1 (IntKind.wrap .u32 ((List.getD b8 1 (0 : Int)) + v9))) 2 (IntKind.wrap .u32 ((List.getD b8 2 (0 : Int)) + v10))) 3 (IntKind.wrap .u32 ((List.getD b8 3 (0 : Int)) + v11))) 4 (IntKind.wrap .u32 ((List.getD b8 4 (0 : Int)) + v12)))) := (FnI.sem_eq _).trans (by kernel_rfl)
noncomputable def sha_do_S (acc : List AV → Bool) : Summ Tryd.prog GT := sha_do_I.summ mixed acc false false

/-! bitloft/sha.Sum -/
noncomputable def sha_Sum_I : FnI Tryd.prog GT := { f := 83, cuts := [⟨(5, 3), [2, 4, 5], false, false⟩, ⟨(9, 3), [2, 27, 28], false, false⟩], tab := [sha_pad_S (fun _ => true), slices_Concat_byte_byte_S (fun _ => true), sha_do_S (fun _ => true)], fm := ⟨true, [.val (.arr 20 (.int .u8)) [], .val (.int .i64) []]⟩ }
noncomputable def sha_Sum (a0 : List Int) : Option ((List Int) × Int) := sha_Sum_I.call [(.sl (.int .u8) false a0)] []
noncomputable def sha_Sum_c1 (v5 : List Int) (b8 : (List Int)) (b9 : (List Int)) : Option ((List Int) × Int) := sha_Sum_I.sem ⟨[.code (cIn (cIn (cSnd (cFst (cSnd (cSnd (cSnd (bodyOf Tryd.prog 83)))))))), .inLoop (cIn (cIn (cSnd (cFst (cSnd (cSnd (cSnd (bodyOf Tryd.prog 83)))))))), .inBlock 0, .code (cSnd (cSnd (cSnd (cSnd (bodyOf Tryd.prog 83)))))], ⟨[(2, (.one (.ptr (.arr 20 (.int .u8)) 8 []))), (4, (.one (.ptr (.arr 5 (.int .u32)) 9 []))), (5, (.one (.sl (.int .u8) true v5)))], [(8, some (.box (.arr 20 (.int .u8)) b8)), (9, some (.box (.arr 5 (.int .u32)) b9))], 10⟩⟩
noncomputable def sha_Sum_c2 (v27 : (List Int)) (v28 : Int) (b8 : (List Int)) : Option ((List Int) × Int) := sha_Sum_I.sem ⟨[.code (cIn (cIn (cSnd (cFst (cSnd (cSnd (cSnd (cSnd (bodyOf Tryd.prog 83))))))))), .inLoop (cIn (cIn (cSnd (cFst (cSnd (cSnd (cSnd (cSnd (bodyOf Tryd.prog 83))))))))), .inBlock 2, .code (cSnd (cSnd (cSnd (cSnd (cSnd (bodyOf Tryd.prog 83))))))], ⟨[(2, (.one (.ptr (.arr 20 (.int .u8)) 8 []))), (27, (.one (.agg (.arr 5 (.int .u32)) v27))), (28, (.one (.int .i64 v28)))], [(8, some (.box (.arr 20 (.int .u8)) b8))], 9⟩⟩
theorem sha_Sum_eq (a0 : List Int) : sha_Sum a0 = (
  if (decide ((Int.ofNat (List.length a0)) > (20000 : Int))) = true then
    some ((List.replicate 20 (0 : Int)), (4 : Int))
  else
    (sha_pad (Int.ofNat (List.length a0))).bind fun (r1 : (List Int)) =>
    (slices_Concat_byte_byte [a0, r1]).bind fun (r2 : (List Int)) =>
    sha_Sum_c1 r2 (List.replicate 20 (0 : Int)) (List.set (List.set (List.set (List.set (List.set (List.replicate 5 (0 : Int)) 0 (1732584193 : Int)) 1 (4023233417 : Int)) 2 (2562383102 : Int)) 3 (271733878 : Int)) 4 (3285377520 : Int))) := (FnI.call_eq (by kernel_rfl)).trans (by kernel_rfl)
theorem sha_Sum_c1_eq (v5 : List Int) (b8 : (List Int)) (b9 : (List Int)) : sha_Sum_c1 v5 b8 b9 = (
  if (decide ((Int.ofNat (List.length v5)) > (0 : Int))) = true then
    (sha_do b9 v5).bind fun (r3 : ((List Int))) =>
    gd (0 ≤ (64 : Int)) <|
    gd ((64 : Int) ≤ (Int.ofNat (List.length v5))) <|
    sha_Sum_c1 (List.drop 64 v5) b8 r3
  else
    sha_Sum_c2 b9 (0 : Int) b8) := (FnI.sem_eq _).trans (by kernel_rfl)
theorem sha_Sum_c2_eq (v27 : (List Int)) (v28 : Int) (b8 : (List Int)) : sha_Sum_c2 v27 v28 b8 = (
  if (decide (v28 < (5 : Int))) = true then
    gd (0 ≤ v28) <|
    gd (v28 < (5 : Int)) <|
    gd (0 ≤ (24 : Int)) <|
    gd (0 ≤ (16 : Int)) <|
    gd (0 ≤ (8 : Int)) <|
    gd (0 ≤ (IntKind.wrap .i64 ((4 : Int) * v28))) <|
    gd ((IntKind.wrap .i64 ((4 : Int) * v28)) < (20 : Int)) <|
    gd (0 ≤ (IntKind.wrap .i64 ((IntKind.wrap .i64 ((4 : Int) * v28)) + (1 : Int)))) <|
    gd ((IntKind.wrap .i64 ((IntKind.wrap .i64 ((4 : Int) * v28)) + (1 : Int))) < (20 : Int)) <|
    gd (0 ≤ (IntKind.wrap .i64 ((IntKind.wrap .i64 ((4 : Int) * v28)) + (2 : Int)))) <|
    gd ((IntKind.wrap .i64 ((IntKind.wrap .i64 ((4 : Int) * v28)) + (2 : Int))) < (20 : Int)) <|
    gd (0 ≤ (IntKind.wrap .i64 ((IntKind.wrap .i64 ((4 : Int) * v28)) + (3 : Int)))) <|
    gd ((IntKind.wrap .i64 ((IntKind.wrap .i64 ((4 : Int) * v28)) + (3 : Int))) < (20 : Int)) <|
    sha_Sum_c2 v27 (IntKind.wrap .i64 (v28 + (1 : Int))) (List.set (List.set (List.set (List.set b8 (Int.toNat (IntKind.wrap .i64 ((4 : Int) * v28))) (IntKind.wrap .u8 (Int.fdiv (List.getD v27 (Int.toNat v28) (0 : Int)) (16777216 : Int)))) (Int.toNat (IntKind.wrap .i64 ((IntKind.wrap .i64 ((4 : Int) * v28)) + (1 : Int)))) (IntKind.wrap .u8 (Int.fdiv (List.getD v27 (Int.toNat v28) (0 : Int)) (65536 : Int)))) (Int.toNat (IntKind.wrap .i64 ((IntKind.wrap .i64 ((4 : Int) * v28)) + (2 : Int)))) (IntKind.wrap .u8 (Int.fdiv (List.getD v27 (Int.toNat v28) (0 : Int)) (256 : Int)))) (Int.toNat (IntKind.wrap .i64 ((IntKind.wrap .i64 ((4 : Int) * v28)) + (3 : Int)))) (IntKind.wrap .u8 (List.getD v27 (Int.toNat v28) (0 : Int))))
  else
    some (b8, (0 : Int))) := (FnI.sem_eq _).trans (by kernel_rfl)
noncomputable def sha_Sum_S (acc : List AV → Bool) : Summ Tryd.prog GT := sha_Sum_I.summ mixed acc false false

/-! bitloft/member.digest -/
noncomputable def member_digest_I : FnI Tryd.prog GT := { f := 142, cuts := [], tab := [sha_Sum_S (fun _ => true)], fm := ⟨true, [.val (.arr 20 (.int .u8)) []]⟩ }
noncomputable def member_digest (a0 : List Int) : Option ((List Int)) := member_digest_I.call [(.sl (.int .u8) false a0)] []
theorem member_digest_eq (a0 : List Int) : member_digest a0 = (
  (sha_Sum a0).bind fun (r1 : ((List Int) × Int)) =>
  some (r1.1)) := (FnI.call_eq (by kernel_rfl)).trans (by kernel_rfl)
noncomputable def member_digest_S (acc : List AV → Bool) : Summ Tryd.prog GT := member_digest_I.summ mixed acc false false

/-! bitloft/member.twice -/
noncomputable def member_twice_I : FnI Tryd.prog GT := { f := 143, cuts := [⟨(3, 3), [3, 7, 8, 9], false, false⟩], tab := [], fm := ⟨true, [.val .bool []]⟩ }
noncomputable def member_twice (a0 : List ByteArray) : Option (Bool) := member_twice_I.call [(.sl .str false a0)] []
noncomputable def member_twice_c1 (v7 : List ByteArray) (v8 : Int) (v9 : Int) (m8 : List (ByteArray × Bool)) : Option (Bool) := member_twice_I.sem ⟨[.code (cIn (cIn (cSnd (cFst (cSnd (cSnd (bodyOf Tryd.prog 143))))))), .inLoop (cIn (cIn (cSnd (cFst (cSnd (cSnd (bodyOf Tryd.prog 143))))))), .inBlock 0, .code (cSnd (cSnd (cSnd (bodyOf Tryd.prog 143))))], ⟨[(3, (.one (.mapr 8))), (7, (.one (.sl .str false v7))), (8, (.one (.int .i64 v8))), (9, (.one (.int .i64 v9)))], [(8, some (.map .str .bool m8))], 9⟩⟩
theorem member_twice_eq (a0 : List ByteArray) : member_twice a0 = (
  member_twice_c1 a0 (Int.ofNat (List.length a0)) (0 : Int) []) := (FnI.call_eq (by kernel_rfl)).trans (by kernel_rfl)
theorem member_twice_c1_eq (v7 : List ByteArray) (v8 : Int) (v9 : Int) (m8 : List (ByteArray × Bool)) : member_twice_c1 v7 v8 v9 m8 = (
  if (decide (v9 < v8)) = true then
    gd (0 ≤ v9) <|
    gd (v9 < (Int.ofNat (List.length v7))) <|
    if (Option.getD (mget (peq .str) (List.getD v7 (Int.toNat v9) ByteArray.empty) m8) false) = true then
      some (true)
    else
      member_twice_c1 v7 v8 (IntKind.wrap .i64 (v9 + (1 : Int))) (mset (peq .str) (List.getD v7 (Int.toNat v9) ByteArray.empty) true m8)
  else
    some (false)) := (FnI.sem_eq _).trans (by kernel_rfl)
noncomputable def member_twice_S (acc : List AV → Bool) : Summ Tryd.prog GT := member_twice_I.summ mixed acc false false

/-! bitloft/member.Valid -/
noncomputable def member_Valid_I : FnI Tryd.prog GT := { f := 104, cuts := [⟨(6, 3), [3, 4, 10, 11, 12], false, false⟩], tab := [member_isName_S (fun _ => true), member_digest_S (fun _ => true), member_twice_S (fun _ => true)], fm := ⟨true, [.val (.int .i64) []]⟩ }
noncomputable def member_Valid (a0 : List D_api_Record) : Option (Int) := member_Valid_I.call [(.sl T_api_Record false a0)] []
noncomputable def member_Valid_c1 (v3 : Int) (v10 : List D_api_Record) (v11 : Int) (v12 : Int) (h8 : List ByteArray) : Option (Int) := member_Valid_I.sem ⟨[.code (cIn (cIn (cSnd (cFst (cSnd (cSnd (cSnd (cSnd (bodyOf Tryd.prog 104))))))))), .inLoop (cIn (cIn (cSnd (cFst (cSnd (cSnd (cSnd (cSnd (bodyOf Tryd.prog 104))))))))), .inBlock 0, .code (cSnd (cSnd (cSnd (cSnd (cSnd (bodyOf Tryd.prog 104))))))], ⟨[(3, (.one (.int .i64 v3))), (4, (.one (.ref .str 8 0 (List.length h8) true))), (10, (.one (.sl T_api_Record false v10))), (11, (.one (.int .i64 v11))), (12, (.one (.int .i64 v12)))], [(8, some (.row .str true h8))], 9⟩⟩
theorem member_Valid_eq (a0 : List D_api_Record) : member_Valid a0 = (
  if (decide ((Int.ofNat (List.length a0)) > (16 : Int))) = true then
    some (4 : Int)
  else
    member_Valid_c1 (0 : Int) a0 (Int.ofNat (List.length a0)) (0 : Int) []) := (FnI.call_eq (by kernel_rfl)).trans (by kernel_rfl)
theorem member_Valid_c1_eq (v3 : Int) (v10 : List D_api_Record) (v11 : Int) (v12 : Int) (h8 : List ByteArray) : member_Valid_c1 v3 v10 v11 v12 h8 = (
  if (decide (v12 < v11)) = true then
    gd (0 ≤ v12) <|
    gd (v12 < (Int.ofNat (List.length v10))) <|
    (member_isName (List.getD v10 (Int.toNat v12) (pzero T_api_Record)).1).bind fun (r1 : (Bool)) =>
    if (not r1) = true then
      some (8 : Int)
    else
      if (decide ((List.getD v10 (Int.toNat v12) (pzero T_api_Record)).2.1 < (0 : Int))) = true then
        some (8 : Int)
      else
        if (decide ((List.getD v10 (Int.toNat v12) (pzero T_api_Record)).2.1 > (8192 : Int))) = true then
          some (8 : Int)
        else
          if ((List.getD v10 (Int.toNat v12) (pzero T_api_Record)).2.1 == (0 : Int)) = true then
            (member_digest []).bind fun (r2 : ((List Int))) =>
            if (not (peq (.arr 20 (.int .u8)) (List.getD v10 (Int.toNat v12) (pzero T_api_Record)).2.2.1 r2)) = true then
              some (8 : Int)
            else
              gd ((List.length (h8 ++ [(List.getD v10 (Int.toNat v12) (pzero T_api_Record)).1])) * 16 ≤ 140737488355328) <|
              member_Valid_c1 (IntKind.wrap .i64 (v3 + (List.getD v10 (Int.toNat v12) (pzero T_api_Record)).2.1)) v10 v11 (IntKind.wrap .i64 (v12 + (1 : Int))) (h8 ++ [(List.getD v10 (Int.toNat v12) (pzero T_api_Record)).1])
          else
            gd ((List.length (h8 ++ [(List.getD v10 (Int.toNat v12) (pzero T_api_Record)).1])) * 16 ≤ 140737488355328) <|
            member_Valid_c1 (IntKind.wrap .i64 (v3 + (List.getD v10 (Int.toNat v12) (pzero T_api_Record)).2.1)) v10 v11 (IntKind.wrap .i64 (v12 + (1 : Int))) (h8 ++ [(List.getD v10 (Int.toNat v12) (pzero T_api_Record)).1])
  else
    if (decide (v3 > (8192 : Int))) = true then
      some (4 : Int)
    else
      (member_twice h8).bind fun (r3 : (Bool)) =>
      if r3 = true then
        some (14 : Int)
      else
        some (0 : Int)) := (FnI.sem_eq _).trans (by kernel_rfl)
noncomputable def member_Valid_S (acc : List AV → Bool) : Summ Tryd.prog GT := member_Valid_I.summ mixed acc false false

/-! bitloft/split.check$1 -/
noncomputable def split_check_1_I : FnI Tryd.prog GT := { f := 140, cuts := [], tab := [], fm := ⟨true, [.val .bool []]⟩ }
noncomputable def split_check_1 (a0 : Int) : Option (Bool) := split_check_1_I.call [(.int .i64 a0)] []
theorem split_check_1_eq (a0 : Int) : split_check_1 a0 = (
  some (decide (a0 < (0 : Int)))) := (FnI.call_eq (by kernel_rfl)).trans (by kernel_rfl)
noncomputable def split_check_1_S (acc : List AV → Bool) : Summ Tryd.prog GT := split_check_1_I.summ mixed acc false false

/-! slices.IndexFunc[[]int,int] -/
noncomputable def slices_IndexFunc_int_int_I : FnI Tryd.prog GT := { f := 158, cuts := [⟨(2, 3), [0, 1, 7, 8], false, false⟩], tab := [split_check_1_S (fun _ => true)], fm := ⟨true, [.val (.int .i64) []]⟩ }
noncomputable def slices_IndexFunc_int_int (a0 : List Int) : Option (Int) := slices_IndexFunc_int_int_I.call [(.sl (.int .i64) false a0), (.func 140 [])] []
noncomputable def slices_IndexFunc_int_int_c1 (v0 : List Int) (v7 : Int) (v8 : Int) : Option (Int) := slices_IndexFunc_int_int_I.sem ⟨[.code (cIn (cIn (cSnd (cFst (cSnd (bodyOf Tryd.prog 158)))))), .inLoop (cIn (cIn (cSnd (cFst (cSnd (bodyOf Tryd.prog 158)))))), .inBlock 0, .code (cSnd (cSnd (bodyOf Tryd.prog 158)))], ⟨[(0, (.one (.sl (.int .i64) false v0))), (1, (.one (.func 140 []))), (7, (.one (.int .i64 v7))), (8, (.one (.int .i64 v8)))], [], 8⟩⟩
theorem slices_IndexFunc_int_int_eq (a0 : List Int) : slices_IndexFunc_int_int a0 = (
  slices_IndexFunc_int_int_c1 a0 (Int.ofNat (List.length a0)) (0 : Int)) := (FnI.call_eq (by kernel_rfl)).trans (by kernel_rfl)
theorem slices_IndexFunc_int_int_c1_eq (v0 : List Int) (v7 : Int) (v8 : Int) : slices_IndexFunc_int_int_c1 v0 v7 v8 = (
  if (decide (v8 < v7)) = true then
    gd (0 ≤ v8) <|
    gd (v8 < (Int.ofNat (List.length v0))) <|
    (split_check_1 (List.getD v0 (Int.toNat v8) (0 : Int))).bind fun (r1 : (Bool)) =>
    if r1 = true then
      some (v8)
    else
      slices_IndexFunc_int_int_c1 v0 v7 (IntKind.wrap .i64 (v8 + (1 : Int)))
  else
    some (-1 : Int)) := (FnI.sem_eq _).trans (by kernel_rfl)
noncomputable def slices_IndexFunc_int_int_S (acc : List AV → Bool) : Summ Tryd.prog GT := slices_IndexFunc_int_int_I.summ mixed acc false false

/-! slices.ContainsFunc[[]int,int] -/
noncomputable def slices_ContainsFunc_int_int_I : FnI Tryd.prog GT := { f := 139, cuts := [], tab := [slices_IndexFunc_int_int_S (fun _ => true)], fm := ⟨true, [.val .bool []]⟩ }
noncomputable def slices_ContainsFunc_int_int (a0 : List Int) : Option (Bool) := slices_ContainsFunc_int_int_I.call [(.sl (.int .i64) false a0), (.func 140 [])] []
theorem slices_ContainsFunc_int_int_eq (a0 : List Int) : slices_ContainsFunc_int_int a0 = (
  (slices_IndexFunc_int_int a0).bind fun (r1 : (Int)) =>
  some (decide (r1 ≥ (0 : Int)))) := (FnI.call_eq (by kernel_rfl)).trans (by kernel_rfl)
noncomputable def slices_ContainsFunc_int_int_S (acc : List AV → Bool) : Summ Tryd.prog GT := slices_ContainsFunc_int_int_I.summ mixed acc false false

/-! bitloft/split.check -/
noncomputable def split_check_I : FnI Tryd.prog GT := { f := 102, cuts := [⟨(7, 3), [3, 11, 12, 13], false, false⟩], tab := [slices_ContainsFunc_int_int_S (fun _ => true)], fm := ⟨true, [.val (.int .i64) []]⟩ }
noncomputable def split_check (a0 : List Int) : Option (Int) := split_check_I.call [(.sl (.int .i64) false a0)] []
noncomputable def split_check_c1 (v3 : Int) (v11 : List Int) (v12 : Int) (v13 : Int) : Option (Int) := split_check_I.sem ⟨[.code (cIn (cIn (cSnd (cFst (cSnd (cSnd (cSnd (cSnd (bodyOf Tryd.prog 102))))))))), .inLoop (cIn (cIn (cSnd (cFst (cSnd (cSnd (cSnd (cSnd (bodyOf Tryd.prog 102))))))))), .inBlock 0, .code (cSnd (cSnd (cSnd (cSnd (cSnd (bodyOf Tryd.prog 102))))))], ⟨[(3, (.one (.int .i64 v3))), (11, (.one (.sl (.int .i64) false v11))), (12, (.one (.int .i64 v12))), (13, (.one (.int .i64 v13)))], [], 8⟩⟩
theorem split_check_eq (a0 : List Int) : split_check a0 = (
  (slices_ContainsFunc_int_int a0).bind fun (r1 : (Bool)) =>
  if r1 = true then
    some (8 : Int)
  else
    if (decide ((Int.ofNat (List.length a0)) > (16 : Int))) = true then
      some (4 : Int)
    else
      split_check_c1 (0 : Int) a0 (Int.ofNat (List.length a0)) (0 : Int)) := (FnI.call_eq (by kernel_rfl)).trans (by kernel_rfl)
theorem split_check_c1_eq (v3 : Int) (v11 : List Int) (v12 : Int) (v13 : Int) : split_check_c1 v3 v11 v12 v13 = (
  if (decide (v13 < v12)) = true then
    gd (0 ≤ v13) <|
    gd (v13 < (Int.ofNat (List.length v11))) <|
    if (decide ((IntKind.wrap .i64 (v3 + (if (8193 : Int) < (List.getD v11 (Int.toNat v13) (0 : Int)) then (8193 : Int) else (List.getD v11 (Int.toNat v13) (0 : Int))))) > (8192 : Int))) = true then
      some (4 : Int)
    else
      split_check_c1 (IntKind.wrap .i64 (v3 + (if (8193 : Int) < (List.getD v11 (Int.toNat v13) (0 : Int)) then (8193 : Int) else (List.getD v11 (Int.toNat v13) (0 : Int))))) v11 v12 (IntKind.wrap .i64 (v13 + (1 : Int)))
  else
    some (0 : Int)) := (FnI.sem_eq _).trans (by kernel_rfl)
noncomputable def split_check_S (acc : List AV → Bool) : Summ Tryd.prog GT := split_check_I.summ mixed acc false false

/-! bitloft/split.Pieces -/
noncomputable def split_Pieces_I : FnI Tryd.prog GT := { f := 49, cuts := [⟨(8, 3), [1, 7, 22, 23, 24], false, false⟩, ⟨(11, 7), [1, 7, 8, 9, 10, 22, 23, 24], false, false⟩], tab := [split_check_S (fun _ => true)], fm := ⟨true, [.val (.slice T_api_Piece) [.nw], .val (.int .i64) []]⟩ }
noncomputable def split_Pieces (a0 : List Int) (a1 : Int) : Option (List D_api_Piece × Int) := split_Pieces_I.call [(.sl (.int .i64) false a0), (.int .i64 a1)] []
noncomputable def split_Pieces_c1 (v1 : Int) (v22 : List Int) (v23 : Int) (v24 : Int) (h8 : List D_api_Piece) : Option (List D_api_Piece × Int) := split_Pieces_I.sem ⟨[.code (cIn (cIn (cSnd (cFst (cSnd (cSnd (cSnd (cSnd (bodyOf Tryd.prog 49))))))))), .inLoop (cIn (cIn (cSnd (cFst (cSnd (cSnd (cSnd (cSnd (bodyOf Tryd.prog 49))))))))), .inBlock 0, .code (cSnd (cSnd (cSnd (cSnd (cSnd (bodyOf Tryd.prog 49))))))], ⟨[(1, (.one (.int .i64 v1))), (7, (.one (.ref T_api_Piece 8 0 (List.length h8) true))), (22, (.one (.sl (.int .i64) false v22))), (23, (.one (.int .i64 v23))), (24, (.one (.int .i64 v24)))], [(8, some (.row T_api_Piece true h8))], 9⟩⟩
noncomputable def split_Pieces_c2 (v1 : Int) (v8 : Int) (v9 : Int) (v10 : Int) (v22 : List Int) (v23 : Int) (v24 : Int) (h8 : List D_api_Piece) : Option (List D_api_Piece × Int) := split_Pieces_I.sem ⟨[.code (cIn (cIn (cSnd (cSnd (cIn (cFst (cSnd (cSnd (cIn (cIn (cSnd (cFst (cSnd (cSnd (cSnd (cSnd (bodyOf Tryd.prog 49))))))))))))))))), .inLoop (cIn (cIn (cSnd (cSnd (cIn (cFst (cSnd (cSnd (cIn (cIn (cSnd (cFst (cSnd (cSnd (cSnd (cSnd (bodyOf Tryd.prog 49))))))))))))))))), .inBlock 2, .inBlock 1, .code (cSnd (cSnd (cSnd (cIn (cIn (cSnd (cFst (cSnd (cSnd (cSnd (cSnd (bodyOf Tryd.prog 49)))))))))))), .inLoop (cIn (cIn (cSnd (cFst (cSnd (cSnd (cSnd (cSnd (bodyOf Tryd.prog 49))))))))), .inBlock 0, .code (cSnd (cSnd (cSnd (cSnd (cSnd (bodyOf Tryd.prog 49))))))], ⟨[(1, (.one (.int .i64 v1))), (7, (.one (.ref T_api_Piece 8 0 (List.length h8) true))), (8, (.one (.int .i64 v8))), (9, (.one (.int .i64 v9))), (10, (.one (.int .i64 v10))), (22, (.one (.sl (.int .i64) false v22))), (23, (.one (.int .i64 v23))), (24, (.one (.int .i64 v24)))], [(8, some (.row T_api_Piece true h8))], 9⟩⟩
theorem split_Pieces_eq (a0 : List Int) (a1 : Int) : split_Pieces a0 a1 = (
  (split_check a0).bind fun (r1 : (Int)) =>
  if (r1 != (0 : Int)) = true then
    some ([], r1)
  else
    if (decide (a1 < (16 : Int))) = true then
      some ([], (2 : Int))
    else
      if (decide (a1 > (4096 : Int))) = true then
        some ([], (2 : Int))
      else
        split_Pieces_c1 a1 a0 (Int.ofNat (List.length a0)) (0 : Int) []) := (FnI.call_eq (by kernel_rfl)).trans (by kernel_rfl)
theorem split_Pieces_c1_eq (v1 : Int) (v22 : List Int) (v23 : Int) (v24 : Int) (h8 : List D_api_Piece) : split_Pieces_c1 v1 v22 v23 v24 h8 = (
  if (decide (v24 < v23)) = true then
    gd (0 ≤ v24) <|
    gd (v24 < (Int.ofNat (List.length v22))) <|
    split_Pieces_c2 v1 v24 (List.getD v22 (Int.toNat v24) (0 : Int)) (0 : Int) v22 v23 v24 h8
  else
    some (h8, (0 : Int))) := (FnI.sem_eq _).trans (by kernel_rfl)
theorem split_Pieces_c2_eq (v1 : Int) (v8 : Int) (v9 : Int) (v10 : Int) (v22 : List Int) (v23 : Int) (v24 : Int) (h8 : List D_api_Piece) : split_Pieces_c2 v1 v8 v9 v10 v22 v23 v24 h8 = (
  if (decide (v10 < v9)) = true then
    gd ((List.length (h8 ++ [(v8, (v10, ((if v1 < (IntKind.wrap .i64 (v9 - v10)) then v1 else (IntKind.wrap .i64 (v9 - v10))), ())))])) * 24 ≤ 140737488355328) <|
    split_Pieces_c2 v1 v8 v9 (IntKind.wrap .i64 (v10 + v1)) v22 v23 v24 (h8 ++ [(v8, (v10, ((if v1 < (IntKind.wrap .i64 (v9 - v10)) then v1 else (IntKind.wrap .i64 (v9 - v10))), ())))])
  else
    split_Pieces_c1 v1 v22 v23 (IntKind.wrap .i64 (v24 + (1 : Int))) h8) := (FnI.sem_eq _).trans (by kernel_rfl)
noncomputable def split_Pieces_S (acc : List AV → Bool) : Summ Tryd.prog GT := split_Pieces_I.summ mixed acc false false

/-! bitloft/bound.pieces -/
noncomputable def bound_pieces_I : FnI Tryd.prog GT := { f := 87, cuts := [⟨(9, 3), [2, 8, 21, 22, 23], false, false⟩], tab := [pack_Check_S (fun _ => true), member_Valid_S (fun _ => true), split_Pieces_S (fun _ => true)], fm := ⟨true, [.val (.slice T_api_Piece) [.nw], .val (.int .i64) []]⟩ }
noncomputable def bound_pieces (a0 : D_api_Settings) (a1 : List D_api_Record) : Option (List D_api_Piece × Int) := bound_pieces_I.call [(.agg T_api_Settings (inj false T_api_Settings a0)), (.sl T_api_Record false a1)] []
noncomputable def bound_pieces_c1 (v21 : List D_api_Record) (v22 : Int) (v23 : Int) (b8 : D_api_Settings) (h9 : List Int) : Option (List D_api_Piece × Int) := bound_pieces_I.sem ⟨[.code (cIn (cIn (cSnd (cFst (cSnd (cSnd (cSnd (cSnd (bodyOf Tryd.prog 87))))))))), .inLoop (cIn (cIn (cSnd (cFst (cSnd (cSnd (cSnd (cSnd (bodyOf Tryd.prog 87))))))))), .inBlock 0, .code (cSnd (cSnd (cSnd (cSnd (cSnd (bodyOf Tryd.prog 87))))))], ⟨[(2, (.one (.ptr T_api_Settings 8 []))), (8, (.one (.ref (.int .i64) 9 0 (List.length h9) true))), (21, (.one (.sl T_api_Record false v21))), (22, (.one (.int .i64 v22))), (23, (.one (.int .i64 v23)))], [(8, some (.box T_api_Settings (inj false T_api_Settings b8))), (9, some (.row (.int .i64) true h9))], 10⟩⟩
theorem bound_pieces_eq (a0 : D_api_Settings) (a1 : List D_api_Record) : bound_pieces a0 a1 = (
  (pack_Check a0).bind fun (r1 : (Int)) =>
  if (r1 != (0 : Int)) = true then
    some ([], r1)
  else
    (member_Valid a1).bind fun (r2 : (Int)) =>
    if (r2 != (0 : Int)) = true then
      some ([], r2)
    else
      bound_pieces_c1 a1 (Int.ofNat (List.length a1)) (0 : Int) a0 []) := (FnI.call_eq (by kernel_rfl)).trans (by kernel_rfl)
theorem bound_pieces_c1_eq (v21 : List D_api_Record) (v22 : Int) (v23 : Int) (b8 : D_api_Settings) (h9 : List Int) : bound_pieces_c1 v21 v22 v23 b8 h9 = (
  if (decide (v23 < v22)) = true then
    gd (0 ≤ v23) <|
    gd (v23 < (Int.ofNat (List.length v21))) <|
    gd ((List.length (h9 ++ [(List.getD v21 (Int.toNat v23) (pzero T_api_Record)).2.1])) * 8 ≤ 140737488355328) <|
    bound_pieces_c1 v21 v22 (IntKind.wrap .i64 (v23 + (1 : Int))) b8 (h9 ++ [(List.getD v21 (Int.toNat v23) (pzero T_api_Record)).2.1])
  else
    (split_Pieces h9 b8.2.1).bind fun (r3 : (List D_api_Piece × Int)) =>
    some (r3)) := (FnI.sem_eq _).trans (by kernel_rfl)
noncomputable def bound_pieces_S (acc : List AV → Bool) : Summ Tryd.prog GT := bound_pieces_I.summ mixed acc false false

/-! bitloft/bound.Count -/
noncomputable def bound_Count_I : FnI Tryd.prog GT := { f := 30, cuts := [], tab := [bound_pieces_S (fun _ => true)], fm := ⟨true, [.val (.int .i64) [], .val (.int .i64) []]⟩ }
noncomputable def bound_Count (a0 : D_api_Settings) (a1 : List D_api_Record) : Option (Int × Int) := bound_Count_I.call [(.agg T_api_Settings (inj false T_api_Settings a0)), (.sl T_api_Record false a1)] []
theorem bound_Count_eq (a0 : D_api_Settings) (a1 : List D_api_Record) : bound_Count a0 a1 = (
  (bound_pieces a0 a1).bind fun (r1 : (List D_api_Piece × Int)) =>
  some ((Int.ofNat (List.length r1.1)), r1.2)) := (FnI.call_eq (by kernel_rfl)).trans (by kernel_rfl)
noncomputable def bound_Count_S (acc : List AV → Bool) : Summ Tryd.prog GT := bound_Count_I.summ mixed acc false false

/-! bitloft/bitloftref29.Block -/
noncomputable def bitloftref29_Block_I : FnI Tryd.prog GT := { f := 86, cuts := [], tab := [], fm := ⟨true, [.val .bool []]⟩ }
noncomputable def bitloftref29_Block (a0 : Int) : Option (Bool) := bitloftref29_Block_I.call [(.int .i64 a0)] []
theorem bitloftref29_Block_eq (a0 : Int) : bitloftref29_Block a0 = (
  if (decide (a0 ≥ (16 : Int))) = true then
    some (decide (a0 ≤ (4096 : Int)))
  else
    some (false)) := (FnI.call_eq (by kernel_rfl)).trans (by kernel_rfl)
noncomputable def bitloftref29_Block_S (acc : List AV → Bool) : Summ Tryd.prog GT := bitloftref29_Block_I.summ mixed acc false false

/-! bitloft/bitloftref30.Check -/
noncomputable def bitloftref30_Check_I : FnI Tryd.prog GT := { f := 29, cuts := [], tab := [bitloftref29_Block_S (fun _ => true)], fm := ⟨true, [.val (.int .i64) []]⟩ }
noncomputable def bitloftref30_Check (a0 : D_api_Settings) : Option (Int) := bitloftref30_Check_I.call [(.agg T_api_Settings (inj false T_api_Settings a0))] []
theorem bitloftref30_Check_eq (a0 : D_api_Settings) : bitloftref30_Check a0 = (
  if (decide (a0.1 < (0 : Int))) = true then
    some (2 : Int)
  else
    if (decide (a0.1 > (7 : Int))) = true then
      some (2 : Int)
    else
      (bitloftref29_Block a0.2.1).bind fun (r1 : (Bool)) =>
      if (not r1) = true then
        some (2 : Int)
      else
        some (0 : Int)) := (FnI.call_eq (by kernel_rfl)).trans (by kernel_rfl)
noncomputable def bitloftref30_Check_S (acc : List AV → Bool) : Summ Tryd.prog GT := bitloftref30_Check_I.summ mixed acc false false

/-! bitloft/bitloftref28.Name -/
noncomputable def bitloftref28_Name_I : FnI Tryd.prog GT := { f := 50, cuts := [⟨(4, 3), [0, 3], false, false⟩], tab := [], fm := ⟨true, [.val .bool []]⟩ }
noncomputable def bitloftref28_Name (a0 : ByteArray) : Option (Bool) := bitloftref28_Name_I.call [(.str a0)] []
noncomputable def bitloftref28_Name_c1 (v0 : ByteArray) (v3 : Int) : Option (Bool) := bitloftref28_Name_I.sem ⟨[.code (cIn (cIn (cSnd (cFst (cSnd (cSnd (bodyOf Tryd.prog 50))))))), .inLoop (cIn (cIn (cSnd (cFst (cSnd (cSnd (bodyOf Tryd.prog 50))))))), .inBlock 0, .code (cSnd (cSnd (cSnd (bodyOf Tryd.prog 50))))], ⟨[(0, (.one (.str v0))), (3, (.one (.int .i64 v3)))], [], 8⟩⟩
theorem bitloftref28_Name_eq (a0 : ByteArray) : bitloftref28_Name a0 = (
  if (decide ((Int.ofNat (ByteArray.size a0)) < (1 : Int))) = true then
    some (false)
  else
    if (decide ((Int.ofNat (ByteArray.size a0)) > (40 : Int))) = true then
      some (false)
    else
      bitloftref28_Name_c1 a0 (0 : Int)) := (FnI.call_eq (by kernel_rfl)).trans (by kernel_rfl)
theorem bitloftref28_Name_c1_eq (v0 : ByteArray) (v3 : Int) : bitloftref28_Name_c1 v0 v3 = (
  if (decide (v3 < (Int.ofNat (ByteArray.size v0)))) = true then
    gd (0 ≤ v3) <|
    gd (v3 < (v0.size : Int)) <|
    if (decide ((btAt v0 (Int.toNat v3)) < (33 : Int))) = true then
      some (false)
    else
      gd (0 ≤ v3) <|
      gd (v3 < (v0.size : Int)) <|
      if (decide ((btAt v0 (Int.toNat v3)) > (126 : Int))) = true then
        some (false)
      else
        bitloftref28_Name_c1 v0 (IntKind.wrap .i64 (v3 + (1 : Int)))
  else
    some (true)) := (FnI.sem_eq _).trans (by kernel_rfl)
noncomputable def bitloftref28_Name_S (acc : List AV → Bool) : Summ Tryd.prog GT := bitloftref28_Name_I.summ mixed acc false false

/-! bitloft/bitloftref01.Padding -/
noncomputable def bitloftref01_Padding_I : FnI Tryd.prog GT := { f := 136, cuts := [⟨(2, 3), [0, 3], false, false⟩, ⟨(5, 3), [0, 3, 4], false, false⟩], tab := [], fm := ⟨true, [.val (.slice (.int .u8)) [.nw]]⟩ }
noncomputable def bitloftref01_Padding (a0 : Int) : Option (List Int) := bitloftref01_Padding_I.call [(.int .i64 a0)] []
noncomputable def bitloftref01_Padding_c1 (v0 : Int) (h8 : List Int) : Option (List Int) := bitloftref01_Padding_I.sem ⟨[.code (cIn (cIn (cFst (cSnd (cSnd (bodyOf Tryd.prog 136)))))), .inLoop (cIn (cIn (cFst (cSnd (cSnd (bodyOf Tryd.prog 136)))))), .inBlock 0, .code (cSnd (cSnd (cSnd (bodyOf Tryd.prog 136))))], ⟨[(0, (.one (.int .i64 v0))), (3, (.one (.ref (.int .u8) 8 0 (List.length h8) true)))], [(8, some (.row (.int .u8) true h8))], 9⟩⟩
noncomputable def bitloftref01_Padding_c2 (v0 : Int) (v4 : Int) (h8 : List Int) : Option (List Int) := bitloftref01_Padding_I.sem ⟨[.code (cIn (cIn (cSnd (cFst (cSnd (cSnd (cSnd (bodyOf Tryd.prog 136)))))))), .inLoop (cIn (cIn (cSnd (cFst (cSnd (cSnd (cSnd (bodyOf Tryd.prog 136)))))))), .inBlock 2, .code (cSnd (cSnd (cSnd (cSnd (bodyOf Tryd.prog 136)))))], ⟨[(0, (.one (.int .i64 v0))), (3, (.one (.ref (.int .u8) 8 0 (List.length h8) true))), (4, (.one (.int .i64 v4)))], [(8, some (.row (.int .u8) true h8))], 9⟩⟩
theorem bitloftref01_Padding_eq (a0 : Int) : bitloftref01_Padding a0 = (
  bitloftref01_Padding_c1 a0 [(128 : Int)]) := (FnI.call_eq (by kernel_rfl)).trans (by kernel_rfl)
theorem bitloftref01_Padding_c1_eq (v0 : Int) (h8 : List Int) : bitloftref01_Padding_c1 v0 h8 = (
  gd ((64 : Int) ≠ 0) <|
  if ((Int.tmod (IntKind.wrap .i64 ((IntKind.wrap .i64 (v0 + (Int.ofNat (List.length h8)))) + (8 : Int))) (64 : Int)) != (0 : Int)) = true then
    gd ((List.length (h8 ++ [(0 : Int)])) * 1 ≤ 140737488355328) <|
    bitloftref01_Padding_c1 v0 (h8 ++ [(0 : Int)])
  else
    bitloftref01_Padding_c2 v0 (7 : Int) h8) := (FnI.sem_eq _).trans (by kernel_rfl)
theorem bitloftref01_Padding_c2_eq (v0 : Int) (v4 : Int) (h8 : List Int) : bitloftref01_Padding_c2 v0 v4 h8 = (
  if (decide (v4 ≥ (0 : Int))) = true then
    gd (0 ≤ (IntKind.wrap .i64 ((8 : Int) * v4))) <|
    gd ((List.length (h8 ++ [(IntKind.wrap .u8 (shrBy .u64 (IntKind.wrap .u64 ((8 : Int) * (IntKind.wrap .u64 v0))) (IntKind.wrap .i64 ((8 : Int) * v4))))])) * 1 ≤ 140737488355328) <|
    bitloftref01_Padding_c2 v0 (IntKind.wrap .i64 (v4 - (1 : Int))) (h8 ++ [(IntKind.wrap .u8 (shrBy .u64 (IntKind.wrap .u64 ((8 : Int) * (IntKind.wrap .u64 v0))) (IntKind.wrap .i64 ((8 : Int) * v4))))])
  else
    some (h8)) := (FnI.sem_eq _).trans (by kernel_rfl)
noncomputable def bitloftref01_Padding_S (acc : List AV → Bool) : Summ Tryd.prog GT := bitloftref01_Padding_I.summ mixed acc false false

/-! bitloft/bitloftref01.First -/
noncomputable def bitloftref01_First_I : FnI Tryd.prog GT := { f := 137, cuts := [], tab := [], fm := ⟨true, [.val (.arr 5 (.int .u32)) []]⟩ }
noncomputable def bitloftref01_First : Option ((List Int)) := bitloftref01_First_I.call [] []
theorem bitloftref01_First_eq : bitloftref01_First = (
  some (List.set (List.set (List.set (List.set (List.set (List.replicate 5 (0 : Int)) 0 (1732584193 : Int)) 1 (4023233417 : Int)) 2 (2562383102 : Int)) 3 (271733878 : Int)) 4 (3285377520 : Int))) := (FnI.call_eq (by kernel_rfl)).trans (by kernel_rfl)
noncomputable def bitloftref01_First_S (acc : List AV → Bool) : Summ Tryd.prog GT := bitloftref01_First_I.summ mixed acc false false

/-! bitloft/bitloftref01.turn -/
noncomputable def bitloftref01_turn_I : FnI Tryd.prog GT := { f := 156, cuts := [], tab := [], fm := ⟨true, [.val (.int .u32) []]⟩ }
noncomputable def bitloftref01_turn (a0 : Int) (a1 : Int) : Option (Int) := bitloftref01_turn_I.call [(.int .u32 a0), (.int .i64 a1)] []
theorem bitloftref01_turn_eq (a0 : Int) (a1 : Int) : bitloftref01_turn a0 a1 = (
  gd (0 ≤ a1) <|
  gd (0 ≤ (IntKind.wrap .i64 ((32 : Int) - a1))) <|
  some (bitsOr .u32 (IntKind.wrap .u32 (shlBy .u32 a0 a1)) (shrBy .u32 a0 (IntKind.wrap .i64 ((32 : Int) - a1))))) := (FnI.call_eq (by kernel_rfl)).trans (by kernel_rfl)
noncomputable def bitloftref01_turn_S (acc : List AV → Bool) : Summ Tryd.prog GT := bitloftref01_turn_I.summ mixed acc false false

/-! bitloft/bitloftref01.part -/
noncomputable def bitloftref01_part_I : FnI Tryd.prog GT := { f := 157, cuts := [], tab := [], fm := ⟨true, [.val (.int .u32) [], .val (.int .u32) []]⟩ }
noncomputable def bitloftref01_part (a0 : Int) (a1 : Int) (a2 : Int) (a3 : Int) : Option (Int × Int) := bitloftref01_part_I.call [(.int .i64 a0), (.int .u32 a1), (.int .u32 a2), (.int .u32 a3)] []
theorem bitloftref01_part_eq (a0 : Int) (a1 : Int) (a2 : Int) (a3 : Int) : bitloftref01_part a0 a1 a2 a3 = (
  if (decide (a0 < (20 : Int))) = true then
    some ((bitsOr .u32 (bitsAnd .u32 a1 a2) (bitsAnd .u32 (bitsXor .u32 (4294967295 : Int) a1) a3)), (1518500249 : Int))
  else
    if (decide (a0 < (40 : Int))) = true then
      some ((bitsXor .u32 (bitsXor .u32 a1 a2) a3), (1859775393 : Int))
    else
      if (decide (a0 < (60 : Int))) = true then
        some ((bitsOr .u32 (bitsOr .u32 (bitsAnd .u32 a1 a2) (bitsAnd .u32 a1 a3)) (bitsAnd .u32 a2 a3)), (2400959708 : Int))
      else
        some ((bitsXor .u32 (bitsXor .u32 a1 a2) a3), (3395469782 : Int))) := (FnI.call_eq (by kernel_rfl)).trans (by kernel_rfl)
noncomputable def bitloftref01_part_S (acc : List AV → Bool) : Summ Tryd.prog GT := bitloftref01_part_I.summ mixed acc false false

/-! bitloft/bitloftref01.Done -/
noncomputable def bitloftref01_Done_I : FnI Tryd.prog GT := { f := 138, cuts := [⟨(3, 3), [1, 2, 4, 5, 6], false, false⟩, ⟨(7, 3), [2, 4, 5, 7], false, false⟩, ⟨(12, 3), [2, 4, 5, 8, 9], false, false⟩, ⟨(17, 3), [2, 4, 8, 12], false, false⟩], tab := [bitloftref01_turn_S (fun _ => true), bitloftref01_part_S (fun _ => true)], fm := ⟨true, [.val (.arr 5 (.int .u32)) []]⟩ }
noncomputable def bitloftref01_Done (a0 : (List Int)) (a1 : List Int) : Option ((List Int)) := bitloftref01_Done_I.call [(.agg (.arr 5 (.int .u32)) a0), (.sl (.int .u8) false a1)] []
noncomputable def bitloftref01_Done_c1 (v1 : List Int) (v6 : Int) (b8 : (List Int)) (b9 : (List Int)) (h10 : List Int) : Option ((List Int)) := bitloftref01_Done_I.sem ⟨[.code (cIn (cIn (cSnd (cFst (cSnd (cSnd (bodyOf Tryd.prog 138))))))), .inLoop (cIn (cIn (cSnd (cFst (cSnd (cSnd (bodyOf Tryd.prog 138))))))), .inBlock 0, .code (cSnd (cSnd (cSnd (bodyOf Tryd.prog 138))))], ⟨[(1, (.one (.sl (.int .u8) false v1))), (2, (.one (.ptr (.arr 5 (.int .u32)) 8 []))), (4, (.one (.ptr (.arr 5 (.int .u32)) 9 []))), (5, (.one (.ref (.int .u32) 10 0 (List.length h10) true))), (6, (.one (.int .i64 v6)))], [(8, some (.box (.arr 5 (.int .u32)) b8)), (9, some (.box (.arr 5 (.int .u32)) b9)), (10, some (.row (.int .u32) true h10))], 11⟩⟩
noncomputable def bitloftref01_Done_c2 (v7 : Int) (b8 : (List Int)) (b9 : (List Int)) (h10 : List Int) : Option ((List Int)) := bitloftref01_Done_I.sem ⟨[.code (cIn (cIn (cSnd (cFst (cSnd (cSnd (cSnd (bodyOf Tryd.prog 138)))))))), .inLoop (cIn (cIn (cSnd (cFst (cSnd (cSnd (cSnd (bodyOf Tryd.prog 138)))))))), .inBlock 2, .code (cSnd (cSnd (cSnd (cSnd (bodyOf Tryd.prog 138)))))], ⟨[(2, (.one (.ptr (.arr 5 (.int .u32)) 8 []))), (4, (.one (.ptr (.arr 5 (.int .u32)) 9 []))), (5, (.one (.ref (.int .u32) 10 0 (List.length h10) true))), (7, (.one (.int .i64 v7)))], [(8, some (.box (.arr 5 (.int .u32)) b8)), (9, some (.box (.arr 5 (.int .u32)) b9)), (10, some (.row (.int .u32) true h10))], 11⟩⟩
noncomputable def bitloftref01_Done_c3 (v9 : Int) (b8 : (List Int)) (b9 : (List Int)) (h10 : List Int) (b11 : (List Int)) : Option ((List Int)) := bitloftref01_Done_I.sem ⟨[.code (cIn (cIn (cSnd (cFst (cSnd (cSnd (cSnd (cSnd (cSnd (bodyOf Tryd.prog 138)))))))))), .inLoop (cIn (cIn (cSnd (cFst (cSnd (cSnd (cSnd (cSnd (cSnd (bodyOf Tryd.prog 138)))))))))), .inBlock 4, .code (cSnd (cSnd (cSnd (cSnd (cSnd (cSnd (bodyOf Tryd.prog 138)))))))], ⟨[(2, (.one (.ptr (.arr 5 (.int .u32)) 8 []))), (4, (.one (.ptr (.arr 5 (.int .u32)) 9 []))), (5, (.one (.ref (.int .u32) 10 0 (List.length h10) true))), (8, (.one (.ptr (.arr 5 (.int .u32)) 11 []))), (9, (.one (.int .i64 v9)))], [(8, some (.box (.arr 5 (.int .u32)) b8)), (9, some (.box (.arr 5 (.int .u32)) b9)), (10, some (.row (.int .u32) true h10)), (11, some (.box (.arr 5 (.int .u32)) b11))], 12⟩⟩
noncomputable def bitloftref01_Done_c4 (v12 : Int) (b8 : (List Int)) (b9 : (List Int)) (b10 : (List Int)) : Option ((List Int)) := bitloftref01_Done_I.sem ⟨[.code (cIn (cIn (cSnd (cFst (cSnd (cSnd (cSnd (cSnd (cSnd (cSnd (bodyOf Tryd.prog 138))))))))))), .inLoop (cIn (cIn (cSnd (cFst (cSnd (cSnd (cSnd (cSnd (cSnd (cSnd (bodyOf Tryd.prog 138))))))))))), .inBlock 6, .code (cSnd (cSnd (cSnd (cSnd (cSnd (cSnd (cSnd (bodyOf Tryd.prog 138))))))))], ⟨[(2, (.one (.ptr (.arr 5 (.int .u32)) 8 []))), (4, (.one (.ptr (.arr 5 (.int .u32)) 9 []))), (8, (.one (.ptr (.arr 5 (.int .u32)) 10 []))), (12, (.one (.int .i64 v12)))], [(8, some (.box (.arr 5 (.int .u32)) b8)), (9, some (.box (.arr 5 (.int .u32)) b9)), (10, some (.box (.arr 5 (.int .u32)) b10))], 11⟩⟩
theorem bitloftref01_Done_eq (a0 : (List Int)) (a1 : List Int) : bitloftref01_Done a0 a1 = (
  bitloftref01_Done_c1 a1 (0 : Int) a0 (List.replicate 5 (0 : Int)) []) := (FnI.call_eq (by kernel_rfl)).trans (by kernel_rfl)
theorem bitloftref01_Done_c1_eq (v1 : List Int) (v6 : Int) (b8 : (List Int)) (b9 : (List Int)) (h10 : List Int) : bitloftref01_Done_c1 v1 v6 b8 b9 h10 = (
  if (decide (v6 < (16 : Int))) = true then
    gd (0 ≤ (IntKind.wrap .i64 ((4 : Int) * v6))) <|
    gd ((IntKind.wrap .i64 ((4 : Int) * v6)) < (Int.ofNat (List.length v1))) <|
    gd (0 ≤ (IntKind.wrap .i64 ((IntKind.wrap .i64 ((4 : Int) * v6)) + (1 : Int)))) <|
    gd ((IntKind.wrap .i64 ((IntKind.wrap .i64 ((4 : Int) * v6)) + (1 : Int))) < (Int.ofNat (List.length v1))) <|
    gd (0 ≤ (IntKind.wrap .i64 ((IntKind.wrap .i64 ((4 : Int) * v6)) + (2 : Int)))) <|
    gd ((IntKind.wrap .i64 ((IntKind.wrap .i64 ((4 : Int) * v6)) + (2 : Int))) < (Int.ofNat (List.length v1))) <|
    gd (0 ≤ (IntKind.wrap .i64 ((IntKind.wrap .i64 ((4 : Int) * v6)) + (3 : Int)))) <|
    gd ((IntKind.wrap .i64 ((IntKind.wrap .i64 ((4 : Int) * v6)) + (3 : Int))) < (Int.ofNat (List.length v1))) <|
    gd ((List.length (h10 ++ [(IntKind.wrap .u32 ((IntKind.wrap .u32 ((IntKind.wrap .u32 ((IntKind.wrap .u32 ((IntKind.wrap .u32 ((IntKind.wrap .u32 ((IntKind.wrap .u32 (List.getD v1 (Int.toNat (IntKind.wrap .i64 ((4 : Int) * v6))) (0 : Int))) * (256 : Int))) + (IntKind.wrap .u32 (List.getD v1 (Int.toNat (IntKind.wrap .i64 ((IntKind.wrap .i64 ((4 : Int) * v6)) + (1 : Int)))) (0 : Int))))) * (256 : Int))) + (IntKind.wrap .u32 (List.getD v1 (Int.toNat (IntKind.wrap .i64 ((IntKind.wrap .i64 ((4 : Int) * v6)) + (2 : Int)))) (0 : Int))))) * (256 : Int))) + (IntKind.wrap .u32 (List.getD v1 (Int.toNat (IntKind.wrap .i64 ((IntKind.wrap .i64 ((4 : Int) * v6)) + (3 : Int)))) (0 : Int)))))])) * 4 ≤ 140737488355328) <|
    bitloftref01_Done_c1 v1 (IntKind.wrap .i64 (v6 + (1 : Int))) b8 b9 (h10 ++ [(IntKind.wrap .u32 ((IntKind.wrap .u32 ((IntKind.wrap .u32 ((IntKind.wrap .u32 ((IntKind.wrap .u32 ((IntKind.wrap .u32 ((IntKind.wrap .u32 (List.getD v1 (Int.toNat (IntKind.wrap .i64 ((4 : Int) * v6))) (0 : Int))) * (256 : Int))) + (IntKind.wrap .u32 (List.getD v1 (Int.toNat (IntKind.wrap .i64 ((IntKind.wrap .i64 ((4 : Int) * v6)) + (1 : Int)))) (0 : Int))))) * (256 : Int))) + (IntKind.wrap .u32 (List.getD v1 (Int.toNat (IntKind.wrap .i64 ((IntKind.wrap .i64 ((4 : Int) * v6)) + (2 : Int)))) (0 : Int))))) * (256 : Int))) + (IntKind.wrap .u32 (List.getD v1 (Int.toNat (IntKind.wrap .i64 ((IntKind.wrap .i64 ((4 : Int) * v6)) + (3 : Int)))) (0 : Int)))))])
  else
    bitloftref01_Done_c2 (16 : Int) b8 b9 h10) := (FnI.sem_eq _).trans (by kernel_rfl)
theorem bitloftref01_Done_c2_eq (v7 : Int) (b8 : (List Int)) (b9 : (List Int)) (h10 : List Int) : bitloftref01_Done_c2 v7 b8 b9 h10 = (
  if (decide (v7 < (80 : Int))) = true then
    gd (0 ≤ (IntKind.wrap .i64 (v7 - (3 : Int)))) <|
    gd ((IntKind.wrap .i64 (v7 - (3 : Int))) < (Int.ofNat (List.length h10))) <|
    gd (0 ≤ (IntKind.wrap .i64 (v7 - (8 : Int)))) <|
    gd ((IntKind.wrap .i64 (v7 - (8 : Int))) < (Int.ofNat (List.length h10))) <|
    gd (0 ≤ (IntKind.wrap .i64 (v7 - (14 : Int)))) <|
    gd ((IntKind.wrap .i64 (v7 - (14 : Int))) < (Int.ofNat (List.length h10))) <|
    gd (0 ≤ (IntKind.wrap .i64 (v7 - (16 : Int)))) <|
    gd ((IntKind.wrap .i64 (v7 - (16 : Int))) < (Int.ofNat (List.length h10))) <|
    (bitloftref01_turn (bitsXor .u32 (bitsXor .u32 (bitsXor .u32 (List.getD h10 (0 + (Int.toNat (IntKind.wrap .i64 (v7 - (3 : Int))))) (0 : Int)) (List.getD h10 (0 + (Int.toNat (IntKind.wrap .i64 (v7 - (8 : Int))))) (0 : Int))) (List.getD h10 (0 + (Int.toNat (IntKind.wrap .i64 (v7 - (14 : Int))))) (0 : Int))) (List.getD h10 (0 + (Int.toNat (IntKind.wrap .i64 (v7 - (16 : Int))))) (0 : Int))) (1 : Int)).bind fun (r1 : (Int)) =>
    gd ((List.length (h10 ++ [r1])) * 4 ≤ 140737488355328) <|
    bitloftref01_Done_c2 (IntKind.wrap .i64 (v7 + (1 : Int))) b8 b9 (h10 ++ [r1])
  else
    bitloftref01_Done_c3 (0 : Int) b8 b9 h10 b8) := (FnI.sem_eq _).trans (by kernel_rfl)
theorem bitloftref01_Done_c3_eq (v9 : Int) (b8 : (List Int)) (b9 : (List Int)) (h10 : List Int) (b11 : (List Int)) : bitloftref01_Done_c3 v9 b8 b9 h10 b11 = (
  if (decide (v9 < (80 : Int))) = true then
    gd (0 ≤ (1 : Int)) <|
    gd ((1 : Int) < (5 : Int)) <|
    gd (0 ≤ (2 : Int)) <|
    gd ((2 : Int) < (5 : Int)) <|
    gd (0 ≤ (3 : Int)) <|
    gd ((3 : Int) < (5 : Int)) <|
    (bitloftref01_part v9 (List.getD b11 1 (0 : Int)) (List.getD b11 2 (0 : Int)) (List.getD b11 3 (0 : Int))).bind fun (r2 : (Int × Int)) =>
    gd (0 ≤ (0 : Int)) <|
    gd ((0 : Int) < (5 : Int)) <|
    (bitloftref01_turn (List.getD b11 0 (0 : Int)) (5 : Int)).bind fun (r3 : (Int)) =>
    gd (0 ≤ (4 : Int)) <|
    gd ((4 : Int) < (5 : Int)) <|
    gd (0 ≤ v9) <|
    gd (v9 < (Int.ofNat (List.length h10))) <|
    gd (0 ≤ (0 : Int)) <|
    gd ((0 : Int) < (5 : Int)) <|
    gd (0 ≤ (1 : Int)) <|
    gd ((1 : Int) < (5 : Int)) <|
    (bitloftref01_turn (List.getD b11 1 (0 : Int)) (30 : Int)).bind fun (r4 : (Int)) =>
    gd (0 ≤ (2 : Int)) <|
    gd ((2 : Int) < (5 : Int)) <|
    gd (0 ≤ (3 : Int)) <|
    gd ((3 : Int) < (5 : Int)) <|
    bitloftref01_Done_c3 (IntKind.wrap .i64 (v9 + (1 : Int))) b8 b9 h10 (List.set (List.set (List.set (List.set (List.set (List.replicate 5 (0 : Int)) 0 (IntKind.wrap .u32 ((IntKind.wrap .u32 ((IntKind.wrap .u32 ((IntKind.wrap .u32 (r3 + r2.1)) + (List.getD b11 4 (0 : Int)))) + r2.2)) + (List.getD h10 (0 + (Int.toNat v9)) (0 : Int))))) 1 (List.getD b11 0 (0 : Int))) 2 r4) 3 (List.getD b11 2 (0 : Int))) 4 (List.getD b11 3 (0 : Int)))
  else
    bitloftref01_Done_c4 (0 : Int) b8 b9 b11) := (FnI.sem_eq _).trans (by kernel_rfl)
theorem bitloftref01_Done_c4_eq (v12 : Int) (b8 : (List Int)) (b9 : (List Int)) (b10 : (List Int)) : bitloftref01_Done_c4 v12 b8 b9 b10 = (
  if (decide (v12 < (5 : Int))) = true then
    gd (0 ≤ v12) <|
    gd (v12 < (5 : Int)) <|
    gd (0 ≤ v12) <|
    gd (v12 < (5 : Int)) <|
    gd (0 ≤ v12) <|
    gd (v12 < (5 : Int)) <|
    bitloftref01_Done_c4 (IntKind.wrap .i64 (v12 + (1 : Int))) (List.set b8 (Int.toNat v12) (IntKind.wrap .u32 ((List.getD b8 (Int.toNat v12) (0 : Int)) + (List.getD b10 (Int.toNat v12) (0 : Int))))) b9 b10
  else
    some (b8)) := (FnI.sem_eq _).trans (by kernel_rfl)
noncomputable def bitloftref01_Done_S (acc : List AV → Bool) : Summ Tryd.prog GT := bitloftref01_Done_I.summ mixed acc false false

/-! bitloft/bitloftref01.Of -/
noncomputable def bitloftref01_Of_I : FnI Tryd.prog GT := { f := 101, cuts := [⟨(4, 3), [2, 3, 4, 5], false, false⟩, ⟨(9, 3), [2, 4, 6, 7], false, false⟩], tab := [bitloftref01_Padding_S (fun _ => true), bitloftref01_First_S (fun _ => true), bitloftref01_Done_S (fun _ => true)], fm := ⟨true, [.val (.arr 20 (.int .u8)) []]⟩ }
noncomputable def bitloftref01_Of (a0 : List Int) : Option ((List Int)) := bitloftref01_Of_I.call [(.sl (.int .u8) false a0)] []
noncomputable def bitloftref01_Of_c1 (v5 : Int) (b8 : (List Int)) (h9 : List Int) (b10 : (List Int)) : Option ((List Int)) := bitloftref01_Of_I.sem ⟨[.code (cIn (cIn (cSnd (cFst (cSnd (cSnd (cSnd (bodyOf Tryd.prog 101)))))))), .inLoop (cIn (cIn (cSnd (cFst (cSnd (cSnd (cSnd (bodyOf Tryd.prog 101)))))))), .inBlock 0, .code (cSnd (cSnd (cSnd (cSnd (bodyOf Tryd.prog 101)))))], ⟨[(2, (.one (.ptr (.arr 20 (.int .u8)) 8 []))), (3, (.one (.ref (.int .u8) 9 0 (List.length h9) true))), (4, (.one (.ptr (.arr 5 (.int .u32)) 10 []))), (5, (.one (.int .i64 v5)))], [(8, some (.box (.arr 20 (.int .u8)) b8)), (9, some (.row (.int .u8) true h9)), (10, some (.box (.arr 5 (.int .u32)) b10))], 11⟩⟩
noncomputable def bitloftref01_Of_c2 (v7 : Int) (b8 : (List Int)) (b9 : (List Int)) (b10 : (List Int)) : Option ((List Int)) := bitloftref01_Of_I.sem ⟨[.code (cIn (cIn (cSnd (cFst (cSnd (cSnd (cSnd (cSnd (cSnd (bodyOf Tryd.prog 101)))))))))), .inLoop (cIn (cIn (cSnd (cFst (cSnd (cSnd (cSnd (cSnd (cSnd (bodyOf Tryd.prog 101)))))))))), .inBlock 2, .code (cSnd (cSnd (cSnd (cSnd (cSnd (cSnd (bodyOf Tryd.prog 101)))))))], ⟨[(2, (.one (.ptr (.arr 20 (.int .u8)) 8 []))), (4, (.one (.ptr (.arr 5 (.int .u32)) 9 []))), (6, (.one (.ptr (.arr 20 (.int .u8)) 10 []))), (7, (.one (.int .i64 v7)))], [(8, some (.box (.arr 20 (.int .u8)) b8)), (9, some (.box (.arr 5 (.int .u32)) b9)), (10, some (.box (.arr 20 (.int .u8)) b10))], 11⟩⟩
theorem bitloftref01_Of_eq (a0 : List Int) : bitloftref01_Of a0 = (
  gd ((List.length ([] ++ a0)) * 1 ≤ 140737488355328) <|
  (bitloftref01_Padding (Int.ofNat (List.length a0))).bind fun (r1 : (List Int)) =>
  gd ((List.length (([] ++ a0) ++ r1)) * 1 ≤ 140737488355328) <|
  (bitloftref01_First).bind fun (r2 : ((List Int))) =>
  bitloftref01_Of_c1 (0 : Int) (List.replicate 20 (0 : Int)) (([] ++ a0) ++ r1) r2) := (FnI.call_eq (by kernel_rfl)).trans (by kernel_rfl)
theorem bitloftref01_Of_c1_eq (v5 : Int) (b8 : (List Int)) (h9 : List Int) (b10 : (List Int)) : bitloftref01_Of_c1 v5 b8 h9 b10 = (
  if (decide (v5 < (Int.ofNat (List.length h9)))) = true then
    gd (0 ≤ v5) <|
    gd (v5 ≤ (IntKind.wrap .i64 (v5 + (64 : Int)))) <|
    gd ((IntKind.wrap .i64 (v5 + (64 : Int))) ≤ (Int.ofNat (List.length h9))) <|
    (bitloftref01_Done b10 (List.take ((Int.toNat (IntKind.wrap .i64 (v5 + (64 : Int)))) - (Int.toNat v5)) (List.drop (0 + (Int.toNat v5)) h9))).bind fun (r3 : ((List Int))) =>
    bitloftref01_Of_c1 (IntKind.wrap .i64 (v5 + (64 : Int))) b8 h9 r3
  else
    bitloftref01_Of_c2 (0 : Int) b8 b10 (List.replicate 20 (0 : Int))) := (FnI.sem_eq _).trans (by kernel_rfl)
theorem bitloftref01_Of_c2_eq (v7 : Int) (b8 : (List Int)) (b9 : (List Int)) (b10 : (List Int)) : bitloftref01_Of_c2 v7 b8 b9 b10 = (
  if (decide (v7 < (20 : Int))) = true then
    gd ((4 : Int) ≠ 0) <|
    gd (0 ≤ (IntKind.wrap .i64 (Int.tdiv v7 (4 : Int)))) <|
    gd ((IntKind.wrap .i64 (Int.tdiv v7 (4 : Int))) < (5 : Int)) <|
    gd ((4 : Int) ≠ 0) <|
    gd (0 ≤ (IntKind.wrap .i64 ((24 : Int) - (IntKind.wrap .i64 ((8 : Int) * (Int.tmod v7 (4 : Int))))))) <|
    gd (0 ≤ v7) <|
    gd (v7 < (20 : Int)) <|
    bitloftref01_Of_c2 (IntKind.wrap .i64 (v7 + (1 : Int))) b8 b9 (List.set b10 (Int.toNat v7) (IntKind.wrap .u8 (shrBy .u32 (List.getD b9 (Int.toNat (IntKind.wrap .i64 (Int.tdiv v7 (4 : Int)))) (0 : Int)) (IntKind.wrap .i64 ((24 : Int) - (IntKind.wrap .i64 ((8 : Int) * (Int.tmod v7 (4 : Int)))))))))
  else
    some (b10)) := (FnI.sem_eq _).trans (by kernel_rfl)
noncomputable def bitloftref01_Of_S (acc : List AV → Bool) : Summ Tryd.prog GT := bitloftref01_Of_I.summ mixed acc false false

/-! bitloft/bitloftref28.Valid -/
noncomputable def bitloftref28_Valid_I : FnI Tryd.prog GT := { f := 48, cuts := [⟨(5, 3), [0, 3, 4], false, false⟩, ⟨(14, 3), [0, 6], false, false⟩, ⟨(17, 7), [0, 6, 7], false, false⟩], tab := [bitloftref28_Name_S (fun _ => true), bitloftref01_Of_S (fun _ => true)], fm := ⟨true, [.val (.int .i64) []]⟩ }
noncomputable def bitloftref28_Valid (a0 : List D_api_Record) : Option (Int) := bitloftref28_Valid_I.call [(.sl T_api_Record false a0)] []
noncomputable def bitloftref28_Valid_c1 (v0 : List D_api_Record) (v3 : Int) (v4 : Int) : Option (Int) := bitloftref28_Valid_I.sem ⟨[.code (cIn (cIn (cSnd (cFst (cSnd (cSnd (cSnd (bodyOf Tryd.prog 48)))))))), .inLoop (cIn (cIn (cSnd (cFst (cSnd (cSnd (cSnd (bodyOf Tryd.prog 48)))))))), .inBlock 0, .code (cSnd (cSnd (cSnd (cSnd (bodyOf Tryd.prog 48)))))], ⟨[(0, (.one (.sl T_api_Record false v0))), (3, (.one (.int .i64 v3))), (4, (.one (.int .i64 v4)))], [], 8⟩⟩
noncomputable def bitloftref28_Valid_c2 (v0 : List D_api_Record) (v6 : Int) : Option (Int) := bitloftref28_Valid_I.sem ⟨[.code (cIn (cIn (cSnd (cFst (cSnd (cSnd (cSnd (cSnd (cSnd (bodyOf Tryd.prog 48)))))))))), .inLoop (cIn (cIn (cSnd (cFst (cSnd (cSnd (cSnd (cSnd (cSnd (bodyOf Tryd.prog 48)))))))))), .inBlock 2, .code (cSnd (cSnd (cSnd (cSnd (cSnd (cSnd (bodyOf Tryd.prog 48)))))))], ⟨[(0, (.one (.sl T_api_Record false v0))), (6, (.one (.int .i64 v6)))], [], 8⟩⟩
noncomputable def bitloftref28_Valid_c3 (v0 : List D_api_Record) (v6 : Int) (v7 : Int) : Option (Int) := bitloftref28_Valid_I.sem ⟨[.code (cIn (cIn (cSnd (cIn (cFst (cSnd (cIn (cIn (cSnd (cFst (cSnd (cSnd (cSnd (cSnd (cSnd (bodyOf Tryd.prog 48)))))))))))))))), .inLoop (cIn (cIn (cSnd (cIn (cFst (cSnd (cIn (cIn (cSnd (cFst (cSnd (cSnd (cSnd (cSnd (cSnd (bodyOf Tryd.prog 48)))))))))))))))), .inBlock 4, .inBlock 3, .code (cSnd (cSnd (cIn (cIn (cSnd (cFst (cSnd (cSnd (cSnd (cSnd (cSnd (bodyOf Tryd.prog 48)))))))))))), .inLoop (cIn (cIn (cSnd (cFst (cSnd (cSnd (cSnd (cSnd (cSnd (bodyOf Tryd.prog 48)))))))))), .inBlock 2, .code (cSnd (cSnd (cSnd (cSnd (cSnd (cSnd (bodyOf Tryd.prog 48)))))))], ⟨[(0, (.one (.sl T_api_Record false v0))), (6, (.one (.int .i64 v6))), (7, (.one (.int .i64 v7)))], [], 8⟩⟩
theorem bitloftref28_Valid_eq (a0 : List D_api_Record) : bitloftref28_Valid a0 = (
  if (decide ((Int.ofNat (List.length a0)) > (16 : Int))) = true then
    some (4 : Int)
  else
    bitloftref28_Valid_c1 a0 (0 : Int) (0 : Int)) := (FnI.call_eq (by kernel_rfl)).trans (by kernel_rfl)
theorem bitloftref28_Valid_c1_eq (v0 : List D_api_Record) (v3 : Int) (v4 : Int) : bitloftref28_Valid_c1 v0 v3 v4 = (
  if (decide (v4 < (Int.ofNat (List.length v0)))) = true then
    gd (0 ≤ v4) <|
    gd (v4 < (Int.ofNat (List.length v0))) <|
    (bitloftref28_Name (List.getD v0 (Int.toNat v4) (pzero T_api_Record)).1).bind fun (r1 : (Bool)) =>
    if (not r1) = true then
      some (8 : Int)
    else
      if (decide ((List.getD v0 (Int.toNat v4) (pzero T_api_Record)).2.1 < (0 : Int))) = true then
        some (8 : Int)
      else
        if (decide ((List.getD v0 (Int.toNat v4) (pzero T_api_Record)).2.1 > (8192 : Int))) = true then
          some (8 : Int)
        else
          if ((List.getD v0 (Int.toNat v4) (pzero T_api_Record)).2.1 == (0 : Int)) = true then
            (bitloftref01_Of []).bind fun (r2 : ((List Int))) =>
            if (not (peq (.arr 20 (.int .u8)) (List.getD v0 (Int.toNat v4) (pzero T_api_Record)).2.2.1 r2)) = true then
              some (8 : Int)
            else
              bitloftref28_Valid_c1 v0 (IntKind.wrap .i64 (v3 + (List.getD v0 (Int.toNat v4) (pzero T_api_Record)).2.1)) (IntKind.wrap .i64 (v4 + (1 : Int)))
          else
            bitloftref28_Valid_c1 v0 (IntKind.wrap .i64 (v3 + (List.getD v0 (Int.toNat v4) (pzero T_api_Record)).2.1)) (IntKind.wrap .i64 (v4 + (1 : Int)))
  else
    if (decide (v3 > (8192 : Int))) = true then
      some (4 : Int)
    else
      bitloftref28_Valid_c2 v0 (0 : Int)) := (FnI.sem_eq _).trans (by kernel_rfl)
theorem bitloftref28_Valid_c2_eq (v0 : List D_api_Record) (v6 : Int) : bitloftref28_Valid_c2 v0 v6 = (
  if (decide (v6 < (Int.ofNat (List.length v0)))) = true then
    bitloftref28_Valid_c3 v0 v6 (0 : Int)
  else
    some (0 : Int)) := (FnI.sem_eq _).trans (by kernel_rfl)
theorem bitloftref28_Valid_c3_eq (v0 : List D_api_Record) (v6 : Int) (v7 : Int) : bitloftref28_Valid_c3 v0 v6 v7 = (
  if (decide (v7 < v6)) = true then
    gd (0 ≤ v7) <|
    gd (v7 < (Int.ofNat (List.length v0))) <|
    gd (0 ≤ v6) <|
    gd (v6 < (Int.ofNat (List.length v0))) <|
    if ((ByteArray.toList (List.getD v0 (Int.toNat v7) (pzero T_api_Record)).1) == (ByteArray.toList (List.getD v0 (Int.toNat v6) (pzero T_api_Record)).1)) = true then
      some (14 : Int)
    else
      bitloftref28_Valid_c3 v0 v6 (IntKind.wrap .i64 (v7 + (1 : Int)))
  else
    bitloftref28_Valid_c2 v0 (IntKind.wrap .i64 (v6 + (1 : Int)))) := (FnI.sem_eq _).trans (by kernel_rfl)
noncomputable def bitloftref28_Valid_S (acc : List AV → Bool) : Summ Tryd.prog GT := bitloftref28_Valid_I.summ mixed acc false false

/-! bitloft/bitloftref36.asked -/
noncomputable def bitloftref36_asked_I : FnI Tryd.prog GT := { f := 88, cuts := [], tab := [bitloftref30_Check_S (fun _ => true), bitloftref28_Valid_S (fun _ => true)], fm := ⟨true, [.val (.int .i64) []]⟩ }
noncomputable def bitloftref36_asked (a0 : D_api_Settings) (a1 : List D_api_Record) : Option (Int) := bitloftref36_asked_I.call [(.agg T_api_Settings (inj false T_api_Settings a0)), (.sl T_api_Record false a1)] []
theorem bitloftref36_asked_eq (a0 : D_api_Settings) (a1 : List D_api_Record) : bitloftref36_asked a0 a1 = (
  (bitloftref30_Check a0).bind fun (r1 : (Int)) =>
  if (r1 != (0 : Int)) = true then
    some (r1)
  else
    (bitloftref28_Valid a1).bind fun (r2 : (Int)) =>
    some (r2)) := (FnI.call_eq (by kernel_rfl)).trans (by kernel_rfl)
noncomputable def bitloftref36_asked_S (acc : List AV → Bool) : Summ Tryd.prog GT := bitloftref36_asked_I.summ mixed acc false false

/-! bitloft/bitloftref36.many -/
noncomputable def bitloftref36_many_I : FnI Tryd.prog GT := { f := 89, cuts := [⟨(3, 3), [0, 1, 5, 6], false, false⟩], tab := [], fm := ⟨true, [.val (.int .i64) []]⟩ }
noncomputable def bitloftref36_many (a0 : Int) (a1 : Int) : Option (Int) := bitloftref36_many_I.call [(.int .i64 a0), (.int .i64 a1)] []
noncomputable def bitloftref36_many_c1 (v0 : Int) (v1 : Int) (v5 : Int) (v6 : Int) : Option (Int) := bitloftref36_many_I.sem ⟨[.code (cIn (cIn (cSnd (cFst (cSnd (cSnd (bodyOf Tryd.prog 89))))))), .inLoop (cIn (cIn (cSnd (cFst (cSnd (cSnd (bodyOf Tryd.prog 89))))))), .inBlock 0, .code (cSnd (cSnd (cSnd (bodyOf Tryd.prog 89))))], ⟨[(0, (.one (.int .i64 v0))), (1, (.one (.int .i64 v1))), (5, (.one (.int .i64 v5))), (6, (.one (.int .i64 v6)))], [], 8⟩⟩
theorem bitloftref36_many_eq (a0 : Int) (a1 : Int) : bitloftref36_many a0 a1 = (
  bitloftref36_many_c1 a0 a1 (0 : Int) (0 : Int)) := (FnI.call_eq (by kernel_rfl)).trans (by kernel_rfl)
theorem bitloftref36_many_c1_eq (v0 : Int) (v1 : Int) (v5 : Int) (v6 : Int) : bitloftref36_many_c1 v0 v1 v5 v6 = (
  if (decide (v6 < v0)) = true then
    bitloftref36_many_c1 v0 v1 (IntKind.wrap .i64 (v5 + (1 : Int))) (IntKind.wrap .i64 (v6 + v1))
  else
    some (v5)) := (FnI.sem_eq _).trans (by kernel_rfl)
noncomputable def bitloftref36_many_S (acc : List AV → Bool) : Summ Tryd.prog GT := bitloftref36_many_I.summ mixed acc false false

/-! bitloft/bitloftref36.Sizes -/
noncomputable def bitloftref36_Sizes_I : FnI Tryd.prog GT := { f := 33, cuts := [⟨(6, 3), [1, 2, 7, 8], false, false⟩], tab := [bitloftref36_asked_S (fun _ => true), bitloftref36_many_S (fun _ => true)], fm := ⟨true, [.val (.slice (.int .i64)) [.nw], .val (.int .i64) []]⟩ }
noncomputable def bitloftref36_Sizes (a0 : D_api_Settings) (a1 : List D_api_Record) : Option (List Int × Int) := bitloftref36_Sizes_I.call [(.agg T_api_Settings (inj false T_api_Settings a0)), (.sl T_api_Record false a1)] []
noncomputable def bitloftref36_Sizes_c1 (v1 : List D_api_Record) (v8 : Int) (b8 : D_api_Settings) (h9 : List Int) : Option (List Int × Int) := bitloftref36_Sizes_I.sem ⟨[.code (cIn (cIn (cSnd (cFst (cSnd (cSnd (cSnd (bodyOf Tryd.prog 33)))))))), .inLoop (cIn (cIn (cSnd (cFst (cSnd (cSnd (cSnd (bodyOf Tryd.prog 33)))))))), .inBlock 0, .code (cSnd (cSnd (cSnd (cSnd (bodyOf Tryd.prog 33)))))], ⟨[(1, (.one (.sl T_api_Record false v1))), (2, (.one (.ptr T_api_Settings 8 []))), (7, (.one (.ref (.int .i64) 9 0 (List.length h9) true))), (8, (.one (.int .i64 v8)))], [(8, some (.box T_api_Settings (inj false T_api_Settings b8))), (9, some (.row (.int .i64) true h9))], 10⟩⟩
theorem bitloftref36_Sizes_eq (a0 : D_api_Settings) (a1 : List D_api_Record) : bitloftref36_Sizes a0 a1 = (
  (bitloftref36_asked a0 a1).bind fun (r1 : (Int)) =>
  if (r1 != (0 : Int)) = true then
    some ([], r1)
  else
    bitloftref36_Sizes_c1 a1 (0 : Int) a0 []) := (FnI.call_eq (by kernel_rfl)).trans (by kernel_rfl)
theorem bitloftref36_Sizes_c1_eq (v1 : List D_api_Record) (v8 : Int) (b8 : D_api_Settings) (h9 : List Int) : bitloftref36_Sizes_c1 v1 v8 b8 h9 = (
  if (decide (v8 < (Int.ofNat (List.length v1)))) = true then
    gd (0 ≤ v8) <|
    gd (v8 < (Int.ofNat (List.length v1))) <|
    (bitloftref36_many (List.getD v1 (Int.toNat v8) (pzero T_api_Record)).2.1 b8.2.1).bind fun (r2 : (Int)) =>
    gd ((List.length (h9 ++ [r2])) * 8 ≤ 140737488355328) <|
    bitloftref36_Sizes_c1 v1 (IntKind.wrap .i64 (v8 + (1 : Int))) b8 (h9 ++ [r2])
  else
    some (h9, (0 : Int))) := (FnI.sem_eq _).trans (by kernel_rfl)
noncomputable def bitloftref36_Sizes_S (acc : List AV → Bool) : Summ Tryd.prog GT := bitloftref36_Sizes_I.summ mixed acc false false

/-! bitloft/bitloftref36.Count -/
noncomputable def bitloftref36_Count_I : FnI Tryd.prog GT := { f := 31, cuts := [⟨(4, 3), [6, 7, 8, 9], false, false⟩], tab := [bitloftref36_Sizes_S (fun _ => true)], fm := ⟨true, [.val (.int .i64) [], .val (.int .i64) []]⟩ }
noncomputable def bitloftref36_Count (a0 : D_api_Settings) (a1 : List D_api_Record) : Option (Int × Int) := bitloftref36_Count_I.call [(.agg T_api_Settings (inj false T_api_Settings a0)), (.sl T_api_Record false a1)] []
noncomputable def bitloftref36_Count_c1 (v7 : Int) (v8 : Int) (v9 : Int) (h8 : List Int) : Option (Int × Int) := bitloftref36_Count_I.sem ⟨[.code (cIn (cIn (cSnd (cFst (cSnd (cSnd (cSnd (bodyOf Tryd.prog 31)))))))), .inLoop (cIn (cIn (cSnd (cFst (cSnd (cSnd (cSnd (bodyOf Tryd.prog 31)))))))), .inBlock 0, .code (cSnd (cSnd (cSnd (cSnd (bodyOf Tryd.prog 31)))))], ⟨[(6, (.one (.ref (.int .i64) 8 0 (List.length h8) true))), (7, (.one (.int .i64 v7))), (8, (.one (.int .i64 v8))), (9, (.one (.int .i64 v9)))], [(8, some (.row (.int .i64) true h8))], 9⟩⟩
theorem bitloftref36_Count_eq (a0 : D_api_Settings) (a1 : List D_api_Record) : bitloftref36_Count a0 a1 = (
  (bitloftref36_Sizes a0 a1).bind fun (r1 : (List Int × Int)) =>
  bitloftref36_Count_c1 r1.2 (0 : Int) (0 : Int) r1.1) := (FnI.call_eq (by kernel_rfl)).trans (by kernel_rfl)
theorem bitloftref36_Count_c1_eq (v7 : Int) (v8 : Int) (v9 : Int) (h8 : List Int) : bitloftref36_Count_c1 v7 v8 v9 h8 = (
  if (decide (v9 < (Int.ofNat (List.length h8)))) = true then
    gd (0 ≤ v9) <|
    gd (v9 < (Int.ofNat (List.length h8))) <|
    bitloftref36_Count_c1 v7 (IntKind.wrap .i64 (v8 + (List.getD h8 (0 + (Int.toNat v9)) (0 : Int)))) (IntKind.wrap .i64 (v9 + (1 : Int))) h8
  else
    some (v8, v7)) := (FnI.sem_eq _).trans (by kernel_rfl)
noncomputable def bitloftref36_Count_S (acc : List AV → Bool) : Summ Tryd.prog GT := bitloftref36_Count_I.summ mixed acc false false

/-! bitloft/bound.Sizes -/
noncomputable def bound_Sizes_I : FnI Tryd.prog GT := { f := 32, cuts := [⟨(6, 3), [8, 23, 24, 25], false, false⟩], tab := [bound_pieces_S (fun _ => true)], fm := ⟨true, [.val (.slice (.int .i64)) [.nw], .val (.int .i64) []]⟩ }
noncomputable def bound_Sizes (a0 : D_api_Settings) (a1 : List D_api_Record) : Option (List Int × Int) := bound_Sizes_I.call [(.agg T_api_Settings (inj false T_api_Settings a0)), (.sl T_api_Record false a1)] []
noncomputable def bound_Sizes_c1 (v24 : Int) (v25 : Int) (h8 : List Int) (h9 : List D_api_Piece) : Option (List Int × Int) := bound_Sizes_I.sem ⟨[.code (cIn (cIn (cSnd (cFst (cSnd (cSnd (cSnd (cSnd (bodyOf Tryd.prog 32))))))))), .inLoop (cIn (cIn (cSnd (cFst (cSnd (cSnd (cSnd (cSnd (bodyOf Tryd.prog 32))))))))), .inBlock 0, .code (cSnd (cSnd (cSnd (cSnd (cSnd (bodyOf Tryd.prog 32))))))], ⟨[(8, (.one (.ref (.int .i64) 8 0 (List.length h8) true))), (23, (.one (.ref T_api_Piece 9 0 (List.length h9) true))), (24, (.one (.int .i64 v24))), (25, (.one (.int .i64 v25)))], [(8, some (.row (.int .i64) true h8)), (9, some (.row T_api_Piece true h9))], 10⟩⟩
theorem bound_Sizes_eq (a0 : D_api_Settings) (a1 : List D_api_Record) : bound_Sizes a0 a1 = (
  (bound_pieces a0 a1).bind fun (r1 : (List D_api_Piece × Int)) =>
  if (r1.2 != (0 : Int)) = true then
    some ([], r1.2)
  else
    gd ((Int.ofNat (List.length a1)) = (Int.ofNat (List.length a1))) <|
    gd (0 ≤ (Int.ofNat (List.length a1))) <|
    gd ((Int.ofNat (List.length a1)) * 8 ≤ 140737488355328) <|
    gd ((Int.ofNat (List.length a1)) ≤ 9223372036854775807) <|
    bound_Sizes_c1 (Int.ofNat (List.length r1.1)) (0 : Int) (List.replicate (List.length a1) (0 : Int)) r1.1) := (FnI.call_eq (by kernel_rfl)).trans (by kernel_rfl)
theorem bound_Sizes_c1_eq (v24 : Int) (v25 : Int) (h8 : List Int) (h9 : List D_api_Piece) : bound_Sizes_c1 v24 v25 h8 h9 = (
  if (decide (v25 < v24)) = true then
    gd (0 ≤ v25) <|
    gd (v25 < (Int.ofNat (List.length h9))) <|
    gd (0 ≤ (List.getD h9 (0 + (Int.toNat v25)) (pzero T_api_Piece)).1) <|
    gd ((List.getD h9 (0 + (Int.toNat v25)) (pzero T_api_Piece)).1 < (Int.ofNat (List.length h8))) <|
    gd (0 ≤ (List.getD h9 (0 + (Int.toNat v25)) (pzero T_api_Piece)).1) <|
    gd ((List.getD h9 (0 + (Int.toNat v25)) (pzero T_api_Piece)).1 < (Int.ofNat (List.length h8))) <|
    bound_Sizes_c1 v24 (IntKind.wrap .i64 (v25 + (1 : Int))) (List.set h8 (0 + (Int.toNat (List.getD h9 (0 + (Int.toNat v25)) (pzero T_api_Piece)).1)) (IntKind.wrap .i64 ((List.getD h8 (0 + (Int.toNat (List.getD h9 (0 + (Int.toNat v25)) (pzero T_api_Piece)).1)) (0 : Int)) + (1 : Int)))) h9
  else
    some (h8, (0 : Int))) := (FnI.sem_eq _).trans (by kernel_rfl)
noncomputable def bound_Sizes_S (acc : List AV → Bool) : Summ Tryd.prog GT := bound_Sizes_I.summ mixed acc false false

/-! bitloft/bound.greatest -/
noncomputable def bound_greatest_I : FnI Tryd.prog GT := { f := 91, cuts := [], tab := [], fm := ⟨true, [.cst (.agg T_bound_rule ((some 131), ()))]⟩ }
noncomputable def bound_greatest : Option (Unit) := bound_greatest_I.call [] []
theorem bound_greatest_eq : bound_greatest = (
  some ()) := (FnI.call_eq (by kernel_rfl)).trans (by kernel_rfl)
noncomputable def bound_greatest_S (acc : List AV → Bool) : Summ Tryd.prog GT := bound_greatest_I.summ mixed acc false false

/-! bitloft/bound.greatest$1 -/
noncomputable def bound_greatest_1_I : FnI Tryd.prog GT := { f := 131, cuts := [], tab := [], fm := ⟨true, [.val (.int .i64) []]⟩ }
noncomputable def bound_greatest_1 (a0 : Int) : Option (Int) := bound_greatest_1_I.call [(.int .i64 a0)] []
theorem bound_greatest_1_eq (a0 : Int) : bound_greatest_1 a0 = (
  some (a0)) := (FnI.call_eq (by kernel_rfl)).trans (by kernel_rfl)
noncomputable def bound_greatest_1_S (acc : List AV → Bool) : Summ Tryd.prog GT := bound_greatest_1_I.summ mixed acc false false

/-! bitloft/bound.length -/
noncomputable def bound_length_I : FnI Tryd.prog GT := { f := 90, cuts := [⟨(6, 3), [5, 8, 10, 24, 25, 26], false, false⟩, ⟨(11, 3), [5, 10, 39, 40, 41], false, false⟩], tab := [bound_pieces_S (fun _ => true), bound_greatest_1_S (fun _ => true)], fm := ⟨true, [.val (.int .i64) [], .val (.int .i64) []]⟩ }
noncomputable def bound_length (a0 : D_api_Settings) (a1 : List D_api_Record) (a2b : Unit) : Option (Int × Int) := bound_length_I.call [(.agg T_api_Settings (inj false T_api_Settings a0)), (.sl T_api_Record false a1), (.agg T_bound_rule ((some 131), a2b))] []
noncomputable def bound_length_c1 (v10 : Int) (v24 : List D_api_Record) (v25 : Int) (v26 : Int) (b8b : Unit) (h9 : List D_api_Piece) : Option (Int × Int) := bound_length_I.sem ⟨[.code (cIn (cIn (cSnd (cFst (cSnd (cSnd (cSnd (cSnd (bodyOf Tryd.prog 90))))))))), .inLoop (cIn (cIn (cSnd (cFst (cSnd (cSnd (cSnd (cSnd (bodyOf Tryd.prog 90))))))))), .inBlock 0, .code (cSnd (cSnd (cSnd (cSnd (cSnd (bodyOf Tryd.prog 90))))))], ⟨[(5, (.one (.ptr T_bound_rule 8 []))), (8, (.one (.ref T_api_Piece 9 0 (List.length h9) true))), (10, (.one (.int .i64 v10))), (24, (.one (.sl T_api_Record false v24))), (25, (.one (.int .i64 v25))), (26, (.one (.int .i64 v26)))], [(8, some (.box T_bound_rule ((some 131), b8b))), (9, some (.row T_api_Piece true h9))], 10⟩⟩
noncomputable def bound_length_c2 (v10 : Int) (v40 : Int) (v41 : Int) (b8b : Unit) (h9 : List D_api_Piece) : Option (Int × Int) := bound_length_I.sem ⟨[.code (cIn (cIn (cSnd (cFst (cSnd (cSnd (cSnd (cSnd (cSnd (bodyOf Tryd.prog 90)))))))))), .inLoop (cIn (cIn (cSnd (cFst (cSnd (cSnd (cSnd (cSnd (cSnd (bodyOf Tryd.prog 90)))))))))), .inBlock 2, .code (cSnd (cSnd (cSnd (cSnd (cSnd (cSnd (bodyOf Tryd.prog 90)))))))], ⟨[(5, (.one (.ptr T_bound_rule 8 []))), (10, (.one (.int .i64 v10))), (39, (.one (.ref T_api_Piece 9 0 (List.length h9) true))), (40, (.one (.int .i64 v40))), (41, (.one (.int .i64 v41)))], [(8, some (.box T_bound_rule ((some 131), b8b))), (9, some (.row T_api_Piece true h9))], 10⟩⟩
theorem bound_length_eq (a0 : D_api_Settings) (a1 : List D_api_Record) (a2b : Unit) : bound_length a0 a1 a2b = (
  (bound_pieces a0 a1).bind fun (r1 : (List D_api_Piece × Int)) =>
  if (r1.2 != (0 : Int)) = true then
    some ((0 : Int), r1.2)
  else
    bound_length_c1 (28 : Int) a1 (Int.ofNat (List.length a1)) (0 : Int) a2b r1.1) := (FnI.call_eq (by kernel_rfl)).trans (by kernel_rfl)
theorem bound_length_c1_eq (v10 : Int) (v24 : List D_api_Record) (v25 : Int) (v26 : Int) (b8b : Unit) (h9 : List D_api_Piece) : bound_length_c1 v10 v24 v25 v26 b8b h9 = (
  if (decide (v26 < v25)) = true then
    gd (0 ≤ v26) <|
    gd (v26 < (Int.ofNat (List.length v24))) <|
    bound_length_c1 (IntKind.wrap .i64 (v10 + (IntKind.wrap .i64 ((IntKind.wrap .i64 ((IntKind.wrap .i64 ((1 : Int) + (Int.ofNat (ByteArray.size (List.getD v24 (Int.toNat v26) (pzero T_api_Record)).1)))) + (2 : Int))) + (20 : Int))))) v24 v25 (IntKind.wrap .i64 (v26 + (1 : Int))) b8b h9
  else
    bound_length_c2 v10 (Int.ofNat (List.length h9)) (0 : Int) b8b h9) := (FnI.sem_eq _).trans (by kernel_rfl)
theorem bound_length_c2_eq (v10 : Int) (v40 : Int) (v41 : Int) (b8b : Unit) (h9 : List D_api_Piece) : bound_length_c2 v10 v40 v41 b8b h9 = (
  if (decide (v41 < v40)) = true then
    gd (0 ≤ v41) <|
    gd (v41 < (Int.ofNat (List.length h9))) <|
    (bound_greatest_1 (List.getD h9 (0 + (Int.toNat v41)) (pzero T_api_Piece)).2.2.1).bind fun (r2 : (Int)) =>
    bound_length_c2 (IntKind.wrap .i64 (v10 + (IntKind.wrap .i64 ((41 : Int) + r2)))) v40 (IntKind.wrap .i64 (v41 + (1 : Int))) b8b h9
  else
    some (v10, (0 : Int))) := (FnI.sem_eq _).trans (by kernel_rfl)
noncomputable def bound_length_S (acc : List AV → Bool) : Summ Tryd.prog GT := bound_length_I.summ mixed acc false false

/-! bitloft/bound.Greatest -/
noncomputable def bound_Greatest_I : FnI Tryd.prog GT := { f := 34, cuts := [], tab := [bound_greatest_S (fun _ => true), bound_length_S (fun _ => true)], fm := ⟨true, [.val (.int .i64) [], .val (.int .i64) []]⟩ }
noncomputable def bound_Greatest (a0 : D_api_Settings) (a1 : List D_api_Record) : Option (Int × Int) := bound_Greatest_I.call [(.agg T_api_Settings (inj false T_api_Settings a0)), (.sl T_api_Record false a1)] []
theorem bound_Greatest_eq (a0 : D_api_Settings) (a1 : List D_api_Record) : bound_Greatest a0 a1 = (
  (bound_greatest).bind fun (r1 : (Unit)) =>
  (bound_length a0 a1 ()).bind fun (r2 : (Int × Int)) =>
  some (r2)) := (FnI.call_eq (by kernel_rfl)).trans (by kernel_rfl)
noncomputable def bound_Greatest_S (acc : List AV → Bool) : Summ Tryd.prog GT := bound_Greatest_I.summ mixed acc false false

/-! bitloft/bitloftref36.head -/
noncomputable def bitloftref36_head_I : FnI Tryd.prog GT := { f := 132, cuts := [⟨(3, 3), [0, 3, 4], false, false⟩], tab := [], fm := ⟨true, [.val (.int .i64) []]⟩ }
noncomputable def bitloftref36_head (a0 : List D_api_Record) : Option (Int) := bitloftref36_head_I.call [(.sl T_api_Record false a0)] []
noncomputable def bitloftref36_head_c1 (v0 : List D_api_Record) (v3 : Int) (v4 : Int) : Option (Int) := bitloftref36_head_I.sem ⟨[.code (cIn (cIn (cSnd (cFst (cSnd (cSnd (bodyOf Tryd.prog 132))))))), .inLoop (cIn (cIn (cSnd (cFst (cSnd (cSnd (bodyOf Tryd.prog 132))))))), .inBlock 0, .code (cSnd (cSnd (cSnd (bodyOf Tryd.prog 132))))], ⟨[(0, (.one (.sl T_api_Record false v0))), (3, (.one (.int .i64 v3))), (4, (.one (.int .i64 v4)))], [], 8⟩⟩
theorem bitloftref36_head_eq (a0 : List D_api_Record) : bitloftref36_head a0 = (
  bitloftref36_head_c1 a0 (28 : Int) (0 : Int)) := (FnI.call_eq (by kernel_rfl)).trans (by kernel_rfl)
theorem bitloftref36_head_c1_eq (v0 : List D_api_Record) (v3 : Int) (v4 : Int) : bitloftref36_head_c1 v0 v3 v4 = (
  if (decide (v4 < (Int.ofNat (List.length v0)))) = true then
    gd (0 ≤ v4) <|
    gd (v4 < (Int.ofNat (List.length v0))) <|
    bitloftref36_head_c1 v0 (IntKind.wrap .i64 (v3 + (IntKind.wrap .i64 ((23 : Int) + (Int.ofNat (ByteArray.size (List.getD v0 (Int.toNat v4) (pzero T_api_Record)).1)))))) (IntKind.wrap .i64 (v4 + (1 : Int)))
  else
    some (v3)) := (FnI.sem_eq _).trans (by kernel_rfl)
noncomputable def bitloftref36_head_S (acc : List AV → Bool) : Summ Tryd.prog GT := bitloftref36_head_I.summ mixed acc false false

/-! bitloft/bitloftref36.length -/
noncomputable def bitloftref36_length_I : FnI Tryd.prog GT := { f := 92, cuts := [⟨(3, 3), [1, 2, 3, 7, 8], false, false⟩, ⟨(6, 7), [1, 2, 3, 7, 8, 9], false, false⟩], tab := [bitloftref36_head_S (fun _ => true)], fm := ⟨true, [.val (.int .i64) []]⟩ }
noncomputable def bitloftref36_length (a0 : D_api_Settings) (a1 : List D_api_Record) (a2 : Bool) : Option (Int) := bitloftref36_length_I.call [(.agg T_api_Settings (inj false T_api_Settings a0)), (.sl T_api_Record false a1), (.bool a2)] []
noncomputable def bitloftref36_length_c1 (v1 : List D_api_Record) (v2 : Bool) (v7 : Int) (v8 : Int) (b8 : D_api_Settings) : Option (Int) := bitloftref36_length_I.sem ⟨[.code (cIn (cIn (cSnd (cFst (cSnd (cSnd (bodyOf Tryd.prog 92))))))), .inLoop (cIn (cIn (cSnd (cFst (cSnd (cSnd (bodyOf Tryd.prog 92))))))), .inBlock 0, .code (cSnd (cSnd (cSnd (bodyOf Tryd.prog 92))))], ⟨[(1, (.one (.sl T_api_Record false v1))), (2, (.one (.bool v2))), (3, (.one (.ptr T_api_Settings 8 []))), (7, (.one (.int .i64 v7))), (8, (.one (.int .i64 v8)))], [(8, some (.box T_api_Settings (inj false T_api_Settings b8)))], 9⟩⟩
noncomputable def bitloftref36_length_c2 (v1 : List D_api_Record) (v2 : Bool) (v7 : Int) (v8 : Int) (v9 : Int) (b8 : D_api_Settings) : Option (Int) := bitloftref36_length_I.sem ⟨[.code (cIn (cIn (cSnd (cIn (cFst (cSnd (cIn (cIn (cSnd (cFst (cSnd (cSnd (bodyOf Tryd.prog 92))))))))))))), .inLoop (cIn (cIn (cSnd (cIn (cFst (cSnd (cIn (cIn (cSnd (cFst (cSnd (cSnd (bodyOf Tryd.prog 92))))))))))))), .inBlock 2, .inBlock 1, .code (cSnd (cSnd (cIn (cIn (cSnd (cFst (cSnd (cSnd (bodyOf Tryd.prog 92))))))))), .inLoop (cIn (cIn (cSnd (cFst (cSnd (cSnd (bodyOf Tryd.prog 92))))))), .inBlock 0, .code (cSnd (cSnd (cSnd (bodyOf Tryd.prog 92))))], ⟨[(1, (.one (.sl T_api_Record false v1))), (2, (.one (.bool v2))), (3, (.one (.ptr T_api_Settings 8 []))), (7, (.one (.int .i64 v7))), (8, (.one (.int .i64 v8))), (9, (.one (.int .i64 v9)))], [(8, some (.box T_api_Settings (inj false T_api_Settings b8)))], 9⟩⟩
theorem bitloftref36_length_eq (a0 : D_api_Settings) (a1 : List D_api_Record) (a2 : Bool) : bitloftref36_length a0 a1 a2 = (
  (bitloftref36_head a1).bind fun (r1 : (Int)) =>
  bitloftref36_length_c1 a1 a2 r1 (0 : Int) a0) := (FnI.call_eq (by kernel_rfl)).trans (by kernel_rfl)
theorem bitloftref36_length_c1_eq (v1 : List D_api_Record) (v2 : Bool) (v7 : Int) (v8 : Int) (b8 : D_api_Settings) : bitloftref36_length_c1 v1 v2 v7 v8 b8 = (
  if (decide (v8 < (Int.ofNat (List.length v1)))) = true then
    bitloftref36_length_c2 v1 v2 v7 v8 (0 : Int) b8
  else
    some (v7)) := (FnI.sem_eq _).trans (by kernel_rfl)
theorem bitloftref36_length_c2_eq (v1 : List D_api_Record) (v2 : Bool) (v7 : Int) (v8 : Int) (v9 : Int) (b8 : D_api_Settings) : bitloftref36_length_c2 v1 v2 v7 v8 v9 b8 = (
  gd (0 ≤ v8) <|
  gd (v8 < (Int.ofNat (List.length v1))) <|
  if (decide (v9 < (List.getD v1 (Int.toNat v8) (pzero T_api_Record)).2.1)) = true then
    gd (0 ≤ v8) <|
    gd (v8 < (Int.ofNat (List.length v1))) <|
    if v2 = true then
      bitloftref36_length_c2 v1 v2 (IntKind.wrap .i64 (v7 + (IntKind.wrap .i64 ((41 : Int) + (if (4 : Int) < (if (IntKind.wrap .i64 ((List.getD v1 (Int.toNat v8) (pzero T_api_Record)).2.1 - v9)) < b8.2.1 then (IntKind.wrap .i64 ((List.getD v1 (Int.toNat v8) (pzero T_api_Record)).2.1 - v9)) else b8.2.1) then (4 : Int) else (if (IntKind.wrap .i64 ((List.getD v1 (Int.toNat v8) (pzero T_api_Record)).2.1 - v9)) < b8.2.1 then (IntKind.wrap .i64 ((List.getD v1 (Int.toNat v8) (pzero T_api_Record)).2.1 - v9)) else b8.2.1)))))) v8 (IntKind.wrap .i64 (v9 + b8.2.1)) b8
    else
      bitloftref36_length_c2 v1 v2 (IntKind.wrap .i64 (v7 + (IntKind.wrap .i64 ((41 : Int) + (if (IntKind.wrap .i64 ((List.getD v1 (Int.toNat v8) (pzero T_api_Record)).2.1 - v9)) < b8.2.1 then (IntKind.wrap .i64 ((List.getD v1 (Int.toNat v8) (pzero T_api_Record)).2.1 - v9)) else b8.2.1))))) v8 (IntKind.wrap .i64 (v9 + b8.2.1)) b8
  else
    bitloftref36_length_c1 v1 v2 v7 (IntKind.wrap .i64 (v8 + (1 : Int))) b8) := (FnI.sem_eq _).trans (by kernel_rfl)
noncomputable def bitloftref36_length_S (acc : List AV → Bool) : Summ Tryd.prog GT := bitloftref36_length_I.summ mixed acc false false

/-! bitloft/bitloftref36.Greatest -/
noncomputable def bitloftref36_Greatest_I : FnI Tryd.prog GT := { f := 35, cuts := [], tab := [bitloftref36_asked_S (fun _ => true), bitloftref36_length_S (fun _ => true)], fm := ⟨true, [.val (.int .i64) [], .val (.int .i64) []]⟩ }
noncomputable def bitloftref36_Greatest (a0 : D_api_Settings) (a1 : List D_api_Record) : Option (Int × Int) := bitloftref36_Greatest_I.call [(.agg T_api_Settings (inj false T_api_Settings a0)), (.sl T_api_Record false a1)] []
theorem bitloftref36_Greatest_eq (a0 : D_api_Settings) (a1 : List D_api_Record) : bitloftref36_Greatest a0 a1 = (
  (bitloftref36_asked a0 a1).bind fun (r1 : (Int)) =>
  if (r1 != (0 : Int)) = true then
    some ((0 : Int), r1)
  else
    (bitloftref36_length a0 a1 false).bind fun (r2 : (Int)) =>
    some (r2, (0 : Int))) := (FnI.call_eq (by kernel_rfl)).trans (by kernel_rfl)
noncomputable def bitloftref36_Greatest_S (acc : List AV → Bool) : Summ Tryd.prog GT := bitloftref36_Greatest_I.summ mixed acc false false

/-! bitloft/bound.least -/
noncomputable def bound_least_I : FnI Tryd.prog GT := { f := 93, cuts := [], tab := [], fm := ⟨true, [.cst (.agg T_bound_rule ((some 133), ()))]⟩ }
noncomputable def bound_least : Option (Unit) := bound_least_I.call [] []
theorem bound_least_eq : bound_least = (
  some ()) := (FnI.call_eq (by kernel_rfl)).trans (by kernel_rfl)
noncomputable def bound_least_S (acc : List AV → Bool) : Summ Tryd.prog GT := bound_least_I.summ mixed acc false false

/-! bitloft/bound.least$1 -/
noncomputable def bound_least_1_I : FnI Tryd.prog GT := { f := 133, cuts := [], tab := [], fm := ⟨true, [.val (.int .i64) []]⟩ }
noncomputable def bound_least_1 (a0 : Int) : Option (Int) := bound_least_1_I.call [(.int .i64 a0)] []
theorem bound_least_1_eq (a0 : Int) : bound_least_1 a0 = (
  some (if (4 : Int) < a0 then (4 : Int) else a0)) := (FnI.call_eq (by kernel_rfl)).trans (by kernel_rfl)
noncomputable def bound_least_1_S (acc : List AV → Bool) : Summ Tryd.prog GT := bound_least_1_I.summ mixed acc false false

/-! bitloft/bound.length -/
noncomputable def bound_length_v2_I : FnI Tryd.prog GT := { f := 90, cuts := [⟨(6, 3), [5, 8, 10, 24, 25, 26], false, false⟩, ⟨(11, 3), [5, 10, 39, 40, 41], false, false⟩], tab := [bound_pieces_S (fun _ => true), bound_least_1_S (fun _ => true)], fm := ⟨true, [.val (.int .i64) [], .val (.int .i64) []]⟩ }
noncomputable def bound_length_v2 (a0 : D_api_Settings) (a1 : List D_api_Record) (a2b : Unit) : Option (Int × Int) := bound_length_v2_I.call [(.agg T_api_Settings (inj false T_api_Settings a0)), (.sl T_api_Record false a1), (.agg T_bound_rule ((some 133), a2b))] []
noncomputable def bound_length_v2_c1 (v10 : Int) (v24 : List D_api_Record) (v25 : Int) (v26 : Int) (b8b : Unit) (h9 : List D_api_Piece) : Option (Int × Int) := bound_length_v2_I.sem ⟨[.code (cIn (cIn (cSnd (cFst (cSnd (cSnd (cSnd (cSnd (bodyOf Tryd.prog 90))))))))), .inLoop (cIn (cIn (cSnd (cFst (cSnd (cSnd (cSnd (cSnd (bodyOf Tryd.prog 90))))))))), .inBlock 0, .code (cSnd (cSnd (cSnd (cSnd (cSnd (bodyOf Tryd.prog 90))))))], ⟨[(5, (.one (.ptr T_bound_rule 8 []))), (8, (.one (.ref T_api_Piece 9 0 (List.length h9) true))), (10, (.one (.int .i64 v10))), (24, (.one (.sl T_api_Record false v24))), (25, (.one (.int .i64 v25))), (26, (.one (.int .i64 v26)))], [(8, some (.box T_bound_rule ((some 133), b8b))), (9, some (.row T_api_Piece true h9))], 10⟩⟩
noncomputable def bound_length_v2_c2 (v10 : Int) (v40 : Int) (v41 : Int) (b8b : Unit) (h9 : List D_api_Piece) : Option (Int × Int) := bound_length_v2_I.sem ⟨[.code (cIn (cIn (cSnd (cFst (cSnd (cSnd (cSnd (cSnd (cSnd (bodyOf Tryd.prog 90)))))))))), .inLoop (cIn (cIn (cSnd (cFst (cSnd (cSnd (cSnd (cSnd (cSnd (bodyOf Tryd.prog 90)))))))))), .inBlock 2, .code (cSnd (cSnd (cSnd (cSnd (cSnd (cSnd (bodyOf Tryd.prog 90)))))))], ⟨[(5, (.one (.ptr T_bound_rule 8 []))), (10, (.one (.int .i64 v10))), (39, (.one (.ref T_api_Piece 9 0 (List.length h9) true))), (40, (.one (.int .i64 v40))), (41, (.one (.int .i64 v41)))], [(8, some (.box T_bound_rule ((some 133), b8b))), (9, some (.row T_api_Piece true h9))], 10⟩⟩
theorem bound_length_v2_eq (a0 : D_api_Settings) (a1 : List D_api_Record) (a2b : Unit) : bound_length_v2 a0 a1 a2b = (
  (bound_pieces a0 a1).bind fun (r1 : (List D_api_Piece × Int)) =>
  if (r1.2 != (0 : Int)) = true then
    some ((0 : Int), r1.2)
  else
    bound_length_v2_c1 (28 : Int) a1 (Int.ofNat (List.length a1)) (0 : Int) a2b r1.1) := (FnI.call_eq (by kernel_rfl)).trans (by kernel_rfl)
theorem bound_length_v2_c1_eq (v10 : Int) (v24 : List D_api_Record) (v25 : Int) (v26 : Int) (b8b : Unit) (h9 : List D_api_Piece) : bound_length_v2_c1 v10 v24 v25 v26 b8b h9 = (
  if (decide (v26 < v25)) = true then
    gd (0 ≤ v26) <|
    gd (v26 < (Int.ofNat (List.length v24))) <|
    bound_length_v2_c1 (IntKind.wrap .i64 (v10 + (IntKind.wrap .i64 ((IntKind.wrap .i64 ((IntKind.wrap .i64 ((1 : Int) + (Int.ofNat (ByteArray.size (List.getD v24 (Int.toNat v26) (pzero T_api_Record)).1)))) + (2 : Int))) + (20 : Int))))) v24 v25 (IntKind.wrap .i64 (v26 + (1 : Int))) b8b h9
  else
    bound_length_v2_c2 v10 (Int.ofNat (List.length h9)) (0 : Int) b8b h9) := (FnI.sem_eq _).trans (by kernel_rfl)
theorem bound_length_v2_c2_eq (v10 : Int) (v40 : Int) (v41 : Int) (b8b : Unit) (h9 : List D_api_Piece) : bound_length_v2_c2 v10 v40 v41 b8b h9 = (
  if (decide (v41 < v40)) = true then
    gd (0 ≤ v41) <|
    gd (v41 < (Int.ofNat (List.length h9))) <|
    (bound_least_1 (List.getD h9 (0 + (Int.toNat v41)) (pzero T_api_Piece)).2.2.1).bind fun (r2 : (Int)) =>
    bound_length_v2_c2 (IntKind.wrap .i64 (v10 + (IntKind.wrap .i64 ((41 : Int) + r2)))) v40 (IntKind.wrap .i64 (v41 + (1 : Int))) b8b h9
  else
    some (v10, (0 : Int))) := (FnI.sem_eq _).trans (by kernel_rfl)
noncomputable def bound_length_v2_S (acc : List AV → Bool) : Summ Tryd.prog GT := bound_length_v2_I.summ mixed acc false false

/-! bitloft/bound.Least -/
noncomputable def bound_Least_I : FnI Tryd.prog GT := { f := 36, cuts := [], tab := [bound_least_S (fun _ => true), bound_length_v2_S (fun _ => true)], fm := ⟨true, [.val (.int .i64) [], .val (.int .i64) []]⟩ }
noncomputable def bound_Least (a0 : D_api_Settings) (a1 : List D_api_Record) : Option (Int × Int) := bound_Least_I.call [(.agg T_api_Settings (inj false T_api_Settings a0)), (.sl T_api_Record false a1)] []
theorem bound_Least_eq (a0 : D_api_Settings) (a1 : List D_api_Record) : bound_Least a0 a1 = (
  (bound_least).bind fun (r1 : (Unit)) =>
  (bound_length_v2 a0 a1 ()).bind fun (r2 : (Int × Int)) =>
  some (r2)) := (FnI.call_eq (by kernel_rfl)).trans (by kernel_rfl)
noncomputable def bound_Least_S (acc : List AV → Bool) : Summ Tryd.prog GT := bound_Least_I.summ mixed acc false false

/-! bitloft/bitloftref36.Least -/
noncomputable def bitloftref36_Least_I : FnI Tryd.prog GT := { f := 37, cuts := [], tab := [bitloftref36_asked_S (fun _ => true), bitloftref36_length_S (fun _ => true)], fm := ⟨true, [.val (.int .i64) [], .val (.int .i64) []]⟩ }
noncomputable def bitloftref36_Least (a0 : D_api_Settings) (a1 : List D_api_Record) : Option (Int × Int) := bitloftref36_Least_I.call [(.agg T_api_Settings (inj false T_api_Settings a0)), (.sl T_api_Record false a1)] []
theorem bitloftref36_Least_eq (a0 : D_api_Settings) (a1 : List D_api_Record) : bitloftref36_Least a0 a1 = (
  (bitloftref36_asked a0 a1).bind fun (r1 : (Int)) =>
  if (r1 != (0 : Int)) = true then
    some ((0 : Int), r1)
  else
    (bitloftref36_length a0 a1 true).bind fun (r2 : (Int)) =>
    some (r2, (0 : Int))) := (FnI.call_eq (by kernel_rfl)).trans (by kernel_rfl)
noncomputable def bitloftref36_Least_S (acc : List AV → Bool) : Summ Tryd.prog GT := bitloftref36_Least_I.summ mixed acc false false

/-! bitloft/bitloftref28.Same -/
noncomputable def bitloftref28_Same_I : FnI Tryd.prog GT := { f := 38, cuts := [⟨(4, 3), [0, 1, 5], false, false⟩], tab := [], fm := ⟨true, [.val .bool []]⟩ }
noncomputable def bitloftref28_Same (a0 : List D_api_Record) (a1 : List D_api_Record) : Option (Bool) := bitloftref28_Same_I.call [(.sl T_api_Record false a0), (.sl T_api_Record false a1)] []
noncomputable def bitloftref28_Same_c1 (v0 : List D_api_Record) (v1 : List D_api_Record) (v5 : Int) : Option (Bool) := bitloftref28_Same_I.sem ⟨[.code (cIn (cIn (cSnd (cFst (cSnd (cSnd (bodyOf Tryd.prog 38))))))), .inLoop (cIn (cIn (cSnd (cFst (cSnd (cSnd (bodyOf Tryd.prog 38))))))), .inBlock 0, .code (cSnd (cSnd (cSnd (bodyOf Tryd.prog 38))))], ⟨[(0, (.one (.sl T_api_Record false v0))), (1, (.one (.sl T_api_Record false v1))), (5, (.one (.int .i64 v5)))], [], 8⟩⟩
theorem bitloftref28_Same_eq (a0 : List D_api_Record) (a1 : List D_api_Record) : bitloftref28_Same a0 a1 = (
  if ((Int.ofNat (List.length a0)) != (Int.ofNat (List.length a1))) = true then
    some (false)
  else
    bitloftref28_Same_c1 a0 a1 (0 : Int)) := (FnI.call_eq (by kernel_rfl)).trans (by kernel_rfl)
theorem bitloftref28_Same_c1_eq (v0 : List D_api_Record) (v1 : List D_api_Record) (v5 : Int) : bitloftref28_Same_c1 v0 v1 v5 = (
  if (decide (v5 < (Int.ofNat (List.length v0)))) = true then
    gd (0 ≤ v5) <|
    gd (v5 < (Int.ofNat (List.length v0))) <|
    gd (0 ≤ v5) <|
    gd (v5 < (Int.ofNat (List.length v1))) <|
    if (not (peq T_api_Record (List.getD v0 (Int.toNat v5) (pzero T_api_Record)) (List.getD v1 (Int.toNat v5) (pzero T_api_Record)))) = true then
      some (false)
    else
      bitloftref28_Same_c1 v0 v1 (IntKind.wrap .i64 (v5 + (1 : Int)))
  else
    some (true)) := (FnI.sem_eq _).trans (by kernel_rfl)
noncomputable def bitloftref28_Same_S (acc : List AV → Bool) : Summ Tryd.prog GT := bitloftref28_Same_I.summ mixed acc false false

/-! bitloft/bitloftlaw36.BoundCounts -/
noncomputable def bitloftlaw36_BoundCounts_I : FnI Tryd.prog GT := { f := 5, cuts := [⟨(15, 3), [1, 5, 10, 12, 22], false, false⟩], tab := [bitloftref28_GreatRecords_S (fun _ => true), bound_Count_S (fun _ => true), bitloftref36_Count_S (fun _ => true), bound_Sizes_S (fun _ => true), bitloftref36_Sizes_S (fun _ => true), bound_Greatest_S (fun _ => true), bitloftref36_Greatest_S (fun _ => true), bound_Least_S (fun _ => true), bitloftref36_Least_S (fun _ => true), bitloftref28_Same_S (fun _ => true)], fm := ⟨true, [.val .bool []]⟩ }
noncomputable def bitloftlaw36_BoundCounts (a0 : D_api_Settings) (a1 : List D_api_Record) : Option (Bool) := bitloftlaw36_BoundCounts_I.call [(.agg T_api_Settings (inj false T_api_Settings a0)), (.sl T_api_Record false a1)] []
noncomputable def bitloftlaw36_BoundCounts_c1 (v1 : List D_api_Record) (v22 : Int) (h8 : List D_api_Record) (h9 : List Int) (h10 : List Int) : Option (Bool) := bitloftlaw36_BoundCounts_I.sem ⟨[.code (cIn (cIn (cSnd (cFst (cSnd (cSnd (cSnd (cSnd (cSnd (cSnd (cSnd (cSnd (cSnd (cSnd (cSnd (cSnd (bodyOf Tryd.prog 5))))))))))))))))), .inLoop (cIn (cIn (cSnd (cFst (cSnd (cSnd (cSnd (cSnd (cSnd (cSnd (cSnd (cSnd (cSnd (cSnd (cSnd (cSnd (bodyOf Tryd.prog 5))))))))))))))))), .inBlock 0, .code (cSnd (cSnd (cSnd (cSnd (cSnd (cSnd (cSnd (cSnd (cSnd (cSnd (cSnd (cSnd (cSnd (bodyOf Tryd.prog 5))))))))))))))], ⟨[(1, (.one (.sl T_api_Record false v1))), (5, (.one (.ref T_api_Record 8 0 (List.length h8) true))), (10, (.one (.ref (.int .i64) 9 0 (List.length h9) true))), (12, (.one (.ref (.int .i64) 10 0 (List.length h10) true))), (22, (.one (.int .i64 v22)))], [(8, some (.row T_api_Record true h8)), (9, some (.row (.int .i64) true h9)), (10, some (.row (.int .i64) true h10))], 11⟩⟩
theorem bitloftlaw36_BoundCounts_eq (a0 : D_api_Settings) (a1 : List D_api_Record) : bitloftlaw36_BoundCounts a0 a1 = (
  (bitloftref28_GreatRecords a1).bind fun (r1 : (Bool)) =>
  if r1 = true then
    some (true)
  else
    gd ((List.length ([] ++ a1)) * 48 ≤ 140737488355328) <|
    (bound_Count a0 a1).bind fun (r2 : (Int × Int)) =>
    (bitloftref36_Count a0 a1).bind fun (r3 : (Int × Int)) =>
    (bound_Sizes a0 a1).bind fun (r4 : (List Int × Int)) =>
    (bitloftref36_Sizes a0 a1).bind fun (r5 : (List Int × Int)) =>
    (bound_Greatest a0 a1).bind fun (r6 : (Int × Int)) =>
    (bitloftref36_Greatest a0 a1).bind fun (r7 : (Int × Int)) =>
    (bound_Least a0 a1).bind fun (r8 : (Int × Int)) =>
    (bitloftref36_Least a0 a1).bind fun (r9 : (Int × Int)) =>
    if (r2.1 != r3.1) = true then
      some (false)
    else
      if (r2.2 != r3.2) = true then
        some (false)
      else
        if ((Int.ofNat (List.length r4.1)) != (Int.ofNat (List.length r5.1))) = true then
          some (false)
        else
          if (r4.2 != r5.2) = true then
            some (false)
          else
            if (r6.1 != r7.1) = true then
              some (false)
            else
              if (r6.2 != r7.2) = true then
                some (false)
              else
                if (r8.1 != r9.1) = true then
                  some (false)
                else
                  if (r8.2 != r9.2) = true then
                    some (false)
                  else
                    bitloftlaw36_BoundCounts_c1 a1 (0 : Int) ([] ++ a1) r4.1 r5.1) := (FnI.call_eq (by kernel_rfl)).trans (by kernel_rfl)
theorem bitloftlaw36_BoundCounts_c1_eq (v1 : List D_api_Record) (v22 : Int) (h8 : List D_api_Record) (h9 : List Int) (h10 : List Int) : bitloftlaw36_BoundCounts_c1 v1 v22 h8 h9 h10 = (
  if (decide (v22 < (Int.ofNat (List.length h9)))) = true then
    gd (0 ≤ v22) <|
    gd (v22 < (Int.ofNat (List.length h9))) <|
    gd (0 ≤ v22) <|
    gd (v22 < (Int.ofNat (List.length h10))) <|
    if ((List.getD h9 (0 + (Int.toNat v22)) (0 : Int)) != (List.getD h10 (0 + (Int.toNat v22)) (0 : Int))) = true then
      some (false)
    else
      bitloftlaw36_BoundCounts_c1 v1 (IntKind.wrap .i64 (v22 + (1 : Int))) h8 h9 h10
  else
    (bitloftref28_Same v1 h8).bind fun (r10 : (Bool)) =>
    some (r10)) := (FnI.sem_eq _).trans (by kernel_rfl)
noncomputable def bitloftlaw36_BoundCounts_S (acc : List AV → Bool) : Summ Tryd.prog GT := bitloftlaw36_BoundCounts_I.summ mixed acc false false

/-! bitloft/member.Write -/
noncomputable def member_Write_I : FnI Tryd.prog GT := { f := 82, cuts := [⟨(6, 3), [5, 13, 14, 15], false, false⟩], tab := [member_Valid_S (fun _ => true)], fm := ⟨true, [.val (.slice (.int .u8)) [.nw], .val (.int .i64) []]⟩ }
noncomputable def member_Write (a0 : List D_api_Record) : Option (List Int × Int) := member_Write_I.call [(.sl T_api_Record false a0)] []
noncomputable def member_Write_c1 (v13 : List D_api_Record) (v14 : Int) (v15 : Int) (h8 : List Int) : Option (List Int × Int) := member_Write_I.sem ⟨[.code (cIn (cIn (cSnd (cFst (cSnd (cSnd (cSnd (bodyOf Tryd.prog 82)))))))), .inLoop (cIn (cIn (cSnd (cFst (cSnd (cSnd (cSnd (bodyOf Tryd.prog 82)))))))), .inBlock 0, .code (cSnd (cSnd (cSnd (cSnd (bodyOf Tryd.prog 82)))))], ⟨[(5, (.one (.ref (.int .u8) 8 0 (List.length h8) true))), (13, (.one (.sl T_api_Record false v13))), (14, (.one (.int .i64 v14))), (15, (.one (.int .i64 v15)))], [(8, some (.row (.int .u8) true h8))], 9⟩⟩
theorem member_Write_eq (a0 : List D_api_Record) : member_Write a0 = (
  (member_Valid a0).bind fun (r1 : (Int)) =>
  if (r1 != (0 : Int)) = true then
    some ([], r1)
  else
    member_Write_c1 a0 (Int.ofNat (List.length a0)) (0 : Int) []) := (FnI.call_eq (by kernel_rfl)).trans (by kernel_rfl)
theorem member_Write_c1_eq (v13 : List D_api_Record) (v14 : Int) (v15 : Int) (h8 : List Int) : member_Write_c1 v13 v14 v15 h8 = (
  if (decide (v15 < v14)) = true then
    gd (0 ≤ v15) <|
    gd (v15 < (Int.ofNat (List.length v13))) <|
    gd ((List.length (h8 ++ [(IntKind.wrap .u8 (Int.ofNat (ByteArray.size (List.getD v13 (Int.toNat v15) (pzero T_api_Record)).1)))])) * 1 ≤ 140737488355328) <|
    gd ((List.length ((h8 ++ [(IntKind.wrap .u8 (Int.ofNat (ByteArray.size (List.getD v13 (Int.toNat v15) (pzero T_api_Record)).1)))]) ++ (ofStr (List.getD v13 (Int.toNat v15) (pzero T_api_Record)).1))) * 1 ≤ 140737488355328) <|
    gd (0 ≤ (8 : Int)) <|
    gd ((List.length (((h8 ++ [(IntKind.wrap .u8 (Int.ofNat (ByteArray.size (List.getD v13 (Int.toNat v15) (pzero T_api_Record)).1)))]) ++ (ofStr (List.getD v13 (Int.toNat v15) (pzero T_api_Record)).1)) ++ [(IntKind.wrap .u8 (Int.fdiv (List.getD v13 (Int.toNat v15) (pzero T_api_Record)).2.1 (256 : Int))), (IntKind.wrap .u8 (List.getD v13 (Int.toNat v15) (pzero T_api_Record)).2.1)])) * 1 ≤ 140737488355328) <|
    gd ((List.length ((((h8 ++ [(IntKind.wrap .u8 (Int.ofNat (ByteArray.size (List.getD v13 (Int.toNat v15) (pzero T_api_Record)).1)))]) ++ (ofStr (List.getD v13 (Int.toNat v15) (pzero T_api_Record)).1)) ++ [(IntKind.wrap .u8 (Int.fdiv (List.getD v13 (Int.toNat v15) (pzero T_api_Record)).2.1 (256 : Int))), (IntKind.wrap .u8 (List.getD v13 (Int.toNat v15) (pzero T_api_Record)).2.1)]) ++ (List.take 20 (List.drop 0 (List.getD v13 (Int.toNat v15) (pzero T_api_Record)).2.2.1)))) * 1 ≤ 140737488355328) <|
    member_Write_c1 v13 v14 (IntKind.wrap .i64 (v15 + (1 : Int))) ((((h8 ++ [(IntKind.wrap .u8 (Int.ofNat (ByteArray.size (List.getD v13 (Int.toNat v15) (pzero T_api_Record)).1)))]) ++ (ofStr (List.getD v13 (Int.toNat v15) (pzero T_api_Record)).1)) ++ [(IntKind.wrap .u8 (Int.fdiv (List.getD v13 (Int.toNat v15) (pzero T_api_Record)).2.1 (256 : Int))), (IntKind.wrap .u8 (List.getD v13 (Int.toNat v15) (pzero T_api_Record)).2.1)]) ++ (List.take 20 (List.drop 0 (List.getD v13 (Int.toNat v15) (pzero T_api_Record)).2.2.1)))
  else
    some (h8, (0 : Int))) := (FnI.sem_eq _).trans (by kernel_rfl)
noncomputable def member_Write_S (acc : List AV → Bool) : Summ Tryd.prog GT := member_Write_I.summ mixed acc false false

/-! bitloft/pack.Head -/
noncomputable def pack_Head_I : FnI Tryd.prog GT := { f := 24, cuts := [], tab := [pack_Check_S (fun _ => true), member_Write_S (fun _ => true), sha_Sum_S (fun _ => true)], fm := ⟨true, [.val (.slice (.int .u8)) [.nw], .val (.int .i64) []]⟩ }
noncomputable def pack_Head (a0 : D_api_Settings) (a1 : List D_api_Record) : Option (List Int × Int) := pack_Head_I.call [(.agg T_api_Settings (inj false T_api_Settings a0)), (.sl T_api_Record false a1)] []
theorem pack_Head_eq (a0 : D_api_Settings) (a1 : List D_api_Record) : pack_Head a0 a1 = (
  (pack_Check a0).bind fun (r1 : (Int)) =>
  if (r1 != (0 : Int)) = true then
    some ([], r1)
  else
    (member_Write a1).bind fun (r2 : (List Int × Int)) =>
    if (r2.2 != (0 : Int)) = true then
      some ([], r2.2)
    else
      gd (0 ≤ (8 : Int)) <|
      gd ((List.length ([(66 : Int), (76 : Int), (70 : Int), (1 : Int), (IntKind.wrap .u8 a0.1), (IntKind.wrap .u8 (Int.fdiv a0.2.1 (256 : Int))), (IntKind.wrap .u8 a0.2.1), (IntKind.wrap .u8 (Int.ofNat (List.length a1)))] ++ r2.1)) * 1 ≤ 140737488355328) <|
      (sha_Sum ([(66 : Int), (76 : Int), (70 : Int), (1 : Int), (IntKind.wrap .u8 a0.1), (IntKind.wrap .u8 (Int.fdiv a0.2.1 (256 : Int))), (IntKind.wrap .u8 a0.2.1), (IntKind.wrap .u8 (Int.ofNat (List.length a1)))] ++ r2.1)).bind fun (r3 : ((List Int) × Int)) =>
      gd ((List.length (([(66 : Int), (76 : Int), (70 : Int), (1 : Int), (IntKind.wrap .u8 a0.1), (IntKind.wrap .u8 (Int.fdiv a0.2.1 (256 : Int))), (IntKind.wrap .u8 a0.2.1), (IntKind.wrap .u8 (Int.ofNat (List.length a1)))] ++ r2.1) ++ (List.take 20 (List.drop 0 r3.1)))) * 1 ≤ 140737488355328) <|
      some ((([(66 : Int), (76 : Int), (70 : Int), (1 : Int), (IntKind.wrap .u8 a0.1), (IntKind.wrap .u8 (Int.fdiv a0.2.1 (256 : Int))), (IntKind.wrap .u8 a0.2.1), (IntKind.wrap .u8 (Int.ofNat (List.length a1)))] ++ r2.1) ++ (List.take 20 (List.drop 0 r3.1))), (0 : Int))) := (FnI.call_eq (by kernel_rfl)).trans (by kernel_rfl)
noncomputable def pack_Head_S (acc : List AV → Bool) : Summ Tryd.prog GT := pack_Head_I.summ mixed acc false false

/-! bitloft/bitloftref30.Front -/
noncomputable def bitloftref30_Front_I : FnI Tryd.prog GT := { f := 127, cuts := [], tab := [], fm := ⟨true, [.val (.slice (.int .u8)) [.nw]]⟩ }
noncomputable def bitloftref30_Front (a0 : D_api_Settings) (a1 : Int) : Option (List Int) := bitloftref30_Front_I.call [(.agg T_api_Settings (inj false T_api_Settings a0)), (.int .i64 a1)] []
theorem bitloftref30_Front_eq (a0 : D_api_Settings) (a1 : Int) : bitloftref30_Front a0 a1 = (
  gd (0 ≤ (8 : Int)) <|
  some ([(66 : Int), (76 : Int), (70 : Int), (1 : Int), (IntKind.wrap .u8 a0.1), (IntKind.wrap .u8 (Int.fdiv a0.2.1 (256 : Int))), (IntKind.wrap .u8 a0.2.1), (IntKind.wrap .u8 a1)])) := (FnI.call_eq (by kernel_rfl)).trans (by kernel_rfl)
noncomputable def bitloftref30_Front_S (acc : List AV → Bool) : Summ Tryd.prog GT := bitloftref30_Front_I.summ mixed acc false false

/-! bitloft/bitloftref28.Bytes -/
noncomputable def bitloftref28_Bytes_I : FnI Tryd.prog GT := { f := 128, cuts := [⟨(3, 3), [0, 3, 4], false, false⟩], tab := [], fm := ⟨true, [.val (.slice (.int .u8)) [.nw]]⟩ }
noncomputable def bitloftref28_Bytes (a0 : List D_api_Record) : Option (List Int) := bitloftref28_Bytes_I.call [(.sl T_api_Record false a0)] []
noncomputable def bitloftref28_Bytes_c1 (v0 : List D_api_Record) (v4 : Int) (h8 : List Int) : Option (List Int) := bitloftref28_Bytes_I.sem ⟨[.code (cIn (cIn (cSnd (cFst (cSnd (cSnd (bodyOf Tryd.prog 128))))))), .inLoop (cIn (cIn (cSnd (cFst (cSnd (cSnd (bodyOf Tryd.prog 128))))))), .inBlock 0, .code (cSnd (cSnd (cSnd (bodyOf Tryd.prog 128))))], ⟨[(0, (.one (.sl T_api_Record false v0))), (3, (.one (.ref (.int .u8) 8 0 (List.length h8) true))), (4, (.one (.int .i64 v4)))], [(8, some (.row (.int .u8) true h8))], 9⟩⟩
theorem bitloftref28_Bytes_eq (a0 : List D_api_Record) : bitloftref28_Bytes a0 = (
  bitloftref28_Bytes_c1 a0 (0 : Int) []) := (FnI.call_eq (by kernel_rfl)).trans (by kernel_rfl)
theorem bitloftref28_Bytes_c1_eq (v0 : List D_api_Record) (v4 : Int) (h8 : List Int) : bitloftref28_Bytes_c1 v0 v4 h8 = (
  if (decide (v4 < (Int.ofNat (List.length v0)))) = true then
    gd (0 ≤ v4) <|
    gd (v4 < (Int.ofNat (List.length v0))) <|
    gd ((List.length (h8 ++ [(IntKind.wrap .u8 (Int.ofNat (ByteArray.size (List.getD v0 (Int.toNat v4) (pzero T_api_Record)).1)))])) * 1 ≤ 140737488355328) <|
    gd ((List.length ((h8 ++ [(IntKind.wrap .u8 (Int.ofNat (ByteArray.size (List.getD v0 (Int.toNat v4) (pzero T_api_Record)).1)))]) ++ (ofStr (List.getD v0 (Int.toNat v4) (pzero T_api_Record)).1))) * 1 ≤ 140737488355328) <|
    gd (0 ≤ (8 : Int)) <|
    gd ((List.length (((h8 ++ [(IntKind.wrap .u8 (Int.ofNat (ByteArray.size (List.getD v0 (Int.toNat v4) (pzero T_api_Record)).1)))]) ++ (ofStr (List.getD v0 (Int.toNat v4) (pzero T_api_Record)).1)) ++ [(IntKind.wrap .u8 (Int.fdiv (List.getD v0 (Int.toNat v4) (pzero T_api_Record)).2.1 (256 : Int))), (IntKind.wrap .u8 (List.getD v0 (Int.toNat v4) (pzero T_api_Record)).2.1)])) * 1 ≤ 140737488355328) <|
    gd ((List.length ((((h8 ++ [(IntKind.wrap .u8 (Int.ofNat (ByteArray.size (List.getD v0 (Int.toNat v4) (pzero T_api_Record)).1)))]) ++ (ofStr (List.getD v0 (Int.toNat v4) (pzero T_api_Record)).1)) ++ [(IntKind.wrap .u8 (Int.fdiv (List.getD v0 (Int.toNat v4) (pzero T_api_Record)).2.1 (256 : Int))), (IntKind.wrap .u8 (List.getD v0 (Int.toNat v4) (pzero T_api_Record)).2.1)]) ++ (List.take 20 (List.drop 0 (List.getD v0 (Int.toNat v4) (pzero T_api_Record)).2.2.1)))) * 1 ≤ 140737488355328) <|
    bitloftref28_Bytes_c1 v0 (IntKind.wrap .i64 (v4 + (1 : Int))) ((((h8 ++ [(IntKind.wrap .u8 (Int.ofNat (ByteArray.size (List.getD v0 (Int.toNat v4) (pzero T_api_Record)).1)))]) ++ (ofStr (List.getD v0 (Int.toNat v4) (pzero T_api_Record)).1)) ++ [(IntKind.wrap .u8 (Int.fdiv (List.getD v0 (Int.toNat v4) (pzero T_api_Record)).2.1 (256 : Int))), (IntKind.wrap .u8 (List.getD v0 (Int.toNat v4) (pzero T_api_Record)).2.1)]) ++ (List.take 20 (List.drop 0 (List.getD v0 (Int.toNat v4) (pzero T_api_Record)).2.2.1)))
  else
    some (h8)) := (FnI.sem_eq _).trans (by kernel_rfl)
noncomputable def bitloftref28_Bytes_S (acc : List AV → Bool) : Summ Tryd.prog GT := bitloftref28_Bytes_I.summ mixed acc false false

/-! bitloft/bitloftref30.Bytes -/
noncomputable def bitloftref30_Bytes_I : FnI Tryd.prog GT := { f := 84, cuts := [], tab := [bitloftref30_Front_S (fun _ => true), bitloftref28_Bytes_S (fun _ => true), bitloftref01_Of_S (fun _ => true)], fm := ⟨true, [.val (.slice (.int .u8)) [.nw]]⟩ }
noncomputable def bitloftref30_Bytes (a0 : D_api_Settings) (a1 : List D_api_Record) : Option (List Int) := bitloftref30_Bytes_I.call [(.agg T_api_Settings (inj false T_api_Settings a0)), (.sl T_api_Record false a1)] []
theorem bitloftref30_Bytes_eq (a0 : D_api_Settings) (a1 : List D_api_Record) : bitloftref30_Bytes a0 a1 = (
  (bitloftref30_Front a0 (Int.ofNat (List.length a1))).bind fun (r1 : (List Int)) =>
  (bitloftref28_Bytes a1).bind fun (r2 : (List Int)) =>
  gd ((List.length (r1 ++ r2)) * 1 ≤ 140737488355328) <|
  (bitloftref01_Of (r1 ++ r2)).bind fun (r3 : ((List Int))) =>
  gd ((List.length ((r1 ++ r2) ++ (List.take 20 (List.drop 0 r3)))) * 1 ≤ 140737488355328) <|
  some ((r1 ++ r2) ++ (List.take 20 (List.drop 0 r3)))) := (FnI.call_eq (by kernel_rfl)).trans (by kernel_rfl)
noncomputable def bitloftref30_Bytes_S (acc : List AV → Bool) : Summ Tryd.prog GT := bitloftref30_Bytes_I.summ mixed acc false false

/-! bitloft/bitloftref30.Head -/
noncomputable def bitloftref30_Head_I : FnI Tryd.prog GT := { f := 25, cuts := [], tab := [bitloftref30_Check_S (fun _ => true), bitloftref28_Valid_S (fun _ => true), bitloftref30_Bytes_S (fun _ => true)], fm := ⟨true, [.val (.slice (.int .u8)) [.nw], .val (.int .i64) []]⟩ }
noncomputable def bitloftref30_Head (a0 : D_api_Settings) (a1 : List D_api_Record) : Option (List Int × Int) := bitloftref30_Head_I.call [(.agg T_api_Settings (inj false T_api_Settings a0)), (.sl T_api_Record false a1)] []
theorem bitloftref30_Head_eq (a0 : D_api_Settings) (a1 : List D_api_Record) : bitloftref30_Head a0 a1 = (
  (bitloftref30_Check a0).bind fun (r1 : (Int)) =>
  if (r1 != (0 : Int)) = true then
    (bitloftref30_Check a0).bind fun (r2 : (Int)) =>
    some ([], r2)
  else
    (bitloftref28_Valid a1).bind fun (r3 : (Int)) =>
    if (r3 != (0 : Int)) = true then
      (bitloftref28_Valid a1).bind fun (r4 : (Int)) =>
      some ([], r4)
    else
      (bitloftref30_Bytes a0 a1).bind fun (r5 : (List Int)) =>
      some (r5, (0 : Int))) := (FnI.call_eq (by kernel_rfl)).trans (by kernel_rfl)
noncomputable def bitloftref30_Head_S (acc : List AV → Bool) : Summ Tryd.prog GT := bitloftref30_Head_I.summ mixed acc false false

/-! bitloft/pack.Longest -/
noncomputable def pack_Longest_I : FnI Tryd.prog GT := { f := 26, cuts := [⟨(6, 3), [2, 8, 22, 23, 24], false, false⟩], tab := [pack_Head_S (fun _ => true)], fm := ⟨true, [.val (.int .i64) [], .val (.int .i64) []]⟩ }
noncomputable def pack_Longest (a0 : D_api_Settings) (a1 : List D_api_Record) : Option (Int × Int) := pack_Longest_I.call [(.agg T_api_Settings (inj false T_api_Settings a0)), (.sl T_api_Record false a1)] []
noncomputable def pack_Longest_c1 (v8 : Int) (v22 : List D_api_Record) (v23 : Int) (v24 : Int) (b8 : D_api_Settings) : Option (Int × Int) := pack_Longest_I.sem ⟨[.code (cIn (cIn (cSnd (cFst (cSnd (cSnd (cSnd (cSnd (bodyOf Tryd.prog 26))))))))), .inLoop (cIn (cIn (cSnd (cFst (cSnd (cSnd (cSnd (cSnd (bodyOf Tryd.prog 26))))))))), .inBlock 0, .code (cSnd (cSnd (cSnd (cSnd (cSnd (bodyOf Tryd.prog 26))))))], ⟨[(2, (.one (.ptr T_api_Settings 8 []))), (8, (.one (.int .i64 v8))), (22, (.one (.sl T_api_Record false v22))), (23, (.one (.int .i64 v23))), (24, (.one (.int .i64 v24)))], [(8, some (.box T_api_Settings (inj false T_api_Settings b8)))], 9⟩⟩
theorem pack_Longest_eq (a0 : D_api_Settings) (a1 : List D_api_Record) : pack_Longest a0 a1 = (
  (pack_Head a0 a1).bind fun (r1 : (List Int × Int)) =>
  if (r1.2 != (0 : Int)) = true then
    some ((0 : Int), r1.2)
  else
    pack_Longest_c1 (Int.ofNat (List.length r1.1)) a1 (Int.ofNat (List.length a1)) (0 : Int) a0) := (FnI.call_eq (by kernel_rfl)).trans (by kernel_rfl)
theorem pack_Longest_c1_eq (v8 : Int) (v22 : List D_api_Record) (v23 : Int) (v24 : Int) (b8 : D_api_Settings) : pack_Longest_c1 v8 v22 v23 v24 b8 = (
  if (decide (v24 < v23)) = true then
    gd (0 ≤ v24) <|
    gd (v24 < (Int.ofNat (List.length v22))) <|
    gd (b8.2.1 ≠ 0) <|
    pack_Longest_c1 (IntKind.wrap .i64 (v8 + (IntKind.wrap .i64 ((List.getD v22 (Int.toNat v24) (pzero T_api_Record)).2.1 + (IntKind.wrap .i64 ((41 : Int) * (IntKind.wrap .i64 (Int.tdiv (IntKind.wrap .i64 ((IntKind.wrap .i64 ((List.getD v22 (Int.toNat v24) (pzero T_api_Record)).2.1 + b8.2.1)) - (1 : Int))) b8.2.1)))))))) v22 v23 (IntKind.wrap .i64 (v24 + (1 : Int))) b8
  else
    some (v8, (0 : Int))) := (FnI.sem_eq _).trans (by kernel_rfl)
noncomputable def pack_Longest_S (acc : List AV → Bool) : Summ Tryd.prog GT := pack_Longest_I.summ mixed acc false false

/-! bitloft/bitloftref29.Sizes -/
noncomputable def bitloftref29_Sizes_I : FnI Tryd.prog GT := { f := 129, cuts := [⟨(2, 3), [0, 3], false, false⟩, ⟨(10, 3), [0, 4, 5], false, false⟩], tab := [], fm := ⟨true, [.val (.int .i64) []]⟩ }
noncomputable def bitloftref29_Sizes (a0 : List Int) : Option (Int) := bitloftref29_Sizes_I.call [(.sl (.int .i64) false a0)] []
noncomputable def bitloftref29_Sizes_c1 (v0 : List Int) (v3 : Int) : Option (Int) := bitloftref29_Sizes_I.sem ⟨[.code (cIn (cIn (cSnd (cFst (cSnd (bodyOf Tryd.prog 129)))))), .inLoop (cIn (cIn (cSnd (cFst (cSnd (bodyOf Tryd.prog 129)))))), .inBlock 0, .code (cSnd (cSnd (bodyOf Tryd.prog 129)))], ⟨[(0, (.one (.sl (.int .i64) false v0))), (3, (.one (.int .i64 v3)))], [], 8⟩⟩
noncomputable def bitloftref29_Sizes_c2 (v0 : List Int) (v4 : Int) (v5 : Int) : Option (Int) := bitloftref29_Sizes_I.sem ⟨[.code (cIn (cIn (cSnd (cFst (cSnd (cSnd (cSnd (cSnd (bodyOf Tryd.prog 129))))))))), .inLoop (cIn (cIn (cSnd (cFst (cSnd (cSnd (cSnd (cSnd (bodyOf Tryd.prog 129))))))))), .inBlock 2, .code (cSnd (cSnd (cSnd (cSnd (cSnd (bodyOf Tryd.prog 129))))))], ⟨[(0, (.one (.sl (.int .i64) false v0))), (4, (.one (.int .i64 v4))), (5, (.one (.int .i64 v5)))], [], 8⟩⟩
theorem bitloftref29_Sizes_eq (a0 : List Int) : bitloftref29_Sizes a0 = (
  bitloftref29_Sizes_c1 a0 (0 : Int)) := (FnI.call_eq (by kernel_rfl)).trans (by kernel_rfl)
theorem bitloftref29_Sizes_c1_eq (v0 : List Int) (v3 : Int) : bitloftref29_Sizes_c1 v0 v3 = (
  if (decide (v3 < (Int.ofNat (List.length v0)))) = true then
    gd (0 ≤ v3) <|
    gd (v3 < (Int.ofNat (List.length v0))) <|
    if (decide ((List.getD v0 (Int.toNat v3) (0 : Int)) < (0 : Int))) = true then
      some (8 : Int)
    else
      bitloftref29_Sizes_c1 v0 (IntKind.wrap .i64 (v3 + (1 : Int)))
  else
    if (decide ((Int.ofNat (List.length v0)) > (16 : Int))) = true then
      some (4 : Int)
    else
      bitloftref29_Sizes_c2 v0 (8192 : Int) (0 : Int)) := (FnI.sem_eq _).trans (by kernel_rfl)
theorem bitloftref29_Sizes_c2_eq (v0 : List Int) (v4 : Int) (v5 : Int) : bitloftref29_Sizes_c2 v0 v4 v5 = (
  if (decide (v5 < (Int.ofNat (List.length v0)))) = true then
    gd (0 ≤ v5) <|
    gd (v5 < (Int.ofNat (List.length v0))) <|
    if (decide ((List.getD v0 (Int.toNat v5) (0 : Int)) > v4)) = true then
      some (4 : Int)
    else
      gd (0 ≤ v5) <|
      gd (v5 < (Int.ofNat (List.length v0))) <|
      bitloftref29_Sizes_c2 v0 (IntKind.wrap .i64 (v4 - (List.getD v0 (Int.toNat v5) (0 : Int)))) (IntKind.wrap .i64 (v5 + (1 : Int)))
  else
    some (0 : Int)) := (FnI.sem_eq _).trans (by kernel_rfl)
noncomputable def bitloftref29_Sizes_S (acc : List AV → Bool) : Summ Tryd.prog GT := bitloftref29_Sizes_I.summ mixed acc false false

/-! bitloft/bitloftref29.pieces -/
noncomputable def bitloftref29_pieces_I : FnI Tryd.prog GT := { f := 130, cuts := [⟨(3, 3), [0, 1, 5, 6], false, false⟩, ⟨(6, 7), [0, 1, 5, 6, 7], false, false⟩], tab := [], fm := ⟨true, [.val (.slice T_api_Piece) [.nw]]⟩ }
noncomputable def bitloftref29_pieces (a0 : List Int) (a1 : Int) : Option (List D_api_Piece) := bitloftref29_pieces_I.call [(.sl (.int .i64) false a0), (.int .i64 a1)] []
noncomputable def bitloftref29_pieces_c1 (v0 : List Int) (v1 : Int) (v6 : Int) (h8 : List D_api_Piece) : Option (List D_api_Piece) := bitloftref29_pieces_I.sem ⟨[.code (cIn (cIn (cSnd (cFst (cSnd (cSnd (bodyOf Tryd.prog 130))))))), .inLoop (cIn (cIn (cSnd (cFst (cSnd (cSnd (bodyOf Tryd.prog 130))))))), .inBlock 0, .code (cSnd (cSnd (cSnd (bodyOf Tryd.prog 130))))], ⟨[(0, (.one (.sl (.int .i64) false v0))), (1, (.one (.int .i64 v1))), (5, (.one (.ref T_api_Piece 8 0 (List.length h8) true))), (6, (.one (.int .i64 v6)))], [(8, some (.row T_api_Piece true h8))], 9⟩⟩
noncomputable def bitloftref29_pieces_c2 (v0 : List Int) (v1 : Int) (v6 : Int) (v7 : Int) (h8 : List D_api_Piece) : Option (List D_api_Piece) := bitloftref29_pieces_I.sem ⟨[.code (cIn (cIn (cSnd (cIn (cFst (cSnd (cIn (cIn (cSnd (cFst (cSnd (cSnd (bodyOf Tryd.prog 130))))))))))))), .inLoop (cIn (cIn (cSnd (cIn (cFst (cSnd (cIn (cIn (cSnd (cFst (cSnd (cSnd (bodyOf Tryd.prog 130))))))))))))), .inBlock 2, .inBlock 1, .code (cSnd (cSnd (cIn (cIn (cSnd (cFst (cSnd (cSnd (bodyOf Tryd.prog 130))))))))), .inLoop (cIn (cIn (cSnd (cFst (cSnd (cSnd (bodyOf Tryd.prog 130))))))), .inBlock 0, .code (cSnd (cSnd (cSnd (bodyOf Tryd.prog 130))))], ⟨[(0, (.one (.sl (.int .i64) false v0))), (1, (.one (.int .i64 v1))), (5, (.one (.ref T_api_Piece 8 0 (List.length h8) true))), (6, (.one (.int .i64 v6))), (7, (.one (.int .i64 v7)))], [(8, some (.row T_api_Piece true h8))], 9⟩⟩
theorem bitloftref29_pieces_eq (a0 : List Int) (a1 : Int) : bitloftref29_pieces a0 a1 = (
  bitloftref29_pieces_c1 a0 a1 (0 : Int) []) := (FnI.call_eq (by kernel_rfl)).trans (by kernel_rfl)
theorem bitloftref29_pieces_c1_eq (v0 : List Int) (v1 : Int) (v6 : Int) (h8 : List D_api_Piece) : bitloftref29_pieces_c1 v0 v1 v6 h8 = (
  if (decide (v6 < (Int.ofNat (List.length v0)))) = true then
    bitloftref29_pieces_c2 v0 v1 v6 (0 : Int) h8
  else
    some (h8)) := (FnI.sem_eq _).trans (by kernel_rfl)
theorem bitloftref29_pieces_c2_eq (v0 : List Int) (v1 : Int) (v6 : Int) (v7 : Int) (h8 : List D_api_Piece) : bitloftref29_pieces_c2 v0 v1 v6 v7 h8 = (
  gd (0 ≤ v6) <|
  gd (v6 < (Int.ofNat (List.length v0))) <|
  if (decide (v7 < (List.getD v0 (Int.toNat v6) (0 : Int)))) = true then
    gd (0 ≤ v6) <|
    gd (v6 < (Int.ofNat (List.length v0))) <|
    gd ((List.length (h8 ++ [(v6, (v7, ((if (IntKind.wrap .i64 ((List.getD v0 (Int.toNat v6) (0 : Int)) - v7)) < v1 then (IntKind.wrap .i64 ((List.getD v0 (Int.toNat v6) (0 : Int)) - v7)) else v1), ())))])) * 24 ≤ 140737488355328) <|
    bitloftref29_pieces_c2 v0 v1 v6 (IntKind.wrap .i64 (v7 + v1)) (h8 ++ [(v6, (v7, ((if (IntKind.wrap .i64 ((List.getD v0 (Int.toNat v6) (0 : Int)) - v7)) < v1 then (IntKind.wrap .i64 ((List.getD v0 (Int.toNat v6) (0 : Int)) - v7)) else v1), ())))])
  else
    bitloftref29_pieces_c1 v0 v1 (IntKind.wrap .i64 (v6 + (1 : Int))) h8) := (FnI.sem_eq _).trans (by kernel_rfl)
noncomputable def bitloftref29_pieces_S (acc : List AV → Bool) : Summ Tryd.prog GT := bitloftref29_pieces_I.summ mixed acc false false

/-! bitloft/bitloftref29.Pieces -/
noncomputable def bitloftref29_Pieces_I : FnI Tryd.prog GT := { f := 85, cuts := [], tab := [bitloftref29_Sizes_S (fun _ => true), bitloftref29_Block_S (fun _ => true), bitloftref29_pieces_S (fun _ => true)], fm := ⟨true, [.val (.slice T_api_Piece) [.nw], .val (.int .i64) []]⟩ }
noncomputable def bitloftref29_Pieces (a0 : List Int) (a1 : Int) : Option (List D_api_Piece × Int) := bitloftref29_Pieces_I.call [(.sl (.int .i64) false a0), (.int .i64 a1)] []
theorem bitloftref29_Pieces_eq (a0 : List Int) (a1 : Int) : bitloftref29_Pieces a0 a1 = (
  (bitloftref29_Sizes a0).bind fun (r1 : (Int)) =>
  if (r1 != (0 : Int)) = true then
    (bitloftref29_Sizes a0).bind fun (r2 : (Int)) =>
    some ([], r2)
  else
    (bitloftref29_Block a1).bind fun (r3 : (Bool)) =>
    if (not r3) = true then
      some ([], (2 : Int))
    else
      (bitloftref29_pieces a0 a1).bind fun (r4 : (List D_api_Piece)) =>
      some (r4, (0 : Int))) := (FnI.call_eq (by kernel_rfl)).trans (by kernel_rfl)
noncomputable def bitloftref29_Pieces_S (acc : List AV → Bool) : Summ Tryd.prog GT := bitloftref29_Pieces_I.summ mixed acc false false

/-! bitloft/bitloftref30.Longest -/
noncomputable def bitloftref30_Longest_I : FnI Tryd.prog GT := { f := 27, cuts := [⟨(8, 3), [1, 2, 6, 7, 8], false, false⟩, ⟨(14, 3), [6, 9, 11], false, false⟩], tab := [bitloftref30_Check_S (fun _ => true), bitloftref28_Valid_S (fun _ => true), bitloftref29_Pieces_S (fun _ => true)], fm := ⟨true, [.val (.int .i64) [], .val (.int .i64) []]⟩ }
noncomputable def bitloftref30_Longest (a0 : D_api_Settings) (a1 : List D_api_Record) : Option (Int × Int) := bitloftref30_Longest_I.call [(.agg T_api_Settings (inj false T_api_Settings a0)), (.sl T_api_Record false a1)] []
noncomputable def bitloftref30_Longest_c1 (v1 : List D_api_Record) (v6 : Int) (v8 : Int) (b8 : D_api_Settings) (h9 : List Int) : Option (Int × Int) := bitloftref30_Longest_I.sem ⟨[.code (cIn (cIn (cSnd (cFst (cSnd (cSnd (cSnd (cSnd (cSnd (bodyOf Tryd.prog 27)))))))))), .inLoop (cIn (cIn (cSnd (cFst (cSnd (cSnd (cSnd (cSnd (cSnd (bodyOf Tryd.prog 27)))))))))), .inBlock 0, .code (cSnd (cSnd (cSnd (cSnd (cSnd (cSnd (bodyOf Tryd.prog 27)))))))], ⟨[(1, (.one (.sl T_api_Record false v1))), (2, (.one (.ptr T_api_Settings 8 []))), (6, (.one (.int .i64 v6))), (7, (.one (.ref (.int .i64) 9 0 (List.length h9) true))), (8, (.one (.int .i64 v8)))], [(8, some (.box T_api_Settings (inj false T_api_Settings b8))), (9, some (.row (.int .i64) true h9))], 10⟩⟩
noncomputable def bitloftref30_Longest_c2 (v6 : Int) (v11 : Int) (h8 : List D_api_Piece) : Option (Int × Int) := bitloftref30_Longest_I.sem ⟨[.code (cIn (cIn (cSnd (cFst (cSnd (cSnd (cSnd (cSnd (cSnd (cSnd (cSnd (bodyOf Tryd.prog 27)))))))))))), .inLoop (cIn (cIn (cSnd (cFst (cSnd (cSnd (cSnd (cSnd (cSnd (cSnd (cSnd (bodyOf Tryd.prog 27)))))))))))), .inBlock 2, .code (cSnd (cSnd (cSnd (cSnd (cSnd (cSnd (cSnd (cSnd (bodyOf Tryd.prog 27)))))))))], ⟨[(6, (.one (.int .i64 v6))), (9, (.one (.ref T_api_Piece 8 0 (List.length h8) true))), (11, (.one (.int .i64 v11)))], [(8, some (.row T_api_Piece true h8))], 9⟩⟩
theorem bitloftref30_Longest_eq (a0 : D_api_Settings) (a1 : List D_api_Record) : bitloftref30_Longest a0 a1 = (
  (bitloftref30_Check a0).bind fun (r1 : (Int)) =>
  if (r1 != (0 : Int)) = true then
    (bitloftref30_Check a0).bind fun (r2 : (Int)) =>
    some ((0 : Int), r2)
  else
    (bitloftref28_Valid a1).bind fun (r3 : (Int)) =>
    if (r3 != (0 : Int)) = true then
      (bitloftref28_Valid a1).bind fun (r4 : (Int)) =>
      some ((0 : Int), r4)
    else
      bitloftref30_Longest_c1 a1 (28 : Int) (0 : Int) a0 []) := (FnI.call_eq (by kernel_rfl)).trans (by kernel_rfl)
theorem bitloftref30_Longest_c1_eq (v1 : List D_api_Record) (v6 : Int) (v8 : Int) (b8 : D_api_Settings) (h9 : List Int) : bitloftref30_Longest_c1 v1 v6 v8 b8 h9 = (
  if (decide (v8 < (Int.ofNat (List.length v1)))) = true then
    gd (0 ≤ v8) <|
    gd (v8 < (Int.ofNat (List.length v1))) <|
    gd (0 ≤ v8) <|
    gd (v8 < (Int.ofNat (List.length v1))) <|
    gd ((List.length (h9 ++ [(List.getD v1 (Int.toNat v8) (pzero T_api_Record)).2.1])) * 8 ≤ 140737488355328) <|
    bitloftref30_Longest_c1 v1 (IntKind.wrap .i64 (v6 + (IntKind.wrap .i64 ((23 : Int) + (Int.ofNat (ByteArray.size (List.getD v1 (Int.toNat v8) (pzero T_api_Record)).1)))))) (IntKind.wrap .i64 (v8 + (1 : Int))) b8 (h9 ++ [(List.getD v1 (Int.toNat v8) (pzero T_api_Record)).2.1])
  else
    (bitloftref29_Pieces h9 b8.2.1).bind fun (r5 : (List D_api_Piece × Int)) =>
    bitloftref30_Longest_c2 v6 (0 : Int) r5.1) := (FnI.sem_eq _).trans (by kernel_rfl)
theorem bitloftref30_Longest_c2_eq (v6 : Int) (v11 : Int) (h8 : List D_api_Piece) : bitloftref30_Longest_c2 v6 v11 h8 = (
  if (decide (v11 < (Int.ofNat (List.length h8)))) = true then
    gd (0 ≤ v11) <|
    gd (v11 < (Int.ofNat (List.length h8))) <|
    bitloftref30_Longest_c2 (IntKind.wrap .i64 (v6 + (IntKind.wrap .i64 ((41 : Int) + (List.getD h8 (0 + (Int.toNat v11)) (pzero T_api_Piece)).2.2.1)))) (IntKind.wrap .i64 (v11 + (1 : Int))) h8
  else
    some (v6, (0 : Int))) := (FnI.sem_eq _).trans (by kernel_rfl)
noncomputable def bitloftref30_Longest_S (acc : List AV → Bool) : Summ Tryd.prog GT := bitloftref30_Longest_I.summ mixed acc false false

/-! bitloft/bitloftlaw30.PackHeads -/
noncomputable def bitloftlaw30_PackHeads_I : FnI Tryd.prog GT := { f := 4, cuts := [], tab := [bitloftref28_GreatRecords_S (fun _ => true), pack_Head_S (fun _ => true), bitloftref30_Head_S (fun _ => true), pack_Longest_S (fun _ => true), bitloftref30_Longest_S (fun _ => true), pack_Check_S (fun _ => true), bitloftref30_Check_S (fun _ => true)], fm := ⟨true, [.val .bool []]⟩ }
noncomputable def bitloftlaw30_PackHeads (a0 : D_api_Settings) (a1 : List D_api_Record) : Option (Bool) := bitloftlaw30_PackHeads_I.call [(.agg T_api_Settings (inj false T_api_Settings a0)), (.sl T_api_Record false a1)] []
theorem bitloftlaw30_PackHeads_eq (a0 : D_api_Settings) (a1 : List D_api_Record) : bitloftlaw30_PackHeads a0 a1 = (
  (bitloftref28_GreatRecords a1).bind fun (r1 : (Bool)) =>
  if r1 = true then
    some (true)
  else
    (pack_Head a0 a1).bind fun (r2 : (List Int × Int)) =>
    (bitloftref30_Head a0 a1).bind fun (r3 : (List Int × Int)) =>
    (pack_Longest a0 a1).bind fun (r4 : (Int × Int)) =>
    (bitloftref30_Longest a0 a1).bind fun (r5 : (Int × Int)) =>
    (pack_Check a0).bind fun (r6 : (Int)) =>
    (bitloftref30_Check a0).bind fun (r7 : (Int)) =>
    if (r6 == r7) = true then
      if ((ByteArray.toList (toStr r2.1)) == (ByteArray.toList (toStr r3.1))) = true then
        if (r2.2 == r3.2) = true then
          if (r4.1 == r5.1) = true then
            some (r4.2 == r5.2)
          else
            some (false)
        else
          some (false)
      else
        some (false)
    else
      some (false)) := (FnI.call_eq (by kernel_rfl)).trans (by kernel_rfl)
noncomputable def bitloftlaw30_PackHeads_S (acc : List AV → Bool) : Summ Tryd.prog GT := bitloftlaw30_PackHeads_I.summ mixed acc false false

/-! bitloft/bound.named -/
noncomputable def bound_named_I : FnI Tryd.prog GT := { f := 103, cuts := [], tab := [sha_Sum_S (fun _ => true)], fm := ⟨true, [.val (.slice T_api_Record) [.nw], .val (.int .i64) []]⟩ }
noncomputable def bound_named (a0 : ByteArray) (a1 : Int) : Option (List D_api_Record × Int) := bound_named_I.call [(.str a0), (.int .i64 a1)] []
theorem bound_named_eq (a0 : ByteArray) (a1 : Int) : bound_named a0 a1 = (
  if (decide (a1 > (0 : Int))) = true then
    some ([(a0, (a1, ((List.replicate 20 (0 : Int)), ())))], (0 : Int))
  else
    (sha_Sum []).bind fun (r1 : ((List Int) × Int)) =>
    some ([(a0, (a1, (r1.1, ())))], r1.2)) := (FnI.call_eq (by kernel_rfl)).trans (by kernel_rfl)
noncomputable def bound_named_S (acc : List AV → Bool) : Summ Tryd.prog GT := bound_named_I.summ mixed acc false false

/-! bitloft/bound.Room -/
noncomputable def bound_Room_I : FnI Tryd.prog GT := { f := 51, cuts := [⟨(5, 3), [1, 2, 3, 9, 10], false, false⟩], tab := [pack_Check_S (fun _ => true), bound_named_S (fun _ => true), bound_Greatest_S (fun _ => true)], fm := ⟨true, [.val (.int .i64) [], .val (.int .i64) []]⟩ }
noncomputable def bound_Room (a0 : D_api_Settings) (a1 : ByteArray) (a2 : Int) : Option (Int × Int) := bound_Room_I.call [(.agg T_api_Settings (inj false T_api_Settings a0)), (.str a1), (.int .i64 a2)] []
noncomputable def bound_Room_c1 (v1 : ByteArray) (v2 : Int) (v9 : Int) (v10 : Int) (b8 : D_api_Settings) : Option (Int × Int) := bound_Room_I.sem ⟨[.code (cIn (cIn (cFst (cSnd (cSnd (cSnd (bodyOf Tryd.prog 51))))))), .inLoop (cIn (cIn (cFst (cSnd (cSnd (cSnd (bodyOf Tryd.prog 51))))))), .inBlock 0, .code (cSnd (cSnd (cSnd (cSnd (bodyOf Tryd.prog 51)))))], ⟨[(1, (.one (.str v1))), (2, (.one (.int .i64 v2))), (3, (.one (.ptr T_api_Settings 8 []))), (9, (.one (.int .i64 v9))), (10, (.one (.int .i64 v10)))], [(8, some (.box T_api_Settings (inj false T_api_Settings b8)))], 9⟩⟩
theorem bound_Room_eq (a0 : D_api_Settings) (a1 : ByteArray) (a2 : Int) : bound_Room a0 a1 a2 = (
  (pack_Check a0).bind fun (r1 : (Int)) =>
  if (r1 != (0 : Int)) = true then
    some ((0 : Int), r1)
  else
    bound_Room_c1 a1 a2 (-1 : Int) (8193 : Int) a0) := (FnI.call_eq (by kernel_rfl)).trans (by kernel_rfl)
theorem bound_Room_c1_eq (v1 : ByteArray) (v2 : Int) (v9 : Int) (v10 : Int) (b8 : D_api_Settings) : bound_Room_c1 v1 v2 v9 v10 b8 = (
  if (decide ((IntKind.wrap .i64 (v9 + (1 : Int))) < v10)) = true then
    gd ((2 : Int) ≠ 0) <|
    (bound_named v1 (IntKind.wrap .i64 (Int.tdiv (IntKind.wrap .i64 (v9 + v10)) (2 : Int)))).bind fun (r2 : (List D_api_Record × Int)) =>
    if (r2.2 != (0 : Int)) = true then
      some ((0 : Int), r2.2)
    else
      (bound_Greatest b8 r2.1).bind fun (r3 : (Int × Int)) =>
      if (r3.2 != (0 : Int)) = true then
        some ((0 : Int), (8 : Int))
      else
        if (decide (r3.1 ≤ v2)) = true then
          bound_Room_c1 v1 v2 (IntKind.wrap .i64 (Int.tdiv (IntKind.wrap .i64 (v9 + v10)) (2 : Int))) v10 b8
        else
          bound_Room_c1 v1 v2 v9 (IntKind.wrap .i64 (Int.tdiv (IntKind.wrap .i64 (v9 + v10)) (2 : Int))) b8
  else
    if (decide (v9 < (0 : Int))) = true then
      some ((0 : Int), (6 : Int))
    else
      some (v9, (0 : Int))) := (FnI.sem_eq _).trans (by kernel_rfl)
noncomputable def bound_Room_S (acc : List AV → Bool) : Summ Tryd.prog GT := bound_Room_I.summ mixed acc false false

/-! bitloft/bitloftlaw36.both -/
noncomputable def bitloftlaw36_both_I : FnI Tryd.prog GT := { f := 61, cuts := [], tab := [bound_Least_S (fun _ => true), bound_Greatest_S (fun _ => true)], fm := ⟨true, [.val .bool []]⟩ }
noncomputable def bitloftlaw36_both (a0 : D_api_Settings) (a1 : D_api_Record) (a2 : Int) (a3 : Int) : Option (Bool) := bitloftlaw36_both_I.call [(.agg T_api_Settings (inj false T_api_Settings a0)), (.agg T_api_Record (inj false T_api_Record a1)), (.int .i64 a2), (.int .i64 a3)] []
theorem bitloftlaw36_both_eq (a0 : D_api_Settings) (a1 : D_api_Record) (a2 : Int) (a3 : Int) : bitloftlaw36_both a0 a1 a2 a3 = (
  (bound_Least a0 [a1]).bind fun (r1 : (Int × Int)) =>
  (bound_Greatest a0 [a1]).bind fun (r2 : (Int × Int)) =>
  if (r1.2 == (0 : Int)) = true then
    if (r1.1 == a2) = true then
      if (r2.2 == (0 : Int)) = true then
        some (r2.1 == a3)
      else
        some (false)
    else
      some (false)
  else
    some (false)) := (FnI.call_eq (by kernel_rfl)).trans (by kernel_rfl)
noncomputable def bitloftlaw36_both_S (acc : List AV → Bool) : Summ Tryd.prog GT := bitloftlaw36_both_I.summ mixed acc false false

/-! bitloft/bitloftlaw36.room -/
noncomputable def bitloftlaw36_room_I : FnI Tryd.prog GT := { f := 62, cuts := [], tab := [bound_Room_S (fun _ => true)], fm := ⟨true, [.val .bool []]⟩ }
noncomputable def bitloftlaw36_room (a0 : D_api_Settings) (a1 : ByteArray) (a2 : Int) (a3 : Int) : Option (Bool) := bitloftlaw36_room_I.call [(.agg T_api_Settings (inj false T_api_Settings a0)), (.str a1), (.int .i64 a2), (.int .i64 a3)] []
theorem bitloftlaw36_room_eq (a0 : D_api_Settings) (a1 : ByteArray) (a2 : Int) (a3 : Int) : bitloftlaw36_room a0 a1 a2 a3 = (
  (bound_Room a0 a1 a2).bind fun (r1 : (Int × Int)) =>
  if (r1.2 == (0 : Int)) = true then
    some (r1.1 == a3)
  else
    some (false)) := (FnI.call_eq (by kernel_rfl)).trans (by kernel_rfl)
noncomputable def bitloftlaw36_room_S (acc : List AV → Bool) : Summ Tryd.prog GT := bitloftlaw36_room_I.summ mixed acc false false

/-! bitloft/bitloftlaw36.alive -/
noncomputable def bitloftlaw36_alive_I : FnI Tryd.prog GT := { f := 47, cuts := [], tab := [bound_Count_S (fun _ => true), bound_Room_S (fun _ => true), bitloftlaw36_both_S (fun _ => true), bitloftlaw36_room_S (fun _ => true)], fm := ⟨true, [.val .bool []]⟩ }
noncomputable def bitloftlaw36_alive : Option (Bool) := bitloftlaw36_alive_I.call [] []
theorem bitloftlaw36_alive_eq : bitloftlaw36_alive = (
  (bound_Count ((0 : Int), ((16 : Int), ())) [((ByteArray.mk #[97]), ((40 : Int), ((List.replicate 20 (0 : Int)), ())))]).bind fun (r1 : (Int × Int)) =>
  (bound_Room ((0 : Int), ((16 : Int), ())) (ByteArray.mk #[97]) (51 : Int)).bind fun (r2 : (Int × Int)) =>
  if (r1.2 == (0 : Int)) = true then
    if (r1.1 == (3 : Int)) = true then
      (bitloftlaw36_both ((0 : Int), ((16 : Int), ())) ((ByteArray.mk #[97]), ((40 : Int), ((List.replicate 20 (0 : Int)), ()))) (187 : Int) (215 : Int)).bind fun (r3 : (Bool)) =>
      if r3 = true then
        (bitloftlaw36_room ((0 : Int), ((16 : Int), ())) (ByteArray.mk #[97]) (215 : Int) (40 : Int)).bind fun (r4 : (Bool)) =>
        if r4 = true then
          (bitloftlaw36_room ((0 : Int), ((16 : Int), ())) (ByteArray.mk #[97, 98]) (215 : Int) (39 : Int)).bind fun (r5 : (Bool)) =>
          if r5 = true then
            if (r2.2 == (6 : Int)) = true then
              (bitloftlaw36_room ((0 : Int), ((16 : Int), ())) (ByteArray.mk #[97]) (52 : Int) (0 : Int)).bind fun (r6 : (Bool)) =>
              some (r6)
            else
              some (false)
          else
            some (false)
        else
          some (false)
      else
        some (false)
    else
      some (false)
  else
    some (false)) := (FnI.call_eq (by kernel_rfl)).trans (by kernel_rfl)
noncomputable def bitloftlaw36_alive_S (acc : List AV → Bool) : Summ Tryd.prog GT := bitloftlaw36_alive_I.summ mixed acc false false

/-! bitloft/bitloftlaw36.BoundGrows -/
noncomputable def bitloftlaw36_BoundGrows_I : FnI Tryd.prog GT := { f := 7, cuts := [⟨(13, 3), [0, 2, 3, 9, 10, 12, 13, 14, 15, 16, 17, 18, 19, 20, 21, 22, 23, 24, 25], false, false⟩], tab := [bitloftlaw36_alive_S (fun _ => true), bitloftref28_GreatRecords_S (fun _ => true), bitloftref30_Check_S (fun _ => true), bitloftref28_Valid_S (fun _ => true), bound_Count_S (fun _ => true), bound_Greatest_S (fun _ => true), bound_Least_S (fun _ => true), split_Pieces_S (fun _ => true)], fm := ⟨true, [.val .bool []]⟩ }
noncomputable def bitloftlaw36_BoundGrows (a0 : Int) (a1 : Int) (a2 : List D_api_Record) (a3 : Int) : Option (Bool) := bitloftlaw36_BoundGrows_I.call [(.int .i64 a0), (.int .i64 a1), (.sl T_api_Record false a2), (.int .i64 a3)] []
noncomputable def bitloftlaw36_BoundGrows_c1 (v0 : Int) (v2 : List D_api_Record) (v3 : Int) (v9 : Bool) (v12 : Int) (v13 : Int) (v14 : Int) (v15 : Int) (v16 : Int) (v17 : Int) (v18 : Int) (v19 : Int) (v20 : Int) (v21 : Int) (v22 : Int) (v23 : Int) (v25 : Int) (b8 : D_api_Settings) (h9 : List Int) : Option (Bool) := bitloftlaw36_BoundGrows_I.sem ⟨[.code (cIn (cIn (cSnd (cFst (cSnd (cSnd (cSnd (cSnd (cSnd (cSnd (cSnd (cSnd (cSnd (cSnd (cSnd (bodyOf Tryd.prog 7)))))))))))))))), .inLoop (cIn (cIn (cSnd (cFst (cSnd (cSnd (cSnd (cSnd (cSnd (cSnd (cSnd (cSnd (cSnd (cSnd (cSnd (bodyOf Tryd.prog 7)))))))))))))))), .inBlock 0, .code (cSnd (cSnd (cSnd (cSnd (cSnd (cSnd (cSnd (cSnd (cSnd (cSnd (cSnd (cSnd (bodyOf Tryd.prog 7)))))))))))))], ⟨[(0, (.one (.int .i64 v0))), (2, (.one (.sl T_api_Record false v2))), (3, (.one (.int .i64 v3))), (9, (.one (.bool v9))), (10, (.one (.ptr T_api_Settings 8 []))), (12, (.one (.int .i64 v12))), (13, (.one (.int .i64 v13))), (14, (.one (.int .i64 v14))), (15, (.one (.int .i64 v15))), (16, (.one (.int .i64 v16))), (17, (.one (.int .i64 v17))), (18, (.one (.int .i64 v18))), (19, (.one (.int .i64 v19))), (20, (.one (.int .i64 v20))), (21, (.one (.int .i64 v21))), (22, (.one (.int .i64 v22))), (23, (.one (.int .i64 v23))), (24, (.one (.ref (.int .i64) 9 0 (List.length h9) true))), (25, (.one (.int .i64 v25)))], [(8, some (.box T_api_Settings (inj false T_api_Settings b8))), (9, some (.row (.int .i64) true h9))], 10⟩⟩
theorem bitloftlaw36_BoundGrows_eq (a0 : Int) (a1 : Int) (a2 : List D_api_Record) (a3 : Int) : bitloftlaw36_BoundGrows a0 a1 a2 a3 = (
  (bitloftlaw36_alive).bind fun (r1 : (Bool)) =>
  (bitloftref28_GreatRecords a2).bind fun (r2 : (Bool)) =>
  if r2 = true then
    some (r1)
  else
    (bitloftref30_Check ((0 : Int), (a0, ()))).bind fun (r3 : (Int)) =>
    if (r3 != (0 : Int)) = true then
      some (r1)
    else
      (bitloftref30_Check ((0 : Int), (a1, ()))).bind fun (r4 : (Int)) =>
      if (r4 != (0 : Int)) = true then
        some (r1)
      else
        if (decide (a0 > a1)) = true then
          some (r1)
        else
          (bitloftref28_Valid a2).bind fun (r5 : (Int)) =>
          if (r5 != (0 : Int)) = true then
            some (r1)
          else
            if (not r1) = true then
              some (r1)
            else
              (bound_Count ((0 : Int), (a0, ())) a2).bind fun (r6 : (Int × Int)) =>
              (bound_Count ((0 : Int), (a1, ())) a2).bind fun (r7 : (Int × Int)) =>
              (bound_Greatest ((0 : Int), (a0, ())) a2).bind fun (r8 : (Int × Int)) =>
              (bound_Greatest ((0 : Int), (a1, ())) a2).bind fun (r9 : (Int × Int)) =>
              (bound_Least ((0 : Int), (a0, ())) a2).bind fun (r10 : (Int × Int)) =>
              (bound_Least ((0 : Int), (a1, ())) a2).bind fun (r11 : (Int × Int)) =>
              bitloftlaw36_BoundGrows_c1 a0 a2 a3 r1 r6.1 r6.2 r7.1 r7.2 r8.1 r8.2 r9.1 r9.2 r10.1 r10.2 r11.1 r11.2 (0 : Int) ((0 : Int), (a0, ())) []) := (FnI.call_eq (by kernel_rfl)).trans (by kernel_rfl)
theorem bitloftlaw36_BoundGrows_c1_eq (v0 : Int) (v2 : List D_api_Record) (v3 : Int) (v9 : Bool) (v12 : Int) (v13 : Int) (v14 : Int) (v15 : Int) (v16 : Int) (v17 : Int) (v18 : Int) (v19 : Int) (v20 : Int) (v21 : Int) (v22 : Int) (v23 : Int) (v25 : Int) (b8 : D_api_Settings) (h9 : List Int) : bitloftlaw36_BoundGrows_c1 v0 v2 v3 v9 v12 v13 v14 v15 v16 v17 v18 v19 v20 v21 v22 v23 v25 b8 h9 = (
  if (decide (v25 < (Int.ofNat (List.length v2)))) = true then
    gd (0 ≤ v25) <|
    gd (v25 < (Int.ofNat (List.length v2))) <|
    gd ((List.length (h9 ++ [(List.getD v2 (Int.toNat v25) (pzero T_api_Record)).2.1])) * 8 ≤ 140737488355328) <|
    bitloftlaw36_BoundGrows_c1 v0 v2 v3 v9 v12 v13 v14 v15 v16 v17 v18 v19 v20 v21 v22 v23 (IntKind.wrap .i64 (v25 + (1 : Int))) b8 (h9 ++ [(List.getD v2 (Int.toNat v25) (pzero T_api_Record)).2.1])
  else
    (split_Pieces h9 v0).bind fun (r12 : (List D_api_Piece × Int)) =>
    if (v13 != (0 : Int)) = true then
      some (false)
    else
      if (v15 != (0 : Int)) = true then
        some (false)
      else
        if (v17 != (0 : Int)) = true then
          some (false)
        else
          if (v19 != (0 : Int)) = true then
            some (false)
          else
            if (v21 != (0 : Int)) = true then
              some (false)
            else
              if (v23 != (0 : Int)) = true then
                some (false)
              else
                if (r12.2 != (0 : Int)) = true then
                  some (false)
                else
                  if (decide (v12 < v14)) = true then
                    some (false)
                  else
                    if (decide (v16 < v18)) = true then
                      some (false)
                    else
                      if (decide (v20 < v22)) = true then
                        some (false)
                      else
                        if ((Int.ofNat (List.length r12.1)) != v12) = true then
                          some (false)
                        else
                          if (decide (v20 > v16)) = true then
                            some (false)
                          else
                            if ((Int.ofNat (List.length v2)) == (0 : Int)) = true then
                              some (v9)
                            else
                              gd (0 ≤ (0 : Int)) <|
                              gd ((0 : Int) < (Int.ofNat (List.length v2))) <|
                              if (decide (v3 < (List.getD v2 0 (pzero T_api_Record)).2.1)) = true then
                                some (v9)
                              else
                                if (decide (v3 > (8192 : Int))) = true then
                                  some (v9)
                                else
                                  gd ((List.length ([] ++ v2)) * 48 ≤ 140737488355328) <|
                                  gd (0 ≤ (0 : Int)) <|
                                  gd ((0 : Int) < (Int.ofNat (List.length ([] ++ v2)))) <|
                                  (bitloftref28_Valid (List.set ([] ++ v2) 0 ((List.getD ([] ++ v2) 0 (pzero T_api_Record)).1, (v3, (List.getD ([] ++ v2) 0 (pzero T_api_Record)).2.2)))).bind fun (r13 : (Int)) =>
                                  if (r13 != (0 : Int)) = true then
                                    some (v9)
                                  else
                                    (bound_Greatest b8 (List.set ([] ++ v2) 0 ((List.getD ([] ++ v2) 0 (pzero T_api_Record)).1, (v3, (List.getD ([] ++ v2) 0 (pzero T_api_Record)).2.2)))).bind fun (r14 : (Int × Int)) =>
                                    (bound_Least b8 (List.set ([] ++ v2) 0 ((List.getD ([] ++ v2) 0 (pzero T_api_Record)).1, (v3, (List.getD ([] ++ v2) 0 (pzero T_api_Record)).2.2)))).bind fun (r15 : (Int × Int)) =>
                                    if v9 = true then
                                      if (r14.2 == (0 : Int)) = true then
                                        if (decide (r14.1 ≥ v16)) = true then
                                          if (r15.2 == (0 : Int)) = true then
                                            some (decide (r15.1 ≥ v20))
                                          else
                                            some (false)
                                        else
                                          some (false)
                                      else
                                        some (false)
                                    else
                                      some (false)) := (FnI.sem_eq _).trans (by kernel_rfl)
noncomputable def bitloftlaw36_BoundGrows_S (acc : List AV → Bool) : Summ Tryd.prog GT := bitloftlaw36_BoundGrows_I.summ mixed acc false false

/-! bitloft/bitloftref36.Named -/
noncomputable def bitloftref36_Named_I : FnI Tryd.prog GT := { f := 52, cuts := [], tab := [bitloftref01_Of_S (fun _ => true)], fm := ⟨true, [.val T_api_Record []]⟩ }
noncomputable def bitloftref36_Named (a0 : ByteArray) (a1 : Int) : Option (D_api_Record) := bitloftref36_Named_I.call [(.str a0), (.int .i64 a1)] []
theorem bitloftref36_Named_eq (a0 : ByteArray) (a1 : Int) : bitloftref36_Named a0 a1 = (
  if (a1 == (0 : Int)) = true then
    (bitloftref01_Of []).bind fun (r1 : ((List Int))) =>
    some (a0, (a1, (r1, ())))
  else
    some (a0, (a1, ((List.replicate 20 (0 : Int)), ())))) := (FnI.call_eq (by kernel_rfl)).trans (by kernel_rfl)
noncomputable def bitloftref36_Named_S (acc : List AV → Bool) : Summ Tryd.prog GT := bitloftref36_Named_I.summ mixed acc false false

/-! bitloft/bitloftlaw36.BoundBack -/
noncomputable def bitloftlaw36_BoundBack_I : FnI Tryd.prog GT := { f := 8, cuts := [], tab := [bitloftlaw36_alive_S (fun _ => true), bitloftref30_Check_S (fun _ => true), bitloftref28_Name_S (fun _ => true), bound_Room_S (fun _ => true), bitloftref36_Named_S (fun _ => true), bound_Greatest_S (fun _ => true)], fm := ⟨true, [.val .bool []]⟩ }
noncomputable def bitloftlaw36_BoundBack (a0 : D_api_Settings) (a1 : ByteArray) (a2 : Int) : Option (Bool) := bitloftlaw36_BoundBack_I.call [(.agg T_api_Settings (inj false T_api_Settings a0)), (.str a1), (.int .i64 a2)] []
theorem bitloftlaw36_BoundBack_eq (a0 : D_api_Settings) (a1 : ByteArray) (a2 : Int) : bitloftlaw36_BoundBack a0 a1 a2 = (
  (bitloftlaw36_alive).bind fun (r1 : (Bool)) =>
  (bitloftref30_Check a0).bind fun (r2 : (Int)) =>
  if (r2 != (0 : Int)) = true then
    some (r1)
  else
    (bitloftref28_Name a1).bind fun (r3 : (Bool)) =>
    if (not r3) = true then
      some (r1)
    else
      if (not r1) = true then
        some (r1)
      else
        (bound_Room a0 a1 a2).bind fun (r4 : (Int × Int)) =>
        if (r4.2 != (0 : Int)) = true then
          (bitloftref36_Named a1 (0 : Int)).bind fun (r5 : (D_api_Record)) =>
          (bound_Greatest a0 [r5]).bind fun (r6 : (Int × Int)) =>
          if r1 = true then
            if (r4.2 == (6 : Int)) = true then
              if (r6.2 == (0 : Int)) = true then
                some (decide (r6.1 > a2))
              else
                some (false)
            else
              some (false)
          else
            some (false)
        else
          if (decide (r4.1 < (0 : Int))) = true then
            some (false)
          else
            if (decide (r4.1 > (8192 : Int))) = true then
              some (false)
            else
              (bitloftref36_Named a1 r4.1).bind fun (r7 : (D_api_Record)) =>
              (bound_Greatest a0 [r7]).bind fun (r8 : (Int × Int)) =>
              if (r8.2 != (0 : Int)) = true then
                some (false)
              else
                if (decide (r8.1 > a2)) = true then
                  some (false)
                else
                  if (r4.1 == (8192 : Int)) = true then
                    some (r1)
                  else
                    (bitloftref36_Named a1 (IntKind.wrap .i64 (r4.1 + (1 : Int)))).bind fun (r9 : (D_api_Record)) =>
                    (bound_Greatest a0 [r9]).bind fun (r10 : (Int × Int)) =>
                    if r1 = true then
                      if (r10.2 == (0 : Int)) = true then
                        some (decide (r10.1 > a2))
                      else
                        some (false)
                    else
                      some (false)) := (FnI.call_eq (by kernel_rfl)).trans (by kernel_rfl)
noncomputable def bitloftlaw36_BoundBack_S (acc : List AV → Bool) : Summ Tryd.prog GT := bitloftlaw36_BoundBack_I.summ mixed acc false false

/-! bitloft/bitloftref31.Great -/
noncomputable def bitloftref31_Great_I : FnI Tryd.prog GT := { f := 53, cuts := [], tab := [bitloftref28_GreatRecords_S (fun _ => true)], fm := ⟨true, [.val .bool []]⟩ }
noncomputable def bitloftref31_Great (a0 : D_api_Listing) : Option (Bool) := bitloftref31_Great_I.call [(.agg T_api_Listing (inj false T_api_Listing a0))] []
theorem bitloftref31_Great_eq (a0 : D_api_Listing) : bitloftref31_Great a0 = (
  (bitloftref28_GreatRecords a0.2.1).bind fun (r1 : (Bool)) =>
  if r1 = true then
    some (true)
  else
    some (decide ((Int.ofNat (List.length a0.2.2.1)) > (700 : Int)))) := (FnI.call_eq (by kernel_rfl)).trans (by kernel_rfl)
noncomputable def bitloftref31_Great_S (acc : List AV → Bool) : Summ Tryd.prog GT := bitloftref31_Great_I.summ mixed acc false false

/-! bitloft/bitloftref36.Room -/
noncomputable def bitloftref36_Room_I : FnI Tryd.prog GT := { f := 58, cuts := [⟨(8, 3), [1, 2, 3, 9, 10], false, false⟩], tab := [bitloftref30_Check_S (fun _ => true), bitloftref36_Named_S (fun _ => true), bitloftref28_Valid_S (fun _ => true), bitloftref36_length_S (fun _ => true)], fm := ⟨true, [.val (.int .i64) [], .val (.int .i64) []]⟩ }
noncomputable def bitloftref36_Room (a0 : D_api_Settings) (a1 : ByteArray) (a2 : Int) : Option (Int × Int) := bitloftref36_Room_I.call [(.agg T_api_Settings (inj false T_api_Settings a0)), (.str a1), (.int .i64 a2)] []
noncomputable def bitloftref36_Room_c1 (v1 : ByteArray) (v2 : Int) (v9 : Int) (v10 : Int) (b8 : D_api_Settings) : Option (Int × Int) := bitloftref36_Room_I.sem ⟨[.code (cIn (cIn (cSnd (cFst (cSnd (cSnd (cSnd (cSnd (bodyOf Tryd.prog 58))))))))), .inLoop (cIn (cIn (cSnd (cFst (cSnd (cSnd (cSnd (cSnd (bodyOf Tryd.prog 58))))))))), .inBlock 0, .code (cSnd (cSnd (cSnd (cSnd (cSnd (bodyOf Tryd.prog 58))))))], ⟨[(1, (.one (.str v1))), (2, (.one (.int .i64 v2))), (3, (.one (.ptr T_api_Settings 8 []))), (9, (.one (.int .i64 v9))), (10, (.one (.int .i64 v10)))], [(8, some (.box T_api_Settings (inj false T_api_Settings b8)))], 9⟩⟩
theorem bitloftref36_Room_eq (a0 : D_api_Settings) (a1 : ByteArray) (a2 : Int) : bitloftref36_Room a0 a1 a2 = (
  (bitloftref30_Check a0).bind fun (r1 : (Int)) =>
  if (r1 != (0 : Int)) = true then
    some ((0 : Int), r1)
  else
    (bitloftref36_Named a1 (0 : Int)).bind fun (r2 : (D_api_Record)) =>
    (bitloftref28_Valid [r2]).bind fun (r3 : (Int)) =>
    if (r3 != (0 : Int)) = true then
      some ((0 : Int), (8 : Int))
    else
      bitloftref36_Room_c1 a1 a2 (-1 : Int) (0 : Int) a0) := (FnI.call_eq (by kernel_rfl)).trans (by kernel_rfl)
theorem bitloftref36_Room_c1_eq (v1 : ByteArray) (v2 : Int) (v9 : Int) (v10 : Int) (b8 : D_api_Settings) : bitloftref36_Room_c1 v1 v2 v9 v10 b8 = (
  if (decide (v10 ≤ (8192 : Int))) = true then
    (bitloftref36_Named v1 v10).bind fun (r4 : (D_api_Record)) =>
    (bitloftref36_length b8 [r4] false).bind fun (r5 : (Int)) =>
    if (decide (r5 ≤ v2)) = true then
      bitloftref36_Room_c1 v1 v2 v10 (IntKind.wrap .i64 (v10 + (1 : Int))) b8
    else
      if (decide (v9 < (0 : Int))) = true then
        some ((0 : Int), (6 : Int))
      else
        some (v9, (0 : Int))
  else
    if (decide (v9 < (0 : Int))) = true then
      some ((0 : Int), (6 : Int))
    else
      some (v9, (0 : Int))) := (FnI.sem_eq _).trans (by kernel_rfl)
noncomputable def bitloftref36_Room_S (acc : List AV → Bool) : Summ Tryd.prog GT := bitloftref36_Room_I.summ mixed acc false false

/-! bitloft/list.pieces -/
noncomputable def list_pieces_I : FnI Tryd.prog GT := { f := 105, cuts := [⟨(3, 3), [2, 5, 10, 11, 12], false, false⟩], tab := [split_Pieces_S (fun _ => true)], fm := ⟨true, [.val (.slice T_api_Piece) [.nw]]⟩ }
noncomputable def list_pieces (a0 : D_api_Settings) (a1 : List D_api_Record) : Option (List D_api_Piece) := list_pieces_I.call [(.agg T_api_Settings (inj false T_api_Settings a0)), (.sl T_api_Record false a1)] []
noncomputable def list_pieces_c1 (v10 : List D_api_Record) (v11 : Int) (v12 : Int) (b8 : D_api_Settings) (h9 : List Int) : Option (List D_api_Piece) := list_pieces_I.sem ⟨[.code (cIn (cIn (cSnd (cFst (cSnd (cSnd (bodyOf Tryd.prog 105))))))), .inLoop (cIn (cIn (cSnd (cFst (cSnd (cSnd (bodyOf Tryd.prog 105))))))), .inBlock 0, .code (cSnd (cSnd (cSnd (bodyOf Tryd.prog 105))))], ⟨[(2, (.one (.ptr T_api_Settings 8 []))), (5, (.one (.ref (.int .i64) 9 0 (List.length h9) true))), (10, (.one (.sl T_api_Record false v10))), (11, (.one (.int .i64 v11))), (12, (.one (.int .i64 v12)))], [(8, some (.box T_api_Settings (inj false T_api_Settings b8))), (9, some (.row (.int .i64) true h9))], 10⟩⟩
theorem list_pieces_eq (a0 : D_api_Settings) (a1 : List D_api_Record) : list_pieces a0 a1 = (
  list_pieces_c1 a1 (Int.ofNat (List.length a1)) (0 : Int) a0 []) := (FnI.call_eq (by kernel_rfl)).trans (by kernel_rfl)
theorem list_pieces_c1_eq (v10 : List D_api_Record) (v11 : Int) (v12 : Int) (b8 : D_api_Settings) (h9 : List Int) : list_pieces_c1 v10 v11 v12 b8 h9 = (
  if (decide (v12 < v11)) = true then
    gd (0 ≤ v12) <|
    gd (v12 < (Int.ofNat (List.length v10))) <|
    gd ((List.length (h9 ++ [(List.getD v10 (Int.toNat v12) (pzero T_api_Record)).2.1])) * 8 ≤ 140737488355328) <|
    list_pieces_c1 v10 v11 (IntKind.wrap .i64 (v12 + (1 : Int))) b8 (h9 ++ [(List.getD v10 (Int.toNat v12) (pzero T_api_Record)).2.1])
  else
    (split_Pieces h9 b8.2.1).bind fun (r1 : (List D_api_Piece × Int)) =>
    some (r1.1)) := (FnI.sem_eq _).trans (by kernel_rfl)
noncomputable def list_pieces_S (acc : List AV → Bool) : Summ Tryd.prog GT := list_pieces_I.summ mixed acc false false

/-! bitloft/header.Check -/
noncomputable def header_Check_I : FnI Tryd.prog GT := { f := 80, cuts := [], tab := [], fm := ⟨true, [.val (.int .i64) []]⟩ }
noncomputable def header_Check (a0 : D_api_BlockHead) : Option (Int) := header_Check_I.call [(.agg T_api_BlockHead (inj false T_api_BlockHead a0))] []
theorem header_Check_eq (a0 : D_api_BlockHead) : header_Check a0 = (
  if (decide (a0.2.1 < (0 : Int))) = true then
    some (8 : Int)
  else
    if (decide (a0.2.1 ≥ (16 : Int))) = true then
      if (decide (a0.2.1 ≥ (16 : Int))) = true then
        some (8 : Int)
      else
        if (a0.1 == (1 : Int)) = true then
          if (a0.2.2.2.2.1 == a0.2.2.2.1) = true then
            if (a0.2.2.2.2.1 == a0.2.2.2.1) = true then
              some (0 : Int)
            else
              some (8 : Int)
          else
            if (a0.1 == (2 : Int)) = true then
              if (decide (a0.2.2.2.2.1 > (0 : Int))) = true then
                if (decide (a0.2.2.2.2.1 < a0.2.2.2.1)) = true then
                  some (0 : Int)
                else
                  some (8 : Int)
              else
                some (8 : Int)
            else
              some (8 : Int)
        else
          if (a0.1 == (2 : Int)) = true then
            if (decide (a0.2.2.2.2.1 > (0 : Int))) = true then
              if (decide (a0.2.2.2.2.1 < a0.2.2.2.1)) = true then
                some (0 : Int)
              else
                some (8 : Int)
            else
              some (8 : Int)
          else
            some (8 : Int)
    else
      if (decide (a0.2.2.2.1 < (1 : Int))) = true then
        some (8 : Int)
      else
        if (decide (a0.2.2.2.1 > (4096 : Int))) = true then
          if (decide (a0.2.2.2.1 > (4096 : Int))) = true then
            some (8 : Int)
          else
            if (a0.1 == (1 : Int)) = true then
              if (a0.2.2.2.2.1 == a0.2.2.2.1) = true then
                if (a0.2.2.2.2.1 == a0.2.2.2.1) = true then
                  some (0 : Int)
                else
                  some (8 : Int)
              else
                if (a0.1 == (2 : Int)) = true then
                  if (decide (a0.2.2.2.2.1 > (0 : Int))) = true then
                    if (decide (a0.2.2.2.2.1 < a0.2.2.2.1)) = true then
                      some (0 : Int)
                    else
                      some (8 : Int)
                  else
                    some (8 : Int)
                else
                  some (8 : Int)
            else
              if (a0.1 == (2 : Int)) = true then
                if (decide (a0.2.2.2.2.1 > (0 : Int))) = true then
                  if (decide (a0.2.2.2.2.1 < a0.2.2.2.1)) = true then
                    some (0 : Int)
                  else
                    some (8 : Int)
                else
                  some (8 : Int)
              else
                some (8 : Int)
        else
          if (decide (a0.2.2.1 < (0 : Int))) = true then
            some (8 : Int)
          else
            if (decide (a0.2.2.1 > (IntKind.wrap .i64 ((8192 : Int) - a0.2.2.2.1)))) = true then
              some (8 : Int)
            else
              if (a0.1 == (1 : Int)) = true then
                if (a0.2.2.2.2.1 == a0.2.2.2.1) = true then
                  if (a0.2.2.2.2.1 == a0.2.2.2.1) = true then
                    some (0 : Int)
                  else
                    some (8 : Int)
                else
                  if (a0.1 == (2 : Int)) = true then
                    if (decide (a0.2.2.2.2.1 > (0 : Int))) = true then
                      if (decide (a0.2.2.2.2.1 < a0.2.2.2.1)) = true then
                        some (0 : Int)
                      else
                        some (8 : Int)
                    else
                      some (8 : Int)
                  else
                    some (8 : Int)
              else
                if (a0.1 == (2 : Int)) = true then
                  if (decide (a0.2.2.2.2.1 > (0 : Int))) = true then
                    if (decide (a0.2.2.2.2.1 < a0.2.2.2.1)) = true then
                      some (0 : Int)
                    else
                      some (8 : Int)
                  else
                    some (8 : Int)
                else
                  some (8 : Int)) := (FnI.call_eq (by kernel_rfl)).trans (by kernel_rfl)
noncomputable def header_Check_S (acc : List AV → Bool) : Summ Tryd.prog GT := header_Check_I.summ mixed acc false false

/-! bitloft/list.is -/
noncomputable def list_is_I : FnI Tryd.prog GT := { f := 106, cuts := [], tab := [], fm := ⟨true, [.val .bool []]⟩ }
noncomputable def list_is (a0 : D_api_BlockHead) (a1 : D_api_Piece) : Option (Bool) := list_is_I.call [(.agg T_api_BlockHead (inj false T_api_BlockHead a0)), (.agg T_api_Piece (inj false T_api_Piece a1))] []
theorem list_is_eq (a0 : D_api_BlockHead) (a1 : D_api_Piece) : list_is a0 a1 = (
  some (peq T_api_Piece (a0.2.1, (a0.2.2.1, (a0.2.2.2.1, ()))) a1)) := (FnI.call_eq (by kernel_rfl)).trans (by kernel_rfl)
noncomputable def list_is_S (acc : List AV → Bool) : Summ Tryd.prog GT := list_is_I.summ mixed acc false false

/-! bitloft/list.Check -/
noncomputable def list_Check_I : FnI Tryd.prog GT := { f := 56, cuts := [⟨(7, 3), [3, 28, 29, 30], false, false⟩], tab := [pack_Check_S (fun _ => true), member_Valid_S (fun _ => true), list_pieces_S (fun _ => true), header_Check_S (fun _ => true), list_is_S (fun _ => true)], fm := ⟨true, [.val (.int .i64) []]⟩ }
noncomputable def list_Check (a0 : D_api_Listing) : Option (Int) := list_Check_I.call [(.agg T_api_Listing (inj false T_api_Listing a0))] []
noncomputable def list_Check_c1 (v28 : List D_api_BlockHead) (v29 : Int) (v30 : Int) (h8 : List D_api_Piece) : Option (Int) := list_Check_I.sem ⟨[.code (cIn (cIn (cSnd (cFst (cSnd (cSnd (cSnd (cSnd (bodyOf Tryd.prog 56))))))))), .inLoop (cIn (cIn (cSnd (cFst (cSnd (cSnd (cSnd (cSnd (bodyOf Tryd.prog 56))))))))), .inBlock 0, .code (cSnd (cSnd (cSnd (cSnd (cSnd (bodyOf Tryd.prog 56))))))], ⟨[(3, (.one (.ref T_api_Piece 8 0 (List.length h8) true))), (28, (.one (.sl T_api_BlockHead false v28))), (29, (.one (.int .i64 v29))), (30, (.one (.int .i64 v30)))], [(8, some (.row T_api_Piece true h8))], 9⟩⟩
theorem list_Check_eq (a0 : D_api_Listing) : list_Check a0 = (
  (pack_Check a0.1).bind fun (r1 : (Int)) =>
  if (r1 != (0 : Int)) = true then
    some (8 : Int)
  else
    (member_Valid a0.2.1).bind fun (r2 : (Int)) =>
    if (r2 != (0 : Int)) = true then
      some (8 : Int)
    else
      (list_pieces a0.1 a0.2.1).bind fun (r3 : (List D_api_Piece)) =>
      if ((Int.ofNat (List.length r3)) != (Int.ofNat (List.length a0.2.2.1))) = true then
        some (8 : Int)
      else
        list_Check_c1 a0.2.2.1 (Int.ofNat (List.length a0.2.2.1)) (0 : Int) r3) := (FnI.call_eq (by kernel_rfl)).trans (by kernel_rfl)
theorem list_Check_c1_eq (v28 : List D_api_BlockHead) (v29 : Int) (v30 : Int) (h8 : List D_api_Piece) : list_Check_c1 v28 v29 v30 h8 = (
  if (decide (v30 < v29)) = true then
    gd (0 ≤ v30) <|
    gd (v30 < (Int.ofNat (List.length v28))) <|
    (header_Check (List.getD v28 (Int.toNat v30) (pzero T_api_BlockHead))).bind fun (r4 : (Int)) =>
    if (r4 != (0 : Int)) = true then
      some (8 : Int)
    else
      gd (0 ≤ v30) <|
      gd (v30 < (Int.ofNat (List.length h8))) <|
      (list_is (List.getD v28 (Int.toNat v30) (pzero T_api_BlockHead)) (List.getD h8 (0 + (Int.toNat v30)) (pzero T_api_Piece))).bind fun (r5 : (Bool)) =>
      if (not r5) = true then
        some (8 : Int)
      else
        list_Check_c1 v28 v29 (IntKind.wrap .i64 (v30 + (1 : Int))) h8
  else
    some (0 : Int)) := (FnI.sem_eq _).trans (by kernel_rfl)
noncomputable def list_Check_S (acc : List AV → Bool) : Summ Tryd.prog GT := list_Check_I.summ mixed acc false false

/-! bitloft/bound.Saved -/
noncomputable def bound_Saved_I : FnI Tryd.prog GT := { f := 59, cuts := [⟨(6, 3), [5, 14, 15, 16], false, false⟩], tab := [list_Check_S (fun _ => true)], fm := ⟨true, [.val (.int .i64) [], .val (.int .i64) []]⟩ }
noncomputable def bound_Saved (a0 : D_api_Listing) : Option (Int × Int) := bound_Saved_I.call [(.agg T_api_Listing (inj false T_api_Listing a0))] []
noncomputable def bound_Saved_c1 (v5 : Int) (v14 : List D_api_BlockHead) (v15 : Int) (v16 : Int) : Option (Int × Int) := bound_Saved_I.sem ⟨[.code (cIn (cIn (cSnd (cFst (cSnd (cSnd (cSnd (bodyOf Tryd.prog 59)))))))), .inLoop (cIn (cIn (cSnd (cFst (cSnd (cSnd (cSnd (bodyOf Tryd.prog 59)))))))), .inBlock 0, .code (cSnd (cSnd (cSnd (cSnd (bodyOf Tryd.prog 59)))))], ⟨[(5, (.one (.int .i64 v5))), (14, (.one (.sl T_api_BlockHead false v14))), (15, (.one (.int .i64 v15))), (16, (.one (.int .i64 v16)))], [], 8⟩⟩
theorem bound_Saved_eq (a0 : D_api_Listing) : bound_Saved a0 = (
  (list_Check a0).bind fun (r1 : (Int)) =>
  if (r1 != (0 : Int)) = true then
    some ((0 : Int), r1)
  else
    bound_Saved_c1 (0 : Int) a0.2.2.1 (Int.ofNat (List.length a0.2.2.1)) (0 : Int)) := (FnI.call_eq (by kernel_rfl)).trans (by kernel_rfl)
theorem bound_Saved_c1_eq (v5 : Int) (v14 : List D_api_BlockHead) (v15 : Int) (v16 : Int) : bound_Saved_c1 v5 v14 v15 v16 = (
  if (decide (v16 < v15)) = true then
    gd (0 ≤ v16) <|
    gd (v16 < (Int.ofNat (List.length v14))) <|
    bound_Saved_c1 (IntKind.wrap .i64 (v5 + (IntKind.wrap .i64 ((List.getD v14 (Int.toNat v16) (pzero T_api_BlockHead)).2.2.2.1 - (List.getD v14 (Int.toNat v16) (pzero T_api_BlockHead)).2.2.2.2.1)))) v14 v15 (IntKind.wrap .i64 (v16 + (1 : Int)))
  else
    some (v5, (0 : Int))) := (FnI.sem_eq _).trans (by kernel_rfl)
noncomputable def bound_Saved_S (acc : List AV → Bool) : Summ Tryd.prog GT := bound_Saved_I.summ mixed acc false false

/-! bitloft/bitloftref31.Pieces -/
noncomputable def bitloftref31_Pieces_I : FnI Tryd.prog GT := { f := 107, cuts := [⟨(3, 3), [1, 2, 5, 6], false, false⟩], tab := [bitloftref29_Pieces_S (fun _ => true)], fm := ⟨true, [.val (.slice T_api_Piece) [.nw]]⟩ }
noncomputable def bitloftref31_Pieces (a0 : D_api_Settings) (a1 : List D_api_Record) : Option (List D_api_Piece) := bitloftref31_Pieces_I.call [(.agg T_api_Settings (inj false T_api_Settings a0)), (.sl T_api_Record false a1)] []
noncomputable def bitloftref31_Pieces_c1 (v1 : List D_api_Record) (v6 : Int) (b8 : D_api_Settings) (h9 : List Int) : Option (List D_api_Piece) := bitloftref31_Pieces_I.sem ⟨[.code (cIn (cIn (cSnd (cFst (cSnd (cSnd (bodyOf Tryd.prog 107))))))), .inLoop (cIn (cIn (cSnd (cFst (cSnd (cSnd (bodyOf Tryd.prog 107))))))), .inBlock 0, .code (cSnd (cSnd (cSnd (bodyOf Tryd.prog 107))))], ⟨[(1, (.one (.sl T_api_Record false v1))), (2, (.one (.ptr T_api_Settings 8 []))), (5, (.one (.ref (.int .i64) 9 0 (List.length h9) true))), (6, (.one (.int .i64 v6)))], [(8, some (.box T_api_Settings (inj false T_api_Settings b8))), (9, some (.row (.int .i64) true h9))], 10⟩⟩
theorem bitloftref31_Pieces_eq (a0 : D_api_Settings) (a1 : List D_api_Record) : bitloftref31_Pieces a0 a1 = (
  bitloftref31_Pieces_c1 a1 (0 : Int) a0 []) := (FnI.call_eq (by kernel_rfl)).trans (by kernel_rfl)
theorem bitloftref31_Pieces_c1_eq (v1 : List D_api_Record) (v6 : Int) (b8 : D_api_Settings) (h9 : List Int) : bitloftref31_Pieces_c1 v1 v6 b8 h9 = (
  if (decide (v6 < (Int.ofNat (List.length v1)))) = true then
    gd (0 ≤ v6) <|
    gd (v6 < (Int.ofNat (List.length v1))) <|
    gd ((List.length (h9 ++ [(List.getD v1 (Int.toNat v6) (pzero T_api_Record)).2.1])) * 8 ≤ 140737488355328) <|
    bitloftref31_Pieces_c1 v1 (IntKind.wrap .i64 (v6 + (1 : Int))) b8 (h9 ++ [(List.getD v1 (Int.toNat v6) (pzero T_api_Record)).2.1])
  else
    (bitloftref29_Pieces h9 b8.2.1).bind fun (r1 : (List D_api_Piece × Int)) =>
    some (r1.1)) := (FnI.sem_eq _).trans (by kernel_rfl)
noncomputable def bitloftref31_Pieces_S (acc : List AV → Bool) : Summ Tryd.prog GT := bitloftref31_Pieces_I.summ mixed acc false false

/-! bitloft/bitloftref26.Check -/
noncomputable def bitloftref26_Check_I : FnI Tryd.prog GT := { f := 81, cuts := [], tab := [], fm := ⟨true, [.val (.int .i64) []]⟩ }
noncomputable def bitloftref26_Check (a0 : D_api_BlockHead) : Option (Int) := bitloftref26_Check_I.call [(.agg T_api_BlockHead (inj false T_api_BlockHead a0))] []
theorem bitloftref26_Check_eq (a0 : D_api_BlockHead) : bitloftref26_Check a0 = (
  if (decide (a0.2.1 < (0 : Int))) = true then
    some (8 : Int)
  else
    if (decide (a0.2.1 ≥ (16 : Int))) = true then
      some (8 : Int)
    else
      if (decide (a0.2.2.2.1 < (1 : Int))) = true then
        some (8 : Int)
      else
        if (decide (a0.2.2.2.1 > (4096 : Int))) = true then
          some (8 : Int)
        else
          if (decide (a0.2.2.1 < (0 : Int))) = true then
            some (8 : Int)
          else
            if (decide (a0.2.2.1 > (IntKind.wrap .i64 ((8192 : Int) - a0.2.2.2.1)))) = true then
              some (8 : Int)
            else
              if (a0.1 == (1 : Int)) = true then
                if (a0.1 == (2 : Int)) = true then
                  if (decide (a0.2.2.2.2.1 ≥ (1 : Int))) = true then
                    if (not (a0.2.2.2.2.1 == a0.2.2.2.1)) = true then
                      if (not (decide (a0.2.2.2.2.1 < a0.2.2.2.1))) = true then
                        some (8 : Int)
                      else
                        some (0 : Int)
                    else
                      some (0 : Int)
                  else
                    if (not (a0.2.2.2.2.1 == a0.2.2.2.1)) = true then
                      some (8 : Int)
                    else
                      some (0 : Int)
                else
                  if (not (a0.2.2.2.2.1 == a0.2.2.2.1)) = true then
                    some (8 : Int)
                  else
                    some (0 : Int)
              else
                if (a0.1 == (2 : Int)) = true then
                  if (decide (a0.2.2.2.2.1 ≥ (1 : Int))) = true then
                    if (not (decide (a0.2.2.2.2.1 < a0.2.2.2.1))) = true then
                      some (8 : Int)
                    else
                      some (0 : Int)
                  else
                    some (8 : Int)
                else
                  some (8 : Int)) := (FnI.call_eq (by kernel_rfl)).trans (by kernel_rfl)
noncomputable def bitloftref26_Check_S (acc : List AV → Bool) : Summ Tryd.prog GT := bitloftref26_Check_I.summ mixed acc false false

/-! bitloft/bitloftref31.Is -/
noncomputable def bitloftref31_Is_I : FnI Tryd.prog GT := { f := 108, cuts := [], tab := [], fm := ⟨true, [.val .bool []]⟩ }
noncomputable def bitloftref31_Is (a0 : D_api_BlockHead) (a1 : D_api_Piece) : Option (Bool) := bitloftref31_Is_I.call [(.agg T_api_BlockHead (inj false T_api_BlockHead a0)), (.agg T_api_Piece (inj false T_api_Piece a1))] []
theorem bitloftref31_Is_eq (a0 : D_api_BlockHead) (a1 : D_api_Piece) : bitloftref31_Is a0 a1 = (
  if (a0.2.1 == a1.1) = true then
    if (a0.2.2.1 == a1.2.1) = true then
      some (a0.2.2.2.1 == a1.2.2.1)
    else
      some (false)
  else
    some (false)) := (FnI.call_eq (by kernel_rfl)).trans (by kernel_rfl)
noncomputable def bitloftref31_Is_S (acc : List AV → Bool) : Summ Tryd.prog GT := bitloftref31_Is_I.summ mixed acc false false

/-! bitloft/bitloftref31.Check -/
noncomputable def bitloftref31_Check_I : FnI Tryd.prog GT := { f := 57, cuts := [⟨(7, 3), [1, 3, 4], false, false⟩], tab := [bitloftref30_Check_S (fun _ => true), bitloftref28_Valid_S (fun _ => true), bitloftref31_Pieces_S (fun _ => true), bitloftref26_Check_S (fun _ => true), bitloftref31_Is_S (fun _ => true)], fm := ⟨true, [.val (.int .i64) []]⟩ }
noncomputable def bitloftref31_Check (a0 : D_api_Listing) : Option (Int) := bitloftref31_Check_I.call [(.agg T_api_Listing (inj false T_api_Listing a0))] []
noncomputable def bitloftref31_Check_c1 (v4 : Int) (b8 : D_api_Listing) (h9 : List D_api_Piece) : Option (Int) := bitloftref31_Check_I.sem ⟨[.code (cIn (cIn (cSnd (cFst (cSnd (cSnd (cSnd (cSnd (bodyOf Tryd.prog 57))))))))), .inLoop (cIn (cIn (cSnd (cFst (cSnd (cSnd (cSnd (cSnd (bodyOf Tryd.prog 57))))))))), .inBlock 0, .code (cSnd (cSnd (cSnd (cSnd (cSnd (bodyOf Tryd.prog 57))))))], ⟨[(1, (.one (.ptr T_api_Listing 8 []))), (3, (.one (.ref T_api_Piece 9 0 (List.length h9) true))), (4, (.one (.int .i64 v4)))], [(8, some (.box T_api_Listing (inj false T_api_Listing b8))), (9, some (.row T_api_Piece true h9))], 10⟩⟩
theorem bitloftref31_Check_eq (a0 : D_api_Listing) : bitloftref31_Check a0 = (
  (bitloftref30_Check a0.1).bind fun (r1 : (Int)) =>
  if (r1 != (0 : Int)) = true then
    some (8 : Int)
  else
    (bitloftref28_Valid a0.2.1).bind fun (r2 : (Int)) =>
    if (r2 != (0 : Int)) = true then
      some (8 : Int)
    else
      (bitloftref31_Pieces a0.1 a0.2.1).bind fun (r3 : (List D_api_Piece)) =>
      if ((Int.ofNat (List.length r3)) != (Int.ofNat (List.length a0.2.2.1))) = true then
        some (8 : Int)
      else
        bitloftref31_Check_c1 (0 : Int) a0 r3) := (FnI.call_eq (by kernel_rfl)).trans (by kernel_rfl)
theorem bitloftref31_Check_c1_eq (v4 : Int) (b8 : D_api_Listing) (h9 : List D_api_Piece) : bitloftref31_Check_c1 v4 b8 h9 = (
  if (decide (v4 < (Int.ofNat (List.length h9)))) = true then
    gd (0 ≤ v4) <|
    gd (v4 < (Int.ofNat (List.length b8.2.2.1))) <|
    (bitloftref26_Check (List.getD b8.2.2.1 (Int.toNat v4) (pzero T_api_BlockHead))).bind fun (r4 : (Int)) =>
    if (r4 != (0 : Int)) = true then
      some (8 : Int)
    else
      gd (0 ≤ v4) <|
      gd (v4 < (Int.ofNat (List.length b8.2.2.1))) <|
      gd (0 ≤ v4) <|
      gd (v4 < (Int.ofNat (List.length h9))) <|
      (bitloftref31_Is (List.getD b8.2.2.1 (Int.toNat v4) (pzero T_api_BlockHead)) (List.getD h9 (0 + (Int.toNat v4)) (pzero T_api_Piece))).bind fun (r5 : (Bool)) =>
      if (not r5) = true then
        some (8 : Int)
      else
        bitloftref31_Check_c1 (IntKind.wrap .i64 (v4 + (1 : Int))) b8 h9
  else
    some (0 : Int)) := (FnI.sem_eq _).trans (by kernel_rfl)
noncomputable def bitloftref31_Check_S (acc : List AV → Bool) : Summ Tryd.prog GT := bitloftref31_Check_I.summ mixed acc false false

/-! bitloft/bitloftref36.Saved -/
noncomputable def bitloftref36_Saved_I : FnI Tryd.prog GT := { f := 60, cuts := [⟨(6, 3), [1, 5, 6], false, false⟩], tab := [bitloftref31_Check_S (fun _ => true)], fm := ⟨true, [.val (.int .i64) [], .val (.int .i64) []]⟩ }
noncomputable def bitloftref36_Saved (a0 : D_api_Listing) : Option (Int × Int) := bitloftref36_Saved_I.call [(.agg T_api_Listing (inj false T_api_Listing a0))] []
noncomputable def bitloftref36_Saved_c1 (v5 : Int) (v6 : Int) (b8 : D_api_Listing) : Option (Int × Int) := bitloftref36_Saved_I.sem ⟨[.code (cIn (cIn (cSnd (cFst (cSnd (cSnd (cSnd (bodyOf Tryd.prog 60)))))))), .inLoop (cIn (cIn (cSnd (cFst (cSnd (cSnd (cSnd (bodyOf Tryd.prog 60)))))))), .inBlock 0, .code (cSnd (cSnd (cSnd (cSnd (bodyOf Tryd.prog 60)))))], ⟨[(1, (.one (.ptr T_api_Listing 8 []))), (5, (.one (.int .i64 v5))), (6, (.one (.int .i64 v6)))], [(8, some (.box T_api_Listing (inj false T_api_Listing b8)))], 9⟩⟩
theorem bitloftref36_Saved_eq (a0 : D_api_Listing) : bitloftref36_Saved a0 = (
  (bitloftref31_Check a0).bind fun (r1 : (Int)) =>
  if (r1 != (0 : Int)) = true then
    some ((0 : Int), r1)
  else
    bitloftref36_Saved_c1 (0 : Int) (0 : Int) a0) := (FnI.call_eq (by kernel_rfl)).trans (by kernel_rfl)
theorem bitloftref36_Saved_c1_eq (v5 : Int) (v6 : Int) (b8 : D_api_Listing) : bitloftref36_Saved_c1 v5 v6 b8 = (
  if (decide (v6 < (Int.ofNat (List.length b8.2.2.1)))) = true then
    gd (0 ≤ v6) <|
    gd (v6 < (Int.ofNat (List.length b8.2.2.1))) <|
    gd (0 ≤ v6) <|
    gd (v6 < (Int.ofNat (List.length b8.2.2.1))) <|
    bitloftref36_Saved_c1 (IntKind.wrap .i64 (v5 + (IntKind.wrap .i64 ((List.getD b8.2.2.1 (Int.toNat v6) (pzero T_api_BlockHead)).2.2.2.1 - (List.getD b8.2.2.1 (Int.toNat v6) (pzero T_api_BlockHead)).2.2.2.2.1)))) (IntKind.wrap .i64 (v6 + (1 : Int))) b8
  else
    some (v5, (0 : Int))) := (FnI.sem_eq _).trans (by kernel_rfl)
noncomputable def bitloftref36_Saved_S (acc : List AV → Bool) : Summ Tryd.prog GT := bitloftref36_Saved_I.summ mixed acc false false

/-! bitloft/bitloftlaw36.BoundRooms -/
noncomputable def bitloftlaw36_BoundRooms_I : FnI Tryd.prog GT := { f := 10, cuts := [], tab := [bitloftref31_Great_S (fun _ => true), bound_Room_S (fun _ => true), bitloftref36_Room_S (fun _ => true), bound_Saved_S (fun _ => true), bitloftref36_Saved_S (fun _ => true)], fm := ⟨true, [.val .bool []]⟩ }
noncomputable def bitloftlaw36_BoundRooms (a0 : D_api_Settings) (a1 : ByteArray) (a2 : Int) (a3 : D_api_Listing) : Option (Bool) := bitloftlaw36_BoundRooms_I.call [(.agg T_api_Settings (inj false T_api_Settings a0)), (.str a1), (.int .i64 a2), (.agg T_api_Listing (inj false T_api_Listing a3))] []
theorem bitloftlaw36_BoundRooms_eq (a0 : D_api_Settings) (a1 : ByteArray) (a2 : Int) (a3 : D_api_Listing) : bitloftlaw36_BoundRooms a0 a1 a2 a3 = (
  if (decide ((Int.ofNat (ByteArray.size a1)) > (100 : Int))) = true then
    some (true)
  else
    (bitloftref31_Great a3).bind fun (r1 : (Bool)) =>
    if r1 = true then
      some (true)
    else
      (bound_Room a0 a1 a2).bind fun (r2 : (Int × Int)) =>
      (bitloftref36_Room a0 a1 a2).bind fun (r3 : (Int × Int)) =>
      (bound_Saved a3).bind fun (r4 : (Int × Int)) =>
      (bitloftref36_Saved a3).bind fun (r5 : (Int × Int)) =>
      if (r2.1 == r3.1) = true then
        if (r2.2 == r3.2) = true then
          if (r4.1 == r5.1) = true then
            some (r4.2 == r5.2)
          else
            some (false)
        else
          some (false)
      else
        some (false)) := (FnI.call_eq (by kernel_rfl)).trans (by kernel_rfl)
noncomputable def bitloftlaw36_BoundRooms_S (acc : List AV → Bool) : Summ Tryd.prog GT := bitloftlaw36_BoundRooms_I.summ mixed acc false false

/-! bitloft/list.Places -/
noncomputable def list_Places_I : FnI Tryd.prog GT := { f := 54, cuts := [⟨(8, 3), [7, 8, 27, 28, 29], false, false⟩], tab := [list_Check_S (fun _ => true), pack_Head_S (fun _ => true)], fm := ⟨true, [.val (.slice (.int .i64)) [.nw], .val (.int .i64) []]⟩ }
noncomputable def list_Places (a0 : D_api_Listing) : Option (List Int × Int) := list_Places_I.call [(.agg T_api_Listing (inj false T_api_Listing a0))] []
noncomputable def list_Places_c1 (v7 : Int) (v27 : List D_api_BlockHead) (v28 : Int) (v29 : Int) (h8 : List Int) : Option (List Int × Int) := list_Places_I.sem ⟨[.code (cIn (cIn (cSnd (cFst (cSnd (cSnd (cSnd (cSnd (cSnd (bodyOf Tryd.prog 54)))))))))), .inLoop (cIn (cIn (cSnd (cFst (cSnd (cSnd (cSnd (cSnd (cSnd (bodyOf Tryd.prog 54)))))))))), .inBlock 0, .code (cSnd (cSnd (cSnd (cSnd (cSnd (cSnd (bodyOf Tryd.prog 54)))))))], ⟨[(7, (.one (.int .i64 v7))), (8, (.one (.ref (.int .i64) 8 0 (List.length h8) true))), (27, (.one (.sl T_api_BlockHead false v27))), (28, (.one (.int .i64 v28))), (29, (.one (.int .i64 v29)))], [(8, some (.row (.int .i64) true h8))], 9⟩⟩
theorem list_Places_eq (a0 : D_api_Listing) : list_Places a0 = (
  (list_Check a0).bind fun (r1 : (Int)) =>
  if (r1 != (0 : Int)) = true then
    some ([], r1)
  else
    (pack_Head a0.1 a0.2.1).bind fun (r2 : (List Int × Int)) =>
    list_Places_c1 (Int.ofNat (List.length r2.1)) a0.2.2.1 (Int.ofNat (List.length a0.2.2.1)) (0 : Int) []) := (FnI.call_eq (by kernel_rfl)).trans (by kernel_rfl)
theorem list_Places_c1_eq (v7 : Int) (v27 : List D_api_BlockHead) (v28 : Int) (v29 : Int) (h8 : List Int) : list_Places_c1 v7 v27 v28 v29 h8 = (
  if (decide (v29 < v28)) = true then
    gd (0 ≤ v29) <|
    gd (v29 < (Int.ofNat (List.length v27))) <|
    gd ((List.length (h8 ++ [v7])) * 8 ≤ 140737488355328) <|
    list_Places_c1 (IntKind.wrap .i64 (v7 + (IntKind.wrap .i64 ((41 : Int) + (List.getD v27 (Int.toNat v29) (pzero T_api_BlockHead)).2.2.2.2.1)))) v27 v28 (IntKind.wrap .i64 (v29 + (1 : Int))) (h8 ++ [v7])
  else
    some (h8, (0 : Int))) := (FnI.sem_eq _).trans (by kernel_rfl)
noncomputable def list_Places_S (acc : List AV → Bool) : Summ Tryd.prog GT := list_Places_I.summ mixed acc false false

/-! bitloft/bitloftref31.Places -/
noncomputable def bitloftref31_Places_I : FnI Tryd.prog GT := { f := 55, cuts := [⟨(6, 3), [1, 4, 5, 6], false, false⟩], tab := [bitloftref31_Check_S (fun _ => true), bitloftref30_Bytes_S (fun _ => true)], fm := ⟨true, [.val (.slice (.int .i64)) [.nw], .val (.int .i64) []]⟩ }
noncomputable def bitloftref31_Places (a0 : D_api_Listing) : Option (List Int × Int) := bitloftref31_Places_I.call [(.agg T_api_Listing (inj false T_api_Listing a0))] []
noncomputable def bitloftref31_Places_c1 (v4 : Int) (v6 : Int) (b8 : D_api_Listing) (h9 : List Int) : Option (List Int × Int) := bitloftref31_Places_I.sem ⟨[.code (cIn (cIn (cSnd (cFst (cSnd (cSnd (cSnd (cSnd (bodyOf Tryd.prog 55))))))))), .inLoop (cIn (cIn (cSnd (cFst (cSnd (cSnd (cSnd (cSnd (bodyOf Tryd.prog 55))))))))), .inBlock 0, .code (cSnd (cSnd (cSnd (cSnd (cSnd (bodyOf Tryd.prog 55))))))], ⟨[(1, (.one (.ptr T_api_Listing 8 []))), (4, (.one (.int .i64 v4))), (5, (.one (.ref (.int .i64) 9 0 (List.length h9) true))), (6, (.one (.int .i64 v6)))], [(8, some (.box T_api_Listing (inj false T_api_Listing b8))), (9, some (.row (.int .i64) true h9))], 10⟩⟩
theorem bitloftref31_Places_eq (a0 : D_api_Listing) : bitloftref31_Places a0 = (
  (bitloftref31_Check a0).bind fun (r1 : (Int)) =>
  if (r1 != (0 : Int)) = true then
    (bitloftref31_Check a0).bind fun (r2 : (Int)) =>
    some ([], r2)
  else
    (bitloftref30_Bytes a0.1 a0.2.1).bind fun (r3 : (List Int)) =>
    bitloftref31_Places_c1 (Int.ofNat (List.length r3)) (0 : Int) a0 []) := (FnI.call_eq (by kernel_rfl)).trans (by kernel_rfl)
theorem bitloftref31_Places_c1_eq (v4 : Int) (v6 : Int) (b8 : D_api_Listing) (h9 : List Int) : bitloftref31_Places_c1 v4 v6 b8 h9 = (
  if (decide (v6 < (Int.ofNat (List.length b8.2.2.1)))) = true then
    gd ((List.length (h9 ++ [v4])) * 8 ≤ 140737488355328) <|
    gd (0 ≤ v6) <|
    gd (v6 < (Int.ofNat (List.length b8.2.2.1))) <|
    bitloftref31_Places_c1 (IntKind.wrap .i64 (v4 + (IntKind.wrap .i64 ((41 : Int) + (List.getD b8.2.2.1 (Int.toNat v6) (pzero T_api_BlockHead)).2.2.2.2.1)))) (IntKind.wrap .i64 (v6 + (1 : Int))) b8 (h9 ++ [v4])
  else
    some (h9, (0 : Int))) := (FnI.sem_eq _).trans (by kernel_rfl)
noncomputable def bitloftref31_Places_S (acc : List AV → Bool) : Summ Tryd.prog GT := bitloftref31_Places_I.summ mixed acc false false

/-! bitloft/bitloftlaw31.ListPlaces -/
noncomputable def bitloftlaw31_ListPlaces_I : FnI Tryd.prog GT := { f := 9, cuts := [⟨(8, 3), [3, 5, 7], false, false⟩], tab := [bitloftref31_Great_S (fun _ => true), list_Places_S (fun _ => true), bitloftref31_Places_S (fun _ => true), list_Check_S (fun _ => true), bitloftref31_Check_S (fun _ => true)], fm := ⟨true, [.val .bool []]⟩ }
noncomputable def bitloftlaw31_ListPlaces (a0 : D_api_Listing) : Option (Bool) := bitloftlaw31_ListPlaces_I.call [(.agg T_api_Listing (inj false T_api_Listing a0))] []
noncomputable def bitloftlaw31_ListPlaces_c1 (v7 : Int) (h8 : List Int) (h9 : List Int) : Option (Bool) := bitloftlaw31_ListPlaces_I.sem ⟨[.code (cIn (cIn (cSnd (cFst (cSnd (cSnd (cSnd (cSnd (cSnd (bodyOf Tryd.prog 9)))))))))), .inLoop (cIn (cIn (cSnd (cFst (cSnd (cSnd (cSnd (cSnd (cSnd (bodyOf Tryd.prog 9)))))))))), .inBlock 0, .code (cSnd (cSnd (cSnd (cSnd (cSnd (cSnd (bodyOf Tryd.prog 9)))))))], ⟨[(3, (.one (.ref (.int .i64) 8 0 (List.length h8) true))), (5, (.one (.ref (.int .i64) 9 0 (List.length h9) true))), (7, (.one (.int .i64 v7)))], [(8, some (.row (.int .i64) true h8)), (9, some (.row (.int .i64) true h9))], 10⟩⟩
theorem bitloftlaw31_ListPlaces_eq (a0 : D_api_Listing) : bitloftlaw31_ListPlaces a0 = (
  (bitloftref31_Great a0).bind fun (r1 : (Bool)) =>
  if r1 = true then
    some (true)
  else
    (list_Places a0).bind fun (r2 : (List Int × Int)) =>
    (bitloftref31_Places a0).bind fun (r3 : (List Int × Int)) =>
    if ((Int.ofNat (List.length r2.1)) != (Int.ofNat (List.length r3.1))) = true then
      some (false)
    else
      if (r2.2 != r3.2) = true then
        some (false)
      else
        (list_Check a0).bind fun (r4 : (Int)) =>
        (bitloftref31_Check a0).bind fun (r5 : (Int)) =>
        if (r4 != r5) = true then
          some (false)
        else
          bitloftlaw31_ListPlaces_c1 (0 : Int) r2.1 r3.1) := (FnI.call_eq (by kernel_rfl)).trans (by kernel_rfl)
theorem bitloftlaw31_ListPlaces_c1_eq (v7 : Int) (h8 : List Int) (h9 : List Int) : bitloftlaw31_ListPlaces_c1 v7 h8 h9 = (
  if (decide (v7 < (Int.ofNat (List.length h8)))) = true then
    gd (0 ≤ v7) <|
    gd (v7 < (Int.ofNat (List.length h8))) <|
    gd (0 ≤ v7) <|
    gd (v7 < (Int.ofNat (List.length h9))) <|
    if ((List.getD h8 (0 + (Int.toNat v7)) (0 : Int)) != (List.getD h9 (0 + (Int.toNat v7)) (0 : Int))) = true then
      some (false)
    else
      bitloftlaw31_ListPlaces_c1 (IntKind.wrap .i64 (v7 + (1 : Int))) h8 h9
  else
    some (true)) := (FnI.sem_eq _).trans (by kernel_rfl)
noncomputable def bitloftlaw31_ListPlaces_S (acc : List AV → Bool) : Summ Tryd.prog GT := bitloftlaw31_ListPlaces_I.summ mixed acc false false

/-! bitloft/bound.Saved -/
noncomputable def bound_Saved_v2_I : FnI Tryd.prog GT := { f := 59, cuts := [⟨(6, 3), [5, 14, 15, 16], false, false⟩], tab := [list_Check_S (fun _ => true)], fm := ⟨true, [.val (.int .i64) [], .val (.int .i64) []]⟩ }
noncomputable def bound_Saved_v2 (a0a : D_api_Settings) (a0bbb : Unit) : Option (Int × Int) := bound_Saved_v2_I.call [(.agg T_api_Listing ((inj false T_api_Settings a0a), (SV.nil, (SV.nil, a0bbb))))] []
noncomputable def bound_Saved_v2_c1 (v5 : Int) (v15 : Int) (v16 : Int) (h8 : List D_api_BlockHead) : Option (Int × Int) := bound_Saved_v2_I.sem ⟨[.code (cIn (cIn (cSnd (cFst (cSnd (cSnd (cSnd (bodyOf Tryd.prog 59)))))))), .inLoop (cIn (cIn (cSnd (cFst (cSnd (cSnd (cSnd (bodyOf Tryd.prog 59)))))))), .inBlock 0, .code (cSnd (cSnd (cSnd (cSnd (bodyOf Tryd.prog 59)))))], ⟨[(5, (.one (.int .i64 v5))), (14, (.one (.ref T_api_BlockHead 8 0 (List.length h8) true))), (15, (.one (.int .i64 v15))), (16, (.one (.int .i64 v16)))], [(8, some (.row T_api_BlockHead true h8))], 9⟩⟩
theorem bound_Saved_v2_eq (a0a : D_api_Settings) (a0bbb : Unit) : bound_Saved_v2 a0a a0bbb = (
  (list_Check (a0a, ([], ([], a0bbb)))).bind fun (r1 : (Int)) =>
  if (r1 != (0 : Int)) = true then
    some ((0 : Int), r1)
  else
    bound_Saved_v2_c1 (0 : Int) (0 : Int) (0 : Int) []) := (FnI.call_eq (by kernel_rfl)).trans (by kernel_rfl)
theorem bound_Saved_v2_c1_eq (v5 : Int) (v15 : Int) (v16 : Int) (h8 : List D_api_BlockHead) : bound_Saved_v2_c1 v5 v15 v16 h8 = (
  if (decide (v16 < v15)) = true then
    gd (0 ≤ v16) <|
    gd (v16 < (Int.ofNat (List.length h8))) <|
    bound_Saved_v2_c1 (IntKind.wrap .i64 (v5 + (IntKind.wrap .i64 ((List.getD h8 (0 + (Int.toNat v16)) (pzero T_api_BlockHead)).2.2.2.1 - (List.getD h8 (0 + (Int.toNat v16)) (pzero T_api_BlockHead)).2.2.2.2.1)))) v15 (IntKind.wrap .i64 (v16 + (1 : Int))) h8
  else
    some (v5, (0 : Int))) := (FnI.sem_eq _).trans (by kernel_rfl)
noncomputable def bound_Saved_v2_S (acc : List AV → Bool) : Summ Tryd.prog GT := bound_Saved_v2_I.summ mixed acc false false

/-! bitloft/bitloftlaw36.BoundNames -/
noncomputable def bitloftlaw36_BoundNames_I : FnI Tryd.prog GT := { f := 11, cuts := [⟨(3, 1), [1, 2], false, false⟩, ⟨(4, 1), [1, 2, 3], false, false⟩, ⟨(17, 1), [1, 2, 3, 4, 5, 6, 7, 8, 9, 10, 11, 13, 15, 17, 19, 21, 23, 25, 27, 29], false, false⟩, ⟨(18, 1), [1, 2, 3, 4, 5, 6, 7, 8, 9, 10, 11, 30], false, false⟩, ⟨(19, 1), [2, 3, 4, 5, 6, 7, 8, 9, 10, 11, 30, 31], false, false⟩], tab := [bitloftlaw36_both_S (fun _ => true), bitloftref36_Named_S (fun _ => true), bound_Greatest_S (fun _ => true), bound_Least_S (fun _ => true), bound_Count_S (fun _ => true), bound_Sizes_S (fun _ => true), bound_Room_S (fun _ => true), bound_Saved_v2_S (fun _ => true), bitloftlaw36_room_S (fun _ => true), bitloftlaw36_alive_S (fun _ => true)], fm := ⟨true, [.val .bool []]⟩ }
noncomputable def bitloftlaw36_BoundNames : Option (Bool) := bitloftlaw36_BoundNames_I.call [] []
noncomputable def bitloftlaw36_BoundNames_c1 (v2 : Bool) (b8 : D_api_Settings) : Option (Bool) := bitloftlaw36_BoundNames_I.sem ⟨[.code (cFst (cSnd (cSnd (cSnd (bodyOf Tryd.prog 11))))), .code (cSnd (cSnd (cSnd (cSnd (bodyOf Tryd.prog 11)))))], ⟨[(1, (.one (.ptr T_api_Settings 8 []))), (2, (.one (.bool v2)))], [(8, some (.box T_api_Settings (inj false T_api_Settings b8)))], 9⟩⟩
noncomputable def bitloftlaw36_BoundNames_c2 (v2 : Bool) (v3 : Bool) (b8 : D_api_Settings) : Option (Bool) := bitloftlaw36_BoundNames_I.sem ⟨[.code (cFst (cSnd (cSnd (cSnd (cSnd (bodyOf Tryd.prog 11)))))), .code (cSnd (cSnd (cSnd (cSnd (cSnd (bodyOf Tryd.prog 11))))))], ⟨[(1, (.one (.ptr T_api_Settings 8 []))), (2, (.one (.bool v2))), (3, (.one (.bool v3)))], [(8, some (.box T_api_Settings (inj false T_api_Settings b8)))], 9⟩⟩
noncomputable def bitloftlaw36_BoundNames_c3 (v2 : Bool) (v3 : Bool) (v4 : Int) (v5 : Int) (v6 : Int) (v7 : Int) (v8 : Int) (v9 : Int) (v11 : Int) (v13 : Int) (v15 : Int) (v17 : Int) (v19 : Int) (v21 : Int) (v23 : Int) (v25 : Int) (v27 : Int) (v29 : Int) (b8 : D_api_Settings) (h9 : List Int) : Option (Bool) := bitloftlaw36_BoundNames_I.sem ⟨[.code (cFst (cSnd (cSnd (cSnd (cSnd (cSnd (cSnd (cSnd (cSnd (cSnd (cSnd (cSnd (cSnd (cSnd (cSnd (cSnd (cSnd (cSnd (bodyOf Tryd.prog 11))))))))))))))))))), .code (cSnd (cSnd (cSnd (cSnd (cSnd (cSnd (cSnd (cSnd (cSnd (cSnd (cSnd (cSnd (cSnd (cSnd (cSnd (cSnd (cSnd (cSnd (bodyOf Tryd.prog 11)))))))))))))))))))], ⟨[(1, (.one (.ptr T_api_Settings 8 []))), (2, (.one (.bool v2))), (3, (.one (.bool v3))), (4, (.one (.int .i64 v4))), (5, (.one (.int .i64 v5))), (6, (.one (.int .i64 v6))), (7, (.one (.int .i64 v7))), (8, (.one (.int .i64 v8))), (9, (.one (.int .i64 v9))), (10, (.one (.ref (.int .i64) 9 0 (List.length h9) true))), (11, (.one (.int .i64 v11))), (13, (.one (.int .i64 v13))), (15, (.one (.int .i64 v15))), (17, (.one (.int .i64 v17))), (19, (.one (.int .i64 v19))), (21, (.one (.int .i64 v21))), (23, (.one (.int .i64 v23))), (25, (.one (.int .i64 v25))), (27, (.one (.int .i64 v27))), (29, (.one (.int .i64 v29)))], [(8, some (.box T_api_Settings (inj false T_api_Settings b8))), (9, some (.row (.int .i64) true h9))], 10⟩⟩
noncomputable def bitloftlaw36_BoundNames_c4 (v2 : Bool) (v3 : Bool) (v4 : Int) (v5 : Int) (v6 : Int) (v7 : Int) (v8 : Int) (v9 : Int) (v11 : Int) (v30 : Bool) (b8 : D_api_Settings) (h9 : List Int) : Option (Bool) := bitloftlaw36_BoundNames_I.sem ⟨[.code (cFst (cSnd (cSnd (cSnd (cSnd (cSnd (cSnd (cSnd (cSnd (cSnd (cSnd (cSnd (cSnd (cSnd (cSnd (cSnd (cSnd (cSnd (cSnd (bodyOf Tryd.prog 11)))))))))))))))))))), .code (cSnd (cSnd (cSnd (cSnd (cSnd (cSnd (cSnd (cSnd (cSnd (cSnd (cSnd (cSnd (cSnd (cSnd (cSnd (cSnd (cSnd (cSnd (cSnd (bodyOf Tryd.prog 11))))))))))))))))))))], ⟨[(1, (.one (.ptr T_api_Settings 8 []))), (2, (.one (.bool v2))), (3, (.one (.bool v3))), (4, (.one (.int .i64 v4))), (5, (.one (.int .i64 v5))), (6, (.one (.int .i64 v6))), (7, (.one (.int .i64 v7))), (8, (.one (.int .i64 v8))), (9, (.one (.int .i64 v9))), (10, (.one (.ref (.int .i64) 9 0 (List.length h9) true))), (11, (.one (.int .i64 v11))), (30, (.one (.bool v30)))], [(8, some (.box T_api_Settings (inj false T_api_Settings b8))), (9, some (.row (.int .i64) true h9))], 10⟩⟩
noncomputable def bitloftlaw36_BoundNames_c5 (v2 : Bool) (v3 : Bool) (v4 : Int) (v5 : Int) (v6 : Int) (v7 : Int) (v8 : Int) (v9 : Int) (v11 : Int) (v30 : Bool) (v31 : Bool) (h8 : List Int) : Option (Bool) := bitloftlaw36_BoundNames_I.sem ⟨[.code (cFst (cSnd (cSnd (cSnd (cSnd (cSnd (cSnd (cSnd (cSnd (cSnd (cSnd (cSnd (cSnd (cSnd (cSnd (cSnd (cSnd (cSnd (cSnd (cSnd (bodyOf Tryd.prog 11))))))))))))))))))))), .code (cSnd (cSnd (cSnd (cSnd (cSnd (cSnd (cSnd (cSnd (cSnd (cSnd (cSnd (cSnd (cSnd (cSnd (cSnd (cSnd (cSnd (cSnd (cSnd (cSnd (bodyOf Tryd.prog 11)))))))))))))))))))))], ⟨[(2, (.one (.bool v2))), (3, (.one (.bool v3))), (4, (.one (.int .i64 v4))), (5, (.one (.int .i64 v5))), (6, (.one (.int .i64 v6))), (7, (.one (.int .i64 v7))), (8, (.one (.int .i64 v8))), (9, (.one (.int .i64 v9))), (10, (.one (.ref (.int .i64) 8 0 (List.length h8) true))), (11, (.one (.int .i64 v11))), (30, (.one (.bool v30))), (31, (.one (.bool v31)))], [(8, some (.row (.int .i64) true h8))], 9⟩⟩
theorem bitloftlaw36_BoundNames_eq : bitloftlaw36_BoundNames = (
  (bitloftlaw36_both ((0 : Int), ((16 : Int), ())) ((ByteArray.mk #[97]), ((1 : Int), ((List.replicate 20 (0 : Int)), ()))) (94 : Int) (94 : Int)).bind fun (r1 : (Bool)) =>
  if r1 = true then
    (bitloftlaw36_both ((0 : Int), ((16 : Int), ())) ((ByteArray.mk #[97]), ((4 : Int), ((List.replicate 20 (0 : Int)), ()))) (97 : Int) (97 : Int)).bind fun (r2 : (Bool)) =>
    if r2 = true then
      (bitloftlaw36_both ((0 : Int), ((16 : Int), ())) ((ByteArray.mk #[97]), ((5 : Int), ((List.replicate 20 (0 : Int)), ()))) (97 : Int) (98 : Int)).bind fun (r3 : (Bool)) =>
      if r3 = true then
        (bitloftlaw36_both ((0 : Int), ((16 : Int), ())) ((ByteArray.mk #[97]), ((16 : Int), ((List.replicate 20 (0 : Int)), ()))) (97 : Int) (109 : Int)).bind fun (r4 : (Bool)) =>
        if r4 = true then
          (bitloftlaw36_both ((0 : Int), ((16 : Int), ())) ((ByteArray.mk #[97]), ((17 : Int), ((List.replicate 20 (0 : Int)), ()))) (139 : Int) (151 : Int)).bind fun (r5 : (Bool)) =>
          if r5 = true then
            (bitloftref36_Named (ByteArray.mk #[97]) (0 : Int)).bind fun (r6 : (D_api_Record)) =>
            (bitloftlaw36_both ((0 : Int), ((16 : Int), ())) r6 (52 : Int) (52 : Int)).bind fun (r7 : (Bool)) =>
            bitloftlaw36_BoundNames_c1 r7 ((0 : Int), ((16 : Int), ()))
          else
            bitloftlaw36_BoundNames_c1 false ((0 : Int), ((16 : Int), ()))
        else
          bitloftlaw36_BoundNames_c1 false ((0 : Int), ((16 : Int), ()))
      else
        bitloftlaw36_BoundNames_c1 false ((0 : Int), ((16 : Int), ()))
    else
      bitloftlaw36_BoundNames_c1 false ((0 : Int), ((16 : Int), ()))
  else
    bitloftlaw36_BoundNames_c1 false ((0 : Int), ((16 : Int), ()))) := (FnI.call_eq (by kernel_rfl)).trans (by kernel_rfl)
theorem bitloftlaw36_BoundNames_c1_eq (v2 : Bool) (b8 : D_api_Settings) : bitloftlaw36_BoundNames_c1 v2 b8 = (
  (bitloftlaw36_both ((7 : Int), ((4096 : Int), ())) ((ByteArray.mk #[97]), ((8192 : Int), ((List.replicate 20 (0 : Int)), ()))) (142 : Int) (8326 : Int)).bind fun (r8 : (Bool)) =>
  if r8 = true then
    (bitloftlaw36_both b8 ((ByteArray.mk #[97]), ((8192 : Int), ((List.replicate 20 (0 : Int)), ()))) (23092 : Int) (29236 : Int)).bind fun (r9 : (Bool)) =>
    bitloftlaw36_BoundNames_c2 v2 r9 b8
  else
    bitloftlaw36_BoundNames_c2 v2 false b8) := (FnI.sem_eq _).trans (by kernel_rfl)
theorem bitloftlaw36_BoundNames_c2_eq (v2 : Bool) (v3 : Bool) (b8 : D_api_Settings) : bitloftlaw36_BoundNames_c2 v2 v3 b8 = (
  (bound_Greatest b8 []).bind fun (r10 : (Int × Int)) =>
  (bound_Least b8 []).bind fun (r11 : (Int × Int)) =>
  (bound_Count b8 []).bind fun (r12 : (Int × Int)) =>
  (bound_Sizes b8 [((ByteArray.mk #[97]), ((32 : Int), ((List.replicate 20 (0 : Int)), ()))), ((ByteArray.mk #[98]), ((33 : Int), ((List.replicate 20 (0 : Int)), ())))]).bind fun (r13 : (List Int × Int)) =>
  gd ((17 : Int) = (17 : Int)) <|
  gd (0 ≤ (17 : Int)) <|
  gd ((17 : Int) * 48 ≤ 140737488355328) <|
  gd ((17 : Int) ≤ 9223372036854775807) <|
  (bound_Greatest ((0 : Int), ((0 : Int), ())) (List.replicate 17 (pzero T_api_Record))).bind fun (r14 : (Int × Int)) =>
  gd ((17 : Int) = (17 : Int)) <|
  gd (0 ≤ (17 : Int)) <|
  gd ((17 : Int) * 48 ≤ 140737488355328) <|
  gd ((17 : Int) ≤ 9223372036854775807) <|
  (bound_Least b8 (List.replicate 17 (pzero T_api_Record))).bind fun (r15 : (Int × Int)) =>
  (bound_Count b8 [((ByteArray.mk #[97]), ((-1 : Int), ((List.replicate 20 (0 : Int)), ())))]).bind fun (r16 : (Int × Int)) =>
  (bound_Sizes b8 [((ByteArray.mk #[97]), ((1 : Int), ((List.replicate 20 (0 : Int)), ()))), ((ByteArray.mk #[97]), ((1 : Int), ((List.replicate 20 (0 : Int)), ())))]).bind fun (r17 : (List Int × Int)) =>
  (bound_Room ((0 : Int), ((15 : Int), ())) (ByteArray.mk #[]) (0 : Int)).bind fun (r18 : (Int × Int)) =>
  (bound_Room b8 (ByteArray.mk #[]) (0 : Int)).bind fun (r19 : (Int × Int)) =>
  (bound_Room b8 (ByteArray.mk #[97, 32, 98]) (9999 : Int)).bind fun (r20 : (Int × Int)) =>
  (bound_Room b8 (ByteArray.mk #[97]) (-9223372036854775808 : Int)).bind fun (r21 : (Int × Int)) =>
  (bound_Saved_v2 ((0 : Int), ((0 : Int), ())) ()).bind fun (r22 : (Int × Int)) =>
  bitloftlaw36_BoundNames_c3 v2 v3 r10.1 r10.2 r11.1 r11.2 r12.1 r12.2 r13.2 r14.2 r15.2 r16.2 r17.2 r18.2 r19.2 r20.2 r21.2 r22.2 b8 r13.1) := (FnI.sem_eq _).trans (by kernel_rfl)
theorem bitloftlaw36_BoundNames_c3_eq (v2 : Bool) (v3 : Bool) (v4 : Int) (v5 : Int) (v6 : Int) (v7 : Int) (v8 : Int) (v9 : Int) (v11 : Int) (v13 : Int) (v15 : Int) (v17 : Int) (v19 : Int) (v21 : Int) (v23 : Int) (v25 : Int) (v27 : Int) (v29 : Int) (b8 : D_api_Settings) (h9 : List Int) : bitloftlaw36_BoundNames_c3 v2 v3 v4 v5 v6 v7 v8 v9 v11 v13 v15 v17 v19 v21 v23 v25 v27 v29 b8 h9 = (
  if (v13 == (2 : Int)) = true then
    if (v15 == (4 : Int)) = true then
      if (v17 == (8 : Int)) = true then
        if (v19 == (14 : Int)) = true then
          if (v21 == (2 : Int)) = true then
            if (v23 == (8 : Int)) = true then
              if (v25 == (8 : Int)) = true then
                if (v27 == (6 : Int)) = true then
                  bitloftlaw36_BoundNames_c4 v2 v3 v4 v5 v6 v7 v8 v9 v11 (v29 == (8 : Int)) b8 h9
                else
                  bitloftlaw36_BoundNames_c4 v2 v3 v4 v5 v6 v7 v8 v9 v11 false b8 h9
              else
                bitloftlaw36_BoundNames_c4 v2 v3 v4 v5 v6 v7 v8 v9 v11 false b8 h9
            else
              bitloftlaw36_BoundNames_c4 v2 v3 v4 v5 v6 v7 v8 v9 v11 false b8 h9
          else
            bitloftlaw36_BoundNames_c4 v2 v3 v4 v5 v6 v7 v8 v9 v11 false b8 h9
        else
          bitloftlaw36_BoundNames_c4 v2 v3 v4 v5 v6 v7 v8 v9 v11 false b8 h9
      else
        bitloftlaw36_BoundNames_c4 v2 v3 v4 v5 v6 v7 v8 v9 v11 false b8 h9
    else
      bitloftlaw36_BoundNames_c4 v2 v3 v4 v5 v6 v7 v8 v9 v11 false b8 h9
  else
    bitloftlaw36_BoundNames_c4 v2 v3 v4 v5 v6 v7 v8 v9 v11 false b8 h9) := (FnI.sem_eq _).trans (by kernel_rfl)
theorem bitloftlaw36_BoundNames_c4_eq (v2 : Bool) (v3 : Bool) (v4 : Int) (v5 : Int) (v6 : Int) (v7 : Int) (v8 : Int) (v9 : Int) (v11 : Int) (v30 : Bool) (b8 : D_api_Settings) (h9 : List Int) : bitloftlaw36_BoundNames_c4 v2 v3 v4 v5 v6 v7 v8 v9 v11 v30 b8 h9 = (
  (bitloftlaw36_room b8 (ByteArray.mk #[97]) (9223372036854775807 : Int) (8192 : Int)).bind fun (r23 : (Bool)) =>
  if r23 = true then
    (bitloftlaw36_room b8 (ByteArray.mk #[97]) (29236 : Int) (8192 : Int)).bind fun (r24 : (Bool)) =>
    if r24 = true then
      (bitloftlaw36_room b8 (ByteArray.mk #[97]) (29235 : Int) (8191 : Int)).bind fun (r25 : (Bool)) =>
      if r25 = true then
        (bitloftlaw36_room b8 (ByteArray.mk #[97]) (109 : Int) (16 : Int)).bind fun (r26 : (Bool)) =>
        if r26 = true then
          (bitloftlaw36_room b8 (ByteArray.mk #[97]) (150 : Int) (16 : Int)).bind fun (r27 : (Bool)) =>
          if r27 = true then
            (bitloftlaw36_room b8 (ByteArray.mk #[97]) (151 : Int) (17 : Int)).bind fun (r28 : (Bool)) =>
            if r28 = true then
              (bitloftlaw36_room ((0 : Int), ((4096 : Int), ())) (ByteArray.mk #[97]) (93 : Int) (0 : Int)).bind fun (r29 : (Bool)) =>
              bitloftlaw36_BoundNames_c5 v2 v3 v4 v5 v6 v7 v8 v9 v11 v30 r29 h9
            else
              bitloftlaw36_BoundNames_c5 v2 v3 v4 v5 v6 v7 v8 v9 v11 v30 false h9
          else
            bitloftlaw36_BoundNames_c5 v2 v3 v4 v5 v6 v7 v8 v9 v11 v30 false h9
        else
          bitloftlaw36_BoundNames_c5 v2 v3 v4 v5 v6 v7 v8 v9 v11 v30 false h9
      else
        bitloftlaw36_BoundNames_c5 v2 v3 v4 v5 v6 v7 v8 v9 v11 v30 false h9
    else
      bitloftlaw36_BoundNames_c5 v2 v3 v4 v5 v6 v7 v8 v9 v11 v30 false h9
  else
    bitloftlaw36_BoundNames_c5 v2 v3 v4 v5 v6 v7 v8 v9 v11 v30 false h9) := (FnI.sem_eq _).trans (by kernel_rfl)
theorem bitloftlaw36_BoundNames_c5_eq (v2 : Bool) (v3 : Bool) (v4 : Int) (v5 : Int) (v6 : Int) (v7 : Int) (v8 : Int) (v9 : Int) (v11 : Int) (v30 : Bool) (v31 : Bool) (h8 : List Int) : bitloftlaw36_BoundNames_c5 v2 v3 v4 v5 v6 v7 v8 v9 v11 v30 v31 h8 = (
  if v2 = true then
    if v3 = true then
      if (v5 == (0 : Int)) = true then
        if (v4 == (28 : Int)) = true then
          if (v7 == (0 : Int)) = true then
            if (v6 == (28 : Int)) = true then
              if (v9 == (0 : Int)) = true then
                if (v8 == (0 : Int)) = true then
                  if (v11 == (0 : Int)) = true then
                    if ((Int.ofNat (List.length h8)) == (2 : Int)) = true then
                      gd (0 ≤ (0 : Int)) <|
                      gd ((0 : Int) < (Int.ofNat (List.length h8))) <|
                      if ((List.getD h8 0 (0 : Int)) == (2 : Int)) = true then
                        gd (0 ≤ (1 : Int)) <|
                        gd ((1 : Int) < (Int.ofNat (List.length h8))) <|
                        if ((List.getD h8 1 (0 : Int)) == (3 : Int)) = true then
                          if v30 = true then
                            if v31 = true then
                              (bitloftlaw36_alive).bind fun (r30 : (Bool)) =>
                              some (r30)
                            else
                              some (false)
                          else
                            some (false)
                        else
                          some (false)
                      else
                        some (false)
                    else
                      some (false)
                  else
                    some (false)
                else
                  some (false)
              else
                some (false)
            else
              some (false)
          else
            some (false)
        else
          some (false)
      else
        some (false)
    else
      some (false)
  else
    some (false)) := (FnI.sem_eq _).trans (by kernel_rfl)
noncomputable def bitloftlaw36_BoundNames_S (acc : List AV → Bool) : Summ Tryd.prog GT := bitloftlaw36_BoundNames_I.summ mixed acc false false
end Go.Ab
