/-
  What the functions compute, as plain functions: printed by a program of this repo's own and checked here by the kernel.
-/
import Derived.Test.YtbgokmkefnepcaaGreatDoorGenRd
set_option linter.unusedVariables false
set_option maxRecDepth 20000
namespace Go.Ab
open Go Go.Proofs
noncomputable def codec_each_S (acc : List AV → Bool) : Summ Tryz.prog GT := { f := 43, acc := acc, rows := false, nils := false, R := each_R, fn := codec_each_fn, res := fun _ => .tup [], post := each_post, drop := false, ok := fun _ _ _ h => codec_each_ok h }
/-! bitloft/encoder.end -/
noncomputable def encoder_end_I : FnI Tryz.prog GT := { f := 81, cuts := [], tab := [slices_Clone_byte_byte_S (fun _ => true)], fm := ⟨true, [.val (.slice (.int .u8)) [.nw]]⟩ }
noncomputable def encoder_end (a0 : D_api_Encoder) : Option (List Int) := encoder_end_I.call [(.agg T_api_Encoder (inj false T_api_Encoder a0))] []
theorem encoder_end_eq (a0 : D_api_Encoder) : encoder_end a0 = (
  (slices_Clone_byte_byte a0.2.2.1).bind fun (r1 : (List Int)) =>
  gd (0 ≤ (24 : Int)) <|
  gd (0 ≤ (16 : Int)) <|
  gd (0 ≤ (8 : Int)) <|
  gd ((List.length (r1 ++ [(IntKind.wrap .u8 (Int.fdiv a0.1 (16777216 : Int))), (IntKind.wrap .u8 (Int.fdiv a0.1 (65536 : Int))), (IntKind.wrap .u8 (Int.fdiv a0.1 (256 : Int))), (IntKind.wrap .u8 a0.1)])) * 1 ≤ 140737488355328) <|
  some (r1 ++ [(IntKind.wrap .u8 (Int.fdiv a0.1 (16777216 : Int))), (IntKind.wrap .u8 (Int.fdiv a0.1 (65536 : Int))), (IntKind.wrap .u8 (Int.fdiv a0.1 (256 : Int))), (IntKind.wrap .u8 a0.1)])) := (FnI.call_eq (by kernel_rfl)).trans (by kernel_rfl)
noncomputable def encoder_end_S (acc : List AV → Bool) : Summ Tryz.prog GT := encoder_end_I.summ mixed acc false false

/-! bitloft/encoder.End -/
noncomputable def encoder_End_I : FnI Tryz.prog GT := { f := 46, cuts := [], tab := [encoder_Check_S (fun _ => true), encoder_end_S (fun _ => true)], fm := ⟨true, [.val (.slice (.int .u8)) [.nw], .val (.int .i64) []]⟩ }
noncomputable def encoder_End (a0 : D_api_Encoder) : Option (List Int × Int) := encoder_End_I.call [(.agg T_api_Encoder (inj false T_api_Encoder a0))] []
theorem encoder_End_eq (a0 : D_api_Encoder) : encoder_End a0 = (
  (encoder_Check a0).bind fun (r1 : (Int)) =>
  if (r1 != (0 : Int)) = true then
    some ([], r1)
  else
    if (decide ((Int.ofNat (List.length a0.2.2.1)) > (19996 : Int))) = true then
      some ([], (4 : Int))
    else
      (encoder_end a0).bind fun (r2 : (List Int)) =>
      some (r2, (0 : Int))) := (FnI.call_eq (by kernel_rfl)).trans (by kernel_rfl)
noncomputable def encoder_End_S (acc : List AV → Bool) : Summ Tryz.prog GT := encoder_End_I.summ mixed acc false false

/-! bitloft/codec.Encode -/
noncomputable def codec_Encode_I : FnI Tryz.prog GT := { f := 20, cuts := [], tab := [(codec_start_S (fun _ => true)).dropping, encoder_New_S (fun _ => true), (codec_each_S (fun _ => true)).dropping, encoder_End_S (fun _ => true)], fm := ⟨true, [.val (.slice (.int .u8)) [.nw], .val (.int .i64) []]⟩ }
noncomputable def codec_Encode (a0 : Int) (a1 : List Int) : Option (List Int × Int) := codec_Encode_I.call [(.int .i64 a0), (.sl (.int .u8) false a1)] []
theorem codec_Encode_eq (a0 : Int) (a1 : List Int) : codec_Encode a0 a1 = (
  (codec_start a0 (Int.ofNat (List.length a1))).bind fun (r1 : (D_api_Predictor × Int)) =>
  if (r1.2 != (0 : Int)) = true then
    some ([], r1.2)
  else
    (encoder_New).bind fun (r2 : (D_api_Encoder)) =>
    (codec_each r1.1 a1 r1.2 r2).bind fun (r3 : (Int × D_api_Encoder)) =>
    if (r3.1 != (0 : Int)) = true then
      some ([], (4 : Int))
    else
      (encoder_End r3.2).bind fun (r4 : (List Int × Int)) =>
      some (r4)) := (FnI.call_eq (by kernel_rfl)).trans (by kernel_rfl)
noncomputable def codec_Encode_S (acc : List AV → Bool) : Summ Tryz.prog GT := codec_Encode_I.summ mixed acc false false

/-! bitloft/header.front -/
noncomputable def header_front_I : FnI Tryz.prog GT := { f := 55, cuts := [⟨(3, 3), [3, 18, 19], false, false, []⟩, ⟨(6, 7), [3, 4, 5, 18, 19, 25, 26], false, false, []⟩], tab := [], fm := ⟨true, [.val (.slice (.int .u8)) [.nw]]⟩ }
noncomputable def header_front (a0 : D_api_BlockHead) : Option (List Int) := header_front_I.call [(.agg T_api_BlockHead (inj false T_api_BlockHead a0))] []
noncomputable def header_front_c1 (v18 : (List Int)) (v19 : Int) (h8 : List Int) : Option (List Int) := header_front_I.sem ⟨[.code (cIn (cIn (cSnd (cFst (cSnd (cSnd (bodyOf Tryz.prog 55))))))), .inLoop (cIn (cIn (cSnd (cFst (cSnd (cSnd (bodyOf Tryz.prog 55))))))), .inBlock 0, .code (cSnd (cSnd (cSnd (bodyOf Tryz.prog 55))))], ⟨[(3, (.one (.ref (.int .u8) 8 0 (List.length h8) true))), (18, (.one (.agg (.arr 5 (.int .i64)) v18))), (19, (.one (.int .i64 v19)))], [(8, some (.row (.int .u8) true h8))], 9⟩⟩
noncomputable def header_front_c2 (v4 : Int) (v5 : Int) (v18 : (List Int)) (v19 : Int) (v25 : Int) (v26 : Int) (h8 : List Int) : Option (List Int) := header_front_I.sem ⟨[.code (cIn (cIn (cSnd (cSnd (cIn (cFst (cSnd (cSnd (cIn (cIn (cSnd (cFst (cSnd (cSnd (bodyOf Tryz.prog 55))))))))))))))), .inLoop (cIn (cIn (cSnd (cSnd (cIn (cFst (cSnd (cSnd (cIn (cIn (cSnd (cFst (cSnd (cSnd (bodyOf Tryz.prog 55))))))))))))))), .inBlock 2, .inBlock 1, .code (cSnd (cSnd (cSnd (cIn (cIn (cSnd (cFst (cSnd (cSnd (bodyOf Tryz.prog 55)))))))))), .inLoop (cIn (cIn (cSnd (cFst (cSnd (cSnd (bodyOf Tryz.prog 55))))))), .inBlock 0, .code (cSnd (cSnd (cSnd (bodyOf Tryz.prog 55))))], ⟨[(3, (.one (.ref (.int .u8) 8 0 (List.length h8) true))), (4, (.one (.int .i64 v4))), (5, (.one (.int .i64 v5))), (18, (.one (.agg (.arr 5 (.int .i64)) v18))), (19, (.one (.int .i64 v19))), (25, (.one (.int .i64 v25))), (26, (.one (.int .i64 v26)))], [(8, some (.row (.int .u8) true h8))], 9⟩⟩
theorem header_front_eq (a0 : D_api_BlockHead) : header_front a0 = (
  header_front_c1 (List.set (List.set (List.set (List.set (List.set (List.replicate 5 (0 : Int)) 0 (IntKind.wrap .i64 a0.1)) 1 a0.2.1) 2 a0.2.2.1) 3 a0.2.2.2.1) 4 a0.2.2.2.2.1) (0 : Int) []) := (FnI.call_eq (by kernel_rfl)).trans (by kernel_rfl)
theorem header_front_c1_eq (v18 : (List Int)) (v19 : Int) (h8 : List Int) : header_front_c1 v18 v19 h8 = (
  if (decide (v19 < (5 : Int))) = true then
    gd (0 ≤ v19) <|
    gd (v19 < (5 : Int)) <|
    gd (0 ≤ v19) <|
    gd (v19 < (5 : Int)) <|
    header_front_c2 v19 (List.getD v18 (Int.toNat v19) (0 : Int)) v18 v19 (List.getD G_widths (Int.toNat v19) (0 : Int)) (0 : Int) h8
  else
    some (h8)) := (FnI.sem_eq _).trans (by kernel_rfl)
theorem header_front_c2_eq (v4 : Int) (v5 : Int) (v18 : (List Int)) (v19 : Int) (v25 : Int) (v26 : Int) (h8 : List Int) : header_front_c2 v4 v5 v18 v19 v25 v26 h8 = (
  if (decide (v26 < v25)) = true then
    gd (0 ≤ v4) <|
    gd (v4 < (5 : Int)) <|
    gd (0 ≤ (IntKind.wrap .i64 ((8 : Int) * (IntKind.wrap .i64 ((IntKind.wrap .i64 ((List.getD G_widths (Int.toNat v4) (0 : Int)) - (1 : Int))) - v26))))) <|
    gd ((List.length (h8 ++ [(IntKind.wrap .u8 (shrBy .i64 v5 (IntKind.wrap .i64 ((8 : Int) * (IntKind.wrap .i64 ((IntKind.wrap .i64 ((List.getD G_widths (Int.toNat v4) (0 : Int)) - (1 : Int))) - v26))))))])) * 1 ≤ 140737488355328) <|
    header_front_c2 v4 v5 v18 v19 v25 (IntKind.wrap .i64 (v26 + (1 : Int))) (h8 ++ [(IntKind.wrap .u8 (shrBy .i64 v5 (IntKind.wrap .i64 ((8 : Int) * (IntKind.wrap .i64 ((IntKind.wrap .i64 ((List.getD G_widths (Int.toNat v4) (0 : Int)) - (1 : Int))) - v26))))))])
  else
    header_front_c1 v18 (IntKind.wrap .i64 (v19 + (1 : Int))) h8) := (FnI.sem_eq _).trans (by kernel_rfl)
noncomputable def header_front_S (acc : List AV → Bool) : Summ Tryz.prog GT := header_front_I.summ mixed acc false false

/-! bitloft/sha.pad -/
noncomputable def sha_pad_I : FnI Tryz.prog GT := { f := 51, cuts := [⟨(3, 3), [0, 3, 4], false, false, []⟩], tab := [], fm := ⟨true, [.val (.slice (.int .u8)) [.nw]]⟩ }
noncomputable def sha_pad (a0 : Int) : Option (List Int) := sha_pad_I.call [(.int .i64 a0)] []
noncomputable def sha_pad_c1 (v0 : Int) (v4 : Int) (h8 : List Int) : Option (List Int) := sha_pad_I.sem ⟨[.code (cIn (cIn (cSnd (cFst (cSnd (cSnd (bodyOf Tryz.prog 51))))))), .inLoop (cIn (cIn (cSnd (cFst (cSnd (cSnd (bodyOf Tryz.prog 51))))))), .inBlock 0, .code (cSnd (cSnd (cSnd (bodyOf Tryz.prog 51))))], ⟨[(0, (.one (.int .i64 v0))), (3, (.one (.ref (.int .u8) 8 0 (List.length h8) true))), (4, (.one (.int .i64 v4)))], [(8, some (.row (.int .u8) true h8))], 9⟩⟩
theorem sha_pad_eq (a0 : Int) : sha_pad a0 = (
  gd ((64 : Int) ≠ 0) <|
  gd ((64 : Int) ≠ 0) <|
  gd (0 ≤ (Int.tmod (IntKind.wrap .i64 ((119 : Int) - (Int.tmod a0 (64 : Int)))) (64 : Int))) <|
  gd ((Int.tmod (IntKind.wrap .i64 ((119 : Int) - (Int.tmod a0 (64 : Int)))) (64 : Int)) * 1 ≤ 140737488355328) <|
  gd ((Int.tmod (IntKind.wrap .i64 ((119 : Int) - (Int.tmod a0 (64 : Int)))) (64 : Int)) ≤ 9223372036854775807) <|
  gd ((List.length ([(128 : Int)] ++ (List.replicate (Int.toNat (Int.tmod (IntKind.wrap .i64 ((119 : Int) - (Int.tmod a0 (64 : Int)))) (64 : Int))) (0 : Int)))) * 1 ≤ 140737488355328) <|
  sha_pad_c1 a0 (56 : Int) ([(128 : Int)] ++ (List.replicate (Int.toNat (Int.tmod (IntKind.wrap .i64 ((119 : Int) - (Int.tmod a0 (64 : Int)))) (64 : Int))) (0 : Int)))) := (FnI.call_eq (by kernel_rfl)).trans (by kernel_rfl)
theorem sha_pad_c1_eq (v0 : Int) (v4 : Int) (h8 : List Int) : sha_pad_c1 v0 v4 h8 = (
  if (decide (v4 ≥ (0 : Int))) = true then
    gd (0 ≤ v4) <|
    gd ((List.length (h8 ++ [(IntKind.wrap .u8 (shrBy .u64 (IntKind.wrap .u64 ((IntKind.wrap .u64 v0) * (8 : Int))) v4))])) * 1 ≤ 140737488355328) <|
    sha_pad_c1 v0 (IntKind.wrap .i64 (v4 - (8 : Int))) (h8 ++ [(IntKind.wrap .u8 (shrBy .u64 (IntKind.wrap .u64 ((IntKind.wrap .u64 v0) * (8 : Int))) v4))])
  else
    some (h8)) := (FnI.sem_eq _).trans (by kernel_rfl)
noncomputable def sha_pad_S (acc : List AV → Bool) : Summ Tryz.prog GT := sha_pad_I.summ mixed acc false false

/-! slices.Grow[[]byte,byte] -/
noncomputable def slices_Grow_byte_byte_I : FnI Tryz.prog GT := { f := 86, cuts := [], tab := [], fm := ⟨true, [.part (.int .u8)]⟩ }
noncomputable def slices_Grow_byte_byte (a1 : Int) : Option (List Int × Nat × Nat) := slices_Grow_byte_byte_I.call [.nil, (.int .i64 a1)] []
theorem slices_Grow_byte_byte_eq (a1 : Int) : slices_Grow_byte_byte a1 = (
  if (decide (a1 < (0 : Int))) = true then
    none
  else
    if (decide ((IntKind.wrap .i64 (a1 - (0 : Int))) > (0 : Int))) = true then
      gd (0 ≤ (0 : Int)) <|
      gd ((0 : Int) ≤ (0 : Int)) <|
      gd (0 ≤ (IntKind.wrap .i64 (a1 - (0 : Int)))) <|
      gd ((IntKind.wrap .i64 (a1 - (0 : Int))) * 1 ≤ 140737488355328) <|
      gd ((IntKind.wrap .i64 (a1 - (0 : Int))) ≤ 9223372036854775807) <|
      gd ((List.length (List.replicate (Int.toNat (IntKind.wrap .i64 (a1 - (0 : Int)))) (0 : Int))) * 1 ≤ 140737488355328) <|
      gd (0 ≤ (0 : Int)) <|
      gd ((0 : Int) ≤ (Int.ofNat (List.length (List.replicate (Int.toNat (IntKind.wrap .i64 (a1 - (0 : Int)))) (0 : Int))))) <|
      some ((List.replicate (Int.toNat (IntKind.wrap .i64 (a1 - (0 : Int)))) (0 : Int)), (0, 0))
    else
      some ([], (0, 0))) := (FnI.call_eq (by kernel_rfl)).trans (by kernel_rfl)
noncomputable def slices_Grow_byte_byte_S (acc : List AV → Bool) : Summ Tryz.prog GT := slices_Grow_byte_byte_I.summ mixed acc false true

/-! slices.Concat[[]byte,byte] -/
noncomputable def slices_Concat_byte_byte_I : FnI Tryz.prog GT := { f := 50, cuts := [⟨(3, 3), [0, 3, 9, 10, 11], false, false, []⟩, ⟨(11, 3), [6, 25, 26, 27], false, false, []⟩], tab := [slices_Grow_byte_byte_S (fun _ => true)], fm := ⟨true, [.val (.slice (.int .u8)) [.pu]]⟩ }
noncomputable def slices_Concat_byte_byte (a0 : List (List Int)) : Option (List Int) := slices_Concat_byte_byte_I.call [(.sl (.slice (.int .u8)) false a0)] []
noncomputable def slices_Concat_byte_byte_c1 (v0 : List (List Int)) (v3 : Int) (v9 : List (List Int)) (v10 : Int) (v11 : Int) : Option (List Int) := slices_Concat_byte_byte_I.sem ⟨[.code (cIn (cIn (cSnd (cFst (cSnd (cSnd (bodyOf Tryz.prog 50))))))), .inLoop (cIn (cIn (cSnd (cFst (cSnd (cSnd (bodyOf Tryz.prog 50))))))), .inBlock 0, .code (cSnd (cSnd (cSnd (bodyOf Tryz.prog 50))))], ⟨[(0, (.one (.sl (.slice (.int .u8)) false v0))), (3, (.one (.int .i64 v3))), (9, (.one (.sl (.slice (.int .u8)) false v9))), (10, (.one (.int .i64 v10))), (11, (.one (.int .i64 v11)))], [], 8⟩⟩
noncomputable def slices_Concat_byte_byte_c2 (v6o : Nat) (v6n : Nat) (v25 : List (List Int)) (v26 : Int) (v27 : Int) (h8 : List Int) : Option (List Int) := slices_Concat_byte_byte_I.sem ⟨[.code (cIn (cIn (cSnd (cFst (cSnd (cSnd (cSnd (cSnd (bodyOf Tryz.prog 50))))))))), .inLoop (cIn (cIn (cSnd (cFst (cSnd (cSnd (cSnd (cSnd (bodyOf Tryz.prog 50))))))))), .inBlock 2, .code (cSnd (cSnd (cSnd (cSnd (cSnd (bodyOf Tryz.prog 50))))))], ⟨[(6, (.one (.ref (.int .u8) 8 v6o v6n false))), (25, (.one (.sl (.slice (.int .u8)) false v25))), (26, (.one (.int .i64 v26))), (27, (.one (.int .i64 v27)))], [(8, some (.row (.int .u8) true h8))], 9⟩⟩
noncomputable def slices_Concat_byte_byte_c3 (v25 : List (List Int)) (v26 : Int) (v27 : Int) (h8 : List Int) : Option (List Int) := slices_Concat_byte_byte_I.sem ⟨[.code (cIn (cIn (cSnd (cFst (cSnd (cSnd (cSnd (cSnd (bodyOf Tryz.prog 50))))))))), .inLoop (cIn (cIn (cSnd (cFst (cSnd (cSnd (cSnd (cSnd (bodyOf Tryz.prog 50))))))))), .inBlock 2, .code (cSnd (cSnd (cSnd (cSnd (cSnd (bodyOf Tryz.prog 50))))))], ⟨[(6, (.one (.ref (.int .u8) 8 0 (List.length h8) true))), (25, (.one (.sl (.slice (.int .u8)) false v25))), (26, (.one (.int .i64 v26))), (27, (.one (.int .i64 v27)))], [(8, some (.row (.int .u8) true h8))], 9⟩⟩
theorem slices_Concat_byte_byte_eq (a0 : List (List Int)) : slices_Concat_byte_byte a0 = (
  slices_Concat_byte_byte_c1 a0 (0 : Int) a0 (Int.ofNat (List.length a0)) (0 : Int)) := (FnI.call_eq (by kernel_rfl)).trans (by kernel_rfl)
theorem slices_Concat_byte_byte_c1_eq (v0 : List (List Int)) (v3 : Int) (v9 : List (List Int)) (v10 : Int) (v11 : Int) : slices_Concat_byte_byte_c1 v0 v3 v9 v10 v11 = (
  if (decide (v11 < v10)) = true then
    gd (0 ≤ v11) <|
    gd (v11 < (Int.ofNat (List.length v9))) <|
    if (decide ((IntKind.wrap .i64 (v3 + (Int.ofNat (List.length (List.getD v9 (Int.toNat v11) []))))) < (0 : Int))) = true then
      none
    else
      slices_Concat_byte_byte_c1 v0 (IntKind.wrap .i64 (v3 + (Int.ofNat (List.length (List.getD v9 (Int.toNat v11) []))))) v9 v10 (IntKind.wrap .i64 (v11 + (1 : Int)))
  else
    (slices_Grow_byte_byte v3).bind fun (r1 : (List Int × Nat × Nat)) =>
    slices_Concat_byte_byte_c2 r1.2.1 r1.2.2 v0 (Int.ofNat (List.length v0)) (0 : Int) r1.1) := (FnI.sem_eq _).trans (by kernel_rfl)
theorem slices_Concat_byte_byte_c2_eq (v6o : Nat) (v6n : Nat) (v25 : List (List Int)) (v26 : Int) (v27 : Int) (h8 : List Int) : slices_Concat_byte_byte_c2 v6o v6n v25 v26 v27 h8 = (
  if (decide (v27 < v26)) = true then
    gd (0 ≤ v27) <|
    gd (v27 < (Int.ofNat (List.length v25))) <|
    gd ((List.length ((List.take v6n (List.drop v6o h8)) ++ (List.getD v25 (Int.toNat v27) []))) * 1 ≤ 140737488355328) <|
    slices_Concat_byte_byte_c3 v25 v26 (IntKind.wrap .i64 (v27 + (1 : Int))) ((List.take v6n (List.drop v6o h8)) ++ (List.getD v25 (Int.toNat v27) []))
  else
    some (List.take v6n (List.drop v6o h8))) := (FnI.sem_eq _).trans (by kernel_rfl)
theorem slices_Concat_byte_byte_c3_eq (v25 : List (List Int)) (v26 : Int) (v27 : Int) (h8 : List Int) : slices_Concat_byte_byte_c3 v25 v26 v27 h8 = (
  if (decide (v27 < v26)) = true then
    gd (0 ≤ v27) <|
    gd (v27 < (Int.ofNat (List.length v25))) <|
    gd ((List.length (h8 ++ (List.getD v25 (Int.toNat v27) []))) * 1 ≤ 140737488355328) <|
    slices_Concat_byte_byte_c3 v25 v26 (IntKind.wrap .i64 (v27 + (1 : Int))) (h8 ++ (List.getD v25 (Int.toNat v27) []))
  else
    some (h8)) := (FnI.sem_eq _).trans (by kernel_rfl)
noncomputable def slices_Concat_byte_byte_S (acc : List AV → Bool) : Summ Tryz.prog GT := slices_Concat_byte_byte_I.summ mixed acc false false

/-! math/bits.RotateLeft32 -/
noncomputable def math_bits_RotateLeft32_I : FnI Tryz.prog GT := { f := 87, cuts := [], tab := [], fm := ⟨true, [.val (.int .u32) []]⟩ }
noncomputable def math_bits_RotateLeft32 (a0 : Int) (a1 : Int) : Option (Int) := math_bits_RotateLeft32_I.call [(.int .u32 a0), (.int .i64 a1)] []
theorem math_bits_RotateLeft32_eq (a0 : Int) (a1 : Int) : math_bits_RotateLeft32 a0 a1 = (
  gd (0 ≤ (bitsAnd .u64 (IntKind.wrap .u64 a1) (31 : Int))) <|
  gd (0 ≤ (IntKind.wrap .u64 ((32 : Int) - (bitsAnd .u64 (IntKind.wrap .u64 a1) (31 : Int))))) <|
  some (bitsOr .u32 (IntKind.wrap .u32 (shlBy .u32 a0 (bitsAnd .u64 (IntKind.wrap .u64 a1) (31 : Int)))) (shrBy .u32 a0 (IntKind.wrap .u64 ((32 : Int) - (bitsAnd .u64 (IntKind.wrap .u64 a1) (31 : Int))))))) := (FnI.call_eq (by kernel_rfl)).trans (by kernel_rfl)
noncomputable def math_bits_RotateLeft32_S (acc : List AV → Bool) : Summ Tryz.prog GT := math_bits_RotateLeft32_I.summ mixed acc false false

/-! bitloft/sha.mix -/
noncomputable def sha_mix_I : FnI Tryz.prog GT := { f := 88, cuts := [], tab := [], fm := ⟨true, [.val (.int .u32) []]⟩ }
noncomputable def sha_mix (a0 : Int) (a1 : Int) (a2 : Int) (a3 : Int) : Option (Int) := sha_mix_I.call [(.int .i64 a0), (.int .u32 a1), (.int .u32 a2), (.int .u32 a3)] []
theorem sha_mix_eq (a0 : Int) (a1 : Int) (a2 : Int) (a3 : Int) : sha_mix a0 a1 a2 a3 = (
  if (a0 == (0 : Int)) = true then
    some (bitsXor .u32 a3 (bitsAnd .u32 a1 (bitsXor .u32 a2 a3)))
  else
    if (a0 == (2 : Int)) = true then
      some (bitsOr .u32 (bitsAnd .u32 a1 a2) (bitsAnd .u32 a3 (bitsOr .u32 a1 a2)))
    else
      some (bitsXor .u32 (bitsXor .u32 a1 a2) a3)) := (FnI.call_eq (by kernel_rfl)).trans (by kernel_rfl)
noncomputable def sha_mix_S (acc : List AV → Bool) : Summ Tryz.prog GT := sha_mix_I.summ mixed acc false false

/-! bitloft/sha.do -/
noncomputable def sha_do_I : FnI Tryz.prog GT := { f := 52, cuts := [⟨(3, 3), [2, 4, 5, 16, 17, 18], false, false, []⟩, ⟨(9, 3), [2, 4, 5, 8, 9, 10, 11, 12, 45], false, false, []⟩], tab := [math_bits_RotateLeft32_S (fun _ => true), sha_mix_S (fun _ => true)], fm := ⟨true, [.val (.arr 5 (.int .u32)) []]⟩ }
noncomputable def sha_do (a0 : (List Int)) (a1 : List Int) : Option ((List Int)) := sha_do_I.call [(.agg (.arr 5 (.int .u32)) a0), (.sl (.int .u8) false a1)] []
noncomputable def sha_do_c1 (v16 : List Int) (v17 : Int) (v18 : Int) (b8 : (List Int)) (b9 : (List Int)) (b10 : (List Int)) : Option ((List Int)) := sha_do_I.sem ⟨[.code (cIn (cIn (cSnd (cFst (cSnd (cSnd (bodyOf Tryz.prog 52))))))), .inLoop (cIn (cIn (cSnd (cFst (cSnd (cSnd (bodyOf Tryz.prog 52))))))), .inBlock 0, .code (cSnd (cSnd (cSnd (bodyOf Tryz.prog 52))))], ⟨[(2, (.one (.ptr (.arr 5 (.int .u32)) 8 []))), (4, (.one (.ptr (.arr 5 (.int .u32)) 9 []))), (5, (.one (.ptr (.arr 16 (.int .u32)) 10 []))), (16, (.one (.sl (.int .u8) false v16))), (17, (.one (.int .i64 v17))), (18, (.one (.int .i64 v18)))], [(8, some (.box (.arr 5 (.int .u32)) b8)), (9, some (.box (.arr 5 (.int .u32)) b9)), (10, some (.box (.arr 16 (.int .u32)) b10))], 11⟩⟩
noncomputable def sha_do_c2 (v8 : Int) (v9 : Int) (v10 : Int) (v11 : Int) (v12 : Int) (v45 : Int) (b8 : (List Int)) (b9 : (List Int)) (b10 : (List Int)) : Option ((List Int)) := sha_do_I.sem ⟨[.code (cIn (cIn (cSnd (cFst (cSnd (cSnd (cSnd (cSnd (bodyOf Tryz.prog 52))))))))), .inLoop (cIn (cIn (cSnd (cFst (cSnd (cSnd (cSnd (cSnd (bodyOf Tryz.prog 52))))))))), .inBlock 2, .code (cSnd (cSnd (cSnd (cSnd (cSnd (bodyOf Tryz.prog 52))))))], ⟨[(2, (.one (.ptr (.arr 5 (.int .u32)) 8 []))), (4, (.one (.ptr (.arr 5 (.int .u32)) 9 []))), (5, (.one (.ptr (.arr 16 (.int .u32)) 10 []))), (8, (.one (.int .u32 v8))), (9, (.one (.int .u32 v9))), (10, (.one (.int .u32 v10))), (11, (.one (.int .u32 v11))), (12, (.one (.int .u32 v12))), (45, (.one (.int .i64 v45)))], [(8, some (.box (.arr 5 (.int .u32)) b8)), (9, some (.box (.arr 5 (.int .u32)) b9)), (10, some (.box (.arr 16 (.int .u32)) b10))], 11⟩⟩
theorem sha_do_eq (a0 : (List Int)) (a1 : List Int) : sha_do a0 a1 = (
  gd (0 ≤ (64 : Int)) <|
  gd ((64 : Int) ≤ (Int.ofNat (List.length a1))) <|
  sha_do_c1 (List.take 64 a1) (Int.ofNat (List.length (List.take 64 a1))) (0 : Int) a0 (List.replicate 5 (0 : Int)) (List.replicate 16 (0 : Int))) := (FnI.call_eq (by kernel_rfl)).trans (by kernel_rfl)
theorem sha_do_c1_eq (v16 : List Int) (v17 : Int) (v18 : Int) (b8 : (List Int)) (b9 : (List Int)) (b10 : (List Int)) : sha_do_c1 v16 v17 v18 b8 b9 b10 = (
  if (decide (v18 < v17)) = true then
    gd (0 ≤ v18) <|
    gd (v18 < (Int.ofNat (List.length v16))) <|
    gd ((4 : Int) ≠ 0) <|
    gd ((4 : Int) ≠ 0) <|
    gd (0 ≤ (IntKind.wrap .i64 (Int.tdiv v18 (4 : Int)))) <|
    gd ((IntKind.wrap .i64 (Int.tdiv v18 (4 : Int))) < (16 : Int)) <|
    gd (0 ≤ (8 : Int)) <|
    gd (0 ≤ (IntKind.wrap .i64 (Int.tdiv v18 (4 : Int)))) <|
    gd ((IntKind.wrap .i64 (Int.tdiv v18 (4 : Int))) < (16 : Int)) <|
    sha_do_c1 v16 v17 (IntKind.wrap .i64 (v18 + (1 : Int))) b8 b9 (List.set b10 (Int.toNat (IntKind.wrap .i64 (Int.tdiv v18 (4 : Int)))) (bitsOr .u32 (IntKind.wrap .u32 ((List.getD b10 (Int.toNat (IntKind.wrap .i64 (Int.tdiv v18 (4 : Int)))) (0 : Int)) * (256 : Int))) (IntKind.wrap .u32 (List.getD v16 (Int.toNat v18) (0 : Int)))))
  else
    gd (0 ≤ (0 : Int)) <|
    gd ((0 : Int) < (5 : Int)) <|
    gd (0 ≤ (1 : Int)) <|
    gd ((1 : Int) < (5 : Int)) <|
    gd (0 ≤ (2 : Int)) <|
    gd ((2 : Int) < (5 : Int)) <|
    gd (0 ≤ (3 : Int)) <|
    gd ((3 : Int) < (5 : Int)) <|
    gd (0 ≤ (4 : Int)) <|
    gd ((4 : Int) < (5 : Int)) <|
    sha_do_c2 (List.getD b8 0 (0 : Int)) (List.getD b8 1 (0 : Int)) (List.getD b8 2 (0 : Int)) (List.getD b8 3 (0 : Int)) (List.getD b8 4 (0 : Int)) (0 : Int) b8 b9 b10) := (FnI.sem_eq _).trans (by kernel_rfl)
theorem sha_do_c2_eq (v8 : Int) (v9 : Int) (v10 : Int) (v11 : Int) (v12 : Int) (v45 : Int) (b8 : (List Int)) (b9 : (List Int)) (b10 : (List Int)) : sha_do_c2 v8 v9 v10 v11 v12 v45 b8 b9 b10 = (
  if (decide (v45 < (80 : Int))) = true then
    if (decide (v45 ≥ (16 : Int))) = true then
      gd ((16 : Int) ≠ 0) <|
      gd ((16 : Int) ≠ 0) <|
      gd (0 ≤ (Int.tmod (IntKind.wrap .i64 (v45 + (13 : Int))) (16 : Int))) <|
      gd ((Int.tmod (IntKind.wrap .i64 (v45 + (13 : Int))) (16 : Int)) < (16 : Int)) <|
      gd ((16 : Int) ≠ 0) <|
      gd (0 ≤ (Int.tmod (IntKind.wrap .i64 (v45 + (8 : Int))) (16 : Int))) <|
      gd ((Int.tmod (IntKind.wrap .i64 (v45 + (8 : Int))) (16 : Int)) < (16 : Int)) <|
      gd ((16 : Int) ≠ 0) <|
      gd (0 ≤ (Int.tmod (IntKind.wrap .i64 (v45 + (2 : Int))) (16 : Int))) <|
      gd ((Int.tmod (IntKind.wrap .i64 (v45 + (2 : Int))) (16 : Int)) < (16 : Int)) <|
      gd ((16 : Int) ≠ 0) <|
      gd (0 ≤ (Int.tmod v45 (16 : Int))) <|
      gd ((Int.tmod v45 (16 : Int)) < (16 : Int)) <|
      (math_bits_RotateLeft32 (bitsXor .u32 (bitsXor .u32 (bitsXor .u32 (List.getD b10 (Int.toNat (Int.tmod (IntKind.wrap .i64 (v45 + (13 : Int))) (16 : Int))) (0 : Int)) (List.getD b10 (Int.toNat (Int.tmod (IntKind.wrap .i64 (v45 + (8 : Int))) (16 : Int))) (0 : Int))) (List.getD b10 (Int.toNat (Int.tmod (IntKind.wrap .i64 (v45 + (2 : Int))) (16 : Int))) (0 : Int))) (List.getD b10 (Int.toNat (Int.tmod v45 (16 : Int))) (0 : Int))) (1 : Int)).bind fun (r1 : (Int)) =>
      gd (0 ≤ (Int.tmod v45 (16 : Int))) <|
      gd ((Int.tmod v45 (16 : Int)) < (16 : Int)) <|
      (math_bits_RotateLeft32 v8 (5 : Int)).bind fun (r2 : (Int)) =>
      gd ((20 : Int) ≠ 0) <|
      (sha_mix (IntKind.wrap .i64 (Int.tdiv v45 (20 : Int))) v9 v10 v11).bind fun (r3 : (Int)) =>
      gd ((20 : Int) ≠ 0) <|
      gd (0 ≤ (IntKind.wrap .i64 (Int.tdiv v45 (20 : Int)))) <|
      gd ((IntKind.wrap .i64 (Int.tdiv v45 (20 : Int))) < (4 : Int)) <|
      gd ((16 : Int) ≠ 0) <|
      gd (0 ≤ (Int.tmod v45 (16 : Int))) <|
      gd ((Int.tmod v45 (16 : Int)) < (16 : Int)) <|
      (math_bits_RotateLeft32 v9 (30 : Int)).bind fun (r4 : (Int)) =>
      sha_do_c2 (IntKind.wrap .u32 ((IntKind.wrap .u32 ((IntKind.wrap .u32 ((IntKind.wrap .u32 (r2 + r3)) + v12)) + (List.getD G_quarters (Int.toNat (IntKind.wrap .i64 (Int.tdiv v45 (20 : Int)))) (0 : Int)))) + (List.getD (List.set b10 (Int.toNat (Int.tmod v45 (16 : Int))) r1) (Int.toNat (Int.tmod v45 (16 : Int))) (0 : Int)))) v8 r4 v10 v11 (IntKind.wrap .i64 (v45 + (1 : Int))) b8 b9 (List.set b10 (Int.toNat (Int.tmod v45 (16 : Int))) r1)
    else
      (math_bits_RotateLeft32 v8 (5 : Int)).bind fun (r5 : (Int)) =>
      gd ((20 : Int) ≠ 0) <|
      (sha_mix (IntKind.wrap .i64 (Int.tdiv v45 (20 : Int))) v9 v10 v11).bind fun (r6 : (Int)) =>
      gd ((20 : Int) ≠ 0) <|
      gd (0 ≤ (IntKind.wrap .i64 (Int.tdiv v45 (20 : Int)))) <|
      gd ((IntKind.wrap .i64 (Int.tdiv v45 (20 : Int))) < (4 : Int)) <|
      gd ((16 : Int) ≠ 0) <|
      gd (0 ≤ (Int.tmod v45 (16 : Int))) <|
      gd ((Int.tmod v45 (16 : Int)) < (16 : Int)) <|
      (math_bits_RotateLeft32 v9 (30 : Int)).bind fun (r7 : (Int)) =>
      sha_do_c2 (IntKind.wrap .u32 ((IntKind.wrap .u32 ((IntKind.wrap .u32 ((IntKind.wrap .u32 (r5 + r6)) + v12)) + (List.getD G_quarters (Int.toNat (IntKind.wrap .i64 (Int.tdiv v45 (20 : Int)))) (0 : Int)))) + (List.getD b10 (Int.toNat (Int.tmod v45 (16 : Int))) (0 : Int)))) v8 r7 v10 v11 (IntKind.wrap .i64 (v45 + (1 : Int))) b8 b9 b10
  else
    gd (0 ≤ (0 : Int)) <|
    gd ((0 : Int) < (5 : Int)) <|
    gd (0 ≤ (1 : Int)) <|
    gd ((1 : Int) < (5 : Int)) <|
    gd (0 ≤ (2 : Int)) <|
    gd ((2 : Int) < (5 : Int)) <|
    gd (0 ≤ (3 : Int)) <|
    gd ((3 : Int) < (5 : Int)) <|
    gd (0 ≤ (4 : Int)) <|
    gd ((4 : Int) < (5 : Int)) <|
    some (List.set (List.set (List.set (List.set (List.set (List.replicate 5 (0 : Int)) 0 (IntKind.wrap .u32 ((List.getD b8 0 (0 : Int)) + v8))) 1 (IntKind.wrap .u32 ((List.getD b8 1 (0 : Int)) + v9))) 2 (IntKind.wrap .u32 ((List.getD b8 2 (0 : Int)) + v10))) 3 (IntKind.wrap .u32 ((List.getD b8 3 (0 : Int)) + v11))) 4 (IntKind.wrap .u32 ((List.getD b8 4 (0 : Int)) + v12)))) := (FnI.sem_eq _).trans (by kernel_rfl)
noncomputable def sha_do_S (acc : List AV → Bool) : Summ Tryz.prog GT := sha_do_I.summ mixed acc false false

/-! bitloft/sha.Sum -/
noncomputable def sha_Sum_I : FnI Tryz.prog GT := { f := 24, cuts := [⟨(5, 3), [2, 4, 5], false, false, []⟩, ⟨(9, 3), [2, 27, 28], false, false, []⟩], tab := [sha_pad_S (fun _ => true), slices_Concat_byte_byte_S (fun _ => true), sha_do_S (fun _ => true)], fm := ⟨true, [.val (.arr 20 (.int .u8)) [], .val (.int .i64) []]⟩ }
noncomputable def sha_Sum (a0 : List Int) : Option ((List Int) × Int) := sha_Sum_I.call [(.sl (.int .u8) false a0)] []
noncomputable def sha_Sum_c1 (v5 : List Int) (b8 : (List Int)) (b9 : (List Int)) : Option ((List Int) × Int) := sha_Sum_I.sem ⟨[.code (cIn (cIn (cSnd (cFst (cSnd (cSnd (cSnd (bodyOf Tryz.prog 24)))))))), .inLoop (cIn (cIn (cSnd (cFst (cSnd (cSnd (cSnd (bodyOf Tryz.prog 24)))))))), .inBlock 0, .code (cSnd (cSnd (cSnd (cSnd (bodyOf Tryz.prog 24)))))], ⟨[(2, (.one (.ptr (.arr 20 (.int .u8)) 8 []))), (4, (.one (.ptr (.arr 5 (.int .u32)) 9 []))), (5, (.one (.sl (.int .u8) true v5)))], [(8, some (.box (.arr 20 (.int .u8)) b8)), (9, some (.box (.arr 5 (.int .u32)) b9))], 10⟩⟩
noncomputable def sha_Sum_c2 (v27 : (List Int)) (v28 : Int) (b8 : (List Int)) : Option ((List Int) × Int) := sha_Sum_I.sem ⟨[.code (cIn (cIn (cSnd (cFst (cSnd (cSnd (cSnd (cSnd (bodyOf Tryz.prog 24))))))))), .inLoop (cIn (cIn (cSnd (cFst (cSnd (cSnd (cSnd (cSnd (bodyOf Tryz.prog 24))))))))), .inBlock 2, .code (cSnd (cSnd (cSnd (cSnd (cSnd (bodyOf Tryz.prog 24))))))], ⟨[(2, (.one (.ptr (.arr 20 (.int .u8)) 8 []))), (27, (.one (.agg (.arr 5 (.int .u32)) v27))), (28, (.one (.int .i64 v28)))], [(8, some (.box (.arr 20 (.int .u8)) b8))], 9⟩⟩
theorem sha_Sum_eq (a0 : List Int) : sha_Sum a0 = (
  if (decide ((Int.ofNat (List.length a0)) > (20000 : Int))) = true then
    some ((List.replicate 20 (0 : Int)), (4 : Int))
  else
    (sha_pad (Int.ofNat (List.length a0))).bind fun (r1 : (List Int)) =>
    (slices_Concat_byte_byte [a0, r1]).bind fun (r2 : (List Int)) =>
    sha_Sum_c1 r2 (List.replicate 20 (0 : Int)) (List.set (List.set (List.set (List.set (List.set (List.replicate 5 (0 : Int)) 0 (1732584193 : Int)) 1 (4023233417 : Int)) 2 (2562383102 : Int)) 3 (271733878 : Int)) 4 (3285377520 : Int))) := (FnI.call_eq (by kernel_rfl)).trans (by kernel_rfl)
theorem sha_Sum_c1_eq (v5 : List Int) (b8 : (List Int)) (b9 : (List Int)) : sha_Sum_c1 v5 b8 b9 = (
  if (decide ((Int.ofNat (List.length v5)) > (0 : Int))) = true then
    (sha_do b9 v5).bind fun (r3 : ((List Int))) =>
    gd (0 ≤ (64 : Int)) <|
    gd ((64 : Int) ≤ (Int.ofNat (List.length v5))) <|
    sha_Sum_c1 (List.drop 64 v5) b8 r3
  else
    sha_Sum_c2 b9 (0 : Int) b8) := (FnI.sem_eq _).trans (by kernel_rfl)
theorem sha_Sum_c2_eq (v27 : (List Int)) (v28 : Int) (b8 : (List Int)) : sha_Sum_c2 v27 v28 b8 = (
  if (decide (v28 < (5 : Int))) = true then
    gd (0 ≤ v28) <|
    gd (v28 < (5 : Int)) <|
    gd (0 ≤ (24 : Int)) <|
    gd (0 ≤ (16 : Int)) <|
    gd (0 ≤ (8 : Int)) <|
    gd (0 ≤ (IntKind.wrap .i64 ((4 : Int) * v28))) <|
    gd ((IntKind.wrap .i64 ((4 : Int) * v28)) < (20 : Int)) <|
    gd (0 ≤ (IntKind.wrap .i64 ((IntKind.wrap .i64 ((4 : Int) * v28)) + (1 : Int)))) <|
    gd ((IntKind.wrap .i64 ((IntKind.wrap .i64 ((4 : Int) * v28)) + (1 : Int))) < (20 : Int)) <|
    gd (0 ≤ (IntKind.wrap .i64 ((IntKind.wrap .i64 ((4 : Int) * v28)) + (2 : Int)))) <|
    gd ((IntKind.wrap .i64 ((IntKind.wrap .i64 ((4 : Int) * v28)) + (2 : Int))) < (20 : Int)) <|
    gd (0 ≤ (IntKind.wrap .i64 ((IntKind.wrap .i64 ((4 : Int) * v28)) + (3 : Int)))) <|
    gd ((IntKind.wrap .i64 ((IntKind.wrap .i64 ((4 : Int) * v28)) + (3 : Int))) < (20 : Int)) <|
    sha_Sum_c2 v27 (IntKind.wrap .i64 (v28 + (1 : Int))) (List.set (List.set (List.set (List.set b8 (Int.toNat (IntKind.wrap .i64 ((4 : Int) * v28))) (IntKind.wrap .u8 (Int.fdiv (List.getD v27 (Int.toNat v28) (0 : Int)) (16777216 : Int)))) (Int.toNat (IntKind.wrap .i64 ((IntKind.wrap .i64 ((4 : Int) * v28)) + (1 : Int)))) (IntKind.wrap .u8 (Int.fdiv (List.getD v27 (Int.toNat v28) (0 : Int)) (65536 : Int)))) (Int.toNat (IntKind.wrap .i64 ((IntKind.wrap .i64 ((4 : Int) * v28)) + (2 : Int)))) (IntKind.wrap .u8 (Int.fdiv (List.getD v27 (Int.toNat v28) (0 : Int)) (256 : Int)))) (Int.toNat (IntKind.wrap .i64 ((IntKind.wrap .i64 ((4 : Int) * v28)) + (3 : Int)))) (IntKind.wrap .u8 (List.getD v27 (Int.toNat v28) (0 : Int))))
  else
    some (b8, (0 : Int))) := (FnI.sem_eq _).trans (by kernel_rfl)
noncomputable def sha_Sum_S (acc : List AV → Bool) : Summ Tryz.prog GT := sha_Sum_I.summ mixed acc false false

/-! bitloft/header.digest -/
noncomputable def header_digest_I : FnI Tryz.prog GT := { f := 47, cuts := [], tab := [header_front_S (fun _ => true), sha_Sum_S (fun _ => true)], fm := ⟨true, [.val (.arr 20 (.int .u8)) []]⟩ }
noncomputable def header_digest (a0 : D_api_BlockHead) (a1 : List Int) : Option ((List Int)) := header_digest_I.call [(.agg T_api_BlockHead (inj false T_api_BlockHead a0)), (.sl (.int .u8) false a1)] []
theorem header_digest_eq (a0 : D_api_BlockHead) (a1 : List Int) : header_digest a0 a1 = (
  (header_front a0).bind fun (r1 : (List Int)) =>
  gd ((List.length (r1 ++ a1)) * 1 ≤ 140737488355328) <|
  (sha_Sum (r1 ++ a1)).bind fun (r2 : ((List Int) × Int)) =>
  some (r2.1)) := (FnI.call_eq (by kernel_rfl)).trans (by kernel_rfl)
noncomputable def header_digest_S (acc : List AV → Bool) : Summ Tryz.prog GT := header_digest_I.summ mixed acc false false

/-! bitloft/header.Digest -/
noncomputable def header_Digest_I : FnI Tryz.prog GT := { f := 57, cuts := [], tab := [header_Check_S (fun _ => true), header_digest_S (fun _ => true)], fm := ⟨true, [.val (.arr 20 (.int .u8)) [], .val (.int .i64) []]⟩ }
noncomputable def header_Digest (a0 : D_api_BlockHead) (a1 : List Int) : Option ((List Int) × Int) := header_Digest_I.call [(.agg T_api_BlockHead (inj false T_api_BlockHead a0)), (.sl (.int .u8) false a1)] []
theorem header_Digest_eq (a0 : D_api_BlockHead) (a1 : List Int) : header_Digest a0 a1 = (
  (header_Check a0).bind fun (r1 : (Int)) =>
  if (r1 != (0 : Int)) = true then
    some ((List.replicate 20 (0 : Int)), r1)
  else
    if ((Int.ofNat (List.length a1)) != a0.2.2.2.1) = true then
      some ((List.replicate 20 (0 : Int)), (2 : Int))
    else
      (header_digest a0 a1).bind fun (r2 : ((List Int))) =>
      some (r2, (0 : Int))) := (FnI.call_eq (by kernel_rfl)).trans (by kernel_rfl)
noncomputable def header_Digest_S (acc : List AV → Bool) : Summ Tryz.prog GT := header_Digest_I.summ mixed acc false false

/-! bitloft/header.Seal -/
noncomputable def header_Seal_I : FnI Tryz.prog GT := { f := 35, cuts := [], tab := [header_Digest_S (fun _ => true)], fm := ⟨true, [.val T_api_BlockHead [], .val (.int .i64) []]⟩ }
noncomputable def header_Seal (a0 : D_api_BlockHead) (a1 : List Int) : Option (D_api_BlockHead × Int) := header_Seal_I.call [(.agg T_api_BlockHead (inj false T_api_BlockHead a0)), (.sl (.int .u8) false a1)] []
theorem header_Seal_eq (a0 : D_api_BlockHead) (a1 : List Int) : header_Seal a0 a1 = (
  (header_Digest a0 a1).bind fun (r1 : ((List Int) × Int)) =>
  if (r1.2 != (0 : Int)) = true then
    some (((0 : Int), ((0 : Int), ((0 : Int), ((0 : Int), ((0 : Int), ((List.replicate 20 (0 : Int)), ())))))), r1.2)
  else
    some ((a0.1, (a0.2.1, (a0.2.2.1, (a0.2.2.2.1, (a0.2.2.2.2.1, (r1.1, a0.2.2.2.2.2.2)))))), (0 : Int))) := (FnI.call_eq (by kernel_rfl)).trans (by kernel_rfl)
noncomputable def header_Seal_S (acc : List AV → Bool) : Summ Tryz.prog GT := header_Seal_I.summ mixed acc false false

/-! bitloft/block.Make -/
noncomputable def block_Make_I : FnI Tryz.prog GT := { f := 13, cuts := [], tab := [block_isLevel_S (fun _ => true), header_Check_S (fun _ => true), bytes_Clone_S (fun _ => true), codec_Encode_S (fun _ => true), header_Seal_S (fun _ => true)], fm := ⟨true, [.val T_api_Block [], .val (.int .i64) []]⟩ }
noncomputable def block_Make (a0 : Int) (a1 : Int) (a2 : Int) (a3 : List Int) : Option (D_api_Block × Int) := block_Make_I.call [(.int .i64 a0), (.int .i64 a1), (.int .i64 a2), (.sl (.int .u8) false a3)] []
theorem block_Make_eq (a0 : Int) (a1 : Int) (a2 : Int) (a3 : List Int) : block_Make a0 a1 a2 a3 = (
  (block_isLevel a0).bind fun (r1 : (Bool)) =>
  if (not r1) = true then
    some ((((0 : Int), ((0 : Int), ((0 : Int), ((0 : Int), ((0 : Int), ((List.replicate 20 (0 : Int)), ())))))), ([], ())), (2 : Int))
  else
    (header_Check ((1 : Int), (a1, (a2, ((Int.ofNat (List.length a3)), ((Int.ofNat (List.length a3)), ((List.replicate 20 (0 : Int)), ()))))))).bind fun (r2 : (Int)) =>
    if (r2 != (0 : Int)) = true then
      some ((((0 : Int), ((0 : Int), ((0 : Int), ((0 : Int), ((0 : Int), ((List.replicate 20 (0 : Int)), ())))))), ([], ())), (2 : Int))
    else
      (bytes_Clone a3).bind fun (r3 : (List Int)) =>
      (codec_Encode a0 a3).bind fun (r4 : (List Int × Int)) =>
      if (r4.2 == (0 : Int)) = true then
        if (decide ((Int.ofNat (List.length r4.1)) < (Int.ofNat (List.length a3)))) = true then
          (header_Seal ((2 : Int), (a1, (a2, ((Int.ofNat (List.length a3)), ((Int.ofNat (List.length r4.1)), ((List.replicate 20 (0 : Int)), ())))))) a3).bind fun (r5 : (D_api_BlockHead × Int)) =>
          some ((r5.1, (r4.1, ())), (0 : Int))
        else
          (header_Seal ((1 : Int), (a1, (a2, ((Int.ofNat (List.length a3)), ((Int.ofNat (List.length a3)), ((List.replicate 20 (0 : Int)), ())))))) a3).bind fun (r6 : (D_api_BlockHead × Int)) =>
          some ((r6.1, (r3, ())), (0 : Int))
      else
        (header_Seal ((1 : Int), (a1, (a2, ((Int.ofNat (List.length a3)), ((Int.ofNat (List.length a3)), ((List.replicate 20 (0 : Int)), ())))))) a3).bind fun (r7 : (D_api_BlockHead × Int)) =>
        some ((r7.1, (r3, ())), (0 : Int))) := (FnI.call_eq (by kernel_rfl)).trans (by kernel_rfl)
noncomputable def block_Make_S (acc : List AV → Bool) : Summ Tryz.prog GT := block_Make_I.summ mixed acc false false

/-! bitloft/block.Check -/
noncomputable def block_Check_I : FnI Tryz.prog GT := { f := 18, cuts := [], tab := [header_Check_S (fun _ => true)], fm := ⟨true, [.val (.int .i64) []]⟩ }
noncomputable def block_Check (a0 : D_api_Block) : Option (Int) := block_Check_I.call [(.agg T_api_Block (inj false T_api_Block a0))] []
theorem block_Check_eq (a0 : D_api_Block) : block_Check a0 = (
  (header_Check a0.1).bind fun (r1 : (Int)) =>
  if (r1 != (0 : Int)) = true then
    some (8 : Int)
  else
    if ((Int.ofNat (List.length a0.2.1)) != a0.1.2.2.2.2.1) = true then
      some (8 : Int)
    else
      some (0 : Int)) := (FnI.call_eq (by kernel_rfl)).trans (by kernel_rfl)
noncomputable def block_Check_S (acc : List AV → Bool) : Summ Tryz.prog GT := block_Check_I.summ mixed acc false false

/-! bitloft/header.Encode -/
noncomputable def header_Encode_I : FnI Tryz.prog GT := { f := 30, cuts := [], tab := [header_Check_S (fun _ => true), header_front_S (fun _ => true)], fm := ⟨true, [.val (.slice (.int .u8)) [.nw], .val (.int .i64) []]⟩ }
noncomputable def header_Encode (a0 : D_api_BlockHead) : Option (List Int × Int) := header_Encode_I.call [(.agg T_api_BlockHead (inj false T_api_BlockHead a0))] []
theorem header_Encode_eq (a0 : D_api_BlockHead) : header_Encode a0 = (
  (header_Check a0).bind fun (r1 : (Int)) =>
  if (r1 != (0 : Int)) = true then
    some ([], r1)
  else
    (header_front a0).bind fun (r2 : (List Int)) =>
    gd ((List.length (r2 ++ (List.take 20 (List.drop 0 a0.2.2.2.2.2.1)))) * 1 ≤ 140737488355328) <|
    some ((r2 ++ (List.take 20 (List.drop 0 a0.2.2.2.2.2.1))), (0 : Int))) := (FnI.call_eq (by kernel_rfl)).trans (by kernel_rfl)
noncomputable def header_Encode_S (acc : List AV → Bool) : Summ Tryz.prog GT := header_Encode_I.summ mixed acc false false

/-! bitloft/marker.Bytes -/
noncomputable def marker_Bytes_I : FnI Tryz.prog GT := { f := 32, cuts := [], tab := [], fm := ⟨true, [.val (.slice (.int .u8)) [.pu]]⟩ }
noncomputable def marker_Bytes : Option (List Int) := marker_Bytes_I.call [] []
theorem marker_Bytes_eq : marker_Bytes = (
  gd (0 < 13) <|
  some ([(183 : Int), (98 : Int), (105 : Int), (116 : Int), (108 : Int), (111 : Int), (102 : Int), (116 : Int), (32 : Int), (98 : Int), (108 : Int), (107 : Int), (10 : Int)])) := (FnI.call_eq (by kernel_rfl)).trans (by kernel_rfl)
noncomputable def marker_Bytes_S (acc : List AV → Bool) : Summ Tryz.prog GT := marker_Bytes_I.summ mixed acc false false

/-! bytes.Join -/
noncomputable def bytes_Join_I : FnI Tryz.prog GT := { f := 31, cuts := [⟨(11, 3), [0, 1, 5, 42, 43, 44], false, false, []⟩, ⟨(20, 3), [1, 8, 9, 70, 71, 72], false, false, []⟩], tab := [], fm := ⟨true, [.part (.int .u8)]⟩, mnz := mnz, mnzOk := mnz_ok }
noncomputable def bytes_Join (a0 : List (List Int)) (a1 : List Int) : Option (List Int × Nat × Nat) := bytes_Join_I.call [(.sl (.slice (.int .u8)) false a0), (.sl (.int .u8) false a1)] []
noncomputable def bytes_Join_c1 (v0 : List (List Int)) (v1 : List Int) (v5 : Int) (v42 : List (List Int)) (v43 : Int) (v44 : Int) : Option (List Int × Nat × Nat) := bytes_Join_I.sem ⟨[.code (cIn (cIn (cSnd (cFst (cSnd (cSnd (cSnd (cSnd (cSnd (bodyOf Tryz.prog 31)))))))))), .inLoop (cIn (cIn (cSnd (cFst (cSnd (cSnd (cSnd (cSnd (cSnd (bodyOf Tryz.prog 31)))))))))), .inBlock 0, .code (cSnd (cSnd (cSnd (cSnd (cSnd (cSnd (bodyOf Tryz.prog 31)))))))], ⟨[(0, (.one (.sl (.slice (.int .u8)) false v0))), (1, (.one (.sl (.int .u8) false v1))), (5, (.one (.int .i64 v5))), (42, (.one (.sl (.slice (.int .u8)) false v42))), (43, (.one (.int .i64 v43))), (44, (.one (.int .i64 v44)))], [], 8⟩⟩
noncomputable def bytes_Join_c2 (v1 : List Int) (v8o : Nat) (v8n : Nat) (v9 : Int) (v70 : List (List Int)) (v71 : Int) (v72 : Int) (h8 : List Int) : Option (List Int × Nat × Nat) := bytes_Join_I.sem ⟨[.code (cIn (cIn (cSnd (cFst (cSnd (cSnd (cSnd (cSnd (cSnd (cSnd (cSnd (cSnd (bodyOf Tryz.prog 31))))))))))))), .inLoop (cIn (cIn (cSnd (cFst (cSnd (cSnd (cSnd (cSnd (cSnd (cSnd (cSnd (cSnd (bodyOf Tryz.prog 31))))))))))))), .inBlock 2, .code (cSnd (cSnd (cSnd (cSnd (cSnd (cSnd (cSnd (cSnd (cSnd (bodyOf Tryz.prog 31))))))))))], ⟨[(1, (.one (.sl (.int .u8) false v1))), (8, (.one (.ref (.int .u8) 8 v8o v8n false))), (9, (.one (.int .i64 v9))), (70, (.one (.sl (.slice (.int .u8)) false v70))), (71, (.one (.int .i64 v71))), (72, (.one (.int .i64 v72)))], [(8, some (.row (.int .u8) true h8))], 9⟩⟩
theorem bytes_Join_eq (a0 : List (List Int)) (a1 : List Int) : bytes_Join a0 a1 = (
  if ((Int.ofNat (List.length a0)) == (0 : Int)) = true then
    some ([], (0, 0))
  else
    if ((Int.ofNat (List.length a0)) == (1 : Int)) = true then
      gd (0 ≤ (0 : Int)) <|
      gd ((0 : Int) < (Int.ofNat (List.length a0))) <|
      gd ((List.length (List.getD a0 0 [])) * 1 ≤ 140737488355328) <|
      some ((List.getD a0 0 []), (0, (List.length (List.getD a0 0 []))))
    else
      if (decide ((Int.ofNat (List.length a1)) > (0 : Int))) = true then
        gd ((IntKind.wrap .i64 ((Int.ofNat (List.length a0)) - (1 : Int))) ≠ 0) <|
        if (decide ((Int.ofNat (List.length a1)) ≥ (IntKind.wrap .i64 (Int.tdiv (9223372036854775807 : Int) (IntKind.wrap .i64 ((Int.ofNat (List.length a0)) - (1 : Int))))))) = true then
          none
        else
          bytes_Join_c1 a0 a1 (IntKind.wrap .i64 ((0 : Int) + (IntKind.wrap .i64 ((Int.ofNat (List.length a1)) * (IntKind.wrap .i64 ((Int.ofNat (List.length a0)) - (1 : Int))))))) a0 (Int.ofNat (List.length a0)) (0 : Int)
      else
        bytes_Join_c1 a0 a1 (0 : Int) a0 (Int.ofNat (List.length a0)) (0 : Int)) := (FnI.call_eq (by kernel_rfl)).trans (by kernel_rfl)
theorem bytes_Join_c1_eq (v0 : List (List Int)) (v1 : List Int) (v5 : Int) (v42 : List (List Int)) (v43 : Int) (v44 : Int) : bytes_Join_c1 v0 v1 v5 v42 v43 v44 = (
  if (decide (v44 < v43)) = true then
    gd (0 ≤ v44) <|
    gd (v44 < (Int.ofNat (List.length v42))) <|
    if (decide ((Int.ofNat (List.length (List.getD v42 (Int.toNat v44) []))) > (IntKind.wrap .i64 ((9223372036854775807 : Int) - v5)))) = true then
      none
    else
      bytes_Join_c1 v0 v1 (IntKind.wrap .i64 (v5 + (Int.ofNat (List.length (List.getD v42 (Int.toNat v44) []))))) v42 v43 (IntKind.wrap .i64 (v44 + (1 : Int)))
  else
    gd (0 ≤ v5) <|
    gd (v5 ≤ 140737488355328) <|
    anyv (fun (r1 : List Int) => (List.length r1) = (Int.toNat v5)) fun (r1 : List Int) =>
    gd (0 ≤ v5) <|
    gd (v5 ≤ v5) <|
    gd (v5 ≤ (Int.ofNat (List.length r1))) <|
    gd (0 ≤ (0 : Int)) <|
    gd ((0 : Int) < (Int.ofNat (List.length v0))) <|
    gd (0 ≤ (1 : Int)) <|
    gd ((1 : Int) ≤ (Int.ofNat (List.length v0))) <|
    bytes_Join_c2 v1 0 ((Int.toNat v5) - 0) (Int.ofNat (min (List.length (List.getD v0 0 [])) ((Int.toNat v5) - 0))) (List.drop 1 v0) (Int.ofNat (List.length (List.drop 1 v0))) (0 : Int) (splice r1 0 (List.take (min (List.length (List.getD v0 0 [])) ((Int.toNat v5) - 0)) (List.getD v0 0 [])))) := (FnI.sem_eq _).trans (by kernel_rfl)
theorem bytes_Join_c2_eq (v1 : List Int) (v8o : Nat) (v8n : Nat) (v9 : Int) (v70 : List (List Int)) (v71 : Int) (v72 : Int) (h8 : List Int) : bytes_Join_c2 v1 v8o v8n v9 v70 v71 v72 h8 = (
  if (decide (v72 < v71)) = true then
    gd (0 ≤ v72) <|
    gd (v72 < (Int.ofNat (List.length v70))) <|
    gd (0 ≤ v9) <|
    gd (v9 ≤ (Int.ofNat v8n)) <|
    gd (0 ≤ (IntKind.wrap .i64 (v9 + (Int.ofNat (min (List.length v1) (v8n - (Int.toNat v9))))))) <|
    gd ((IntKind.wrap .i64 (v9 + (Int.ofNat (min (List.length v1) (v8n - (Int.toNat v9)))))) ≤ (Int.ofNat v8n)) <|
    bytes_Join_c2 v1 v8o v8n (IntKind.wrap .i64 ((IntKind.wrap .i64 (v9 + (Int.ofNat (min (List.length v1) (v8n - (Int.toNat v9)))))) + (Int.ofNat (min (List.length (List.getD v70 (Int.toNat v72) [])) (v8n - (Int.toNat (IntKind.wrap .i64 (v9 + (Int.ofNat (min (List.length v1) (v8n - (Int.toNat v9)))))))))))) v70 v71 (IntKind.wrap .i64 (v72 + (1 : Int))) (splice (splice h8 (v8o + (Int.toNat v9)) (List.take (min (List.length v1) (v8n - (Int.toNat v9))) v1)) (v8o + (Int.toNat (IntKind.wrap .i64 (v9 + (Int.ofNat (min (List.length v1) (v8n - (Int.toNat v9)))))))) (List.take (min (List.length (List.getD v70 (Int.toNat v72) [])) (v8n - (Int.toNat (IntKind.wrap .i64 (v9 + (Int.ofNat (min (List.length v1) (v8n - (Int.toNat v9))))))))) (List.getD v70 (Int.toNat v72) [])))
  else
    some (h8, (v8o, v8n))) := (FnI.sem_eq _).trans (by kernel_rfl)
noncomputable def bytes_Join_S (acc : List AV → Bool) : Summ Tryz.prog GT := bytes_Join_I.summ mixed acc false false

/-! bitloft/block.Write -/
noncomputable def block_Write_I : FnI Tryz.prog GT := { f := 11, cuts := [], tab := [block_Check_S (fun _ => true), header_Encode_S (fun _ => true), marker_Bytes_S (fun _ => true), bytes_Join_S (fun _ => true)], fm := ⟨true, [.part (.int .u8), .val (.int .i64) []]⟩ }
noncomputable def block_Write (a0 : D_api_Block) : Option ((List Int × Nat × Nat) × Int) := block_Write_I.call [(.agg T_api_Block (inj false T_api_Block a0))] []
theorem block_Write_eq (a0 : D_api_Block) : block_Write a0 = (
  (block_Check a0).bind fun (r1 : (Int)) =>
  if (r1 != (0 : Int)) = true then
    some (([], (0, 0)), r1)
  else
    (header_Encode a0.1).bind fun (r2 : (List Int × Int)) =>
    (marker_Bytes).bind fun (r3 : (List Int)) =>
    (bytes_Join [r3, r2.1, a0.2.1] []).bind fun (r4 : (List Int × Nat × Nat)) =>
    some (r4, (0 : Int))) := (FnI.call_eq (by kernel_rfl)).trans (by kernel_rfl)
noncomputable def block_Write_S (acc : List AV → Bool) : Summ Tryz.prog GT := block_Write_I.summ mixed acc false false

/-! bitloft/bitloftref25.Bytes -/
noncomputable def bitloftref25_Bytes_I : FnI Tryz.prog GT := { f := 25, cuts := [], tab := [], fm := ⟨true, [.val (.slice (.int .u8)) [.nw]]⟩ }
noncomputable def bitloftref25_Bytes : Option (List Int) := bitloftref25_Bytes_I.call [] []
theorem bitloftref25_Bytes_eq : bitloftref25_Bytes = (
  some ([(183 : Int), (98 : Int), (105 : Int), (116 : Int), (108 : Int), (111 : Int), (102 : Int), (116 : Int), (32 : Int), (98 : Int), (108 : Int), (107 : Int), (10 : Int)])) := (FnI.call_eq (by kernel_rfl)).trans (by kernel_rfl)
noncomputable def bitloftref25_Bytes_S (acc : List AV → Bool) : Summ Tryz.prog GT := bitloftref25_Bytes_I.summ mixed acc false false

/-! bitloft/bitloftlaw27.alive -/
noncomputable def bitloftlaw27_alive_I : FnI Tryz.prog GT := { f := 8, cuts := [], tab := [block_Make_S (fun _ => true), block_Write_S (fun _ => true), sha_Sum_S (fun _ => true), bitloftref25_Bytes_S (fun _ => true)], fm := ⟨true, [.val .bool []]⟩ }
noncomputable def bitloftlaw27_alive : Option (Bool) := bitloftlaw27_alive_I.call [] []
theorem bitloftlaw27_alive_eq : bitloftlaw27_alive = (
  (block_Make (2 : Int) (0 : Int) (0 : Int) [(7 : Int)]).bind fun (r1 : (D_api_Block × Int)) =>
  (block_Write r1.1).bind fun (r2 : ((List Int × Nat × Nat) × Int)) =>
  (sha_Sum [(1 : Int), (0 : Int), (0 : Int), (0 : Int), (0 : Int), (1 : Int), (0 : Int), (1 : Int), (7 : Int)]).bind fun (r3 : ((List Int) × Int)) =>
  (bitloftref25_Bytes).bind fun (r4 : (List Int)) =>
  gd ((toStr r4).size + (toStr [(1 : Int), (0 : Int), (0 : Int), (0 : Int), (0 : Int), (1 : Int), (0 : Int), (1 : Int)]).size ≤ 140737488355328) <|
  gd (((toStr r4) ++ (toStr [(1 : Int), (0 : Int), (0 : Int), (0 : Int), (0 : Int), (1 : Int), (0 : Int), (1 : Int)])).size + (toStr (List.take 20 (List.drop 0 r3.1))).size ≤ 140737488355328) <|
  gd ((((toStr r4) ++ (toStr [(1 : Int), (0 : Int), (0 : Int), (0 : Int), (0 : Int), (1 : Int), (0 : Int), (1 : Int)])) ++ (toStr (List.take 20 (List.drop 0 r3.1)))).size + (toStr [(7 : Int)]).size ≤ 140737488355328) <|
  if (r1.2 == (0 : Int)) = true then
    if (r1.1.1.1 == (1 : Int)) = true then
      if (r1.1.1.2.2.2.2.1 == (1 : Int)) = true then
        if (r2.2 == (0 : Int)) = true then
          if (r3.2 == (0 : Int)) = true then
            some ((ByteArray.toList (toStr (List.take r2.1.2.2 (List.drop r2.1.2.1 r2.1.1)))) == (ByteArray.toList ((((toStr r4) ++ (toStr [(1 : Int), (0 : Int), (0 : Int), (0 : Int), (0 : Int), (1 : Int), (0 : Int), (1 : Int)])) ++ (toStr (List.take 20 (List.drop 0 r3.1)))) ++ (toStr [(7 : Int)]))))
          else
            some (false)
        else
          some (false)
      else
        some (false)
    else
      some (false)
  else
    some (false)) := (FnI.call_eq (by kernel_rfl)).trans (by kernel_rfl)
noncomputable def bitloftlaw27_alive_S (acc : List AV → Bool) : Summ Tryz.prog GT := bitloftlaw27_alive_I.summ mixed acc false false

/-! bitloft/bitloftref27.Level -/
noncomputable def bitloftref27_Level_I : FnI Tryz.prog GT := { f := 39, cuts := [], tab := [], fm := ⟨true, [.val .bool []]⟩ }
noncomputable def bitloftref27_Level (a0 : Int) : Option (Bool) := bitloftref27_Level_I.call [(.int .i64 a0)] []
theorem bitloftref27_Level_eq (a0 : Int) : bitloftref27_Level a0 = (
  if (decide (a0 ≥ (0 : Int))) = true then
    some (decide (a0 ≤ (7 : Int)))
  else
    some (false)) := (FnI.call_eq (by kernel_rfl)).trans (by kernel_rfl)
noncomputable def bitloftref27_Level_S (acc : List AV → Bool) : Summ Tryz.prog GT := bitloftref27_Level_I.summ mixed acc false false

/-! bitloft/bitloftref26.Check -/
noncomputable def bitloftref26_Check_I : FnI Tryz.prog GT := { f := 29, cuts := [], tab := [], fm := ⟨true, [.val (.int .i64) []]⟩ }
noncomputable def bitloftref26_Check (a0 : D_api_BlockHead) : Option (Int) := bitloftref26_Check_I.call [(.agg T_api_BlockHead (inj false T_api_BlockHead a0))] []
theorem bitloftref26_Check_eq (a0 : D_api_BlockHead) : bitloftref26_Check a0 = (
  if (decide (a0.2.1 < (0 : Int))) = true then
    some (8 : Int)
  else
    if (decide (a0.2.1 ≥ (16 : Int))) = true then
      some (8 : Int)
    else
      if (decide (a0.2.2.2.1 < (1 : Int))) = true then
        some (8 : Int)
      else
        if (decide (a0.2.2.2.1 > (4096 : Int))) = true then
          some (8 : Int)
        else
          if (decide (a0.2.2.1 < (0 : Int))) = true then
            some (8 : Int)
          else
            if (decide (a0.2.2.1 > (IntKind.wrap .i64 ((8192 : Int) - a0.2.2.2.1)))) = true then
              some (8 : Int)
            else
              if (a0.1 == (1 : Int)) = true then
                if (a0.1 == (2 : Int)) = true then
                  if (decide (a0.2.2.2.2.1 ≥ (1 : Int))) = true then
                    if (not (a0.2.2.2.2.1 == a0.2.2.2.1)) = true then
                      if (not (decide (a0.2.2.2.2.1 < a0.2.2.2.1))) = true then
                        some (8 : Int)
                      else
                        some (0 : Int)
                    else
                      some (0 : Int)
                  else
                    if (not (a0.2.2.2.2.1 == a0.2.2.2.1)) = true then
                      some (8 : Int)
                    else
                      some (0 : Int)
                else
                  if (not (a0.2.2.2.2.1 == a0.2.2.2.1)) = true then
                    some (8 : Int)
                  else
                    some (0 : Int)
              else
                if (a0.1 == (2 : Int)) = true then
                  if (decide (a0.2.2.2.2.1 ≥ (1 : Int))) = true then
                    if (not (decide (a0.2.2.2.2.1 < a0.2.2.2.1))) = true then
                      some (8 : Int)
                    else
                      some (0 : Int)
                  else
                    some (8 : Int)
                else
                  some (8 : Int)) := (FnI.call_eq (by kernel_rfl)).trans (by kernel_rfl)
noncomputable def bitloftref26_Check_S (acc : List AV → Bool) : Summ Tryz.prog GT := bitloftref26_Check_I.summ mixed acc false false

/-! bitloft/bitloftref27.May -/
noncomputable def bitloftref27_May_I : FnI Tryz.prog GT := { f := 19, cuts := [], tab := [bitloftref27_Level_S (fun _ => true), bitloftref26_Check_S (fun _ => true)], fm := ⟨true, [.val .bool []]⟩ }
noncomputable def bitloftref27_May (a0 : Int) (a1 : Int) (a2 : Int) (a3 : List Int) : Option (Bool) := bitloftref27_May_I.call [(.int .i64 a0), (.int .i64 a1), (.int .i64 a2), (.sl (.int .u8) false a3)] []
theorem bitloftref27_May_eq (a0 : Int) (a1 : Int) (a2 : Int) (a3 : List Int) : bitloftref27_May a0 a1 a2 a3 = (
  (bitloftref27_Level a0).bind fun (r1 : (Bool)) =>
  if r1 = true then
    (bitloftref26_Check ((1 : Int), (a1, (a2, ((Int.ofNat (List.length a3)), ((Int.ofNat (List.length a3)), ((List.replicate 20 (0 : Int)), ()))))))).bind fun (r2 : (Int)) =>
    some (r2 == (0 : Int))
  else
    some (false)) := (FnI.call_eq (by kernel_rfl)).trans (by kernel_rfl)
noncomputable def bitloftref27_May_S (acc : List AV → Bool) : Summ Tryz.prog GT := bitloftref27_May_I.summ mixed acc false false

/-! bitloft/bitloftref27.Check -/
noncomputable def bitloftref27_Check_I : FnI Tryz.prog GT := { f := 10, cuts := [], tab := [bitloftref26_Check_S (fun _ => true)], fm := ⟨true, [.val (.int .i64) []]⟩ }
noncomputable def bitloftref27_Check (a0 : D_api_Block) : Option (Int) := bitloftref27_Check_I.call [(.agg T_api_Block (inj false T_api_Block a0))] []
theorem bitloftref27_Check_eq (a0 : D_api_Block) : bitloftref27_Check a0 = (
  (bitloftref26_Check a0.1).bind fun (r1 : (Int)) =>
  if (r1 != (0 : Int)) = true then
    some (8 : Int)
  else
    if ((Int.ofNat (List.length a0.2.1)) != a0.1.2.2.2.2.1) = true then
      some (8 : Int)
    else
      some (0 : Int)) := (FnI.call_eq (by kernel_rfl)).trans (by kernel_rfl)
noncomputable def bitloftref27_Check_S (acc : List AV → Bool) : Summ Tryz.prog GT := bitloftref27_Check_I.summ mixed acc false false

/-! bitloft/decoder.at -/
noncomputable def decoder_at_I : FnI Tryz.prog GT := { f := 138, cuts := [], tab := [], fm := ⟨true, [.val (.int .u8) []]⟩ }
noncomputable def decoder_at (a0 : List Int) (a1 : Int) : Option (Int) := decoder_at_I.call [(.sl (.int .u8) false a0), (.int .i64 a1)] []
theorem decoder_at_eq (a0 : List Int) (a1 : Int) : decoder_at a0 a1 = (
  if (decide (a1 < (Int.ofNat (List.length a0)))) = true then
    gd (0 ≤ a1) <|
    gd (a1 < (Int.ofNat (List.length a0))) <|
    some (List.getD a0 (Int.toNat a1) (0 : Int))
  else
    some (0 : Int)) := (FnI.call_eq (by kernel_rfl)).trans (by kernel_rfl)
noncomputable def decoder_at_S (acc : List AV → Bool) : Summ Tryz.prog GT := decoder_at_I.summ mixed acc false false

/-! bitloft/decoder.start -/
noncomputable def decoder_start_I : FnI Tryz.prog GT := { f := 92, cuts := [⟨(2, 3), [0, 2, 3], false, false, []⟩], tab := [decoder_at_S (fun _ => true)], fm := ⟨false, [.val T_api_Decoder []]⟩ }
noncomputable def decoder_start (a0 : List Int) : Option (D_api_Decoder) := decoder_start_I.call [(.sl (.int .u8) false a0)] []
noncomputable def decoder_start_c1 (v0 : List Int) (b8a : Int) (b8ba : Int) (b8bba : Int) (b8bbbb : D_api_Walk) (b9 : D_api_Decoder) (h10 : List Int) : Option (D_api_Decoder) := decoder_start_I.sem ⟨[.code (cIn (cIn (cFst (cSnd (cSnd (bodyOf Tryz.prog 92)))))), .inLoop (cIn (cIn (cFst (cSnd (cSnd (bodyOf Tryz.prog 92)))))), .inBlock 0, .code (cSnd (cSnd (cSnd (bodyOf Tryz.prog 92))))], ⟨[(0, (.one (.sl (.int .u8) false v0))), (2, (.one (.ptr T_api_Decoder 8 []))), (3, (.one (.ptr T_api_Decoder 9 [])))], [(8, some (.box T_api_Decoder (b8a, (b8ba, (b8bba, ((SV.ref 10 0 (List.length h10) true), (inj false T_api_Walk b8bbbb))))))), (9, some (.box T_api_Decoder (inj false T_api_Decoder b9))), (10, some (.row (.int .u8) true h10))], 11⟩⟩
theorem decoder_start_eq (a0 : List Int) : decoder_start a0 = (
  decoder_start_c1 a0 (0 : Int) (0 : Int) (0 : Int) ((0 : Int), ()) ((0 : Int), ((4294967295 : Int), ((0 : Int), (a0, ((0 : Int), ()))))) []) := (FnI.call_eq (by kernel_rfl)).trans (by kernel_rfl)
theorem decoder_start_c1_eq (v0 : List Int) (b8a : Int) (b8ba : Int) (b8bba : Int) (b8bbbb : D_api_Walk) (b9 : D_api_Decoder) (h10 : List Int) : decoder_start_c1 v0 b8a b8ba b8bba b8bbbb b9 h10 = (
  if (decide (b9.2.2.2.2.1 < (4 : Int))) = true then
    gd (0 ≤ (8 : Int)) <|
    (decoder_at v0 b9.2.2.2.2.1).bind fun (r1 : (Int)) =>
    decoder_start_c1 v0 b8a b8ba b8bba b8bbbb (b9.1, (b9.2.1, ((bitsOr .u32 (IntKind.wrap .u32 (b9.2.2.1 * (256 : Int))) (IntKind.wrap .u32 r1)), (b9.2.2.2.1, ((IntKind.wrap .i64 (b9.2.2.2.2.1 + (1 : Int))), b9.2.2.2.2.2))))) h10
  else
    some (b9)) := (FnI.sem_eq _).trans (by kernel_rfl)
noncomputable def decoder_start_S (acc : List AV → Bool) : Summ Tryz.prog GT := decoder_start_I.summ mixed acc false false

/-! bitloft/decoder.New -/
noncomputable def decoder_New_I : FnI Tryz.prog GT := { f := 63, cuts := [], tab := [slices_Clone_byte_byte_S (fun _ => true), (decoder_start_S (fun _ => true)).dropping], fm := ⟨false, [.val T_api_Decoder [], .val (.int .i64) []]⟩ }
noncomputable def decoder_New (a0 : List Int) : Option (D_api_Decoder × Int) := decoder_New_I.call [(.sl (.int .u8) false a0)] []
theorem decoder_New_eq (a0 : List Int) : decoder_New a0 = (
  if (decide ((Int.ofNat (List.length a0)) > (20000 : Int))) = true then
    some (((0 : Int), ((0 : Int), ((0 : Int), ([], ((0 : Int), ()))))), (4 : Int))
  else
    (slices_Clone_byte_byte a0).bind fun (r1 : (List Int)) =>
    (decoder_start r1).bind fun (r2 : (D_api_Decoder)) =>
    some (r2, (0 : Int))) := (FnI.call_eq (by kernel_rfl)).trans (by kernel_rfl)
noncomputable def decoder_New_S (acc : List AV → Bool) : Summ Tryz.prog GT := decoder_New_I.summ mixed acc false false

/-! bitloft/predict.P -/
noncomputable def predict_P_I : FnI Tryz.prog GT := { f := 64, cuts := [], tab := [predict_Check_S (fun _ => true), predict_see_S (fun _ => true)], fm := ⟨true, [.val (.int .i64) [], .val (.int .i64) []]⟩ }
noncomputable def predict_P (a0 : D_api_Predictor) : Option (Int × Int) := predict_P_I.call [(.agg T_api_Predictor (inj false T_api_Predictor a0))] []
theorem predict_P_eq (a0 : D_api_Predictor) : predict_P a0 = (
  (predict_Check a0).bind fun (r1 : (Int)) =>
  if (r1 != (0 : Int)) = true then
    some ((0 : Int), r1)
  else
    (predict_see a0).bind fun (r2 : (D_predict_seen)) =>
    some ((IntKind.wrap .i64 r2.2.2.2.2.1), (0 : Int))) := (FnI.call_eq (by kernel_rfl)).trans (by kernel_rfl)
noncomputable def predict_P_S (acc : List AV → Bool) : Summ Tryz.prog GT := predict_P_I.summ mixed acc false false

/-! bitloft/decoder.Check -/
noncomputable def decoder_Check_I : FnI Tryz.prog GT := { f := 95, cuts := [], tab := [], fm := ⟨true, [.val (.int .i64) []]⟩ }
noncomputable def decoder_Check (a0 : D_api_Decoder) : Option (Int) := decoder_Check_I.call [(.agg T_api_Decoder (inj false T_api_Decoder a0))] []
theorem decoder_Check_eq (a0 : D_api_Decoder) : decoder_Check a0 = (
  if (decide (a0.1 ≥ a0.2.1)) = true then
    some (8 : Int)
  else
    gd (0 ≤ (24 : Int)) <|
    gd (0 ≤ (24 : Int)) <|
    if ((Int.fdiv a0.1 (16777216 : Int)) == (Int.fdiv a0.2.1 (16777216 : Int))) = true then
      some (8 : Int)
    else
      if (decide (a0.2.2.1 < a0.1)) = true then
        some (8 : Int)
      else
        if (decide (a0.2.2.1 > a0.2.1)) = true then
          some (8 : Int)
        else
          if (decide ((Int.ofNat (List.length a0.2.2.2.1)) > (20000 : Int))) = true then
            some (8 : Int)
          else
            if (decide (a0.2.2.2.2.1 < (4 : Int))) = true then
              some (8 : Int)
            else
              if (decide (a0.2.2.2.2.1 > (1000000 : Int))) = true then
                some (8 : Int)
              else
                some (0 : Int)) := (FnI.call_eq (by kernel_rfl)).trans (by kernel_rfl)
noncomputable def decoder_Check_S (acc : List AV → Bool) : Summ Tryz.prog GT := decoder_Check_I.summ mixed acc false false

/-! bitloft/decoder.wrong -/
noncomputable def decoder_wrong_I : FnI Tryz.prog GT := { f := 96, cuts := [], tab := [], fm := ⟨true, [.val .bool []]⟩ }
noncomputable def decoder_wrong (a0 : Int) : Option (Bool) := decoder_wrong_I.call [(.int .i64 a0)] []
theorem decoder_wrong_eq (a0 : Int) : decoder_wrong a0 = (
  if (decide (a0 < (0 : Int))) = true then
    some (true)
  else
    some (decide (a0 > (4095 : Int)))) := (FnI.call_eq (by kernel_rfl)).trans (by kernel_rfl)
noncomputable def decoder_wrong_S (acc : List AV → Bool) : Summ Tryz.prog GT := decoder_wrong_I.summ mixed acc false false

/-! bitloft/encoder.Split -/
noncomputable def encoder_Split_I : FnI Tryz.prog GT := { f := 153, cuts := [], tab := [encoder_prob_S (fun _ => true), encoder_split_S (fun _ => true)], fm := ⟨true, [.val (.int .u32) [], .val (.int .i64) []]⟩ }
noncomputable def encoder_Split (a0 : Int) (a1 : Int) (a2 : Int) : Option (Int × Int) := encoder_Split_I.call [(.int .u32 a0), (.int .u32 a1), (.int .i64 a2)] []
theorem encoder_Split_eq (a0 : Int) (a1 : Int) (a2 : Int) : encoder_Split a0 a1 a2 = (
  if (decide (a0 ≥ a1)) = true then
    some ((0 : Int), (2 : Int))
  else
    (encoder_prob a2).bind fun (r1 : (Bool)) =>
    if (not r1) = true then
      some ((0 : Int), (2 : Int))
    else
      (encoder_split a0 a1 a2).bind fun (r2 : (Int)) =>
      some (r2, (0 : Int))) := (FnI.call_eq (by kernel_rfl)).trans (by kernel_rfl)
noncomputable def encoder_Split_S (acc : List AV → Bool) : Summ Tryz.prog GT := encoder_Split_I.summ mixed acc false false

/-! bitloft/decoder.get -/
noncomputable def decoder_get_I : FnI Tryz.prog GT := { f := 97, cuts := [⟨(6, 3), [0, 7], false, false, []⟩], tab := [encoder_Split_S (fun _ => true), decoder_at_S (fun _ => true)], fm := ⟨false, [.val .bool [], .box 0 T_api_Decoder [.pu]]⟩ }
noncomputable def decoder_get (a1 : Int) (b0 : D_api_Decoder) : Option (Bool × D_api_Decoder) := decoder_get_I.call [(.ptr T_api_Decoder 0 []), (.int .i64 a1)] [(0, (.box T_api_Decoder (inj false T_api_Decoder b0)))]
noncomputable def decoder_get_c1 (v7 : Bool) (b0 : D_api_Decoder) : Option (Bool × D_api_Decoder) := decoder_get_I.sem ⟨[.code (cIn (cIn (cFst (cSnd (cSnd (cSnd (cSnd (bodyOf Tryz.prog 97)))))))), .inLoop (cIn (cIn (cFst (cSnd (cSnd (cSnd (cSnd (bodyOf Tryz.prog 97)))))))), .inBlock 0, .code (cSnd (cSnd (cSnd (cSnd (cSnd (bodyOf Tryz.prog 97))))))], ⟨[(0, (.one (.ptr T_api_Decoder 0 []))), (7, (.one (.bool v7)))], [(0, some (.box T_api_Decoder (inj false T_api_Decoder b0)))], 9⟩⟩
theorem decoder_get_eq (a1 : Int) (b0 : D_api_Decoder) : decoder_get a1 b0 = (
  (encoder_Split b0.1 b0.2.1 a1).bind fun (r1 : (Int × Int)) =>
  if (decide (b0.2.2.1 ≤ r1.1)) = true then
    decoder_get_c1 (decide (b0.2.2.1 ≤ r1.1)) (b0.1, (r1.1, b0.2.2))
  else
    decoder_get_c1 (decide (b0.2.2.1 ≤ r1.1)) ((IntKind.wrap .u32 (r1.1 + (1 : Int))), b0.2)) := (FnI.call_eq (by kernel_rfl)).trans (by kernel_rfl)
theorem decoder_get_c1_eq (v7 : Bool) (b0 : D_api_Decoder) : decoder_get_c1 v7 b0 = (
  gd (0 ≤ (24 : Int)) <|
  gd (0 ≤ (24 : Int)) <|
  if ((Int.fdiv b0.1 (16777216 : Int)) == (Int.fdiv b0.2.1 (16777216 : Int))) = true then
    gd (0 ≤ (8 : Int)) <|
    gd (0 ≤ (8 : Int)) <|
    gd (0 ≤ (8 : Int)) <|
    (decoder_at b0.2.2.2.1 b0.2.2.2.2.1).bind fun (r2 : (Int)) =>
    decoder_get_c1 v7 ((IntKind.wrap .u32 (b0.1 * (256 : Int))), ((bitsOr .u32 (IntKind.wrap .u32 (b0.2.1 * (256 : Int))) (255 : Int)), ((bitsOr .u32 (IntKind.wrap .u32 (b0.2.2.1 * (256 : Int))) (IntKind.wrap .u32 r2)), (b0.2.2.2.1, ((IntKind.wrap .i64 (b0.2.2.2.2.1 + (1 : Int))), b0.2.2.2.2.2)))))
  else
    some (v7, b0)) := (FnI.sem_eq _).trans (by kernel_rfl)
noncomputable def decoder_get_S (acc : List AV → Bool) : Summ Tryz.prog GT := decoder_get_I.summ mixed acc false false

/-! bitloft/decoder.Get -/
noncomputable def decoder_Get_I : FnI Tryz.prog GT := { f := 65, cuts := [], tab := [decoder_Check_S (fun _ => true), decoder_wrong_S (fun _ => true), slices_Clone_byte_byte_S (fun _ => true), (decoder_get_S (fun _ => true)).dropping], fm := ⟨false, [.val T_api_Decoder [], .val .bool [], .val (.int .i64) []]⟩ }
noncomputable def decoder_Get (a0 : D_api_Decoder) (a1 : Int) : Option (D_api_Decoder × Bool × Int) := decoder_Get_I.call [(.agg T_api_Decoder (inj false T_api_Decoder a0)), (.int .i64 a1)] []
theorem decoder_Get_eq (a0 : D_api_Decoder) (a1 : Int) : decoder_Get a0 a1 = (
  (decoder_Check a0).bind fun (r1 : (Int)) =>
  if (r1 != (0 : Int)) = true then
    some (((0 : Int), ((0 : Int), ((0 : Int), ([], ((0 : Int), ()))))), (false, r1))
  else
    (decoder_wrong a1).bind fun (r2 : (Bool)) =>
    if r2 = true then
      some (((0 : Int), ((0 : Int), ((0 : Int), ([], ((0 : Int), ()))))), (false, (2 : Int)))
    else
      (slices_Clone_byte_byte a0.2.2.2.1).bind fun (r3 : (List Int)) =>
      (decoder_get a1 (a0.1, (a0.2.1, (a0.2.2.1, (r3, a0.2.2.2.2))))).bind fun (r4 : (Bool × D_api_Decoder)) =>
      if (decide (r4.2.2.2.2.2.1 > (1000000 : Int))) = true then
        some (((0 : Int), ((0 : Int), ((0 : Int), ([], ((0 : Int), ()))))), (false, (4 : Int)))
      else
        some (r4.2, (r4.1, (0 : Int)))) := (FnI.call_eq (by kernel_rfl)).trans (by kernel_rfl)
noncomputable def decoder_Get_S (acc : List AV → Bool) : Summ Tryz.prog GT := decoder_Get_I.summ mixed acc false false

/-! bitloft/predict.Update -/
noncomputable def predict_Update_I : FnI Tryz.prog GT := { f := 66, cuts := [], tab := [(predict_Run_S (fun _ => true)).dropping], fm := ⟨false, [.val T_api_Predictor [], .val (.int .i64) []]⟩ }
noncomputable def predict_Update (a0 : D_api_Predictor) (a1 : Bool) : Option (D_api_Predictor × Int) := predict_Update_I.call [(.agg T_api_Predictor (inj false T_api_Predictor a0)), (.bool a1)] []
theorem predict_Update_eq (a0 : D_api_Predictor) (a1 : Bool) : predict_Update a0 a1 = (
  (predict_Run a0 [a1]).bind fun (r1 : (D_api_Predictor × List Int × Int)) =>
  some (r1.1, r1.2.2)) := (FnI.call_eq (by kernel_rfl)).trans (by kernel_rfl)
noncomputable def predict_Update_S (acc : List AV → Bool) : Summ Tryz.prog GT := predict_Update_I.summ mixed acc false false

/-! bitloft/codec.Decode -/
noncomputable def codec_Decode_I : FnI Tryz.prog GT := { f := 37, cuts := [⟨(8, 3), [2, 8, 10, 11], false, false, []⟩, ⟨(11, 7), [2, 8, 10, 11, 12, 45], false, false, []⟩], tab := [(codec_start_S (fun _ => true)).dropping, (decoder_New_S (fun _ => true)).dropping, predict_P_S (fun _ => true), (decoder_Get_S (fun _ => true)).dropping, (predict_Update_S (fun _ => true)).dropping], fm := ⟨true, [.val (.slice (.int .u8)) [.nw], .val (.int .i64) []]⟩ }
noncomputable def codec_Decode (a0 : Int) (a1 : List Int) (a2 : Int) : Option (List Int × Int) := codec_Decode_I.call [(.int .i64 a0), (.sl (.int .u8) false a1), (.int .i64 a2)] []
noncomputable def codec_Decode_c1 (v2 : Int) (b8 : D_api_Predictor) (b9 : D_api_Decoder) (h10 : List Int) : Option (List Int × Int) := codec_Decode_I.sem ⟨[.code (cIn (cIn (cFst (cSnd (cSnd (cSnd (cSnd (cSnd (cSnd (bodyOf Tryz.prog 37)))))))))), .inLoop (cIn (cIn (cFst (cSnd (cSnd (cSnd (cSnd (cSnd (cSnd (bodyOf Tryz.prog 37)))))))))), .inBlock 0, .code (cSnd (cSnd (cSnd (cSnd (cSnd (cSnd (cSnd (bodyOf Tryz.prog 37))))))))], ⟨[(2, (.one (.int .i64 v2))), (8, (.one (.ptr T_api_Predictor 8 []))), (10, (.one (.ptr T_api_Decoder 9 []))), (11, (.one (.ref (.int .u8) 10 0 (List.length h10) true)))], [(8, some (.box T_api_Predictor (inj false T_api_Predictor b8))), (9, some (.box T_api_Decoder (inj false T_api_Decoder b9))), (10, some (.row (.int .u8) true h10))], 11⟩⟩
noncomputable def codec_Decode_c2 (v2 : Int) (v12 : Int) (v45 : Int) (b8 : D_api_Predictor) (b9 : D_api_Decoder) (h10 : List Int) : Option (List Int × Int) := codec_Decode_I.sem ⟨[.code (cIn (cIn (cSnd (cFst (cSnd (cIn (cSnd (cIn (cIn (cFst (cSnd (cSnd (cSnd (cSnd (cSnd (cSnd (bodyOf Tryz.prog 37))))))))))))))))), .inLoop (cIn (cIn (cSnd (cFst (cSnd (cIn (cSnd (cIn (cIn (cFst (cSnd (cSnd (cSnd (cSnd (cSnd (cSnd (bodyOf Tryz.prog 37))))))))))))))))), .inBlock 2, .code (cSnd (cSnd (cIn (cSnd (cIn (cIn (cFst (cSnd (cSnd (cSnd (cSnd (cSnd (cSnd (bodyOf Tryz.prog 37)))))))))))))), .inBlock 1, .inLoop (cIn (cIn (cFst (cSnd (cSnd (cSnd (cSnd (cSnd (cSnd (bodyOf Tryz.prog 37)))))))))), .inBlock 0, .code (cSnd (cSnd (cSnd (cSnd (cSnd (cSnd (cSnd (bodyOf Tryz.prog 37))))))))], ⟨[(2, (.one (.int .i64 v2))), (8, (.one (.ptr T_api_Predictor 8 []))), (10, (.one (.ptr T_api_Decoder 9 []))), (11, (.one (.ref (.int .u8) 10 0 (List.length h10) true))), (12, (.one (.int .u8 v12))), (45, (.one (.int .i64 v45)))], [(8, some (.box T_api_Predictor (inj false T_api_Predictor b8))), (9, some (.box T_api_Decoder (inj false T_api_Decoder b9))), (10, some (.row (.int .u8) true h10))], 11⟩⟩
theorem codec_Decode_eq (a0 : Int) (a1 : List Int) (a2 : Int) : codec_Decode a0 a1 a2 = (
  (codec_start a0 (0 : Int)).bind fun (r1 : (D_api_Predictor × Int)) =>
  if (r1.2 != (0 : Int)) = true then
    some ([], (2 : Int))
  else
    if (decide (a2 < (0 : Int))) = true then
      some ([], (2 : Int))
    else
      if (decide (a2 > (4096 : Int))) = true then
        some ([], (2 : Int))
      else
        (decoder_New a1).bind fun (r2 : (D_api_Decoder × Int)) =>
        if (r2.2 != (0 : Int)) = true then
          some ([], r2.2)
        else
          codec_Decode_c1 a2 r1.1 r2.1 []) := (FnI.call_eq (by kernel_rfl)).trans (by kernel_rfl)
theorem codec_Decode_c1_eq (v2 : Int) (b8 : D_api_Predictor) (b9 : D_api_Decoder) (h10 : List Int) : codec_Decode_c1 v2 b8 b9 h10 = (
  if (decide ((Int.ofNat (List.length h10)) < v2)) = true then
    codec_Decode_c2 v2 (0 : Int) (0 : Int) b8 b9 h10
  else
    some (h10, (0 : Int))) := (FnI.sem_eq _).trans (by kernel_rfl)
theorem codec_Decode_c2_eq (v2 : Int) (v12 : Int) (v45 : Int) (b8 : D_api_Predictor) (b9 : D_api_Decoder) (h10 : List Int) : codec_Decode_c2 v2 v12 v45 b8 b9 h10 = (
  if (decide (v45 < (8 : Int))) = true then
    (predict_P b8).bind fun (r3 : (Int × Int)) =>
    (decoder_Get b9 r3.1).bind fun (r4 : (D_api_Decoder × Bool × Int)) =>
    (predict_Update b8 r4.2.1).bind fun (r5 : (D_api_Predictor × Int)) =>
    if r4.2.1 = true then
      codec_Decode_c2 v2 (IntKind.wrap .u8 ((IntKind.wrap .u8 (v12 * (2 : Int))) + (1 : Int))) (IntKind.wrap .i64 (v45 + (1 : Int))) r5.1 r4.1 h10
    else
      codec_Decode_c2 v2 (IntKind.wrap .u8 (v12 * (2 : Int))) (IntKind.wrap .i64 (v45 + (1 : Int))) r5.1 r4.1 h10
  else
    gd ((List.length (h10 ++ [v12])) * 1 ≤ 140737488355328) <|
    codec_Decode_c1 v2 b8 b9 (h10 ++ [v12])) := (FnI.sem_eq _).trans (by kernel_rfl)
noncomputable def codec_Decode_S (acc : List AV → Bool) : Summ Tryz.prog GT := codec_Decode_I.summ mixed acc false false

/-! bytes.Equal -/
noncomputable def bytes_Equal_I : FnI Tryz.prog GT := { f := 38, cuts := [], tab := [], fm := ⟨true, [.val .bool []]⟩ }
noncomputable def bytes_Equal (a0 : List Int) (a1 : List Int) : Option (Bool) := bytes_Equal_I.call [(.sl (.int .u8) false a0), (.sl (.int .u8) false a1)] []
theorem bytes_Equal_eq (a0 : List Int) (a1 : List Int) : bytes_Equal a0 a1 = (
  some ((ByteArray.toList (toStr a0)) == (ByteArray.toList (toStr a1)))) := (FnI.call_eq (by kernel_rfl)).trans (by kernel_rfl)
noncomputable def bytes_Equal_S (acc : List AV → Bool) : Summ Tryz.prog GT := bytes_Equal_I.summ mixed acc false false

/-! bitloft/header.Right -/
noncomputable def header_Right_I : FnI Tryz.prog GT := { f := 21, cuts := [], tab := [header_Check_S (fun _ => true), header_digest_S (fun _ => true)], fm := ⟨true, [.val .bool [], .val (.int .i64) []]⟩ }
noncomputable def header_Right (a0 : D_api_BlockHead) (a1 : List Int) : Option (Bool × Int) := header_Right_I.call [(.agg T_api_BlockHead (inj false T_api_BlockHead a0)), (.sl (.int .u8) false a1)] []
theorem header_Right_eq (a0 : D_api_BlockHead) (a1 : List Int) : header_Right a0 a1 = (
  (header_Check a0).bind fun (r1 : (Int)) =>
  if (r1 != (0 : Int)) = true then
    some (false, r1)
  else
    if ((Int.ofNat (List.length a1)) == a0.2.2.2.1) = true then
      (header_digest a0 a1).bind fun (r2 : ((List Int))) =>
      some ((peq (.arr 20 (.int .u8)) r2 a0.2.2.2.2.2.1), (0 : Int))
    else
      some (false, (0 : Int))) := (FnI.call_eq (by kernel_rfl)).trans (by kernel_rfl)
noncomputable def header_Right_S (acc : List AV → Bool) : Summ Tryz.prog GT := header_Right_I.summ mixed acc false false

/-! bitloft/block.Raw -/
noncomputable def block_Raw_I : FnI Tryz.prog GT := { f := 15, cuts := [], tab := [block_Check_S (fun _ => true), block_isLevel_S (fun _ => true), bytes_Clone_S (fun _ => true), codec_Decode_S (fun _ => true), codec_Encode_S (fun _ => true), bytes_Equal_S (fun _ => true), header_Right_S (fun _ => true)], fm := ⟨true, [.val (.slice (.int .u8)) [.nw], .val (.int .i64) []]⟩ }
noncomputable def block_Raw (a0 : Int) (a1 : D_api_Block) : Option (List Int × Int) := block_Raw_I.call [(.int .i64 a0), (.agg T_api_Block (inj false T_api_Block a1))] []
theorem block_Raw_eq (a0 : Int) (a1 : D_api_Block) : block_Raw a0 a1 = (
  (block_Check a1).bind fun (r1 : (Int)) =>
  if (r1 != (0 : Int)) = true then
    some ([], r1)
  else
    (block_isLevel a0).bind fun (r2 : (Bool)) =>
    if (not r2) = true then
      some ([], (2 : Int))
    else
      (bytes_Clone a1.2.1).bind fun (r3 : (List Int)) =>
      if (a1.1.1 == (2 : Int)) = true then
        (codec_Decode a0 a1.2.1 a1.1.2.2.2.1).bind fun (r4 : (List Int × Int)) =>
        if (r4.2 != (0 : Int)) = true then
          some ([], (12 : Int))
        else
          (codec_Encode a0 r4.1).bind fun (r5 : (List Int × Int)) =>
          if (r5.2 != (0 : Int)) = true then
            some ([], (12 : Int))
          else
            (bytes_Equal r5.1 a1.2.1).bind fun (r6 : (Bool)) =>
            if (not r6) = true then
              some ([], (12 : Int))
            else
              (header_Right a1.1 r4.1).bind fun (r7 : (Bool × Int)) =>
              if (not r7.1) = true then
                some ([], (22 : Int))
              else
                some (r4.1, (0 : Int))
      else
        (header_Right a1.1 r3).bind fun (r8 : (Bool × Int)) =>
        if (not r8.1) = true then
          some ([], (22 : Int))
        else
          some (r3, (0 : Int))) := (FnI.call_eq (by kernel_rfl)).trans (by kernel_rfl)
noncomputable def block_Raw_S (acc : List AV → Bool) : Summ Tryz.prog GT := block_Raw_I.summ mixed acc false false

/-! bitloft/header.Parse -/
noncomputable def header_Parse_I : FnI Tryz.prog GT := { f := 26, cuts := [⟨(5, 3), [0, 2, 4, 12, 13], false, false, []⟩, ⟨(8, 7), [0, 2, 4, 5, 12, 13, 17, 18], false, false, []⟩], tab := [header_Check_S (fun _ => true)], fm := ⟨true, [.val T_api_BlockHead [], .val (.int .i64) []]⟩ }
noncomputable def header_Parse (a0 : List Int) : Option (D_api_BlockHead × Int) := header_Parse_I.call [(.sl (.int .u8) false a0)] []
noncomputable def header_Parse_c1 (v0 : List Int) (v12 : (List Int)) (v13 : Int) (b8 : D_api_BlockHead) (b9 : (List Int)) : Option (D_api_BlockHead × Int) := header_Parse_I.sem ⟨[.code (cIn (cIn (cSnd (cFst (cSnd (cSnd (cSnd (bodyOf Tryz.prog 26)))))))), .inLoop (cIn (cIn (cSnd (cFst (cSnd (cSnd (cSnd (bodyOf Tryz.prog 26)))))))), .inBlock 0, .code (cSnd (cSnd (cSnd (cSnd (bodyOf Tryz.prog 26)))))], ⟨[(0, (.one (.sl (.int .u8) false v0))), (2, (.one (.ptr T_api_BlockHead 8 []))), (4, (.one (.ptr (.arr 5 (.int .i64)) 9 []))), (12, (.one (.agg (.arr 5 (.int .i64)) v12))), (13, (.one (.int .i64 v13)))], [(8, some (.box T_api_BlockHead (inj false T_api_BlockHead b8))), (9, some (.box (.arr 5 (.int .i64)) b9))], 10⟩⟩
noncomputable def header_Parse_c2 (v0 : List Int) (v5 : Int) (v12 : (List Int)) (v13 : Int) (v17 : Int) (v18 : Int) (b8 : D_api_BlockHead) (b9 : (List Int)) : Option (D_api_BlockHead × Int) := header_Parse_I.sem ⟨[.code (cIn (cIn (cSnd (cSnd (cIn (cFst (cSnd (cSnd (cIn (cIn (cSnd (cFst (cSnd (cSnd (cSnd (bodyOf Tryz.prog 26)))))))))))))))), .inLoop (cIn (cIn (cSnd (cSnd (cIn (cFst (cSnd (cSnd (cIn (cIn (cSnd (cFst (cSnd (cSnd (cSnd (bodyOf Tryz.prog 26)))))))))))))))), .inBlock 2, .inBlock 1, .code (cSnd (cSnd (cSnd (cIn (cIn (cSnd (cFst (cSnd (cSnd (cSnd (bodyOf Tryz.prog 26))))))))))), .inLoop (cIn (cIn (cSnd (cFst (cSnd (cSnd (cSnd (bodyOf Tryz.prog 26)))))))), .inBlock 0, .code (cSnd (cSnd (cSnd (cSnd (bodyOf Tryz.prog 26)))))], ⟨[(0, (.one (.sl (.int .u8) false v0))), (2, (.one (.ptr T_api_BlockHead 8 []))), (4, (.one (.ptr (.arr 5 (.int .i64)) 9 []))), (5, (.one (.int .i64 v5))), (12, (.one (.agg (.arr 5 (.int .i64)) v12))), (13, (.one (.int .i64 v13))), (17, (.one (.int .i64 v17))), (18, (.one (.int .i64 v18)))], [(8, some (.box T_api_BlockHead (inj false T_api_BlockHead b8))), (9, some (.box (.arr 5 (.int .i64)) b9))], 10⟩⟩
theorem header_Parse_eq (a0 : List Int) : header_Parse a0 = (
  if ((Int.ofNat (List.length a0)) != (28 : Int)) = true then
    some (((0 : Int), ((0 : Int), ((0 : Int), ((0 : Int), ((0 : Int), ((List.replicate 20 (0 : Int)), ())))))), (12 : Int))
  else
    header_Parse_c1 a0 G_widths (0 : Int) ((0 : Int), ((0 : Int), ((0 : Int), ((0 : Int), ((0 : Int), ((List.replicate 20 (0 : Int)), ())))))) (List.replicate 5 (0 : Int))) := (FnI.call_eq (by kernel_rfl)).trans (by kernel_rfl)
theorem header_Parse_c1_eq (v0 : List Int) (v12 : (List Int)) (v13 : Int) (b8 : D_api_BlockHead) (b9 : (List Int)) : header_Parse_c1 v0 v12 v13 b8 b9 = (
  if (decide (v13 < (5 : Int))) = true then
    gd (0 ≤ v13) <|
    gd (v13 < (5 : Int)) <|
    header_Parse_c2 v0 v13 v12 v13 (List.getD v12 (Int.toNat v13) (0 : Int)) (0 : Int) b8 b9
  else
    gd (0 ≤ (0 : Int)) <|
    gd ((0 : Int) < (5 : Int)) <|
    gd (0 ≤ (1 : Int)) <|
    gd ((1 : Int) < (5 : Int)) <|
    gd (0 ≤ (2 : Int)) <|
    gd ((2 : Int) < (5 : Int)) <|
    gd (0 ≤ (3 : Int)) <|
    gd ((3 : Int) < (5 : Int)) <|
    gd (0 ≤ (4 : Int)) <|
    gd ((4 : Int) < (5 : Int)) <|
    (header_Check ((IntKind.wrap .u8 (List.getD b9 0 (0 : Int))), ((List.getD b9 1 (0 : Int)), ((List.getD b9 2 (0 : Int)), ((List.getD b9 3 (0 : Int)), ((List.getD b9 4 (0 : Int)), ((splice (List.replicate 20 (0 : Int)) 0 (List.take (min (List.length v0) 20) v0)), ()))))))).bind fun (r1 : (Int)) =>
    if (r1 != (0 : Int)) = true then
      some (((0 : Int), ((0 : Int), ((0 : Int), ((0 : Int), ((0 : Int), ((List.replicate 20 (0 : Int)), ())))))), (12 : Int))
    else
      some (((IntKind.wrap .u8 (List.getD b9 0 (0 : Int))), ((List.getD b9 1 (0 : Int)), ((List.getD b9 2 (0 : Int)), ((List.getD b9 3 (0 : Int)), ((List.getD b9 4 (0 : Int)), ((splice (List.replicate 20 (0 : Int)) 0 (List.take (min (List.length v0) 20) v0)), ())))))), (0 : Int))) := (FnI.sem_eq _).trans (by kernel_rfl)
theorem header_Parse_c2_eq (v0 : List Int) (v5 : Int) (v12 : (List Int)) (v13 : Int) (v17 : Int) (v18 : Int) (b8 : D_api_BlockHead) (b9 : (List Int)) : header_Parse_c2 v0 v5 v12 v13 v17 v18 b8 b9 = (
  if (decide (v18 < v17)) = true then
    gd (0 ≤ v5) <|
    gd (v5 < (5 : Int)) <|
    gd (0 ≤ (8 : Int)) <|
    gd (0 ≤ (0 : Int)) <|
    gd ((0 : Int) < (Int.ofNat (List.length v0))) <|
    gd (0 ≤ v5) <|
    gd (v5 < (5 : Int)) <|
    gd (0 ≤ (1 : Int)) <|
    gd ((1 : Int) ≤ (Int.ofNat (List.length v0))) <|
    header_Parse_c2 (List.drop 1 v0) v5 v12 v13 v17 (IntKind.wrap .i64 (v18 + (1 : Int))) b8 (List.set b9 (Int.toNat v5) (bitsOr .i64 (IntKind.wrap .i64 ((List.getD b9 (Int.toNat v5) (0 : Int)) * (256 : Int))) (IntKind.wrap .i64 (List.getD v0 0 (0 : Int)))))
  else
    header_Parse_c1 v0 v12 (IntKind.wrap .i64 (v13 + (1 : Int))) b8 b9) := (FnI.sem_eq _).trans (by kernel_rfl)
noncomputable def header_Parse_S (acc : List AV → Bool) : Summ Tryz.prog GT := header_Parse_I.summ mixed acc false false

/-! bitloft/marker.check -/
noncomputable def marker_check_I : FnI Tryz.prog GT := { f := 53, cuts := [], tab := [], fm := ⟨true, [.val (.int .i64) []]⟩ }
noncomputable def marker_check (a0 : List Int) (a1 : Int) : Option (Int) := marker_check_I.call [(.sl (.int .u8) false a0), (.int .i64 a1)] []
theorem marker_check_eq (a0 : List Int) (a1 : Int) : marker_check a0 a1 = (
  if (decide ((Int.ofNat (List.length a0)) > (50000 : Int))) = true then
    some (4 : Int)
  else
    if (decide (a1 < (0 : Int))) = true then
      some (2 : Int)
    else
      if (decide (a1 > (Int.ofNat (List.length a0)))) = true then
        some (2 : Int)
      else
        some (0 : Int)) := (FnI.call_eq (by kernel_rfl)).trans (by kernel_rfl)
noncomputable def marker_check_S (acc : List AV → Bool) : Summ Tryz.prog GT := marker_check_I.summ mixed acc false false

/-! bytes.HasPrefix -/
noncomputable def bytes_HasPrefix_I : FnI Tryz.prog GT := { f := 54, cuts := [], tab := [bytes_Equal_S (fun _ => true)], fm := ⟨true, [.val .bool []]⟩ }
noncomputable def bytes_HasPrefix (a0 : List Int) (a1 : List Int) : Option (Bool) := bytes_HasPrefix_I.call [(.sl (.int .u8) false a0), (.sl (.int .u8) false a1)] []
theorem bytes_HasPrefix_eq (a0 : List Int) (a1 : List Int) : bytes_HasPrefix a0 a1 = (
  if (decide ((Int.ofNat (List.length a0)) ≥ (Int.ofNat (List.length a1)))) = true then
    gd (0 ≤ (Int.ofNat (List.length a1))) <|
    gd ((Int.ofNat (List.length a1)) ≤ (Int.ofNat (List.length a0))) <|
    (bytes_Equal (List.take (List.length a1) a0) a1).bind fun (r1 : (Bool)) =>
    some (r1)
  else
    some (false)) := (FnI.call_eq (by kernel_rfl)).trans (by kernel_rfl)
noncomputable def bytes_HasPrefix_S (acc : List AV → Bool) : Summ Tryz.prog GT := bytes_HasPrefix_I.summ mixed acc false false

/-! bitloft/marker.At -/
noncomputable def marker_At_I : FnI Tryz.prog GT := { f := 27, cuts := [], tab := [marker_check_S (fun _ => true), marker_Bytes_S (fun _ => true), bytes_HasPrefix_S (fun _ => true)], fm := ⟨true, [.val .bool [], .val (.int .i64) []]⟩ }
noncomputable def marker_At (a0 : List Int) (a1 : Int) : Option (Bool × Int) := marker_At_I.call [(.sl (.int .u8) false a0), (.int .i64 a1)] []
theorem marker_At_eq (a0 : List Int) (a1 : Int) : marker_At a0 a1 = (
  (marker_check a0 a1).bind fun (r1 : (Int)) =>
  if (r1 != (0 : Int)) = true then
    some (false, r1)
  else
    gd (0 ≤ a1) <|
    gd (a1 ≤ (Int.ofNat (List.length a0))) <|
    (marker_Bytes).bind fun (r2 : (List Int)) =>
    (bytes_HasPrefix (List.drop (Int.toNat a1) a0) r2).bind fun (r3 : (Bool)) =>
    some (r3, (0 : Int))) := (FnI.call_eq (by kernel_rfl)).trans (by kernel_rfl)
noncomputable def marker_At_S (acc : List AV → Bool) : Summ Tryz.prog GT := marker_At_I.summ mixed acc false false

/-! bitloft/block.Read -/
noncomputable def block_Read_I : FnI Tryz.prog GT := { f := 9, cuts := [], tab := [header_Parse_S (fun _ => true), marker_At_S (fun _ => true), bytes_Clone_S (fun _ => true)], fm := ⟨true, [.val T_api_Block [], .val (.int .i64) [], .val (.int .i64) []]⟩ }
noncomputable def block_Read (a0 : List Int) : Option (D_api_Block × Int × Int) := block_Read_I.call [(.sl (.int .u8) false a0)] []
theorem block_Read_eq (a0 : List Int) : block_Read a0 = (
  if (decide ((Int.ofNat (List.length a0)) > (50000 : Int))) = true then
    some ((((0 : Int), ((0 : Int), ((0 : Int), ((0 : Int), ((0 : Int), ((List.replicate 20 (0 : Int)), ())))))), ([], ())), ((0 : Int), (4 : Int)))
  else
    if (decide ((Int.ofNat (List.length a0)) < (41 : Int))) = true then
      some ((((0 : Int), ((0 : Int), ((0 : Int), ((0 : Int), ((0 : Int), ((List.replicate 20 (0 : Int)), ())))))), ([], ())), ((0 : Int), (18 : Int)))
    else
      gd (0 ≤ (13 : Int)) <|
      gd ((13 : Int) ≤ (41 : Int)) <|
      gd ((41 : Int) ≤ (Int.ofNat (List.length a0))) <|
      (header_Parse (List.take 28 (List.drop 13 a0))).bind fun (r1 : (D_api_BlockHead × Int)) =>
      (marker_At a0 (0 : Int)).bind fun (r2 : (Bool × Int)) =>
      if (not r2.1) = true then
        some ((((0 : Int), ((0 : Int), ((0 : Int), ((0 : Int), ((0 : Int), ((List.replicate 20 (0 : Int)), ())))))), ([], ())), ((0 : Int), (12 : Int)))
      else
        if (r1.2 != (0 : Int)) = true then
          some ((((0 : Int), ((0 : Int), ((0 : Int), ((0 : Int), ((0 : Int), ((List.replicate 20 (0 : Int)), ())))))), ([], ())), ((0 : Int), (12 : Int)))
        else
          if (decide ((Int.ofNat (List.length a0)) < (IntKind.wrap .i64 ((41 : Int) + r1.1.2.2.2.2.1)))) = true then
            some ((((0 : Int), ((0 : Int), ((0 : Int), ((0 : Int), ((0 : Int), ((List.replicate 20 (0 : Int)), ())))))), ([], ())), ((0 : Int), (18 : Int)))
          else
            gd (0 ≤ (41 : Int)) <|
            gd ((41 : Int) ≤ (IntKind.wrap .i64 ((41 : Int) + r1.1.2.2.2.2.1))) <|
            gd ((IntKind.wrap .i64 ((41 : Int) + r1.1.2.2.2.2.1)) ≤ (Int.ofNat (List.length a0))) <|
            (bytes_Clone (List.take ((Int.toNat (IntKind.wrap .i64 ((41 : Int) + r1.1.2.2.2.2.1))) - 41) (List.drop 41 a0))).bind fun (r3 : (List Int)) =>
            some ((r1.1, (r3, ())), ((IntKind.wrap .i64 ((41 : Int) + r1.1.2.2.2.2.1)), (0 : Int)))) := (FnI.call_eq (by kernel_rfl)).trans (by kernel_rfl)
noncomputable def block_Read_S (acc : List AV → Bool) : Summ Tryz.prog GT := block_Read_I.summ mixed acc false false

/-! bitloft/bitloftref27.Same -/
noncomputable def bitloftref27_Same_I : FnI Tryz.prog GT := { f := 17, cuts := [], tab := [], fm := ⟨true, [.val .bool []]⟩ }
noncomputable def bitloftref27_Same (a0 : D_api_Block) (a1 : D_api_Block) : Option (Bool) := bitloftref27_Same_I.call [(.agg T_api_Block (inj false T_api_Block a0)), (.agg T_api_Block (inj false T_api_Block a1))] []
theorem bitloftref27_Same_eq (a0 : D_api_Block) (a1 : D_api_Block) : bitloftref27_Same a0 a1 = (
  if (peq T_api_BlockHead a0.1 a1.1) = true then
    some ((ByteArray.toList (toStr a0.2.1)) == (ByteArray.toList (toStr a1.2.1)))
  else
    some (false)) := (FnI.call_eq (by kernel_rfl)).trans (by kernel_rfl)
noncomputable def bitloftref27_Same_S (acc : List AV → Bool) : Summ Tryz.prog GT := bitloftref27_Same_I.summ mixed acc false false

/-! bitloft/bitloftlaw27.BlockBack -/
noncomputable def bitloftlaw27_BlockBack_I : FnI Tryz.prog GT := { f := 6, cuts := [], tab := [bitloftlaw27_alive_S (fun _ => true), bitloftref27_May_S (fun _ => true), block_Make_S (fun _ => true), bitloftref27_Check_S (fun _ => true), block_Raw_S (fun _ => true), codec_Encode_S (fun _ => true), block_Write_S (fun _ => true), block_Read_S (fun _ => true), header_Right_S (fun _ => true), bitloftref27_Same_S (fun _ => true)], fm := ⟨true, [.val .bool []]⟩ }
noncomputable def bitloftlaw27_BlockBack (a0 : Int) (a1 : Int) (a2 : Int) (a3 : List Int) (a4 : List Int) : Option (Bool) := bitloftlaw27_BlockBack_I.call [(.int .i64 a0), (.int .i64 a1), (.int .i64 a2), (.sl (.int .u8) false a3), (.sl (.int .u8) false a4)] []
theorem bitloftlaw27_BlockBack_eq (a0 : Int) (a1 : Int) (a2 : Int) (a3 : List Int) (a4 : List Int) : bitloftlaw27_BlockBack a0 a1 a2 a3 a4 = (
  (bitloftlaw27_alive).bind fun (r1 : (Bool)) =>
  if (decide ((Int.ofNat (List.length a3)) > (60 : Int))) = true then
    some (r1)
  else
    if (decide ((Int.ofNat (List.length a4)) > (200 : Int))) = true then
      some (r1)
    else
      (bitloftref27_May a0 a1 a2 a3).bind fun (r2 : (Bool)) =>
      if (not r2) = true then
        some (r1)
      else
        if (not r1) = true then
          some (r1)
        else
          (block_Make a0 a1 a2 a3).bind fun (r3 : (D_api_Block × Int)) =>
          if (r3.2 != (0 : Int)) = true then
            some (false)
          else
            (bitloftref27_Check r3.1).bind fun (r4 : (Int)) =>
            if (r4 != (0 : Int)) = true then
              some (false)
            else
              if (decide (r3.1.1.2.2.2.2.1 > (Int.ofNat (List.length a3)))) = true then
                some (false)
              else
                if (r3.1.1.2.2.2.1 != (Int.ofNat (List.length a3))) = true then
                  some (false)
                else
                  if (r3.1.1.2.1 != a1) = true then
                    some (false)
                  else
                    if (r3.1.1.2.2.1 != a2) = true then
                      some (false)
                    else
                      (block_Raw a0 r3.1).bind fun (r5 : (List Int × Int)) =>
                      (codec_Encode a0 a3).bind fun (r6 : (List Int × Int)) =>
                      (block_Write r3.1).bind fun (r7 : ((List Int × Nat × Nat) × Int)) =>
                      gd ((List.length ([] ++ (List.take r7.1.2.2 (List.drop r7.1.2.1 r7.1.1)))) * 1 ≤ 140737488355328) <|
                      gd ((List.length (([] ++ (List.take r7.1.2.2 (List.drop r7.1.2.1 r7.1.1))) ++ a4)) * 1 ≤ 140737488355328) <|
                      (block_Read (([] ++ (List.take r7.1.2.2 (List.drop r7.1.2.1 r7.1.1))) ++ a4)).bind fun (r8 : (D_api_Block × Int × Int)) =>
                      (header_Right r3.1.1 a3).bind fun (r9 : (Bool × Int)) =>
                      if (r5.2 != (0 : Int)) = true then
                        some (false)
                      else
                        if (not ((ByteArray.toList (toStr r5.1)) == (ByteArray.toList (toStr a3)))) = true then
                          some (false)
                        else
                          if (r6.2 != (0 : Int)) = true then
                            some (false)
                          else
                            if (not ((r3.1.1.1 == (2 : Int)) == (decide ((Int.ofNat (List.length r6.1)) < (Int.ofNat (List.length a3)))))) = true then
                              some (false)
                            else
                              if r1 = true then
                                if (r7.2 == (0 : Int)) = true then
                                  if ((Int.ofNat r7.1.2.2) == (IntKind.wrap .i64 (r3.1.1.2.2.2.2.1 + (41 : Int)))) = true then
                                    if (r8.2.2 == (0 : Int)) = true then
                                      if (r8.2.1 == (Int.ofNat r7.1.2.2)) = true then
                                        (bitloftref27_Same r8.1 r3.1).bind fun (r10 : (Bool)) =>
                                        if r10 = true then
                                          if (r9.2 == (0 : Int)) = true then
                                            some (r9.1)
                                          else
                                            some (false)
                                        else
                                          some (false)
                                      else
                                        some (false)
                                    else
                                      some (false)
                                  else
                                    some (false)
                                else
                                  some (false)
                              else
                                some (false)) := (FnI.call_eq (by kernel_rfl)).trans (by kernel_rfl)
noncomputable def bitloftlaw27_BlockBack_S (acc : List AV → Bool) : Summ Tryz.prog GT := bitloftlaw27_BlockBack_I.summ mixed acc false false
end Go.Ab
