/-
  What the functions compute, as plain functions: printed by a program of this repo's own and checked here by the kernel.
-/
import Derived.Test.YtbgokmkefnepcaaGreatDoorGenRb
set_option linter.unusedVariables false
set_option maxRecDepth 20000
namespace Go.Ab
open Go Go.Proofs
/-! bitloft/finder.Put -/
noncomputable def finder_Put_I : FnI Tryz.prog GT := { f := 261, cuts := [], tab := [finder_place_S (fun _ => true), slices_Clone_int_int_S (fun _ => true)], fm := ⟨true, [.val T_api_Finder [], .val (.int .i64) []]⟩ }
noncomputable def finder_Put (a0 : D_api_Finder) (a1 : Int) (a2 : Int) : Option (D_api_Finder × Int) := finder_Put_I.call [(.agg T_api_Finder (inj false T_api_Finder a0)), (.int .u32 a1), (.int .i64 a2)] []
theorem finder_Put_eq (a0 : D_api_Finder) (a1 : Int) (a2 : Int) : finder_Put a0 a1 a2 = (
  (finder_place a0 a1).bind fun (r1 : (Int × Int)) =>
  if (r1.2 != (0 : Int)) = true then
    some (((0 : Int), ([], ())), r1.2)
  else
    if (decide (a2 < (0 : Int))) = true then
      some (((0 : Int), ([], ())), (2 : Int))
    else
      if (decide (a2 > (1073741824 : Int))) = true then
        some (((0 : Int), ([], ())), (2 : Int))
      else
        (slices_Clone_int_int a0.2.1).bind fun (r2 : (List Int)) =>
        gd (0 ≤ r1.1) <|
        gd (r1.1 < (Int.ofNat (List.length r2))) <|
        some ((a0.1, ((List.set r2 (0 + (Int.toNat r1.1)) a2), ())), (0 : Int))) := (FnI.call_eq (by kernel_rfl)).trans (by kernel_rfl)
noncomputable def finder_Put_S (acc : List AV → Bool) : Summ Tryz.prog GT := finder_Put_I.summ mixed acc false false

/-! bitloft/match.Byte -/
noncomputable def match_Byte_I : FnI Tryz.prog GT := { f := 200, cuts := [], tab := [match_Check_S (fun _ => true), ring_Check_S (fun _ => true), finder_Check_S (fun _ => true), match_New_S (fun _ => true), match_expect_S (fun _ => true), ring_Put_S (fun _ => true), match_recent_S (fun _ => true), finder_Find_S (fun _ => true), finder_Length_S (fun _ => true), finder_Put_S (fun _ => true)], fm := ⟨true, [.val T_api_Match [], .val T_api_Ring [], .val T_api_Finder [], .val (.int .i64) []]⟩ }
noncomputable def match_Byte (a0 : D_api_Match) (a1 : D_api_Ring) (a2 : D_api_Finder) (a3 : Int) : Option (D_api_Match × D_api_Ring × D_api_Finder × Int) := match_Byte_I.call [(.agg T_api_Match (inj false T_api_Match a0)), (.agg T_api_Ring (inj false T_api_Ring a1)), (.agg T_api_Finder (inj false T_api_Finder a2)), (.int .u8 a3)] []
theorem match_Byte_eq (a0 : D_api_Match) (a1 : D_api_Ring) (a2 : D_api_Finder) (a3 : Int) : match_Byte a0 a1 a2 a3 = (
  (match_Check a0).bind fun (r1 : (Int)) =>
  if (r1 != (0 : Int)) = true then
    some (((0 : Int), ((0 : Int), ())), (((0 : Int), ([], ((0 : Int), ()))), (((0 : Int), ([], ())), (8 : Int))))
  else
    (ring_Check a1).bind fun (r2 : (Int)) =>
    if (r2 != (0 : Int)) = true then
      some (((0 : Int), ((0 : Int), ())), (((0 : Int), ([], ((0 : Int), ()))), (((0 : Int), ([], ())), (8 : Int))))
    else
      (finder_Check a2).bind fun (r3 : (Int)) =>
      if (r3 != (0 : Int)) = true then
        some (((0 : Int), ((0 : Int), ())), (((0 : Int), ([], ((0 : Int), ()))), (((0 : Int), ([], ())), (8 : Int))))
      else
        (match_New).bind fun (r4 : (D_api_Match)) =>
        (match_expect a0 a1).bind fun (r5 : (Int × Bool)) =>
        if r5.2 = true then
          if (r5.1 == a3) = true then
            if (decide (a0.1 < (1073741824 : Int))) = true then
              (ring_Put a1 [a3]).bind fun (r6 : (D_api_Ring × Int)) =>
              if (r6.2 != (0 : Int)) = true then
                some (((0 : Int), ((0 : Int), ())), (((0 : Int), ([], ((0 : Int), ()))), (((0 : Int), ([], ())), r6.2)))
              else
                (match_recent r6.1).bind fun (r7 : (Int)) =>
                (finder_Find a2 r7).bind fun (r8 : (Int × Int)) =>
                if (decide ((IntKind.wrap .i64 (a0.1 + (1 : Int))) < (0 : Int))) = true then
                  if (decide (r8.1 ≥ (0 : Int))) = true then
                    if (decide (r8.1 ≤ r6.1.2.2.1)) = true then
                      (finder_Length r6.1 r8.1 (40 : Int)).bind fun (r9 : (Int × Int)) =>
                      if (decide (r9.1 ≥ (3 : Int))) = true then
                        (finder_Put a2 r7 r6.1.2.2.1).bind fun (r10 : (D_api_Finder × Int)) =>
                        some ((r8.1, (r9.1, ())), (r6.1, (r10.1, (0 : Int))))
                      else
                        (finder_Put a2 r7 r6.1.2.2.1).bind fun (r11 : (D_api_Finder × Int)) =>
                        some (((IntKind.wrap .i64 (a0.1 + (1 : Int))), ((if (40 : Int) < (IntKind.wrap .i64 (a0.2.1 + (1 : Int))) then (40 : Int) else (IntKind.wrap .i64 (a0.2.1 + (1 : Int)))), ())), (r6.1, (r11.1, (0 : Int))))
                    else
                      (finder_Put a2 r7 r6.1.2.2.1).bind fun (r12 : (D_api_Finder × Int)) =>
                      some (((IntKind.wrap .i64 (a0.1 + (1 : Int))), ((if (40 : Int) < (IntKind.wrap .i64 (a0.2.1 + (1 : Int))) then (40 : Int) else (IntKind.wrap .i64 (a0.2.1 + (1 : Int)))), ())), (r6.1, (r12.1, (0 : Int))))
                  else
                    (finder_Put a2 r7 r6.1.2.2.1).bind fun (r13 : (D_api_Finder × Int)) =>
                    some (((IntKind.wrap .i64 (a0.1 + (1 : Int))), ((if (40 : Int) < (IntKind.wrap .i64 (a0.2.1 + (1 : Int))) then (40 : Int) else (IntKind.wrap .i64 (a0.2.1 + (1 : Int)))), ())), (r6.1, (r13.1, (0 : Int))))
                else
                  (finder_Put a2 r7 r6.1.2.2.1).bind fun (r14 : (D_api_Finder × Int)) =>
                  some (((IntKind.wrap .i64 (a0.1 + (1 : Int))), ((if (40 : Int) < (IntKind.wrap .i64 (a0.2.1 + (1 : Int))) then (40 : Int) else (IntKind.wrap .i64 (a0.2.1 + (1 : Int)))), ())), (r6.1, (r14.1, (0 : Int))))
            else
              (ring_Put a1 [a3]).bind fun (r15 : (D_api_Ring × Int)) =>
              if (r15.2 != (0 : Int)) = true then
                some (((0 : Int), ((0 : Int), ())), (((0 : Int), ([], ((0 : Int), ()))), (((0 : Int), ([], ())), r15.2)))
              else
                (match_recent r15.1).bind fun (r16 : (Int)) =>
                (finder_Find a2 r16).bind fun (r17 : (Int × Int)) =>
                if (decide (r4.1 < (0 : Int))) = true then
                  if (decide (r17.1 ≥ (0 : Int))) = true then
                    if (decide (r17.1 ≤ r15.1.2.2.1)) = true then
                      (finder_Length r15.1 r17.1 (40 : Int)).bind fun (r18 : (Int × Int)) =>
                      if (decide (r18.1 ≥ (3 : Int))) = true then
                        (finder_Put a2 r16 r15.1.2.2.1).bind fun (r19 : (D_api_Finder × Int)) =>
                        some ((r17.1, (r18.1, ())), (r15.1, (r19.1, (0 : Int))))
                      else
                        (finder_Put a2 r16 r15.1.2.2.1).bind fun (r20 : (D_api_Finder × Int)) =>
                        some (r4, (r15.1, (r20.1, (0 : Int))))
                    else
                      (finder_Put a2 r16 r15.1.2.2.1).bind fun (r21 : (D_api_Finder × Int)) =>
                      some (r4, (r15.1, (r21.1, (0 : Int))))
                  else
                    (finder_Put a2 r16 r15.1.2.2.1).bind fun (r22 : (D_api_Finder × Int)) =>
                    some (r4, (r15.1, (r22.1, (0 : Int))))
                else
                  (finder_Put a2 r16 r15.1.2.2.1).bind fun (r23 : (D_api_Finder × Int)) =>
                  some (r4, (r15.1, (r23.1, (0 : Int))))
          else
            (ring_Put a1 [a3]).bind fun (r24 : (D_api_Ring × Int)) =>
            if (r24.2 != (0 : Int)) = true then
              some (((0 : Int), ((0 : Int), ())), (((0 : Int), ([], ((0 : Int), ()))), (((0 : Int), ([], ())), r24.2)))
            else
              (match_recent r24.1).bind fun (r25 : (Int)) =>
              (finder_Find a2 r25).bind fun (r26 : (Int × Int)) =>
              if (decide (r4.1 < (0 : Int))) = true then
                if (decide (r26.1 ≥ (0 : Int))) = true then
                  if (decide (r26.1 ≤ r24.1.2.2.1)) = true then
                    (finder_Length r24.1 r26.1 (40 : Int)).bind fun (r27 : (Int × Int)) =>
                    if (decide (r27.1 ≥ (3 : Int))) = true then
                      (finder_Put a2 r25 r24.1.2.2.1).bind fun (r28 : (D_api_Finder × Int)) =>
                      some ((r26.1, (r27.1, ())), (r24.1, (r28.1, (0 : Int))))
                    else
                      (finder_Put a2 r25 r24.1.2.2.1).bind fun (r29 : (D_api_Finder × Int)) =>
                      some (r4, (r24.1, (r29.1, (0 : Int))))
                  else
                    (finder_Put a2 r25 r24.1.2.2.1).bind fun (r30 : (D_api_Finder × Int)) =>
                    some (r4, (r24.1, (r30.1, (0 : Int))))
                else
                  (finder_Put a2 r25 r24.1.2.2.1).bind fun (r31 : (D_api_Finder × Int)) =>
                  some (r4, (r24.1, (r31.1, (0 : Int))))
              else
                (finder_Put a2 r25 r24.1.2.2.1).bind fun (r32 : (D_api_Finder × Int)) =>
                some (r4, (r24.1, (r32.1, (0 : Int))))
        else
          (ring_Put a1 [a3]).bind fun (r33 : (D_api_Ring × Int)) =>
          if (r33.2 != (0 : Int)) = true then
            some (((0 : Int), ((0 : Int), ())), (((0 : Int), ([], ((0 : Int), ()))), (((0 : Int), ([], ())), r33.2)))
          else
            (match_recent r33.1).bind fun (r34 : (Int)) =>
            (finder_Find a2 r34).bind fun (r35 : (Int × Int)) =>
            if (decide (r4.1 < (0 : Int))) = true then
              if (decide (r35.1 ≥ (0 : Int))) = true then
                if (decide (r35.1 ≤ r33.1.2.2.1)) = true then
                  (finder_Length r33.1 r35.1 (40 : Int)).bind fun (r36 : (Int × Int)) =>
                  if (decide (r36.1 ≥ (3 : Int))) = true then
                    (finder_Put a2 r34 r33.1.2.2.1).bind fun (r37 : (D_api_Finder × Int)) =>
                    some ((r35.1, (r36.1, ())), (r33.1, (r37.1, (0 : Int))))
                  else
                    (finder_Put a2 r34 r33.1.2.2.1).bind fun (r38 : (D_api_Finder × Int)) =>
                    some (r4, (r33.1, (r38.1, (0 : Int))))
                else
                  (finder_Put a2 r34 r33.1.2.2.1).bind fun (r39 : (D_api_Finder × Int)) =>
                  some (r4, (r33.1, (r39.1, (0 : Int))))
              else
                (finder_Put a2 r34 r33.1.2.2.1).bind fun (r40 : (D_api_Finder × Int)) =>
                some (r4, (r33.1, (r40.1, (0 : Int))))
            else
              (finder_Put a2 r34 r33.1.2.2.1).bind fun (r41 : (D_api_Finder × Int)) =>
              some (r4, (r33.1, (r41.1, (0 : Int))))) := (FnI.call_eq (by kernel_rfl)).trans (by kernel_rfl)
noncomputable def match_Byte_S (acc : List AV → Bool) : Summ Tryz.prog GT := match_Byte_I.summ mixed acc false false

/-! bitloft/hashes.Step -/
noncomputable def hashes_Step_I : FnI Tryz.prog GT := { f := 262, cuts := [], tab := [hashes_steps_S (fun _ => true)], fm := ⟨true, [.val (.int .u32) []]⟩ }
noncomputable def hashes_Step (a0 : Int) (a1 : Int) : Option (Int) := hashes_Step_I.call [(.int .u32 a0), (.int .u8 a1)] []
theorem hashes_Step_eq (a0 : Int) (a1 : Int) : hashes_Step a0 a1 = (
  (hashes_steps a0 [a1]).bind fun (r1 : (Int)) =>
  some (r1)) := (FnI.call_eq (by kernel_rfl)).trans (by kernel_rfl)
noncomputable def hashes_Step_S (acc : List AV → Bool) : Summ Tryz.prog GT := hashes_Step_I.summ mixed acc false false

/-! bitloft/context.Deep -/
noncomputable def context_Deep_I : FnI Tryz.prog GT := { f := 201, cuts := [], tab := [hashes_Step_S (fun _ => true)], fm := ⟨true, [.val (.int .u32) [], .val (.int .i64) []]⟩ }
noncomputable def context_Deep (a0 : Int) (a1 : Int) : Option (Int × Int) := context_Deep_I.call [(.int .u32 a0), (.int .i64 a1)] []
theorem context_Deep_eq (a0 : Int) (a1 : Int) : context_Deep a0 a1 = (
  if (decide (a1 < (16 : Int))) = true then
    some ((0 : Int), (2 : Int))
  else
    if (decide (a1 > (31 : Int))) = true then
      some ((0 : Int), (2 : Int))
    else
      (hashes_Step a0 (IntKind.wrap .u8 a1)).bind fun (r1 : (Int)) =>
      some (r1, (0 : Int))) := (FnI.call_eq (by kernel_rfl)).trans (by kernel_rfl)
noncomputable def context_Deep_S (acc : List AV → Bool) : Summ Tryz.prog GT := context_Deep_I.summ mixed acc false false

/-! bitloft/predict.update -/
noncomputable def predict_update_I : FnI Tryz.prog GT := { f := 132, cuts := [⟨(7, 3), [2, 3, 4, 6, 8, 9, 31], false, false, []⟩, ⟨(28, 3), [3, 6, 11, 16, 152, 153], false, false, []⟩], tab := [(slices_Clone_api_Table_api_Table_S (fun _ => true)).dropping, (slices_Clone_api_Adapt_api_Adapt_S (fun _ => true)).dropping, adapt_Update_S (fun _ => true), slots_Bit_S (fun _ => true), mixer_Learn_S (fun _ => true), final_Learn_S (fun _ => true), nibble_Step_S (fun _ => true), match_Byte_S (fun _ => true), context_Of_S (fun _ => true), (predict_find_v2_S (fun _ => true)).dropping, context_Deep_S (fun _ => true)], fm := ⟨false, [.val T_api_Predictor [], .val (.int .i64) []]⟩ }
noncomputable def predict_update (a0 : D_api_Predictor) (a1 : D_predict_seen) (a2 : Bool) : Option (D_api_Predictor × Int) := predict_update_I.call [(.agg T_api_Predictor (inj false T_api_Predictor a0)), (.agg T_predict_seen (inj false T_predict_seen a1)), (.bool a2)] []
noncomputable def predict_update_c1 (v2 : Bool) (v8 : Int) (v9 : Int) (v31 : Int) (b8a : Int) (b8ba : D_api_Ring) (b8bbbb : (D_api_Mixer × (D_api_Final × (D_api_Finder × (D_api_Match × (D_api_Walk × ((List Int) × ((List Int) × Unit)))))))) (b9 : D_predict_seen) (b10a : Int) (b10baa : Int) (b10babb : D_api_Walk) (b10bbbbab : Unit) (b10bbbbbaab : Unit) (b10bbbbbabab : Unit) (b10bbbbbabb : Unit) (b10bbbbbbaa : Int) (b10bbbbbbabb : Unit) (b10bbbbbbb : (D_api_Match × (D_api_Walk × ((List Int) × ((List Int) × Unit))))) (h11 : List D_api_Table) (h12 : List D_api_Adapt) (h13 : List Int) (h14 : List D_api_Table) (h15 : List D_api_Adapt) (h16 : List (List Int)) (h17 : List (List Int)) (h18 : List (List Int)) (h19 : List Int) : Option (D_api_Predictor × Int) := predict_update_I.sem ⟨[.code (cIn (cIn (cSnd (cFst (cSnd (cSnd (cSnd (cSnd (cSnd (bodyOf Tryz.prog 132)))))))))), .inLoop (cIn (cIn (cSnd (cFst (cSnd (cSnd (cSnd (cSnd (cSnd (bodyOf Tryz.prog 132)))))))))), .inBlock 0, .code (cSnd (cSnd (cSnd (cSnd (cSnd (cSnd (bodyOf Tryz.prog 132)))))))], ⟨[(2, (.one (.bool v2))), (3, (.one (.ptr T_api_Predictor 8 []))), (4, (.one (.ptr T_predict_seen 9 []))), (6, (.one (.ptr T_api_Predictor 10 []))), (8, (.one (.int .u8 v8))), (9, (.one (.int .i64 v9))), (31, (.one (.int .i64 v31)))], [(8, some (.box T_api_Predictor (b8a, ((inj false T_api_Ring b8ba), ((SV.ref 11 0 (List.length h11) true), ((SV.ref 12 0 (List.length h12) true), (inj false (.pair T_api_Mixer (.pair T_api_Final (.pair T_api_Finder (.pair T_api_Match (.pair T_api_Walk (.pair (.arr 6 (.int .u32)) (.pair (.arr 6 (.int .i64)) .unit))))))) b8bbbb))))))), (9, some (.box T_predict_seen (inj false T_predict_seen b9))), (10, some (.box T_api_Predictor (b10a, ((b10baa, ((SV.ref 13 0 (List.length h13) true), (inj false T_api_Walk b10babb))), ((SV.ref 14 0 (List.length h14) true), ((SV.ref 15 0 (List.length h15) true), (((SV.ref 16 0 (List.length h16) true), b10bbbbab), ((((SV.ref 17 0 (List.length h17) true), b10bbbbbaab), (((SV.ref 18 0 (List.length h18) true), b10bbbbbabab), b10bbbbbabb)), ((b10bbbbbbaa, ((SV.ref 19 0 (List.length h19) true), b10bbbbbbabb)), (inj false (.pair T_api_Match (.pair T_api_Walk (.pair (.arr 6 (.int .u32)) (.pair (.arr 6 (.int .i64)) .unit)))) b10bbbbbbb)))))))))), (11, some (.row T_api_Table false h11)), (12, some (.row T_api_Adapt false h12)), (13, some (.row (.int .u8) true h13)), (14, some (.row T_api_Table true h14)), (15, some (.row T_api_Adapt true h15)), (16, some (.row (.slice (.int .i32)) true h16)), (17, some (.row (.slice (.int .i32)) true h17)), (18, some (.row (.slice (.int .i32)) true h18)), (19, some (.row (.int .i64) true h19))], 20⟩⟩
noncomputable def predict_update_c2 (v152 : (List Int)) (v153 : Int) (b8a : Int) (b8ba : D_api_Ring) (b8bbbba : D_api_Mixer) (b8bbbbba : D_api_Final) (b8bbbbbb : (D_api_Finder × (D_api_Match × (D_api_Walk × ((List Int) × ((List Int) × Unit)))))) (b9a : Int) (b9baa : Int) (b9babb : D_api_Walk) (b9bbbbab : Unit) (b9bbbbbaab : Unit) (b9bbbbbabab : Unit) (b9bbbbbabb : Unit) (b9bbbbbbaa : Int) (b9bbbbbbabb : Unit) (b9bbbbbbb : (D_api_Match × (D_api_Walk × ((List Int) × ((List Int) × Unit))))) (b10 : D_api_Walk) (b11 : (List Int)) (h12 : List D_api_Table) (h13 : List D_api_Adapt) (h14 : List Int) (h15 : List D_api_Table) (h16 : List D_api_Adapt) (h17 : List (List Int)) (h18 : List (List Int)) (h19 : List (List Int)) (h20 : List Int) : Option (D_api_Predictor × Int) := predict_update_I.sem ⟨[.code (cIn (cIn (cSnd (cFst (cSnd (cSnd (cSnd (cSnd (cSnd (cSnd (cSnd (cSnd (cSnd (cSnd (cSnd (cSnd (cSnd (bodyOf Tryz.prog 132)))))))))))))))))), .inLoop (cIn (cIn (cSnd (cFst (cSnd (cSnd (cSnd (cSnd (cSnd (cSnd (cSnd (cSnd (cSnd (cSnd (cSnd (cSnd (cSnd (bodyOf Tryz.prog 132)))))))))))))))))), .inBlock 2, .code (cSnd (cSnd (cSnd (cSnd (cSnd (cSnd (cSnd (cSnd (cSnd (cSnd (cSnd (cSnd (cSnd (cSnd (bodyOf Tryz.prog 132)))))))))))))))], ⟨[(3, (.one (.ptr T_api_Predictor 8 []))), (6, (.one (.ptr T_api_Predictor 9 []))), (11, (.one (.ptr T_api_Walk 10 []))), (16, (.one (.ptr (.arr 6 (.int .u32)) 11 []))), (152, (.one (.agg (.arr 6 (.int .u32)) v152))), (153, (.one (.int .i64 v153)))], [(8, some (.box T_api_Predictor (b8a, ((inj false T_api_Ring b8ba), ((SV.ref 12 0 (List.length h12) true), ((SV.ref 13 0 (List.length h13) true), ((inj true T_api_Mixer b8bbbba), ((inj true T_api_Final b8bbbbba), (inj false (.pair T_api_Finder (.pair T_api_Match (.pair T_api_Walk (.pair (.arr 6 (.int .u32)) (.pair (.arr 6 (.int .i64)) .unit))))) b8bbbbbb))))))))), (9, some (.box T_api_Predictor (b9a, ((b9baa, ((SV.ref 14 0 (List.length h14) true), (inj false T_api_Walk b9babb))), ((SV.ref 15 0 (List.length h15) true), ((SV.ref 16 0 (List.length h16) true), (((SV.ref 17 0 (List.length h17) true), b9bbbbab), ((((SV.ref 18 0 (List.length h18) true), b9bbbbbaab), (((SV.ref 19 0 (List.length h19) true), b9bbbbbabab), b9bbbbbabb)), ((b9bbbbbbaa, ((SV.ref 20 0 (List.length h20) true), b9bbbbbbabb)), (inj false (.pair T_api_Match (.pair T_api_Walk (.pair (.arr 6 (.int .u32)) (.pair (.arr 6 (.int .i64)) .unit)))) b9bbbbbbb)))))))))), (10, some (.box T_api_Walk (inj false T_api_Walk b10))), (11, some (.box (.arr 6 (.int .u32)) b11)), (12, some (.row T_api_Table false h12)), (13, some (.row T_api_Adapt false h13)), (14, some (.row (.int .u8) true h14)), (15, some (.row T_api_Table true h15)), (16, some (.row T_api_Adapt true h16)), (17, some (.row (.slice (.int .i32)) true h17)), (18, some (.row (.slice (.int .i32)) true h18)), (19, some (.row (.slice (.int .i32)) true h19)), (20, some (.row (.int .i64) true h20))], 21⟩⟩
theorem predict_update_eq (a0 : D_api_Predictor) (a1 : D_predict_seen) (a2 : Bool) : predict_update a0 a1 a2 = (
  if a2 = true then
    (slices_Clone_api_Table_api_Table a0.2.2.1).bind fun (r1 : (List D_api_Table)) =>
    (slices_Clone_api_Adapt_api_Adapt a0.2.2.2.1).bind fun (r2 : (List D_api_Adapt)) =>
    predict_update_c1 a2 (1 : Int) a0.2.2.2.2.2.2.2.2.1.1 (0 : Int) a0.1 a0.2.1 a0.2.2.2.2 a1 (0 : Int) (0 : Int) ((0 : Int), ()) () () () () (0 : Int) () (((0 : Int), ((0 : Int), ())), (((0 : Int), ()), ((List.replicate 6 (0 : Int)), ((List.replicate 6 (0 : Int)), ())))) r1 r2 [] [] [] [] [] [] []
  else
    (slices_Clone_api_Table_api_Table a0.2.2.1).bind fun (r3 : (List D_api_Table)) =>
    (slices_Clone_api_Adapt_api_Adapt a0.2.2.2.1).bind fun (r4 : (List D_api_Adapt)) =>
    predict_update_c1 a2 (0 : Int) a0.2.2.2.2.2.2.2.2.1.1 (0 : Int) a0.1 a0.2.1 a0.2.2.2.2 a1 (0 : Int) (0 : Int) ((0 : Int), ()) () () () () (0 : Int) () (((0 : Int), ((0 : Int), ())), (((0 : Int), ()), ((List.replicate 6 (0 : Int)), ((List.replicate 6 (0 : Int)), ())))) r3 r4 [] [] [] [] [] [] []) := (FnI.call_eq (by kernel_rfl)).trans (by kernel_rfl)
theorem predict_update_c1_eq (v2 : Bool) (v8 : Int) (v9 : Int) (v31 : Int) (b8a : Int) (b8ba : D_api_Ring) (b8bbbb : (D_api_Mixer × (D_api_Final × (D_api_Finder × (D_api_Match × (D_api_Walk × ((List Int) × ((List Int) × Unit)))))))) (b9 : D_predict_seen) (b10a : Int) (b10baa : Int) (b10babb : D_api_Walk) (b10bbbbab : Unit) (b10bbbbbaab : Unit) (b10bbbbbabab : Unit) (b10bbbbbabb : Unit) (b10bbbbbbaa : Int) (b10bbbbbbabb : Unit) (b10bbbbbbb : (D_api_Match × (D_api_Walk × ((List Int) × ((List Int) × Unit))))) (h11 : List D_api_Table) (h12 : List D_api_Adapt) (h13 : List Int) (h14 : List D_api_Table) (h15 : List D_api_Adapt) (h16 : List (List Int)) (h17 : List (List Int)) (h18 : List (List Int)) (h19 : List Int) : predict_update_c1 v2 v8 v9 v31 b8a b8ba b8bbbb b9 b10a b10baa b10babb b10bbbbab b10bbbbbaab b10bbbbbabab b10bbbbbabb b10bbbbbbaa b10bbbbbbabb b10bbbbbbb h11 h12 h13 h14 h15 h16 h17 h18 h19 = (
  if (decide (v31 < (6 : Int))) = true then
    gd (0 ≤ v31) <|
    gd (v31 < (Int.ofNat (List.length h12))) <|
    gd (0 ≤ v31) <|
    gd (v31 < (Int.ofNat (List.length b9.2.1))) <|
    (adapt_Update (List.getD h12 (0 + (Int.toNat v31)) (pzero T_api_Adapt)) (List.getD b9.2.1 (Int.toNat v31) (0 : Int)) v8).bind fun (r5 : (D_api_Adapt × Int)) =>
    gd (0 ≤ v31) <|
    gd (v31 < (Int.ofNat (List.length h12))) <|
    gd (0 ≤ v31) <|
    gd (v31 < (Int.ofNat (List.length h11))) <|
    gd (0 ≤ v31) <|
    gd (v31 < (6 : Int)) <|
    (slots_Bit (List.getD h11 (0 + (Int.toNat v31)) (pzero T_api_Table)) (List.getD b8bbbb.2.2.2.2.2.2.1 (Int.toNat v31) (0 : Int)) b9.1 v8).bind fun (r6 : (D_api_Table × Int)) =>
    gd (0 ≤ v31) <|
    gd (v31 < (Int.ofNat (List.length h11))) <|
    predict_update_c1 v2 v8 v9 (IntKind.wrap .i64 (v31 + (1 : Int))) b8a b8ba b8bbbb b9 b10a b10baa b10babb b10bbbbab b10bbbbbaab b10bbbbbabab b10bbbbbabb b10bbbbbbaa b10bbbbbbabb b10bbbbbbb (List.set h11 (0 + (Int.toNat v31)) r6.1) (List.set h12 (0 + (Int.toNat v31)) r5.1) h13 h14 h15 h16 h17 h18 h19
  else
    (mixer_Learn b8bbbb.1 v9 b9.2.2.1 b9.2.2.2.1 v2).bind fun (r7 : (D_api_Mixer × Int)) =>
    (final_Learn b8bbbb.2.1 b9.2.2.2.2.2.1 v2).bind fun (r8 : (D_api_Final × Int)) =>
    (nibble_Step b8bbbb.2.2.2.2.1 v2).bind fun (r9 : (D_api_Walk × Bool × Int × Int)) =>
    if r9.2.1 = true then
      (match_Byte b8bbbb.2.2.2.1 b8ba b8bbbb.2.2.1 r9.2.2.1).bind fun (r10 : (D_api_Match × D_api_Ring × D_api_Finder × Int)) =>
      if (r10.2.2.2 != (0 : Int)) = true then
        some (((0 : Int), (((0 : Int), ([], ((0 : Int), ()))), ([], ([], (([], ()), ((([], ()), (([], ()), ())), (((0 : Int), ([], ())), (((0 : Int), ((0 : Int), ())), (((0 : Int), ()), ((List.replicate 6 (0 : Int)), ((List.replicate 6 (0 : Int)), ()))))))))))), r10.2.2.2)
      else
        (context_Of r10.2.1).bind fun (r11 : ((List Int) × Int)) =>
        (predict_find_v2 r11.1 b8a r10.2.1 (r7.1, (r8.1, (r10.2.2.1, (r10.1, (r9.1, (r11.1, b8bbbb.2.2.2.2.2.2)))))) h11 h12).bind fun (r12 : (D_api_Predictor × List D_api_Table × List D_api_Adapt)) =>
        some ((r12.1.1, (r12.1.2.1, (r12.2.1, (r12.2.2, r12.1.2.2.2.2)))), (0 : Int))
    else
      if (decide (r9.1.1 < (16 : Int))) = true then
        some ((b8a, (b8ba, (h11, (h12, (r7.1, (r8.1, (b8bbbb.2.2.1, (b8bbbb.2.2.2.1, (r9.1, b8bbbb.2.2.2.2.2))))))))), (0 : Int))
      else
        if (decide (r9.1.1 > (31 : Int))) = true then
          some ((b8a, (b8ba, (h11, (h12, (r7.1, (r8.1, (b8bbbb.2.2.1, (b8bbbb.2.2.2.1, (r9.1, b8bbbb.2.2.2.2.2))))))))), (0 : Int))
        else
          predict_update_c2 b8bbbb.2.2.2.2.2.1 (0 : Int) b8a b8ba r7.1 r8.1 (b8bbbb.2.2.1, (b8bbbb.2.2.2.1, (r9.1, b8bbbb.2.2.2.2.2))) b10a b10baa b10babb b10bbbbab b10bbbbbaab b10bbbbbabab b10bbbbbabb b10bbbbbbaa b10bbbbbbabb b10bbbbbbb r9.1 b8bbbb.2.2.2.2.2.1 h11 h12 h13 h14 h15 h16 h17 h18 h19) := (FnI.sem_eq _).trans (by kernel_rfl)
theorem predict_update_c2_eq (v152 : (List Int)) (v153 : Int) (b8a : Int) (b8ba : D_api_Ring) (b8bbbba : D_api_Mixer) (b8bbbbba : D_api_Final) (b8bbbbbb : (D_api_Finder × (D_api_Match × (D_api_Walk × ((List Int) × ((List Int) × Unit)))))) (b9a : Int) (b9baa : Int) (b9babb : D_api_Walk) (b9bbbbab : Unit) (b9bbbbbaab : Unit) (b9bbbbbabab : Unit) (b9bbbbbabb : Unit) (b9bbbbbbaa : Int) (b9bbbbbbabb : Unit) (b9bbbbbbb : (D_api_Match × (D_api_Walk × ((List Int) × ((List Int) × Unit))))) (b10 : D_api_Walk) (b11 : (List Int)) (h12 : List D_api_Table) (h13 : List D_api_Adapt) (h14 : List Int) (h15 : List D_api_Table) (h16 : List D_api_Adapt) (h17 : List (List Int)) (h18 : List (List Int)) (h19 : List (List Int)) (h20 : List Int) : predict_update_c2 v152 v153 b8a b8ba b8bbbba b8bbbbba b8bbbbbb b9a b9baa b9babb b9bbbbab b9bbbbbaab b9bbbbbabab b9bbbbbabb b9bbbbbbaa b9bbbbbbabb b9bbbbbbb b10 b11 h12 h13 h14 h15 h16 h17 h18 h19 h20 = (
  if (decide (v153 < (6 : Int))) = true then
    gd (0 ≤ v153) <|
    gd (v153 < (6 : Int)) <|
    (context_Deep (List.getD v152 (Int.toNat v153) (0 : Int)) b10.1).bind fun (r13 : (Int × Int)) =>
    gd (0 ≤ v153) <|
    gd (v153 < (6 : Int)) <|
    predict_update_c2 v152 (IntKind.wrap .i64 (v153 + (1 : Int))) b8a b8ba b8bbbba b8bbbbba b8bbbbbb b9a b9baa b9babb b9bbbbab b9bbbbbaab b9bbbbbabab b9bbbbbabb b9bbbbbbaa b9bbbbbbabb b9bbbbbbb b10 (List.set b11 (Int.toNat v153) r13.1) h12 h13 h14 h15 h16 h17 h18 h19 h20
  else
    (predict_find_v2 b11 b8a b8ba (b8bbbba, (b8bbbbba, b8bbbbbb)) h12 h13).bind fun (r14 : (D_api_Predictor × List D_api_Table × List D_api_Adapt)) =>
    some ((r14.1.1, (r14.1.2.1, (r14.2.1, (r14.2.2, r14.1.2.2.2.2)))), (0 : Int))) := (FnI.sem_eq _).trans (by kernel_rfl)
noncomputable def predict_update_S (acc : List AV → Bool) : Summ Tryz.prog GT := predict_update_I.summ mixed acc false false

/-! bitloft/predict.Run -/
noncomputable def predict_Run_I : FnI Tryz.prog GT := { f := 75, cuts := [⟨(9, 3), [2, 4, 8, 26, 27, 28], false, false, []⟩], tab := [predict_Check_S (fun _ => true), (predict_twin_S (fun _ => true)).dropping, predict_see_S (fun _ => true), (predict_update_S (fun _ => true)).dropping], fm := ⟨false, [.val T_api_Predictor [], .val (.slice (.int .i64)) [.nw], .val (.int .i64) []]⟩ }
noncomputable def predict_Run (a0 : D_api_Predictor) (a1 : List Bool) : Option (D_api_Predictor × List Int × Int) := predict_Run_I.call [(.agg T_api_Predictor (inj false T_api_Predictor a0)), (.sl .bool false a1)] []
noncomputable def predict_Run_c1 (v26 : List Bool) (v27 : Int) (v28 : Int) (b8 : D_api_Predictor) (b9a : Int) (b9baa : Int) (b9babb : D_api_Walk) (b9bbbbab : Unit) (b9bbbbbaab : Unit) (b9bbbbbabab : Unit) (b9bbbbbabb : Unit) (b9bbbbbbaa : Int) (b9bbbbbbabb : Unit) (b9bbbbbbb : (D_api_Match × (D_api_Walk × ((List Int) × ((List Int) × Unit))))) (h10 : List Int) (h11 : List Int) (h12 : List D_api_Table) (h13 : List D_api_Adapt) (h14 : List (List Int)) (h15 : List (List Int)) (h16 : List (List Int)) (h17 : List Int) : Option (D_api_Predictor × List Int × Int) := predict_Run_I.sem ⟨[.code (cIn (cIn (cSnd (cFst (cSnd (cSnd (cSnd (cSnd (cSnd (bodyOf Tryz.prog 75)))))))))), .inLoop (cIn (cIn (cSnd (cFst (cSnd (cSnd (cSnd (cSnd (cSnd (bodyOf Tryz.prog 75)))))))))), .inBlock 0, .code (cSnd (cSnd (cSnd (cSnd (cSnd (cSnd (bodyOf Tryz.prog 75)))))))], ⟨[(2, (.one (.ptr T_api_Predictor 8 []))), (4, (.one (.ptr T_api_Predictor 9 []))), (8, (.one (.ref (.int .i64) 10 0 (List.length h10) true))), (26, (.one (.sl .bool false v26))), (27, (.one (.int .i64 v27))), (28, (.one (.int .i64 v28)))], [(8, some (.box T_api_Predictor (inj false T_api_Predictor b8))), (9, some (.box T_api_Predictor (b9a, ((b9baa, ((SV.ref 11 0 (List.length h11) true), (inj false T_api_Walk b9babb))), ((SV.ref 12 0 (List.length h12) true), ((SV.ref 13 0 (List.length h13) true), (((SV.ref 14 0 (List.length h14) true), b9bbbbab), ((((SV.ref 15 0 (List.length h15) true), b9bbbbbaab), (((SV.ref 16 0 (List.length h16) true), b9bbbbbabab), b9bbbbbabb)), ((b9bbbbbbaa, ((SV.ref 17 0 (List.length h17) true), b9bbbbbbabb)), (inj false (.pair T_api_Match (.pair T_api_Walk (.pair (.arr 6 (.int .u32)) (.pair (.arr 6 (.int .i64)) .unit)))) b9bbbbbbb)))))))))), (10, some (.row (.int .i64) true h10)), (11, some (.row (.int .u8) true h11)), (12, some (.row T_api_Table true h12)), (13, some (.row T_api_Adapt true h13)), (14, some (.row (.slice (.int .i32)) true h14)), (15, some (.row (.slice (.int .i32)) true h15)), (16, some (.row (.slice (.int .i32)) true h16)), (17, some (.row (.int .i64) true h17))], 18⟩⟩
theorem predict_Run_eq (a0 : D_api_Predictor) (a1 : List Bool) : predict_Run a0 a1 = (
  (predict_Check a0).bind fun (r1 : (Int)) =>
  if (r1 != (0 : Int)) = true then
    some (((0 : Int), (((0 : Int), ([], ((0 : Int), ()))), ([], ([], (([], ()), ((([], ()), (([], ()), ())), (((0 : Int), ([], ())), (((0 : Int), ((0 : Int), ())), (((0 : Int), ()), ((List.replicate 6 (0 : Int)), ((List.replicate 6 (0 : Int)), ()))))))))))), ([], r1))
  else
    if (decide ((Int.ofNat (List.length a1)) > (2000 : Int))) = true then
      some (((0 : Int), (((0 : Int), ([], ((0 : Int), ()))), ([], ([], (([], ()), ((([], ()), (([], ()), ())), (((0 : Int), ([], ())), (((0 : Int), ((0 : Int), ())), (((0 : Int), ()), ((List.replicate 6 (0 : Int)), ((List.replicate 6 (0 : Int)), ()))))))))))), ([], (4 : Int)))
    else
      (predict_twin a0).bind fun (r2 : (D_api_Predictor)) =>
      predict_Run_c1 a1 (Int.ofNat (List.length a1)) (0 : Int) r2 (0 : Int) (0 : Int) ((0 : Int), ()) () () () () (0 : Int) () (((0 : Int), ((0 : Int), ())), (((0 : Int), ()), ((List.replicate 6 (0 : Int)), ((List.replicate 6 (0 : Int)), ())))) [] [] [] [] [] [] [] []) := (FnI.call_eq (by kernel_rfl)).trans (by kernel_rfl)
theorem predict_Run_c1_eq (v26 : List Bool) (v27 : Int) (v28 : Int) (b8 : D_api_Predictor) (b9a : Int) (b9baa : Int) (b9babb : D_api_Walk) (b9bbbbab : Unit) (b9bbbbbaab : Unit) (b9bbbbbabab : Unit) (b9bbbbbabb : Unit) (b9bbbbbbaa : Int) (b9bbbbbbabb : Unit) (b9bbbbbbb : (D_api_Match × (D_api_Walk × ((List Int) × ((List Int) × Unit))))) (h10 : List Int) (h11 : List Int) (h12 : List D_api_Table) (h13 : List D_api_Adapt) (h14 : List (List Int)) (h15 : List (List Int)) (h16 : List (List Int)) (h17 : List Int) : predict_Run_c1 v26 v27 v28 b8 b9a b9baa b9babb b9bbbbab b9bbbbbaab b9bbbbbabab b9bbbbbabb b9bbbbbbaa b9bbbbbbabb b9bbbbbbb h10 h11 h12 h13 h14 h15 h16 h17 = (
  if (decide (v28 < v27)) = true then
    gd (0 ≤ v28) <|
    gd (v28 < (Int.ofNat (List.length v26))) <|
    (predict_see b8).bind fun (r3 : (D_predict_seen)) =>
    (predict_update b8 r3 (List.getD v26 (Int.toNat v28) false)).bind fun (r4 : (D_api_Predictor × Int)) =>
    if (r4.2 != (0 : Int)) = true then
      some (((0 : Int), (((0 : Int), ([], ((0 : Int), ()))), ([], ([], (([], ()), ((([], ()), (([], ()), ())), (((0 : Int), ([], ())), (((0 : Int), ((0 : Int), ())), (((0 : Int), ()), ((List.replicate 6 (0 : Int)), ((List.replicate 6 (0 : Int)), ()))))))))))), ([], r4.2))
    else
      gd ((List.length (h10 ++ [(IntKind.wrap .i64 r3.2.2.2.2.1)])) * 8 ≤ 140737488355328) <|
      predict_Run_c1 v26 v27 (IntKind.wrap .i64 (v28 + (1 : Int))) r4.1 b9a b9baa b9babb b9bbbbab b9bbbbbaab b9bbbbbabab b9bbbbbabb b9bbbbbbaa b9bbbbbbabb b9bbbbbbb (h10 ++ [(IntKind.wrap .i64 r3.2.2.2.2.1)]) h11 h12 h13 h14 h15 h16 h17
  else
    some (b8, (h10, (0 : Int)))) := (FnI.sem_eq _).trans (by kernel_rfl)
noncomputable def predict_Run_S (acc : List AV → Bool) : Summ Tryz.prog GT := predict_Run_I.summ mixed acc false false

/-! bitloft/encoder.Check -/
noncomputable def encoder_Check_I : FnI Tryz.prog GT := { f := 77, cuts := [], tab := [], fm := ⟨true, [.val (.int .i64) []]⟩ }
noncomputable def encoder_Check (a0 : D_api_Encoder) : Option (Int) := encoder_Check_I.call [(.agg T_api_Encoder (inj false T_api_Encoder a0))] []
theorem encoder_Check_eq (a0 : D_api_Encoder) : encoder_Check a0 = (
  if (decide (a0.1 ≥ a0.2.1)) = true then
    some (8 : Int)
  else
    gd (0 ≤ (24 : Int)) <|
    gd (0 ≤ (24 : Int)) <|
    if ((Int.fdiv a0.1 (16777216 : Int)) == (Int.fdiv a0.2.1 (16777216 : Int))) = true then
      some (8 : Int)
    else
      if (decide ((Int.ofNat (List.length a0.2.2.1)) > (20000 : Int))) = true then
        some (8 : Int)
      else
        some (0 : Int)) := (FnI.call_eq (by kernel_rfl)).trans (by kernel_rfl)
noncomputable def encoder_Check_S (acc : List AV → Bool) : Summ Tryz.prog GT := encoder_Check_I.summ mixed acc false false

/-! bitloft/encoder.prob -/
noncomputable def encoder_prob_I : FnI Tryz.prog GT := { f := 78, cuts := [], tab := [], fm := ⟨true, [.val .bool []]⟩ }
noncomputable def encoder_prob (a0 : Int) : Option (Bool) := encoder_prob_I.call [(.int .i64 a0)] []
theorem encoder_prob_eq (a0 : Int) : encoder_prob a0 = (
  if (decide (a0 ≥ (0 : Int))) = true then
    some (decide (a0 ≤ (4095 : Int)))
  else
    some (false)) := (FnI.call_eq (by kernel_rfl)).trans (by kernel_rfl)
noncomputable def encoder_prob_S (acc : List AV → Bool) : Summ Tryz.prog GT := encoder_prob_I.summ mixed acc false false

/-! bitloft/encoder.split -/
noncomputable def encoder_split_I : FnI Tryz.prog GT := { f := 134, cuts := [], tab := [], fm := ⟨true, [.val (.int .u32) []]⟩ }
noncomputable def encoder_split (a0 : Int) (a1 : Int) (a2 : Int) : Option (Int) := encoder_split_I.call [(.int .u32 a0), (.int .u32 a1), (.int .i64 a2)] []
theorem encoder_split_eq (a0 : Int) (a1 : Int) (a2 : Int) : encoder_split a0 a1 a2 = (
  gd (0 ≤ (12 : Int)) <|
  gd (0 ≤ (12 : Int)) <|
  some (IntKind.wrap .u32 ((IntKind.wrap .u32 (a0 + (IntKind.wrap .u32 ((Int.fdiv (IntKind.wrap .u32 (a1 - a0)) (4096 : Int)) * (IntKind.wrap .u32 a2))))) + (Int.fdiv (IntKind.wrap .u32 ((bitsAnd .u32 (IntKind.wrap .u32 (a1 - a0)) (4095 : Int)) * (IntKind.wrap .u32 a2))) (4096 : Int))))) := (FnI.call_eq (by kernel_rfl)).trans (by kernel_rfl)
noncomputable def encoder_split_S (acc : List AV → Bool) : Summ Tryz.prog GT := encoder_split_I.summ mixed acc false false

/-! bitloft/encoder.put -/
noncomputable def encoder_put_I : FnI Tryz.prog GT := { f := 80, cuts := [], tab := [encoder_split_S (fun _ => true)], fm := ⟨false, [.box 0 T_api_Encoder [.pu]]⟩ }
noncomputable def encoder_put (a1 : Int) (a2 : Bool) (b0 : D_api_Encoder) : Option (D_api_Encoder) := encoder_put_I.call [(.ptr T_api_Encoder 0 []), (.int .i64 a1), (.bool a2)] [(0, (.box T_api_Encoder (inj false T_api_Encoder b0)))]
theorem encoder_put_eq (a1 : Int) (a2 : Bool) (b0 : D_api_Encoder) : encoder_put a1 a2 b0 = (
  (encoder_split b0.1 b0.2.1 a1).bind fun (r1 : (Int)) =>
  if a2 = true then
    gd (0 ≤ (24 : Int)) <|
    gd (0 ≤ (24 : Int)) <|
    if ((Int.fdiv b0.1 (16777216 : Int)) == (Int.fdiv r1 (16777216 : Int))) = true then
      gd (0 ≤ (24 : Int)) <|
      none
    else
      some (b0.1, (r1, b0.2.2))
  else
    gd (0 ≤ (24 : Int)) <|
    gd (0 ≤ (24 : Int)) <|
    if ((Int.fdiv (IntKind.wrap .u32 (r1 + (1 : Int))) (16777216 : Int)) == (Int.fdiv b0.2.1 (16777216 : Int))) = true then
      gd (0 ≤ (24 : Int)) <|
      none
    else
      some ((IntKind.wrap .u32 (r1 + (1 : Int))), b0.2)) := (FnI.call_eq (by kernel_rfl)).trans (by kernel_rfl)
noncomputable def encoder_put_S (acc : List AV → Bool) : Summ Tryz.prog GT := encoder_put_I.summ mixed acc false false

/-! bitloft/encoder.put -/
noncomputable def encoder_put_v2_I : FnI Tryz.prog GT := { f := 80, cuts := [⟨(4, 1), [0], false, false, []⟩], tab := [encoder_split_S (fun _ => true)], fm := ⟨true, [.box 0 T_api_Encoder [.pu]]⟩ }
noncomputable def encoder_put_v2 (a1 : Int) (a2 : Bool) (b0a : Int) (b0ba : Int) (b0bbb : Unit) (h1 : List Int) : Option (D_api_Encoder) := encoder_put_v2_I.call [(.ptr T_api_Encoder 0 []), (.int .i64 a1), (.bool a2)] [(0, (.box T_api_Encoder (b0a, (b0ba, ((SV.ref 1 0 (List.length h1) true), b0bbb))))), (1, (.row (.int .u8) false h1))]
noncomputable def encoder_put_v2_c1 (b0a : Int) (b0ba : Int) (b0bbb : Unit) (h8 : List Int) : Option (D_api_Encoder) := encoder_put_v2_I.sem ⟨[.code (cLab (cIn (bodyOf Tryz.prog 80)) 0), .inScope (cIn (bodyOf Tryz.prog 80))], ⟨[(0, (.one (.ptr T_api_Encoder 0 [])))], [(0, some (.box T_api_Encoder (b0a, (b0ba, ((SV.ref 8 0 (List.length h8) true), b0bbb))))), (8, some (.row (.int .u8) false h8))], 10⟩⟩
theorem encoder_put_v2_eq (a1 : Int) (a2 : Bool) (b0a : Int) (b0ba : Int) (b0bbb : Unit) (h1 : List Int) : encoder_put_v2 a1 a2 b0a b0ba b0bbb h1 = (
  (encoder_split b0a b0ba a1).bind fun (r1 : (Int)) =>
  if a2 = true then
    gd (0 ≤ (24 : Int)) <|
    gd (0 ≤ (24 : Int)) <|
    if ((Int.fdiv b0a (16777216 : Int)) == (Int.fdiv r1 (16777216 : Int))) = true then
      gd (0 ≤ (24 : Int)) <|
      gd ((List.length (h1 ++ [(IntKind.wrap .u8 (Int.fdiv r1 (16777216 : Int)))])) * 1 ≤ 140737488355328) <|
      gd (0 ≤ (8 : Int)) <|
      gd (0 ≤ (8 : Int)) <|
      encoder_put_v2_c1 (IntKind.wrap .u32 (b0a * (256 : Int))) (bitsOr .u32 (IntKind.wrap .u32 (r1 * (256 : Int))) (255 : Int)) b0bbb (h1 ++ [(IntKind.wrap .u8 (Int.fdiv r1 (16777216 : Int)))])
    else
      some (b0a, (r1, (h1, b0bbb)))
  else
    gd (0 ≤ (24 : Int)) <|
    gd (0 ≤ (24 : Int)) <|
    if ((Int.fdiv (IntKind.wrap .u32 (r1 + (1 : Int))) (16777216 : Int)) == (Int.fdiv b0ba (16777216 : Int))) = true then
      gd (0 ≤ (24 : Int)) <|
      gd ((List.length (h1 ++ [(IntKind.wrap .u8 (Int.fdiv b0ba (16777216 : Int)))])) * 1 ≤ 140737488355328) <|
      gd (0 ≤ (8 : Int)) <|
      gd (0 ≤ (8 : Int)) <|
      encoder_put_v2_c1 (IntKind.wrap .u32 ((IntKind.wrap .u32 (r1 + (1 : Int))) * (256 : Int))) (bitsOr .u32 (IntKind.wrap .u32 (b0ba * (256 : Int))) (255 : Int)) b0bbb (h1 ++ [(IntKind.wrap .u8 (Int.fdiv b0ba (16777216 : Int)))])
    else
      some ((IntKind.wrap .u32 (r1 + (1 : Int))), (b0ba, (h1, b0bbb)))) := (FnI.call_eq (by kernel_rfl)).trans (by kernel_rfl)
theorem encoder_put_v2_c1_eq (b0a : Int) (b0ba : Int) (b0bbb : Unit) (h8 : List Int) : encoder_put_v2_c1 b0a b0ba b0bbb h8 = (
  gd (0 ≤ (24 : Int)) <|
  gd (0 ≤ (24 : Int)) <|
  if ((Int.fdiv b0a (16777216 : Int)) == (Int.fdiv b0ba (16777216 : Int))) = true then
    gd (0 ≤ (24 : Int)) <|
    gd ((List.length (h8 ++ [(IntKind.wrap .u8 (Int.fdiv b0ba (16777216 : Int)))])) * 1 ≤ 140737488355328) <|
    gd (0 ≤ (8 : Int)) <|
    gd (0 ≤ (8 : Int)) <|
    encoder_put_v2_c1 (IntKind.wrap .u32 (b0a * (256 : Int))) (bitsOr .u32 (IntKind.wrap .u32 (b0ba * (256 : Int))) (255 : Int)) b0bbb (h8 ++ [(IntKind.wrap .u8 (Int.fdiv b0ba (16777216 : Int)))])
  else
    some (b0a, (b0ba, (h8, b0bbb)))) := (FnI.sem_eq _).trans (by kernel_rfl)
noncomputable def encoder_put_v2_S (acc : List AV → Bool) : Summ Tryz.prog GT := encoder_put_v2_I.summ mixed acc true false

/-! bitloft/encoder.Put -/
noncomputable def encoder_Put_I : FnI Tryz.prog GT := { f := 45, cuts := [], tab := [encoder_Check_S (fun _ => true), encoder_prob_S (fun _ => true), slices_Clone_byte_byte_S (fun _ => true), encoder_put_v2_S (fun _ => true)], fm := ⟨true, [.val T_api_Encoder [], .val (.int .i64) []]⟩ }
noncomputable def encoder_Put (a0 : D_api_Encoder) (a1 : Int) (a2 : Bool) : Option (D_api_Encoder × Int) := encoder_Put_I.call [(.agg T_api_Encoder (inj false T_api_Encoder a0)), (.int .i64 a1), (.bool a2)] []
theorem encoder_Put_eq (a0 : D_api_Encoder) (a1 : Int) (a2 : Bool) : encoder_Put a0 a1 a2 = (
  (encoder_Check a0).bind fun (r1 : (Int)) =>
  if (r1 != (0 : Int)) = true then
    some (((0 : Int), ((0 : Int), ([], ()))), r1)
  else
    (encoder_prob a1).bind fun (r2 : (Bool)) =>
    if (not r2) = true then
      some (((0 : Int), ((0 : Int), ([], ()))), (2 : Int))
    else
      (slices_Clone_byte_byte a0.2.2.1).bind fun (r3 : (List Int)) =>
      (encoder_put_v2 a1 a2 a0.1 a0.2.1 a0.2.2.2 r3).bind fun (r4 : (D_api_Encoder)) =>
      if (decide ((Int.ofNat (List.length r4.2.2.1)) > (20000 : Int))) = true then
        some (((0 : Int), ((0 : Int), ([], ()))), (4 : Int))
      else
        some (r4, (0 : Int))) := (FnI.call_eq (by kernel_rfl)).trans (by kernel_rfl)
noncomputable def encoder_Put_S (acc : List AV → Bool) : Summ Tryz.prog GT := encoder_Put_I.summ mixed acc false false

/-! bitloft/codec.Encode$1 -/
noncomputable def codec_Encode_1_I : FnI Tryz.prog GT := { f := 44, cuts := [], tab := [encoder_Put_S (fun _ => true)], fm := ⟨false, [.box 0 (.int .i64) [], .box 1 T_api_Encoder [.pu]]⟩ }
noncomputable def codec_Encode_1 (a0 : Int) (a1 : Bool) (b0 : Int) (b1 : D_api_Encoder) : Option (Int × D_api_Encoder) := codec_Encode_1_I.call [(.int .i64 a0), (.bool a1), (.ptr (.int .i64) 0 []), (.ptr T_api_Encoder 1 [])] [(0, (.box (.int .i64) b0)), (1, (.box T_api_Encoder (inj false T_api_Encoder b1)))]
theorem codec_Encode_1_eq (a0 : Int) (a1 : Bool) (b0 : Int) (b1 : D_api_Encoder) : codec_Encode_1 a0 a1 b0 b1 = (
  if (b0 == (0 : Int)) = true then
    (encoder_Put b1 a0 a1).bind fun (r1 : (D_api_Encoder × Int)) =>
    some (r1.2, r1.1)
  else
    some (b0, b1)) := (FnI.call_eq (by kernel_rfl)).trans (by kernel_rfl)
noncomputable def codec_Encode_1_S (acc : List AV → Bool) : Summ Tryz.prog GT := codec_Encode_1_I.summ mixed acc false false

/-! bitloft/codec.each$1 -/
noncomputable def codec_each_1_I : FnI Tryz.prog GT := { f := 74, cuts := [⟨(2, 3), [0, 1, 2, 3, 4, 15, 16, 17], false, true, []⟩], tab := [(predict_Run_S (fun _ => true)).dropping, (codec_Encode_1_S (fun _ => true)).dropping], fm := ⟨false, [.box 0 T_api_Predictor [.pu, .pu, .pu, .pu, .pu, .pu, .pu], .box 1 (.slice .bool) [.nw], .cfn 2 44 [3, 4], .box 3 (.int .i64) [], .box 4 T_api_Encoder [.pu]]⟩ }
noncomputable def codec_each_1 (b0 : D_api_Predictor) (b1 : (List Bool)) (b3 : Int) (b4 : D_api_Encoder) : Option (D_api_Predictor × (List Bool) × Unit × Int × D_api_Encoder) := codec_each_1_I.call [(.ptr T_api_Predictor 0 []), (.ptr (.slice .bool) 1 []), (.cptr 2)] [(0, (.box T_api_Predictor (inj false T_api_Predictor b0))), (1, (.box (.slice .bool) (SV.pure false b1))), (2, (.cell (.func 44 [3, 4]))), (3, (.box (.int .i64) b3)), (4, (.box T_api_Encoder (inj false T_api_Encoder b4)))]
noncomputable def codec_each_1_c1 (v15 : List Bool) (v16 : Int) (v17 : Int) (b0 : D_api_Predictor) (b1 : (List Bool)) (b3 : Int) (b4 : D_api_Encoder) (b8 : D_api_Predictor) (h9 : List Int) : Option (D_api_Predictor × (List Bool) × Unit × Int × D_api_Encoder) := codec_each_1_I.sem ⟨[.code (cIn (cIn (cSnd (cFst (cSnd (bodyOf Tryz.prog 74)))))), .inLoop (cIn (cIn (cSnd (cFst (cSnd (bodyOf Tryz.prog 74)))))), .inBlock 0, .code (cSnd (cSnd (bodyOf Tryz.prog 74)))], ⟨[(0, (.one (.ptr T_api_Predictor 0 []))), (1, (.one (.ptr (.slice .bool) 1 []))), (2, (.one (.cptr 2))), (3, (.one (.ptr T_api_Predictor 8 []))), (4, (.one (.ref (.int .i64) 9 0 (List.length h9) true))), (15, (.one (.sl .bool false v15))), (16, (.one (.int .i64 v16))), (17, (.one (.int .i64 v17)))], [(0, some (.box T_api_Predictor (inj false T_api_Predictor b0))), (1, some (.box (.slice .bool) (SV.pure false b1))), (2, some (.cell (.func 44 [3, 4]))), (3, some (.box (.int .i64) b3)), (4, some (.box T_api_Encoder (inj false T_api_Encoder b4))), (8, some (.box T_api_Predictor (inj false T_api_Predictor b8))), (9, some (.row (.int .i64) false h9))], 15⟩⟩
theorem codec_each_1_eq (b0 : D_api_Predictor) (b1 : (List Bool)) (b3 : Int) (b4 : D_api_Encoder) : codec_each_1 b0 b1 b3 b4 = (
  (predict_Run b0 b1).bind fun (r1 : (D_api_Predictor × List Int × Int)) =>
  codec_each_1_c1 b1 (Int.ofNat (List.length b1)) (0 : Int) b0 b1 b3 b4 r1.1 r1.2.1) := (FnI.call_eq (by kernel_rfl)).trans (by kernel_rfl)
theorem codec_each_1_c1_eq (v15 : List Bool) (v16 : Int) (v17 : Int) (b0 : D_api_Predictor) (b1 : (List Bool)) (b3 : Int) (b4 : D_api_Encoder) (b8 : D_api_Predictor) (h9 : List Int) : codec_each_1_c1 v15 v16 v17 b0 b1 b3 b4 b8 h9 = (
  if (decide (v17 < v16)) = true then
    gd (0 ≤ v17) <|
    gd (v17 < (Int.ofNat (List.length v15))) <|
    gd (0 ≤ v17) <|
    gd (v17 < (Int.ofNat (List.length h9))) <|
    (codec_Encode_1 (List.getD h9 (0 + (Int.toNat v17)) (0 : Int)) (List.getD v15 (Int.toNat v17) false) b3 b4).bind fun (r2 : (Int × D_api_Encoder)) =>
    codec_each_1_c1 v15 v16 (IntKind.wrap .i64 (v17 + (1 : Int))) b0 b1 r2.1 r2.2 b8 h9
  else
    some (b8, ([], ((), (b3, b4))))) := (FnI.sem_eq _).trans (by kernel_rfl)
noncomputable def codec_each_1_S (acc : List AV → Bool) : Summ Tryz.prog GT := codec_each_1_I.summ mixed acc false false
end Go.Ab
