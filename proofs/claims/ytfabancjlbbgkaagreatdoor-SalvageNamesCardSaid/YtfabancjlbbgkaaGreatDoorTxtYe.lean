/-
  An abstract machine over the model's code and its soundness; what the functions compute, as plain functions (printed by a program of this repo's own, checked here by the kernel); plain laws of them: part 5. Helper text, no statement of the claim stands here.
-/
import Derived.Test.YtfabancjlbbgkaaGreatDoorTxtYd
import Derived.RangeFuncBox
import Derived.RangeFuncLeaves
import Derived.Shelf.Abstract
import Derived.WalkKit
import Derived.OwnWalkIn
import Derived.TacticsInMore
import Derived.LoopNIn
import Derived.LoopIn
set_option linter.unusedVariables false
set_option maxRecDepth 20000
namespace Go.Ab
open Go Go.Proofs
noncomputable def fixed_Add_I : FnI Tryz.prog GT := { f := 220, cuts := [], tab := [fixed_Sat_S (fun _ => true)], fm := ⟨true, [.val (.int .i32) []]⟩ }
noncomputable def fixed_Add (a0 : Int) (a1 : Int) : Option (Int) := fixed_Add_I.call [(.int .i32 a0), (.int .i32 a1)] []
theorem fixed_Add_eq (a0 : Int) (a1 : Int) : fixed_Add a0 a1 = (
(fixed_Sat (IntKind.wrap .i64 ((IntKind.wrap .i64 a0) + (IntKind.wrap .i64 a1)))).bind fun r1 =>
some (r1)) := (FnI.call_eq (by kernel_rfl)).trans (by kernel_rfl)
noncomputable def fixed_Add_S (acc : List AV → Bool) : Summ Tryz.prog GT := fixed_Add_I.summ mixed acc false false
noncomputable def mixer_Learn_I : FnI Tryz.prog GT := { f := 185, cuts := [⟨(8, 3), [1, 2, 3, 4, 10, 13, 37, 38, 39], false, false, [10, 11]⟩, ⟨(14, 3), [1, 10, 13, 16, 56, 57, 58], false, false, [10, 11]⟩], tab := [mixer_check_S (fun _ => true), slices_Clone_int32_int32_S (fun _ => true), mixer_wrong_S (fun _ => true), fixed_Round_S (fun _ => true), fixed_Add_S (fun _ => true)], fm := ⟨true, [.val T_api_Mixer [], .val (.int .i64) []]⟩ }
noncomputable def mixer_Learn (a0 : D_api_Mixer) (a1 : Int) (a2 : List Int) (a3 : Int) (a4 : Bool) : Option (D_api_Mixer × Int) := mixer_Learn_I.call [(.agg T_api_Mixer (inj false T_api_Mixer a0)), (.int .i64 a1), (.sl (.int .i32) false a2), (.int .i32 a3), (.bool a4)] []
noncomputable def mixer_Learn_c1 (v1 : Int) (v2 : List Int) (v3 : Int) (v4 : Bool) (v37 : List (List Int)) (v38 : Int) (v39 : Int) (b8b : Unit) (b9b : Unit) (h10 : List (List Int)) (h11 : List (List Int)) : Option (D_api_Mixer × Int) := mixer_Learn_I.sem ⟨[.code (cIn (cIn (cSnd (cFst (cSnd (cSnd (cSnd (cSnd (bodyOf Tryz.prog 185))))))))), .inLoop (cIn (cIn (cSnd (cFst (cSnd (cSnd (cSnd (cSnd (bodyOf Tryz.prog 185))))))))), .inBlock 0, .code (cSnd (cSnd (cSnd (cSnd (cSnd (bodyOf Tryz.prog 185))))))], ⟨[(1, (.one (.int .i64 v1))), (2, (.one (.sl (.int .i32) false v2))), (3, (.one (.int .i32 v3))), (4, (.one (.bool v4))), (10, (.one (.ptr T_api_Mixer 8 []))), (13, (.one (.ptr T_api_Mixer 9 []))), (37, (.one (.sl (.slice (.int .i32)) false v37))), (38, (.one (.int .i64 v38))), (39, (.one (.int .i64 v39)))], [(8, some (.box T_api_Mixer ((SV.ref 10 0 (List.length h10) true), b8b))), (9, some (.box T_api_Mixer ((SV.ref 11 0 (List.length h11) true), b9b))), (10, some (.fam (.int .i32) h10)), (11, some (.fam (.int .i32) h11))], 12⟩⟩
noncomputable def mixer_Learn_c2 (v1 : Int) (v16 : Int) (v56 : List Int) (v57 : Int) (v58 : Int) (b8b : Unit) (b9b : Unit) (h10 : List (List Int)) (h11 : List (List Int)) : Option (D_api_Mixer × Int) := mixer_Learn_I.sem ⟨[.code (cIn (cIn (cSnd (cFst (cSnd (cSnd (cSnd (cSnd (cSnd (cSnd (bodyOf Tryz.prog 185))))))))))), .inLoop (cIn (cIn (cSnd (cFst (cSnd (cSnd (cSnd (cSnd (cSnd (cSnd (bodyOf Tryz.prog 185))))))))))), .inBlock 2, .code (cSnd (cSnd (cSnd (cSnd (cSnd (cSnd (cSnd (bodyOf Tryz.prog 185))))))))], ⟨[(1, (.one (.int .i64 v1))), (10, (.one (.ptr T_api_Mixer 8 []))), (13, (.one (.ptr T_api_Mixer 9 []))), (16, (.one (.int .i64 v16))), (56, (.one (.sl (.int .i32) false v56))), (57, (.one (.int .i64 v57))), (58, (.one (.int .i64 v58)))], [(8, some (.box T_api_Mixer ((SV.ref 10 0 (List.length h10) true), b8b))), (9, some (.box T_api_Mixer ((SV.ref 11 0 (List.length h11) true), b9b))), (10, some (.fam (.int .i32) h10)), (11, some (.fam (.int .i32) h11))], 12⟩⟩
theorem mixer_Learn_eq (a0 : D_api_Mixer) (a1 : Int) (a2 : List Int) (a3 : Int) (a4 : Bool) : mixer_Learn a0 a1 a2 a3 a4 = (
(mixer_check a0 a1 a2).bind fun r1 =>
if (r1 != (0 : Int)) = true then
some (([], ()), r1)
else
if (decide (a3 < (0 : Int))) = true then
some (([], ()), (2 : Int))
else
if (decide (a3 > (4095 : Int))) = true then
some (([], ()), (2 : Int))
else
mixer_Learn_c1 a1 a2 a3 a4 a0.1 (Int.ofNat (List.length a0.1)) (0 : Int) () () [] []) := (FnI.call_eq (by kernel_rfl)).trans (by kernel_rfl)
theorem mixer_Learn_c1_eq (v1 : Int) (v2 : List Int) (v3 : Int) (v4 : Bool) (v37 : List (List Int)) (v38 : Int) (v39 : Int) (b8b : Unit) (b9b : Unit) (h10 : List (List Int)) (h11 : List (List Int)) : mixer_Learn_c1 v1 v2 v3 v4 v37 v38 v39 b8b b9b h10 h11 = (
if (decide (v39 < v38)) = true then
gd (0 ≤ v39) <|
gd (v39 < (Int.ofNat (List.length v37))) <|
(slices_Clone_int32_int32 (List.getD v37 (Int.toNat v39) [])).bind fun r2 =>
gd ((List.length (h11 ++ [r2])) * 24 ≤ 140737488355328) <|
mixer_Learn_c1 v1 v2 v3 v4 v37 v38 (IntKind.wrap .i64 (v39 + (1 : Int))) b8b b9b h10 (h11 ++ [r2])
else
(mixer_wrong v3 v4).bind fun r3 =>
mixer_Learn_c2 v1 (IntKind.wrap .i64 ((IntKind.wrap .i64 r3) * (7 : Int))) v2 (Int.ofNat (List.length v2)) (0 : Int) b8b b9b h10 h11) := (FnI.sem_eq _).trans (by kernel_rfl)
theorem mixer_Learn_c2_eq (v1 : Int) (v16 : Int) (v56 : List Int) (v57 : Int) (v58 : Int) (b8b : Unit) (b9b : Unit) (h10 : List (List Int)) (h11 : List (List Int)) : mixer_Learn_c2 v1 v16 v56 v57 v58 b8b b9b h10 h11 = (
if (decide (v58 < v57)) = true then
gd (0 ≤ v58) <|
gd (v58 < (Int.ofNat (List.length v56))) <|
(fixed_Round (IntKind.wrap .i64 ((IntKind.wrap .i64 (List.getD v56 (Int.toNat v58) (0 : Int))) * v16)) (14 : Int)).bind fun r4 =>
gd (0 ≤ v1) <|
gd (v1 < (Int.ofNat (List.length h11))) <|
gd (0 < (List.length (List.getD h11 (0 + (Int.toNat v1)) []))) <|
gd (0 ≤ v1) <|
gd (v1 < (Int.ofNat (List.length h11))) <|
gd (0 < (List.length (List.getD h11 (0 + (Int.toNat v1)) []))) <|
gd (0 ≤ v58) <|
gd (v58 < (Int.ofNat (List.length (List.getD h11 (0 + (Int.toNat v1)) [])))) <|
(fixed_Add (List.getD (List.getD h11 (0 + (Int.toNat v1)) []) (0 + (Int.toNat v58)) (0 : Int)) (IntKind.wrap .i32 r4.1)).bind fun r5 =>
gd (0 ≤ v58) <|
gd (v58 < (Int.ofNat (List.length (List.getD h11 (0 + (Int.toNat v1)) [])))) <|
mixer_Learn_c2 v1 v16 v56 v57 (IntKind.wrap .i64 (v58 + (1 : Int))) b8b b9b h10 (List.set h11 (0 + (Int.toNat v1)) (List.set (List.getD h11 (0 + (Int.toNat v1)) []) (0 + (Int.toNat v58)) r5))
else
some ((h11, b9b), (0 : Int))) := (FnI.sem_eq _).trans (by kernel_rfl)
noncomputable def mixer_Learn_S (acc : List AV → Bool) : Summ Tryz.prog GT := mixer_Learn_I.summ mixed acc false false
noncomputable def refine_Learn_I : FnI Tryz.prog GT := { f := 221, cuts := [⟨(8, 3), [1, 2, 3, 8, 11, 31, 32, 33], false, false, [10, 11]⟩], tab := [refine_check_S (fun _ => true), slices_Clone_int32_int32_S (fun _ => true)], fm := ⟨true, [.val T_api_Mixer [], .val (.int .i64) []]⟩ }
noncomputable def refine_Learn (a0 : D_api_Mixer) (a1 : Int) (a2 : Int) (a3 : Bool) : Option (D_api_Mixer × Int) := refine_Learn_I.call [(.agg T_api_Mixer (inj false T_api_Mixer a0)), (.int .i64 a1), (.int .i64 a2), (.bool a3)] []
noncomputable def refine_Learn_c1 (v1 : Int) (v2 : Int) (v3 : Bool) (v31 : List (List Int)) (v32 : Int) (v33 : Int) (b8b : Unit) (b9b : Unit) (h10 : List (List Int)) (h11 : List (List Int)) : Option (D_api_Mixer × Int) := refine_Learn_I.sem ⟨[.code (cIn (cIn (cSnd (cFst (cSnd (cSnd (cSnd (cSnd (bodyOf Tryz.prog 221))))))))), .inLoop (cIn (cIn (cSnd (cFst (cSnd (cSnd (cSnd (cSnd (bodyOf Tryz.prog 221))))))))), .inBlock 0, .code (cSnd (cSnd (cSnd (cSnd (cSnd (bodyOf Tryz.prog 221))))))], ⟨[(1, (.one (.int .i64 v1))), (2, (.one (.int .i64 v2))), (3, (.one (.bool v3))), (8, (.one (.ptr T_api_Mixer 8 []))), (11, (.one (.ptr T_api_Mixer 9 []))), (31, (.one (.sl (.slice (.int .i32)) false v31))), (32, (.one (.int .i64 v32))), (33, (.one (.int .i64 v33)))], [(8, some (.box T_api_Mixer ((SV.ref 10 0 (List.length h10) true), b8b))), (9, some (.box T_api_Mixer ((SV.ref 11 0 (List.length h11) true), b9b))), (10, some (.fam (.int .i32) h10)), (11, some (.fam (.int .i32) h11))], 12⟩⟩
theorem refine_Learn_eq (a0 : D_api_Mixer) (a1 : Int) (a2 : Int) (a3 : Bool) : refine_Learn a0 a1 a2 a3 = (
(refine_check a0 a1).bind fun r1 =>
if (r1 != (0 : Int)) = true then
some (([], ()), r1)
else
if (decide (a2 < (0 : Int))) = true then
some (([], ()), (2 : Int))
else
if (decide (a2 ≥ (33 : Int))) = true then
some (([], ()), (2 : Int))
else
refine_Learn_c1 a1 a2 a3 a0.1 (Int.ofNat (List.length a0.1)) (0 : Int) () () [] []) := (FnI.call_eq (by kernel_rfl)).trans (by kernel_rfl)
theorem refine_Learn_c1_eq (v1 : Int) (v2 : Int) (v3 : Bool) (v31 : List (List Int)) (v32 : Int) (v33 : Int) (b8b : Unit) (b9b : Unit) (h10 : List (List Int)) (h11 : List (List Int)) : refine_Learn_c1 v1 v2 v3 v31 v32 v33 b8b b9b h10 h11 = (
if (decide (v33 < v32)) = true then
gd (0 ≤ v33) <|
gd (v33 < (Int.ofNat (List.length v31))) <|
(slices_Clone_int32_int32 (List.getD v31 (Int.toNat v33) [])).bind fun r2 =>
gd ((List.length (h11 ++ [r2])) * 24 ≤ 140737488355328) <|
refine_Learn_c1 v1 v2 v3 v31 v32 (IntKind.wrap .i64 (v33 + (1 : Int))) b8b b9b h10 (h11 ++ [r2])
else
if v3 = true then
gd (0 ≤ v1) <|
gd (v1 < (Int.ofNat (List.length h11))) <|
gd (0 < (List.length (List.getD h11 (0 + (Int.toNat v1)) []))) <|
gd (0 ≤ v2) <|
gd (v2 < (Int.ofNat (List.length (List.getD h11 (0 + (Int.toNat v1)) [])))) <|
gd ((64 : Int) ≠ 0) <|
some (((List.set h11 (0 + (Int.toNat v1)) (List.set (List.getD h11 (0 + (Int.toNat v1)) []) (0 + (Int.toNat v2)) (IntKind.wrap .i32 ((List.getD (List.getD h11 (0 + (Int.toNat v1)) []) (0 + (Int.toNat v2)) (0 : Int)) + (IntKind.wrap .i32 (Int.tdiv (IntKind.wrap .i32 ((65535 : Int) - (List.getD (List.getD h11 (0 + (Int.toNat v1)) []) (0 + (Int.toNat v2)) (0 : Int)))) (64 : Int))))))), b9b), (0 : Int))
else
gd (0 ≤ v1) <|
gd (v1 < (Int.ofNat (List.length h11))) <|
gd (0 < (List.length (List.getD h11 (0 + (Int.toNat v1)) []))) <|
gd (0 ≤ v2) <|
gd (v2 < (Int.ofNat (List.length (List.getD h11 (0 + (Int.toNat v1)) [])))) <|
gd ((64 : Int) ≠ 0) <|
some (((List.set h11 (0 + (Int.toNat v1)) (List.set (List.getD h11 (0 + (Int.toNat v1)) []) (0 + (Int.toNat v2)) (IntKind.wrap .i32 ((List.getD (List.getD h11 (0 + (Int.toNat v1)) []) (0 + (Int.toNat v2)) (0 : Int)) + (IntKind.wrap .i32 (Int.tdiv (IntKind.wrap .i32 ((0 : Int) - (List.getD (List.getD h11 (0 + (Int.toNat v1)) []) (0 + (Int.toNat v2)) (0 : Int)))) (64 : Int))))))), b9b), (0 : Int))) := (FnI.sem_eq _).trans (by kernel_rfl)
noncomputable def refine_Learn_S (acc : List AV → Bool) : Summ Tryz.prog GT := refine_Learn_I.summ mixed acc false false
noncomputable def final_Learn_I : FnI Tryz.prog GT := { f := 186, cuts := [], tab := [final_Check_S (fun _ => true), refine_Learn_S (fun _ => true)], fm := ⟨true, [.val T_api_Final [], .val (.int .i64) []]⟩ }
noncomputable def final_Learn (a0 : D_api_Final) (a1 : D_api_Chosen) (a2 : Bool) : Option (D_api_Final × Int) := final_Learn_I.call [(.agg T_api_Final (inj false T_api_Final a0)), (.agg T_api_Chosen (inj false T_api_Chosen a1)), (.bool a2)] []
theorem final_Learn_eq (a0 : D_api_Final) (a1 : D_api_Chosen) (a2 : Bool) : final_Learn a0 a1 a2 = (
(final_Check a0).bind fun r1 =>
if (r1 != (0 : Int)) = true then
some ((([], ()), (([], ()), ())), r1)
else
gd (0 ≤ (0 : Int)) <|
gd ((0 : Int) < (2 : Int)) <|
gd (0 ≤ (0 : Int)) <|
gd ((0 : Int) < (2 : Int)) <|
(refine_Learn a0.1 (List.getD a1.1 0 (0 : Int)) (List.getD a1.2.1 0 (0 : Int)) a2).bind fun r2 =>
gd (0 ≤ (1 : Int)) <|
gd ((1 : Int) < (2 : Int)) <|
gd (0 ≤ (1 : Int)) <|
gd ((1 : Int) < (2 : Int)) <|
(refine_Learn a0.2.1 (List.getD a1.1 1 (0 : Int)) (List.getD a1.2.1 1 (0 : Int)) a2).bind fun r3 =>
if (r2.2 != (0 : Int)) = true then
some ((([], ()), (([], ()), ())), (2 : Int))
else
if (r3.2 != (0 : Int)) = true then
some ((([], ()), (([], ()), ())), (2 : Int))
else
some ((r2.1, (r3.1, ())), (0 : Int))) := (FnI.call_eq (by kernel_rfl)).trans (by kernel_rfl)
noncomputable def final_Learn_S (acc : List AV → Bool) : Summ Tryz.prog GT := final_Learn_I.summ mixed acc false false
noncomputable def nibble_step_I : FnI Tryz.prog GT := { f := 222, cuts := [], tab := [], fm := ⟨true, [.val (.int .i64) []]⟩ }
noncomputable def nibble_step (a0 : Int) (a1 : Bool) : Option (Int) := nibble_step_I.call [(.int .i64 a0), (.bool a1)] []
theorem nibble_step_eq (a0 : Int) (a1 : Bool) : nibble_step a0 a1 = (
if a1 = true then
some (IntKind.wrap .i64 ((IntKind.wrap .i64 ((2 : Int) * a0)) + (1 : Int)))
else
some (IntKind.wrap .i64 ((2 : Int) * a0))) := (FnI.call_eq (by kernel_rfl)).trans (by kernel_rfl)
noncomputable def nibble_step_S (acc : List AV → Bool) : Summ Tryz.prog GT := nibble_step_I.summ mixed acc false false
noncomputable def nibble_Step_I : FnI Tryz.prog GT := { f := 187, cuts := [], tab := [nibble_Check_S (fun _ => true), nibble_step_S (fun _ => true), nibble_New_S (fun _ => true)], fm := ⟨true, [.val T_api_Walk [], .val .bool [], .val (.int .u8) [], .val (.int .i64) []]⟩ }
noncomputable def nibble_Step (a0 : D_api_Walk) (a1 : Bool) : Option (D_api_Walk × Bool × Int × Int) := nibble_Step_I.call [(.agg T_api_Walk (inj false T_api_Walk a0)), (.bool a1)] []
theorem nibble_Step_eq (a0 : D_api_Walk) (a1 : Bool) : nibble_Step a0 a1 = (
(nibble_Check a0).bind fun r1 =>
if (r1 != (0 : Int)) = true then
some (((0 : Int), ()), (false, ((0 : Int), r1)))
else
(nibble_step a0.1 a1).bind fun r2 =>
if (decide (r2 > (255 : Int))) = true then
(nibble_New).bind fun r3 =>
some (r3, (true, ((IntKind.wrap .u8 r2), (0 : Int))))
else
some ((r2, ()), (false, ((0 : Int), (0 : Int))))) := (FnI.call_eq (by kernel_rfl)).trans (by kernel_rfl)
noncomputable def nibble_Step_S (acc : List AV → Bool) : Summ Tryz.prog GT := nibble_Step_I.summ mixed acc false false
noncomputable def ring_Put_I : FnI Tryz.prog GT := { f := 223, cuts := [⟨(9, 3), [1, 4, 7], false, false, []⟩], tab := [ring_Check_S (fun _ => true), bytes_Clone_S (fun _ => true)], fm := ⟨true, [.val T_api_Ring [], .val (.int .i64) []]⟩ }
noncomputable def ring_Put (a0 : D_api_Ring) (a1 : List Int) : Option (D_api_Ring × Int) := ring_Put_I.call [(.agg T_api_Ring (inj false T_api_Ring a0)), (.sl (.int .u8) false a1)] []
noncomputable def ring_Put_c1 (v1 : List Int) (b8a : Int) (b8bb : D_api_Walk) (b9a : Int) (b9bb : D_api_Walk) (h10 : List Int) (h11 : List Int) : Option (D_api_Ring × Int) := ring_Put_I.sem ⟨[.code (cIn (cIn (cFst (cSnd (cSnd (cSnd (cSnd (bodyOf Tryz.prog 223)))))))), .inLoop (cIn (cIn (cFst (cSnd (cSnd (cSnd (cSnd (bodyOf Tryz.prog 223)))))))), .inBlock 1, .code (cSnd (cSnd (cSnd (cSnd (cSnd (bodyOf Tryz.prog 223))))))], ⟨[(1, (.one (.sl (.int .u8) false v1))), (4, (.one (.ptr T_api_Ring 8 []))), (7, (.one (.ptr T_api_Ring 9 [])))], [(8, some (.box T_api_Ring (b8a, ((SV.ref 10 0 (List.length h10) true), (inj false T_api_Walk b8bb))))), (9, some (.box T_api_Ring (b9a, ((SV.ref 11 0 (List.length h11) true), (inj false T_api_Walk b9bb))))), (10, some (.row (.int .u8) true h10)), (11, some (.row (.int .u8) true h11))], 12⟩⟩
theorem ring_Put_eq (a0 : D_api_Ring) (a1 : List Int) : ring_Put a0 a1 = (
(ring_Check a0).bind fun r1 =>
if (r1 != (0 : Int)) = true then
some (((0 : Int), ([], ((0 : Int), ()))), r1)
else
if (decide ((Int.ofNat (List.length a1)) > (20000 : Int))) = true then
some (((0 : Int), ([], ((0 : Int), ()))), (4 : Int))
else
if (decide ((Int.ofNat (List.length a1)) > (IntKind.wrap .i64 ((1073741824 : Int) - a0.2.2.1)))) = true then
some (((0 : Int), ([], ((0 : Int), ()))), (16 : Int))
else
(bytes_Clone a0.2.1).bind fun r2 =>
ring_Put_c1 a1 (0 : Int) ((0 : Int), ()) a0.1 (a0.2.2.1, ()) [] r2) := (FnI.call_eq (by kernel_rfl)).trans (by kernel_rfl)
theorem ring_Put_c1_eq (v1 : List Int) (b8a : Int) (b8bb : D_api_Walk) (b9a : Int) (b9bb : D_api_Walk) (h10 : List Int) (h11 : List Int) : ring_Put_c1 v1 b8a b8bb b9a b9bb h10 h11 = (
if (decide ((Int.ofNat (List.length v1)) > (0 : Int))) = true then
gd ((Int.ofNat (List.length h11)) ≠ 0) <|
gd (0 ≤ (Int.tmod b9bb.1 (Int.ofNat (List.length h11)))) <|
gd ((Int.tmod b9bb.1 (Int.ofNat (List.length h11))) ≤ (Int.ofNat (List.length h11))) <|
gd (0 ≤ (Int.ofNat (min (List.length v1) ((List.length h11) - (Int.toNat (Int.tmod b9bb.1 (Int.ofNat (List.length h11)))))))) <|
gd ((Int.ofNat (min (List.length v1) ((List.length h11) - (Int.toNat (Int.tmod b9bb.1 (Int.ofNat (List.length h11))))))) ≤ (Int.ofNat (List.length v1))) <|
ring_Put_c1 (List.drop (min (List.length v1) ((List.length h11) - (Int.toNat (Int.tmod b9bb.1 (Int.ofNat (List.length h11)))))) v1) b8a b8bb b9a ((IntKind.wrap .i64 (b9bb.1 + (Int.ofNat (min (List.length v1) ((List.length h11) - (Int.toNat (Int.tmod b9bb.1 (Int.ofNat (List.length h11))))))))), b9bb.2) h10 (splice h11 (0 + (Int.toNat (Int.tmod b9bb.1 (Int.ofNat (List.length h11))))) (List.take (min (List.length v1) ((List.length h11) - (Int.toNat (Int.tmod b9bb.1 (Int.ofNat (List.length h11)))))) v1))
else
some ((b9a, (h11, b9bb)), (0 : Int))) := (FnI.sem_eq _).trans (by kernel_rfl)
noncomputable def ring_Put_S (acc : List AV → Bool) : Summ Tryz.prog GT := ring_Put_I.summ mixed acc false false
noncomputable def match_recent_I : FnI Tryz.prog GT := { f := 224, cuts := [⟨(3, 3), [1, 3, 4], false, false, []⟩], tab := [ring_Back_S (fun _ => true), hashes_Of_S (fun _ => true)], fm := ⟨true, [.val (.int .u32) []]⟩ }
noncomputable def match_recent (a0 : D_api_Ring) : Option (Int) := match_recent_I.call [(.agg T_api_Ring (inj false T_api_Ring a0))] []
noncomputable def match_recent_c1 (v4 : Int) (b8 : D_api_Ring) (h9 : List Int) : Option (Int) := match_recent_I.sem ⟨[.code (cIn (cIn (cSnd (cFst (cSnd (cSnd (bodyOf Tryz.prog 224))))))), .inLoop (cIn (cIn (cSnd (cFst (cSnd (cSnd (bodyOf Tryz.prog 224))))))), .inBlock 0, .code (cSnd (cSnd (cSnd (bodyOf Tryz.prog 224))))], ⟨[(1, (.one (.ptr T_api_Ring 8 []))), (3, (.one (.ref (.int .u8) 9 0 (List.length h9) true))), (4, (.one (.int .i64 v4)))], [(8, some (.box T_api_Ring (inj false T_api_Ring b8))), (9, some (.row (.int .u8) true h9))], 10⟩⟩
theorem match_recent_eq (a0 : D_api_Ring) : match_recent a0 = (
match_recent_c1 (4 : Int) a0 []) := (FnI.call_eq (by kernel_rfl)).trans (by kernel_rfl)
theorem match_recent_c1_eq (v4 : Int) (b8 : D_api_Ring) (h9 : List Int) : match_recent_c1 v4 b8 h9 = (
if (decide (v4 > (0 : Int))) = true then
(ring_Back b8 v4).bind fun r1 =>
gd ((List.length (h9 ++ [r1.1])) * 1 ≤ 140737488355328) <|
match_recent_c1 (IntKind.wrap .i64 (v4 - (1 : Int))) b8 (h9 ++ [r1.1])
else
(hashes_Of (6 : Int) h9).bind fun r2 =>
some (r2.1)) := (FnI.sem_eq _).trans (by kernel_rfl)
noncomputable def match_recent_S (acc : List AV → Bool) : Summ Tryz.prog GT := match_recent_I.summ mixed acc false false
noncomputable def finder_place_I : FnI Tryz.prog GT := { f := 240, cuts := [], tab := [finder_Check_S (fun _ => true), hashes_Place_S (fun _ => true)], fm := ⟨true, [.val (.int .i64) [], .val (.int .i64) []]⟩ }
noncomputable def finder_place (a0 : D_api_Finder) (a1 : Int) : Option (Int × Int) := finder_place_I.call [(.agg T_api_Finder (inj false T_api_Finder a0)), (.int .u32 a1)] []
theorem finder_place_eq (a0 : D_api_Finder) (a1 : Int) : finder_place a0 a1 = (
(finder_Check a0).bind fun r1 =>
if (r1 != (0 : Int)) = true then
some ((0 : Int), r1)
else
(hashes_Place a1 (Int.ofNat (List.length a0.2.1))).bind fun r2 =>
some (r2)) := (FnI.call_eq (by kernel_rfl)).trans (by kernel_rfl)
noncomputable def finder_place_S (acc : List AV → Bool) : Summ Tryz.prog GT := finder_place_I.summ mixed acc false false
noncomputable def finder_Find_I : FnI Tryz.prog GT := { f := 225, cuts := [], tab := [finder_place_S (fun _ => true)], fm := ⟨true, [.val (.int .i64) [], .val (.int .i64) []]⟩ }
noncomputable def finder_Find (a0 : D_api_Finder) (a1 : Int) : Option (Int × Int) := finder_Find_I.call [(.agg T_api_Finder (inj false T_api_Finder a0)), (.int .u32 a1)] []
theorem finder_Find_eq (a0 : D_api_Finder) (a1 : Int) : finder_Find a0 a1 = (
(finder_place a0 a1).bind fun r1 =>
if (r1.2 != (0 : Int)) = true then
some ((0 : Int), r1.2)
else
gd (0 ≤ r1.1) <|
gd (r1.1 < (Int.ofNat (List.length a0.2.1))) <|
some ((List.getD a0.2.1 (Int.toNat r1.1) (0 : Int)), (0 : Int))) := (FnI.call_eq (by kernel_rfl)).trans (by kernel_rfl)
noncomputable def finder_Find_S (acc : List AV → Bool) : Summ Tryz.prog GT := finder_Find_I.summ mixed acc false false
noncomputable def finder_Length_I : FnI Tryz.prog GT := { f := 226, cuts := [⟨(9, 4), [1, 2, 3, 9, 10, 11], false, false, []⟩, ⟨(11, 7), [1, 2, 3, 9, 10, 11, 46], false, false, []⟩], tab := [ring_Check_S (fun _ => true)], fm := ⟨true, [.val (.int .i64) [], .val (.int .i64) []]⟩ }
noncomputable def finder_Length (a0 : D_api_Ring) (a1 : Int) (a2 : Int) : Option (Int × Int) := finder_Length_I.call [(.agg T_api_Ring (inj false T_api_Ring a0)), (.int .i64 a1), (.int .i64 a2)] []
noncomputable def finder_Length_c1 (v1 : Int) (v2 : Int) (v9 : Int) (v10 : Int) (v11 : Int) (b8 : D_api_Ring) : Option (Int × Int) := finder_Length_I.sem ⟨[.code (cIn (cIn (cFst (cSnd (cSnd (cSnd (cSnd (cSnd (cSnd (cIn (cSnd (bodyOf Tryz.prog 226)))))))))))), .inLoop (cIn (cIn (cFst (cSnd (cSnd (cSnd (cSnd (cSnd (cSnd (cIn (cSnd (bodyOf Tryz.prog 226)))))))))))), .inBlock 0, .code (cSnd (cSnd (cSnd (cSnd (cSnd (cSnd (cSnd (cIn (cSnd (bodyOf Tryz.prog 226)))))))))), .inScope (cIn (cSnd (bodyOf Tryz.prog 226)))], ⟨[(1, (.one (.int .i64 v1))), (2, (.one (.int .i64 v2))), (3, (.one (.ptr T_api_Ring 8 []))), (9, (.one (.int .i64 v9))), (10, (.one (.int .i64 v10))), (11, (.one (.int .i64 v11)))], [(8, some (.box T_api_Ring (inj false T_api_Ring b8)))], 9⟩⟩
noncomputable def finder_Length_c2 (v1 : Int) (v2 : Int) (v9 : Int) (v10 : Int) (v11 : Int) (v46 : Int) (b8 : D_api_Ring) : Option (Int × Int) := finder_Length_I.sem ⟨[.code (cIn (cIn (cSnd (cIn (cSnd (cIn (cIn (cFst (cSnd (cSnd (cSnd (cSnd (cSnd (cSnd (cIn (cSnd (bodyOf Tryz.prog 226))))))))))))))))), .inLoop (cIn (cIn (cSnd (cIn (cSnd (cIn (cIn (cFst (cSnd (cSnd (cSnd (cSnd (cSnd (cSnd (cIn (cSnd (bodyOf Tryz.prog 226))))))))))))))))), .inBlock 2, .inBlock 1, .inLoop (cIn (cIn (cFst (cSnd (cSnd (cSnd (cSnd (cSnd (cSnd (cIn (cSnd (bodyOf Tryz.prog 226)))))))))))), .inBlock 0, .code (cSnd (cSnd (cSnd (cSnd (cSnd (cSnd (cSnd (cIn (cSnd (bodyOf Tryz.prog 226)))))))))), .inScope (cIn (cSnd (bodyOf Tryz.prog 226)))], ⟨[(1, (.one (.int .i64 v1))), (2, (.one (.int .i64 v2))), (3, (.one (.ptr T_api_Ring 8 []))), (9, (.one (.int .i64 v9))), (10, (.one (.int .i64 v10))), (11, (.one (.int .i64 v11))), (46, (.one (.int .i64 v46)))], [(8, some (.box T_api_Ring (inj false T_api_Ring b8)))], 9⟩⟩
theorem finder_Length_eq (a0 : D_api_Ring) (a1 : Int) (a2 : Int) : finder_Length a0 a1 a2 = (
(ring_Check a0).bind fun r1 =>
if (r1 != (0 : Int)) = true then
some ((0 : Int), r1)
else
if (decide (a1 < (0 : Int))) = true then
some ((0 : Int), (2 : Int))
else
if (decide (a1 > a0.2.2.1)) = true then
some ((0 : Int), (2 : Int))
else
if (decide (a2 < (0 : Int))) = true then
some ((0 : Int), (2 : Int))
else
finder_Length_c1 a1 a2 (Int.ofNat (List.length a0.2.1)) (if (IntKind.wrap .i64 (a1 - (IntKind.wrap .i64 (a0.2.2.1 - (Int.ofNat (List.length a0.2.1)))))) < a1 then (IntKind.wrap .i64 (a1 - (IntKind.wrap .i64 (a0.2.2.1 - (Int.ofNat (List.length a0.2.1)))))) else a1) (0 : Int) a0) := (FnI.call_eq (by kernel_rfl)).trans (by kernel_rfl)
theorem finder_Length_c1_eq (v1 : Int) (v2 : Int) (v9 : Int) (v10 : Int) (v11 : Int) (b8 : D_api_Ring) : finder_Length_c1 v1 v2 v9 v10 v11 b8 = (
if (decide (v11 < (if v2 < v10 then v2 else v10))) = true then
finder_Length_c2 v1 v2 v9 v10 v11 (0 : Int) b8
else
some (v11, (0 : Int))) := (FnI.sem_eq _).trans (by kernel_rfl)
theorem finder_Length_c2_eq (v1 : Int) (v2 : Int) (v9 : Int) (v10 : Int) (v11 : Int) (v46 : Int) (b8 : D_api_Ring) : finder_Length_c2 v1 v2 v9 v10 v11 v46 b8 = (
if (decide (v46 < (4 : Int))) = true then
if (decide ((IntKind.wrap .i64 (v11 + (1 : Int))) > (if v2 < v10 then v2 else v10))) = true then
some (v11, (0 : Int))
else
gd (0 ≤ (bitsAnd .i64 (IntKind.wrap .i64 (v1 - (IntKind.wrap .i64 (v11 + (1 : Int))))) (IntKind.wrap .i64 (v9 - (1 : Int))))) <|
gd ((bitsAnd .i64 (IntKind.wrap .i64 (v1 - (IntKind.wrap .i64 (v11 + (1 : Int))))) (IntKind.wrap .i64 (v9 - (1 : Int)))) < (Int.ofNat (List.length b8.2.1))) <|
gd (0 ≤ (bitsAnd .i64 (IntKind.wrap .i64 (b8.2.2.1 - (IntKind.wrap .i64 (v11 + (1 : Int))))) (IntKind.wrap .i64 (v9 - (1 : Int))))) <|
gd ((bitsAnd .i64 (IntKind.wrap .i64 (b8.2.2.1 - (IntKind.wrap .i64 (v11 + (1 : Int))))) (IntKind.wrap .i64 (v9 - (1 : Int)))) < (Int.ofNat (List.length b8.2.1))) <|
if ((List.getD b8.2.1 (Int.toNat (bitsAnd .i64 (IntKind.wrap .i64 (v1 - (IntKind.wrap .i64 (v11 + (1 : Int))))) (IntKind.wrap .i64 (v9 - (1 : Int))))) (0 : Int)) != (List.getD b8.2.1 (Int.toNat (bitsAnd .i64 (IntKind.wrap .i64 (b8.2.2.1 - (IntKind.wrap .i64 (v11 + (1 : Int))))) (IntKind.wrap .i64 (v9 - (1 : Int))))) (0 : Int))) = true then
some (v11, (0 : Int))
else
finder_Length_c2 v1 v2 v9 v10 (IntKind.wrap .i64 (v11 + (1 : Int))) (IntKind.wrap .i64 (v46 + (1 : Int))) b8
else
finder_Length_c1 v1 v2 v9 v10 v11 b8) := (FnI.sem_eq _).trans (by kernel_rfl)
noncomputable def finder_Length_S (acc : List AV → Bool) : Summ Tryz.prog GT := finder_Length_I.summ mixed acc false false
noncomputable def finder_Put_I : FnI Tryz.prog GT := { f := 227, cuts := [], tab := [finder_place_S (fun _ => true), slices_Clone_int_int_S (fun _ => true)], fm := ⟨true, [.val T_api_Finder [], .val (.int .i64) []]⟩ }
noncomputable def finder_Put (a0 : D_api_Finder) (a1 : Int) (a2 : Int) : Option (D_api_Finder × Int) := finder_Put_I.call [(.agg T_api_Finder (inj false T_api_Finder a0)), (.int .u32 a1), (.int .i64 a2)] []
theorem finder_Put_eq (a0 : D_api_Finder) (a1 : Int) (a2 : Int) : finder_Put a0 a1 a2 = (
(finder_place a0 a1).bind fun r1 =>
if (r1.2 != (0 : Int)) = true then
some (((0 : Int), ([], ())), r1.2)
else
if (decide (a2 < (0 : Int))) = true then
some (((0 : Int), ([], ())), (2 : Int))
else
if (decide (a2 > (1073741824 : Int))) = true then
some (((0 : Int), ([], ())), (2 : Int))
else
(slices_Clone_int_int a0.2.1).bind fun r2 =>
gd (0 ≤ r1.1) <|
gd (r1.1 < (Int.ofNat (List.length r2))) <|
some ((a0.1, ((List.set r2 (0 + (Int.toNat r1.1)) a2), ())), (0 : Int))) := (FnI.call_eq (by kernel_rfl)).trans (by kernel_rfl)
noncomputable def finder_Put_S (acc : List AV → Bool) : Summ Tryz.prog GT := finder_Put_I.summ mixed acc false false
noncomputable def match_Byte_I : FnI Tryz.prog GT := { f := 188, cuts := [], tab := [match_Check_S (fun _ => true), ring_Check_S (fun _ => true), finder_Check_S (fun _ => true), match_New_S (fun _ => true), match_expect_S (fun _ => true), ring_Put_S (fun _ => true), match_recent_S (fun _ => true), finder_Find_S (fun _ => true), finder_Length_S (fun _ => true), finder_Put_S (fun _ => true)], fm := ⟨true, [.val T_api_Settings [], .val T_api_Ring [], .val T_api_Finder [], .val (.int .i64) []]⟩ }
noncomputable def match_Byte (a0 : D_api_Settings) (a1 : D_api_Ring) (a2 : D_api_Finder) (a3 : Int) : Option (D_api_Settings × D_api_Ring × D_api_Finder × Int) := match_Byte_I.call [(.agg T_api_Settings (inj false T_api_Settings a0)), (.agg T_api_Ring (inj false T_api_Ring a1)), (.agg T_api_Finder (inj false T_api_Finder a2)), (.int .u8 a3)] []
theorem match_Byte_eq (a0 : D_api_Settings) (a1 : D_api_Ring) (a2 : D_api_Finder) (a3 : Int) : match_Byte a0 a1 a2 a3 = (
(match_Check a0).bind fun r1 =>
if (r1 != (0 : Int)) = true then
some (((0 : Int), ((0 : Int), ())), (((0 : Int), ([], ((0 : Int), ()))), (((0 : Int), ([], ())), (8 : Int))))
else
(ring_Check a1).bind fun r2 =>
if (r2 != (0 : Int)) = true then
some (((0 : Int), ((0 : Int), ())), (((0 : Int), ([], ((0 : Int), ()))), (((0 : Int), ([], ())), (8 : Int))))
else
(finder_Check a2).bind fun r3 =>
if (r3 != (0 : Int)) = true then
some (((0 : Int), ((0 : Int), ())), (((0 : Int), ([], ((0 : Int), ()))), (((0 : Int), ([], ())), (8 : Int))))
else
(match_New).bind fun r4 =>
(match_expect a0 a1).bind fun r5 =>
if r5.2 = true then
if (r5.1 == a3) = true then
if (decide (a0.1 < (1073741824 : Int))) = true then
(ring_Put a1 [a3]).bind fun r6 =>
if (r6.2 != (0 : Int)) = true then
some (((0 : Int), ((0 : Int), ())), (((0 : Int), ([], ((0 : Int), ()))), (((0 : Int), ([], ())), r6.2)))
else
(match_recent r6.1).bind fun r7 =>
(finder_Find a2 r7).bind fun r8 =>
if (decide ((IntKind.wrap .i64 (a0.1 + (1 : Int))) < (0 : Int))) = true then
if (decide (r8.1 ≥ (0 : Int))) = true then
if (decide (r8.1 ≤ r6.1.2.2.1)) = true then
(finder_Length r6.1 r8.1 (40 : Int)).bind fun r9 =>
if (decide (r9.1 ≥ (3 : Int))) = true then
(finder_Put a2 r7 r6.1.2.2.1).bind fun r10 =>
some ((r8.1, (r9.1, ())), (r6.1, (r10.1, (0 : Int))))
else
(finder_Put a2 r7 r6.1.2.2.1).bind fun r11 =>
some (((IntKind.wrap .i64 (a0.1 + (1 : Int))), ((if (40 : Int) < (IntKind.wrap .i64 (a0.2.1 + (1 : Int))) then (40 : Int) else (IntKind.wrap .i64 (a0.2.1 + (1 : Int)))), ())), (r6.1, (r11.1, (0 : Int))))
else
(finder_Put a2 r7 r6.1.2.2.1).bind fun r12 =>
some (((IntKind.wrap .i64 (a0.1 + (1 : Int))), ((if (40 : Int) < (IntKind.wrap .i64 (a0.2.1 + (1 : Int))) then (40 : Int) else (IntKind.wrap .i64 (a0.2.1 + (1 : Int)))), ())), (r6.1, (r12.1, (0 : Int))))
else
(finder_Put a2 r7 r6.1.2.2.1).bind fun r13 =>
some (((IntKind.wrap .i64 (a0.1 + (1 : Int))), ((if (40 : Int) < (IntKind.wrap .i64 (a0.2.1 + (1 : Int))) then (40 : Int) else (IntKind.wrap .i64 (a0.2.1 + (1 : Int)))), ())), (r6.1, (r13.1, (0 : Int))))
else
(finder_Put a2 r7 r6.1.2.2.1).bind fun r14 =>
some (((IntKind.wrap .i64 (a0.1 + (1 : Int))), ((if (40 : Int) < (IntKind.wrap .i64 (a0.2.1 + (1 : Int))) then (40 : Int) else (IntKind.wrap .i64 (a0.2.1 + (1 : Int)))), ())), (r6.1, (r14.1, (0 : Int))))
else
(ring_Put a1 [a3]).bind fun r15 =>
if (r15.2 != (0 : Int)) = true then
some (((0 : Int), ((0 : Int), ())), (((0 : Int), ([], ((0 : Int), ()))), (((0 : Int), ([], ())), r15.2)))
else
(match_recent r15.1).bind fun r16 =>
(finder_Find a2 r16).bind fun r17 =>
if (decide (r4.1 < (0 : Int))) = true then
if (decide (r17.1 ≥ (0 : Int))) = true then
if (decide (r17.1 ≤ r15.1.2.2.1)) = true then
(finder_Length r15.1 r17.1 (40 : Int)).bind fun r18 =>
if (decide (r18.1 ≥ (3 : Int))) = true then
(finder_Put a2 r16 r15.1.2.2.1).bind fun r19 =>
some ((r17.1, (r18.1, ())), (r15.1, (r19.1, (0 : Int))))
else
(finder_Put a2 r16 r15.1.2.2.1).bind fun r20 =>
some (r4, (r15.1, (r20.1, (0 : Int))))
else
(finder_Put a2 r16 r15.1.2.2.1).bind fun r21 =>
some (r4, (r15.1, (r21.1, (0 : Int))))
else
(finder_Put a2 r16 r15.1.2.2.1).bind fun r22 =>
some (r4, (r15.1, (r22.1, (0 : Int))))
else
(finder_Put a2 r16 r15.1.2.2.1).bind fun r23 =>
some (r4, (r15.1, (r23.1, (0 : Int))))
else
(ring_Put a1 [a3]).bind fun r24 =>
if (r24.2 != (0 : Int)) = true then
some (((0 : Int), ((0 : Int), ())), (((0 : Int), ([], ((0 : Int), ()))), (((0 : Int), ([], ())), r24.2)))
else
(match_recent r24.1).bind fun r25 =>
(finder_Find a2 r25).bind fun r26 =>
if (decide (r4.1 < (0 : Int))) = true then
if (decide (r26.1 ≥ (0 : Int))) = true then
if (decide (r26.1 ≤ r24.1.2.2.1)) = true then
(finder_Length r24.1 r26.1 (40 : Int)).bind fun r27 =>
if (decide (r27.1 ≥ (3 : Int))) = true then
(finder_Put a2 r25 r24.1.2.2.1).bind fun r28 =>
some ((r26.1, (r27.1, ())), (r24.1, (r28.1, (0 : Int))))
else
(finder_Put a2 r25 r24.1.2.2.1).bind fun r29 =>
some (r4, (r24.1, (r29.1, (0 : Int))))
else
(finder_Put a2 r25 r24.1.2.2.1).bind fun r30 =>
some (r4, (r24.1, (r30.1, (0 : Int))))
else
(finder_Put a2 r25 r24.1.2.2.1).bind fun r31 =>
some (r4, (r24.1, (r31.1, (0 : Int))))
else
(finder_Put a2 r25 r24.1.2.2.1).bind fun r32 =>
some (r4, (r24.1, (r32.1, (0 : Int))))
else
(ring_Put a1 [a3]).bind fun r33 =>
if (r33.2 != (0 : Int)) = true then
some (((0 : Int), ((0 : Int), ())), (((0 : Int), ([], ((0 : Int), ()))), (((0 : Int), ([], ())), r33.2)))
else
(match_recent r33.1).bind fun r34 =>
(finder_Find a2 r34).bind fun r35 =>
if (decide (r4.1 < (0 : Int))) = true then
if (decide (r35.1 ≥ (0 : Int))) = true then
if (decide (r35.1 ≤ r33.1.2.2.1)) = true then
(finder_Length r33.1 r35.1 (40 : Int)).bind fun r36 =>
if (decide (r36.1 ≥ (3 : Int))) = true then
(finder_Put a2 r34 r33.1.2.2.1).bind fun r37 =>
some ((r35.1, (r36.1, ())), (r33.1, (r37.1, (0 : Int))))
else
(finder_Put a2 r34 r33.1.2.2.1).bind fun r38 =>
some (r4, (r33.1, (r38.1, (0 : Int))))
else
(finder_Put a2 r34 r33.1.2.2.1).bind fun r39 =>
some (r4, (r33.1, (r39.1, (0 : Int))))
else
(finder_Put a2 r34 r33.1.2.2.1).bind fun r40 =>
some (r4, (r33.1, (r40.1, (0 : Int))))
else
(finder_Put a2 r34 r33.1.2.2.1).bind fun r41 =>
some (r4, (r33.1, (r41.1, (0 : Int))))) := (FnI.call_eq (by kernel_rfl)).trans (by kernel_rfl)
noncomputable def match_Byte_S (acc : List AV → Bool) : Summ Tryz.prog GT := match_Byte_I.summ mixed acc false false
noncomputable def hashes_Step_I : FnI Tryz.prog GT := { f := 228, cuts := [], tab := [hashes_steps_S (fun _ => true)], fm := ⟨true, [.val (.int .u32) []]⟩ }
noncomputable def hashes_Step (a0 : Int) (a1 : Int) : Option (Int) := hashes_Step_I.call [(.int .u32 a0), (.int .u8 a1)] []
theorem hashes_Step_eq (a0 : Int) (a1 : Int) : hashes_Step a0 a1 = (
(hashes_steps a0 [a1]).bind fun r1 =>
some (r1)) := (FnI.call_eq (by kernel_rfl)).trans (by kernel_rfl)
noncomputable def hashes_Step_S (acc : List AV → Bool) : Summ Tryz.prog GT := hashes_Step_I.summ mixed acc false false
noncomputable def context_Deep_I : FnI Tryz.prog GT := { f := 189, cuts := [], tab := [hashes_Step_S (fun _ => true)], fm := ⟨true, [.val (.int .u32) [], .val (.int .i64) []]⟩ }
noncomputable def context_Deep (a0 : Int) (a1 : Int) : Option (Int × Int) := context_Deep_I.call [(.int .u32 a0), (.int .i64 a1)] []
theorem context_Deep_eq (a0 : Int) (a1 : Int) : context_Deep a0 a1 = (
if (decide (a1 < (16 : Int))) = true then
some ((0 : Int), (2 : Int))
else
if (decide (a1 > (31 : Int))) = true then
some ((0 : Int), (2 : Int))
else
(hashes_Step a0 (IntKind.wrap .u8 a1)).bind fun r1 =>
some (r1, (0 : Int))) := (FnI.call_eq (by kernel_rfl)).trans (by kernel_rfl)
noncomputable def context_Deep_S (acc : List AV → Bool) : Summ Tryz.prog GT := context_Deep_I.summ mixed acc false false
noncomputable def predict_update_I : FnI Tryz.prog GT := { f := 139, cuts := [⟨(7, 3), [2, 3, 4, 6, 8, 9, 31], false, false, []⟩, ⟨(28, 3), [3, 6, 11, 16, 152, 153], false, false, []⟩], tab := [(slices_Clone_api_Table_api_Table_S (fun _ => true)).dropping, (slices_Clone_api_Adapt_api_Adapt_S (fun _ => true)).dropping, adapt_Update_S (fun _ => true), slots_Bit_S (fun _ => true), mixer_Learn_S (fun _ => true), final_Learn_S (fun _ => true), nibble_Step_S (fun _ => true), match_Byte_S (fun _ => true), context_Of_S (fun _ => true), (predict_find_v2_S (fun _ => true)).dropping, context_Deep_S (fun _ => true)], fm := ⟨false, [.val T_api_Predictor [], .val (.int .i64) []]⟩ }
noncomputable def predict_update (a0 : D_api_Predictor) (a1 : D_predict_seen) (a2 : Bool) : Option (D_api_Predictor × Int) := predict_update_I.call [(.agg T_api_Predictor (inj false T_api_Predictor a0)), (.agg T_predict_seen (inj false T_predict_seen a1)), (.bool a2)] []
noncomputable def predict_update_c1 (v2 : Bool) (v8 : Int) (v9 : Int) (v31 : Int) (b8a : Int) (b8ba : D_api_Ring) (b8bbbb : (D_api_Mixer × (D_api_Final × (D_api_Finder × (D_api_Settings × (D_api_Walk × ((List Int) × ((List Int) × Unit)))))))) (b9 : D_predict_seen) (b10a : Int) (b10baa : Int) (b10babb : D_api_Walk) (b10bbbbab : Unit) (b10bbbbbaab : Unit) (b10bbbbbabab : Unit) (b10bbbbbabb : Unit) (b10bbbbbbaa : Int) (b10bbbbbbabb : Unit) (b10bbbbbbb : (D_api_Settings × (D_api_Walk × ((List Int) × ((List Int) × Unit))))) (h11 : List D_api_Table) (h12 : List D_api_Adapt) (h13 : List Int) (h14 : List D_api_Table) (h15 : List D_api_Adapt) (h16 : List (List Int)) (h17 : List (List Int)) (h18 : List (List Int)) (h19 : List Int) : Option (D_api_Predictor × Int) := predict_update_I.sem ⟨[.code (cIn (cIn (cSnd (cFst (cSnd (cSnd (cSnd (cSnd (cSnd (bodyOf Tryz.prog 139)))))))))), .inLoop (cIn (cIn (cSnd (cFst (cSnd (cSnd (cSnd (cSnd (cSnd (bodyOf Tryz.prog 139)))))))))), .inBlock 0, .code (cSnd (cSnd (cSnd (cSnd (cSnd (cSnd (bodyOf Tryz.prog 139)))))))], ⟨[(2, (.one (.bool v2))), (3, (.one (.ptr T_api_Predictor 8 []))), (4, (.one (.ptr T_predict_seen 9 []))), (6, (.one (.ptr T_api_Predictor 10 []))), (8, (.one (.int .u8 v8))), (9, (.one (.int .i64 v9))), (31, (.one (.int .i64 v31)))], [(8, some (.box T_api_Predictor (b8a, ((inj false T_api_Ring b8ba), ((SV.ref 11 0 (List.length h11) true), ((SV.ref 12 0 (List.length h12) true), (inj false (.pair T_api_Mixer (.pair T_api_Final (.pair T_api_Finder (.pair T_api_Settings (.pair T_api_Walk (.pair (.arr 6 (.int .u32)) (.pair (.arr 6 (.int .i64)) .unit))))))) b8bbbb))))))), (9, some (.box T_predict_seen (inj false T_predict_seen b9))), (10, some (.box T_api_Predictor (b10a, ((b10baa, ((SV.ref 13 0 (List.length h13) true), (inj false T_api_Walk b10babb))), ((SV.ref 14 0 (List.length h14) true), ((SV.ref 15 0 (List.length h15) true), (((SV.ref 16 0 (List.length h16) true), b10bbbbab), ((((SV.ref 17 0 (List.length h17) true), b10bbbbbaab), (((SV.ref 18 0 (List.length h18) true), b10bbbbbabab), b10bbbbbabb)), ((b10bbbbbbaa, ((SV.ref 19 0 (List.length h19) true), b10bbbbbbabb)), (inj false (.pair T_api_Settings (.pair T_api_Walk (.pair (.arr 6 (.int .u32)) (.pair (.arr 6 (.int .i64)) .unit)))) b10bbbbbbb)))))))))), (11, some (.row T_api_Table false h11)), (12, some (.row T_api_Adapt false h12)), (13, some (.row (.int .u8) true h13)), (14, some (.row T_api_Table true h14)), (15, some (.row T_api_Adapt true h15)), (16, some (.row (.slice (.int .i32)) true h16)), (17, some (.row (.slice (.int .i32)) true h17)), (18, some (.row (.slice (.int .i32)) true h18)), (19, some (.row (.int .i64) true h19))], 20⟩⟩
noncomputable def predict_update_c2 (v152 : (List Int)) (v153 : Int) (b8a : Int) (b8ba : D_api_Ring) (b8bbbba : D_api_Mixer) (b8bbbbba : D_api_Final) (b8bbbbbb : (D_api_Finder × (D_api_Settings × (D_api_Walk × ((List Int) × ((List Int) × Unit)))))) (b9a : Int) (b9baa : Int) (b9babb : D_api_Walk) (b9bbbbab : Unit) (b9bbbbbaab : Unit) (b9bbbbbabab : Unit) (b9bbbbbabb : Unit) (b9bbbbbbaa : Int) (b9bbbbbbabb : Unit) (b9bbbbbbb : (D_api_Settings × (D_api_Walk × ((List Int) × ((List Int) × Unit))))) (b10 : D_api_Walk) (b11 : (List Int)) (h12 : List D_api_Table) (h13 : List D_api_Adapt) (h14 : List Int) (h15 : List D_api_Table) (h16 : List D_api_Adapt) (h17 : List (List Int)) (h18 : List (List Int)) (h19 : List (List Int)) (h20 : List Int) : Option (D_api_Predictor × Int) := predict_update_I.sem ⟨[.code (cIn (cIn (cSnd (cFst (cSnd (cSnd (cSnd (cSnd (cSnd (cSnd (cSnd (cSnd (cSnd (cSnd (cSnd (cSnd (cSnd (bodyOf Tryz.prog 139)))))))))))))))))), .inLoop (cIn (cIn (cSnd (cFst (cSnd (cSnd (cSnd (cSnd (cSnd (cSnd (cSnd (cSnd (cSnd (cSnd (cSnd (cSnd (cSnd (bodyOf Tryz.prog 139)))))))))))))))))), .inBlock 2, .code (cSnd (cSnd (cSnd (cSnd (cSnd (cSnd (cSnd (cSnd (cSnd (cSnd (cSnd (cSnd (cSnd (cSnd (bodyOf Tryz.prog 139)))))))))))))))], ⟨[(3, (.one (.ptr T_api_Predictor 8 []))), (6, (.one (.ptr T_api_Predictor 9 []))), (11, (.one (.ptr T_api_Walk 10 []))), (16, (.one (.ptr (.arr 6 (.int .u32)) 11 []))), (152, (.one (.agg (.arr 6 (.int .u32)) v152))), (153, (.one (.int .i64 v153)))], [(8, some (.box T_api_Predictor (b8a, ((inj false T_api_Ring b8ba), ((SV.ref 12 0 (List.length h12) true), ((SV.ref 13 0 (List.length h13) true), ((inj true T_api_Mixer b8bbbba), ((inj true T_api_Final b8bbbbba), (inj false (.pair T_api_Finder (.pair T_api_Settings (.pair T_api_Walk (.pair (.arr 6 (.int .u32)) (.pair (.arr 6 (.int .i64)) .unit))))) b8bbbbbb))))))))), (9, some (.box T_api_Predictor (b9a, ((b9baa, ((SV.ref 14 0 (List.length h14) true), (inj false T_api_Walk b9babb))), ((SV.ref 15 0 (List.length h15) true), ((SV.ref 16 0 (List.length h16) true), (((SV.ref 17 0 (List.length h17) true), b9bbbbab), ((((SV.ref 18 0 (List.length h18) true), b9bbbbbaab), (((SV.ref 19 0 (List.length h19) true), b9bbbbbabab), b9bbbbbabb)), ((b9bbbbbbaa, ((SV.ref 20 0 (List.length h20) true), b9bbbbbbabb)), (inj false (.pair T_api_Settings (.pair T_api_Walk (.pair (.arr 6 (.int .u32)) (.pair (.arr 6 (.int .i64)) .unit)))) b9bbbbbbb)))))))))), (10, some (.box T_api_Walk (inj false T_api_Walk b10))), (11, some (.box (.arr 6 (.int .u32)) b11)), (12, some (.row T_api_Table false h12)), (13, some (.row T_api_Adapt false h13)), (14, some (.row (.int .u8) true h14)), (15, some (.row T_api_Table true h15)), (16, some (.row T_api_Adapt true h16)), (17, some (.row (.slice (.int .i32)) true h17)), (18, some (.row (.slice (.int .i32)) true h18)), (19, some (.row (.slice (.int .i32)) true h19)), (20, some (.row (.int .i64) true h20))], 21⟩⟩
theorem predict_update_eq (a0 : D_api_Predictor) (a1 : D_predict_seen) (a2 : Bool) : predict_update a0 a1 a2 = (
if a2 = true then
(slices_Clone_api_Table_api_Table a0.2.2.1).bind fun r1 =>
(slices_Clone_api_Adapt_api_Adapt a0.2.2.2.1).bind fun r2 =>
predict_update_c1 a2 (1 : Int) a0.2.2.2.2.2.2.2.2.1.1 (0 : Int) a0.1 a0.2.1 a0.2.2.2.2 a1 (0 : Int) (0 : Int) ((0 : Int), ()) () () () () (0 : Int) () (((0 : Int), ((0 : Int), ())), (((0 : Int), ()), ((List.replicate 6 (0 : Int)), ((List.replicate 6 (0 : Int)), ())))) r1 r2 [] [] [] [] [] [] []
else
(slices_Clone_api_Table_api_Table a0.2.2.1).bind fun r3 =>
(slices_Clone_api_Adapt_api_Adapt a0.2.2.2.1).bind fun r4 =>
predict_update_c1 a2 (0 : Int) a0.2.2.2.2.2.2.2.2.1.1 (0 : Int) a0.1 a0.2.1 a0.2.2.2.2 a1 (0 : Int) (0 : Int) ((0 : Int), ()) () () () () (0 : Int) () (((0 : Int), ((0 : Int), ())), (((0 : Int), ()), ((List.replicate 6 (0 : Int)), ((List.replicate 6 (0 : Int)), ())))) r3 r4 [] [] [] [] [] [] []) := (FnI.call_eq (by kernel_rfl)).trans (by kernel_rfl)
theorem predict_update_c1_eq (v2 : Bool) (v8 : Int) (v9 : Int) (v31 : Int) (b8a : Int) (b8ba : D_api_Ring) (b8bbbb : (D_api_Mixer × (D_api_Final × (D_api_Finder × (D_api_Settings × (D_api_Walk × ((List Int) × ((List Int) × Unit)))))))) (b9 : D_predict_seen) (b10a : Int) (b10baa : Int) (b10babb : D_api_Walk) (b10bbbbab : Unit) (b10bbbbbaab : Unit) (b10bbbbbabab : Unit) (b10bbbbbabb : Unit) (b10bbbbbbaa : Int) (b10bbbbbbabb : Unit) (b10bbbbbbb : (D_api_Settings × (D_api_Walk × ((List Int) × ((List Int) × Unit))))) (h11 : List D_api_Table) (h12 : List D_api_Adapt) (h13 : List Int) (h14 : List D_api_Table) (h15 : List D_api_Adapt) (h16 : List (List Int)) (h17 : List (List Int)) (h18 : List (List Int)) (h19 : List Int) : predict_update_c1 v2 v8 v9 v31 b8a b8ba b8bbbb b9 b10a b10baa b10babb b10bbbbab b10bbbbbaab b10bbbbbabab b10bbbbbabb b10bbbbbbaa b10bbbbbbabb b10bbbbbbb h11 h12 h13 h14 h15 h16 h17 h18 h19 = (
if (decide (v31 < (6 : Int))) = true then
gd (0 ≤ v31) <|
gd (v31 < (Int.ofNat (List.length h12))) <|
gd (0 ≤ v31) <|
gd (v31 < (Int.ofNat (List.length b9.2.1))) <|
(adapt_Update (List.getD h12 (0 + (Int.toNat v31)) (pzero T_api_Adapt)) (List.getD b9.2.1 (Int.toNat v31) (0 : Int)) v8).bind fun r5 =>
gd (0 ≤ v31) <|
gd (v31 < (Int.ofNat (List.length h12))) <|
gd (0 ≤ v31) <|
gd (v31 < (Int.ofNat (List.length h11))) <|
gd (0 ≤ v31) <|
gd (v31 < (6 : Int)) <|
(slots_Bit (List.getD h11 (0 + (Int.toNat v31)) (pzero T_api_Table)) (List.getD b8bbbb.2.2.2.2.2.2.1 (Int.toNat v31) (0 : Int)) b9.1 v8).bind fun r6 =>
gd (0 ≤ v31) <|
gd (v31 < (Int.ofNat (List.length h11))) <|
predict_update_c1 v2 v8 v9 (IntKind.wrap .i64 (v31 + (1 : Int))) b8a b8ba b8bbbb b9 b10a b10baa b10babb b10bbbbab b10bbbbbaab b10bbbbbabab b10bbbbbabb b10bbbbbbaa b10bbbbbbabb b10bbbbbbb (List.set h11 (0 + (Int.toNat v31)) r6.1) (List.set h12 (0 + (Int.toNat v31)) r5.1) h13 h14 h15 h16 h17 h18 h19
else
(mixer_Learn b8bbbb.1 v9 b9.2.2.1 b9.2.2.2.1 v2).bind fun r7 =>
(final_Learn b8bbbb.2.1 b9.2.2.2.2.2.1 v2).bind fun r8 =>
(nibble_Step b8bbbb.2.2.2.2.1 v2).bind fun r9 =>
if r9.2.1 = true then
(match_Byte b8bbbb.2.2.2.1 b8ba b8bbbb.2.2.1 r9.2.2.1).bind fun r10 =>
if (r10.2.2.2 != (0 : Int)) = true then
some (((0 : Int), (((0 : Int), ([], ((0 : Int), ()))), ([], ([], (([], ()), ((([], ()), (([], ()), ())), (((0 : Int), ([], ())), (((0 : Int), ((0 : Int), ())), (((0 : Int), ()), ((List.replicate 6 (0 : Int)), ((List.replicate 6 (0 : Int)), ()))))))))))), r10.2.2.2)
else
(context_Of r10.2.1).bind fun r11 =>
(predict_find_v2 r11.1 b8a r10.2.1 (r7.1, (r8.1, (r10.2.2.1, (r10.1, (r9.1, (r11.1, b8bbbb.2.2.2.2.2.2)))))) h11 h12).bind fun r12 =>
some ((r12.1.1, (r12.1.2.1, (r12.2.1, (r12.2.2, r12.1.2.2.2.2)))), (0 : Int))
else
if (decide (r9.1.1 < (16 : Int))) = true then
some ((b8a, (b8ba, (h11, (h12, (r7.1, (r8.1, (b8bbbb.2.2.1, (b8bbbb.2.2.2.1, (r9.1, b8bbbb.2.2.2.2.2))))))))), (0 : Int))
else
if (decide (r9.1.1 > (31 : Int))) = true then
some ((b8a, (b8ba, (h11, (h12, (r7.1, (r8.1, (b8bbbb.2.2.1, (b8bbbb.2.2.2.1, (r9.1, b8bbbb.2.2.2.2.2))))))))), (0 : Int))
else
predict_update_c2 b8bbbb.2.2.2.2.2.1 (0 : Int) b8a b8ba r7.1 r8.1 (b8bbbb.2.2.1, (b8bbbb.2.2.2.1, (r9.1, b8bbbb.2.2.2.2.2))) b10a b10baa b10babb b10bbbbab b10bbbbbaab b10bbbbbabab b10bbbbbabb b10bbbbbbaa b10bbbbbbabb b10bbbbbbb r9.1 b8bbbb.2.2.2.2.2.1 h11 h12 h13 h14 h15 h16 h17 h18 h19) := (FnI.sem_eq _).trans (by kernel_rfl)
theorem predict_update_c2_eq (v152 : (List Int)) (v153 : Int) (b8a : Int) (b8ba : D_api_Ring) (b8bbbba : D_api_Mixer) (b8bbbbba : D_api_Final) (b8bbbbbb : (D_api_Finder × (D_api_Settings × (D_api_Walk × ((List Int) × ((List Int) × Unit)))))) (b9a : Int) (b9baa : Int) (b9babb : D_api_Walk) (b9bbbbab : Unit) (b9bbbbbaab : Unit) (b9bbbbbabab : Unit) (b9bbbbbabb : Unit) (b9bbbbbbaa : Int) (b9bbbbbbabb : Unit) (b9bbbbbbb : (D_api_Settings × (D_api_Walk × ((List Int) × ((List Int) × Unit))))) (b10 : D_api_Walk) (b11 : (List Int)) (h12 : List D_api_Table) (h13 : List D_api_Adapt) (h14 : List Int) (h15 : List D_api_Table) (h16 : List D_api_Adapt) (h17 : List (List Int)) (h18 : List (List Int)) (h19 : List (List Int)) (h20 : List Int) : predict_update_c2 v152 v153 b8a b8ba b8bbbba b8bbbbba b8bbbbbb b9a b9baa b9babb b9bbbbab b9bbbbbaab b9bbbbbabab b9bbbbbabb b9bbbbbbaa b9bbbbbbabb b9bbbbbbb b10 b11 h12 h13 h14 h15 h16 h17 h18 h19 h20 = (
if (decide (v153 < (6 : Int))) = true then
gd (0 ≤ v153) <|
gd (v153 < (6 : Int)) <|
(context_Deep (List.getD v152 (Int.toNat v153) (0 : Int)) b10.1).bind fun r13 =>
gd (0 ≤ v153) <|
gd (v153 < (6 : Int)) <|
predict_update_c2 v152 (IntKind.wrap .i64 (v153 + (1 : Int))) b8a b8ba b8bbbba b8bbbbba b8bbbbbb b9a b9baa b9babb b9bbbbab b9bbbbbaab b9bbbbbabab b9bbbbbabb b9bbbbbbaa b9bbbbbbabb b9bbbbbbb b10 (List.set b11 (Int.toNat v153) r13.1) h12 h13 h14 h15 h16 h17 h18 h19 h20
else
(predict_find_v2 b11 b8a b8ba (b8bbbba, (b8bbbbba, b8bbbbbb)) h12 h13).bind fun r14 =>
some ((r14.1.1, (r14.1.2.1, (r14.2.1, (r14.2.2, r14.1.2.2.2.2)))), (0 : Int))) := (FnI.sem_eq _).trans (by kernel_rfl)
noncomputable def predict_update_S (acc : List AV → Bool) : Summ Tryz.prog GT := predict_update_I.summ mixed acc false false
noncomputable def predict_Run_I : FnI Tryz.prog GT := { f := 102, cuts := [⟨(9, 3), [2, 4, 8, 26, 27, 28], false, false, []⟩], tab := [predict_Check_S (fun _ => true), (predict_twin_S (fun _ => true)).dropping, predict_see_S (fun _ => true), (predict_update_S (fun _ => true)).dropping], fm := ⟨false, [.val T_api_Predictor [], .val (.slice (.int .i64)) [.nw], .val (.int .i64) []]⟩ }
noncomputable def predict_Run (a0 : D_api_Predictor) (a1 : List Bool) : Option (D_api_Predictor × List Int × Int) := predict_Run_I.call [(.agg T_api_Predictor (inj false T_api_Predictor a0)), (.sl .bool false a1)] []
noncomputable def predict_Run_c1 (v26 : List Bool) (v27 : Int) (v28 : Int) (b8 : D_api_Predictor) (b9a : Int) (b9baa : Int) (b9babb : D_api_Walk) (b9bbbbab : Unit) (b9bbbbbaab : Unit) (b9bbbbbabab : Unit) (b9bbbbbabb : Unit) (b9bbbbbbaa : Int) (b9bbbbbbabb : Unit) (b9bbbbbbb : (D_api_Settings × (D_api_Walk × ((List Int) × ((List Int) × Unit))))) (h10 : List Int) (h11 : List Int) (h12 : List D_api_Table) (h13 : List D_api_Adapt) (h14 : List (List Int)) (h15 : List (List Int)) (h16 : List (List Int)) (h17 : List Int) : Option (D_api_Predictor × List Int × Int) := predict_Run_I.sem ⟨[.code (cIn (cIn (cSnd (cFst (cSnd (cSnd (cSnd (cSnd (cSnd (bodyOf Tryz.prog 102)))))))))), .inLoop (cIn (cIn (cSnd (cFst (cSnd (cSnd (cSnd (cSnd (cSnd (bodyOf Tryz.prog 102)))))))))), .inBlock 0, .code (cSnd (cSnd (cSnd (cSnd (cSnd (cSnd (bodyOf Tryz.prog 102)))))))], ⟨[(2, (.one (.ptr T_api_Predictor 8 []))), (4, (.one (.ptr T_api_Predictor 9 []))), (8, (.one (.ref (.int .i64) 10 0 (List.length h10) true))), (26, (.one (.sl .bool false v26))), (27, (.one (.int .i64 v27))), (28, (.one (.int .i64 v28)))], [(8, some (.box T_api_Predictor (inj false T_api_Predictor b8))), (9, some (.box T_api_Predictor (b9a, ((b9baa, ((SV.ref 11 0 (List.length h11) true), (inj false T_api_Walk b9babb))), ((SV.ref 12 0 (List.length h12) true), ((SV.ref 13 0 (List.length h13) true), (((SV.ref 14 0 (List.length h14) true), b9bbbbab), ((((SV.ref 15 0 (List.length h15) true), b9bbbbbaab), (((SV.ref 16 0 (List.length h16) true), b9bbbbbabab), b9bbbbbabb)), ((b9bbbbbbaa, ((SV.ref 17 0 (List.length h17) true), b9bbbbbbabb)), (inj false (.pair T_api_Settings (.pair T_api_Walk (.pair (.arr 6 (.int .u32)) (.pair (.arr 6 (.int .i64)) .unit)))) b9bbbbbbb)))))))))), (10, some (.row (.int .i64) true h10)), (11, some (.row (.int .u8) true h11)), (12, some (.row T_api_Table true h12)), (13, some (.row T_api_Adapt true h13)), (14, some (.row (.slice (.int .i32)) true h14)), (15, some (.row (.slice (.int .i32)) true h15)), (16, some (.row (.slice (.int .i32)) true h16)), (17, some (.row (.int .i64) true h17))], 18⟩⟩
theorem predict_Run_eq (a0 : D_api_Predictor) (a1 : List Bool) : predict_Run a0 a1 = (
(predict_Check a0).bind fun r1 =>
if (r1 != (0 : Int)) = true then
some (((0 : Int), (((0 : Int), ([], ((0 : Int), ()))), ([], ([], (([], ()), ((([], ()), (([], ()), ())), (((0 : Int), ([], ())), (((0 : Int), ((0 : Int), ())), (((0 : Int), ()), ((List.replicate 6 (0 : Int)), ((List.replicate 6 (0 : Int)), ()))))))))))), ([], r1))
else
if (decide ((Int.ofNat (List.length a1)) > (2000 : Int))) = true then
some (((0 : Int), (((0 : Int), ([], ((0 : Int), ()))), ([], ([], (([], ()), ((([], ()), (([], ()), ())), (((0 : Int), ([], ())), (((0 : Int), ((0 : Int), ())), (((0 : Int), ()), ((List.replicate 6 (0 : Int)), ((List.replicate 6 (0 : Int)), ()))))))))))), ([], (4 : Int)))
else
(predict_twin a0).bind fun r2 =>
predict_Run_c1 a1 (Int.ofNat (List.length a1)) (0 : Int) r2 (0 : Int) (0 : Int) ((0 : Int), ()) () () () () (0 : Int) () (((0 : Int), ((0 : Int), ())), (((0 : Int), ()), ((List.replicate 6 (0 : Int)), ((List.replicate 6 (0 : Int)), ())))) [] [] [] [] [] [] [] []) := (FnI.call_eq (by kernel_rfl)).trans (by kernel_rfl)
theorem predict_Run_c1_eq (v26 : List Bool) (v27 : Int) (v28 : Int) (b8 : D_api_Predictor) (b9a : Int) (b9baa : Int) (b9babb : D_api_Walk) (b9bbbbab : Unit) (b9bbbbbaab : Unit) (b9bbbbbabab : Unit) (b9bbbbbabb : Unit) (b9bbbbbbaa : Int) (b9bbbbbbabb : Unit) (b9bbbbbbb : (D_api_Settings × (D_api_Walk × ((List Int) × ((List Int) × Unit))))) (h10 : List Int) (h11 : List Int) (h12 : List D_api_Table) (h13 : List D_api_Adapt) (h14 : List (List Int)) (h15 : List (List Int)) (h16 : List (List Int)) (h17 : List Int) : predict_Run_c1 v26 v27 v28 b8 b9a b9baa b9babb b9bbbbab b9bbbbbaab b9bbbbbabab b9bbbbbabb b9bbbbbbaa b9bbbbbbabb b9bbbbbbb h10 h11 h12 h13 h14 h15 h16 h17 = (
if (decide (v28 < v27)) = true then
gd (0 ≤ v28) <|
gd (v28 < (Int.ofNat (List.length v26))) <|
(predict_see b8).bind fun r3 =>
(predict_update b8 r3 (List.getD v26 (Int.toNat v28) false)).bind fun r4 =>
if (r4.2 != (0 : Int)) = true then
some (((0 : Int), (((0 : Int), ([], ((0 : Int), ()))), ([], ([], (([], ()), ((([], ()), (([], ()), ())), (((0 : Int), ([], ())), (((0 : Int), ((0 : Int), ())), (((0 : Int), ()), ((List.replicate 6 (0 : Int)), ((List.replicate 6 (0 : Int)), ()))))))))))), ([], r4.2))
else
gd ((List.length (h10 ++ [(IntKind.wrap .i64 r3.2.2.2.2.1)])) * 8 ≤ 140737488355328) <|
predict_Run_c1 v26 v27 (IntKind.wrap .i64 (v28 + (1 : Int))) r4.1 b9a b9baa b9babb b9bbbbab b9bbbbbaab b9bbbbbabab b9bbbbbabb b9bbbbbbaa b9bbbbbbabb b9bbbbbbb (h10 ++ [(IntKind.wrap .i64 r3.2.2.2.2.1)]) h11 h12 h13 h14 h15 h16 h17
else
some (b8, (h10, (0 : Int)))) := (FnI.sem_eq _).trans (by kernel_rfl)
noncomputable def predict_Run_S (acc : List AV → Bool) : Summ Tryz.prog GT := predict_Run_I.summ mixed acc false false
noncomputable def predict_Update_I : FnI Tryz.prog GT := { f := 75, cuts := [], tab := [(predict_Run_S (fun _ => true)).dropping], fm := ⟨false, [.val T_api_Predictor [], .val (.int .i64) []]⟩ }
noncomputable def predict_Update (a0 : D_api_Predictor) (a1 : Bool) : Option (D_api_Predictor × Int) := predict_Update_I.call [(.agg T_api_Predictor (inj false T_api_Predictor a0)), (.bool a1)] []
theorem predict_Update_eq (a0 : D_api_Predictor) (a1 : Bool) : predict_Update a0 a1 = (
(predict_Run a0 [a1]).bind fun r1 =>
some (r1.1, r1.2.2)) := (FnI.call_eq (by kernel_rfl)).trans (by kernel_rfl)
noncomputable def predict_Update_S (acc : List AV → Bool) : Summ Tryz.prog GT := predict_Update_I.summ mixed acc false false
noncomputable def codec_Decode_I : FnI Tryz.prog GT := { f := 45, cuts := [⟨(8, 3), [2, 8, 10, 11], false, false, []⟩, ⟨(11, 7), [2, 8, 10, 11, 12, 45], false, false, []⟩], tab := [(codec_start_S (fun _ => true)).dropping, (decoder_New_S (fun _ => true)).dropping, predict_P_S (fun _ => true), (decoder_Get_S (fun _ => true)).dropping, (predict_Update_S (fun _ => true)).dropping], fm := ⟨true, [.val (.slice (.int .u8)) [.nw], .val (.int .i64) []]⟩ }
noncomputable def codec_Decode (a0 : Int) (a1 : List Int) (a2 : Int) : Option (List Int × Int) := codec_Decode_I.call [(.int .i64 a0), (.sl (.int .u8) false a1), (.int .i64 a2)] []
noncomputable def codec_Decode_c1 (v2 : Int) (b8 : D_api_Predictor) (b9 : D_api_Decoder) (h10 : List Int) : Option (List Int × Int) := codec_Decode_I.sem ⟨[.code (cIn (cIn (cFst (cSnd (cSnd (cSnd (cSnd (cSnd (cSnd (bodyOf Tryz.prog 45)))))))))), .inLoop (cIn (cIn (cFst (cSnd (cSnd (cSnd (cSnd (cSnd (cSnd (bodyOf Tryz.prog 45)))))))))), .inBlock 0, .code (cSnd (cSnd (cSnd (cSnd (cSnd (cSnd (cSnd (bodyOf Tryz.prog 45))))))))], ⟨[(2, (.one (.int .i64 v2))), (8, (.one (.ptr T_api_Predictor 8 []))), (10, (.one (.ptr T_api_Decoder 9 []))), (11, (.one (.ref (.int .u8) 10 0 (List.length h10) true)))], [(8, some (.box T_api_Predictor (inj false T_api_Predictor b8))), (9, some (.box T_api_Decoder (inj false T_api_Decoder b9))), (10, some (.row (.int .u8) true h10))], 11⟩⟩
noncomputable def codec_Decode_c2 (v2 : Int) (v12 : Int) (v45 : Int) (b8 : D_api_Predictor) (b9 : D_api_Decoder) (h10 : List Int) : Option (List Int × Int) := codec_Decode_I.sem ⟨[.code (cIn (cIn (cSnd (cFst (cSnd (cIn (cSnd (cIn (cIn (cFst (cSnd (cSnd (cSnd (cSnd (cSnd (cSnd (bodyOf Tryz.prog 45))))))))))))))))), .inLoop (cIn (cIn (cSnd (cFst (cSnd (cIn (cSnd (cIn (cIn (cFst (cSnd (cSnd (cSnd (cSnd (cSnd (cSnd (bodyOf Tryz.prog 45))))))))))))))))), .inBlock 2, .code (cSnd (cSnd (cIn (cSnd (cIn (cIn (cFst (cSnd (cSnd (cSnd (cSnd (cSnd (cSnd (bodyOf Tryz.prog 45)))))))))))))), .inBlock 1, .inLoop (cIn (cIn (cFst (cSnd (cSnd (cSnd (cSnd (cSnd (cSnd (bodyOf Tryz.prog 45)))))))))), .inBlock 0, .code (cSnd (cSnd (cSnd (cSnd (cSnd (cSnd (cSnd (bodyOf Tryz.prog 45))))))))], ⟨[(2, (.one (.int .i64 v2))), (8, (.one (.ptr T_api_Predictor 8 []))), (10, (.one (.ptr T_api_Decoder 9 []))), (11, (.one (.ref (.int .u8) 10 0 (List.length h10) true))), (12, (.one (.int .u8 v12))), (45, (.one (.int .i64 v45)))], [(8, some (.box T_api_Predictor (inj false T_api_Predictor b8))), (9, some (.box T_api_Decoder (inj false T_api_Decoder b9))), (10, some (.row (.int .u8) true h10))], 11⟩⟩
theorem codec_Decode_eq (a0 : Int) (a1 : List Int) (a2 : Int) : codec_Decode a0 a1 a2 = (
(codec_start a0 (0 : Int)).bind fun r1 =>
if (r1.2 != (0 : Int)) = true then
some ([], (2 : Int))
else
if (decide (a2 < (0 : Int))) = true then
some ([], (2 : Int))
else
if (decide (a2 > (4096 : Int))) = true then
some ([], (2 : Int))
else
(decoder_New a1).bind fun r2 =>
if (r2.2 != (0 : Int)) = true then
some ([], r2.2)
else
codec_Decode_c1 a2 r1.1 r2.1 []) := (FnI.call_eq (by kernel_rfl)).trans (by kernel_rfl)
theorem codec_Decode_c1_eq (v2 : Int) (b8 : D_api_Predictor) (b9 : D_api_Decoder) (h10 : List Int) : codec_Decode_c1 v2 b8 b9 h10 = (
if (decide ((Int.ofNat (List.length h10)) < v2)) = true then
codec_Decode_c2 v2 (0 : Int) (0 : Int) b8 b9 h10
else
some (h10, (0 : Int))) := (FnI.sem_eq _).trans (by kernel_rfl)
theorem codec_Decode_c2_eq (v2 : Int) (v12 : Int) (v45 : Int) (b8 : D_api_Predictor) (b9 : D_api_Decoder) (h10 : List Int) : codec_Decode_c2 v2 v12 v45 b8 b9 h10 = (
if (decide (v45 < (8 : Int))) = true then
(predict_P b8).bind fun r3 =>
(decoder_Get b9 r3.1).bind fun r4 =>
(predict_Update b8 r4.2.1).bind fun r5 =>
if r4.2.1 = true then
codec_Decode_c2 v2 (IntKind.wrap .u8 ((IntKind.wrap .u8 (v12 * (2 : Int))) + (1 : Int))) (IntKind.wrap .i64 (v45 + (1 : Int))) r5.1 r4.1 h10
else
codec_Decode_c2 v2 (IntKind.wrap .u8 (v12 * (2 : Int))) (IntKind.wrap .i64 (v45 + (1 : Int))) r5.1 r4.1 h10
else
gd ((List.length (h10 ++ [v12])) * 1 ≤ 140737488355328) <|
codec_Decode_c1 v2 b8 b9 (h10 ++ [v12])) := (FnI.sem_eq _).trans (by kernel_rfl)
noncomputable def codec_Decode_S (acc : List AV → Bool) : Summ Tryz.prog GT := codec_Decode_I.summ mixed acc false false
noncomputable def encoder_New_I : FnI Tryz.prog GT := { f := 76, cuts := [], tab := [], fm := ⟨true, [.val T_api_Encoder []]⟩ }
noncomputable def encoder_New : Option (D_api_Encoder) := encoder_New_I.call [] []
theorem encoder_New_eq : encoder_New = (
some ((0 : Int), ((4294967295 : Int), ([], ())))) := (FnI.call_eq (by kernel_rfl)).trans (by kernel_rfl)
noncomputable def encoder_New_S (acc : List AV → Bool) : Summ Tryz.prog GT := encoder_New_I.summ mixed acc false false
noncomputable def codec_bits_I : FnI Tryz.prog GT := { f := 104, cuts := [], tab := [], fm := ⟨false, [.clo 140 (.slice (.int .u8))]⟩ }
noncomputable def codec_bits (a0 : List Int) : Option ((List Int)) := codec_bits_I.call [(.sl (.int .u8) false a0)] []
theorem codec_bits_eq (a0 : List Int) : codec_bits a0 = (
some (a0)) := (FnI.call_eq (by kernel_rfl)).trans (by kernel_rfl)
noncomputable def codec_bits_S (acc : List AV → Bool) : Summ Tryz.prog GT := codec_bits_I.summ mixed acc false false
noncomputable def encoder_Check_I : FnI Tryz.prog GT := { f := 105, cuts := [], tab := [], fm := ⟨true, [.val (.int .i64) []]⟩ }
noncomputable def encoder_Check (a0 : D_api_Encoder) : Option (Int) := encoder_Check_I.call [(.agg T_api_Encoder (inj false T_api_Encoder a0))] []
theorem encoder_Check_eq (a0 : D_api_Encoder) : encoder_Check a0 = (
if (decide (a0.1 ≥ a0.2.1)) = true then
some (8 : Int)
else
gd (0 ≤ (24 : Int)) <|
gd (0 ≤ (24 : Int)) <|
if ((Int.fdiv a0.1 (16777216 : Int)) == (Int.fdiv a0.2.1 (16777216 : Int))) = true then
some (8 : Int)
else
if (decide ((Int.ofNat (List.length a0.2.2.1)) > (20000 : Int))) = true then
some (8 : Int)
else
some (0 : Int)) := (FnI.call_eq (by kernel_rfl)).trans (by kernel_rfl)
noncomputable def encoder_Check_S (acc : List AV → Bool) : Summ Tryz.prog GT := encoder_Check_I.summ mixed acc false false
noncomputable def encoder_put_v2_I : FnI Tryz.prog GT := { f := 107, cuts := [⟨(4, 1), [0], false, false, []⟩], tab := [encoder_split_S (fun _ => true)], fm := ⟨true, [.box 0 T_api_Encoder [.pu]]⟩ }
noncomputable def encoder_put_v2 (a1 : Int) (a2 : Bool) (b0a : Int) (b0ba : Int) (b0bbb : Unit) (h1 : List Int) : Option (D_api_Encoder) := encoder_put_v2_I.call [(.ptr T_api_Encoder 0 []), (.int .i64 a1), (.bool a2)] [(0, (.box T_api_Encoder (b0a, (b0ba, ((SV.ref 1 0 (List.length h1) true), b0bbb))))), (1, (.row (.int .u8) false h1))]
noncomputable def encoder_put_v2_c1 (b0a : Int) (b0ba : Int) (b0bbb : Unit) (h8 : List Int) : Option (D_api_Encoder) := encoder_put_v2_I.sem ⟨[.code (cLab (cIn (bodyOf Tryz.prog 107)) 0), .inScope (cIn (bodyOf Tryz.prog 107))], ⟨[(0, (.one (.ptr T_api_Encoder 0 [])))], [(0, some (.box T_api_Encoder (b0a, (b0ba, ((SV.ref 8 0 (List.length h8) true), b0bbb))))), (8, some (.row (.int .u8) false h8))], 10⟩⟩
theorem encoder_put_v2_eq (a1 : Int) (a2 : Bool) (b0a : Int) (b0ba : Int) (b0bbb : Unit) (h1 : List Int) : encoder_put_v2 a1 a2 b0a b0ba b0bbb h1 = (
(encoder_split b0a b0ba a1).bind fun r1 =>
if a2 = true then
gd (0 ≤ (24 : Int)) <|
gd (0 ≤ (24 : Int)) <|
if ((Int.fdiv b0a (16777216 : Int)) == (Int.fdiv r1 (16777216 : Int))) = true then
gd (0 ≤ (24 : Int)) <|
gd ((List.length (h1 ++ [(IntKind.wrap .u8 (Int.fdiv r1 (16777216 : Int)))])) * 1 ≤ 140737488355328) <|
gd (0 ≤ (8 : Int)) <|
gd (0 ≤ (8 : Int)) <|
encoder_put_v2_c1 (IntKind.wrap .u32 (b0a * (256 : Int))) (bitsOr .u32 (IntKind.wrap .u32 (r1 * (256 : Int))) (255 : Int)) b0bbb (h1 ++ [(IntKind.wrap .u8 (Int.fdiv r1 (16777216 : Int)))])
else
some (b0a, (r1, (h1, b0bbb)))
else
gd (0 ≤ (24 : Int)) <|
gd (0 ≤ (24 : Int)) <|
if ((Int.fdiv (IntKind.wrap .u32 (r1 + (1 : Int))) (16777216 : Int)) == (Int.fdiv b0ba (16777216 : Int))) = true then
gd (0 ≤ (24 : Int)) <|
gd ((List.length (h1 ++ [(IntKind.wrap .u8 (Int.fdiv b0ba (16777216 : Int)))])) * 1 ≤ 140737488355328) <|
gd (0 ≤ (8 : Int)) <|
gd (0 ≤ (8 : Int)) <|
encoder_put_v2_c1 (IntKind.wrap .u32 ((IntKind.wrap .u32 (r1 + (1 : Int))) * (256 : Int))) (bitsOr .u32 (IntKind.wrap .u32 (b0ba * (256 : Int))) (255 : Int)) b0bbb (h1 ++ [(IntKind.wrap .u8 (Int.fdiv b0ba (16777216 : Int)))])
else
some ((IntKind.wrap .u32 (r1 + (1 : Int))), (b0ba, (h1, b0bbb)))) := (FnI.call_eq (by kernel_rfl)).trans (by kernel_rfl)
theorem encoder_put_v2_c1_eq (b0a : Int) (b0ba : Int) (b0bbb : Unit) (h8 : List Int) : encoder_put_v2_c1 b0a b0ba b0bbb h8 = (
gd (0 ≤ (24 : Int)) <|
gd (0 ≤ (24 : Int)) <|
if ((Int.fdiv b0a (16777216 : Int)) == (Int.fdiv b0ba (16777216 : Int))) = true then
gd (0 ≤ (24 : Int)) <|
gd ((List.length (h8 ++ [(IntKind.wrap .u8 (Int.fdiv b0ba (16777216 : Int)))])) * 1 ≤ 140737488355328) <|
gd (0 ≤ (8 : Int)) <|
gd (0 ≤ (8 : Int)) <|
encoder_put_v2_c1 (IntKind.wrap .u32 (b0a * (256 : Int))) (bitsOr .u32 (IntKind.wrap .u32 (b0ba * (256 : Int))) (255 : Int)) b0bbb (h8 ++ [(IntKind.wrap .u8 (Int.fdiv b0ba (16777216 : Int)))])
else
some (b0a, (b0ba, (h8, b0bbb)))) := (FnI.sem_eq _).trans (by kernel_rfl)
noncomputable def encoder_put_v2_S (acc : List AV → Bool) : Summ Tryz.prog GT := encoder_put_v2_I.summ mixed acc true false
noncomputable def encoder_Put_I : FnI Tryz.prog GT := { f := 79, cuts := [], tab := [encoder_Check_S (fun _ => true), encoder_prob_S (fun _ => true), slices_Clone_byte_byte_S (fun _ => true), encoder_put_v2_S (fun _ => true)], fm := ⟨true, [.val T_api_Encoder [], .val (.int .i64) []]⟩ }
noncomputable def encoder_Put (a0 : D_api_Encoder) (a1 : Int) (a2 : Bool) : Option (D_api_Encoder × Int) := encoder_Put_I.call [(.agg T_api_Encoder (inj false T_api_Encoder a0)), (.int .i64 a1), (.bool a2)] []
theorem encoder_Put_eq (a0 : D_api_Encoder) (a1 : Int) (a2 : Bool) : encoder_Put a0 a1 a2 = (
(encoder_Check a0).bind fun r1 =>
if (r1 != (0 : Int)) = true then
some (((0 : Int), ((0 : Int), ([], ()))), r1)
else
(encoder_prob a1).bind fun r2 =>
if (not r2) = true then
some (((0 : Int), ((0 : Int), ([], ()))), (2 : Int))
else
(slices_Clone_byte_byte a0.2.2.1).bind fun r3 =>
(encoder_put_v2 a1 a2 a0.1 a0.2.1 a0.2.2.2 r3).bind fun r4 =>
if (decide ((Int.ofNat (List.length r4.2.2.1)) > (20000 : Int))) = true then
some (((0 : Int), ((0 : Int), ([], ()))), (4 : Int))
else
some (r4, (0 : Int))) := (FnI.call_eq (by kernel_rfl)).trans (by kernel_rfl)
noncomputable def encoder_Put_S (acc : List AV → Bool) : Summ Tryz.prog GT := encoder_Put_I.summ mixed acc false false
noncomputable def codec_Encode_1_I : FnI Tryz.prog GT := { f := 78, cuts := [], tab := [encoder_Put_S (fun _ => true)], fm := ⟨false, [.box 0 (.int .i64) [], .box 1 T_api_Encoder [.pu]]⟩ }
noncomputable def codec_Encode_1 (a0 : Int) (a1 : Bool) (b0 : Int) (b1 : D_api_Encoder) : Option (Int × D_api_Encoder) := codec_Encode_1_I.call [(.int .i64 a0), (.bool a1), (.ptr (.int .i64) 0 []), (.ptr T_api_Encoder 1 [])] [(0, (.box (.int .i64) b0)), (1, (.box T_api_Encoder (inj false T_api_Encoder b1)))]
theorem codec_Encode_1_eq (a0 : Int) (a1 : Bool) (b0 : Int) (b1 : D_api_Encoder) : codec_Encode_1 a0 a1 b0 b1 = (
if (b0 == (0 : Int)) = true then
(encoder_Put b1 a0 a1).bind fun r1 =>
some (r1.2, r1.1)
else
some (b0, b1)) := (FnI.call_eq (by kernel_rfl)).trans (by kernel_rfl)
noncomputable def codec_Encode_1_S (acc : List AV → Bool) : Summ Tryz.prog GT := codec_Encode_1_I.summ mixed acc false false
noncomputable def codec_each_1_I : FnI Tryz.prog GT := { f := 103, cuts := [⟨(2, 3), [0, 1, 2, 3, 4, 15, 16, 17], false, true, []⟩], tab := [(predict_Run_S (fun _ => true)).dropping, (codec_Encode_1_S (fun _ => true)).dropping], fm := ⟨false, [.box 0 T_api_Predictor [.pu, .pu, .pu, .pu, .pu, .pu, .pu], .box 1 (.slice .bool) [.nw], .cfn 2 78 [3, 4], .box 3 (.int .i64) [], .box 4 T_api_Encoder [.pu]]⟩ }
noncomputable def codec_each_1 (b0 : D_api_Predictor) (b1 : (List Bool)) (b3 : Int) (b4 : D_api_Encoder) : Option (D_api_Predictor × (List Bool) × Unit × Int × D_api_Encoder) := codec_each_1_I.call [(.ptr T_api_Predictor 0 []), (.ptr (.slice .bool) 1 []), (.cptr 2)] [(0, (.box T_api_Predictor (inj false T_api_Predictor b0))), (1, (.box (.slice .bool) (SV.pure false b1))), (2, (.cell (.func 78 [3, 4]))), (3, (.box (.int .i64) b3)), (4, (.box T_api_Encoder (inj false T_api_Encoder b4)))]
noncomputable def codec_each_1_c1 (v15 : List Bool) (v16 : Int) (v17 : Int) (b0 : D_api_Predictor) (b1 : (List Bool)) (b3 : Int) (b4 : D_api_Encoder) (b8 : D_api_Predictor) (h9 : List Int) : Option (D_api_Predictor × (List Bool) × Unit × Int × D_api_Encoder) := codec_each_1_I.sem ⟨[.code (cIn (cIn (cSnd (cFst (cSnd (bodyOf Tryz.prog 103)))))), .inLoop (cIn (cIn (cSnd (cFst (cSnd (bodyOf Tryz.prog 103)))))), .inBlock 0, .code (cSnd (cSnd (bodyOf Tryz.prog 103)))], ⟨[(0, (.one (.ptr T_api_Predictor 0 []))), (1, (.one (.ptr (.slice .bool) 1 []))), (2, (.one (.cptr 2))), (3, (.one (.ptr T_api_Predictor 8 []))), (4, (.one (.ref (.int .i64) 9 0 (List.length h9) true))), (15, (.one (.sl .bool false v15))), (16, (.one (.int .i64 v16))), (17, (.one (.int .i64 v17)))], [(0, some (.box T_api_Predictor (inj false T_api_Predictor b0))), (1, some (.box (.slice .bool) (SV.pure false b1))), (2, some (.cell (.func 78 [3, 4]))), (3, some (.box (.int .i64) b3)), (4, some (.box T_api_Encoder (inj false T_api_Encoder b4))), (8, some (.box T_api_Predictor (inj false T_api_Predictor b8))), (9, some (.row (.int .i64) false h9))], 15⟩⟩
theorem codec_each_1_eq (b0 : D_api_Predictor) (b1 : (List Bool)) (b3 : Int) (b4 : D_api_Encoder) : codec_each_1 b0 b1 b3 b4 = (
(predict_Run b0 b1).bind fun r1 =>
codec_each_1_c1 b1 (Int.ofNat (List.length b1)) (0 : Int) b0 b1 b3 b4 r1.1 r1.2.1) := (FnI.call_eq (by kernel_rfl)).trans (by kernel_rfl)
theorem codec_each_1_c1_eq (v15 : List Bool) (v16 : Int) (v17 : Int) (b0 : D_api_Predictor) (b1 : (List Bool)) (b3 : Int) (b4 : D_api_Encoder) (b8 : D_api_Predictor) (h9 : List Int) : codec_each_1_c1 v15 v16 v17 b0 b1 b3 b4 b8 h9 = (
if (decide (v17 < v16)) = true then
gd (0 ≤ v17) <|
gd (v17 < (Int.ofNat (List.length v15))) <|
gd (0 ≤ v17) <|
gd (v17 < (Int.ofNat (List.length h9))) <|
(codec_Encode_1 (List.getD h9 (0 + (Int.toNat v17)) (0 : Int)) (List.getD v15 (Int.toNat v17) false) b3 b4).bind fun r2 =>
codec_each_1_c1 v15 v16 (IntKind.wrap .i64 (v17 + (1 : Int))) b0 b1 r2.1 r2.2 b8 h9
else
some (b8, ([], ((), (b3, b4))))) := (FnI.sem_eq _).trans (by kernel_rfl)
noncomputable def codec_each_1_S (acc : List AV → Bool) : Summ Tryz.prog GT := codec_each_1_I.summ mixed acc false false
end Go.Ab

/-
  codec.each: walked by hand, the rounds by the abstract machine.
-/
set_option linter.unusedVariables false
namespace Go.Ab
open Go Go.Proofs Go.RowKit Go.Shelf
attribute [local go_sem] Oper.semAt_some
def KpM (M : Nat → Prop) (W W' : World) : Prop := ∀ p v, M p.block → W.cell? p = some v → W'.cell? p = some v
theorem KpM.refl (M : Nat → Prop) (W : World) : KpM M W W := fun _ _ _ h => h
theorem KpM.trans {M : Nat → Prop} {A B C : World} (h : KpM M A B) (k : KpM M B C) : KpM M A C := fun p v hm hv => k p v hm (h p v hm hv)
def bitB (z : Int) (j : Nat) : Bool := bits BinOp.and IntKind.u8 (z / 2 ^ (7 - j)) 1 == 1
def bitsB (z : Int) : List Bool := (List.range 8).map (bitB z)
def bitsL (zs : List Int) : List Bool := zs.flatMap bitsB
theorem bitsB_len (z : Int) : (bitsB z).length = 8 := by simp [bitsB]
theorem bitsL_len : ∀ (zs : List Int), (bitsL zs).length = 8 * zs.length
  | [] => rfl
  | z :: r => by
    have := bitsL_len r
    simp only [bitsL, List.flatMap_cons, List.length_append, bitsB_len, List.length_cons] at this ⊢
    omega
theorem bitsB_take (z : Int) {j : Nat} (h : j < 8) : (bitsB z).take (j + 1) = (bitsB z).take j ++ [bitB z j] := by
  rw [List.take_succ_eq_append_getElem (by rw [bitsB_len]; exact h)]
  simp [bitsB]
theorem bitsL_take (zs : List Int) {k : Nat} (h : k < zs.length) : bitsL (zs.take (k + 1)) = bitsL (zs.take k) ++ bitsB (zs[k]'h) := by
  unfold bitsL
  rw [List.take_succ_eq_append_getElem h, List.flatMap_append]
  simp only [List.flatMap_cons, List.flatMap_nil, List.append_nil]
set_option maxRecDepth 100000 in
set_option maxHeartbeats 4000000 in
theorem bits1_in (n : Nat) (hn : 1 ≤ n) (l Bs Bo b off len cap : Nat) (zs : List Int) (hreach : len * 8 ≤ 140737488351232) (M : Nat → Prop) (hM1 : M Bs) (hM2 : M b) (hl : zs.length = len) (J Jx : List Bool → World → Prop)
    (hY : ∀ pre x W, J pre W → pre.length < 8 * len → YieldAt Fence.wide (n - 1) Tryz.prog l #[.bool x] W fun e W' =>
      (e = .returned (.bool true) ∧ J (pre ++ [x]) W' ∧ KpM M W W') ∨ (e = .returned (.bool false) ∧ Jx (pre ++ [x]) W'))
    (W : World) (hBs : W.cell? ⟨Bs, Bo, none⟩ = some (.slice (some ⟨b, off, none⟩) len cap)) (hc : ∀ j, j < len → W.cell? ⟨b, off + j, none⟩ = some (.int .u8 (zs[j]?.getD 0))) (h0 : J [] W) :
    CallsIn Fence.wide n Tryz.prog 140 #[.func (.yield l) #[] #[], .pointer (some ⟨Bs, Bo, none⟩)] W fun e W' => (∃ v, e = .returned v) ∧ (J (bitsL zs) W' ∨ ∃ pre, Jx pre W') := by
  refine callsIn_of_wp Tryz.func140 rfl trivial ?_ rfl
  simp only [Tryz.ntmps140, List.size_toArray, List.length_cons, List.length_nil, Nat.reduceAdd, Nat.reduceSub, Array.replicate_succ, Array.replicate_zero, List.push_toArray, List.append_toArray, List.nil_append, List.cons_append]
  gi_wp2
  gi_loopw [8, 4, 5] (fun i c4 c5 wr => ∃ k : Nat, k ≤ len ∧ i = .int .i64 k ∧ J (bitsL (zs.take k)) wr ∧ KpM M W wr)
    (fun i _ _ _ => len - (intOf i).toNat)
  case atStart => exact ⟨0, Nat.zero_le _, rfl, h0, KpM.refl _ _⟩
  case round =>
    obtain ⟨k, hk, rfl, hJs, hnx⟩ := hrel
    by_cases hlt : k < len
    · have hk' : k < zs.length := by omega
      have hcx : wr.cell? ⟨b, off + k, none⟩ = some (.int .u8 (zs[k]?.getD 0)) := hnx _ _ hM2 (hc k hlt)
      rw [List.getElem?_eq_getElem hk'] at hcx
      simp only [Option.getD_some] at hcx
      have htake := bitsL_take zs hk'
      generalize zs[k] = z at hcx htake
      gi_wp2
      gi_loopw [5] (fun c5 wr2 => ∃ j : Nat, j ≤ 8 ∧ c5 = .int .i64 (7 - (j : Int)) ∧ J (bitsL (zs.take k) ++ (bitsB z).take j) wr2 ∧ KpM M W wr2) (fun c5 _ => (intOf c5 + 1).toNat)
      case atStart => exact ⟨0, by omega, rfl, by simpa using hJs, hnx⟩
      case round =>
        obtain ⟨j, hj, rfl, hJq, hnx2⟩ := hrel
        by_cases hj8 : j < 8
        · have hj0 : (0 : Int) ≤ 7 - (j : Int) := by omega
          obtain ⟨fn, tmps, assign, body, hy, hR⟩ := hY _ (bitB z j) wr hJq (by rw [List.length_append, bitsL_len, List.length_take, List.length_take, bitsB_len]; omega)
          unfold bitB at hy
          gi_wp2
          refine hR.mono ?_
          rintro e W3 (⟨rfl, hJ3, hk3⟩ | ⟨rfl, hJx3⟩)
          · gi_wp2
            go_roundw
            case rel =>
              refine ⟨j + 1, by omega, ?_, ?_, hnx2.trans hk3⟩
              · simp; omega
              · rw [bitsB_take z hj8, ← List.append_assoc]; exact hJ3
            case measure => simp [intOf]; omega
          · gi_wp2
            refine bodyPost_ret (results_none rfl _ _ _) rfl ?_
            exact ⟨⟨_, rfl⟩, .inr ⟨_, hJx3⟩⟩
        · obtain rfl : j = 8 := by omega
          gi_wp2
          go_roundw
          case rel =>
            refine ⟨k + 1, by omega, by simp, ?_, hnx2⟩
            rw [htake]
            have : (bitsB z).take 8 = bitsB z := List.take_of_length_le (by rw [bitsB_len]; omega)
            rw [← this]; exact hJq
          case measure => simp [intOf]; omega
    · obtain rfl : k = len := by omega
      gi_wp2
      go_end0
      refine ⟨⟨_, rfl⟩, .inl ?_⟩
      rwa [List.take_of_length_le (by omega)] at hJs
set_option maxRecDepth 100000 in
set_option maxHeartbeats 4000000 in
theorem bits1_nil (n : Nat) (l Bs Bo cap : Nat) (A0 : Option Addr) (J : List Bool → World → Prop)
    (W : World) (hBs : W.cell? ⟨Bs, Bo, none⟩ = some (.slice A0 0 cap)) (h0 : J [] W) :
    CallsIn Fence.wide n Tryz.prog 140 #[.func (.yield l) #[] #[], .pointer (some ⟨Bs, Bo, none⟩)] W fun e W' => (∃ v, e = .returned v) ∧ J [] W' := by
  refine callsIn_of_wp Tryz.func140 rfl trivial ?_ rfl
  simp only [Tryz.ntmps140, List.size_toArray, List.length_cons, List.length_nil, Nat.reduceAdd, Nat.reduceSub, Array.replicate_succ, Array.replicate_zero, List.push_toArray, List.append_toArray, List.nil_append, List.cons_append]
  gi_wp2
  gi_loopw [8] (fun i wr => i = .int .i64 0 ∧ J [] wr) (fun _ _ => 0)
  case atStart => exact ⟨rfl, h0⟩
  case round =>
    obtain ⟨rfl, hJs⟩ := hrel
    gi_wp2
    go_end0
    exact ⟨⟨_, rfl⟩, hJs⟩
def HoldsB (w : World) (b : Nat) (A0 : Option Addr) (zs : List Int) : Prop := zs = [] ∨ ∃ o, A0 = some ⟨b, o, none⟩ ∧ ∀ j, j < zs.length → w.cell? ⟨b, o + j, none⟩ = some (.int .u8 (zs[j]?.getD 0))
theorem bits_stops (n : Nat) (hn : 1 ≤ n) (Bs Bo b cap : Nat) (A0 : Option Addr) (zs : List Int) (hreach : zs.length * 8 ≤ 140737488351232) (M : Nat → Prop) (hM1 : M Bs) (hM2 : M b) (w : World) (h1 : Bs < w.heap.size) (h2 : b < w.heap.size)
    (hBs : w.cell? ⟨Bs, Bo, none⟩ = some (.slice A0 zs.length cap)) (hc : HoldsB w b A0 zs) :
    SeqStopsK Fence.wide n Tryz.prog 140 #[.pointer (some ⟨Bs, Bo, none⟩)] (fun x : Bool => #[.bool x]) (KpM M) (fun xs => xs = bitsL zs) (fun _ => True) (8 * zs.length) w := fun l J Jx W hW _ _ hY h0 => by
  have hBs' := (hW.cell (p := ⟨Bs, Bo, none⟩) h1).trans hBs
  rcases hc with rfl | ⟨o, rfl, hc⟩
  · refine (bits1_nil n l Bs Bo cap A0 J W hBs' h0).mono ?_
    rintro e W' ⟨he, hj⟩
    exact ⟨he, .inl ⟨_, rfl, hj⟩⟩
  · refine (bits1_in n hn l Bs Bo b o zs.length cap zs hreach M hM1 hM2 rfl J Jx hY W hBs' (fun j hj => (hW.cell (p := ⟨b, o + j, none⟩) h2).trans (hc j hj)) h0).mono ?_
    rintro e W' ⟨he, hj | ⟨pre, hj⟩⟩
    · exact ⟨he, .inl ⟨_, rfl, hj⟩⟩
    · exact ⟨he, .inr ⟨pre, trivial, hj⟩⟩
section each
@[reducible] def each_st (x : D_api_Predictor) (l : List Bool) (e : Int) (c : D_api_Encoder) : St :=
  ⟨[(6, .one (.ptr (.slice .bool) 8 [])), (7, .one (.cptr 9))], [(0, some (.box (.int .i64) e)), (1, some (.box T_api_Encoder (inj false T_api_Encoder c))), (8, some (.box (.slice .bool) (.ref 10 0 l.length true))), (9, some (.cell (.func 103 [11, 8, 12]))), (10, some (.row .bool false l)), (11, some (.box T_api_Predictor (inj false T_api_Predictor x))), (12, some (.cell (.func 78 [0, 1])))], 15⟩
@[reducible] def each_st8 (x : D_api_Predictor) (l : List Bool) (e : Int) (c : D_api_Encoder) (b : Bool) : St :=
  ⟨(8, .one (.bool b)) :: (each_st x l e c).tmps, (each_st x l e c).heap, 15⟩
@[reducible] def each_fin (e : Int) (c : D_api_Encoder) : St := ⟨[], [(0, some (.box (.int .i64) e)), (1, some (.box T_api_Encoder (inj false T_api_Encoder c)))], 10⟩
@[reducible] def each_S : Type := D_api_Predictor × List Bool × Int × D_api_Encoder
@[reducible] def each_R : Type := Int × D_api_Encoder
noncomputable def each_step (s : each_S) (b : Bool) : Option each_S :=
  gd ((s.2.1 ++ [b]).length * 1 ≤ 140737488355328) <|
  if ((Int.ofNat (s.2.1 ++ [b]).length) == (2000 : Int)) = true then
    (codec_each_1 s.1 (s.2.1 ++ [b]) s.2.2.1 s.2.2.2).bind fun r => some (r.1, r.2.1, r.2.2.2.1, r.2.2.2.2)
  else some (s.1, s.2.1 ++ [b], s.2.2.1, s.2.2.2)
noncomputable def each_run : List Bool → each_S → Option each_S
  | [], s => some s
  | b :: l, s => (each_step s b).bind (each_run l)
theorem each_run_snoc : ∀ (l : List Bool) (b : Bool) (s : each_S), each_run (l ++ [b]) s = (each_run l s).bind fun t => each_step t b
  | [], b, s => by
    simp only [List.nil_append, each_run, Option.bind_some]
    cases each_step s b <;> rfl
  | a :: l, b, s => by
    simp only [List.cons_append, each_run]
    cases each_step s a with
    | none => rfl
    | some t => exact each_run_snoc l b t
noncomputable def codec_each (x : D_api_Predictor) (b : List Int) (e : Int) (c : D_api_Encoder) : Option each_R :=
  gd (b.length * 8 ≤ 140737488351232) <|
  gd (∀ l : List Bool, l.length ≤ 8 * b.length → (each_run l (x, [], e, c)).isSome = true) <|
  (each_run (bitsL b) (x, [], e, c)).bind fun s =>
  (codec_each_1 s.1 s.2.1 s.2.2.1 s.2.2.2).bind fun r => some (r.2.2.2.1, r.2.2.2.2)
noncomputable def each_tab : List (Summ Tryz.prog GT) := [codec_bits_S (fun _ => true), (codec_each_1_S (fun _ => true)).dropping]
@[reducible] noncomputable def rg (cd : Code) (σ : St) (k : St → Tr) : Tr := regionT Tryz.prog GT (tmpsOf Tryz.prog 77) [] each_tab (opsC cd) false σ k
def stL : Pos → Option St := fun s => some s.st
def noL {R : Type} : Pos → Option R := fun _ => none
def lf0 (σ : St) : Tr := .leaf ⟨[], σ⟩
def leafK (ts : List Nat) (σ : St) : Tr := match keepSt σ ts true true with
  | some σ' => lf0 σ'
  | none => .dead
def leafR (σ : St) : Tr := if (newOf (renSt σ [6, 7] true) 8 == some 8) && (newOf (renSt σ [6, 7] true) 9 == some 9) then leafK [6, 7] σ else .dead
@[reducible] noncomputable def eC0 : Code := bodyOf Tryz.prog 77
@[reducible] noncomputable def eC1 : Code := cSnd eC0
@[reducible] noncomputable def eC2 : Code := cSnd eC1
@[reducible] noncomputable def eC3 : Code := cSnd eC2
@[reducible] noncomputable def eC4 : Code := cFst eC3
@[reducible] noncomputable def eR8 : Code := cSnd eC3
@[reducible] noncomputable def eRF : Code := cIn (cSnd eC4)
@[reducible] noncomputable def eB : Code := cIn (rfB eRF)
@[reducible] noncomputable def eB2 : Code := cSnd eB
@[reducible] noncomputable def eB3 : Code := cSnd eB2
@[reducible] def each_as (x : D_api_Predictor) (b : List Int) : List AV := [.agg T_api_Predictor (inj false T_api_Predictor x), .sl (.int .u8) false b, .func 78 [0, 1]]
@[reducible] def each_pr (e : Int) (c : D_api_Encoder) : List (Nat × Obj) := [(0, .box (.int .i64) e), (1, .box T_api_Encoder (inj false T_api_Encoder c))]
noncomputable def each_pre (x : D_api_Predictor) (b : List Int) (e : Int) (c : D_api_Encoder) : Tr :=
  rg (cFst eC0) (st0 (each_as x b) (each_pr e c)) fun σ => rg (cFst eC1) σ fun σ => rg (cFst eC2) σ fun σ => rg (cFst eC4) σ lf0
def each_chk (s : Pos) : Option (List Int × St) :=
  match s.st.look 11, lkOf s.st.heap 64, keepSt s.st [6, 7] true true with
  | .one (.func 140 [64]), some (.box t y), some σ' => if h : t = .slice (.int .u8) ∧ newOf (renSt s.st [6, 7] true) 64 = none then (match (h.1 ▸ y : aden (.slice (.int .u8))) with
    | .pure false r => some (r, σ')
    | _ => none) else none
  | _, _, _ => none
set_option maxRecDepth 100000 in
theorem each_pre_eq (x : D_api_Predictor) (b : List Int) (e : Int) (c : D_api_Encoder) : den each_chk noL (each_pre x b e c) = (codec_bits b).bind fun r => some (r, each_st x [] e c) := by kernel_rfl
noncomputable def each_body (σ : St) : Tr := rg (cFst eB) σ fun σ1 => rg (cFst eB2) σ1 fun σ2 => match σ2.look 19 with
  | .one (.bool b) => .bit b (rg (cThn eB3) σ2 leafR) (leafR σ2)
  | _ => .dead
set_option maxRecDepth 100000 in
theorem each_body_eq (x : D_api_Predictor) (l : List Bool) (e : Int) (c : D_api_Encoder) (b : Bool) : den stL noL (each_body (each_st8 x l e c b)) = (
gd ((l ++ [b]).length * 1 ≤ 140737488355328) <|
if ((Int.ofNat (l ++ [b]).length) == (2000 : Int)) = true then
(codec_each_1 x (l ++ [b]) e c).bind fun r => some (each_st r.1 r.2.1 r.2.2.2.1 r.2.2.2.2)
else some (each_st x (l ++ [b]) e c)) := by kernel_rfl
set_option maxRecDepth 100000 in
theorem each_end_eq (x : D_api_Predictor) (l : List Bool) (e : Int) (c : D_api_Encoder) : den stL noL (rg eR8 (each_st x l e c) (leafK [])) = (codec_each_1 x l e c).bind fun r => some (each_fin r.2.2.2.1 r.2.2.2.2) := by kernel_rfl
end each
section each
theorem each_step_st {s s' : each_S} {b : Bool} (h : each_step s b = some s') : den stL noL (each_body (each_st8 s.1 s.2.1 s.2.2.1 s.2.2.2 b)) = some (each_st s'.1 s'.2.1 s'.2.2.1 s'.2.2.2) := by
  rw [each_body_eq]
  unfold each_step at h
  obtain ⟨h0, h⟩ := gd_some h
  rw [gd_pos h0]
  split at h
  · rename_i hc
    rw [if_pos hc]
    simp only [Option.bind_eq_some_iff] at h
    obtain ⟨r, hr, h⟩ := h
    simp only [Option.some.injEq] at h; subst h
    rw [hr]; rfl
  · rename_i hc
    rw [if_neg hc]
    simp only [Option.some.injEq] at h; subst h
    rfl
theorem each_noMap (x : D_api_Predictor) (l : List Bool) (e : Int) (c : D_api_Encoder) : ∀ k o, lkOf (each_st x l e c).heap k = some o → noMap o = true := by
  intro k o h
  unfold lkOf at h
  split at h
  · rename_i ob hl
    subst h
    have := lookL_mem hl
    simp only [List.mem_cons, Prod.mk.injEq, List.not_mem_nil, or_false, Option.some.injEq] at this
    rcases this with ⟨_, rfl⟩ | ⟨_, rfl⟩ | ⟨_, rfl⟩ | ⟨_, rfl⟩ | ⟨_, rfl⟩ | ⟨_, rfl⟩ | ⟨_, rfl⟩ <;> rfl
  · cases h
def isAsg : Code → Option (Nat × Nat)
  | .region _ ops false => match ops.toList with
    | [o] => match o.op, o.dst, o.guard with
      | .assign (.tmp t), some d, none => some (d, t)
      | _, _, _ => none
    | _ => none
  | _ => none
theorem asg_in {F : Fence} (hF : ∀ f, F.fn f) {n : Nat} {P : Program} {cd : Code} {d t : Nat} (h : isAsg cd = some (d, t)) {Kx : Act → World → Prop} {Q : Exit → Act → World → Prop} {a : Act} {w : World} (hk : Kx (a.put (some d) (a.eval (.tmp t))) w) :
    cd.wpIn F n P (Exit.then Kx Q) a w := by
  unfold isAsg at h
  split at h
  · rename_i id ops
    split at h
    · rename_i o ho
      split at h
      · rename_i t' d' h1 h2 h3
        simp only [Option.some.injEq, Prod.mk.injEq] at h
        obtain ⟨rfl, rfl⟩ := h
        have hops : ops = #[o] := by apply Array.ext'; simpa using ho
        subst hops
        refine wpIn_region ?_
        show wpOpsIn F n P #[o] _ [0] a w
        have hw : Region.wanted o (yielded #[o] a.tmps) = true := by unfold Region.wanted; rw [h3]
        have hg : (#[o] : Array Oper)[0]? = some o := rfl
        simp only [wpOpsIn, hg, hw, if_true]
        refine ⟨fun f _ => hF f, ?_⟩
        rw [Oper.semAt_eq _ _ _ (by rw [h1]; intro c hc; cases hc)]
        have : (execOp a.eval o).run P w = .ok (.value (a.eval (.tmp t'))) w := by simp [execOp, h1]
        rw [this]
        show Exit.then Kx Q .normal (a.put o.dst _) w
        rw [h2]; exact hk
      · cases h
    · cases h
  · cases h
theorem start_rel {P : Program} {GT : GTab} {f : Nat} {fn : Func} {args : List AV} {pre : List (Nat × Obj)} {w : World} {F G : Nat → Prop} {K : Kn} {vs : List Value} (hf : P.funcs[f]? = some fn) (hnt : args.length ≤ fn.ntmps) (hp : pre.all (fun p => decide (p.1 < 8)) = true)
    (hglob : Glob P GT w) (hinv : Inv ⟨w, F, G, (ngOf GT), []⟩ (lookL pre) K w) (hK : ∀ l, lookL pre l = none → K l = none) (hargs : VRdL w (NN ⟨w, F, G, (ngOf GT), []⟩ (lookL pre) K w) K args vs) :
    RelS ⟨w, F, G, (ngOf GT), []⟩ P GT (tmpsOf P f) (st0 args pre) K { tmps := vs.toArray ++ Array.replicate (fn.ntmps - vs.toArray.size) undef, defers := [] } w := by
  have hlen := hargs.len
  have htf : tmpsOf P f = fn.ntmps := by simp [tmpsOf, hf]
  rw [htf]
  refine ⟨⟨?_, fun t => ?_, ?_, rfl, hglob.1, rfl, hglob⟩, fun l hl => ?_⟩
  · show Inv _ (lkOf (alive pre)) K w
    rw [lkOf_alive]; exact hinv
  · show TVRd w (NN _ (lkOf (alive pre)) K w) K _ _
    rw [lkOf_alive]
    simp only [St.look, st0, lookL_argT, Nat.zero_le, if_true, Nat.sub_zero]
    cases ht : args[t]? with
    | none => trivial
    | some v =>
      simp only [Option.map_some]
      obtain ⟨u, hu, hr⟩ := hargs.get ht
      have : ({ tmps := vs.toArray ++ Array.replicate (fn.ntmps - vs.toArray.size) undef, defers := [] } : Act).eval (.tmp t) = u := by
        have htl : t < vs.length := (List.getElem?_eq_some_iff.1 hu).1
        simp only [Act.eval, Array.getD_eq_getD_getElem?]
        rw [Array.getElem?_append_left (by simpa using htl)]
        simp [hu]
      rw [this]; exact hr
  · simp only [Array.size_append, List.size_toArray, Array.size_replicate]
    omega
  · refine hK l (lookL_none (fun hm => ?_))
    obtain ⟨p, h1, h2⟩ := List.mem_map.1 hm
    have := List.all_eq_true.1 hp p h1
    simp only [decide_eq_true_eq] at this
    have h15 : (st0 args pre).next ≤ l := hl
    have : (st0 args pre).next = 8 := rfl
    omega
theorem leafK_some {ts : List Nat} {σ σ' : St} (h : den stL noL (leafK ts σ) = some σ') : keepSt σ ts true true = some σ' := by
  unfold leafK at h
  split at h
  · rename_i σ1 h1
    simp only [lf0, den, stL, Option.some.injEq] at h
    subst h; exact h1
  · cases h
theorem leafR_some {σ σ' : St} (h : den stL noL (leafR σ) = some σ') : keepSt σ [6, 7] true true = some σ' ∧ newOf (renSt σ [6, 7] true) 8 = some 8 ∧ newOf (renSt σ [6, 7] true) 9 = some 9 := by
  unfold leafR at h
  split at h
  · rename_i hc
    simp only [Bool.and_eq_true, beq_iff_eq] at hc
    exact ⟨leafK_some h, hc⟩
  · cases h
variable {c0 : Cx}
def RoundPost (c0 : Cx) (s s' : each_S) (K : Kn) (a : Act) (W W' : World) : Prop :=
  KeepsOthers W W' ∧ (∀ b, NN c0 (lkOf (each_st s.1 s.2.1 s.2.2.1 s.2.2.2).heap) K W false b → W'.heap[b]? = W.heap[b]?) ∧
  ∃ K', RelS c0 Tryz.prog GT (tmpsOf Tryz.prog 77) (each_st s'.1 s'.2.1 s'.2.2.1 s'.2.2.2) K' a W' ∧ (∀ l, l < 8 → ∀ gh, K l = some gh → K' l = some gh) ∧
    ∀ b, NN c0 (lkOf (each_st s.1 s.2.1 s.2.2.1 s.2.2.2).heap) K W false b → NN c0 (lkOf (each_st s'.1 s'.2.1 s'.2.2.1 s'.2.2.2).heap) K' W' false b
theorem each_fin_round {s s' : each_S} {b : Bool} {K K2 : Kn} {a a1 a2 : Act} {W W' : World} {σ2 : St} (R0 : RelS c0 Tryz.prog GT (tmpsOf Tryz.prog 77) (each_st s.1 s.2.1 s.2.2.1 s.2.2.2) K a W)
    (R8 : RelS c0 Tryz.prog GT (tmpsOf Tryz.prog 77) (each_st8 s.1 s.2.1 s.2.2.1 s.2.2.2 b) K a1 W) (hG : ∀ b, c0.G b → liveAt (lkOf (each_st s.1 s.2.1 s.2.2.1 s.2.2.2).heap) K b)
    (h : den stL noL (leafR σ2) = some (each_st s'.1 s'.2.1 s'.2.2.1 s'.2.2.2)) (hsz : W.heap.size ≤ W'.heap.size) (R2 : RelS c0 Tryz.prog GT (tmpsOf Tryz.prog 77) σ2 K2 a2 W')
    (hk : KeepK W W' (NN c0 (lkOf (each_st8 s.1 s.2.1 s.2.2.1 s.2.2.2 b).heap) K W) (NN c0 (lkOf σ2.heap) K2 W') K K2) : RoundPost c0 s s' K a W W' := by
  obtain ⟨h1, h2, h3⟩ := leafR_some h
  obtain ⟨K', R', g1, g2, g3, _⟩ := R2.keepSt h1
  refine ⟨hk.others R8 R2 (each_noMap _ _ _ _) hG hsz, fun b hb => ((hk.n false).k b hb).2, K', ?_, fun l hl gh hgh => ?_, fun b hb => g2 b ((hk.n false).k b hb).1⟩
  · have ha : a.tmps.size = a2.tmps.size := R0.rel.size.trans R2.rel.size.symm
    refine R'.act (σ' := each_st s'.1 s'.2.1 s'.2.2.1 s'.2.2.2) rfl rfl ha (R0.rel.defers.trans R2.rel.defers.symm) (fun t => ?_)
    have h0 := R0.rel.tmps t
    simp only [St.look, lookL] at h0 ⊢
    by_cases h6 : 6 = t
    · subst h6
      simp only [if_true] at h0 ⊢
      obtain ⟨gh, pl, po, k1, k2⟩ := h0
      exact ⟨gh, pl, po, (g3 8 8 h2).trans (hk.k 8 gh k1), k2⟩
    · simp only [h6, if_false] at h0 ⊢
      by_cases h7 : 7 = t
      · subst h7
        simp only [if_true] at h0 ⊢
        obtain ⟨sh, pl, k1, k2⟩ := h0
        exact ⟨sh, pl, (g3 9 9 h3).trans (hk.k 9 _ k1), k2⟩
      · simp only [h7, if_false]
        trivial
  · rw [g1 l hl]; exact hk.k l gh hgh
theorem each_round {l n : Nat} {s s' : each_S} {b : Bool} (hstep : each_step s b = some s') {K : Kn} {a a1 : Act} {W : World} (R0 : RelS c0 Tryz.prog GT (tmpsOf Tryz.prog 77) (each_st s.1 s.2.1 s.2.2.1 s.2.2.2) K a W)
    (R8 : RelS c0 Tryz.prog GT (tmpsOf Tryz.prog 77) (each_st8 s.1 s.2.1 s.2.2.1 s.2.2.2 b) K a1 W) (hG : ∀ b, c0.G b → liveAt (lkOf (each_st s.1 s.2.1 s.2.2.1 s.2.2.2).heap) K b)
    {Q : Exit → Act → World → Prop} (hQ : ∀ a' W', RoundPost c0 s s' K a W W' → Q .normal a' W') : (rfB eRF).wpIn (Fence.wide.inRound l) n Tryz.prog Q a1 W := by
  have h0 := each_step_st hstep
  unfold each_body at h0
  refine blockC_in (by kernel_rfl) ?_
  refine seqC_in (by kernel_rfl) ?_
  refine regC_in (fun _ => trivial) rfl wide_in (fun f hf => by cases hf) (by kernel_rfl) h0 R8 ?_
  intro σ1 K1 a2 W1 h1 R1 z1 k1
  show Code.wpIn _ _ _ (cSnd (cIn (rfB eRF))) _ a2 W1
  refine seqC_in (by kernel_rfl) ?_
  refine regC_in (fun _ => trivial) rfl wide_in (fun f hf => by cases hf) (by kernel_rfl) h1 R1 ?_
  intro σ2 K2 a3 W2 h2 R2 z2 k2
  show Code.wpIn _ _ _ (cSnd (cSnd (cIn (rfB eRF)))) _ a3 W2
  split at h2
  · rename_i bv hbv
    have he : a3.eval (condO (cSnd (cSnd (cIn (rfB eRF))))) = .bool bv := by
      have h19 : condO (cSnd (cSnd (cIn (rfB eRF)))) = .tmp 19 := by kernel_rfl
      rw [h19]
      have := R2.rel.tmps 19
      rw [hbv] at this
      exact this
    refine condC_in (by kernel_rfl) he ?_
    simp only [den] at h2
    by_cases hb : bv = true
    · subst hb
      simp only [if_true] at h2 ⊢
      refine regC_in (fun _ => trivial) rfl wide_in (fun f hf => by cases hf) (by kernel_rfl) h2 R2 ?_
      intro σ3 K3 a4 W3 h3 R3 z3 k3
      exact hQ _ _ (each_fin_round R0 R8 hG h3 (Nat.le_trans z1 (Nat.le_trans z2 z3)) R3 ((k1.trans k2).trans k3))
    · simp only [Bool.not_eq_true] at hb; subst hb
      simp only [Bool.false_eq_true, if_false] at h2 ⊢
      have hsk : cEls (cSnd (cSnd (cIn (rfB eRF)))) = .skip := by kernel_rfl
      rw [hsk]
      exact wpIn_skip (hQ _ _ (each_fin_round R0 R8 hG h2 (Nat.le_trans z1 z2) R2 (k1.trans k2)))
  · cases h2
theorem each_chk_some {s : Pos} {b : List Int} {σ' : St} (h : each_chk s = some (b, σ')) : s.st.look 11 = .one (.func 140 [64]) ∧ lkOf s.st.heap 64 = some (.box (.slice (.int .u8)) (.pure false b)) ∧ keepSt s.st [6, 7] true true = some σ' ∧ newOf (renSt s.st [6, 7] true) 64 = none := by
  unfold each_chk at h
  split at h
  · rename_i t y σ1 h1 h2 h3
    split at h
    · rename_i ht
      obtain ⟨rfl, hn⟩ := ht
      split at h
      · rename_i r hr
        simp only [Option.some.injEq, Prod.mk.injEq] at h
        obtain ⟨rfl, rfl⟩ := h
        simp only at hr
        subst hr
        exact ⟨h1, h2, h3, hn⟩
      · cases h
    · cases h
  · cases h
@[reducible] def each_a8 (a : Act) (b : Bool) : Act := ({ tmps := a.tmps.setIfInBounds 12 (.bool b), defers := [] } : Act).put (some 8) (.bool b)
theorem each_rel8 {s : each_S} {b : Bool} {K : Kn} {a : Act} {W : World} (hd : c0.df = []) (R0 : RelS c0 Tryz.prog GT (tmpsOf Tryz.prog 77) (each_st s.1 s.2.1 s.2.2.1 s.2.2.2) K a W) :
    RelS c0 Tryz.prog GT (tmpsOf Tryz.prog 77) (each_st8 s.1 s.2.1 s.2.2.1 s.2.2.2 b) K (each_a8 a b) W := by
  have hnt : tmpsOf Tryz.prog 77 = 24 := by kernel_rfl
  have hs : a.tmps.size = 24 := R0.rel.size.trans hnt
  refine R0.act rfl rfl (by simp [Act.put]) (by simp [Act.put]; rw [R0.rel.defers, hd]) (fun t => ?_)
  have h0 := R0.rel.tmps t
  simp only [St.look, lookL] at h0 ⊢
  by_cases h8 : 8 = t
  · subst h8
    simp only [if_true]
    show (each_a8 a b).eval (.tmp 8) = .bool b
    simp [Act.eval, Act.put, hs]
  · simp only [h8, if_false]
    by_cases h6 : 6 = t
    · subst h6
      simp only [if_true] at h0 ⊢
      have : (each_a8 a b).eval (.tmp 6) = a.eval (.tmp 6) := by simp [Act.eval, Act.put, hs]
      rw [this]; exact h0
    · simp only [h6, if_false] at h0 ⊢
      by_cases h7 : 7 = t
      · subst h7
        simp only [if_true] at h0 ⊢
        have : (each_a8 a b).eval (.tmp 7) = a.eval (.tmp 7) := by simp [Act.eval, Act.put, hs]
        rw [this]; exact h0
      · simp only [h7, if_false]
        trivial
end each
section each
theorem lk_fin (e : Int) (c : D_api_Encoder) : lkOf (each_fin e c).heap = lookL [(0, .box (.int .i64) e), (1, .box T_api_Encoder (inj false T_api_Encoder c))] := by
  rw [← lkOf_alive]; rfl
set_option maxRecDepth 100000 in
theorem each_call {x : D_api_Predictor} {b : List Int} {e : Int} {c : D_api_Encoder} {r : each_R} (h : codec_each x b e c = some r) :
    CallOK Tryz.prog GT 77 (each_as x b) (each_pr e c) (.tup []) [(0, .box (.int .i64) r.1), (1, .box T_api_Encoder (inj false T_api_Encoder r.2))] := by
  unfold codec_each at h
  obtain ⟨hlen, h⟩ := gd_some h
  obtain ⟨hall, h⟩ := gd_some h
  simp only [Option.bind_eq_some_iff] at h
  obtain ⟨sf, hsf, rf, hrf, h⟩ := h
  simp only [Option.some.injEq] at h; subst h
  intro w F G K0 vs hglob hinv hG hK hF hargs
  have hlenv := hargs.len
  have hfn : fnOk Tryz.prog 77 3 = true := by kernel_rfl
  have hf := Tryz.func77
  generalize hfg : Tryz.f77 = fn at hf
  clear hfg
  unfold fnOk at hfn
  rw [hf] at hfn
  simp only [Bool.and_eq_true, Bool.not_eq_true', decide_eq_true_eq] at hfn
  obtain ⟨⟨hbd, hnm⟩, hnt⟩ := hfn
  obtain ⟨body, hb⟩ := Option.isSome_iff_exists.1 hbd
  have hbody : body = eC0 := by simp [eC0, bodyOf, hf, hb]
  have hcf : (callFunc 77 vs.toArray).run Tryz.prog w = .ok (.enter 77 vs.toArray) w := by
    have hnm' : ¬ fn.name = "runtime.NumGoroutine" := by simpa using hnm
    simp [callFunc, hf, hnm', hb]
  unfold Called
  rw [hcf]
  have R0 := start_rel (args := each_as x b) (pre := each_pr e c) hf hnt rfl hglob hinv hK hargs
  refine (callsIn_wide (n := 3)).1 (callsIn_of_wp_marks hf hb trivial ?_ rfl)
  rw [hbody]
  have hG0 : ∀ q, (⟨w, F, G, (ngOf GT), []⟩ : Cx).G q → liveAt (lookL (each_pr e c)) K0 q := hG
  have hpost : ∀ v w', (∃ K', (∀ l gh, K0 l = some gh → K' l = some gh) ∧ Inv ⟨w, F, G, (ngOf GT), []⟩ (lookL [(0, .box (.int .i64) rf.2.2.2.1), (1, .box T_api_Encoder (inj false T_api_Encoder rf.2.2.2.2))]) K' w' ∧
      TVRd w' (NN ⟨w, F, G, (ngOf GT), []⟩ (lookL [(0, .box (.int .i64) rf.2.2.2.1), (1, .box T_api_Encoder (inj false T_api_Encoder rf.2.2.2.2))]) K' w') K' (.tup []) v) → (∃ v', Ending.returned v = .returned v' ∧ (∃ K', (∀ l gh, K0 l = some gh → K' l = some gh) ∧ Inv ⟨w, F, G, (ngOf GT), []⟩ (lookL [(0, .box (.int .i64) rf.2.2.2.1), (1, .box T_api_Encoder (inj false T_api_Encoder rf.2.2.2.2))]) K' w' ∧
      TVRd w' (NN ⟨w, F, G, (ngOf GT), []⟩ (lookL [(0, .box (.int .i64) rf.2.2.2.1), (1, .box T_api_Encoder (inj false T_api_Encoder rf.2.2.2.2))]) K' w') K' (.tup []) v')) := fun v w' hh => ⟨v, rfl, hh⟩
  have hK8 : ∀ l, 8 ≤ l → K0 l = none := by
    intro l hl
    refine hK l (lookL_none (fun hm => ?_))
    simp at hm; omega
  generalize hc0 : (⟨w, F, G, (ngOf GT), []⟩ : Cx) = c0 at R0 hG0 hpost
  have hdf : c0.df = [] := by rw [← hc0]
  have hw0 : c0.w0 = w := by rw [← hc0]
  have hpre := each_pre_eq x b e c
  rw [codec_bits_eq] at hpre
  simp only [Option.bind_some] at hpre
  unfold each_pre at hpre
  refine seqC_in (by kernel_rfl) ?_
  refine regC_in (fun _ => trivial) rfl wide_out (fun f hf => by cases hf) (by kernel_rfl) hpre R0 ?_
  intro σ1 K1 a1 W1 h1 R1 z1 k1
  show Code.wpIn _ _ _ eC1 _ a1 W1
  refine seqC_in (by kernel_rfl) ?_
  refine regC_in (fun _ => trivial) rfl wide_out (fun f hf => by cases hf) (by kernel_rfl) h1 R1 ?_
  intro σ2 K2 a2 W2 h2 R2 z2 k2
  show Code.wpIn _ _ _ eC2 _ a2 W2
  refine seqC_in (by kernel_rfl) ?_
  refine regC_in (fun _ => trivial) rfl wide_out (fun f hf => by cases hf) (by kernel_rfl) h2 R2 ?_
  intro σ3 K3 a3 W3 h3 R3 z3 k3
  show Code.wpIn _ _ _ eC3 _ a3 W3
  refine seqC_in (by kernel_rfl) ?_
  refine seqC_in (by kernel_rfl) ?_
  refine regC_in (fun _ => trivial) rfl wide_out (fun f hf => by cases hf) (by kernel_rfl) h3 R3 ?_
  intro σ4 K4 a4 W4 h4 R4 z4 k4
  show Code.wpIn _ _ _ (cSnd eC4) _ a4 W4
  refine blockC_in (by kernel_rfl) ?_
  have hrf0 : cIn (cSnd eC4) = .rangeFunc (rfF eRF) (rfP eRF) (rfA eRF) (rfB eRF) := rfC (c := eRF) (by kernel_rfl)
  rw [hrf0]
  simp only [lf0, den] at h4
  obtain ⟨l11, l64, hkp, hn64⟩ := each_chk_some h4
  simp only at l11 l64 hkp hn64
  have hsz4 : w.heap.size ≤ W4.heap.size := Nat.le_trans z1 (Nat.le_trans z2 (Nat.le_trans z3 z4))
  have t11 := R4.rel.tmps 11
  rw [l11] at t11
  obtain ⟨us, t1, gh, p, ur, g1, g2, t2, t3⟩ := t11
  simp only [capsRd] at t3
  subst t3; subst t2
  obtain ⟨gh', e1, e2, p', cs, e3, e4, e5⟩ := R4.rel.inv.objs 64 _ l64
  rw [g1] at e1; injection e1 with e1; subst e1
  rw [g2] at e3; injection e3 with e3; subst e3
  obtain ⟨A0, cap, rfl, hle, hbytes⟩ := e5
  have hBs : W4.cell? ⟨p.blk, p.ob, none⟩ = some (.slice A0 b.length cap) := by simpa using e4.cells 0 _ rfl
  have hpb := (R4.rel.inv.own 64 _ gh p l64 g1 (.inl g2)).1
  obtain ⟨K5, R5, q1, q2, q3, q4⟩ := R4.keepSt hkp
  have hNB : NN c0 (lkOf (each_st x [] e c).heap) K5 W4 false p.blk := q4 64 _ gh p hn64 l64 g1 (.inl g2)
  obtain ⟨bb, hH, hNb⟩ : ∃ bb, HoldsB W4 bb A0 b ∧ NN c0 (lkOf (each_st x [] e c).heap) K5 W4 false bb := by
    rcases hbytes with rfl | ⟨b', o, cl, hA, hN, hc, hcat⟩
    · exact ⟨p.blk, .inl rfl, hNB⟩
    · refine ⟨b', .inr ⟨o, hA, fun j hj => ?_⟩, q2 b' hN⟩
      have hcl := cat_nums_cells hcat
      refine hc j _ ?_
      rw [hcl, List.getElem?_map, List.getElem?_eq_getElem hj]; rfl
  have hK05 : ∀ l, l < 8 → ∀ g, K0 l = some g → K5 l = some g := fun l hl g hg => by rw [q1 l hl]; exact (((k1.trans k2).trans k3).trans k4).k l g hg
  have hG5 : ∀ (s : each_S) (K : Kn), (∀ l, l < 8 → ∀ g, K0 l = some g → K l = some g) → ∀ q, c0.G q → liveAt (lkOf (each_st s.1 s.2.1 s.2.2.1 s.2.2.2).heap) K q := by
    intro s K hk q hq
    obtain ⟨l, o, g, pp, h1, h2, h3, h4⟩ := hG0 q hq
    have hm := lookL_mem h1
    simp only [each_pr, List.mem_cons, Prod.mk.injEq, List.not_mem_nil, or_false] at hm
    rcases hm with ⟨rfl, _⟩ | ⟨rfl, _⟩
    · exact ⟨0, _, g, pp, rfl, hk 0 (by omega) g h2, h3, h4⟩
    · exact ⟨1, _, g, pp, rfl, hk 1 (by omega) g h2, h3, h4⟩
  have hps : rfP eRF = #[12] := by kernel_rfl
  refine wpIn_rangeFunc_ownF (α := Bool) rfl (by omega) (gf := 140) (lb := #[.pointer (some ⟨p.blk, p.ob, none⟩)]) ?hg trivial ?eg (encs := fun x : Bool => #[.bool x]) (Kp := KpM (fun q => q = p.blk ∨ q = bb)) (S := fun xs => xs = bitsL b) (Sp := fun _ => True) (N := 8 * b.length) (w0 := W4)
    (bits_stops (3 - 1) (by omega) p.blk p.ob bb cap A0 b hlen _ (.inl rfl) (.inr rfl) W4 hpb hNb.1 hBs hH) (fun h k => h.trans k) ?hKb (Below.refl _ _) ?hps
    (fun pre W => ∃ s K, each_run pre (x, [], e, c) = some s ∧ RelS c0 Tryz.prog GT (tmpsOf Tryz.prog 77) (each_st s.1 s.2.1 s.2.2.1 s.2.2.2) K a4 W ∧ (∀ l, l < 8 → ∀ g, K0 l = some g → K l = some g) ∧
      NN c0 (lkOf (each_st s.1 s.2.1 s.2.2.1 s.2.2.2).heap) K W false p.blk ∧ NN c0 (lkOf (each_st s.1 s.2.1 s.2.2.1 s.2.2.2).heap) K W false bb)
    (fun _ _ _ => False) ?hI (fun _ _ _ _ _ h _ _ => h) ?h0 (fun bit => each_a8 a4 bit) ?assign ?body ?done ?stop
  case hg =>
    have h11 : rfF eRF = .tmp 11 := by kernel_rfl
    rw [h11, t1]
  case eg => exact enters_of Tryz.func140 (by kernel_rfl) rfl
  case hKb =>
    intro W l o o' _ ho hoc _ q v _ hv
    exact cell_kept hv (grownBy_putObj' W l o') (fun r e => by cases e; exact ⟨o, ho, hoc⟩)
  case hps => intro x; rw [hps]; rfl
  case hI =>
    rintro pre W W' row ⟨s, K, hs, R, hk, n1, n2⟩ hg hr
    refine ⟨s, K, hs, R.abide hg (fun r e => ⟨?_, (hr r e).2⟩) (each_noMap _ _ _ _), hk, ⟨Nat.lt_of_lt_of_le n1.1 hg.size, n1.2⟩, ⟨Nat.lt_of_lt_of_le n2.1 hg.size, n2.2⟩⟩
    rw [hw0]
    exact Nat.le_trans hsz4 (hr r e).1
  case h0 => exact ⟨(x, [], e, c), K5, rfl, R5, hK05, hNB, hNb⟩
  case assign =>
    intro l bit W Kx hKx
    rw [hps]
    refine asg_in (fun _ => trivial) (d := 8) (t := 12) (by kernel_rfl) ?_
    have hsz : a4.tmps.size = 24 := R4.rel.size.trans (by kernel_rfl)
    have : ({ tmps := (#[12].zip #[Value.bool bit]).foldl (fun t (x : Nat × Value) => t.setIfInBounds x.1 x.2) a4.tmps, defers := [] } : Act).eval (.tmp 12) = .bool bit := by
      simp [Act.eval, hsz]
    rw [this]
    simpa using hKx
  case body =>
    rintro l pre bit W ⟨s, K, hs, R, hk, n1, n2⟩ hlt
    have hok := hall (pre ++ [bit]) (by simp; omega)
    rw [each_run_snoc, hs] at hok
    simp only [Option.bind_some] at hok
    obtain ⟨s', hstep⟩ := Option.isSome_iff_exists.1 hok
    refine each_round hstep R (each_rel8 hdf R) (hG5 s K hk) ?_
    rintro a' W' ⟨hko, hsame, K', R', hm, hn⟩
    refine ⟨hko, fun q v hq hv => ?_, s', K', by rw [each_run_snoc, hs]; exact hstep, R', fun l hl g hg => hm l hl g (hk l hl g hg), hn _ n1, hn _ n2⟩
    rw [World.cell?_of_block (a := q) (hsame q.block (by rcases hq with hq | hq <;> rw [hq] <;> assumption))]
    exact hv
  case stop => rintro D cd pre W _ _ h _; exact h.elim
  case done =>
    rintro D xs W hD rfl ⟨s, K, hs, R, hk, n1, n2⟩ hdef
    rw [hs] at hsf
    simp only [Option.some.injEq] at hsf; subst hsf
    have hend := each_end_eq s.1 s.2.1 s.2.2.1 s.2.2.2
    rw [hrf] at hend
    simp only [Option.bind_some] at hend
    have had : a4.defers = [] := R4.rel.defers.trans hdf
    rw [had]
    have Rd := R.df [{ target := .collected D, args := #[] }]
    show Code.wpIn _ _ _ eR8 _ _ W
    refine regC_in (fun _ => trivial) rfl wide_out (fun f hf => by cases hf) (by kernel_rfl) hend Rd ?_
    intro σ6 K6 a6 W6 h6 R6 z6 k6
    have hk6 := leafK_some h6
    obtain ⟨K7, R7, r1, _⟩ := R6.keepSt hk6
    have hD6 : W6.heap[D]? = some (.deferred (some [])) := (k6.others Rd R6 (each_noMap _ _ _ _) (hG5 s K hk) z6).same D _ hdef rfl
    show LeavesInM _ _ _ fn a6.tmps _ a6.defers .returning W6
    rw [R6.rel.defers]
    refine ⟨by simp, .inl ⟨D, _, rfl, run_takeDeferred hD6, ?_⟩⟩
    have R8 := R7.abide (grownBy_putObj' W6 D (.deferred none)) (fun r hr => by
      injection hr with hr; subst hr
      exact ⟨by show c0.w0.heap.size ≤ D; rw [hw0]; exact Nat.le_trans hsz4 hD, _, hD6, rfl⟩) (fun k o hk => by
      unfold lkOf at hk
      split at hk
      · rename_i ob hl
        subst hk
        have := lookL_mem hl
        simp only [List.mem_cons, Prod.mk.injEq, List.not_mem_nil, or_false, Option.some.injEq] at this
        rcases this with ⟨_, rfl⟩ | ⟨_, rfl⟩ <;> rfl
      · cases hk)
    have hrs : fn.results.toList = [] := by
      have : rsOf Tryz.prog 77 = [] := by kernel_rfl
      simpa [rsOf, hf] using this
    obtain ⟨v, hv1, hv2⟩ := resTV_rd R8 (fn := fn) (res := .tup []) (by rw [hrs]; rfl)
    refine ⟨v, hv1, hpost v _ ⟨K7, fun l g hg => ?_, ?_, ?_⟩⟩
    · by_cases hl : l < 8
      · rw [r1 l hl]; exact k6.k l g (hk l hl g hg)
      · rw [hK8 l (by omega)] at hg; cases hg
    · have := R8.rel.inv
      rw [lk_fin] at this
      have := this.df []
      rw [hc0] at *
      rw [← hdf] at this
      exact this
    · exact hv2
noncomputable def codec_each_fn (avs : List AV) (pre : List (Nat × Obj)) : Option each_R :=
  match avs, pre with
  | [.agg t x, .sl t2 fr b, .func g [0, 1]], [(0, .box t3 e), (1, .box t4 c)] =>
    if h : t = T_api_Predictor ∧ t2 = .int .u8 ∧ fr = false ∧ g = 78 ∧ t3 = .int .i64 ∧ t4 = T_api_Encoder then
      match unj T_api_Predictor (h.1 ▸ x), unj T_api_Encoder (h.2.2.2.2.2 ▸ c) with
      | some x', some c' => if allFrA false T_api_Predictor (h.1 ▸ x) && allFrA false T_api_Encoder (h.2.2.2.2.2 ▸ c) then codec_each x' (h.2.1 ▸ b : List (pden (.int .u8))) (h.2.2.2.2.1 ▸ e : aden (.int .i64)) c' else none
      | _, _ => none
    else none
  | _, _ => none
def each_post (r : each_R) : List (Nat × Obj) := [(0, .box (.int .i64) r.1), (1, .box T_api_Encoder (inj false T_api_Encoder r.2))]
set_option maxRecDepth 100000 in
theorem codec_each_ok {avs : List AV} {pre : List (Nat × Obj)} {r : each_R} (h : codec_each_fn avs pre = some r) : CallOK Tryz.prog GT 77 avs pre (.tup []) (each_post r) := by
  unfold codec_each_fn at h
  split at h
  · rename_i t x t2 fr b g t3 e t4 c
    split at h
    · rename_i hh
      obtain ⟨rfl, rfl, rfl, rfl, rfl, rfl⟩ := hh
      split at h
      · rename_i x' c' hx hc
        split at h
        · rename_i hf
          simp only [Bool.and_eq_true] at hf
          have ex := inj_unj hx hf.1
          have ec := inj_unj hc hf.2
          simp only at ex ec h
          have := each_call h
          rw [← ex, ← ec]
          exact this
        · cases h
      · cases h
    · cases h
  · cases h
end each
end Go.Ab

set_option linter.unusedVariables false
set_option maxRecDepth 20000
namespace Go.Ab
open Go Go.Proofs
noncomputable def codec_each_S (acc : List AV → Bool) : Summ Tryz.prog GT := { f := 77, acc := acc, rows := false, nils := false, R := each_R, fn := codec_each_fn, res := fun _ => .tup [], post := each_post, drop := false, ok := fun _ _ _ h => codec_each_ok h }
noncomputable def encoder_end_I : FnI Tryz.prog GT := { f := 108, cuts := [], tab := [slices_Clone_byte_byte_S (fun _ => true)], fm := ⟨true, [.val (.slice (.int .u8)) [.nw]]⟩ }
noncomputable def encoder_end (a0 : D_api_Encoder) : Option (List Int) := encoder_end_I.call [(.agg T_api_Encoder (inj false T_api_Encoder a0))] []
theorem encoder_end_eq (a0 : D_api_Encoder) : encoder_end a0 = (
(slices_Clone_byte_byte a0.2.2.1).bind fun r1 =>
gd (0 ≤ (24 : Int)) <|
gd (0 ≤ (16 : Int)) <|
gd (0 ≤ (8 : Int)) <|
gd ((List.length (r1 ++ [(IntKind.wrap .u8 (Int.fdiv a0.1 (16777216 : Int))), (IntKind.wrap .u8 (Int.fdiv a0.1 (65536 : Int))), (IntKind.wrap .u8 (Int.fdiv a0.1 (256 : Int))), (IntKind.wrap .u8 a0.1)])) * 1 ≤ 140737488355328) <|
some (r1 ++ [(IntKind.wrap .u8 (Int.fdiv a0.1 (16777216 : Int))), (IntKind.wrap .u8 (Int.fdiv a0.1 (65536 : Int))), (IntKind.wrap .u8 (Int.fdiv a0.1 (256 : Int))), (IntKind.wrap .u8 a0.1)])) := (FnI.call_eq (by kernel_rfl)).trans (by kernel_rfl)
noncomputable def encoder_end_S (acc : List AV → Bool) : Summ Tryz.prog GT := encoder_end_I.summ mixed acc false false
noncomputable def encoder_End_I : FnI Tryz.prog GT := { f := 80, cuts := [], tab := [encoder_Check_S (fun _ => true), encoder_end_S (fun _ => true)], fm := ⟨true, [.val (.slice (.int .u8)) [.nw], .val (.int .i64) []]⟩ }
noncomputable def encoder_End (a0 : D_api_Encoder) : Option (List Int × Int) := encoder_End_I.call [(.agg T_api_Encoder (inj false T_api_Encoder a0))] []
theorem encoder_End_eq (a0 : D_api_Encoder) : encoder_End a0 = (
(encoder_Check a0).bind fun r1 =>
if (r1 != (0 : Int)) = true then
some ([], r1)
else
if (decide ((Int.ofNat (List.length a0.2.2.1)) > (19996 : Int))) = true then
some ([], (4 : Int))
else
(encoder_end a0).bind fun r2 =>
some (r2, (0 : Int))) := (FnI.call_eq (by kernel_rfl)).trans (by kernel_rfl)
noncomputable def encoder_End_S (acc : List AV → Bool) : Summ Tryz.prog GT := encoder_End_I.summ mixed acc false false
noncomputable def codec_Encode_I : FnI Tryz.prog GT := { f := 46, cuts := [], tab := [(codec_start_S (fun _ => true)).dropping, encoder_New_S (fun _ => true), (codec_each_S (fun _ => true)).dropping, encoder_End_S (fun _ => true)], fm := ⟨true, [.val (.slice (.int .u8)) [.nw], .val (.int .i64) []]⟩ }
noncomputable def codec_Encode (a0 : Int) (a1 : List Int) : Option (List Int × Int) := codec_Encode_I.call [(.int .i64 a0), (.sl (.int .u8) false a1)] []
theorem codec_Encode_eq (a0 : Int) (a1 : List Int) : codec_Encode a0 a1 = (
(codec_start a0 (Int.ofNat (List.length a1))).bind fun r1 =>
if (r1.2 != (0 : Int)) = true then
some ([], r1.2)
else
(encoder_New).bind fun r2 =>
(codec_each r1.1 a1 r1.2 r2).bind fun r3 =>
if (r3.1 != (0 : Int)) = true then
some ([], (4 : Int))
else
(encoder_End r3.2).bind fun r4 =>
some (r4)) := (FnI.call_eq (by kernel_rfl)).trans (by kernel_rfl)
noncomputable def codec_Encode_S (acc : List AV → Bool) : Summ Tryz.prog GT := codec_Encode_I.summ mixed acc false false
noncomputable def header_front_I : FnI Tryz.prog GT := { f := 109, cuts := [⟨(3, 3), [3, 18, 19], false, false, []⟩, ⟨(6, 7), [3, 4, 5, 18, 19, 25, 26], false, false, []⟩], tab := [], fm := ⟨true, [.val (.slice (.int .u8)) [.nw]]⟩ }
noncomputable def header_front (a0 : D_api_BlockHead) : Option (List Int) := header_front_I.call [(.agg T_api_BlockHead (inj false T_api_BlockHead a0))] []
noncomputable def header_front_c1 (v18 : (List Int)) (v19 : Int) (h8 : List Int) : Option (List Int) := header_front_I.sem ⟨[.code (cIn (cIn (cSnd (cFst (cSnd (cSnd (bodyOf Tryz.prog 109))))))), .inLoop (cIn (cIn (cSnd (cFst (cSnd (cSnd (bodyOf Tryz.prog 109))))))), .inBlock 0, .code (cSnd (cSnd (cSnd (bodyOf Tryz.prog 109))))], ⟨[(3, (.one (.ref (.int .u8) 8 0 (List.length h8) true))), (18, (.one (.agg (.arr 5 (.int .i64)) v18))), (19, (.one (.int .i64 v19)))], [(8, some (.row (.int .u8) true h8))], 9⟩⟩
noncomputable def header_front_c2 (v4 : Int) (v5 : Int) (v18 : (List Int)) (v19 : Int) (v25 : Int) (v26 : Int) (h8 : List Int) : Option (List Int) := header_front_I.sem ⟨[.code (cIn (cIn (cSnd (cSnd (cIn (cFst (cSnd (cSnd (cIn (cIn (cSnd (cFst (cSnd (cSnd (bodyOf Tryz.prog 109))))))))))))))), .inLoop (cIn (cIn (cSnd (cSnd (cIn (cFst (cSnd (cSnd (cIn (cIn (cSnd (cFst (cSnd (cSnd (bodyOf Tryz.prog 109))))))))))))))), .inBlock 2, .inBlock 1, .code (cSnd (cSnd (cSnd (cIn (cIn (cSnd (cFst (cSnd (cSnd (bodyOf Tryz.prog 109)))))))))), .inLoop (cIn (cIn (cSnd (cFst (cSnd (cSnd (bodyOf Tryz.prog 109))))))), .inBlock 0, .code (cSnd (cSnd (cSnd (bodyOf Tryz.prog 109))))], ⟨[(3, (.one (.ref (.int .u8) 8 0 (List.length h8) true))), (4, (.one (.int .i64 v4))), (5, (.one (.int .i64 v5))), (18, (.one (.agg (.arr 5 (.int .i64)) v18))), (19, (.one (.int .i64 v19))), (25, (.one (.int .i64 v25))), (26, (.one (.int .i64 v26)))], [(8, some (.row (.int .u8) true h8))], 9⟩⟩
theorem header_front_eq (a0 : D_api_BlockHead) : header_front a0 = (
header_front_c1 (List.set (List.set (List.set (List.set (List.set (List.replicate 5 (0 : Int)) 0 (IntKind.wrap .i64 a0.1)) 1 a0.2.1) 2 a0.2.2.1) 3 a0.2.2.2.1) 4 a0.2.2.2.2.1) (0 : Int) []) := (FnI.call_eq (by kernel_rfl)).trans (by kernel_rfl)
theorem header_front_c1_eq (v18 : (List Int)) (v19 : Int) (h8 : List Int) : header_front_c1 v18 v19 h8 = (
if (decide (v19 < (5 : Int))) = true then
gd (0 ≤ v19) <|
gd (v19 < (5 : Int)) <|
gd (0 ≤ v19) <|
gd (v19 < (5 : Int)) <|
header_front_c2 v19 (List.getD v18 (Int.toNat v19) (0 : Int)) v18 v19 (List.getD G_widths (Int.toNat v19) (0 : Int)) (0 : Int) h8
else
some (h8)) := (FnI.sem_eq _).trans (by kernel_rfl)
theorem header_front_c2_eq (v4 : Int) (v5 : Int) (v18 : (List Int)) (v19 : Int) (v25 : Int) (v26 : Int) (h8 : List Int) : header_front_c2 v4 v5 v18 v19 v25 v26 h8 = (
if (decide (v26 < v25)) = true then
gd (0 ≤ v4) <|
gd (v4 < (5 : Int)) <|
gd (0 ≤ (IntKind.wrap .i64 ((8 : Int) * (IntKind.wrap .i64 ((IntKind.wrap .i64 ((List.getD G_widths (Int.toNat v4) (0 : Int)) - (1 : Int))) - v26))))) <|
gd ((List.length (h8 ++ [(IntKind.wrap .u8 (shrBy .i64 v5 (IntKind.wrap .i64 ((8 : Int) * (IntKind.wrap .i64 ((IntKind.wrap .i64 ((List.getD G_widths (Int.toNat v4) (0 : Int)) - (1 : Int))) - v26))))))])) * 1 ≤ 140737488355328) <|
header_front_c2 v4 v5 v18 v19 v25 (IntKind.wrap .i64 (v26 + (1 : Int))) (h8 ++ [(IntKind.wrap .u8 (shrBy .i64 v5 (IntKind.wrap .i64 ((8 : Int) * (IntKind.wrap .i64 ((IntKind.wrap .i64 ((List.getD G_widths (Int.toNat v4) (0 : Int)) - (1 : Int))) - v26))))))])
else
header_front_c1 v18 (IntKind.wrap .i64 (v19 + (1 : Int))) h8) := (FnI.sem_eq _).trans (by kernel_rfl)
noncomputable def header_front_S (acc : List AV → Bool) : Summ Tryz.prog GT := header_front_I.summ mixed acc false false
noncomputable def sha_pad_I : FnI Tryz.prog GT := { f := 56, cuts := [⟨(3, 3), [0, 3, 4], false, false, []⟩], tab := [], fm := ⟨true, [.val (.slice (.int .u8)) [.nw]]⟩ }
noncomputable def sha_pad (a0 : Int) : Option (List Int) := sha_pad_I.call [(.int .i64 a0)] []
noncomputable def sha_pad_c1 (v0 : Int) (v4 : Int) (h8 : List Int) : Option (List Int) := sha_pad_I.sem ⟨[.code (cIn (cIn (cSnd (cFst (cSnd (cSnd (bodyOf Tryz.prog 56))))))), .inLoop (cIn (cIn (cSnd (cFst (cSnd (cSnd (bodyOf Tryz.prog 56))))))), .inBlock 0, .code (cSnd (cSnd (cSnd (bodyOf Tryz.prog 56))))], ⟨[(0, (.one (.int .i64 v0))), (3, (.one (.ref (.int .u8) 8 0 (List.length h8) true))), (4, (.one (.int .i64 v4)))], [(8, some (.row (.int .u8) true h8))], 9⟩⟩
theorem sha_pad_eq (a0 : Int) : sha_pad a0 = (
gd ((64 : Int) ≠ 0) <|
gd ((64 : Int) ≠ 0) <|
gd (0 ≤ (Int.tmod (IntKind.wrap .i64 ((119 : Int) - (Int.tmod a0 (64 : Int)))) (64 : Int))) <|
gd ((Int.tmod (IntKind.wrap .i64 ((119 : Int) - (Int.tmod a0 (64 : Int)))) (64 : Int)) * 1 ≤ 140737488355328) <|
gd ((Int.tmod (IntKind.wrap .i64 ((119 : Int) - (Int.tmod a0 (64 : Int)))) (64 : Int)) ≤ 9223372036854775807) <|
gd ((List.length ([(128 : Int)] ++ (List.replicate (Int.toNat (Int.tmod (IntKind.wrap .i64 ((119 : Int) - (Int.tmod a0 (64 : Int)))) (64 : Int))) (0 : Int)))) * 1 ≤ 140737488355328) <|
sha_pad_c1 a0 (56 : Int) ([(128 : Int)] ++ (List.replicate (Int.toNat (Int.tmod (IntKind.wrap .i64 ((119 : Int) - (Int.tmod a0 (64 : Int)))) (64 : Int))) (0 : Int)))) := (FnI.call_eq (by kernel_rfl)).trans (by kernel_rfl)
theorem sha_pad_c1_eq (v0 : Int) (v4 : Int) (h8 : List Int) : sha_pad_c1 v0 v4 h8 = (
if (decide (v4 ≥ (0 : Int))) = true then
gd (0 ≤ v4) <|
gd ((List.length (h8 ++ [(IntKind.wrap .u8 (shrBy .u64 (IntKind.wrap .u64 ((IntKind.wrap .u64 v0) * (8 : Int))) v4))])) * 1 ≤ 140737488355328) <|
sha_pad_c1 v0 (IntKind.wrap .i64 (v4 - (8 : Int))) (h8 ++ [(IntKind.wrap .u8 (shrBy .u64 (IntKind.wrap .u64 ((IntKind.wrap .u64 v0) * (8 : Int))) v4))])
else
some (h8)) := (FnI.sem_eq _).trans (by kernel_rfl)
noncomputable def sha_pad_S (acc : List AV → Bool) : Summ Tryz.prog GT := sha_pad_I.summ mixed acc false false
noncomputable def slices_Grow_byte_byte_I : FnI Tryz.prog GT := { f := 86, cuts := [], tab := [], fm := ⟨true, [.part (.int .u8)]⟩ }
noncomputable def slices_Grow_byte_byte (a1 : Int) : Option (List Int × Nat × Nat) := slices_Grow_byte_byte_I.call [.nil, (.int .i64 a1)] []
theorem slices_Grow_byte_byte_eq (a1 : Int) : slices_Grow_byte_byte a1 = (
if (decide (a1 < (0 : Int))) = true then
none
else
if (decide ((IntKind.wrap .i64 (a1 - (0 : Int))) > (0 : Int))) = true then
gd (0 ≤ (0 : Int)) <|
gd ((0 : Int) ≤ (0 : Int)) <|
gd (0 ≤ (IntKind.wrap .i64 (a1 - (0 : Int)))) <|
gd ((IntKind.wrap .i64 (a1 - (0 : Int))) * 1 ≤ 140737488355328) <|
gd ((IntKind.wrap .i64 (a1 - (0 : Int))) ≤ 9223372036854775807) <|
gd ((List.length (List.replicate (Int.toNat (IntKind.wrap .i64 (a1 - (0 : Int)))) (0 : Int))) * 1 ≤ 140737488355328) <|
gd (0 ≤ (0 : Int)) <|
gd ((0 : Int) ≤ (Int.ofNat (List.length (List.replicate (Int.toNat (IntKind.wrap .i64 (a1 - (0 : Int)))) (0 : Int))))) <|
some ((List.replicate (Int.toNat (IntKind.wrap .i64 (a1 - (0 : Int)))) (0 : Int)), (0, 0))
else
some ([], (0, 0))) := (FnI.call_eq (by kernel_rfl)).trans (by kernel_rfl)
noncomputable def slices_Grow_byte_byte_S (acc : List AV → Bool) : Summ Tryz.prog GT := slices_Grow_byte_byte_I.summ mixed acc false true
noncomputable def slices_Concat_byte_byte_I : FnI Tryz.prog GT := { f := 55, cuts := [⟨(3, 3), [0, 3, 9, 10, 11], false, false, []⟩, ⟨(11, 3), [6, 25, 26, 27], false, false, []⟩], tab := [slices_Grow_byte_byte_S (fun _ => true)], fm := ⟨true, [.val (.slice (.int .u8)) [.pu]]⟩ }
noncomputable def slices_Concat_byte_byte (a0 : List (List Int)) : Option (List Int) := slices_Concat_byte_byte_I.call [(.sl (.slice (.int .u8)) false a0)] []
noncomputable def slices_Concat_byte_byte_c1 (v0 : List (List Int)) (v3 : Int) (v9 : List (List Int)) (v10 : Int) (v11 : Int) : Option (List Int) := slices_Concat_byte_byte_I.sem ⟨[.code (cIn (cIn (cSnd (cFst (cSnd (cSnd (bodyOf Tryz.prog 55))))))), .inLoop (cIn (cIn (cSnd (cFst (cSnd (cSnd (bodyOf Tryz.prog 55))))))), .inBlock 0, .code (cSnd (cSnd (cSnd (bodyOf Tryz.prog 55))))], ⟨[(0, (.one (.sl (.slice (.int .u8)) false v0))), (3, (.one (.int .i64 v3))), (9, (.one (.sl (.slice (.int .u8)) false v9))), (10, (.one (.int .i64 v10))), (11, (.one (.int .i64 v11)))], [], 8⟩⟩
noncomputable def slices_Concat_byte_byte_c2 (v6o : Nat) (v6n : Nat) (v25 : List (List Int)) (v26 : Int) (v27 : Int) (h8 : List Int) : Option (List Int) := slices_Concat_byte_byte_I.sem ⟨[.code (cIn (cIn (cSnd (cFst (cSnd (cSnd (cSnd (cSnd (bodyOf Tryz.prog 55))))))))), .inLoop (cIn (cIn (cSnd (cFst (cSnd (cSnd (cSnd (cSnd (bodyOf Tryz.prog 55))))))))), .inBlock 2, .code (cSnd (cSnd (cSnd (cSnd (cSnd (bodyOf Tryz.prog 55))))))], ⟨[(6, (.one (.ref (.int .u8) 8 v6o v6n false))), (25, (.one (.sl (.slice (.int .u8)) false v25))), (26, (.one (.int .i64 v26))), (27, (.one (.int .i64 v27)))], [(8, some (.row (.int .u8) true h8))], 9⟩⟩
noncomputable def slices_Concat_byte_byte_c3 (v25 : List (List Int)) (v26 : Int) (v27 : Int) (h8 : List Int) : Option (List Int) := slices_Concat_byte_byte_I.sem ⟨[.code (cIn (cIn (cSnd (cFst (cSnd (cSnd (cSnd (cSnd (bodyOf Tryz.prog 55))))))))), .inLoop (cIn (cIn (cSnd (cFst (cSnd (cSnd (cSnd (cSnd (bodyOf Tryz.prog 55))))))))), .inBlock 2, .code (cSnd (cSnd (cSnd (cSnd (cSnd (bodyOf Tryz.prog 55))))))], ⟨[(6, (.one (.ref (.int .u8) 8 0 (List.length h8) true))), (25, (.one (.sl (.slice (.int .u8)) false v25))), (26, (.one (.int .i64 v26))), (27, (.one (.int .i64 v27)))], [(8, some (.row (.int .u8) true h8))], 9⟩⟩
theorem slices_Concat_byte_byte_eq (a0 : List (List Int)) : slices_Concat_byte_byte a0 = (
slices_Concat_byte_byte_c1 a0 (0 : Int) a0 (Int.ofNat (List.length a0)) (0 : Int)) := (FnI.call_eq (by kernel_rfl)).trans (by kernel_rfl)
theorem slices_Concat_byte_byte_c1_eq (v0 : List (List Int)) (v3 : Int) (v9 : List (List Int)) (v10 : Int) (v11 : Int) : slices_Concat_byte_byte_c1 v0 v3 v9 v10 v11 = (
if (decide (v11 < v10)) = true then
gd (0 ≤ v11) <|
gd (v11 < (Int.ofNat (List.length v9))) <|
if (decide ((IntKind.wrap .i64 (v3 + (Int.ofNat (List.length (List.getD v9 (Int.toNat v11) []))))) < (0 : Int))) = true then
none
else
slices_Concat_byte_byte_c1 v0 (IntKind.wrap .i64 (v3 + (Int.ofNat (List.length (List.getD v9 (Int.toNat v11) []))))) v9 v10 (IntKind.wrap .i64 (v11 + (1 : Int)))
else
(slices_Grow_byte_byte v3).bind fun r1 =>
slices_Concat_byte_byte_c2 r1.2.1 r1.2.2 v0 (Int.ofNat (List.length v0)) (0 : Int) r1.1) := (FnI.sem_eq _).trans (by kernel_rfl)
theorem slices_Concat_byte_byte_c2_eq (v6o : Nat) (v6n : Nat) (v25 : List (List Int)) (v26 : Int) (v27 : Int) (h8 : List Int) : slices_Concat_byte_byte_c2 v6o v6n v25 v26 v27 h8 = (
if (decide (v27 < v26)) = true then
gd (0 ≤ v27) <|
gd (v27 < (Int.ofNat (List.length v25))) <|
gd ((List.length ((List.take v6n (List.drop v6o h8)) ++ (List.getD v25 (Int.toNat v27) []))) * 1 ≤ 140737488355328) <|
slices_Concat_byte_byte_c3 v25 v26 (IntKind.wrap .i64 (v27 + (1 : Int))) ((List.take v6n (List.drop v6o h8)) ++ (List.getD v25 (Int.toNat v27) []))
else
some (List.take v6n (List.drop v6o h8))) := (FnI.sem_eq _).trans (by kernel_rfl)
theorem slices_Concat_byte_byte_c3_eq (v25 : List (List Int)) (v26 : Int) (v27 : Int) (h8 : List Int) : slices_Concat_byte_byte_c3 v25 v26 v27 h8 = (
if (decide (v27 < v26)) = true then
gd (0 ≤ v27) <|
gd (v27 < (Int.ofNat (List.length v25))) <|
gd ((List.length (h8 ++ (List.getD v25 (Int.toNat v27) []))) * 1 ≤ 140737488355328) <|
slices_Concat_byte_byte_c3 v25 v26 (IntKind.wrap .i64 (v27 + (1 : Int))) (h8 ++ (List.getD v25 (Int.toNat v27) []))
else
some (h8)) := (FnI.sem_eq _).trans (by kernel_rfl)
noncomputable def slices_Concat_byte_byte_S (acc : List AV → Bool) : Summ Tryz.prog GT := slices_Concat_byte_byte_I.summ mixed acc false false
noncomputable def math_bits_RotateLeft32_I : FnI Tryz.prog GT := { f := 87, cuts := [], tab := [], fm := ⟨true, [.val (.int .u32) []]⟩ }
noncomputable def math_bits_RotateLeft32 (a0 : Int) (a1 : Int) : Option (Int) := math_bits_RotateLeft32_I.call [(.int .u32 a0), (.int .i64 a1)] []
theorem math_bits_RotateLeft32_eq (a0 : Int) (a1 : Int) : math_bits_RotateLeft32 a0 a1 = (
gd (0 ≤ (bitsAnd .u64 (IntKind.wrap .u64 a1) (31 : Int))) <|
gd (0 ≤ (IntKind.wrap .u64 ((32 : Int) - (bitsAnd .u64 (IntKind.wrap .u64 a1) (31 : Int))))) <|
some (bitsOr .u32 (IntKind.wrap .u32 (shlBy .u32 a0 (bitsAnd .u64 (IntKind.wrap .u64 a1) (31 : Int)))) (shrBy .u32 a0 (IntKind.wrap .u64 ((32 : Int) - (bitsAnd .u64 (IntKind.wrap .u64 a1) (31 : Int))))))) := (FnI.call_eq (by kernel_rfl)).trans (by kernel_rfl)
noncomputable def math_bits_RotateLeft32_S (acc : List AV → Bool) : Summ Tryz.prog GT := math_bits_RotateLeft32_I.summ mixed acc false false
noncomputable def sha_mix_I : FnI Tryz.prog GT := { f := 88, cuts := [], tab := [], fm := ⟨true, [.val (.int .u32) []]⟩ }
noncomputable def sha_mix (a0 : Int) (a1 : Int) (a2 : Int) (a3 : Int) : Option (Int) := sha_mix_I.call [(.int .i64 a0), (.int .u32 a1), (.int .u32 a2), (.int .u32 a3)] []
theorem sha_mix_eq (a0 : Int) (a1 : Int) (a2 : Int) (a3 : Int) : sha_mix a0 a1 a2 a3 = (
if (a0 == (0 : Int)) = true then
some (bitsXor .u32 a3 (bitsAnd .u32 a1 (bitsXor .u32 a2 a3)))
else
if (a0 == (2 : Int)) = true then
some (bitsOr .u32 (bitsAnd .u32 a1 a2) (bitsAnd .u32 a3 (bitsOr .u32 a1 a2)))
else
some (bitsXor .u32 (bitsXor .u32 a1 a2) a3)) := (FnI.call_eq (by kernel_rfl)).trans (by kernel_rfl)
noncomputable def sha_mix_S (acc : List AV → Bool) : Summ Tryz.prog GT := sha_mix_I.summ mixed acc false false
noncomputable def sha_do_I : FnI Tryz.prog GT := { f := 57, cuts := [⟨(3, 3), [2, 4, 5, 16, 17, 18], false, false, []⟩, ⟨(9, 3), [2, 4, 5, 8, 9, 10, 11, 12, 45], false, false, []⟩], tab := [math_bits_RotateLeft32_S (fun _ => true), sha_mix_S (fun _ => true)], fm := ⟨true, [.val (.arr 5 (.int .u32)) []]⟩ }
noncomputable def sha_do (a0 : (List Int)) (a1 : List Int) : Option ((List Int)) := sha_do_I.call [(.agg (.arr 5 (.int .u32)) a0), (.sl (.int .u8) false a1)] []
noncomputable def sha_do_c1 (v16 : List Int) (v17 : Int) (v18 : Int) (b8 : (List Int)) (b9 : (List Int)) (b10 : (List Int)) : Option ((List Int)) := sha_do_I.sem ⟨[.code (cIn (cIn (cSnd (cFst (cSnd (cSnd (bodyOf Tryz.prog 57))))))), .inLoop (cIn (cIn (cSnd (cFst (cSnd (cSnd (bodyOf Tryz.prog 57))))))), .inBlock 0, .code (cSnd (cSnd (cSnd (bodyOf Tryz.prog 57))))], ⟨[(2, (.one (.ptr (.arr 5 (.int .u32)) 8 []))), (4, (.one (.ptr (.arr 5 (.int .u32)) 9 []))), (5, (.one (.ptr (.arr 16 (.int .u32)) 10 []))), (16, (.one (.sl (.int .u8) false v16))), (17, (.one (.int .i64 v17))), (18, (.one (.int .i64 v18)))], [(8, some (.box (.arr 5 (.int .u32)) b8)), (9, some (.box (.arr 5 (.int .u32)) b9)), (10, some (.box (.arr 16 (.int .u32)) b10))], 11⟩⟩
noncomputable def sha_do_c2 (v8 : Int) (v9 : Int) (v10 : Int) (v11 : Int) (v12 : Int) (v45 : Int) (b8 : (List Int)) (b9 : (List Int)) (b10 : (List Int)) : Option ((List Int)) := sha_do_I.sem ⟨[.code (cIn (cIn (cSnd (cFst (cSnd (cSnd (cSnd (cSnd (bodyOf Tryz.prog 57))))))))), .inLoop (cIn (cIn (cSnd (cFst (cSnd (cSnd (cSnd (cSnd (bodyOf Tryz.prog 57))))))))), .inBlock 2, .code (cSnd (cSnd (cSnd (cSnd (cSnd (bodyOf Tryz.prog 57))))))], ⟨[(2, (.one (.ptr (.arr 5 (.int .u32)) 8 []))), (4, (.one (.ptr (.arr 5 (.int .u32)) 9 []))), (5, (.one (.ptr (.arr 16 (.int .u32)) 10 []))), (8, (.one (.int .u32 v8))), (9, (.one (.int .u32 v9))), (10, (.one (.int .u32 v10))), (11, (.one (.int .u32 v11))), (12, (.one (.int .u32 v12))), (45, (.one (.int .i64 v45)))], [(8, some (.box (.arr 5 (.int .u32)) b8)), (9, some (.box (.arr 5 (.int .u32)) b9)), (10, some (.box (.arr 16 (.int .u32)) b10))], 11⟩⟩
theorem sha_do_eq (a0 : (List Int)) (a1 : List Int) : sha_do a0 a1 = (
gd (0 ≤ (64 : Int)) <|
gd ((64 : Int) ≤ (Int.ofNat (List.length a1))) <|
sha_do_c1 (List.take 64 a1) (Int.ofNat (List.length (List.take 64 a1))) (0 : Int) a0 (List.replicate 5 (0 : Int)) (List.replicate 16 (0 : Int))) := (FnI.call_eq (by kernel_rfl)).trans (by kernel_rfl)
theorem sha_do_c1_eq (v16 : List Int) (v17 : Int) (v18 : Int) (b8 : (List Int)) (b9 : (List Int)) (b10 : (List Int)) : sha_do_c1 v16 v17 v18 b8 b9 b10 = (
if (decide (v18 < v17)) = true then
gd (0 ≤ v18) <|
gd (v18 < (Int.ofNat (List.length v16))) <|
gd ((4 : Int) ≠ 0) <|
gd ((4 : Int) ≠ 0) <|
gd (0 ≤ (IntKind.wrap .i64 (Int.tdiv v18 (4 : Int)))) <|
gd ((IntKind.wrap .i64 (Int.tdiv v18 (4 : Int))) < (16 : Int)) <|
gd (0 ≤ (8 : Int)) <|
gd (0 ≤ (IntKind.wrap .i64 (Int.tdiv v18 (4 : Int)))) <|
gd ((IntKind.wrap .i64 (Int.tdiv v18 (4 : Int))) < (16 : Int)) <|
sha_do_c1 v16 v17 (IntKind.wrap .i64 (v18 + (1 : Int))) b8 b9 (List.set b10 (Int.toNat (IntKind.wrap .i64 (Int.tdiv v18 (4 : Int)))) (bitsOr .u32 (IntKind.wrap .u32 ((List.getD b10 (Int.toNat (IntKind.wrap .i64 (Int.tdiv v18 (4 : Int)))) (0 : Int)) * (256 : Int))) (IntKind.wrap .u32 (List.getD v16 (Int.toNat v18) (0 : Int)))))
else
gd (0 ≤ (0 : Int)) <|
gd ((0 : Int) < (5 : Int)) <|
gd (0 ≤ (1 : Int)) <|
gd ((1 : Int) < (5 : Int)) <|
gd (0 ≤ (2 : Int)) <|
gd ((2 : Int) < (5 : Int)) <|
gd (0 ≤ (3 : Int)) <|
gd ((3 : Int) < (5 : Int)) <|
gd (0 ≤ (4 : Int)) <|
gd ((4 : Int) < (5 : Int)) <|
sha_do_c2 (List.getD b8 0 (0 : Int)) (List.getD b8 1 (0 : Int)) (List.getD b8 2 (0 : Int)) (List.getD b8 3 (0 : Int)) (List.getD b8 4 (0 : Int)) (0 : Int) b8 b9 b10) := (FnI.sem_eq _).trans (by kernel_rfl)
theorem sha_do_c2_eq (v8 : Int) (v9 : Int) (v10 : Int) (v11 : Int) (v12 : Int) (v45 : Int) (b8 : (List Int)) (b9 : (List Int)) (b10 : (List Int)) : sha_do_c2 v8 v9 v10 v11 v12 v45 b8 b9 b10 = (
if (decide (v45 < (80 : Int))) = true then
if (decide (v45 ≥ (16 : Int))) = true then
gd ((16 : Int) ≠ 0) <|
gd ((16 : Int) ≠ 0) <|
gd (0 ≤ (Int.tmod (IntKind.wrap .i64 (v45 + (13 : Int))) (16 : Int))) <|
gd ((Int.tmod (IntKind.wrap .i64 (v45 + (13 : Int))) (16 : Int)) < (16 : Int)) <|
gd ((16 : Int) ≠ 0) <|
gd (0 ≤ (Int.tmod (IntKind.wrap .i64 (v45 + (8 : Int))) (16 : Int))) <|
gd ((Int.tmod (IntKind.wrap .i64 (v45 + (8 : Int))) (16 : Int)) < (16 : Int)) <|
gd ((16 : Int) ≠ 0) <|
gd (0 ≤ (Int.tmod (IntKind.wrap .i64 (v45 + (2 : Int))) (16 : Int))) <|
gd ((Int.tmod (IntKind.wrap .i64 (v45 + (2 : Int))) (16 : Int)) < (16 : Int)) <|
gd ((16 : Int) ≠ 0) <|
gd (0 ≤ (Int.tmod v45 (16 : Int))) <|
gd ((Int.tmod v45 (16 : Int)) < (16 : Int)) <|
(math_bits_RotateLeft32 (bitsXor .u32 (bitsXor .u32 (bitsXor .u32 (List.getD b10 (Int.toNat (Int.tmod (IntKind.wrap .i64 (v45 + (13 : Int))) (16 : Int))) (0 : Int)) (List.getD b10 (Int.toNat (Int.tmod (IntKind.wrap .i64 (v45 + (8 : Int))) (16 : Int))) (0 : Int))) (List.getD b10 (Int.toNat (Int.tmod (IntKind.wrap .i64 (v45 + (2 : Int))) (16 : Int))) (0 : Int))) (List.getD b10 (Int.toNat (Int.tmod v45 (16 : Int))) (0 : Int))) (1 : Int)).bind fun r1 =>
gd (0 ≤ (Int.tmod v45 (16 : Int))) <|
gd ((Int.tmod v45 (16 : Int)) < (16 : Int)) <|
(math_bits_RotateLeft32 v8 (5 : Int)).bind fun r2 =>
gd ((20 : Int) ≠ 0) <|
(sha_mix (IntKind.wrap .i64 (Int.tdiv v45 (20 : Int))) v9 v10 v11).bind fun r3 =>
gd ((20 : Int) ≠ 0) <|
gd (0 ≤ (IntKind.wrap .i64 (Int.tdiv v45 (20 : Int)))) <|
gd ((IntKind.wrap .i64 (Int.tdiv v45 (20 : Int))) < (4 : Int)) <|
gd ((16 : Int) ≠ 0) <|
gd (0 ≤ (Int.tmod v45 (16 : Int))) <|
gd ((Int.tmod v45 (16 : Int)) < (16 : Int)) <|
(math_bits_RotateLeft32 v9 (30 : Int)).bind fun r4 =>
sha_do_c2 (IntKind.wrap .u32 ((IntKind.wrap .u32 ((IntKind.wrap .u32 ((IntKind.wrap .u32 (r2 + r3)) + v12)) + (List.getD G_quarters (Int.toNat (IntKind.wrap .i64 (Int.tdiv v45 (20 : Int)))) (0 : Int)))) + (List.getD (List.set b10 (Int.toNat (Int.tmod v45 (16 : Int))) r1) (Int.toNat (Int.tmod v45 (16 : Int))) (0 : Int)))) v8 r4 v10 v11 (IntKind.wrap .i64 (v45 + (1 : Int))) b8 b9 (List.set b10 (Int.toNat (Int.tmod v45 (16 : Int))) r1)
else
(math_bits_RotateLeft32 v8 (5 : Int)).bind fun r5 =>
gd ((20 : Int) ≠ 0) <|
(sha_mix (IntKind.wrap .i64 (Int.tdiv v45 (20 : Int))) v9 v10 v11).bind fun r6 =>
gd ((20 : Int) ≠ 0) <|
gd (0 ≤ (IntKind.wrap .i64 (Int.tdiv v45 (20 : Int)))) <|
gd ((IntKind.wrap .i64 (Int.tdiv v45 (20 : Int))) < (4 : Int)) <|
gd ((16 : Int) ≠ 0) <|
gd (0 ≤ (Int.tmod v45 (16 : Int))) <|
gd ((Int.tmod v45 (16 : Int)) < (16 : Int)) <|
(math_bits_RotateLeft32 v9 (30 : Int)).bind fun r7 =>
sha_do_c2 (IntKind.wrap .u32 ((IntKind.wrap .u32 ((IntKind.wrap .u32 ((IntKind.wrap .u32 (r5 + r6)) + v12)) + (List.getD G_quarters (Int.toNat (IntKind.wrap .i64 (Int.tdiv v45 (20 : Int)))) (0 : Int)))) + (List.getD b10 (Int.toNat (Int.tmod v45 (16 : Int))) (0 : Int)))) v8 r7 v10 v11 (IntKind.wrap .i64 (v45 + (1 : Int))) b8 b9 b10
else
gd (0 ≤ (0 : Int)) <|
gd ((0 : Int) < (5 : Int)) <|
gd (0 ≤ (1 : Int)) <|
gd ((1 : Int) < (5 : Int)) <|
gd (0 ≤ (2 : Int)) <|
gd ((2 : Int) < (5 : Int)) <|
gd (0 ≤ (3 : Int)) <|
gd ((3 : Int) < (5 : Int)) <|
gd (0 ≤ (4 : Int)) <|
gd ((4 : Int) < (5 : Int)) <|
some (List.set (List.set (List.set (List.set (List.set (List.replicate 5 (0 : Int)) 0 (IntKind.wrap .u32 ((List.getD b8 0 (0 : Int)) + v8))) 1 (IntKind.wrap .u32 ((List.getD b8 1 (0 : Int)) + v9))) 2 (IntKind.wrap .u32 ((List.getD b8 2 (0 : Int)) + v10))) 3 (IntKind.wrap .u32 ((List.getD b8 3 (0 : Int)) + v11))) 4 (IntKind.wrap .u32 ((List.getD b8 4 (0 : Int)) + v12)))) := (FnI.sem_eq _).trans (by kernel_rfl)
noncomputable def sha_do_S (acc : List AV → Bool) : Summ Tryz.prog GT := sha_do_I.summ mixed acc false false
noncomputable def sha_Sum_I : FnI Tryz.prog GT := { f := 29, cuts := [⟨(5, 3), [2, 4, 5], false, false, []⟩, ⟨(9, 3), [2, 27, 28], false, false, []⟩], tab := [sha_pad_S (fun _ => true), slices_Concat_byte_byte_S (fun _ => true), sha_do_S (fun _ => true)], fm := ⟨true, [.val (.arr 20 (.int .u8)) [], .val (.int .i64) []]⟩ }
noncomputable def sha_Sum (a0 : List Int) : Option ((List Int) × Int) := sha_Sum_I.call [(.sl (.int .u8) false a0)] []
noncomputable def sha_Sum_c1 (v5 : List Int) (b8 : (List Int)) (b9 : (List Int)) : Option ((List Int) × Int) := sha_Sum_I.sem ⟨[.code (cIn (cIn (cSnd (cFst (cSnd (cSnd (cSnd (bodyOf Tryz.prog 29)))))))), .inLoop (cIn (cIn (cSnd (cFst (cSnd (cSnd (cSnd (bodyOf Tryz.prog 29)))))))), .inBlock 0, .code (cSnd (cSnd (cSnd (cSnd (bodyOf Tryz.prog 29)))))], ⟨[(2, (.one (.ptr (.arr 20 (.int .u8)) 8 []))), (4, (.one (.ptr (.arr 5 (.int .u32)) 9 []))), (5, (.one (.sl (.int .u8) true v5)))], [(8, some (.box (.arr 20 (.int .u8)) b8)), (9, some (.box (.arr 5 (.int .u32)) b9))], 10⟩⟩
noncomputable def sha_Sum_c2 (v27 : (List Int)) (v28 : Int) (b8 : (List Int)) : Option ((List Int) × Int) := sha_Sum_I.sem ⟨[.code (cIn (cIn (cSnd (cFst (cSnd (cSnd (cSnd (cSnd (bodyOf Tryz.prog 29))))))))), .inLoop (cIn (cIn (cSnd (cFst (cSnd (cSnd (cSnd (cSnd (bodyOf Tryz.prog 29))))))))), .inBlock 2, .code (cSnd (cSnd (cSnd (cSnd (cSnd (bodyOf Tryz.prog 29))))))], ⟨[(2, (.one (.ptr (.arr 20 (.int .u8)) 8 []))), (27, (.one (.agg (.arr 5 (.int .u32)) v27))), (28, (.one (.int .i64 v28)))], [(8, some (.box (.arr 20 (.int .u8)) b8))], 9⟩⟩
theorem sha_Sum_eq (a0 : List Int) : sha_Sum a0 = (
if (decide ((Int.ofNat (List.length a0)) > (20000 : Int))) = true then
some ((List.replicate 20 (0 : Int)), (4 : Int))
else
(sha_pad (Int.ofNat (List.length a0))).bind fun r1 =>
(slices_Concat_byte_byte [a0, r1]).bind fun r2 =>
sha_Sum_c1 r2 (List.replicate 20 (0 : Int)) (List.set (List.set (List.set (List.set (List.set (List.replicate 5 (0 : Int)) 0 (1732584193 : Int)) 1 (4023233417 : Int)) 2 (2562383102 : Int)) 3 (271733878 : Int)) 4 (3285377520 : Int))) := (FnI.call_eq (by kernel_rfl)).trans (by kernel_rfl)
theorem sha_Sum_c1_eq (v5 : List Int) (b8 : (List Int)) (b9 : (List Int)) : sha_Sum_c1 v5 b8 b9 = (
if (decide ((Int.ofNat (List.length v5)) > (0 : Int))) = true then
(sha_do b9 v5).bind fun r3 =>
gd (0 ≤ (64 : Int)) <|
gd ((64 : Int) ≤ (Int.ofNat (List.length v5))) <|
sha_Sum_c1 (List.drop 64 v5) b8 r3
else
sha_Sum_c2 b9 (0 : Int) b8) := (FnI.sem_eq _).trans (by kernel_rfl)
theorem sha_Sum_c2_eq (v27 : (List Int)) (v28 : Int) (b8 : (List Int)) : sha_Sum_c2 v27 v28 b8 = (
if (decide (v28 < (5 : Int))) = true then
gd (0 ≤ v28) <|
gd (v28 < (5 : Int)) <|
gd (0 ≤ (24 : Int)) <|
gd (0 ≤ (16 : Int)) <|
gd (0 ≤ (8 : Int)) <|
gd (0 ≤ (IntKind.wrap .i64 ((4 : Int) * v28))) <|
gd ((IntKind.wrap .i64 ((4 : Int) * v28)) < (20 : Int)) <|
gd (0 ≤ (IntKind.wrap .i64 ((IntKind.wrap .i64 ((4 : Int) * v28)) + (1 : Int)))) <|
gd ((IntKind.wrap .i64 ((IntKind.wrap .i64 ((4 : Int) * v28)) + (1 : Int))) < (20 : Int)) <|
gd (0 ≤ (IntKind.wrap .i64 ((IntKind.wrap .i64 ((4 : Int) * v28)) + (2 : Int)))) <|
gd ((IntKind.wrap .i64 ((IntKind.wrap .i64 ((4 : Int) * v28)) + (2 : Int))) < (20 : Int)) <|
gd (0 ≤ (IntKind.wrap .i64 ((IntKind.wrap .i64 ((4 : Int) * v28)) + (3 : Int)))) <|
gd ((IntKind.wrap .i64 ((IntKind.wrap .i64 ((4 : Int) * v28)) + (3 : Int))) < (20 : Int)) <|
sha_Sum_c2 v27 (IntKind.wrap .i64 (v28 + (1 : Int))) (List.set (List.set (List.set (List.set b8 (Int.toNat (IntKind.wrap .i64 ((4 : Int) * v28))) (IntKind.wrap .u8 (Int.fdiv (List.getD v27 (Int.toNat v28) (0 : Int)) (16777216 : Int)))) (Int.toNat (IntKind.wrap .i64 ((IntKind.wrap .i64 ((4 : Int) * v28)) + (1 : Int)))) (IntKind.wrap .u8 (Int.fdiv (List.getD v27 (Int.toNat v28) (0 : Int)) (65536 : Int)))) (Int.toNat (IntKind.wrap .i64 ((IntKind.wrap .i64 ((4 : Int) * v28)) + (2 : Int)))) (IntKind.wrap .u8 (Int.fdiv (List.getD v27 (Int.toNat v28) (0 : Int)) (256 : Int)))) (Int.toNat (IntKind.wrap .i64 ((IntKind.wrap .i64 ((4 : Int) * v28)) + (3 : Int)))) (IntKind.wrap .u8 (List.getD v27 (Int.toNat v28) (0 : Int))))
else
some (b8, (0 : Int))) := (FnI.sem_eq _).trans (by kernel_rfl)
noncomputable def sha_Sum_S (acc : List AV → Bool) : Summ Tryz.prog GT := sha_Sum_I.summ mixed acc false false
noncomputable def header_digest_I : FnI Tryz.prog GT := { f := 81, cuts := [], tab := [header_front_S (fun _ => true), sha_Sum_S (fun _ => true)], fm := ⟨true, [.val (.arr 20 (.int .u8)) []]⟩ }
noncomputable def header_digest (a0 : D_api_BlockHead) (a1 : List Int) : Option ((List Int)) := header_digest_I.call [(.agg T_api_BlockHead (inj false T_api_BlockHead a0)), (.sl (.int .u8) false a1)] []
theorem header_digest_eq (a0 : D_api_BlockHead) (a1 : List Int) : header_digest a0 a1 = (
(header_front a0).bind fun r1 =>
gd ((List.length (r1 ++ a1)) * 1 ≤ 140737488355328) <|
(sha_Sum (r1 ++ a1)).bind fun r2 =>
some (r2.1)) := (FnI.call_eq (by kernel_rfl)).trans (by kernel_rfl)
noncomputable def header_digest_S (acc : List AV → Bool) : Summ Tryz.prog GT := header_digest_I.summ mixed acc false false
noncomputable def header_Right_I : FnI Tryz.prog GT := { f := 48, cuts := [], tab := [header_Check_S (fun _ => true), header_digest_S (fun _ => true)], fm := ⟨true, [.val .bool [], .val (.int .i64) []]⟩ }
noncomputable def header_Right (a0 : D_api_BlockHead) (a1 : List Int) : Option (Bool × Int) := header_Right_I.call [(.agg T_api_BlockHead (inj false T_api_BlockHead a0)), (.sl (.int .u8) false a1)] []
theorem header_Right_eq (a0 : D_api_BlockHead) (a1 : List Int) : header_Right a0 a1 = (
(header_Check a0).bind fun r1 =>
if (r1 != (0 : Int)) = true then
some (false, r1)
else
if ((Int.ofNat (List.length a1)) == a0.2.2.2.1) = true then
(header_digest a0 a1).bind fun r2 =>
some ((peq (.arr 20 (.int .u8)) r2 a0.2.2.2.2.2.1), (0 : Int))
else
some (false, (0 : Int))) := (FnI.call_eq (by kernel_rfl)).trans (by kernel_rfl)
noncomputable def header_Right_S (acc : List AV → Bool) : Summ Tryz.prog GT := header_Right_I.summ mixed acc false false
noncomputable def block_Raw_I : FnI Tryz.prog GT := { f := 22, cuts := [], tab := [block_Check_S (fun _ => true), block_isLevel_S (fun _ => true), bytes_Clone_S (fun _ => true), codec_Decode_S (fun _ => true), codec_Encode_S (fun _ => true), bytes_Equal_S (fun _ => true), header_Right_S (fun _ => true)], fm := ⟨true, [.val (.slice (.int .u8)) [.nw], .val (.int .i64) []]⟩ }
noncomputable def block_Raw (a0 : Int) (a1 : D_api_Block) : Option (List Int × Int) := block_Raw_I.call [(.int .i64 a0), (.agg T_api_Block (inj false T_api_Block a1))] []
theorem block_Raw_eq (a0 : Int) (a1 : D_api_Block) : block_Raw a0 a1 = (
(block_Check a1).bind fun r1 =>
if (r1 != (0 : Int)) = true then
some ([], r1)
else
(block_isLevel a0).bind fun r2 =>
if (not r2) = true then
some ([], (2 : Int))
else
(bytes_Clone a1.2.1).bind fun r3 =>
if (a1.1.1 == (2 : Int)) = true then
(codec_Decode a0 a1.2.1 a1.1.2.2.2.1).bind fun r4 =>
if (r4.2 != (0 : Int)) = true then
some ([], (12 : Int))
else
(codec_Encode a0 r4.1).bind fun r5 =>
if (r5.2 != (0 : Int)) = true then
some ([], (12 : Int))
else
(bytes_Equal r5.1 a1.2.1).bind fun r6 =>
if (not r6) = true then
some ([], (12 : Int))
else
(header_Right a1.1 r4.1).bind fun r7 =>
if (not r7.1) = true then
some ([], (22 : Int))
else
some (r4.1, (0 : Int))
else
(header_Right a1.1 r3).bind fun r8 =>
if (not r8.1) = true then
some ([], (22 : Int))
else
some (r3, (0 : Int))) := (FnI.call_eq (by kernel_rfl)).trans (by kernel_rfl)
noncomputable def block_Raw_S (acc : List AV → Bool) : Summ Tryz.prog GT := block_Raw_I.summ mixed acc false false
noncomputable def salvage_Salvage_I : FnI Tryz.prog GT := { f := 6, cuts := [⟨(7, 3), [0, 1, 6, 7, 8], false, false, []⟩], tab := [marker_Find_S (fun _ => true), block_Read_S (fun _ => true), block_Raw_S (fun _ => true)], fm := ⟨true, [.val (.slice T_api_Found) [.nw], .val (.int .i64) []]⟩ }
noncomputable def salvage_Salvage (a0 : Int) (a1 : List Int) : Option (List D_api_Found × Int) := salvage_Salvage_I.call [(.int .i64 a0), (.sl (.int .u8) false a1)] []
noncomputable def salvage_Salvage_c1 (v0 : Int) (v1 : List Int) (v7 : Int) (v8 : Int) (h8 : List D_api_Found) : Option (List D_api_Found × Int) := salvage_Salvage_I.sem ⟨[.code (cIn (cIn (cSnd (cFst (cSnd (cSnd (cSnd (bodyOf Tryz.prog 6)))))))), .inLoop (cIn (cIn (cSnd (cFst (cSnd (cSnd (cSnd (bodyOf Tryz.prog 6)))))))), .inBlock 1, .code (cSnd (cSnd (cSnd (cSnd (bodyOf Tryz.prog 6)))))], ⟨[(0, (.one (.int .i64 v0))), (1, (.one (.sl (.int .u8) false v1))), (6, (.one (.ref T_api_Found 8 0 (List.length h8) true))), (7, (.one (.int .i64 v7))), (8, (.one (.int .i64 v8)))], [(8, some (.row T_api_Found true h8))], 9⟩⟩
theorem salvage_Salvage_eq (a0 : Int) (a1 : List Int) : salvage_Salvage a0 a1 = (
if (decide (a0 < (0 : Int))) = true then
some ([], (2 : Int))
else
if (decide (a0 > (7 : Int))) = true then
some ([], (2 : Int))
else
if (decide ((Int.ofNat (List.length a1)) > (50000 : Int))) = true then
some ([], (4 : Int))
else
(marker_Find a1 (0 : Int)).bind fun r1 =>
salvage_Salvage_c1 a0 a1 r1.1 r1.2 []) := (FnI.call_eq (by kernel_rfl)).trans (by kernel_rfl)
theorem salvage_Salvage_c1_eq (v0 : Int) (v1 : List Int) (v7 : Int) (v8 : Int) (h8 : List D_api_Found) : salvage_Salvage_c1 v0 v1 v7 v8 h8 = (
if (v8 == (0 : Int)) = true then
gd (0 ≤ v7) <|
gd (v7 ≤ (Int.ofNat (List.length v1))) <|
(block_Read (List.drop (Int.toNat v7) v1)).bind fun r2 =>
if (r2.2.2 != (0 : Int)) = true then
(marker_Find v1 (IntKind.wrap .i64 (v7 + (1 : Int)))).bind fun r3 =>
salvage_Salvage_c1 v0 v1 r3.1 r3.2 h8
else
(block_Raw v0 r2.1).bind fun r4 =>
if (r4.2 != (0 : Int)) = true then
(marker_Find v1 (IntKind.wrap .i64 (v7 + (1 : Int)))).bind fun r5 =>
salvage_Salvage_c1 v0 v1 r5.1 r5.2 h8
else
gd ((List.length (h8 ++ [(v7, (r2.1.1, (r4.1, ())))])) * 96 ≤ 140737488355328) <|
(marker_Find v1 (IntKind.wrap .i64 (v7 + r2.2.1))).bind fun r6 =>
salvage_Salvage_c1 v0 v1 r6.1 r6.2 (h8 ++ [(v7, (r2.1.1, (r4.1, ())))])
else
some (h8, (0 : Int))) := (FnI.sem_eq _).trans (by kernel_rfl)
noncomputable def salvage_Salvage_S (acc : List AV → Bool) : Summ Tryz.prog GT := salvage_Salvage_I.summ mixed acc false false
noncomputable def bitloftref28_Name_I : FnI Tryz.prog GT := { f := 61, cuts := [⟨(4, 3), [0, 3], false, false, []⟩], tab := [], fm := ⟨true, [.val .bool []]⟩ }
noncomputable def bitloftref28_Name (a0 : ByteArray) : Option (Bool) := bitloftref28_Name_I.call [(.str a0)] []
noncomputable def bitloftref28_Name_c1 (v0 : ByteArray) (v3 : Int) : Option (Bool) := bitloftref28_Name_I.sem ⟨[.code (cIn (cIn (cSnd (cFst (cSnd (cSnd (bodyOf Tryz.prog 61))))))), .inLoop (cIn (cIn (cSnd (cFst (cSnd (cSnd (bodyOf Tryz.prog 61))))))), .inBlock 0, .code (cSnd (cSnd (cSnd (bodyOf Tryz.prog 61))))], ⟨[(0, (.one (.str v0))), (3, (.one (.int .i64 v3)))], [], 8⟩⟩
theorem bitloftref28_Name_eq (a0 : ByteArray) : bitloftref28_Name a0 = (
if (decide ((Int.ofNat (ByteArray.size a0)) < (1 : Int))) = true then
some (false)
else
if (decide ((Int.ofNat (ByteArray.size a0)) > (40 : Int))) = true then
some (false)
else
bitloftref28_Name_c1 a0 (0 : Int)) := (FnI.call_eq (by kernel_rfl)).trans (by kernel_rfl)
theorem bitloftref28_Name_c1_eq (v0 : ByteArray) (v3 : Int) : bitloftref28_Name_c1 v0 v3 = (
if (decide (v3 < (Int.ofNat (ByteArray.size v0)))) = true then
gd (0 ≤ v3) <|
gd (v3 < (v0.size : Int)) <|
if (decide ((btAt v0 (Int.toNat v3)) < (33 : Int))) = true then
some (false)
else
gd (0 ≤ v3) <|
gd (v3 < (v0.size : Int)) <|
if (decide ((btAt v0 (Int.toNat v3)) > (126 : Int))) = true then
some (false)
else
bitloftref28_Name_c1 v0 (IntKind.wrap .i64 (v3 + (1 : Int)))
else
some (true)) := (FnI.sem_eq _).trans (by kernel_rfl)
noncomputable def bitloftref28_Name_S (acc : List AV → Bool) : Summ Tryz.prog GT := bitloftref28_Name_I.summ mixed acc false false
noncomputable def bitloftref28_Check_I : FnI Tryz.prog GT := { f := 49, cuts := [⟨(5, 3), [0, 3, 4], false, false, []⟩, ⟨(11, 3), [0, 5], false, false, []⟩, ⟨(16, 3), [0, 6], false, false, []⟩, ⟨(19, 7), [0, 6, 7], false, false, []⟩], tab := [bitloftref28_Name_S (fun _ => true)], fm := ⟨true, [.val (.int .i64) []]⟩ }
noncomputable def bitloftref28_Check (a0 : List D_api_Member) : Option (Int) := bitloftref28_Check_I.call [(.sl T_api_Member false a0)] []
noncomputable def bitloftref28_Check_c1 (v0 : List D_api_Member) (v3 : Int) (v4 : Int) : Option (Int) := bitloftref28_Check_I.sem ⟨[.code (cIn (cIn (cSnd (cFst (cSnd (cSnd (cSnd (bodyOf Tryz.prog 49)))))))), .inLoop (cIn (cIn (cSnd (cFst (cSnd (cSnd (cSnd (bodyOf Tryz.prog 49)))))))), .inBlock 0, .code (cSnd (cSnd (cSnd (cSnd (bodyOf Tryz.prog 49)))))], ⟨[(0, (.one (.sl T_api_Member false v0))), (3, (.one (.int .i64 v3))), (4, (.one (.int .i64 v4)))], [], 8⟩⟩
noncomputable def bitloftref28_Check_c2 (v0 : List D_api_Member) (v5 : Int) : Option (Int) := bitloftref28_Check_I.sem ⟨[.code (cIn (cIn (cSnd (cFst (cSnd (cSnd (cSnd (cSnd (cSnd (bodyOf Tryz.prog 49)))))))))), .inLoop (cIn (cIn (cSnd (cFst (cSnd (cSnd (cSnd (cSnd (cSnd (bodyOf Tryz.prog 49)))))))))), .inBlock 2, .code (cSnd (cSnd (cSnd (cSnd (cSnd (cSnd (bodyOf Tryz.prog 49)))))))], ⟨[(0, (.one (.sl T_api_Member false v0))), (5, (.one (.int .i64 v5)))], [], 8⟩⟩
noncomputable def bitloftref28_Check_c3 (v0 : List D_api_Member) (v6 : Int) : Option (Int) := bitloftref28_Check_I.sem ⟨[.code (cIn (cIn (cSnd (cFst (cSnd (cSnd (cSnd (cSnd (cSnd (cSnd (bodyOf Tryz.prog 49))))))))))), .inLoop (cIn (cIn (cSnd (cFst (cSnd (cSnd (cSnd (cSnd (cSnd (cSnd (bodyOf Tryz.prog 49))))))))))), .inBlock 4, .code (cSnd (cSnd (cSnd (cSnd (cSnd (cSnd (cSnd (bodyOf Tryz.prog 49))))))))], ⟨[(0, (.one (.sl T_api_Member false v0))), (6, (.one (.int .i64 v6)))], [], 8⟩⟩
noncomputable def bitloftref28_Check_c4 (v0 : List D_api_Member) (v6 : Int) (v7 : Int) : Option (Int) := bitloftref28_Check_I.sem ⟨[.code (cIn (cIn (cSnd (cIn (cFst (cSnd (cIn (cIn (cSnd (cFst (cSnd (cSnd (cSnd (cSnd (cSnd (cSnd (bodyOf Tryz.prog 49))))))))))))))))), .inLoop (cIn (cIn (cSnd (cIn (cFst (cSnd (cIn (cIn (cSnd (cFst (cSnd (cSnd (cSnd (cSnd (cSnd (cSnd (bodyOf Tryz.prog 49))))))))))))))))), .inBlock 6, .inBlock 5, .code (cSnd (cSnd (cIn (cIn (cSnd (cFst (cSnd (cSnd (cSnd (cSnd (cSnd (cSnd (bodyOf Tryz.prog 49))))))))))))), .inLoop (cIn (cIn (cSnd (cFst (cSnd (cSnd (cSnd (cSnd (cSnd (cSnd (bodyOf Tryz.prog 49))))))))))), .inBlock 4, .code (cSnd (cSnd (cSnd (cSnd (cSnd (cSnd (cSnd (bodyOf Tryz.prog 49))))))))], ⟨[(0, (.one (.sl T_api_Member false v0))), (6, (.one (.int .i64 v6))), (7, (.one (.int .i64 v7)))], [], 8⟩⟩
theorem bitloftref28_Check_eq (a0 : List D_api_Member) : bitloftref28_Check a0 = (
if (decide ((Int.ofNat (List.length a0)) > (16 : Int))) = true then
some (4 : Int)
else
bitloftref28_Check_c1 a0 (0 : Int) (0 : Int)) := (FnI.call_eq (by kernel_rfl)).trans (by kernel_rfl)
theorem bitloftref28_Check_c1_eq (v0 : List D_api_Member) (v3 : Int) (v4 : Int) : bitloftref28_Check_c1 v0 v3 v4 = (
if (decide (v4 < (Int.ofNat (List.length v0)))) = true then
gd (0 ≤ v4) <|
gd (v4 < (Int.ofNat (List.length v0))) <|
bitloftref28_Check_c1 v0 (IntKind.wrap .i64 (v3 + (Int.ofNat (List.length (List.getD v0 (Int.toNat v4) (pzero T_api_Member)).2.1)))) (IntKind.wrap .i64 (v4 + (1 : Int)))
else
if (decide (v3 > (8192 : Int))) = true then
some (4 : Int)
else
bitloftref28_Check_c2 v0 (0 : Int)) := (FnI.sem_eq _).trans (by kernel_rfl)
theorem bitloftref28_Check_c2_eq (v0 : List D_api_Member) (v5 : Int) : bitloftref28_Check_c2 v0 v5 = (
if (decide (v5 < (Int.ofNat (List.length v0)))) = true then
gd (0 ≤ v5) <|
gd (v5 < (Int.ofNat (List.length v0))) <|
(bitloftref28_Name (List.getD v0 (Int.toNat v5) (pzero T_api_Member)).1).bind fun r1 =>
if (not r1) = true then
some (8 : Int)
else
bitloftref28_Check_c2 v0 (IntKind.wrap .i64 (v5 + (1 : Int)))
else
bitloftref28_Check_c3 v0 (0 : Int)) := (FnI.sem_eq _).trans (by kernel_rfl)
theorem bitloftref28_Check_c3_eq (v0 : List D_api_Member) (v6 : Int) : bitloftref28_Check_c3 v0 v6 = (
if (decide (v6 < (Int.ofNat (List.length v0)))) = true then
bitloftref28_Check_c4 v0 v6 (0 : Int)
else
some (0 : Int)) := (FnI.sem_eq _).trans (by kernel_rfl)
theorem bitloftref28_Check_c4_eq (v0 : List D_api_Member) (v6 : Int) (v7 : Int) : bitloftref28_Check_c4 v0 v6 v7 = (
if (decide (v7 < v6)) = true then
gd (0 ≤ v7) <|
gd (v7 < (Int.ofNat (List.length v0))) <|
gd (0 ≤ v6) <|
gd (v6 < (Int.ofNat (List.length v0))) <|
if ((ByteArray.toList (List.getD v0 (Int.toNat v7) (pzero T_api_Member)).1) == (ByteArray.toList (List.getD v0 (Int.toNat v6) (pzero T_api_Member)).1)) = true then
some (14 : Int)
else
bitloftref28_Check_c4 v0 v6 (IntKind.wrap .i64 (v7 + (1 : Int)))
else
bitloftref28_Check_c3 v0 (IntKind.wrap .i64 (v6 + (1 : Int)))) := (FnI.sem_eq _).trans (by kernel_rfl)
noncomputable def bitloftref28_Check_S (acc : List AV → Bool) : Summ Tryz.prog GT := bitloftref28_Check_I.summ mixed acc false false
noncomputable def bitloftref01_Padding_I : FnI Tryz.prog GT := { f := 83, cuts := [⟨(2, 3), [0, 3], false, false, []⟩, ⟨(5, 3), [0, 3, 4], false, false, []⟩], tab := [], fm := ⟨true, [.val (.slice (.int .u8)) [.nw]]⟩ }
noncomputable def bitloftref01_Padding (a0 : Int) : Option (List Int) := bitloftref01_Padding_I.call [(.int .i64 a0)] []
noncomputable def bitloftref01_Padding_c1 (v0 : Int) (h8 : List Int) : Option (List Int) := bitloftref01_Padding_I.sem ⟨[.code (cIn (cIn (cFst (cSnd (cSnd (bodyOf Tryz.prog 83)))))), .inLoop (cIn (cIn (cFst (cSnd (cSnd (bodyOf Tryz.prog 83)))))), .inBlock 0, .code (cSnd (cSnd (cSnd (bodyOf Tryz.prog 83))))], ⟨[(0, (.one (.int .i64 v0))), (3, (.one (.ref (.int .u8) 8 0 (List.length h8) true)))], [(8, some (.row (.int .u8) true h8))], 9⟩⟩
noncomputable def bitloftref01_Padding_c2 (v0 : Int) (v4 : Int) (h8 : List Int) : Option (List Int) := bitloftref01_Padding_I.sem ⟨[.code (cIn (cIn (cSnd (cFst (cSnd (cSnd (cSnd (bodyOf Tryz.prog 83)))))))), .inLoop (cIn (cIn (cSnd (cFst (cSnd (cSnd (cSnd (bodyOf Tryz.prog 83)))))))), .inBlock 2, .code (cSnd (cSnd (cSnd (cSnd (bodyOf Tryz.prog 83)))))], ⟨[(0, (.one (.int .i64 v0))), (3, (.one (.ref (.int .u8) 8 0 (List.length h8) true))), (4, (.one (.int .i64 v4)))], [(8, some (.row (.int .u8) true h8))], 9⟩⟩
theorem bitloftref01_Padding_eq (a0 : Int) : bitloftref01_Padding a0 = (
bitloftref01_Padding_c1 a0 [(128 : Int)]) := (FnI.call_eq (by kernel_rfl)).trans (by kernel_rfl)
theorem bitloftref01_Padding_c1_eq (v0 : Int) (h8 : List Int) : bitloftref01_Padding_c1 v0 h8 = (
gd ((64 : Int) ≠ 0) <|
if ((Int.tmod (IntKind.wrap .i64 ((IntKind.wrap .i64 (v0 + (Int.ofNat (List.length h8)))) + (8 : Int))) (64 : Int)) != (0 : Int)) = true then
gd ((List.length (h8 ++ [(0 : Int)])) * 1 ≤ 140737488355328) <|
bitloftref01_Padding_c1 v0 (h8 ++ [(0 : Int)])
else
bitloftref01_Padding_c2 v0 (7 : Int) h8) := (FnI.sem_eq _).trans (by kernel_rfl)
theorem bitloftref01_Padding_c2_eq (v0 : Int) (v4 : Int) (h8 : List Int) : bitloftref01_Padding_c2 v0 v4 h8 = (
if (decide (v4 ≥ (0 : Int))) = true then
gd (0 ≤ (IntKind.wrap .i64 ((8 : Int) * v4))) <|
gd ((List.length (h8 ++ [(IntKind.wrap .u8 (shrBy .u64 (IntKind.wrap .u64 ((8 : Int) * (IntKind.wrap .u64 v0))) (IntKind.wrap .i64 ((8 : Int) * v4))))])) * 1 ≤ 140737488355328) <|
bitloftref01_Padding_c2 v0 (IntKind.wrap .i64 (v4 - (1 : Int))) (h8 ++ [(IntKind.wrap .u8 (shrBy .u64 (IntKind.wrap .u64 ((8 : Int) * (IntKind.wrap .u64 v0))) (IntKind.wrap .i64 ((8 : Int) * v4))))])
else
some (h8)) := (FnI.sem_eq _).trans (by kernel_rfl)
noncomputable def bitloftref01_Padding_S (acc : List AV → Bool) : Summ Tryz.prog GT := bitloftref01_Padding_I.summ mixed acc false false
noncomputable def bitloftref01_First_I : FnI Tryz.prog GT := { f := 84, cuts := [], tab := [], fm := ⟨true, [.val (.arr 5 (.int .u32)) []]⟩ }
noncomputable def bitloftref01_First : Option ((List Int)) := bitloftref01_First_I.call [] []
theorem bitloftref01_First_eq : bitloftref01_First = (
some (List.set (List.set (List.set (List.set (List.set (List.replicate 5 (0 : Int)) 0 (1732584193 : Int)) 1 (4023233417 : Int)) 2 (2562383102 : Int)) 3 (271733878 : Int)) 4 (3285377520 : Int))) := (FnI.call_eq (by kernel_rfl)).trans (by kernel_rfl)
noncomputable def bitloftref01_First_S (acc : List AV → Bool) : Summ Tryz.prog GT := bitloftref01_First_I.summ mixed acc false false
noncomputable def bitloftref01_turn_I : FnI Tryz.prog GT := { f := 110, cuts := [], tab := [], fm := ⟨true, [.val (.int .u32) []]⟩ }
noncomputable def bitloftref01_turn (a0 : Int) (a1 : Int) : Option (Int) := bitloftref01_turn_I.call [(.int .u32 a0), (.int .i64 a1)] []
theorem bitloftref01_turn_eq (a0 : Int) (a1 : Int) : bitloftref01_turn a0 a1 = (
gd (0 ≤ a1) <|
gd (0 ≤ (IntKind.wrap .i64 ((32 : Int) - a1))) <|
some (bitsOr .u32 (IntKind.wrap .u32 (shlBy .u32 a0 a1)) (shrBy .u32 a0 (IntKind.wrap .i64 ((32 : Int) - a1))))) := (FnI.call_eq (by kernel_rfl)).trans (by kernel_rfl)
noncomputable def bitloftref01_turn_S (acc : List AV → Bool) : Summ Tryz.prog GT := bitloftref01_turn_I.summ mixed acc false false
noncomputable def bitloftref01_part_I : FnI Tryz.prog GT := { f := 111, cuts := [], tab := [], fm := ⟨true, [.val (.int .u32) [], .val (.int .u32) []]⟩ }
noncomputable def bitloftref01_part (a0 : Int) (a1 : Int) (a2 : Int) (a3 : Int) : Option (Int × Int) := bitloftref01_part_I.call [(.int .i64 a0), (.int .u32 a1), (.int .u32 a2), (.int .u32 a3)] []
theorem bitloftref01_part_eq (a0 : Int) (a1 : Int) (a2 : Int) (a3 : Int) : bitloftref01_part a0 a1 a2 a3 = (
if (decide (a0 < (20 : Int))) = true then
some ((bitsOr .u32 (bitsAnd .u32 a1 a2) (bitsAnd .u32 (bitsXor .u32 (4294967295 : Int) a1) a3)), (1518500249 : Int))
else
if (decide (a0 < (40 : Int))) = true then
some ((bitsXor .u32 (bitsXor .u32 a1 a2) a3), (1859775393 : Int))
else
if (decide (a0 < (60 : Int))) = true then
some ((bitsOr .u32 (bitsOr .u32 (bitsAnd .u32 a1 a2) (bitsAnd .u32 a1 a3)) (bitsAnd .u32 a2 a3)), (2400959708 : Int))
else
some ((bitsXor .u32 (bitsXor .u32 a1 a2) a3), (3395469782 : Int))) := (FnI.call_eq (by kernel_rfl)).trans (by kernel_rfl)
noncomputable def bitloftref01_part_S (acc : List AV → Bool) : Summ Tryz.prog GT := bitloftref01_part_I.summ mixed acc false false
noncomputable def bitloftref01_Done_I : FnI Tryz.prog GT := { f := 85, cuts := [⟨(3, 3), [1, 2, 4, 5, 6], false, false, []⟩, ⟨(7, 3), [2, 4, 5, 7], false, false, []⟩, ⟨(12, 3), [2, 4, 5, 8, 9], false, false, []⟩, ⟨(17, 3), [2, 4, 8, 12], false, false, []⟩], tab := [bitloftref01_turn_S (fun _ => true), bitloftref01_part_S (fun _ => true)], fm := ⟨true, [.val (.arr 5 (.int .u32)) []]⟩ }
noncomputable def bitloftref01_Done (a0 : (List Int)) (a1 : List Int) : Option ((List Int)) := bitloftref01_Done_I.call [(.agg (.arr 5 (.int .u32)) a0), (.sl (.int .u8) false a1)] []
noncomputable def bitloftref01_Done_c1 (v1 : List Int) (v6 : Int) (b8 : (List Int)) (b9 : (List Int)) (h10 : List Int) : Option ((List Int)) := bitloftref01_Done_I.sem ⟨[.code (cIn (cIn (cSnd (cFst (cSnd (cSnd (bodyOf Tryz.prog 85))))))), .inLoop (cIn (cIn (cSnd (cFst (cSnd (cSnd (bodyOf Tryz.prog 85))))))), .inBlock 0, .code (cSnd (cSnd (cSnd (bodyOf Tryz.prog 85))))], ⟨[(1, (.one (.sl (.int .u8) false v1))), (2, (.one (.ptr (.arr 5 (.int .u32)) 8 []))), (4, (.one (.ptr (.arr 5 (.int .u32)) 9 []))), (5, (.one (.ref (.int .u32) 10 0 (List.length h10) true))), (6, (.one (.int .i64 v6)))], [(8, some (.box (.arr 5 (.int .u32)) b8)), (9, some (.box (.arr 5 (.int .u32)) b9)), (10, some (.row (.int .u32) true h10))], 11⟩⟩
noncomputable def bitloftref01_Done_c2 (v7 : Int) (b8 : (List Int)) (b9 : (List Int)) (h10 : List Int) : Option ((List Int)) := bitloftref01_Done_I.sem ⟨[.code (cIn (cIn (cSnd (cFst (cSnd (cSnd (cSnd (bodyOf Tryz.prog 85)))))))), .inLoop (cIn (cIn (cSnd (cFst (cSnd (cSnd (cSnd (bodyOf Tryz.prog 85)))))))), .inBlock 2, .code (cSnd (cSnd (cSnd (cSnd (bodyOf Tryz.prog 85)))))], ⟨[(2, (.one (.ptr (.arr 5 (.int .u32)) 8 []))), (4, (.one (.ptr (.arr 5 (.int .u32)) 9 []))), (5, (.one (.ref (.int .u32) 10 0 (List.length h10) true))), (7, (.one (.int .i64 v7)))], [(8, some (.box (.arr 5 (.int .u32)) b8)), (9, some (.box (.arr 5 (.int .u32)) b9)), (10, some (.row (.int .u32) true h10))], 11⟩⟩
noncomputable def bitloftref01_Done_c3 (v9 : Int) (b8 : (List Int)) (b9 : (List Int)) (h10 : List Int) (b11 : (List Int)) : Option ((List Int)) := bitloftref01_Done_I.sem ⟨[.code (cIn (cIn (cSnd (cFst (cSnd (cSnd (cSnd (cSnd (cSnd (bodyOf Tryz.prog 85)))))))))), .inLoop (cIn (cIn (cSnd (cFst (cSnd (cSnd (cSnd (cSnd (cSnd (bodyOf Tryz.prog 85)))))))))), .inBlock 4, .code (cSnd (cSnd (cSnd (cSnd (cSnd (cSnd (bodyOf Tryz.prog 85)))))))], ⟨[(2, (.one (.ptr (.arr 5 (.int .u32)) 8 []))), (4, (.one (.ptr (.arr 5 (.int .u32)) 9 []))), (5, (.one (.ref (.int .u32) 10 0 (List.length h10) true))), (8, (.one (.ptr (.arr 5 (.int .u32)) 11 []))), (9, (.one (.int .i64 v9)))], [(8, some (.box (.arr 5 (.int .u32)) b8)), (9, some (.box (.arr 5 (.int .u32)) b9)), (10, some (.row (.int .u32) true h10)), (11, some (.box (.arr 5 (.int .u32)) b11))], 12⟩⟩
noncomputable def bitloftref01_Done_c4 (v12 : Int) (b8 : (List Int)) (b9 : (List Int)) (b10 : (List Int)) : Option ((List Int)) := bitloftref01_Done_I.sem ⟨[.code (cIn (cIn (cSnd (cFst (cSnd (cSnd (cSnd (cSnd (cSnd (cSnd (bodyOf Tryz.prog 85))))))))))), .inLoop (cIn (cIn (cSnd (cFst (cSnd (cSnd (cSnd (cSnd (cSnd (cSnd (bodyOf Tryz.prog 85))))))))))), .inBlock 6, .code (cSnd (cSnd (cSnd (cSnd (cSnd (cSnd (cSnd (bodyOf Tryz.prog 85))))))))], ⟨[(2, (.one (.ptr (.arr 5 (.int .u32)) 8 []))), (4, (.one (.ptr (.arr 5 (.int .u32)) 9 []))), (8, (.one (.ptr (.arr 5 (.int .u32)) 10 []))), (12, (.one (.int .i64 v12)))], [(8, some (.box (.arr 5 (.int .u32)) b8)), (9, some (.box (.arr 5 (.int .u32)) b9)), (10, some (.box (.arr 5 (.int .u32)) b10))], 11⟩⟩
theorem bitloftref01_Done_eq (a0 : (List Int)) (a1 : List Int) : bitloftref01_Done a0 a1 = (
bitloftref01_Done_c1 a1 (0 : Int) a0 (List.replicate 5 (0 : Int)) []) := (FnI.call_eq (by kernel_rfl)).trans (by kernel_rfl)
theorem bitloftref01_Done_c1_eq (v1 : List Int) (v6 : Int) (b8 : (List Int)) (b9 : (List Int)) (h10 : List Int) : bitloftref01_Done_c1 v1 v6 b8 b9 h10 = (
if (decide (v6 < (16 : Int))) = true then
gd (0 ≤ (IntKind.wrap .i64 ((4 : Int) * v6))) <|
gd ((IntKind.wrap .i64 ((4 : Int) * v6)) < (Int.ofNat (List.length v1))) <|
gd (0 ≤ (IntKind.wrap .i64 ((IntKind.wrap .i64 ((4 : Int) * v6)) + (1 : Int)))) <|
gd ((IntKind.wrap .i64 ((IntKind.wrap .i64 ((4 : Int) * v6)) + (1 : Int))) < (Int.ofNat (List.length v1))) <|
gd (0 ≤ (IntKind.wrap .i64 ((IntKind.wrap .i64 ((4 : Int) * v6)) + (2 : Int)))) <|
gd ((IntKind.wrap .i64 ((IntKind.wrap .i64 ((4 : Int) * v6)) + (2 : Int))) < (Int.ofNat (List.length v1))) <|
gd (0 ≤ (IntKind.wrap .i64 ((IntKind.wrap .i64 ((4 : Int) * v6)) + (3 : Int)))) <|
gd ((IntKind.wrap .i64 ((IntKind.wrap .i64 ((4 : Int) * v6)) + (3 : Int))) < (Int.ofNat (List.length v1))) <|
gd ((List.length (h10 ++ [(IntKind.wrap .u32 ((IntKind.wrap .u32 ((IntKind.wrap .u32 ((IntKind.wrap .u32 ((IntKind.wrap .u32 ((IntKind.wrap .u32 ((IntKind.wrap .u32 (List.getD v1 (Int.toNat (IntKind.wrap .i64 ((4 : Int) * v6))) (0 : Int))) * (256 : Int))) + (IntKind.wrap .u32 (List.getD v1 (Int.toNat (IntKind.wrap .i64 ((IntKind.wrap .i64 ((4 : Int) * v6)) + (1 : Int)))) (0 : Int))))) * (256 : Int))) + (IntKind.wrap .u32 (List.getD v1 (Int.toNat (IntKind.wrap .i64 ((IntKind.wrap .i64 ((4 : Int) * v6)) + (2 : Int)))) (0 : Int))))) * (256 : Int))) + (IntKind.wrap .u32 (List.getD v1 (Int.toNat (IntKind.wrap .i64 ((IntKind.wrap .i64 ((4 : Int) * v6)) + (3 : Int)))) (0 : Int)))))])) * 4 ≤ 140737488355328) <|
bitloftref01_Done_c1 v1 (IntKind.wrap .i64 (v6 + (1 : Int))) b8 b9 (h10 ++ [(IntKind.wrap .u32 ((IntKind.wrap .u32 ((IntKind.wrap .u32 ((IntKind.wrap .u32 ((IntKind.wrap .u32 ((IntKind.wrap .u32 ((IntKind.wrap .u32 (List.getD v1 (Int.toNat (IntKind.wrap .i64 ((4 : Int) * v6))) (0 : Int))) * (256 : Int))) + (IntKind.wrap .u32 (List.getD v1 (Int.toNat (IntKind.wrap .i64 ((IntKind.wrap .i64 ((4 : Int) * v6)) + (1 : Int)))) (0 : Int))))) * (256 : Int))) + (IntKind.wrap .u32 (List.getD v1 (Int.toNat (IntKind.wrap .i64 ((IntKind.wrap .i64 ((4 : Int) * v6)) + (2 : Int)))) (0 : Int))))) * (256 : Int))) + (IntKind.wrap .u32 (List.getD v1 (Int.toNat (IntKind.wrap .i64 ((IntKind.wrap .i64 ((4 : Int) * v6)) + (3 : Int)))) (0 : Int)))))])
else
bitloftref01_Done_c2 (16 : Int) b8 b9 h10) := (FnI.sem_eq _).trans (by kernel_rfl)
theorem bitloftref01_Done_c2_eq (v7 : Int) (b8 : (List Int)) (b9 : (List Int)) (h10 : List Int) : bitloftref01_Done_c2 v7 b8 b9 h10 = (
if (decide (v7 < (80 : Int))) = true then
gd (0 ≤ (IntKind.wrap .i64 (v7 - (3 : Int)))) <|
gd ((IntKind.wrap .i64 (v7 - (3 : Int))) < (Int.ofNat (List.length h10))) <|
gd (0 ≤ (IntKind.wrap .i64 (v7 - (8 : Int)))) <|
gd ((IntKind.wrap .i64 (v7 - (8 : Int))) < (Int.ofNat (List.length h10))) <|
gd (0 ≤ (IntKind.wrap .i64 (v7 - (14 : Int)))) <|
gd ((IntKind.wrap .i64 (v7 - (14 : Int))) < (Int.ofNat (List.length h10))) <|
gd (0 ≤ (IntKind.wrap .i64 (v7 - (16 : Int)))) <|
gd ((IntKind.wrap .i64 (v7 - (16 : Int))) < (Int.ofNat (List.length h10))) <|
(bitloftref01_turn (bitsXor .u32 (bitsXor .u32 (bitsXor .u32 (List.getD h10 (0 + (Int.toNat (IntKind.wrap .i64 (v7 - (3 : Int))))) (0 : Int)) (List.getD h10 (0 + (Int.toNat (IntKind.wrap .i64 (v7 - (8 : Int))))) (0 : Int))) (List.getD h10 (0 + (Int.toNat (IntKind.wrap .i64 (v7 - (14 : Int))))) (0 : Int))) (List.getD h10 (0 + (Int.toNat (IntKind.wrap .i64 (v7 - (16 : Int))))) (0 : Int))) (1 : Int)).bind fun r1 =>
gd ((List.length (h10 ++ [r1])) * 4 ≤ 140737488355328) <|
bitloftref01_Done_c2 (IntKind.wrap .i64 (v7 + (1 : Int))) b8 b9 (h10 ++ [r1])
else
bitloftref01_Done_c3 (0 : Int) b8 b9 h10 b8) := (FnI.sem_eq _).trans (by kernel_rfl)
theorem bitloftref01_Done_c3_eq (v9 : Int) (b8 : (List Int)) (b9 : (List Int)) (h10 : List Int) (b11 : (List Int)) : bitloftref01_Done_c3 v9 b8 b9 h10 b11 = (
if (decide (v9 < (80 : Int))) = true then
gd (0 ≤ (1 : Int)) <|
gd ((1 : Int) < (5 : Int)) <|
gd (0 ≤ (2 : Int)) <|
gd ((2 : Int) < (5 : Int)) <|
gd (0 ≤ (3 : Int)) <|
gd ((3 : Int) < (5 : Int)) <|
(bitloftref01_part v9 (List.getD b11 1 (0 : Int)) (List.getD b11 2 (0 : Int)) (List.getD b11 3 (0 : Int))).bind fun r2 =>
gd (0 ≤ (0 : Int)) <|
gd ((0 : Int) < (5 : Int)) <|
(bitloftref01_turn (List.getD b11 0 (0 : Int)) (5 : Int)).bind fun r3 =>
gd (0 ≤ (4 : Int)) <|
gd ((4 : Int) < (5 : Int)) <|
gd (0 ≤ v9) <|
gd (v9 < (Int.ofNat (List.length h10))) <|
gd (0 ≤ (0 : Int)) <|
gd ((0 : Int) < (5 : Int)) <|
gd (0 ≤ (1 : Int)) <|
gd ((1 : Int) < (5 : Int)) <|
(bitloftref01_turn (List.getD b11 1 (0 : Int)) (30 : Int)).bind fun r4 =>
gd (0 ≤ (2 : Int)) <|
gd ((2 : Int) < (5 : Int)) <|
gd (0 ≤ (3 : Int)) <|
gd ((3 : Int) < (5 : Int)) <|
bitloftref01_Done_c3 (IntKind.wrap .i64 (v9 + (1 : Int))) b8 b9 h10 (List.set (List.set (List.set (List.set (List.set (List.replicate 5 (0 : Int)) 0 (IntKind.wrap .u32 ((IntKind.wrap .u32 ((IntKind.wrap .u32 ((IntKind.wrap .u32 (r3 + r2.1)) + (List.getD b11 4 (0 : Int)))) + r2.2)) + (List.getD h10 (0 + (Int.toNat v9)) (0 : Int))))) 1 (List.getD b11 0 (0 : Int))) 2 r4) 3 (List.getD b11 2 (0 : Int))) 4 (List.getD b11 3 (0 : Int)))
else
bitloftref01_Done_c4 (0 : Int) b8 b9 b11) := (FnI.sem_eq _).trans (by kernel_rfl)
theorem bitloftref01_Done_c4_eq (v12 : Int) (b8 : (List Int)) (b9 : (List Int)) (b10 : (List Int)) : bitloftref01_Done_c4 v12 b8 b9 b10 = (
if (decide (v12 < (5 : Int))) = true then
gd (0 ≤ v12) <|
gd (v12 < (5 : Int)) <|
gd (0 ≤ v12) <|
gd (v12 < (5 : Int)) <|
gd (0 ≤ v12) <|
gd (v12 < (5 : Int)) <|
bitloftref01_Done_c4 (IntKind.wrap .i64 (v12 + (1 : Int))) (List.set b8 (Int.toNat v12) (IntKind.wrap .u32 ((List.getD b8 (Int.toNat v12) (0 : Int)) + (List.getD b10 (Int.toNat v12) (0 : Int))))) b9 b10
else
some (b8)) := (FnI.sem_eq _).trans (by kernel_rfl)
noncomputable def bitloftref01_Done_S (acc : List AV → Bool) : Summ Tryz.prog GT := bitloftref01_Done_I.summ mixed acc false false
noncomputable def bitloftref01_Of_I : FnI Tryz.prog GT := { f := 54, cuts := [⟨(4, 3), [2, 3, 4, 5], false, false, []⟩, ⟨(9, 3), [2, 4, 6, 7], false, false, []⟩], tab := [bitloftref01_Padding_S (fun _ => true), bitloftref01_First_S (fun _ => true), bitloftref01_Done_S (fun _ => true)], fm := ⟨true, [.val (.arr 20 (.int .u8)) []]⟩ }
noncomputable def bitloftref01_Of (a0 : List Int) : Option ((List Int)) := bitloftref01_Of_I.call [(.sl (.int .u8) false a0)] []
noncomputable def bitloftref01_Of_c1 (v5 : Int) (b8 : (List Int)) (h9 : List Int) (b10 : (List Int)) : Option ((List Int)) := bitloftref01_Of_I.sem ⟨[.code (cIn (cIn (cSnd (cFst (cSnd (cSnd (cSnd (bodyOf Tryz.prog 54)))))))), .inLoop (cIn (cIn (cSnd (cFst (cSnd (cSnd (cSnd (bodyOf Tryz.prog 54)))))))), .inBlock 0, .code (cSnd (cSnd (cSnd (cSnd (bodyOf Tryz.prog 54)))))], ⟨[(2, (.one (.ptr (.arr 20 (.int .u8)) 8 []))), (3, (.one (.ref (.int .u8) 9 0 (List.length h9) true))), (4, (.one (.ptr (.arr 5 (.int .u32)) 10 []))), (5, (.one (.int .i64 v5)))], [(8, some (.box (.arr 20 (.int .u8)) b8)), (9, some (.row (.int .u8) true h9)), (10, some (.box (.arr 5 (.int .u32)) b10))], 11⟩⟩
noncomputable def bitloftref01_Of_c2 (v7 : Int) (b8 : (List Int)) (b9 : (List Int)) (b10 : (List Int)) : Option ((List Int)) := bitloftref01_Of_I.sem ⟨[.code (cIn (cIn (cSnd (cFst (cSnd (cSnd (cSnd (cSnd (cSnd (bodyOf Tryz.prog 54)))))))))), .inLoop (cIn (cIn (cSnd (cFst (cSnd (cSnd (cSnd (cSnd (cSnd (bodyOf Tryz.prog 54)))))))))), .inBlock 2, .code (cSnd (cSnd (cSnd (cSnd (cSnd (cSnd (bodyOf Tryz.prog 54)))))))], ⟨[(2, (.one (.ptr (.arr 20 (.int .u8)) 8 []))), (4, (.one (.ptr (.arr 5 (.int .u32)) 9 []))), (6, (.one (.ptr (.arr 20 (.int .u8)) 10 []))), (7, (.one (.int .i64 v7)))], [(8, some (.box (.arr 20 (.int .u8)) b8)), (9, some (.box (.arr 5 (.int .u32)) b9)), (10, some (.box (.arr 20 (.int .u8)) b10))], 11⟩⟩
theorem bitloftref01_Of_eq (a0 : List Int) : bitloftref01_Of a0 = (
gd ((List.length ([] ++ a0)) * 1 ≤ 140737488355328) <|
(bitloftref01_Padding (Int.ofNat (List.length a0))).bind fun r1 =>
gd ((List.length (([] ++ a0) ++ r1)) * 1 ≤ 140737488355328) <|
(bitloftref01_First).bind fun r2 =>
bitloftref01_Of_c1 (0 : Int) (List.replicate 20 (0 : Int)) (([] ++ a0) ++ r1) r2) := (FnI.call_eq (by kernel_rfl)).trans (by kernel_rfl)
theorem bitloftref01_Of_c1_eq (v5 : Int) (b8 : (List Int)) (h9 : List Int) (b10 : (List Int)) : bitloftref01_Of_c1 v5 b8 h9 b10 = (
if (decide (v5 < (Int.ofNat (List.length h9)))) = true then
gd (0 ≤ v5) <|
gd (v5 ≤ (IntKind.wrap .i64 (v5 + (64 : Int)))) <|
gd ((IntKind.wrap .i64 (v5 + (64 : Int))) ≤ (Int.ofNat (List.length h9))) <|
(bitloftref01_Done b10 (List.take ((Int.toNat (IntKind.wrap .i64 (v5 + (64 : Int)))) - (Int.toNat v5)) (List.drop (0 + (Int.toNat v5)) h9))).bind fun r3 =>
bitloftref01_Of_c1 (IntKind.wrap .i64 (v5 + (64 : Int))) b8 h9 r3
else
bitloftref01_Of_c2 (0 : Int) b8 b10 (List.replicate 20 (0 : Int))) := (FnI.sem_eq _).trans (by kernel_rfl)
theorem bitloftref01_Of_c2_eq (v7 : Int) (b8 : (List Int)) (b9 : (List Int)) (b10 : (List Int)) : bitloftref01_Of_c2 v7 b8 b9 b10 = (
if (decide (v7 < (20 : Int))) = true then
gd ((4 : Int) ≠ 0) <|
gd (0 ≤ (IntKind.wrap .i64 (Int.tdiv v7 (4 : Int)))) <|
gd ((IntKind.wrap .i64 (Int.tdiv v7 (4 : Int))) < (5 : Int)) <|
gd ((4 : Int) ≠ 0) <|
gd (0 ≤ (IntKind.wrap .i64 ((24 : Int) - (IntKind.wrap .i64 ((8 : Int) * (Int.tmod v7 (4 : Int))))))) <|
gd (0 ≤ v7) <|
gd (v7 < (20 : Int)) <|
bitloftref01_Of_c2 (IntKind.wrap .i64 (v7 + (1 : Int))) b8 b9 (List.set b10 (Int.toNat v7) (IntKind.wrap .u8 (shrBy .u32 (List.getD b9 (Int.toNat (IntKind.wrap .i64 (Int.tdiv v7 (4 : Int)))) (0 : Int)) (IntKind.wrap .i64 ((24 : Int) - (IntKind.wrap .i64 ((8 : Int) * (Int.tmod v7 (4 : Int)))))))))
else
some (b10)) := (FnI.sem_eq _).trans (by kernel_rfl)
noncomputable def bitloftref01_Of_S (acc : List AV → Bool) : Summ Tryz.prog GT := bitloftref01_Of_I.summ mixed acc false false
noncomputable def bitloftref28_record_I : FnI Tryz.prog GT := { f := 50, cuts := [], tab := [bitloftref01_Of_S (fun _ => true)], fm := ⟨true, [.val T_api_Record []]⟩ }
noncomputable def bitloftref28_record (a0 : D_api_Member) : Option (D_api_Record) := bitloftref28_record_I.call [(.agg T_api_Member (inj false T_api_Member a0))] []
theorem bitloftref28_record_eq (a0 : D_api_Member) : bitloftref28_record a0 = (
(bitloftref01_Of a0.2.1).bind fun r1 =>
some (a0.1, ((Int.ofNat (List.length a0.2.1)), (r1, ())))) := (FnI.call_eq (by kernel_rfl)).trans (by kernel_rfl)
noncomputable def bitloftref28_record_S (acc : List AV → Bool) : Summ Tryz.prog GT := bitloftref28_record_I.summ mixed acc false false
noncomputable def bitloftref28_Of_I : FnI Tryz.prog GT := { f := 23, cuts := [⟨(5, 3), [0, 4, 5], false, false, []⟩], tab := [bitloftref28_Check_S (fun _ => true), bitloftref28_record_S (fun _ => true)], fm := ⟨true, [.val (.slice T_api_Record) [.nw], .val (.int .i64) []]⟩ }
noncomputable def bitloftref28_Of (a0 : List D_api_Member) : Option (List D_api_Record × Int) := bitloftref28_Of_I.call [(.sl T_api_Member false a0)] []
noncomputable def bitloftref28_Of_c1 (v0 : List D_api_Member) (v5 : Int) (h8 : List D_api_Record) : Option (List D_api_Record × Int) := bitloftref28_Of_I.sem ⟨[.code (cIn (cIn (cSnd (cFst (cSnd (cSnd (cSnd (bodyOf Tryz.prog 23)))))))), .inLoop (cIn (cIn (cSnd (cFst (cSnd (cSnd (cSnd (bodyOf Tryz.prog 23)))))))), .inBlock 0, .code (cSnd (cSnd (cSnd (cSnd (bodyOf Tryz.prog 23)))))], ⟨[(0, (.one (.sl T_api_Member false v0))), (4, (.one (.ref T_api_Record 8 0 (List.length h8) true))), (5, (.one (.int .i64 v5)))], [(8, some (.row T_api_Record true h8))], 9⟩⟩
theorem bitloftref28_Of_eq (a0 : List D_api_Member) : bitloftref28_Of a0 = (
(bitloftref28_Check a0).bind fun r1 =>
if (r1 != (0 : Int)) = true then
(bitloftref28_Check a0).bind fun r2 =>
some ([], r2)
else
bitloftref28_Of_c1 a0 (0 : Int) []) := (FnI.call_eq (by kernel_rfl)).trans (by kernel_rfl)
theorem bitloftref28_Of_c1_eq (v0 : List D_api_Member) (v5 : Int) (h8 : List D_api_Record) : bitloftref28_Of_c1 v0 v5 h8 = (
if (decide (v5 < (Int.ofNat (List.length v0)))) = true then
gd (0 ≤ v5) <|
gd (v5 < (Int.ofNat (List.length v0))) <|
(bitloftref28_record (List.getD v0 (Int.toNat v5) (pzero T_api_Member))).bind fun r3 =>
gd ((List.length (h8 ++ [r3])) * 48 ≤ 140737488355328) <|
bitloftref28_Of_c1 v0 (IntKind.wrap .i64 (v5 + (1 : Int))) (h8 ++ [r3])
else
some (h8, (0 : Int))) := (FnI.sem_eq _).trans (by kernel_rfl)
noncomputable def bitloftref28_Of_S (acc : List AV → Bool) : Summ Tryz.prog GT := bitloftref28_Of_I.summ mixed acc false false
noncomputable def bitloftref30_Front_I : FnI Tryz.prog GT := { f := 52, cuts := [], tab := [], fm := ⟨true, [.val (.slice (.int .u8)) [.nw]]⟩ }
noncomputable def bitloftref30_Front (a0 : D_api_Settings) (a1 : Int) : Option (List Int) := bitloftref30_Front_I.call [(.agg T_api_Settings (inj false T_api_Settings a0)), (.int .i64 a1)] []
theorem bitloftref30_Front_eq (a0 : D_api_Settings) (a1 : Int) : bitloftref30_Front a0 a1 = (
gd (0 ≤ (8 : Int)) <|
some ([(66 : Int), (76 : Int), (70 : Int), (1 : Int), (IntKind.wrap .u8 a0.1), (IntKind.wrap .u8 (Int.fdiv a0.2.1 (256 : Int))), (IntKind.wrap .u8 a0.2.1), (IntKind.wrap .u8 a1)])) := (FnI.call_eq (by kernel_rfl)).trans (by kernel_rfl)
noncomputable def bitloftref30_Front_S (acc : List AV → Bool) : Summ Tryz.prog GT := bitloftref30_Front_I.summ mixed acc false false
noncomputable def bitloftref28_Bytes_I : FnI Tryz.prog GT := { f := 53, cuts := [⟨(3, 3), [0, 3, 4], false, false, []⟩], tab := [], fm := ⟨true, [.val (.slice (.int .u8)) [.nw]]⟩ }
noncomputable def bitloftref28_Bytes (a0 : List D_api_Record) : Option (List Int) := bitloftref28_Bytes_I.call [(.sl T_api_Record false a0)] []
noncomputable def bitloftref28_Bytes_c1 (v0 : List D_api_Record) (v4 : Int) (h8 : List Int) : Option (List Int) := bitloftref28_Bytes_I.sem ⟨[.code (cIn (cIn (cSnd (cFst (cSnd (cSnd (bodyOf Tryz.prog 53))))))), .inLoop (cIn (cIn (cSnd (cFst (cSnd (cSnd (bodyOf Tryz.prog 53))))))), .inBlock 0, .code (cSnd (cSnd (cSnd (bodyOf Tryz.prog 53))))], ⟨[(0, (.one (.sl T_api_Record false v0))), (3, (.one (.ref (.int .u8) 8 0 (List.length h8) true))), (4, (.one (.int .i64 v4)))], [(8, some (.row (.int .u8) true h8))], 9⟩⟩
theorem bitloftref28_Bytes_eq (a0 : List D_api_Record) : bitloftref28_Bytes a0 = (
bitloftref28_Bytes_c1 a0 (0 : Int) []) := (FnI.call_eq (by kernel_rfl)).trans (by kernel_rfl)
theorem bitloftref28_Bytes_c1_eq (v0 : List D_api_Record) (v4 : Int) (h8 : List Int) : bitloftref28_Bytes_c1 v0 v4 h8 = (
if (decide (v4 < (Int.ofNat (List.length v0)))) = true then
gd (0 ≤ v4) <|
gd (v4 < (Int.ofNat (List.length v0))) <|
gd ((List.length (h8 ++ [(IntKind.wrap .u8 (Int.ofNat (ByteArray.size (List.getD v0 (Int.toNat v4) (pzero T_api_Record)).1)))])) * 1 ≤ 140737488355328) <|
gd ((List.length ((h8 ++ [(IntKind.wrap .u8 (Int.ofNat (ByteArray.size (List.getD v0 (Int.toNat v4) (pzero T_api_Record)).1)))]) ++ (ofStr (List.getD v0 (Int.toNat v4) (pzero T_api_Record)).1))) * 1 ≤ 140737488355328) <|
gd (0 ≤ (8 : Int)) <|
gd ((List.length (((h8 ++ [(IntKind.wrap .u8 (Int.ofNat (ByteArray.size (List.getD v0 (Int.toNat v4) (pzero T_api_Record)).1)))]) ++ (ofStr (List.getD v0 (Int.toNat v4) (pzero T_api_Record)).1)) ++ [(IntKind.wrap .u8 (Int.fdiv (List.getD v0 (Int.toNat v4) (pzero T_api_Record)).2.1 (256 : Int))), (IntKind.wrap .u8 (List.getD v0 (Int.toNat v4) (pzero T_api_Record)).2.1)])) * 1 ≤ 140737488355328) <|
gd ((List.length ((((h8 ++ [(IntKind.wrap .u8 (Int.ofNat (ByteArray.size (List.getD v0 (Int.toNat v4) (pzero T_api_Record)).1)))]) ++ (ofStr (List.getD v0 (Int.toNat v4) (pzero T_api_Record)).1)) ++ [(IntKind.wrap .u8 (Int.fdiv (List.getD v0 (Int.toNat v4) (pzero T_api_Record)).2.1 (256 : Int))), (IntKind.wrap .u8 (List.getD v0 (Int.toNat v4) (pzero T_api_Record)).2.1)]) ++ (List.take 20 (List.drop 0 (List.getD v0 (Int.toNat v4) (pzero T_api_Record)).2.2.1)))) * 1 ≤ 140737488355328) <|
bitloftref28_Bytes_c1 v0 (IntKind.wrap .i64 (v4 + (1 : Int))) ((((h8 ++ [(IntKind.wrap .u8 (Int.ofNat (ByteArray.size (List.getD v0 (Int.toNat v4) (pzero T_api_Record)).1)))]) ++ (ofStr (List.getD v0 (Int.toNat v4) (pzero T_api_Record)).1)) ++ [(IntKind.wrap .u8 (Int.fdiv (List.getD v0 (Int.toNat v4) (pzero T_api_Record)).2.1 (256 : Int))), (IntKind.wrap .u8 (List.getD v0 (Int.toNat v4) (pzero T_api_Record)).2.1)]) ++ (List.take 20 (List.drop 0 (List.getD v0 (Int.toNat v4) (pzero T_api_Record)).2.2.1)))
else
some (h8)) := (FnI.sem_eq _).trans (by kernel_rfl)
noncomputable def bitloftref28_Bytes_S (acc : List AV → Bool) : Summ Tryz.prog GT := bitloftref28_Bytes_I.summ mixed acc false false
noncomputable def bitloftref30_Bytes_I : FnI Tryz.prog GT := { f := 25, cuts := [], tab := [bitloftref30_Front_S (fun _ => true), bitloftref28_Bytes_S (fun _ => true), bitloftref01_Of_S (fun _ => true)], fm := ⟨true, [.val (.slice (.int .u8)) [.nw]]⟩ }
noncomputable def bitloftref30_Bytes (a0 : D_api_Settings) (a1 : List D_api_Record) : Option (List Int) := bitloftref30_Bytes_I.call [(.agg T_api_Settings (inj false T_api_Settings a0)), (.sl T_api_Record false a1)] []
theorem bitloftref30_Bytes_eq (a0 : D_api_Settings) (a1 : List D_api_Record) : bitloftref30_Bytes a0 a1 = (
(bitloftref30_Front a0 (Int.ofNat (List.length a1))).bind fun r1 =>
(bitloftref28_Bytes a1).bind fun r2 =>
gd ((List.length (r1 ++ r2)) * 1 ≤ 140737488355328) <|
(bitloftref01_Of (r1 ++ r2)).bind fun r3 =>
gd ((List.length ((r1 ++ r2) ++ (List.take 20 (List.drop 0 r3)))) * 1 ≤ 140737488355328) <|
some ((r1 ++ r2) ++ (List.take 20 (List.drop 0 r3)))) := (FnI.call_eq (by kernel_rfl)).trans (by kernel_rfl)
noncomputable def bitloftref30_Bytes_S (acc : List AV → Bool) : Summ Tryz.prog GT := bitloftref30_Bytes_I.summ mixed acc false false
noncomputable def bitloftref26_two_I : FnI Tryz.prog GT := { f := 89, cuts := [], tab := [], fm := ⟨true, [.val (.slice (.int .u8)) [.nw]]⟩ }
noncomputable def bitloftref26_two (a0 : Int) : Option (List Int) := bitloftref26_two_I.call [(.int .i64 a0)] []
theorem bitloftref26_two_eq (a0 : Int) : bitloftref26_two a0 = (
gd (0 ≤ (8 : Int)) <|
some ([(IntKind.wrap .u8 (Int.fdiv a0 (256 : Int))), (IntKind.wrap .u8 a0)])) := (FnI.call_eq (by kernel_rfl)).trans (by kernel_rfl)
noncomputable def bitloftref26_two_S (acc : List AV → Bool) : Summ Tryz.prog GT := bitloftref26_two_I.summ mixed acc false false
noncomputable def bitloftref26_Front_I : FnI Tryz.prog GT := { f := 58, cuts := [], tab := [bitloftref26_two_S (fun _ => true)], fm := ⟨true, [.val (.slice (.int .u8)) [.nw]]⟩ }
noncomputable def bitloftref26_Front (a0 : D_api_BlockHead) : Option (List Int) := bitloftref26_Front_I.call [(.agg T_api_BlockHead (inj false T_api_BlockHead a0))] []
theorem bitloftref26_Front_eq (a0 : D_api_BlockHead) : bitloftref26_Front a0 = (
(bitloftref26_two a0.2.2.1).bind fun r1 =>
gd ((List.length ([a0.1, (IntKind.wrap .u8 a0.2.1)] ++ r1)) * 1 ≤ 140737488355328) <|
(bitloftref26_two a0.2.2.2.1).bind fun r2 =>
gd ((List.length (([a0.1, (IntKind.wrap .u8 a0.2.1)] ++ r1) ++ r2)) * 1 ≤ 140737488355328) <|
(bitloftref26_two a0.2.2.2.2.1).bind fun r3 =>
gd ((List.length ((([a0.1, (IntKind.wrap .u8 a0.2.1)] ++ r1) ++ r2) ++ r3)) * 1 ≤ 140737488355328) <|
some ((([a0.1, (IntKind.wrap .u8 a0.2.1)] ++ r1) ++ r2) ++ r3)) := (FnI.call_eq (by kernel_rfl)).trans (by kernel_rfl)
noncomputable def bitloftref26_Front_S (acc : List AV → Bool) : Summ Tryz.prog GT := bitloftref26_Front_I.summ mixed acc false false
noncomputable def bitloftref26_Of_I : FnI Tryz.prog GT := { f := 30, cuts := [], tab := [bitloftref26_Front_S (fun _ => true), bitloftref01_Of_S (fun _ => true)], fm := ⟨true, [.val (.arr 20 (.int .u8)) []]⟩ }
noncomputable def bitloftref26_Of (a0 : D_api_BlockHead) (a1 : List Int) : Option ((List Int)) := bitloftref26_Of_I.call [(.agg T_api_BlockHead (inj false T_api_BlockHead a0)), (.sl (.int .u8) false a1)] []
theorem bitloftref26_Of_eq (a0 : D_api_BlockHead) (a1 : List Int) : bitloftref26_Of a0 a1 = (
(bitloftref26_Front a0).bind fun r1 =>
gd ((List.length (r1 ++ a1)) * 1 ≤ 140737488355328) <|
(bitloftref01_Of (r1 ++ a1)).bind fun r2 =>
some (r2)) := (FnI.call_eq (by kernel_rfl)).trans (by kernel_rfl)
noncomputable def bitloftref26_Of_S (acc : List AV → Bool) : Summ Tryz.prog GT := bitloftref26_Of_I.summ mixed acc false false
noncomputable def bitloftref27_Made_I : FnI Tryz.prog GT := { f := 10, cuts := [], tab := [bitloftref26_Of_S (fun _ => true)], fm := ⟨true, [.val T_api_Block []]⟩ }
noncomputable def bitloftref27_Made (a0 : Int) (a1 : Int) (a2 : List Int) (a3 : List Int) : Option (D_api_Block) := bitloftref27_Made_I.call [(.int .i64 a0), (.int .i64 a1), (.sl (.int .u8) false a2), (.sl (.int .u8) false a3)] []
theorem bitloftref27_Made_eq (a0 : Int) (a1 : Int) (a2 : List Int) (a3 : List Int) : bitloftref27_Made a0 a1 a2 a3 = (
gd ((List.length ([] ++ a2)) * 1 ≤ 140737488355328) <|
if (decide ((Int.ofNat (List.length a3)) < (Int.ofNat (List.length a2)))) = true then
gd ((List.length ([] ++ a3)) * 1 ≤ 140737488355328) <|
(bitloftref26_Of ((2 : Int), (a0, (a1, ((Int.ofNat (List.length a2)), ((Int.ofNat (List.length a3)), ((List.replicate 20 (0 : Int)), ())))))) a2).bind fun r1 =>
some (((2 : Int), (a0, (a1, ((Int.ofNat (List.length a2)), ((Int.ofNat (List.length a3)), (r1, ())))))), (([] ++ a3), ()))
else
(bitloftref26_Of ((1 : Int), (a0, (a1, ((Int.ofNat (List.length a2)), ((Int.ofNat (List.length a2)), ((List.replicate 20 (0 : Int)), ())))))) a2).bind fun r2 =>
some (((1 : Int), (a0, (a1, ((Int.ofNat (List.length a2)), ((Int.ofNat (List.length a2)), (r2, ())))))), (([] ++ a2), ()))) := (FnI.call_eq (by kernel_rfl)).trans (by kernel_rfl)
noncomputable def bitloftref27_Made_S (acc : List AV → Bool) : Summ Tryz.prog GT := bitloftref27_Made_I.summ mixed acc false false
noncomputable def bitloftref25_Bytes_I : FnI Tryz.prog GT := { f := 60, cuts := [], tab := [], fm := ⟨true, [.val (.slice (.int .u8)) [.nw]]⟩ }
noncomputable def bitloftref25_Bytes : Option (List Int) := bitloftref25_Bytes_I.call [] []
theorem bitloftref25_Bytes_eq : bitloftref25_Bytes = (
some ([(183 : Int), (98 : Int), (105 : Int), (116 : Int), (108 : Int), (111 : Int), (102 : Int), (116 : Int), (32 : Int), (98 : Int), (108 : Int), (107 : Int), (10 : Int)])) := (FnI.call_eq (by kernel_rfl)).trans (by kernel_rfl)
noncomputable def bitloftref25_Bytes_S (acc : List AV → Bool) : Summ Tryz.prog GT := bitloftref25_Bytes_I.summ mixed acc false false
noncomputable def bitloftref26_Bytes_I : FnI Tryz.prog GT := { f := 82, cuts := [], tab := [bitloftref26_Front_S (fun _ => true)], fm := ⟨true, [.val (.slice (.int .u8)) [.nw]]⟩ }
noncomputable def bitloftref26_Bytes (a0 : D_api_BlockHead) : Option (List Int) := bitloftref26_Bytes_I.call [(.agg T_api_BlockHead (inj false T_api_BlockHead a0))] []
theorem bitloftref26_Bytes_eq (a0 : D_api_BlockHead) : bitloftref26_Bytes a0 = (
(bitloftref26_Front a0).bind fun r1 =>
gd ((List.length (r1 ++ (List.take 20 (List.drop 0 a0.2.2.2.2.2.1)))) * 1 ≤ 140737488355328) <|
some (r1 ++ (List.take 20 (List.drop 0 a0.2.2.2.2.2.1)))) := (FnI.call_eq (by kernel_rfl)).trans (by kernel_rfl)
noncomputable def bitloftref26_Bytes_S (acc : List AV → Bool) : Summ Tryz.prog GT := bitloftref26_Bytes_I.summ mixed acc false false
noncomputable def bitloftref27_Bytes_I : FnI Tryz.prog GT := { f := 51, cuts := [], tab := [bitloftref25_Bytes_S (fun _ => true), bitloftref26_Bytes_S (fun _ => true)], fm := ⟨true, [.val (.slice (.int .u8)) [.nw]]⟩ }
noncomputable def bitloftref27_Bytes (a0 : D_api_Block) : Option (List Int) := bitloftref27_Bytes_I.call [(.agg T_api_Block (inj false T_api_Block a0))] []
theorem bitloftref27_Bytes_eq (a0 : D_api_Block) : bitloftref27_Bytes a0 = (
(bitloftref25_Bytes).bind fun r1 =>
(bitloftref26_Bytes a0.1).bind fun r2 =>
gd ((List.length (r1 ++ r2)) * 1 ≤ 140737488355328) <|
gd ((List.length ((r1 ++ r2) ++ a0.2.1)) * 1 ≤ 140737488355328) <|
some ((r1 ++ r2) ++ a0.2.1)) := (FnI.call_eq (by kernel_rfl)).trans (by kernel_rfl)
noncomputable def bitloftref27_Bytes_S (acc : List AV → Bool) : Summ Tryz.prog GT := bitloftref27_Bytes_I.summ mixed acc false false
noncomputable def bitloftref30_Join_I : FnI Tryz.prog GT := { f := 24, cuts := [⟨(3, 3), [1, 5, 6], false, false, []⟩], tab := [bitloftref27_Bytes_S (fun _ => true)], fm := ⟨true, [.val (.slice (.int .u8)) [.nw]]⟩ }
noncomputable def bitloftref30_Join (a0 : List Int) (a1 : List D_api_Block) : Option (List Int) := bitloftref30_Join_I.call [(.sl (.int .u8) false a0), (.sl T_api_Block false a1)] []
noncomputable def bitloftref30_Join_c1 (v1 : List D_api_Block) (v6 : Int) (h8 : List Int) : Option (List Int) := bitloftref30_Join_I.sem ⟨[.code (cIn (cIn (cSnd (cFst (cSnd (cSnd (bodyOf Tryz.prog 24))))))), .inLoop (cIn (cIn (cSnd (cFst (cSnd (cSnd (bodyOf Tryz.prog 24))))))), .inBlock 0, .code (cSnd (cSnd (cSnd (bodyOf Tryz.prog 24))))], ⟨[(1, (.one (.sl T_api_Block false v1))), (5, (.one (.ref (.int .u8) 8 0 (List.length h8) true))), (6, (.one (.int .i64 v6)))], [(8, some (.row (.int .u8) true h8))], 9⟩⟩
theorem bitloftref30_Join_eq (a0 : List Int) (a1 : List D_api_Block) : bitloftref30_Join a0 a1 = (
gd ((List.length ([] ++ a0)) * 1 ≤ 140737488355328) <|
bitloftref30_Join_c1 a1 (0 : Int) ([] ++ a0)) := (FnI.call_eq (by kernel_rfl)).trans (by kernel_rfl)
theorem bitloftref30_Join_c1_eq (v1 : List D_api_Block) (v6 : Int) (h8 : List Int) : bitloftref30_Join_c1 v1 v6 h8 = (
if (decide (v6 < (Int.ofNat (List.length v1)))) = true then
gd (0 ≤ v6) <|
gd (v6 < (Int.ofNat (List.length v1))) <|
(bitloftref27_Bytes (List.getD v1 (Int.toNat v6) (pzero T_api_Block))).bind fun r1 =>
gd ((List.length (h8 ++ r1)) * 1 ≤ 140737488355328) <|
bitloftref30_Join_c1 v1 (IntKind.wrap .i64 (v6 + (1 : Int))) (h8 ++ r1)
else
some (h8)) := (FnI.sem_eq _).trans (by kernel_rfl)
noncomputable def bitloftref30_Join_S (acc : List AV → Bool) : Summ Tryz.prog GT := bitloftref30_Join_I.summ mixed acc false false
noncomputable def bitloftlaw34_example_I : FnI Tryz.prog GT := { f := 7, cuts := [], tab := [bitloftref28_Of_S (fun _ => true), bitloftref30_Bytes_S (fun _ => true), bitloftref27_Made_S (fun _ => true), bitloftref30_Join_S (fun _ => true)], fm := ⟨true, [.val (.slice (.int .u8)) [.nw], .val (.slice T_api_Record) [.nw]]⟩ }
noncomputable def bitloftlaw34_example : Option (List Int × List D_api_Record) := bitloftlaw34_example_I.call [] []
theorem bitloftlaw34_example_eq : bitloftlaw34_example = (
(bitloftref28_Of [((ByteArray.mk #[97]), ([(7 : Int)], ()))]).bind fun r1 =>
(bitloftref30_Bytes ((0 : Int), ((16 : Int), ())) r1.1).bind fun r2 =>
(bitloftref27_Made (0 : Int) (0 : Int) [(7 : Int)] [(7 : Int)]).bind fun r3 =>
(bitloftref30_Join r2 [r3]).bind fun r4 =>
some (r4, r1.1)) := (FnI.call_eq (by kernel_rfl)).trans (by kernel_rfl)
noncomputable def bitloftlaw34_example_S (acc : List AV → Bool) : Summ Tryz.prog GT := bitloftlaw34_example_I.summ mixed acc false false
noncomputable def member_isName_I : FnI Tryz.prog GT := { f := 63, cuts := [⟨(2, 3), [0, 5, 6], false, false, []⟩], tab := [], fm := ⟨true, [.val .bool []]⟩ }
noncomputable def member_isName (a0 : ByteArray) : Option (Bool) := member_isName_I.call [(.str a0)] []
noncomputable def member_isName_c1 (v0 : ByteArray) (v5 : Int) (v6 : Int) : Option (Bool) := member_isName_I.sem ⟨[.code (cIn (cIn (cSnd (cFst (cSnd (bodyOf Tryz.prog 63)))))), .inLoop (cIn (cIn (cSnd (cFst (cSnd (bodyOf Tryz.prog 63)))))), .inBlock 0, .code (cSnd (cSnd (bodyOf Tryz.prog 63)))], ⟨[(0, (.one (.str v0))), (5, (.one (.int .i64 v5))), (6, (.one (.int .i64 v6)))], [], 8⟩⟩
theorem member_isName_eq (a0 : ByteArray) : member_isName a0 = (
member_isName_c1 a0 (Int.ofNat (ByteArray.size a0)) (0 : Int)) := (FnI.call_eq (by kernel_rfl)).trans (by kernel_rfl)
theorem member_isName_c1_eq (v0 : ByteArray) (v5 : Int) (v6 : Int) : member_isName_c1 v0 v5 v6 = (
if (decide (v6 < v5)) = true then
gd (0 ≤ v6) <|
gd (v6 < (v0.size : Int)) <|
if (decide ((btAt v0 (Int.toNat v6)) ≤ (32 : Int))) = true then
some (false)
else
gd (0 ≤ v6) <|
gd (v6 < (v0.size : Int)) <|
if (decide ((btAt v0 (Int.toNat v6)) > (126 : Int))) = true then
some (false)
else
member_isName_c1 v0 v5 (IntKind.wrap .i64 (v6 + (1 : Int)))
else
if (decide ((Int.ofNat (ByteArray.size v0)) > (0 : Int))) = true then
some (decide ((Int.ofNat (ByteArray.size v0)) ≤ (40 : Int)))
else
some (false)) := (FnI.sem_eq _).trans (by kernel_rfl)
noncomputable def member_isName_S (acc : List AV → Bool) : Summ Tryz.prog GT := member_isName_I.summ mixed acc false false
noncomputable def member_digest_I : FnI Tryz.prog GT := { f := 37, cuts := [], tab := [sha_Sum_S (fun _ => true)], fm := ⟨true, [.val (.arr 20 (.int .u8)) []]⟩ }
noncomputable def member_digest (a0 : List Int) : Option ((List Int)) := member_digest_I.call [(.sl (.int .u8) false a0)] []
theorem member_digest_eq (a0 : List Int) : member_digest a0 = (
(sha_Sum a0).bind fun r1 =>
some (r1.1)) := (FnI.call_eq (by kernel_rfl)).trans (by kernel_rfl)
noncomputable def member_digest_S (acc : List AV → Bool) : Summ Tryz.prog GT := member_digest_I.summ mixed acc false false
noncomputable def member_twice_I : FnI Tryz.prog GT := { f := 64, cuts := [⟨(3, 3), [3, 7, 8, 9], false, false, []⟩], tab := [], fm := ⟨true, [.val .bool []]⟩ }
noncomputable def member_twice (a0 : List ByteArray) : Option (Bool) := member_twice_I.call [(.sl .str false a0)] []
noncomputable def member_twice_c1 (v7 : List ByteArray) (v8 : Int) (v9 : Int) (m8 : List (ByteArray × Bool)) : Option (Bool) := member_twice_I.sem ⟨[.code (cIn (cIn (cSnd (cFst (cSnd (cSnd (bodyOf Tryz.prog 64))))))), .inLoop (cIn (cIn (cSnd (cFst (cSnd (cSnd (bodyOf Tryz.prog 64))))))), .inBlock 0, .code (cSnd (cSnd (cSnd (bodyOf Tryz.prog 64))))], ⟨[(3, (.one (.mapr 8))), (7, (.one (.sl .str false v7))), (8, (.one (.int .i64 v8))), (9, (.one (.int .i64 v9)))], [(8, some (.map .str .bool m8))], 9⟩⟩
theorem member_twice_eq (a0 : List ByteArray) : member_twice a0 = (
member_twice_c1 a0 (Int.ofNat (List.length a0)) (0 : Int) []) := (FnI.call_eq (by kernel_rfl)).trans (by kernel_rfl)
theorem member_twice_c1_eq (v7 : List ByteArray) (v8 : Int) (v9 : Int) (m8 : List (ByteArray × Bool)) : member_twice_c1 v7 v8 v9 m8 = (
if (decide (v9 < v8)) = true then
gd (0 ≤ v9) <|
gd (v9 < (Int.ofNat (List.length v7))) <|
if (Option.getD (mget (peq .str) (List.getD v7 (Int.toNat v9) ByteArray.empty) m8) false) = true then
some (true)
else
member_twice_c1 v7 v8 (IntKind.wrap .i64 (v9 + (1 : Int))) (mset (peq .str) (List.getD v7 (Int.toNat v9) ByteArray.empty) true m8)
else
some (false)) := (FnI.sem_eq _).trans (by kernel_rfl)
noncomputable def member_twice_S (acc : List AV → Bool) : Summ Tryz.prog GT := member_twice_I.summ mixed acc false false
noncomputable def member_Valid_I : FnI Tryz.prog GT := { f := 36, cuts := [⟨(6, 3), [3, 4, 10, 11, 12], false, false, []⟩], tab := [member_isName_S (fun _ => true), member_digest_S (fun _ => true), member_twice_S (fun _ => true)], fm := ⟨true, [.val (.int .i64) []]⟩ }
noncomputable def member_Valid (a0 : List D_api_Record) : Option (Int) := member_Valid_I.call [(.sl T_api_Record false a0)] []
noncomputable def member_Valid_c1 (v3 : Int) (v10 : List D_api_Record) (v11 : Int) (v12 : Int) (h8 : List ByteArray) : Option (Int) := member_Valid_I.sem ⟨[.code (cIn (cIn (cSnd (cFst (cSnd (cSnd (cSnd (cSnd (bodyOf Tryz.prog 36))))))))), .inLoop (cIn (cIn (cSnd (cFst (cSnd (cSnd (cSnd (cSnd (bodyOf Tryz.prog 36))))))))), .inBlock 0, .code (cSnd (cSnd (cSnd (cSnd (cSnd (bodyOf Tryz.prog 36))))))], ⟨[(3, (.one (.int .i64 v3))), (4, (.one (.ref .str 8 0 (List.length h8) true))), (10, (.one (.sl T_api_Record false v10))), (11, (.one (.int .i64 v11))), (12, (.one (.int .i64 v12)))], [(8, some (.row .str true h8))], 9⟩⟩
theorem member_Valid_eq (a0 : List D_api_Record) : member_Valid a0 = (
if (decide ((Int.ofNat (List.length a0)) > (16 : Int))) = true then
some (4 : Int)
else
member_Valid_c1 (0 : Int) a0 (Int.ofNat (List.length a0)) (0 : Int) []) := (FnI.call_eq (by kernel_rfl)).trans (by kernel_rfl)
theorem member_Valid_c1_eq (v3 : Int) (v10 : List D_api_Record) (v11 : Int) (v12 : Int) (h8 : List ByteArray) : member_Valid_c1 v3 v10 v11 v12 h8 = (
if (decide (v12 < v11)) = true then
gd (0 ≤ v12) <|
gd (v12 < (Int.ofNat (List.length v10))) <|
(member_isName (List.getD v10 (Int.toNat v12) (pzero T_api_Record)).1).bind fun r1 =>
if (not r1) = true then
some (8 : Int)
else
if (decide ((List.getD v10 (Int.toNat v12) (pzero T_api_Record)).2.1 < (0 : Int))) = true then
some (8 : Int)
else
if (decide ((List.getD v10 (Int.toNat v12) (pzero T_api_Record)).2.1 > (8192 : Int))) = true then
some (8 : Int)
else
if ((List.getD v10 (Int.toNat v12) (pzero T_api_Record)).2.1 == (0 : Int)) = true then
(member_digest []).bind fun r2 =>
if (not (peq (.arr 20 (.int .u8)) (List.getD v10 (Int.toNat v12) (pzero T_api_Record)).2.2.1 r2)) = true then
some (8 : Int)
else
gd ((List.length (h8 ++ [(List.getD v10 (Int.toNat v12) (pzero T_api_Record)).1])) * 16 ≤ 140737488355328) <|
member_Valid_c1 (IntKind.wrap .i64 (v3 + (List.getD v10 (Int.toNat v12) (pzero T_api_Record)).2.1)) v10 v11 (IntKind.wrap .i64 (v12 + (1 : Int))) (h8 ++ [(List.getD v10 (Int.toNat v12) (pzero T_api_Record)).1])
else
gd ((List.length (h8 ++ [(List.getD v10 (Int.toNat v12) (pzero T_api_Record)).1])) * 16 ≤ 140737488355328) <|
member_Valid_c1 (IntKind.wrap .i64 (v3 + (List.getD v10 (Int.toNat v12) (pzero T_api_Record)).2.1)) v10 v11 (IntKind.wrap .i64 (v12 + (1 : Int))) (h8 ++ [(List.getD v10 (Int.toNat v12) (pzero T_api_Record)).1])
else
if (decide (v3 > (8192 : Int))) = true then
some (4 : Int)
else
(member_twice h8).bind fun r3 =>
if r3 = true then
some (14 : Int)
else
some (0 : Int)) := (FnI.sem_eq _).trans (by kernel_rfl)
noncomputable def member_Valid_S (acc : List AV → Bool) : Summ Tryz.prog GT := member_Valid_I.summ mixed acc false false
noncomputable def salvage_check_I : FnI Tryz.prog GT := { f := 26, cuts := [⟨(7, 3), [18, 19, 20], false, false, []⟩], tab := [member_Valid_S (fun _ => true), header_Right_S (fun _ => true)], fm := ⟨true, [.val (.int .i64) []]⟩ }
noncomputable def salvage_check (a0 : List D_api_Record) (a1 : List D_api_Found) : Option (Int) := salvage_check_I.call [(.sl T_api_Record false a0), (.sl T_api_Found false a1)] []
noncomputable def salvage_check_c1 (v18 : List D_api_Found) (v19 : Int) (v20 : Int) : Option (Int) := salvage_check_I.sem ⟨[.code (cIn (cIn (cSnd (cFst (cSnd (cSnd (cSnd (bodyOf Tryz.prog 26)))))))), .inLoop (cIn (cIn (cSnd (cFst (cSnd (cSnd (cSnd (bodyOf Tryz.prog 26)))))))), .inBlock 0, .code (cSnd (cSnd (cSnd (cSnd (bodyOf Tryz.prog 26)))))], ⟨[(18, (.one (.sl T_api_Found false v18))), (19, (.one (.int .i64 v19))), (20, (.one (.int .i64 v20)))], [], 8⟩⟩
theorem salvage_check_eq (a0 : List D_api_Record) (a1 : List D_api_Found) : salvage_check a0 a1 = (
(member_Valid a0).bind fun r1 =>
if (r1 != (0 : Int)) = true then
some (r1)
else
if (decide ((Int.ofNat (List.length a1)) > (600 : Int))) = true then
some (4 : Int)
else
salvage_check_c1 a1 (Int.ofNat (List.length a1)) (0 : Int)) := (FnI.call_eq (by kernel_rfl)).trans (by kernel_rfl)
theorem salvage_check_c1_eq (v18 : List D_api_Found) (v19 : Int) (v20 : Int) : salvage_check_c1 v18 v19 v20 = (
if (decide (v20 < v19)) = true then
gd (0 ≤ v20) <|
gd (v20 < (Int.ofNat (List.length v18))) <|
(header_Right (List.getD v18 (Int.toNat v20) (pzero T_api_Found)).2.1 (List.getD v18 (Int.toNat v20) (pzero T_api_Found)).2.2.1).bind fun r2 =>
if (not r2.1) = true then
some (8 : Int)
else
if (decide ((List.getD v18 (Int.toNat v20) (pzero T_api_Found)).1 < (0 : Int))) = true then
some (8 : Int)
else
salvage_check_c1 v18 v19 (IntKind.wrap .i64 (v20 + (1 : Int)))
else
some (0 : Int)) := (FnI.sem_eq _).trans (by kernel_rfl)
noncomputable def salvage_check_S (acc : List AV → Bool) : Summ Tryz.prog GT := salvage_check_I.summ mixed acc false false
noncomputable def salvage_Parts_1_I : FnI Tryz.prog GT := { f := 27, cuts := [⟨(5, 3), [2, 3, 5, 34, 35, 36], false, true, []⟩, ⟨(12, 3), [2, 5, 61, 62, 63], false, true, []⟩], tab := [], fm := ⟨false, [.val .bool [], .box 0 (.slice T_api_Record) [.pu], .cmap 1 2, .map 2 T_api_Settings (.int .u8)]⟩ }
noncomputable def salvage_Parts_1 (a0 : D_api_Found) (b0 : (List D_api_Record)) (m2 : List (D_api_Settings × Int)) : Option (Bool × (List D_api_Record) × Unit × List (D_api_Settings × Int)) := salvage_Parts_1_I.call [(.agg T_api_Found (inj false T_api_Found a0)), (.ptr (.slice T_api_Record) 0 []), (.cptr 1)] [(0, (.box (.slice T_api_Record) (SV.pure false b0))), (1, (.cell (.mapr 2))), (2, (.map T_api_Settings (.int .u8) m2))]
noncomputable def salvage_Parts_1_c1 (v34 : List Int) (v35 : Int) (v36 : Int) (b0 : (List D_api_Record)) (m2 : List (D_api_Settings × Int)) (b8 : D_api_Found) (b9 : D_api_BlockHead) : Option (Bool × (List D_api_Record) × Unit × List (D_api_Settings × Int)) := salvage_Parts_1_I.sem ⟨[.code (cIn (cIn (cSnd (cFst (cSnd (cSnd (cSnd (bodyOf Tryz.prog 27)))))))), .inLoop (cIn (cIn (cSnd (cFst (cSnd (cSnd (cSnd (bodyOf Tryz.prog 27)))))))), .inBlock 0, .code (cSnd (cSnd (cSnd (cSnd (bodyOf Tryz.prog 27)))))], ⟨[(2, (.one (.cptr 1))), (3, (.one (.ptr T_api_Found 8 []))), (5, (.one (.ptr T_api_BlockHead 9 []))), (34, (.one (.sl (.int .u8) false v34))), (35, (.one (.int .i64 v35))), (36, (.one (.int .i64 v36)))], [(0, some (.box (.slice T_api_Record) (SV.pure false b0))), (1, some (.cell (.mapr 2))), (2, some (.map T_api_Settings (.int .u8) m2)), (8, some (.box T_api_Found (inj false T_api_Found b8))), (9, some (.box T_api_BlockHead (inj false T_api_BlockHead b9)))], 13⟩⟩
noncomputable def salvage_Parts_1_c2 (v61 : List Int) (v62 : Int) (v63 : Int) (b0 : (List D_api_Record)) (m2 : List (D_api_Settings × Int)) (b8 : D_api_BlockHead) : Option (Bool × (List D_api_Record) × Unit × List (D_api_Settings × Int)) := salvage_Parts_1_I.sem ⟨[.code (cIn (cIn (cSnd (cFst (cSnd (cSnd (cSnd (cSnd (bodyOf Tryz.prog 27))))))))), .inLoop (cIn (cIn (cSnd (cFst (cSnd (cSnd (cSnd (cSnd (bodyOf Tryz.prog 27))))))))), .inBlock 2, .code (cSnd (cSnd (cSnd (cSnd (cSnd (bodyOf Tryz.prog 27))))))], ⟨[(2, (.one (.cptr 1))), (5, (.one (.ptr T_api_BlockHead 8 []))), (61, (.one (.sl (.int .u8) false v61))), (62, (.one (.int .i64 v62))), (63, (.one (.int .i64 v63)))], [(0, some (.box (.slice T_api_Record) (SV.pure false b0))), (1, some (.cell (.mapr 2))), (2, some (.map T_api_Settings (.int .u8) m2)), (8, some (.box T_api_BlockHead (inj false T_api_BlockHead b8)))], 12⟩⟩
theorem salvage_Parts_1_eq (a0 : D_api_Found) (b0 : (List D_api_Record)) (m2 : List (D_api_Settings × Int)) : salvage_Parts_1 a0 b0 m2 = (
if (decide (a0.2.1.2.1 ≥ (Int.ofNat (List.length b0)))) = true then
some (false, (b0, ((), m2)))
else
gd (0 ≤ a0.2.1.2.1) <|
gd (a0.2.1.2.1 < (Int.ofNat (List.length b0))) <|
if (decide ((IntKind.wrap .i64 (a0.2.1.2.2.1 + a0.2.1.2.2.2.1)) > (List.getD b0 (Int.toNat a0.2.1.2.1) (pzero T_api_Record)).2.1)) = true then
some (false, (b0, ((), m2)))
else
salvage_Parts_1_c1 a0.2.2.1 (Int.ofNat (List.length a0.2.2.1)) (0 : Int) b0 m2 a0 a0.2.1) := (FnI.call_eq (by kernel_rfl)).trans (by kernel_rfl)
theorem salvage_Parts_1_c1_eq (v34 : List Int) (v35 : Int) (v36 : Int) (b0 : (List D_api_Record)) (m2 : List (D_api_Settings × Int)) (b8 : D_api_Found) (b9 : D_api_BlockHead) : salvage_Parts_1_c1 v34 v35 v36 b0 m2 b8 b9 = (
if (decide (v36 < v35)) = true then
gd (0 ≤ v36) <|
gd (v36 < (Int.ofNat (List.length v34))) <|
if (Option.isSome (mget (peq T_api_Settings) (b9.2.1, ((IntKind.wrap .i64 (b9.2.2.1 + v36)), ())) m2)) = true then
if ((Option.getD (mget (peq T_api_Settings) (b9.2.1, ((IntKind.wrap .i64 (b9.2.2.1 + v36)), ())) m2) (0 : Int)) != (List.getD v34 (Int.toNat v36) (0 : Int))) = true then
some (false, (b0, ((), m2)))
else
salvage_Parts_1_c1 v34 v35 (IntKind.wrap .i64 (v36 + (1 : Int))) b0 m2 b8 b9
else
salvage_Parts_1_c1 v34 v35 (IntKind.wrap .i64 (v36 + (1 : Int))) b0 m2 b8 b9
else
salvage_Parts_1_c2 b8.2.2.1 (Int.ofNat (List.length b8.2.2.1)) (0 : Int) b0 m2 b9) := (FnI.sem_eq _).trans (by kernel_rfl)
theorem salvage_Parts_1_c2_eq (v61 : List Int) (v62 : Int) (v63 : Int) (b0 : (List D_api_Record)) (m2 : List (D_api_Settings × Int)) (b8 : D_api_BlockHead) : salvage_Parts_1_c2 v61 v62 v63 b0 m2 b8 = (
if (decide (v63 < v62)) = true then
gd (0 ≤ v63) <|
gd (v63 < (Int.ofNat (List.length v61))) <|
salvage_Parts_1_c2 v61 v62 (IntKind.wrap .i64 (v63 + (1 : Int))) b0 (mset (peq T_api_Settings) (b8.2.1, ((IntKind.wrap .i64 (b8.2.2.1 + v63)), ())) (List.getD v61 (Int.toNat v63) (0 : Int)) m2) b8
else
some (true, (b0, ((), m2)))) := (FnI.sem_eq _).trans (by kernel_rfl)
noncomputable def salvage_Parts_1_S (acc : List AV → Bool) : Summ Tryz.prog GT := salvage_Parts_1_I.summ mixed acc false false
noncomputable def salvage_Parts_I : FnI Tryz.prog GT := { f := 8, cuts := [⟨(8, 3), [8, 9, 20, 21, 22], false, false, []⟩], tab := [salvage_check_S (fun _ => true), (salvage_Parts_1_S (fun _ => true)).dropping, bytes_Clone_S (fun _ => true)], fm := ⟨true, [.val (.slice T_api_Part) [.nw], .val (.int .i64) []]⟩ }
noncomputable def salvage_Parts (a0 : List D_api_Record) (a1 : List D_api_Found) : Option (List D_api_Part × Int) := salvage_Parts_I.call [(.sl T_api_Record false a0), (.sl T_api_Found false a1)] []
noncomputable def salvage_Parts_c1 (v20 : List D_api_Found) (v21 : Int) (v22 : Int) (b8 : (List D_api_Record)) (h10 : List D_api_Part) (m11 : List (D_api_Settings × Int)) : Option (List D_api_Part × Int) := salvage_Parts_I.sem ⟨[.code (cIn (cIn (cSnd (cFst (cSnd (cSnd (cSnd (cSnd (cSnd (bodyOf Tryz.prog 8)))))))))), .inLoop (cIn (cIn (cSnd (cFst (cSnd (cSnd (cSnd (cSnd (cSnd (bodyOf Tryz.prog 8)))))))))), .inBlock 0, .code (cSnd (cSnd (cSnd (cSnd (cSnd (cSnd (bodyOf Tryz.prog 8)))))))], ⟨[(8, (.one (.func 27 [8, 9]))), (9, (.one (.ref T_api_Part 10 0 (List.length h10) true))), (20, (.one (.sl T_api_Found false v20))), (21, (.one (.int .i64 v21))), (22, (.one (.int .i64 v22)))], [(8, some (.box (.slice T_api_Record) (SV.pure false b8))), (9, some (.cell (.mapr 11))), (10, some (.row T_api_Part true h10)), (11, some (.map T_api_Settings (.int .u8) m11))], 12⟩⟩
theorem salvage_Parts_eq (a0 : List D_api_Record) (a1 : List D_api_Found) : salvage_Parts a0 a1 = (
(salvage_check a0 a1).bind fun r1 =>
if (r1 != (0 : Int)) = true then
some ([], r1)
else
salvage_Parts_c1 a1 (Int.ofNat (List.length a1)) (0 : Int) a0 [] []) := (FnI.call_eq (by kernel_rfl)).trans (by kernel_rfl)
theorem salvage_Parts_c1_eq (v20 : List D_api_Found) (v21 : Int) (v22 : Int) (b8 : (List D_api_Record)) (h10 : List D_api_Part) (m11 : List (D_api_Settings × Int)) : salvage_Parts_c1 v20 v21 v22 b8 h10 m11 = (
if (decide (v22 < v21)) = true then
gd (0 ≤ v22) <|
gd (v22 < (Int.ofNat (List.length v20))) <|
(salvage_Parts_1 (List.getD v20 (Int.toNat v22) (pzero T_api_Found)) b8 m11).bind fun r2 =>
if r2.1 = true then
(bytes_Clone (List.getD v20 (Int.toNat v22) (pzero T_api_Found)).2.2.1).bind fun r3 =>
gd ((List.length (h10 ++ [(((List.getD v20 (Int.toNat v22) (pzero T_api_Found)).2.1.2.1, ((List.getD v20 (Int.toNat v22) (pzero T_api_Found)).2.1.2.2.1, ((List.getD v20 (Int.toNat v22) (pzero T_api_Found)).2.1.2.2.2.1, ()))), (r3, ()))])) * 48 ≤ 140737488355328) <|
salvage_Parts_c1 v20 v21 (IntKind.wrap .i64 (v22 + (1 : Int))) r2.2.1 (h10 ++ [(((List.getD v20 (Int.toNat v22) (pzero T_api_Found)).2.1.2.1, ((List.getD v20 (Int.toNat v22) (pzero T_api_Found)).2.1.2.2.1, ((List.getD v20 (Int.toNat v22) (pzero T_api_Found)).2.1.2.2.2.1, ()))), (r3, ()))]) r2.2.2.2
else
salvage_Parts_c1 v20 v21 (IntKind.wrap .i64 (v22 + (1 : Int))) r2.2.1 h10 r2.2.2.2
else
some (h10, (0 : Int))) := (FnI.sem_eq _).trans (by kernel_rfl)
noncomputable def salvage_Parts_S (acc : List AV → Bool) : Summ Tryz.prog GT := salvage_Parts_I.summ mixed acc false false
noncomputable def salvage_Rebuild_I : FnI Tryz.prog GT := { f := 9, cuts := [⟨(8, 3), [7, 9, 10, 11, 30, 31, 32], false, false, []⟩, ⟨(13, 8), [7, 9, 10, 11, 12, 13, 14, 30, 31, 32, 41, 42, 43], false, false, []⟩, ⟨(18, 12), [7, 9, 10, 11, 12, 13, 14, 16, 30, 31, 32, 41, 42, 43, 62, 63], false, false, []⟩], tab := [salvage_Parts_S (fun _ => true), sha_Sum_S (fun _ => true)], fm := ⟨true, [.val (.slice T_api_Member) [.nw], .val (.slice .bool) [.nw], .val (.int .i64) []]⟩ }
noncomputable def salvage_Rebuild (a0 : List D_api_Record) (a1 : List D_api_Found) : Option (List D_api_Member × List Bool × Int) := salvage_Rebuild_I.call [(.sl T_api_Record false a0), (.sl T_api_Found false a1)] []
noncomputable def salvage_Rebuild_c1 (v30 : List D_api_Record) (v31 : Int) (v32 : Int) (h8 : List D_api_Part) (h9 : List D_api_Member) (h10 : List Bool) (m11 : List (Int × Bool)) : Option (List D_api_Member × List Bool × Int) := salvage_Rebuild_I.sem ⟨[.code (cIn (cIn (cSnd (cFst (cSnd (cSnd (cSnd (cSnd (cSnd (cSnd (bodyOf Tryz.prog 9))))))))))), .inLoop (cIn (cIn (cSnd (cFst (cSnd (cSnd (cSnd (cSnd (cSnd (cSnd (bodyOf Tryz.prog 9))))))))))), .inBlock 0, .code (cSnd (cSnd (cSnd (cSnd (cSnd (cSnd (cSnd (bodyOf Tryz.prog 9))))))))], ⟨[(7, (.one (.ref T_api_Part 8 0 (List.length h8) true))), (9, (.one (.ref T_api_Member 9 0 (List.length h9) true))), (10, (.one (.ref .bool 10 0 (List.length h10) true))), (11, (.one (.mapr 11))), (30, (.one (.sl T_api_Record false v30))), (31, (.one (.int .i64 v31))), (32, (.one (.int .i64 v32)))], [(8, some (.row T_api_Part true h8)), (9, some (.row T_api_Member true h9)), (10, some (.row .bool true h10)), (11, some (.map (.int .i64) .bool m11))], 12⟩⟩
noncomputable def salvage_Rebuild_c2 (v12 : Int) (v30 : List D_api_Record) (v31 : Int) (v32 : Int) (v42 : Int) (v43 : Int) (h8 : List D_api_Part) (h9 : List D_api_Member) (h10 : List Bool) (m11 : List (Int × Bool)) (b12 : D_api_Record) (h13 : List Int) : Option (List D_api_Member × List Bool × Int) := salvage_Rebuild_I.sem ⟨[.code (cIn (cIn (cSnd (cFst (cSnd (cSnd (cSnd (cIn (cFst (cSnd (cSnd (cIn (cIn (cSnd (cFst (cSnd (cSnd (cSnd (cSnd (cSnd (cSnd (bodyOf Tryz.prog 9)))))))))))))))))))))), .inLoop (cIn (cIn (cSnd (cFst (cSnd (cSnd (cSnd (cIn (cFst (cSnd (cSnd (cIn (cIn (cSnd (cFst (cSnd (cSnd (cSnd (cSnd (cSnd (cSnd (bodyOf Tryz.prog 9)))))))))))))))))))))), .inBlock 2, .code (cSnd (cSnd (cSnd (cSnd (cIn (cFst (cSnd (cSnd (cIn (cIn (cSnd (cFst (cSnd (cSnd (cSnd (cSnd (cSnd (cSnd (bodyOf Tryz.prog 9))))))))))))))))))), .inBlock 1, .code (cSnd (cSnd (cSnd (cIn (cIn (cSnd (cFst (cSnd (cSnd (cSnd (cSnd (cSnd (cSnd (bodyOf Tryz.prog 9)))))))))))))), .inLoop (cIn (cIn (cSnd (cFst (cSnd (cSnd (cSnd (cSnd (cSnd (cSnd (bodyOf Tryz.prog 9))))))))))), .inBlock 0, .code (cSnd (cSnd (cSnd (cSnd (cSnd (cSnd (cSnd (bodyOf Tryz.prog 9))))))))], ⟨[(7, (.one (.ref T_api_Part 8 0 (List.length h8) true))), (9, (.one (.ref T_api_Member 9 0 (List.length h9) true))), (10, (.one (.ref .bool 10 0 (List.length h10) true))), (11, (.one (.mapr 11))), (12, (.one (.int .i64 v12))), (13, (.one (.ptr T_api_Record 12 []))), (14, (.one (.ref (.int .u8) 13 0 (List.length h13) true))), (30, (.one (.sl T_api_Record false v30))), (31, (.one (.int .i64 v31))), (32, (.one (.int .i64 v32))), (41, (.one (.ref T_api_Part 8 0 (List.length h8) true))), (42, (.one (.int .i64 v42))), (43, (.one (.int .i64 v43)))], [(8, some (.row T_api_Part true h8)), (9, some (.row T_api_Member true h9)), (10, some (.row .bool true h10)), (11, some (.map (.int .i64) .bool m11)), (12, some (.box T_api_Record (inj false T_api_Record b12))), (13, some (.row (.int .u8) true h13))], 14⟩⟩
noncomputable def salvage_Rebuild_c3 (v12 : Int) (v30 : List D_api_Record) (v31 : Int) (v32 : Int) (v42 : Int) (v43 : Int) (v62 : Int) (v63 : Int) (h8 : List D_api_Part) (h9 : List D_api_Member) (h10 : List Bool) (m11 : List (Int × Bool)) (b12 : D_api_Record) (h13 : List Int) (b14 : D_api_Part) : Option (List D_api_Member × List Bool × Int) := salvage_Rebuild_I.sem ⟨[.code (cIn (cIn (cSnd (cSnd (cSnd (cSnd (cIn (cFst (cSnd (cSnd (cIn (cIn (cSnd (cFst (cSnd (cSnd (cSnd (cIn (cFst (cSnd (cSnd (cIn (cIn (cSnd (cFst (cSnd (cSnd (cSnd (cSnd (cSnd (cSnd (bodyOf Tryz.prog 9)))))))))))))))))))))))))))))))), .inLoop (cIn (cIn (cSnd (cSnd (cSnd (cSnd (cIn (cFst (cSnd (cSnd (cIn (cIn (cSnd (cFst (cSnd (cSnd (cSnd (cIn (cFst (cSnd (cSnd (cIn (cIn (cSnd (cFst (cSnd (cSnd (cSnd (cSnd (cSnd (cSnd (bodyOf Tryz.prog 9)))))))))))))))))))))))))))))))), .inBlock 4, .inBlock 3, .code (cSnd (cSnd (cSnd (cIn (cIn (cSnd (cFst (cSnd (cSnd (cSnd (cIn (cFst (cSnd (cSnd (cIn (cIn (cSnd (cFst (cSnd (cSnd (cSnd (cSnd (cSnd (cSnd (bodyOf Tryz.prog 9))))))))))))))))))))))))), .inLoop (cIn (cIn (cSnd (cFst (cSnd (cSnd (cSnd (cIn (cFst (cSnd (cSnd (cIn (cIn (cSnd (cFst (cSnd (cSnd (cSnd (cSnd (cSnd (cSnd (bodyOf Tryz.prog 9)))))))))))))))))))))), .inBlock 2, .code (cSnd (cSnd (cSnd (cSnd (cIn (cFst (cSnd (cSnd (cIn (cIn (cSnd (cFst (cSnd (cSnd (cSnd (cSnd (cSnd (cSnd (bodyOf Tryz.prog 9))))))))))))))))))), .inBlock 1, .code (cSnd (cSnd (cSnd (cIn (cIn (cSnd (cFst (cSnd (cSnd (cSnd (cSnd (cSnd (cSnd (bodyOf Tryz.prog 9)))))))))))))), .inLoop (cIn (cIn (cSnd (cFst (cSnd (cSnd (cSnd (cSnd (cSnd (cSnd (bodyOf Tryz.prog 9))))))))))), .inBlock 0, .code (cSnd (cSnd (cSnd (cSnd (cSnd (cSnd (cSnd (bodyOf Tryz.prog 9))))))))], ⟨[(7, (.one (.ref T_api_Part 8 0 (List.length h8) true))), (9, (.one (.ref T_api_Member 9 0 (List.length h9) true))), (10, (.one (.ref .bool 10 0 (List.length h10) true))), (11, (.one (.mapr 11))), (12, (.one (.int .i64 v12))), (13, (.one (.ptr T_api_Record 12 []))), (14, (.one (.ref (.int .u8) 13 0 (List.length h13) true))), (16, (.one (.ptr T_api_Part 14 []))), (30, (.one (.sl T_api_Record false v30))), (31, (.one (.int .i64 v31))), (32, (.one (.int .i64 v32))), (41, (.one (.ref T_api_Part 8 0 (List.length h8) true))), (42, (.one (.int .i64 v42))), (43, (.one (.int .i64 v43))), (62, (.one (.int .i64 v62))), (63, (.one (.int .i64 v63)))], [(8, some (.row T_api_Part true h8)), (9, some (.row T_api_Member true h9)), (10, some (.row .bool true h10)), (11, some (.map (.int .i64) .bool m11)), (12, some (.box T_api_Record (inj false T_api_Record b12))), (13, some (.row (.int .u8) true h13)), (14, some (.box T_api_Part (inj true T_api_Part b14)))], 15⟩⟩
theorem salvage_Rebuild_eq (a0 : List D_api_Record) (a1 : List D_api_Found) : salvage_Rebuild a0 a1 = (
(salvage_Parts a0 a1).bind fun r1 =>
if (r1.2 != (0 : Int)) = true then
some ([], ([], r1.2))
else
salvage_Rebuild_c1 a0 (Int.ofNat (List.length a0)) (0 : Int) r1.1 [] [] []) := (FnI.call_eq (by kernel_rfl)).trans (by kernel_rfl)
theorem salvage_Rebuild_c1_eq (v30 : List D_api_Record) (v31 : Int) (v32 : Int) (h8 : List D_api_Part) (h9 : List D_api_Member) (h10 : List Bool) (m11 : List (Int × Bool)) : salvage_Rebuild_c1 v30 v31 v32 h8 h9 h10 m11 = (
if (decide (v32 < v31)) = true then
gd (0 ≤ v32) <|
gd (v32 < (Int.ofNat (List.length v30))) <|
gd ((List.getD v30 (Int.toNat v32) (pzero T_api_Record)).2.1 = (List.getD v30 (Int.toNat v32) (pzero T_api_Record)).2.1) <|
gd (0 ≤ (List.getD v30 (Int.toNat v32) (pzero T_api_Record)).2.1) <|
gd ((List.getD v30 (Int.toNat v32) (pzero T_api_Record)).2.1 * 1 ≤ 140737488355328) <|
gd ((List.getD v30 (Int.toNat v32) (pzero T_api_Record)).2.1 ≤ 9223372036854775807) <|
salvage_Rebuild_c2 v32 v30 v31 v32 (Int.ofNat (List.length h8)) (0 : Int) h8 h9 h10 [] (List.getD v30 (Int.toNat v32) (pzero T_api_Record)) (List.replicate (Int.toNat (List.getD v30 (Int.toNat v32) (pzero T_api_Record)).2.1) (0 : Int))
else
some (h9, (h10, (0 : Int)))) := (FnI.sem_eq _).trans (by kernel_rfl)
theorem salvage_Rebuild_c2_eq (v12 : Int) (v30 : List D_api_Record) (v31 : Int) (v32 : Int) (v42 : Int) (v43 : Int) (h8 : List D_api_Part) (h9 : List D_api_Member) (h10 : List Bool) (m11 : List (Int × Bool)) (b12 : D_api_Record) (h13 : List Int) : salvage_Rebuild_c2 v12 v30 v31 v32 v42 v43 h8 h9 h10 m11 b12 h13 = (
if (decide (v43 < v42)) = true then
gd (0 ≤ v43) <|
gd (v43 < (Int.ofNat (List.length h8))) <|
if ((List.getD h8 (0 + (Int.toNat v43)) (pzero T_api_Part)).1.1 != v12) = true then
salvage_Rebuild_c2 v12 v30 v31 v32 v42 (IntKind.wrap .i64 (v43 + (1 : Int))) h8 h9 h10 m11 b12 h13
else
gd (0 ≤ (List.getD h8 (0 + (Int.toNat v43)) (pzero T_api_Part)).1.2.1) <|
gd ((List.getD h8 (0 + (Int.toNat v43)) (pzero T_api_Part)).1.2.1 ≤ (Int.ofNat (List.length h13))) <|
salvage_Rebuild_c3 v12 v30 v31 v32 v42 v43 (Int.ofNat (List.length (List.getD h8 (0 + (Int.toNat v43)) (pzero T_api_Part)).2.1)) (0 : Int) h8 h9 h10 m11 b12 (splice h13 (0 + (Int.toNat (List.getD h8 (0 + (Int.toNat v43)) (pzero T_api_Part)).1.2.1)) (List.take (min (List.length (List.getD h8 (0 + (Int.toNat v43)) (pzero T_api_Part)).2.1) ((List.length h13) - (Int.toNat (List.getD h8 (0 + (Int.toNat v43)) (pzero T_api_Part)).1.2.1))) (List.getD h8 (0 + (Int.toNat v43)) (pzero T_api_Part)).2.1)) (List.getD h8 (0 + (Int.toNat v43)) (pzero T_api_Part))
else
(sha_Sum h13).bind fun r2 =>
gd ((List.length (h9 ++ [(b12.1, (h13, ()))])) * 40 ≤ 140737488355328) <|
if ((Int.ofNat (List.length m11)) == b12.2.1) = true then
gd ((List.length (h10 ++ [(peq (.arr 20 (.int .u8)) r2.1 b12.2.2.1)])) * 1 ≤ 140737488355328) <|
salvage_Rebuild_c1 v30 v31 (IntKind.wrap .i64 (v32 + (1 : Int))) h8 (h9 ++ [(b12.1, (h13, ()))]) (h10 ++ [(peq (.arr 20 (.int .u8)) r2.1 b12.2.2.1)]) m11
else
gd ((List.length (h10 ++ [false])) * 1 ≤ 140737488355328) <|
salvage_Rebuild_c1 v30 v31 (IntKind.wrap .i64 (v32 + (1 : Int))) h8 (h9 ++ [(b12.1, (h13, ()))]) (h10 ++ [false]) m11) := (FnI.sem_eq _).trans (by kernel_rfl)
theorem salvage_Rebuild_c3_eq (v12 : Int) (v30 : List D_api_Record) (v31 : Int) (v32 : Int) (v42 : Int) (v43 : Int) (v62 : Int) (v63 : Int) (h8 : List D_api_Part) (h9 : List D_api_Member) (h10 : List Bool) (m11 : List (Int × Bool)) (b12 : D_api_Record) (h13 : List Int) (b14 : D_api_Part) : salvage_Rebuild_c3 v12 v30 v31 v32 v42 v43 v62 v63 h8 h9 h10 m11 b12 h13 b14 = (
if (decide (v63 < v62)) = true then
salvage_Rebuild_c3 v12 v30 v31 v32 v42 v43 v62 (IntKind.wrap .i64 (v63 + (1 : Int))) h8 h9 h10 (mset (peq (.int .i64)) (IntKind.wrap .i64 (b14.1.2.1 + v63)) true m11) b12 h13 b14
else
salvage_Rebuild_c2 v12 v30 v31 v32 v42 (IntKind.wrap .i64 (v43 + (1 : Int))) h8 h9 h10 m11 b12 h13) := (FnI.sem_eq _).trans (by kernel_rfl)
noncomputable def salvage_Rebuild_S (acc : List AV → Bool) : Summ Tryz.prog GT := salvage_Rebuild_I.summ mixed acc false false
noncomputable def bitloftref28_SameMembers_I : FnI Tryz.prog GT := { f := 31, cuts := [⟨(4, 3), [0, 1, 5], false, false, []⟩], tab := [], fm := ⟨true, [.val .bool []]⟩ }
noncomputable def bitloftref28_SameMembers (a0 : List D_api_Member) (a1 : List D_api_Member) : Option (Bool) := bitloftref28_SameMembers_I.call [(.sl T_api_Member false a0), (.sl T_api_Member false a1)] []
noncomputable def bitloftref28_SameMembers_c1 (v0 : List D_api_Member) (v1 : List D_api_Member) (v5 : Int) : Option (Bool) := bitloftref28_SameMembers_I.sem ⟨[.code (cIn (cIn (cSnd (cFst (cSnd (cSnd (bodyOf Tryz.prog 31))))))), .inLoop (cIn (cIn (cSnd (cFst (cSnd (cSnd (bodyOf Tryz.prog 31))))))), .inBlock 0, .code (cSnd (cSnd (cSnd (bodyOf Tryz.prog 31))))], ⟨[(0, (.one (.sl T_api_Member false v0))), (1, (.one (.sl T_api_Member false v1))), (5, (.one (.int .i64 v5)))], [], 8⟩⟩
theorem bitloftref28_SameMembers_eq (a0 : List D_api_Member) (a1 : List D_api_Member) : bitloftref28_SameMembers a0 a1 = (
if ((Int.ofNat (List.length a0)) != (Int.ofNat (List.length a1))) = true then
some (false)
else
bitloftref28_SameMembers_c1 a0 a1 (0 : Int)) := (FnI.call_eq (by kernel_rfl)).trans (by kernel_rfl)
theorem bitloftref28_SameMembers_c1_eq (v0 : List D_api_Member) (v1 : List D_api_Member) (v5 : Int) : bitloftref28_SameMembers_c1 v0 v1 v5 = (
if (decide (v5 < (Int.ofNat (List.length v0)))) = true then
gd (0 ≤ v5) <|
gd (v5 < (Int.ofNat (List.length v0))) <|
gd (0 ≤ v5) <|
gd (v5 < (Int.ofNat (List.length v1))) <|
if (not ((ByteArray.toList (List.getD v0 (Int.toNat v5) (pzero T_api_Member)).1) == (ByteArray.toList (List.getD v1 (Int.toNat v5) (pzero T_api_Member)).1))) = true then
some (false)
else
gd (0 ≤ v5) <|
gd (v5 < (Int.ofNat (List.length v0))) <|
gd (0 ≤ v5) <|
gd (v5 < (Int.ofNat (List.length v1))) <|
if (not ((ByteArray.toList (toStr (List.getD v0 (Int.toNat v5) (pzero T_api_Member)).2.1)) == (ByteArray.toList (toStr (List.getD v1 (Int.toNat v5) (pzero T_api_Member)).2.1)))) = true then
some (false)
else
bitloftref28_SameMembers_c1 v0 v1 (IntKind.wrap .i64 (v5 + (1 : Int)))
else
some (true)) := (FnI.sem_eq _).trans (by kernel_rfl)
noncomputable def bitloftref28_SameMembers_S (acc : List AV → Bool) : Summ Tryz.prog GT := bitloftref28_SameMembers_I.summ mixed acc false false
noncomputable def bitloftref33_SameBools_I : FnI Tryz.prog GT := { f := 12, cuts := [⟨(4, 3), [0, 1, 5], false, false, []⟩], tab := [], fm := ⟨true, [.val .bool []]⟩ }
noncomputable def bitloftref33_SameBools (a0 : List Bool) (a1 : List Bool) : Option (Bool) := bitloftref33_SameBools_I.call [(.sl .bool false a0), (.sl .bool false a1)] []
noncomputable def bitloftref33_SameBools_c1 (v0 : List Bool) (v1 : List Bool) (v5 : Int) : Option (Bool) := bitloftref33_SameBools_I.sem ⟨[.code (cIn (cIn (cSnd (cFst (cSnd (cSnd (bodyOf Tryz.prog 12))))))), .inLoop (cIn (cIn (cSnd (cFst (cSnd (cSnd (bodyOf Tryz.prog 12))))))), .inBlock 0, .code (cSnd (cSnd (cSnd (bodyOf Tryz.prog 12))))], ⟨[(0, (.one (.sl .bool false v0))), (1, (.one (.sl .bool false v1))), (5, (.one (.int .i64 v5)))], [], 8⟩⟩
theorem bitloftref33_SameBools_eq (a0 : List Bool) (a1 : List Bool) : bitloftref33_SameBools a0 a1 = (
if ((Int.ofNat (List.length a0)) != (Int.ofNat (List.length a1))) = true then
some (false)
else
bitloftref33_SameBools_c1 a0 a1 (0 : Int)) := (FnI.call_eq (by kernel_rfl)).trans (by kernel_rfl)
theorem bitloftref33_SameBools_c1_eq (v0 : List Bool) (v1 : List Bool) (v5 : Int) : bitloftref33_SameBools_c1 v0 v1 v5 = (
if (decide (v5 < (Int.ofNat (List.length v0)))) = true then
gd (0 ≤ v5) <|
gd (v5 < (Int.ofNat (List.length v0))) <|
gd (0 ≤ v5) <|
gd (v5 < (Int.ofNat (List.length v1))) <|
if (not ((List.getD v0 (Int.toNat v5) false) == (List.getD v1 (Int.toNat v5) false))) = true then
some (false)
else
bitloftref33_SameBools_c1 v0 v1 (IntKind.wrap .i64 (v5 + (1 : Int)))
else
some (true)) := (FnI.sem_eq _).trans (by kernel_rfl)
noncomputable def bitloftref33_SameBools_S (acc : List AV → Bool) : Summ Tryz.prog GT := bitloftref33_SameBools_I.summ mixed acc false false
noncomputable def bitloftlaw34_alive_I : FnI Tryz.prog GT := { f := 11, cuts := [], tab := [bitloftlaw34_example_S (fun _ => true), salvage_Salvage_S (fun _ => true), salvage_Rebuild_S (fun _ => true), bitloftref28_SameMembers_S (fun _ => true), bitloftref33_SameBools_S (fun _ => true)], fm := ⟨true, [.val .bool []]⟩ }
noncomputable def bitloftlaw34_alive : Option (Bool) := bitloftlaw34_alive_I.call [] []
theorem bitloftlaw34_alive_eq : bitloftlaw34_alive = (
(bitloftlaw34_example).bind fun r1 =>
(salvage_Salvage (3 : Int) r1.1).bind fun r2 =>
gd ((10 : Int) = (10 : Int)) <|
gd (0 ≤ (10 : Int)) <|
gd ((10 : Int) * 1 ≤ 140737488355328) <|
gd ((10 : Int) ≤ 9223372036854775807) <|
gd ((List.length ((List.replicate 10 (0 : Int)) ++ r1.1)) * 1 ≤ 140737488355328) <|
(salvage_Salvage (3 : Int) ((List.replicate 10 (0 : Int)) ++ r1.1)).bind fun r3 =>
gd ((List.length ([] ++ r1.1)) * 1 ≤ 140737488355328) <|
gd (0 ≤ (IntKind.wrap .i64 ((Int.ofNat (List.length ([] ++ r1.1))) - (1 : Int)))) <|
gd ((IntKind.wrap .i64 ((Int.ofNat (List.length ([] ++ r1.1))) - (1 : Int))) < (Int.ofNat (List.length ([] ++ r1.1)))) <|
gd (0 ≤ (IntKind.wrap .i64 ((Int.ofNat (List.length ([] ++ r1.1))) - (1 : Int)))) <|
gd ((IntKind.wrap .i64 ((Int.ofNat (List.length ([] ++ r1.1))) - (1 : Int))) < (Int.ofNat (List.length ([] ++ r1.1)))) <|
(salvage_Salvage (3 : Int) (List.set ([] ++ r1.1) (0 + (Int.toNat (IntKind.wrap .i64 ((Int.ofNat (List.length ([] ++ r1.1))) - (1 : Int))))) (IntKind.wrap .u8 ((List.getD ([] ++ r1.1) (0 + (Int.toNat (IntKind.wrap .i64 ((Int.ofNat (List.length ([] ++ r1.1))) - (1 : Int))))) (0 : Int)) + (1 : Int))))).bind fun r4 =>
(salvage_Rebuild r1.2 r4.1).bind fun r5 =>
if (r2.2 == (0 : Int)) = true then
if ((Int.ofNat (List.length r2.1)) == (1 : Int)) = true then
gd (0 ≤ (0 : Int)) <|
gd ((0 : Int) < (Int.ofNat (List.length r2.1))) <|
if ((List.getD r2.1 0 (pzero T_api_Found)).1 == (52 : Int)) = true then
gd (0 ≤ (0 : Int)) <|
gd ((0 : Int) < (Int.ofNat (List.length r2.1))) <|
if ((ByteArray.toList (toStr (List.getD r2.1 0 (pzero T_api_Found)).2.2.1)) == (ByteArray.toList (toStr [(7 : Int)]))) = true then
if (r3.2 == (0 : Int)) = true then
if ((Int.ofNat (List.length r3.1)) == (1 : Int)) = true then
gd (0 ≤ (0 : Int)) <|
gd ((0 : Int) < (Int.ofNat (List.length r3.1))) <|
if ((List.getD r3.1 0 (pzero T_api_Found)).1 == (62 : Int)) = true then
if (r4.2 == (0 : Int)) = true then
if ((Int.ofNat (List.length r4.1)) == (0 : Int)) = true then
if (r5.2.2 == (0 : Int)) = true then
(bitloftref28_SameMembers r5.1 [((ByteArray.mk #[97]), ([(0 : Int)], ()))]).bind fun r6 =>
if r6 = true then
(bitloftref33_SameBools r5.2.1 [false]).bind fun r7 =>
some (r7)
else
some (false)
else
some (false)
else
some (false)
else
some (false)
else
some (false)
else
some (false)
else
some (false)
else
some (false)
else
some (false)
else
some (false)
else
some (false)) := (FnI.call_eq (by kernel_rfl)).trans (by kernel_rfl)
noncomputable def bitloftlaw34_alive_S (acc : List AV → Bool) : Summ Tryz.prog GT := bitloftlaw34_alive_I.summ mixed acc false false
noncomputable def bitloftlaw34_SalvageNames_I : FnI Tryz.prog GT := { f := 3, cuts := [⟨(17, 3), [3, 5, 7, 8, 9, 11, 12, 18, 19], false, false, []⟩], tab := [salvage_Salvage_S (fun _ => true), bitloftlaw34_example_S (fun _ => true), salvage_Parts_S (fun _ => true), salvage_Rebuild_S (fun _ => true), bitloftref27_Made_S (fun _ => true), bitloftlaw34_alive_S (fun _ => true), bitloftref33_SameBools_S (fun _ => true)], fm := ⟨true, [.val .bool []]⟩ }
noncomputable def bitloftlaw34_SalvageNames : Option (Bool) := bitloftlaw34_SalvageNames_I.call [] []
noncomputable def bitloftlaw34_SalvageNames_c1 (v3 : Int) (v5 : Int) (v7 : Int) (v9 : Int) (v19 : Int) (h8 : List D_api_Found) (h9 : List D_api_Record) (h10 : List D_api_Found) (h11 : List D_api_Found) : Option (Bool) := bitloftlaw34_SalvageNames_I.sem ⟨[.code (cIn (cIn (cSnd (cFst (cSnd (cSnd (cSnd (cSnd (cSnd (cSnd (cSnd (cSnd (cSnd (cSnd (cSnd (cSnd (cSnd (cSnd (cSnd (bodyOf Tryz.prog 3)))))))))))))))))))), .inLoop (cIn (cIn (cSnd (cFst (cSnd (cSnd (cSnd (cSnd (cSnd (cSnd (cSnd (cSnd (cSnd (cSnd (cSnd (cSnd (cSnd (cSnd (cSnd (bodyOf Tryz.prog 3)))))))))))))))))))), .inBlock 0, .code (cSnd (cSnd (cSnd (cSnd (cSnd (cSnd (cSnd (cSnd (cSnd (cSnd (cSnd (cSnd (cSnd (cSnd (cSnd (cSnd (bodyOf Tryz.prog 3)))))))))))))))))], ⟨[(3, (.one (.int .i64 v3))), (5, (.one (.int .i64 v5))), (7, (.one (.int .i64 v7))), (8, (.one (.ref T_api_Found 8 0 (List.length h8) true))), (9, (.one (.int .i64 v9))), (11, (.one (.ref T_api_Record 9 0 (List.length h9) true))), (12, (.one (.ref T_api_Found 10 0 (List.length h10) true))), (18, (.one (.ref T_api_Found 11 0 (List.length h11) true))), (19, (.one (.int .i64 v19)))], [(8, some (.row T_api_Found true h8)), (9, some (.row T_api_Record true h9)), (10, some (.row T_api_Found true h10)), (11, some (.row T_api_Found true h11))], 12⟩⟩
theorem bitloftlaw34_SalvageNames_eq : bitloftlaw34_SalvageNames = (
gd ((50001 : Int) = (50001 : Int)) <|
gd (0 ≤ (50001 : Int)) <|
gd ((50001 : Int) * 1 ≤ 140737488355328) <|
gd ((50001 : Int) ≤ 9223372036854775807) <|
(salvage_Salvage (-1 : Int) (List.replicate 50001 (0 : Int))).bind fun r1 =>
(salvage_Salvage (8 : Int) []).bind fun r2 =>
(salvage_Salvage (0 : Int) (List.replicate 50001 (0 : Int))).bind fun r3 =>
gd ((50000 : Int) = (50000 : Int)) <|
gd (0 ≤ (50000 : Int)) <|
gd ((50000 : Int) * 1 ≤ 140737488355328) <|
gd ((50000 : Int) ≤ 9223372036854775807) <|
(salvage_Salvage (7 : Int) (List.replicate 50000 (0 : Int))).bind fun r4 =>
(bitloftlaw34_example).bind fun r5 =>
(salvage_Salvage (0 : Int) r5.1).bind fun r6 =>
if (r6.2 != (0 : Int)) = true then
some (false)
else
if ((Int.ofNat (List.length r6.1)) != (1 : Int)) = true then
some (false)
else
gd (0 ≤ (0 : Int)) <|
gd ((0 : Int) < (Int.ofNat (List.length r6.1))) <|
if ((Int.ofNat (List.length (List.getD r6.1 0 (pzero T_api_Found)).2.2.1)) != (1 : Int)) = true then
some (false)
else
gd (0 ≤ (0 : Int)) <|
gd ((0 : Int) < (Int.ofNat (List.length r6.1))) <|
gd (0 ≤ (0 : Int)) <|
gd ((0 : Int) < (Int.ofNat (List.length r6.1))) <|
gd (0 ≤ (0 : Int)) <|
gd ((0 : Int) < (Int.ofNat (List.length r6.1))) <|
gd (0 ≤ (0 : Int)) <|
gd ((0 : Int) < (Int.ofNat (List.length r6.1))) <|
bitloftlaw34_SalvageNames_c1 r1.2 r2.2 r3.2 r4.2 (0 : Int) r4.1 r5.2 r6.1 [((-1 : Int), (List.getD r6.1 0 (pzero T_api_Found)).2), ((List.getD r6.1 0 (pzero T_api_Found)).1, (((List.getD r6.1 0 (pzero T_api_Found)).2.1.1, ((16 : Int), (List.getD r6.1 0 (pzero T_api_Found)).2.1.2.2)), (List.getD r6.1 0 (pzero T_api_Found)).2.2)), ((List.getD r6.1 0 (pzero T_api_Found)).1, ((List.getD r6.1 0 (pzero T_api_Found)).2.1, ([(8 : Int)], (List.getD r6.1 0 (pzero T_api_Found)).2.2.2))), ((List.getD r6.1 0 (pzero T_api_Found)).1, ((List.getD r6.1 0 (pzero T_api_Found)).2.1, ([(7 : Int), (7 : Int)], (List.getD r6.1 0 (pzero T_api_Found)).2.2.2))), ((0 : Int), (((0 : Int), ((0 : Int), ((0 : Int), ((0 : Int), ((0 : Int), ((List.replicate 20 (0 : Int)), ())))))), ([], ())))]) := (FnI.call_eq (by kernel_rfl)).trans (by kernel_rfl)
theorem bitloftlaw34_SalvageNames_c1_eq (v3 : Int) (v5 : Int) (v7 : Int) (v9 : Int) (v19 : Int) (h8 : List D_api_Found) (h9 : List D_api_Record) (h10 : List D_api_Found) (h11 : List D_api_Found) : bitloftlaw34_SalvageNames_c1 v3 v5 v7 v9 v19 h8 h9 h10 h11 = (
if (decide (v19 < (Int.ofNat (List.length h11)))) = true then
gd (0 ≤ v19) <|
gd (v19 ≤ (IntKind.wrap .i64 (v19 + (1 : Int)))) <|
gd ((IntKind.wrap .i64 (v19 + (1 : Int))) ≤ (Int.ofNat (List.length h11))) <|
(salvage_Parts h9 (List.take ((Int.toNat (IntKind.wrap .i64 (v19 + (1 : Int)))) - (Int.toNat v19)) (List.drop (0 + (Int.toNat v19)) h11))).bind fun r7 =>
gd (0 ≤ v19) <|
gd (v19 ≤ (IntKind.wrap .i64 (v19 + (1 : Int)))) <|
gd ((IntKind.wrap .i64 (v19 + (1 : Int))) ≤ (Int.ofNat (List.length h11))) <|
(salvage_Rebuild h9 (List.take ((Int.toNat (IntKind.wrap .i64 (v19 + (1 : Int)))) - (Int.toNat v19)) (List.drop (0 + (Int.toNat v19)) h11))).bind fun r8 =>
if (r7.2 != (8 : Int)) = true then
some (false)
else
if (r8.2.2 != (8 : Int)) = true then
some (false)
else
bitloftlaw34_SalvageNames_c1 v3 v5 v7 v9 (IntKind.wrap .i64 (v19 + (1 : Int))) h8 h9 h10 h11
else
gd ((1 : Int) = (1 : Int)) <|
gd (0 ≤ (1 : Int)) <|
gd ((1 : Int) * 48 ≤ 140737488355328) <|
gd ((1 : Int) ≤ 9223372036854775807) <|
gd ((601 : Int) = (601 : Int)) <|
gd (0 ≤ (601 : Int)) <|
gd ((601 : Int) * 96 ≤ 140737488355328) <|
gd ((601 : Int) ≤ 9223372036854775807) <|
(salvage_Parts (List.replicate 1 (pzero T_api_Record)) (List.replicate 601 (pzero T_api_Found))).bind fun r9 =>
gd ((601 : Int) = (601 : Int)) <|
gd (0 ≤ (601 : Int)) <|
gd ((601 : Int) * 96 ≤ 140737488355328) <|
gd ((601 : Int) ≤ 9223372036854775807) <|
(salvage_Parts h9 (List.replicate 601 (pzero T_api_Found))).bind fun r10 =>
gd ((17 : Int) = (17 : Int)) <|
gd (0 ≤ (17 : Int)) <|
gd ((17 : Int) * 48 ≤ 140737488355328) <|
gd ((17 : Int) ≤ 9223372036854775807) <|
(salvage_Rebuild (List.replicate 17 (pzero T_api_Record)) []).bind fun r11 =>
gd ((601 : Int) = (601 : Int)) <|
gd (0 ≤ (601 : Int)) <|
gd ((601 : Int) * 96 ≤ 140737488355328) <|
gd ((601 : Int) ≤ 9223372036854775807) <|
(salvage_Rebuild h9 (List.replicate 601 (pzero T_api_Found))).bind fun r12 =>
(salvage_Rebuild h9 h10).bind fun r13 =>
(salvage_Parts [] h10).bind fun r14 =>
(bitloftref27_Made (0 : Int) (0 : Int) [(8 : Int)] [(8 : Int)]).bind fun r15 =>
gd (0 ≤ (0 : Int)) <|
gd ((0 : Int) < (Int.ofNat (List.length h10))) <|
(salvage_Parts h9 [((0 : Int), (r15.1, ([(8 : Int)], ()))), (List.getD h10 0 (pzero T_api_Found)), ((3 : Int), (r15.1, ([(8 : Int)], ())))]).bind fun r16 =>
(salvage_Rebuild h9 [((0 : Int), (r15.1, ([(8 : Int)], ()))), (List.getD h10 0 (pzero T_api_Found)), ((3 : Int), (r15.1, ([(8 : Int)], ())))]).bind fun r17 =>
(bitloftlaw34_alive).bind fun r18 =>
if r18 = true then
if (v3 == (2 : Int)) = true then
if (v5 == (2 : Int)) = true then
if (v7 == (4 : Int)) = true then
if (v9 == (0 : Int)) = true then
if ((Int.ofNat (List.length h8)) == (0 : Int)) = true then
if (r9.2 == (8 : Int)) = true then
if (r10.2 == (4 : Int)) = true then
if (r11.2.2 == (4 : Int)) = true then
if (r12.2.2 == (4 : Int)) = true then
if (r13.2.2 == (0 : Int)) = true then
if ((Int.ofNat (List.length r13.1)) == (1 : Int)) = true then
gd (0 ≤ (0 : Int)) <|
gd ((0 : Int) < (Int.ofNat (List.length r13.1))) <|
if ((ByteArray.toList (toStr (List.getD r13.1 0 (pzero T_api_Member)).2.1)) == (ByteArray.toList (toStr [(7 : Int)]))) = true then
(bitloftref33_SameBools r13.2.1 [true]).bind fun r19 =>
if r19 = true then
if (r14.2 == (0 : Int)) = true then
if ((Int.ofNat (List.length r14.1)) == (0 : Int)) = true then
if (r16.2 == (0 : Int)) = true then
if ((Int.ofNat (List.length r16.1)) == (2 : Int)) = true then
if (r17.2.2 == (0 : Int)) = true then
if ((Int.ofNat (List.length r17.1)) == (1 : Int)) = true then
gd (0 ≤ (0 : Int)) <|
gd ((0 : Int) < (Int.ofNat (List.length r17.1))) <|
if ((ByteArray.toList (toStr (List.getD r17.1 0 (pzero T_api_Member)).2.1)) == (ByteArray.toList (toStr [(8 : Int)]))) = true then
(bitloftref33_SameBools r17.2.1 [false]).bind fun r20 =>
some (r20)
else
some (false)
else
some (false)
else
some (false)
else
some (false)
else
some (false)
else
some (false)
else
some (false)
else
some (false)
else
some (false)
else
some (false)
else
some (false)
else
some (false)
else
some (false)
else
some (false)
else
some (false)
else
some (false)
else
some (false)
else
some (false)
else
some (false)
else
some (false)
else
some (false)) := (FnI.sem_eq _).trans (by kernel_rfl)
end Go.Ab

/-
  Totality of the codec, 1: steps, numbers, small functions.
-/
set_option linter.unusedVariables false
set_option linter.unusedSimpArgs false
set_option maxRecDepth 10000
namespace Go.Ab
open Go
attribute [local irreducible] IntKind.wrap
def Tot {α : Type} (x : Option α) (P : α → Prop) : Prop := ∃ r, x = some r ∧ P r
theorem Tot.so {α : Type} {r : α} {P : α → Prop} (h : P r) : Tot (some r) P := ⟨r, rfl, h⟩
theorem Tot.of_eq {α : Type} {x : Option α} {r : α} {P : α → Prop} (e : x = some r) (h : P r) : Tot x P := ⟨r, e, h⟩
theorem Tot.mono {α : Type} {x : Option α} {P Q : α → Prop} (h : Tot x P) (k : ∀ r, P r → Q r) : Tot x Q := by
  obtain ⟨r, e, p⟩ := h; exact ⟨r, e, k r p⟩
theorem Tot.b {α β : Type} {x : Option α} {f : α → Option β} {P : α → Prop} {Q : β → Prop} (h : Tot x P) (k : ∀ r, P r → Tot (f r) Q) : Tot (x.bind f) Q := by
  obtain ⟨r, e, p⟩ := h; obtain ⟨s, e', q⟩ := k r p; exact ⟨s, by rw [e, Option.bind_some, e'], q⟩
theorem Tot.be {α β : Type} {x : Option α} {f : α → Option β} {v : α} {Q : β → Prop} (h : x = some v) (k : Tot (f v) Q) : Tot (x.bind f) Q := by
  subst h; exact k
theorem Tot.g {α : Type} {p : Prop} {x : Option α} {Q : α → Prop} (h : p) (k : Tot x Q) : Tot (gd p x) Q := by rw [gd_pos h]; exact k
theorem Tot.it {α : Type} {c : Prop} {i : Decidable c} {x y : Option α} {Q : α → Prop} (h1 : c → Tot x Q) (h2 : ¬c → Tot y Q) : Tot (@ite _ c i x y) Q := by
  by_cases h : c
  · rw [if_pos h]; exact h1 h
  · rw [if_neg h]; exact h2 h
theorem Tot.ifd {α : Type} {p : Prop} {d : Decidable p} {i : Decidable (@decide p d = true)} {x y : Option α} {Q : α → Prop} (h1 : p → Tot x Q) (h2 : ¬p → Tot y Q) : Tot (@ite _ (@decide p d = true) i x y) Q :=
  Tot.it (fun h => h1 (of_decide_eq_true h)) (fun h => h2 (fun hp => h (decide_eq_true hp)))
theorem Tot.ifd_pos {α : Type} {p : Prop} {d : Decidable p} {i : Decidable (@decide p d = true)} {x y : Option α} {Q : α → Prop} (h : p) (h1 : Tot x Q) : Tot (@ite _ (@decide p d = true) i x y) Q :=
  Tot.ifd (fun _ => h1) (fun k => absurd h k)
theorem Tot.ifd_neg {α : Type} {p : Prop} {d : Decidable p} {i : Decidable (@decide p d = true)} {x y : Option α} {Q : α → Prop} (h : ¬p) (h1 : Tot y Q) : Tot (@ite _ (@decide p d = true) i x y) Q :=
  Tot.ifd (fun k => absurd k h) (fun _ => h1)
theorem Tot.ifne {α : Type} {a b : Int} {i : Decidable ((a != b) = true)} {x y : Option α} {Q : α → Prop} (h1 : a ≠ b → Tot x Q) (h2 : a = b → Tot y Q) : Tot (@ite _ ((a != b) = true) i x y) Q :=
  Tot.it (fun h => h1 (by simpa using h)) (fun h => h2 (by simpa using h))
theorem Tot.ifne_pos {α : Type} {a b : Int} {i : Decidable ((a != b) = true)} {x y : Option α} {Q : α → Prop} (h : a ≠ b) (h1 : Tot x Q) : Tot (@ite _ ((a != b) = true) i x y) Q :=
  Tot.ifne (fun _ => h1) (fun k => absurd k h)
theorem Tot.ifne_neg {α : Type} {a b : Int} {i : Decidable ((a != b) = true)} {x y : Option α} {Q : α → Prop} (h : a = b) (h1 : Tot y Q) : Tot (@ite _ ((a != b) = true) i x y) Q :=
  Tot.ifne (fun k => absurd h k) (fun _ => h1)
theorem Tot.ifeq {α : Type} {a b : Int} {i : Decidable ((a == b) = true)} {x y : Option α} {Q : α → Prop} (h1 : a = b → Tot x Q) (h2 : a ≠ b → Tot y Q) : Tot (@ite _ ((a == b) = true) i x y) Q :=
  Tot.it (fun h => h1 (by simpa using h)) (fun h => h2 (by simpa using h))
theorem Tot.ifeq_pos {α : Type} {a b : Int} {i : Decidable ((a == b) = true)} {x y : Option α} {Q : α → Prop} (h : a = b) (h1 : Tot x Q) : Tot (@ite _ ((a == b) = true) i x y) Q :=
  Tot.ifeq (fun _ => h1) (fun k => absurd h k)
theorem Tot.ifeq_neg {α : Type} {a b : Int} {i : Decidable ((a == b) = true)} {x y : Option α} {Q : α → Prop} (h : a ≠ b) (h1 : Tot y Q) : Tot (@ite _ ((a == b) = true) i x y) Q :=
  Tot.ifeq (fun k => absurd k h) (fun _ => h1)
theorem Tot.iff_ {α : Type} {i : Decidable (false = true)} {x y : Option α} {Q : α → Prop} (h : Tot y Q) : Tot (@ite _ (false = true) i x y) Q := Tot.it (fun k => absurd k Bool.false_ne_true) (fun _ => h)
theorem Tot.ift_ {α : Type} {i : Decidable (true = true)} {x y : Option α} {Q : α → Prop} (h : Tot x Q) : Tot (@ite _ (true = true) i x y) Q := Tot.it (fun _ => h) (fun k => absurd rfl k)
theorem Tot.ifn {α : Type} {b : Bool} {i : Decidable ((not b) = true)} {x y : Option α} {Q : α → Prop} (h1 : b = false → Tot x Q) (h2 : b = true → Tot y Q) : Tot (@ite _ ((not b) = true) i x y) Q :=
  Tot.it (fun h => h1 (by simpa using h)) (fun h => h2 (by simpa using h))
theorem Tot.eq {α : Type} {x : Option α} {v : α} (h : Tot x fun r => r = v) : x = some v := by obtain ⟨r, e, p⟩ := h; rw [e, p]
theorem up_ind {P : Int → Prop} (n : Int) (base : ∀ i, n ≤ i → P i) (step : ∀ i, i < n → P (i + 1) → P i) : ∀ i, P i := by
  intro i
  generalize hm : (n - i).toNat = m
  induction m generalizing i with
  | zero => exact base i (by omega)
  | succ m ih => exact step i (by omega) (ih (i + 1) (by omega))
theorem wr_u32 (x : Int) : 0 ≤ IntKind.wrap .u32 x ∧ IntKind.wrap .u32 x < 4294967296 := by rw [wu32]; omega
theorem wr_u64 (x : Int) : 0 ≤ IntKind.wrap .u64 x ∧ IntKind.wrap .u64 x < 18446744073709551616 := by rw [wu64]; omega
theorem wr_u8 (x : Int) : 0 ≤ IntKind.wrap .u8 x ∧ IntKind.wrap .u8 x < 256 := by rw [wu8]; omega
theorem ofInt_small (n : Nat) (m : Int) (h0 : 0 ≤ m) (h1 : m < 2 ^ n) : (BitVec.ofInt n m).toNat = m.toNat := by
  rw [BitVec.toNat_ofInt]; congr 1; exact Int.emod_eq_of_lt h0 (by exact_mod_cast h1)
theorem and64 (x m : Int) (h0 : 0 ≤ m) (h1 : m < 9223372036854775808) : 0 ≤ bitsAnd .i64 x m ∧ bitsAnd .i64 x m ≤ m := by
  have hh : (BitVec.ofInt 64 x &&& BitVec.ofInt 64 m).toNat ≤ m.toNat := by
    rw [BitVec.toNat_and, ofInt_small 64 m h0 (by omega)]; exact Nat.and_le_right
  have e : bitsAnd .i64 x m = ((BitVec.ofInt 64 x &&& BitVec.ofInt 64 m).toNat : Int) := by
    show IntKind.wrap .i64 ((BitVec.ofInt 64 x &&& BitVec.ofInt 64 m).toNat : Int) = _
    exact w64 (by omega) (by omega)
  rw [e]; omega
theorem and32 (x m : Int) (h0 : 0 ≤ m) (h1 : m < 2147483648) : 0 ≤ bitsAnd .i32 x m ∧ bitsAnd .i32 x m ≤ m := by
  have hh : (BitVec.ofInt 32 x &&& BitVec.ofInt 32 m).toNat ≤ m.toNat := by
    rw [BitVec.toNat_and, ofInt_small 32 m h0 (by omega)]; exact Nat.and_le_right
  have e : bitsAnd .i32 x m = ((BitVec.ofInt 32 x &&& BitVec.ofInt 32 m).toNat : Int) := by
    show IntKind.wrap .i32 ((BitVec.ofInt 32 x &&& BitVec.ofInt 32 m).toNat : Int) = _
    exact w32 (by omega) (by omega)
  rw [e]; omega
theorem xor64 (x : Int) (k : Nat) (hk : k ≤ 20) (h1 : 1 ≤ k) (h0 : 0 ≤ x) (hx : x < 2 ^ k) : 0 ≤ bitsXor .i64 x 1 ∧ bitsXor .i64 x 1 < 2 ^ k := by
  have hp : (2:Int) ^ k ≤ 2 ^ 20 := by exact_mod_cast Nat.pow_le_pow_right (by decide) hk
  have hp' : (2:Int) ^ 20 = 1048576 := by decide
  have hc : ((2 ^ k : Nat) : Int) = (2:Int) ^ k := by norm_cast
  have hh : (BitVec.ofInt 64 x ^^^ BitVec.ofInt 64 1).toNat < 2 ^ k := by
    rw [BitVec.toNat_xor, ofInt_small 64 x h0 (by omega), ofInt_small 64 1 (by omega) (by omega)]
    refine Nat.xor_lt_two_pow (by omega) ?_
    show 1 < 2 ^ k
    exact Nat.one_lt_two_pow (by omega)
  have hz : ((BitVec.ofInt 64 x ^^^ BitVec.ofInt 64 1).toNat : Int) < 2 ^ k := by rw [← hc]; exact_mod_cast hh
  have e : bitsXor .i64 x 1 = ((BitVec.ofInt 64 x ^^^ BitVec.ofInt 64 1).toNat : Int) := by
    show IntKind.wrap .i64 ((BitVec.ofInt 64 x ^^^ BitVec.ofInt 64 1).toNat : Int) = _
    exact w64 (by omega) (by omega)
  rw [e]; omega
theorem lvl8 {l : Int} (h0 : 0 ≤ l) (h1 : l ≤ 7) : l = 0 ∨ l = 1 ∨ l = 2 ∨ l = 3 ∨ l = 4 ∨ l = 5 ∨ l = 6 ∨ l = 7 := by omega
def plR (l : Int) : Int := 2 ^ (6 + l.toNat)
def plT (l : Int) : Int := 2 ^ (4 + l.toNat)
theorem plR_lt {l : Int} (h0 : 0 ≤ l) (h1 : l ≤ 7) : 64 ≤ plR l ∧ plR l ≤ 8192 := by
  rcases lvl8 h0 h1 with rfl | rfl | rfl | rfl | rfl | rfl | rfl | rfl <;> decide
theorem plT_lt {l : Int} (h0 : 0 ≤ l) (h1 : l ≤ 7) : 16 ≤ plT l ∧ plT l ≤ 2048 := by
  rcases lvl8 h0 h1 with rfl | rfl | rfl | rfl | rfl | rfl | rfl | rfl <;> decide
theorem ring_places_T {l : Int} (h0 : 0 ≤ l) (h1 : l ≤ 7) : ring_places l = some (plR l) := by
  rw [ring_places_eq, gd_pos h0]
  rcases lvl8 h0 h1 with rfl | rfl | rfl | rfl | rfl | rfl | rfl | rfl <;> exact congrArg some (by kernel_rfl)
theorem finder_places_T {l : Int} (h0 : 0 ≤ l) (h1 : l ≤ 7) : finder_places l = some (plR l) := by
  rw [finder_places_eq, gd_pos h0]
  rcases lvl8 h0 h1 with rfl | rfl | rfl | rfl | rfl | rfl | rfl | rfl <;> exact congrArg some (by kernel_rfl)
theorem slots_size_T {l : Int} (h0 : 0 ≤ l) (h1 : l ≤ 7) : slots_size l = some (plT l) := by
  rw [slots_size_eq, gd_pos h0]
  rcases lvl8 h0 h1 with rfl | rfl | rfl | rfl | rfl | rfl | rfl | rfl <;> exact congrArg some (by kernel_rfl)
theorem and_pow2 : ∀ k : Fin 21, bitsAnd .i64 ((2 ^ k.val : Nat) : Int) (((2 ^ k.val : Nat) : Int) - 1) = 0 := by decide +kernel
theorem hashes_Place_T (a : Int) {len : Int} (k : Nat) (hk : k ≤ 20) (hl : len = 2 ^ k) : Tot (hashes_Place a len) fun r => r.2 = 0 ∧ 0 ≤ r.1 ∧ r.1 < len := by
  have hp : (2:Int) ^ k ≤ 2 ^ 20 := by exact_mod_cast Nat.pow_le_pow_right (by decide) hk
  have hp' : (2:Int) ^ 20 = 1048576 := by decide
  have h1 : (1:Int) ≤ 2 ^ k := by exact_mod_cast Nat.one_le_two_pow
  have hz := and_pow2 ⟨k, by omega⟩
  have hc : ((2 ^ k : Nat) : Int) = (2:Int) ^ k := by norm_cast
  rw [hc, ← hl] at hz
  rw [hashes_Place_eq, w64 (x := len - 1) (by omega) (by omega)]
  have hb := and64 (IntKind.wrap .i64 a) (len - 1) (by omega) (by omega)
  refine Tot.ifd_neg (by omega) (Tot.ifd_neg (by omega) (Tot.ifne_neg hz (Tot.so ⟨rfl, ?_⟩)))
  simp only
  omega
theorem hashes_Check_T (a : Int) : Tot (hashes_Check a) fun r => True := by
  rw [hashes_Check_eq]
  exact Tot.g (by decide) (Tot.so trivial)
theorem clone_any {α : Type} (l : List α) (s : Nat) (hs : s ≤ 64) (hl : l.length ≤ 1048576) :
    (anyv (fun (r1 : Bool) => r1 = true → l = []) fun (r1 : Bool) =>
      if r1 = true then some ([]) else gd ((List.length ([] ++ l)) * s ≤ 140737488355328) <| some ([] ++ l)) = some l := by
  refine anyv_eq false (by simp) (fun r hr => ?_)
  by_cases h : r = true
  · rw [if_pos h, hr h]
  · rw [if_neg h, gd_pos (by
      rw [List.nil_append]
      exact Nat.le_trans (Nat.mul_le_mul hl hs) (by decide)), List.nil_append]
theorem bytes_Clone_T (l : List Int) (h : l.length ≤ 1048576) : bytes_Clone l = some l := by rw [bytes_Clone_eq]; exact clone_any l 1 (by decide) h
theorem slices_Clone_int32_int32_T (l : List Int) (h : l.length ≤ 1048576) : slices_Clone_int32_int32 l = some l := by rw [slices_Clone_int32_int32_eq]; exact clone_any l 4 (by decide) h
theorem slices_Clone_byte_byte_T (l : List Int) (h : l.length ≤ 1048576) : slices_Clone_byte_byte l = some l := by rw [slices_Clone_byte_byte_eq]; exact clone_any l 1 (by decide) h
theorem slices_Clone_int_int_T (l : List Int) (h : l.length ≤ 1048576) : slices_Clone_int_int l = some l := by rw [slices_Clone_int_int_eq]; exact clone_any l 8 (by decide) h
theorem slices_Clone_Slot_T (l : List D_api_Slot) (h : l.length ≤ 1048576) : slices_Clone_api_Slot_api_Slot l = some l := by rw [slices_Clone_api_Slot_api_Slot_eq]; exact clone_any l 16 (by decide) h
theorem slices_Clone_Table_T (l : List D_api_Table) (h : l.length ≤ 1048576) : slices_Clone_api_Table_api_Table l = some l := by rw [slices_Clone_api_Table_api_Table_eq]; exact clone_any l 32 (by decide) h
theorem slices_Clone_Adapt_T (l : List D_api_Adapt) (h : l.length ≤ 1048576) : slices_Clone_api_Adapt_api_Adapt l = some l := by rw [slices_Clone_api_Adapt_api_Adapt_eq]; exact clone_any l 56 (by decide) h
theorem getD_all {α : Type} {P : α → Prop} {l : List α} {d : α} (h : ∀ x ∈ l, P x) (i : Nat) (hi : i < l.length) : P (l.getD i d) := by
  rw [List.getD_eq_getElem?_getD, List.getElem?_eq_getElem hi]; exact h _ (List.getElem_mem hi)
theorem getD_all' {α : Type} {P : α → Prop} {l : List α} {d : α} (h : ∀ x ∈ l, P x) (hd : P d) (i : Nat) : P (l.getD i d) := by
  by_cases hi : i < l.length
  · exact getD_all h i hi
  · rw [List.getD_eq_getElem?_getD, List.getElem?_eq_none (by omega)]; exact hd
theorem set_all {α : Type} {P : α → Prop} {l : List α} {v : α} (h : ∀ x ∈ l, P x) (hv : P v) (i : Nat) : ∀ x ∈ l.set i v, P x := by
  intro x hx
  rcases List.mem_or_eq_of_mem_set hx with h' | rfl
  · exact h x h'
  · exact hv
theorem app_all {α : Type} {P : α → Prop} {l : List α} {v : α} (h : ∀ x ∈ l, P x) (hv : P v) : ∀ x ∈ l ++ [v], P x := by
  intro x hx
  rcases List.mem_append.1 hx with h' | h'
  · exact h x h'
  · rw [List.mem_singleton.1 h']; exact hv
theorem set_self {α : Type} (l : List α) (i : Nat) (d : α) : l.set i (l.getD i d) = l := by
  by_cases hi : i < l.length
  · rw [List.getD_eq_getElem?_getD, List.getElem?_eq_getElem hi, Option.getD_some, List.set_getElem_self]
  · rw [List.set_eq_of_length_le (by omega)]
end Go.Ab

/-
  Totality of the codec, 2: rings, contexts, hashes.
-/
set_option linter.unusedVariables false
set_option linter.unusedSimpArgs false
set_option maxRecDepth 10000
namespace Go.Ab
open Go
attribute [local irreducible] IntKind.wrap
def WfRing (l : Int) (r : D_api_Ring) : Prop := r.1 = l ∧ (0 ≤ l ∧ l ≤ 7) ∧ (r.2.1.length : Int) = plR l ∧ Bts r.2.1 ∧ 0 ≤ r.2.2.1 ∧ r.2.2.1 ≤ 1073741824 ∧ ∀ x ∈ r.2.1.drop r.2.2.1.toNat, x = 0
theorem DecodeRune_zero (x : Int) (l : List Int) (hx : x = 0) (hl : (x :: l).length ≤ 1048576) : unicode_utf8_DecodeRune (x :: l) = some (0, 1) := by
  subst hx
  rw [unicode_utf8_DecodeRune_eq, unicode_utf8_DecodeRune_c1_eq]
  simp only [Int.ofNat_eq_natCast, List.length_cons] at *
  have e : (0 :: l).getD (Int.toNat 0) 0 = (0 : Int) := rfl
  rw [if_pos (by simp), gd_pos (by omega), gd_pos (by omega), e, if_pos (by decide), w32 (by decide) (by decide)]
theorem indexFunc_zero (l : List Int) (hl : l.length ≤ 1048576) (hz : ∀ x ∈ l, x = 0) : ∀ i : Int, 0 ≤ i → bytes_indexFunc_c1 l true i = some (-1) := by
  intro i
  refine up_ind (P := fun i => 0 ≤ i → bytes_indexFunc_c1 l true i = some (-1)) l.length ?_ ?_ i
  · intro i hi h0
    rw [bytes_indexFunc_c1_eq]
    simp only [Int.ofNat_eq_natCast]
    rw [if_neg (by simp; omega)]
  · intro i hi ih h0
    rw [bytes_indexFunc_c1_eq]
    simp only [Int.ofNat_eq_natCast]
    rw [if_pos (by simpa using hi), gd_pos h0, gd_pos (by omega)]
    have hd : l.drop i.toNat = l[i.toNat]'(by omega) :: l.drop (i.toNat + 1) := List.drop_eq_getElem_cons (by omega)
    rw [hd, DecodeRune_zero _ _ (hz _ (List.getElem_mem _)) (by rw [← hd, List.length_drop]; omega), Option.bind_some, ring_Check_1_eq, Option.bind_some, if_neg (by decide)]
    simp only
    rw [w64 (by omega) (by omega)]
    exact ih (by omega)
theorem ContainsFunc_zero (l : List Int) (hl : l.length ≤ 1048576) (hz : ∀ x ∈ l, x = 0) : bytes_ContainsFunc l = some false := by
  rw [bytes_ContainsFunc_eq, bytes_IndexFunc_eq, bytes_indexFunc_eq, indexFunc_zero l hl hz 0 (by omega)]
  rfl
theorem ring_Check_T {l : Int} {r : D_api_Ring} (h : WfRing l r) : ring_Check r = some 0 := by
  obtain ⟨h1, ⟨h2, h3⟩, h4, h5, h6, h7, h8⟩ := h
  have hp := plR_lt h2 h3
  rw [ring_Check_eq, h1, ring_places_T h2 h3]
  simp only [Int.ofNat_eq_natCast]
  rw [if_neg (by simpa using h2), if_neg (by simpa using h3), Option.bind_some, if_neg (by simpa using h4), if_neg (by simpa using h6), if_neg (by simpa using h7)]
  by_cases hc : r.2.2.1 < (r.2.1.length : Int)
  · rw [if_pos (by simpa using hc), gd_pos h6, gd_pos (by omega), ContainsFunc_zero _ (by rw [List.length_drop]; omega) h8, Option.bind_some, if_neg (by decide)]
  · rw [if_neg (by simpa using hc)]
theorem ring_ago_T {l : Int} {r : D_api_Ring} (h : WfRing l r) (a : Int) : Tot (ring_ago r a) fun x => 0 ≤ x ∧ x < 256 := by
  obtain ⟨h1, ⟨h2, h3⟩, h4, h5, h6, h7, h8⟩ := h
  have hp := plR_lt h2 h3
  rw [ring_ago_eq]
  simp only [Int.ofNat_eq_natCast]
  rw [w64 (x := (r.2.1.length : Int) - 1) (by omega) (by omega)]
  have hb := and64 (IntKind.wrap .i64 (r.2.2.1 - a)) ((r.2.1.length : Int) - 1) (by omega) (by omega)
  refine Tot.g hb.1 (Tot.g (by omega) (Tot.so ?_))
  exact getD_all (P := fun x => 0 ≤ x ∧ x < 256) h5 _ (by omega)
theorem ring_Back_T {l : Int} {r : D_api_Ring} (h : WfRing l r) (a : Int) : Tot (ring_Back r a) fun x => 0 ≤ x.1 ∧ x.1 < 256 := by
  rw [ring_Back_eq]
  refine Tot.be (ring_Check_T h) (Tot.ifne_neg rfl (Tot.ifd (fun _ => Tot.so (by decide)) (fun _ => Tot.ifd (fun _ => Tot.so (by decide)) (fun _ => Tot.ifd (fun _ => Tot.so (by decide)) (fun _ => ?_)))))
  exact Tot.b (ring_ago_T h a) (fun x hx => Tot.so hx)
theorem ring_At_T {l : Int} {r : D_api_Ring} (h : WfRing l r) (a : Int) : Tot (ring_At r a) fun x => 0 ≤ x.1 ∧ x.1 < 256 := by
  rw [ring_At_eq]
  refine Tot.be (ring_Check_T h) (Tot.ifne_neg rfl (Tot.ifd (fun _ => Tot.so (by decide)) (fun _ => Tot.ifd (fun _ => Tot.so (by decide)) (fun _ => Tot.ifd (fun _ => Tot.so (by decide)) (fun _ => ?_)))))
  exact Tot.b (ring_ago_T h _) (fun x hx => Tot.so hx)
theorem hashes_steps_c1_T (b : List Int) (hl : b.length ≤ 1048576) : ∀ (i : Int) (a : Int), 0 ≤ i → Tot (hashes_steps_c1 a b b.length i) fun _ => True := by
  intro i
  refine up_ind (P := fun i => ∀ a, 0 ≤ i → Tot (hashes_steps_c1 a b b.length i) fun _ => True) b.length ?_ ?_ i
  · intro i hi a h0
    rw [hashes_steps_c1_eq]
    exact Tot.ifd_neg (by omega) (Tot.so trivial)
  · intro i hi ih a h0
    rw [hashes_steps_c1_eq]
    simp only [Int.ofNat_eq_natCast]
    rw [w64 (x := i + 1) (by omega) (by omega)]
    exact Tot.ifd_pos (by omega) (Tot.g h0 (Tot.g (by omega) (Tot.g (by decide) (ih _ (by omega)))))
theorem hashes_steps_T (a : Int) (b : List Int) (hl : b.length ≤ 1048576) : Tot (hashes_steps a b) fun _ => True := by
  rw [hashes_steps_eq]; exact hashes_steps_c1_T b hl 0 a (by omega)
theorem hashes_Of_T (a : Int) (b : List Int) (hl : b.length ≤ 1048576) : Tot (hashes_Of a b) fun _ => True := by
  rw [hashes_Of_eq]
  refine Tot.b (P := fun _ => True) ?_ (fun r _ => Tot.ifne (fun _ => Tot.so trivial) (fun _ => Tot.ifd (fun _ => Tot.so trivial) (fun _ => Tot.b (hashes_steps_T _ _ hl) (fun _ _ => Tot.so trivial))))
  rw [hashes_Start_eq]
  exact Tot.ifd (fun _ => Tot.so trivial) (fun _ => Tot.ifd (fun _ => Tot.so trivial) (fun _ => Tot.so trivial))
theorem hashes_Step_T (a b : Int) : Tot (hashes_Step a b) fun _ => True := by
  rw [hashes_Step_eq]; exact Tot.b (hashes_steps_T _ _ (by show 1 ≤ _; decide)) (fun _ _ => Tot.so trivial)
theorem context_back_c1_T {l : Int} {r : D_api_Ring} (h : WfRing l r) : ∀ (n : Nat) (hs : List Int), n + hs.length ≤ 1000 → Bts hs → Tot (context_back_c1 n r hs) fun x => x.length = hs.length + n ∧ Bts x
  | 0, hs, hn, hb => by
    rw [context_back_c1_eq]
    exact Tot.ifd_neg (by simp) (Tot.so ⟨rfl, hb⟩)
  | n + 1, hs, hn, hb => by
    rw [context_back_c1_eq]
    refine Tot.ifd_pos (by omega) (Tot.b (ring_Back_T h _) (fun x hx => Tot.g (by simp; omega) ?_))
    rw [w64 (by omega) (by omega)]
    have e : ((n + 1 : Nat) : Int) - 1 = (n : Int) := by omega
    rw [e]
    exact Tot.mono (context_back_c1_T h n (hs ++ [x.1]) (by simp; omega) (app_all hb hx)) (fun y hy => ⟨by simp at hy; omega, hy.2⟩)
theorem context_back_T {l : Int} {r : D_api_Ring} (h : WfRing l r) (n : Nat) (hn : n ≤ 1000) : Tot (context_back r n) fun x => x.length = n ∧ Bts x := by
  rw [context_back_eq]
  exact Tot.mono (context_back_c1_T h n [] (by simpa using hn) Bts.nil) (fun y hy => ⟨by simpa using hy.1, hy.2⟩)
theorem context_small_T (a : Int) : Tot (context_small a) fun _ => True := by
  rw [context_small_eq]
  repeat (first | exact Tot.so trivial | refine Tot.ifd (fun _ => ?_) (fun _ => ?_))
theorem context_word_c2_T (h9 : List Int) (o n : Nat) (hn : n ≤ 1000) : ∀ (i : Int) (hs : List Int), 0 ≤ i → i ≤ n → hs.length = i.toNat → Tot (context_word_c2 o n n i hs h9) fun x => x.length ≤ 1000 := by
  intro i
  refine up_ind (P := fun i => ∀ (hs : List Int), 0 ≤ i → i ≤ n → hs.length = i.toNat → Tot (context_word_c2 o n n i hs h9) fun x => x.length ≤ 1000) n ?_ ?_ i
  · intro i hi hs h0 h1 h2
    rw [context_word_c2_eq]
    exact Tot.ifd_neg (by omega) (Tot.so (by omega))
  · intro i hi ih hs h0 h1 h2
    rw [context_word_c2_eq]
    simp only [Int.ofNat_eq_natCast]
    rw [w64 (x := i + 1) (by omega) (by omega)]
    refine Tot.ifd_pos (by omega) (Tot.g h0 (Tot.g (by omega) (Tot.b (context_small_T _) (fun x _ => Tot.g (by simp; omega) (ih _ (by omega) (by omega) ?_)))))
    simp; omega
theorem context_word_c1_T (hs : List Int) (hl : hs.length ≤ 1000) : ∀ n : Nat, n ≤ hs.length → Tot (context_word_c1 n hs) fun x => x.length ≤ 1000
  | 0, hn => by
    rw [context_word_c1_eq]
    exact Tot.ifd_neg (by simp) (Tot.g (by omega) (Tot.g (by simp only [Int.ofNat_eq_natCast]; omega) (context_word_c2_T hs _ _ (by omega) 0 [] (by omega) (by omega) rfl)))
  | n + 1, hn => by
    rw [context_word_c1_eq]
    simp only [Int.ofNat_eq_natCast]
    have e : ((n + 1 : Nat) : Int) - 1 = (n : Int) := by omega
    rw [w64 (x := ((n + 1 : Nat) : Int) - 1) (by omega) (by omega), e]
    refine Tot.ifd_pos (by omega) (Tot.g (by omega) (Tot.g (by omega) (Tot.b (context_small_T _) (fun x _ => Tot.ifne (fun _ => context_word_c1_T hs hl n (by omega)) (fun _ => Tot.g (by omega) (Tot.g (by omega) ?_))))))
    exact context_word_c2_T hs _ _ (by omega) 0 [] (by omega) (by omega) rfl
theorem context_word_T {l : Int} {r : D_api_Ring} (h : WfRing l r) : Tot (context_word r) fun x => x.length ≤ 1000 := by
  rw [context_word_eq]
  exact Tot.b (context_back_T h 16 (by decide)) (fun x hx => context_word_c1_T x (by omega) x.length (Nat.le_refl _))
theorem context_Of_c1_T {l : Int} {r : D_api_Ring} (h : WfRing l r) (v b9 : List Int) (hv : v = [1, 2, 3, 4, 6]) (hs : List Int) (hl : hs.length = 6) : ∀ (i : Int) (b10 : List Int), 0 ≤ i → i ≤ 5 → Tot (context_Of_c1 v i r b9 b10 hs) fun x => x.2 = 0 := by
  intro i
  refine up_ind (P := fun i => ∀ (b10 : List Int), 0 ≤ i → i ≤ 5 → Tot (context_Of_c1 v i r b9 b10 hs) fun x => x.2 = 0) 5 ?_ ?_ i
  · intro i hi b10 h0 h1
    rw [context_Of_c1_eq]
    refine Tot.ifd_neg (by omega) (Tot.b (context_word_T h) (fun x hx => Tot.b (hashes_Of_T 5 x (by omega)) (fun y _ => Tot.g (by decide) (Tot.g (by decide) (Tot.so rfl)))))
  · intro i hi ih b10 h0 h1
    rw [context_Of_c1_eq]
    have hg : 1 ≤ v.getD i.toNat 0 ∧ v.getD i.toNat 0 ≤ 6 := by
      subst hv
      have : i = 0 ∨ i = 1 ∨ i = 2 ∨ i = 3 ∨ i = 4 := by omega
      rcases this with rfl | rfl | rfl | rfl | rfl <;> decide
    simp only [Int.ofNat_eq_natCast]
    rw [w64 (x := i + 1) (by omega) (by omega), w64 (x := 6 - v.getD i.toNat 0) (by omega) (by omega)]
    refine Tot.ifd_pos (by omega) (Tot.g h0 (Tot.g (by omega) (Tot.g (by omega) (Tot.g (by omega) (Tot.b (hashes_Of_T _ _ ?_) (fun y _ => Tot.g h0 (Tot.g (by omega) (ih _ (by omega) (by omega)))))))))
    rw [List.length_take]; omega
theorem context_Of_T {l : Int} {r : D_api_Ring} (h : WfRing l r) : Tot (context_Of r) fun x => x.2 = 0 := by
  rw [context_Of_eq]
  refine Tot.be (ring_Check_T h) (Tot.ifne_neg rfl (Tot.b (context_back_T h 6 (by decide)) (fun x hx => ?_)))
  exact context_Of_c1_T h _ _ rfl x hx.1 0 _ (by omega) (by omega)
theorem context_Recent_T {l : Int} {r : D_api_Ring} (h : WfRing l r) : Tot (context_Recent r) fun x => 0 ≤ x.1 ∧ x.1 < 256 ∧ 0 ≤ x.2.1 ∧ x.2.1 < 256 := by
  rw [context_Recent_eq]
  refine Tot.be (ring_Check_T h) (Tot.ifne_neg rfl (Tot.b (context_back_T h 2 (by decide)) (fun x hx => ?_)))
  simp only [Int.ofNat_eq_natCast]
  have h1 := getD_all (P := fun x => 0 ≤ x ∧ x < 256) (d := 0) hx.2 1 (by omega)
  have h2 := getD_all (P := fun x => 0 ≤ x ∧ x < 256) (d := 0) hx.2 0 (by omega)
  exact Tot.g (by omega) (Tot.g (by omega) (Tot.g (by omega) (Tot.g (by omega) (Tot.so ⟨h1.1, h1.2, h2.1, h2.2⟩))))
theorem context_Deep_T (a b : Int) : Tot (context_Deep a b) fun _ => True := by
  rw [context_Deep_eq]
  exact Tot.ifd (fun _ => Tot.so trivial) (fun _ => Tot.ifd (fun _ => Tot.so trivial) (fun _ => Tot.b (hashes_Step_T _ _) (fun _ _ => Tot.so trivial)))
end Go.Ab

/-
  Totality of the codec, 3: states and counts.
-/
set_option linter.unusedVariables false
set_option linter.unusedSimpArgs false
set_option maxRecDepth 10000
namespace Go.Ab
open Go
attribute [local irreducible] IntKind.wrap
theorem maxU8_c1_T {m : Int} (l : List Int) (hl : l.length ≤ 1048576) (h : ∀ x ∈ l, 0 ≤ x ∧ x ≤ m) : ∀ (i : Int) (v : Int), 0 ≤ i → 0 ≤ v → v ≤ m → Tot (slices_Max_uint8_uint8_c1 l v i) fun r => 0 ≤ r ∧ r ≤ m := by
  intro i
  refine up_ind (P := fun i => ∀ v, 0 ≤ i → 0 ≤ v → v ≤ m → Tot (slices_Max_uint8_uint8_c1 l v i) fun r => 0 ≤ r ∧ r ≤ m) l.length ?_ ?_ i
  · intro i hi v h0 h1 h2
    rw [slices_Max_uint8_uint8_c1_eq]
    exact Tot.ifd_neg (by simp only [Int.ofNat_eq_natCast]; omega) (Tot.so ⟨h1, h2⟩)
  · intro i hi ih v h0 h1 h2
    rw [slices_Max_uint8_uint8_c1_eq]
    simp only [Int.ofNat_eq_natCast]
    rw [w64 (x := i + 1) (by omega) (by omega)]
    have hd := getD_all (P := fun x => 0 ≤ x ∧ x ≤ m) (d := 0) h i.toNat (by omega)
    refine Tot.ifd_pos (by omega) (Tot.g h0 (Tot.g (by omega) (ih _ (by omega) ?_ ?_)))
    · split <;> omega
    · split <;> omega
theorem maxU8_T {m : Int} (l : List Int) (hl : l.length ≤ 1048576) (h1 : 1 ≤ l.length) (h : ∀ x ∈ l, 0 ≤ x ∧ x ≤ m) : Tot (slices_Max_uint8_uint8 l) fun r => 0 ≤ r ∧ r ≤ m := by
  rw [slices_Max_uint8_uint8_eq]
  simp only [Int.ofNat_eq_natCast]
  have hd := getD_all (P := fun x => 0 ≤ x ∧ x ≤ m) (d := 0) h 0 (by omega)
  exact Tot.ifd_neg (by omega) (Tot.g (by omega) (Tot.g (by omega) (maxU8_c1_T l hl h 1 _ (by omega) hd.1 hd.2)))
theorem maxI32_c1_T {m n : Int} (l : List Int) (hl : l.length ≤ 1048576) (h : ∀ x ∈ l, n ≤ x ∧ x ≤ m) : ∀ (i : Int) (v : Int), 0 ≤ i → n ≤ v → v ≤ m → Tot (slices_Max_int32_int32_c1 l v i) fun r => n ≤ r ∧ r ≤ m := by
  intro i
  refine up_ind (P := fun i => ∀ v, 0 ≤ i → n ≤ v → v ≤ m → Tot (slices_Max_int32_int32_c1 l v i) fun r => n ≤ r ∧ r ≤ m) l.length ?_ ?_ i
  · intro i hi v h0 h1 h2
    rw [slices_Max_int32_int32_c1_eq]
    exact Tot.ifd_neg (by simp only [Int.ofNat_eq_natCast]; omega) (Tot.so ⟨h1, h2⟩)
  · intro i hi ih v h0 h1 h2
    rw [slices_Max_int32_int32_c1_eq]
    simp only [Int.ofNat_eq_natCast]
    rw [w64 (x := i + 1) (by omega) (by omega)]
    have hd := getD_all (P := fun x => n ≤ x ∧ x ≤ m) (d := 0) h i.toNat (by omega)
    refine Tot.ifd_pos (by omega) (Tot.g h0 (Tot.g (by omega) (ih _ (by omega) ?_ ?_)))
    · split <;> omega
    · split <;> omega
theorem maxI32_T {m n : Int} (l : List Int) (hl : l.length ≤ 1048576) (h1 : 1 ≤ l.length) (h : ∀ x ∈ l, n ≤ x ∧ x ≤ m) : Tot (slices_Max_int32_int32 l) fun r => n ≤ r ∧ r ≤ m := by
  rw [slices_Max_int32_int32_eq]
  simp only [Int.ofNat_eq_natCast]
  have hd := getD_all (P := fun x => n ≤ x ∧ x ≤ m) (d := 0) h 0 (by omega)
  exact Tot.ifd_neg (by omega) (Tot.g (by omega) (Tot.g (by omega) (maxI32_c1_T l hl h 1 _ (by omega) hd.1 hd.2)))
theorem minI32_c1_T {m n : Int} (l : List Int) (hl : l.length ≤ 1048576) (h : ∀ x ∈ l, n ≤ x ∧ x ≤ m) : ∀ (i : Int) (v : Int), 0 ≤ i → n ≤ v → v ≤ m → Tot (slices_Min_int32_int32_c1 l v i) fun r => n ≤ r ∧ r ≤ m := by
  intro i
  refine up_ind (P := fun i => ∀ v, 0 ≤ i → n ≤ v → v ≤ m → Tot (slices_Min_int32_int32_c1 l v i) fun r => n ≤ r ∧ r ≤ m) l.length ?_ ?_ i
  · intro i hi v h0 h1 h2
    rw [slices_Min_int32_int32_c1_eq]
    exact Tot.ifd_neg (by simp only [Int.ofNat_eq_natCast]; omega) (Tot.so ⟨h1, h2⟩)
  · intro i hi ih v h0 h1 h2
    rw [slices_Min_int32_int32_c1_eq]
    simp only [Int.ofNat_eq_natCast]
    rw [w64 (x := i + 1) (by omega) (by omega)]
    have hd := getD_all (P := fun x => n ≤ x ∧ x ≤ m) (d := 0) h i.toNat (by omega)
    refine Tot.ifd_pos (by omega) (Tot.g h0 (Tot.g (by omega) (ih _ (by omega) ?_ ?_)))
    · split <;> omega
    · split <;> omega
theorem minI32_T {m n : Int} (l : List Int) (hl : l.length ≤ 1048576) (h1 : 1 ≤ l.length) (h : ∀ x ∈ l, n ≤ x ∧ x ≤ m) : Tot (slices_Min_int32_int32 l) fun r => n ≤ r ∧ r ≤ m := by
  rw [slices_Min_int32_int32_eq]
  simp only [Int.ofNat_eq_natCast]
  have hd := getD_all (P := fun x => n ≤ x ∧ x ≤ m) (d := 0) h 0 (by omega)
  exact Tot.ifd_neg (by omega) (Tot.g (by omega) (Tot.g (by omega) (minI32_c1_T l hl h 1 _ (by omega) hd.1 hd.2)))
def WfC (c : D_api_Count) : Prop := (c.1 = 0 ∧ c.2.1 = 0 ∧ c.2.2.1 = 0) ∨ (c.2.2.1 = 0 ∧ 1 ≤ c.1 ∧ c.1 ≤ 12 ∧ 0 ≤ c.2.1 ∧ c.2.1 ≤ 7) ∨ (c.2.2.1 = 1 ∧ 1 ≤ c.2.1 ∧ c.2.1 ≤ 12 ∧ 0 ≤ c.1 ∧ c.1 ≤ 7)
theorem two_0 (x y d : Int) : List.getD (List.set (List.set (List.replicate 2 (0:Int)) 0 x) 1 y) 0 d = x := rfl
theorem two_1 (x y d : Int) : List.getD (List.set (List.set (List.replicate 2 (0:Int)) 0 x) 1 y) 1 d = y := rfl
theorem states_Count_T {a : Int} (h0 : 0 ≤ a) (h1 : a ≤ 192) : Tot (states_Count a) fun r => r.2 = 0 ∧ WfC r.1 := by
  rw [states_Count_eq, states_Size_eq]
  refine Tot.be rfl (Tot.ifd_neg (by rw [w64 (by omega) (by omega)]; omega) (Tot.ifeq (fun h => Tot.so ⟨rfl, Or.inl ⟨rfl, rfl, rfl⟩⟩) (fun h => ?_)))
  simp (disch := omega) only [wu8, w32, tdiv_nn, tmod_nn]
  have hv : (a - 1) % 256 / 8 / 12 = 0 ∨ (a - 1) % 256 / 8 / 12 = 1 := by omega
  have hx : 0 ≤ (a - 1) % 256 / 8 % 12 ∧ (a - 1) % 256 / 8 % 12 < 12 := by omega
  have hy : 0 ≤ (a - 1) % 256 % 8 ∧ (a - 1) % 256 % 8 < 8 := by omega
  generalize (a - 1) % 256 / 8 % 12 = x at *
  generalize (a - 1) % 256 % 8 = y at *
  generalize (a - 1) % 256 / 8 / 12 = v at *
  rcases hv with rfl | rfl
  · refine Tot.g (by decide) (Tot.g (by decide) (Tot.g (by decide) (Tot.g (by decide) (Tot.g (by decide) (Tot.g (by decide) (Tot.g (by decide) (Tot.g (by decide) (Tot.g (by decide) (Tot.g (by decide) (Tot.g (by decide) (Tot.g (by decide) (Tot.g (by decide) (Tot.so ⟨rfl, Or.inr (Or.inl ?_)⟩)))))))))))))
    refine ⟨rfl, ?_, ?_, hy.1, ?_⟩
    · show 1 ≤ x + 1; omega
    · show x + 1 ≤ 12; omega
    · show y ≤ 7; omega
  · refine Tot.g (by decide) (Tot.g (by decide) (Tot.g (by decide) (Tot.g (by decide) (Tot.g (by decide) (Tot.g (by decide) (Tot.g (by decide) (Tot.g (by decide) (Tot.g (by decide) (Tot.g (by decide) (Tot.g (by decide) (Tot.g (by decide) (Tot.g (by decide) (Tot.so ⟨rfl, Or.inr (Or.inr ?_)⟩)))))))))))))
    refine ⟨rfl, ?_, ?_, hy.1, ?_⟩
    · show 1 ≤ x + 1; omega
    · show x + 1 ≤ 12; omega
    · show y ≤ 7; omega
theorem states_Total_T {a : Int} (h0 : 0 ≤ a) (h1 : a ≤ 192) : Tot (states_Total a) fun r => True := by
  rw [states_Total_eq]
  exact Tot.b (states_Count_T h0 h1) (fun r _ => Tot.so trivial)
theorem counts_Check_T {c : D_api_Count} (h : WfC c) : counts_Check c = some 0 := by
  obtain ⟨x, y, v, u⟩ := c
  rw [counts_Check_eq]
  by_cases hp : peq T_api_Count (x, y, v, u) (0, (0, (0, ()))) = true
  · rw [if_pos hp]
  · rw [if_neg hp]
    simp only [WfC] at h
    have e0 : ¬ (x = 0 ∧ y = 0 ∧ v = 0) := by
      intro ⟨h1, h2, h3⟩
      subst h1 h2 h3
      exact hp rfl
    rcases h with h | h | h
    · exact absurd h e0
    · obtain ⟨rfl, h⟩ := h
      have e1 : (1 - 0 : Int) % 256 = 1 := by decide
      have e2 : Int.toNat 1 = 1 := rfl
      simp only [wu8, e1, e2, Int.toNat_zero, two_0, two_1]
      exact Tot.eq (Tot.ifd_neg (by omega) (Tot.g (by decide) (Tot.g (by decide) (Tot.g (by decide) (Tot.g (by decide) (Tot.ifd_neg (by omega) (Tot.ifd_neg (by omega) (Tot.ifd_neg (by omega) (Tot.ifd_neg (by omega) (Tot.so rfl))))))))))
    · obtain ⟨rfl, h⟩ := h
      have e1 : (1 - 1 : Int) % 256 = 0 := by decide
      have e2 : Int.toNat 1 = 1 := rfl
      simp only [wu8, e1, e2, Int.toNat_zero, two_0, two_1]
      exact Tot.eq (Tot.ifd_neg (by omega) (Tot.g (by decide) (Tot.g (by decide) (Tot.g (by decide) (Tot.g (by decide) (Tot.ifd_neg (by omega) (Tot.ifd_neg (by omega) (Tot.ifd_neg (by omega) (Tot.ifd_neg (by omega) (Tot.so rfl))))))))))
theorem ite_lt12 (z : Int) : (if (12:Int) < z then 12 else z) = min 12 z := by split <;> omega
theorem counts_next_T {c : D_api_Count} (h : WfC c) {b : Int} (hb : b = 0 ∨ b = 1) : Tot (counts_next c b) WfC := by
  obtain ⟨x, y, v, u⟩ := c
  have hr : 0 ≤ x ∧ x ≤ 12 ∧ 0 ≤ y ∧ y ≤ 12 := by
    simp only [WfC] at h; omega
  rw [counts_next_eq]
  rcases hb with rfl | rfl
  · have e1 : (1 - 0 : Int) % 256 = 1 := by decide
    have e2 : Int.toNat 1 = 1 := rfl
    simp only [wu8, e1, e2, Int.toNat_zero, ite_lt12]
    have a1 : List.getD (List.set (List.set (List.replicate 2 (0:Int)) 0 x) 1 y) 0 0 = x := rfl
    rw [a1, w32 (x := x + 1) (by omega) (by omega)]
    have a2 : List.getD (List.set (List.set (List.set (List.replicate 2 (0:Int)) 0 x) 1 y) 0 (min 12 (x + 1))) 1 0 = y := rfl
    rw [a2, tdiv_nn (by omega), w32 (x := y / 2) (by omega) (by omega), w32 (x := y / 2 + 1) (by omega) (by omega)]
    refine Tot.g (by decide) (Tot.g (by decide) (Tot.g (by decide) (Tot.g (by decide) (Tot.g (by decide) (Tot.g (by decide) (Tot.ifd (fun k => ?_) (fun k => ?_)))))))
    · refine Tot.g (by decide) (Tot.g (by decide) (Tot.g (by decide) (Tot.g (by decide) (Tot.g (by decide) (Tot.so (Or.inr (Or.inl ⟨rfl, ?_, ?_, ?_, ?_⟩))))))) 
      · show 1 ≤ min 12 (x + 1); omega
      · show min 12 (x + 1) ≤ 12; omega
      · show 0 ≤ y / 2 + 1; omega
      · show y / 2 + 1 ≤ 7; omega
    · refine Tot.g (by decide) (Tot.g (by decide) (Tot.g (by decide) (Tot.g (by decide) (Tot.so (Or.inr (Or.inl ⟨rfl, ?_, ?_, ?_, ?_⟩)))))) 
      · show 1 ≤ min 12 (x + 1); omega
      · show min 12 (x + 1) ≤ 12; omega
      · show 0 ≤ y; omega
      · show y ≤ 7; omega
  · have e1 : (1 - 1 : Int) % 256 = 0 := by decide
    have e2 : Int.toNat 1 = 1 := rfl
    simp only [wu8, e1, e2, Int.toNat_zero, ite_lt12]
    have a1 : List.getD (List.set (List.set (List.replicate 2 (0:Int)) 0 x) 1 y) 1 0 = y := rfl
    rw [a1, w32 (x := y + 1) (by omega) (by omega)]
    have a2 : List.getD (List.set (List.set (List.set (List.replicate 2 (0:Int)) 0 x) 1 y) 1 (min 12 (y + 1))) 0 0 = x := rfl
    rw [a2, tdiv_nn (by omega), w32 (x := x / 2) (by omega) (by omega), w32 (x := x / 2 + 1) (by omega) (by omega)]
    refine Tot.g (by decide) (Tot.g (by decide) (Tot.g (by decide) (Tot.g (by decide) (Tot.g (by decide) (Tot.g (by decide) (Tot.ifd (fun k => ?_) (fun k => ?_)))))))
    · refine Tot.g (by decide) (Tot.g (by decide) (Tot.g (by decide) (Tot.g (by decide) (Tot.g (by decide) (Tot.so (Or.inr (Or.inr ⟨rfl, ?_, ?_, ?_, ?_⟩))))))) 
      · show 1 ≤ min 12 (y + 1); omega
      · show min 12 (y + 1) ≤ 12; omega
      · show 0 ≤ x / 2 + 1; omega
      · show x / 2 + 1 ≤ 7; omega
    · refine Tot.g (by decide) (Tot.g (by decide) (Tot.g (by decide) (Tot.g (by decide) (Tot.so (Or.inr (Or.inr ⟨rfl, ?_, ?_, ?_, ?_⟩)))))) 
      · show 1 ≤ min 12 (y + 1); omega
      · show min 12 (y + 1) ≤ 12; omega
      · show 0 ≤ x; omega
      · show x ≤ 7; omega
theorem counts_Run_T {c : D_api_Count} (h : WfC c) {b : Int} (hb : b = 0 ∨ b = 1) : Tot (counts_Run c [b]) fun r => r.2 = 0 ∧ WfC r.1 := by
  rw [counts_Run_eq]
  have e : (Int.ofNat [b].length) = 1 := rfl
  rw [e]
  refine Tot.be (counts_Check_T h) (Tot.ifne_neg rfl (Tot.ifd_neg (by decide) (Tot.ifd_pos (by decide) (Tot.b (maxU8_T (m := 1) [b] (by show 1 ≤ _; decide) (by show 1 ≤ 1; decide) (fun x hx => by rw [List.mem_singleton.1 hx]; omega)) (fun r hr => Tot.ifd_neg (by omega) ?_)))))
  rw [counts_Run_c1_eq]
  have eb : [b].getD (Int.toNat 0) 0 = b := rfl
  rw [e, eb, w64 (x := 0 + 1) (by decide) (by decide)]
  refine Tot.ifd_pos (by decide) (Tot.g (by decide) (Tot.g (by decide) (Tot.b (counts_next_T h hb) (fun r hr => ?_))))
  rw [counts_Run_c1_eq]
  exact Tot.ifd_neg (by decide) (Tot.so ⟨rfl, hr⟩)
theorem states_number_T {c : D_api_Count} (h : WfC c) : Tot (states_number c) fun r => 0 ≤ r ∧ r ≤ 192 := by
  obtain ⟨x, y, v, u⟩ := c
  rw [states_number_eq]
  refine Tot.it (fun _ => Tot.so (by decide)) (fun hp => ?_)
  simp only [WfC] at h
  have e0 : ¬ (x = 0 ∧ y = 0 ∧ v = 0) := by
    intro ⟨h1, h2, h3⟩
    subst h1 h2 h3
    exact hp rfl
  rcases h with h | h | h
  · exact absurd h e0
  · obtain ⟨rfl, h⟩ := h
    have e1 : (1 - 0 : Int) % 256 = 1 := by decide
    have e2 : Int.toNat 1 = 1 := rfl
    simp (disch := omega) only [wu8, e1, e2, Int.toNat_zero, two_0, two_1, w32]
    refine Tot.g (by decide) (Tot.g (by decide) (Tot.g (by decide) (Tot.g (by decide) (Tot.so ?_))))
    omega
  · obtain ⟨rfl, h⟩ := h
    have e1 : (1 - 1 : Int) % 256 = 0 := by decide
    have e2 : Int.toNat 1 = 1 := rfl
    simp (disch := omega) only [wu8, e1, e2, Int.toNat_zero, two_0, two_1, w32]
    refine Tot.g (by decide) (Tot.g (by decide) (Tot.g (by decide) (Tot.g (by decide) (Tot.so ?_))))
    omega
theorem states_Next_T {a b : Int} (h0 : 0 ≤ a) (h1 : a ≤ 192) (hb : b = 0 ∨ b = 1) : Tot (states_Next a b) fun r => r.2 = 0 ∧ 0 ≤ r.1 ∧ r.1 ≤ 192 := by
  rw [states_Next_eq, states_Run_eq]
  refine Tot.b (P := fun r => r.2 = 0 ∧ 0 ≤ r.1 ∧ r.1 ≤ 192) (Tot.b (states_Count_T h0 h1) (fun r hr => Tot.ifne_neg hr.1 (Tot.ifd_neg (by show ¬ (1:Int) > 20000; decide) ?_))) (fun r hr => Tot.so hr)
  have hc : slices_ContainsFunc_uint8_uint8 [b] = some false := by
    have e : (Int.ofNat [b].length) = 1 := rfl
    have eb : [b].getD (Int.toNat 0) 0 = b := rfl
    rw [slices_ContainsFunc_uint8_uint8_eq, slices_IndexFunc_uint8_uint8_eq, slices_IndexFunc_uint8_uint8_c1_eq, e, eb, w64 (x := 0 + 1) (by decide) (by decide), if_pos (by decide), gd_pos (by decide), gd_pos (by decide), states_Run_1_eq, Option.bind_some, if_neg (by simp; omega), slices_IndexFunc_uint8_uint8_c1_eq, if_neg (by decide)]
    rfl
  refine Tot.be hc (Tot.iff_ (Tot.b (counts_Run_T hr.2 hb) (fun s hs => Tot.ifne_neg hs.1 (Tot.b (states_number_T hs.2) (fun t ht => Tot.so ⟨rfl, ht⟩)))))
end Go.Ab

/-
  Totality of the codec, 4: tables, maps, finders.
-/
set_option linter.unusedVariables false
set_option linter.unusedSimpArgs false
set_option maxRecDepth 10000
namespace Go.Ab
open Go
attribute [local irreducible] IntKind.wrap
def WfSlot (s : D_api_Slot) : Prop := s.2.1.length = 15 ∧ ∀ x ∈ s.2.1, 0 ≤ x ∧ x ≤ 192
def WfTab (l : Int) (t : D_api_Table) : Prop := t.1 = l ∧ (0 ≤ l ∧ l ≤ 7) ∧ (t.2.1.length : Int) = plT l ∧ ∀ s ∈ t.2.1, WfSlot s
theorem slots_Check_c1_T (l : List D_api_Slot) (hl : l.length ≤ 1048576) (h : ∀ s ∈ l, WfSlot s) : ∀ i : Int, 0 ≤ i → Tot (slots_Check_c1 l l.length i) fun r => r = 0 := by
  intro i
  refine up_ind (P := fun i => 0 ≤ i → Tot (slots_Check_c1 l l.length i) fun r => r = 0) l.length ?_ ?_ i
  · intro i hi h0
    rw [slots_Check_c1_eq]
    exact Tot.ifd_neg (by omega) (Tot.so rfl)
  · intro i hi ih h0
    rw [slots_Check_c1_eq]
    simp only [Int.ofNat_eq_natCast]
    rw [w64 (x := i + 1) (by omega) (by omega)]
    have hd := getD_all (P := WfSlot) (d := pzero T_api_Slot) h i.toNat (by omega)
    refine Tot.ifd_pos (by omega) (Tot.g h0 (Tot.g (by omega) (Tot.b (maxU8_T (m := 192) _ ?_ ?_ ?_) (fun r hr => Tot.ifd_neg (by omega) (ih (by omega))))))
    · have := hd.1; simp only [List.length_take, List.length_drop]; omega
    · have := hd.1; simp only [List.length_take, List.length_drop]; omega
    · exact fun x hx => hd.2 x (List.mem_of_mem_drop (List.mem_of_mem_take hx))
theorem slots_Check_T {l : Int} {t : D_api_Table} (h : WfTab l t) : slots_Check t = some 0 := by
  obtain ⟨h1, ⟨h2, h3⟩, h4, h5⟩ := h
  have hp := plT_lt h2 h3
  rw [slots_Check_eq, h1, slots_size_T h2 h3]
  simp only [Int.ofNat_eq_natCast]
  exact Tot.eq (Tot.ifd_neg (by omega) (Tot.ifd_neg (by omega) (Tot.be rfl (Tot.ifne_neg h4 (slots_Check_c1_T _ (by omega) h5 0 (by omega))))))
theorem slots_priority_T {s : D_api_Slot} (h : WfSlot s) : Tot (slots_priority s) fun _ => True := by
  rw [slots_priority_eq]
  have hd := getD_all (P := fun x => 0 ≤ x ∧ x ≤ 192) (d := 0) h.2 0 (by rw [h.1]; decide)
  exact Tot.g (by decide) (Tot.g (by decide) (Tot.b (states_Total_T hd.1 hd.2) (fun r _ => Tot.so trivial)))
theorem WfSlot.zero (c : Int) : WfSlot (c, ((List.replicate 15 0), ())) := ⟨rfl, fun x hx => by rw [List.eq_of_mem_replicate hx]; omega⟩
theorem slots_Find_T {l : Int} {t : D_api_Table} (h : WfTab l t) (a : Int) : Tot (slots_Find t a) fun r => WfTab l r.1 ∧ 0 ≤ r.2.1 ∧ r.2.1 < plT l ∧ r.2.2 = 0 := by
  have hh := h
  obtain ⟨h1, ⟨h2, h3⟩, h4, h5⟩ := h
  have hp := plT_lt h2 h3
  rw [slots_Find_eq]
  simp only [Int.ofNat_eq_natCast]
  refine Tot.be (slots_Check_T hh) (Tot.ifne_neg rfl (Tot.b (hashes_Place_T a (4 + l.toNat) (by omega) h4) (fun r hr => Tot.ifne_neg hr.1 (Tot.b (hashes_Check_T a) (fun c _ => Tot.be (slices_Clone_Slot_T _ (by omega)) ?_)))))
  have hx := xor64 r.1 (4 + l.toNat) (by omega) (by omega) hr.2.1 (by rw [h4] at hr; exact hr.2.2)
  have hx2 : bitsXor .i64 r.1 1 < plT l := hx.2
  have hd1 := getD_all (P := WfSlot) (d := pzero T_api_Slot) h5 r.1.toNat (by omega)
  have hd2 := getD_all (P := WfSlot) (d := pzero T_api_Slot) h5 (bitsXor .i64 r.1 1).toNat (by omega)
  refine Tot.g hr.2.1 (Tot.g hr.2.2 (Tot.ifeq (fun _ => Tot.so ⟨⟨h1, ⟨h2, h3⟩, h4, h5⟩, hr.2.1, by rw [← h4]; exact hr.2.2, rfl⟩) (fun _ => Tot.g hx.1 (Tot.g (by rw [h4]; exact hx2) (Tot.ifeq (fun _ => Tot.so ⟨⟨h1, ⟨h2, h3⟩, h4, h5⟩, hx.1, hx2, rfl⟩) (fun _ => ?_))))))
  refine Tot.g hx.1 (Tot.g (by omega) (Tot.b (slots_priority_T hd2) (fun _ _ => Tot.g hr.2.1 (Tot.g hr.2.2 (Tot.b (slots_priority_T hd1) (fun _ _ => Tot.ifd (fun _ => ?_) (fun _ => ?_)))))))
  · exact Tot.g hx.1 (Tot.g (by omega) (Tot.so ⟨⟨h1, ⟨h2, h3⟩, by simpa using h4, set_all h5 (WfSlot.zero _) _⟩, hx.1, hx2, rfl⟩))
  · exact Tot.g hr.2.1 (Tot.g hr.2.2 (Tot.so ⟨⟨h1, ⟨h2, h3⟩, by simpa using h4, set_all h5 (WfSlot.zero _) _⟩, hr.2.1, by rw [← h4]; exact hr.2.2, rfl⟩))
theorem slots_at_T {l : Int} {t : D_api_Table} (h : WfTab l t) {i n : Int} (h0 : 0 ≤ i) (h1 : i < plT l) (h2 : 1 ≤ n) (h3 : n ≤ 15) : slots_at t i n = some 0 := by
  rw [slots_at_eq]
  simp only [Int.ofNat_eq_natCast]
  exact Tot.eq (Tot.be (slots_Check_T h) (Tot.ifne_neg rfl (Tot.ifd_neg (by omega) (Tot.ifd_neg (by rw [h.2.2.1]; omega) (Tot.ifd_neg (by omega) (Tot.ifd_neg (by omega) (Tot.so rfl)))))))
theorem slots_Get_T {l : Int} {t : D_api_Table} (h : WfTab l t) {i n : Int} (h0 : 0 ≤ i) (h1 : i < plT l) (h2 : 1 ≤ n) (h3 : n ≤ 15) : Tot (slots_Get t i n) fun r => r.2 = 0 ∧ 0 ≤ r.1 ∧ r.1 ≤ 192 := by
  rw [slots_Get_eq]
  simp only [Int.ofNat_eq_natCast]
  have h4 := h.2.2.1
  rw [w64 (x := n - 1) (by omega) (by omega)]
  have hd := getD_all (P := WfSlot) (d := pzero T_api_Slot) h.2.2.2 i.toNat (by omega)
  have he := getD_all (P := fun x => 0 ≤ x ∧ x ≤ 192) (d := 0) hd.2 (n - 1).toNat (by rw [hd.1]; omega)
  exact Tot.be (slots_at_T h h0 h1 h2 h3) (Tot.ifne_neg rfl (Tot.g h0 (Tot.g (by omega) (Tot.g (by omega) (Tot.g (by omega) (Tot.so ⟨rfl, he.1, he.2⟩))))))
theorem slots_Set_T {l : Int} {t : D_api_Table} (h : WfTab l t) {i n v : Int} (h0 : 0 ≤ i) (h1 : i < plT l) (h2 : 1 ≤ n) (h3 : n ≤ 15) (hv0 : 0 ≤ v) (hv1 : v ≤ 192) : Tot (slots_Set t i n v) fun r => r.2 = 0 ∧ WfTab l r.1 := by
  rw [slots_Set_eq]
  simp only [Int.ofNat_eq_natCast]
  have h4 := h.2.2.1
  have hp := plT_lt h.2.1.1 h.2.1.2
  rw [w64 (x := n - 1) (by omega) (by omega)]
  have hd := getD_all (P := WfSlot) (d := pzero T_api_Slot) h.2.2.2 (0 + i.toNat) (by omega)
  refine Tot.be (slots_at_T h h0 h1 h2 h3) (Tot.ifne_neg rfl (Tot.ifd_neg (by omega) (Tot.be (slices_Clone_Slot_T _ (by omega)) (Tot.g h0 (Tot.g (by omega) (Tot.g (by omega) (Tot.g (by omega) (Tot.so ⟨rfl, h.1, h.2.1, by simpa using h4, set_all h.2.2.2 ?_ _⟩))))))))
  exact ⟨by simpa using hd.1, set_all hd.2 ⟨hv0, hv1⟩ _⟩
theorem slots_Bit_T {l : Int} {t : D_api_Table} (h : WfTab l t) {i n b : Int} (h0 : 0 ≤ i) (h1 : i < plT l) (h2 : 1 ≤ n) (h3 : n ≤ 15) (hb : b = 0 ∨ b = 1) : Tot (slots_Bit t i n b) fun r => r.2 = 0 ∧ WfTab l r.1 := by
  rw [slots_Bit_eq]
  exact Tot.b (slots_Get_T h h0 h1 h2 h3) (fun r hr => Tot.ifne_neg hr.1 (Tot.b (states_Next_T hr.2.1 hr.2.2 hb) (fun s hs => Tot.ifne_neg hs.1 (Tot.b (slots_Set_T h h0 h1 h2 h3 hs.2.1 hs.2.2) (fun u hu => Tot.so hu)))))
def WfAd (a : D_api_Adapt) : Prop := a.1 = 255 ∧ (a.2.1.length = 193 ∧ ∀ x ∈ a.2.1, 0 ≤ x ∧ x ≤ 65535) ∧ a.2.2.1.length = 193 ∧ ∀ x ∈ a.2.2.1, 0 ≤ x ∧ x ≤ 255
theorem adapt_outside_T {l : List Int} {m : Int} (hl : l.length = 193) (h : ∀ x ∈ l, 0 ≤ x ∧ x ≤ m) : adapt_outside l m = some false := by
  rw [adapt_outside_eq]
  simp only [Int.ofNat_eq_natCast]
  exact Tot.eq (Tot.ifne_neg (by omega) (Tot.b (minI32_T l (by omega) (by omega) h) (fun r hr => Tot.ifd_neg (by omega) (Tot.b (maxI32_T l (by omega) (by omega) h) (fun s hs => Tot.so (by simp; omega))))))
theorem adapt_Check_T {a : D_api_Adapt} (h : WfAd a) : adapt_Check a = some 0 := by
  rw [adapt_Check_eq]
  have e : G_targets.getD 1 0 = 65535 := rfl
  rw [e, h.1]
  exact Tot.eq (Tot.ifd_neg (by omega) (Tot.ifd_neg (by omega) (Tot.g (by omega) (Tot.g (by omega) (Tot.be (adapt_outside_T h.2.1.1 h.2.1.2) (Tot.iff_ (Tot.be (adapt_outside_T h.2.2.1 h.2.2.2) (Tot.iff_ (Tot.so rfl)))))))))
theorem adapt_at_T {a : D_api_Adapt} (h : WfAd a) {s : Int} (h1 : s ≤ 192) : adapt_at a s = some 0 := by
  rw [adapt_at_eq]
  exact Tot.eq (Tot.be (adapt_Check_T h) (Tot.ifne_neg rfl (Tot.ifd_neg (by omega) (Tot.so rfl))))
theorem adapt_P_T {a : D_api_Adapt} (h : WfAd a) {s : Int} (h0 : 0 ≤ s) (h1 : s ≤ 192) : Tot (adapt_P a s) fun r => r.2 = 0 ∧ 0 ≤ r.1 ∧ r.1 ≤ 65535 := by
  rw [adapt_P_eq]
  simp only [Int.ofNat_eq_natCast]
  have hd := getD_all (P := fun x => 0 ≤ x ∧ x ≤ 65535) (d := 0) h.2.1.2 s.toNat (by rw [h.2.1.1]; omega)
  exact Tot.be (adapt_at_T h h1) (Tot.ifne_neg rfl (Tot.g h0 (Tot.g (by rw [h.2.1.1]; omega) (Tot.so ⟨rfl, hd⟩))))
theorem recip_Of_T {n : Int} (h0 : 1 ≤ n) (h1 : n ≤ 1024) : Tot (recip_Of n) fun r => r.2 = 0 ∧ 0 ≤ r.1 ∧ r.1 ≤ 65536 := by
  rw [recip_Of_eq, tdiv_nn (by omega)]
  have h3 : 0 ≤ 65536 / n := Int.ediv_nonneg (by omega) (by omega)
  have h4 : 65536 / n ≤ 65536 := Int.ediv_le_self _ (by omega)
  rw [w32 (by omega) (by omega)]
  exact Tot.ifd_neg (by omega) (Tot.ifd_neg (by omega) (Tot.g (by omega) (Tot.so ⟨rfl, h3, h4⟩)))
theorem recip_Step_T {p t n : Int} (hp0 : 0 ≤ p) (hp1 : p ≤ 65535) (ht : t = 0 ∨ t = 65535) (h0 : 1 ≤ n) (h1 : n ≤ 1024) : Tot (recip_Step p t n) fun r => r.2 = 0 ∧ 0 ≤ r.1 ∧ r.1 ≤ 65535 := by
  rw [recip_Step_eq, recip_Div_eq]
  have e1 : IntKind.wrap .i32 (t - p) = t - p := w32 (by omega) (by omega)
  rw [e1]
  refine Tot.ifd_neg (by split <;> omega) (Tot.ifd_neg (by split <;> omega) (Tot.b (P := fun r => r.2 = 0 ∧ -p ≤ r.1 ∧ r.1 ≤ 65535 - p) ?_ (fun r hr => Tot.ifne_neg hr.1 (Tot.so ?_))))
  · refine Tot.b (recip_Of_T h0 h1) (fun q hq => Tot.ifne_neg hq.1 (Tot.g (by decide) (Tot.so ?_)))
    rw [w64 (x := t - p) (by omega) (by omega), w64 (x := q.1) (by omega) (by omega)]
    have hm : -(p * 65536) ≤ (t - p) * q.1 ∧ (t - p) * q.1 ≤ (65535 - p) * 65536 := by
      rcases ht with rfl | rfl
      · have a1 : p * q.1 ≤ p * 65536 := Int.mul_le_mul_of_nonneg_left hq.2.2 hp0
        have a2 : 0 ≤ p * q.1 := Int.mul_nonneg hp0 hq.2.1
        have a3 : (0 - p) * q.1 = -(p * q.1) := by rw [Int.zero_sub, Int.neg_mul]
        rw [a3]; omega
      · have a1 : (65535 - p) * q.1 ≤ (65535 - p) * 65536 := Int.mul_le_mul_of_nonneg_left hq.2.2 (by omega)
        have a2 : 0 ≤ (65535 - p) * q.1 := Int.mul_nonneg (by omega) hq.2.1
        omega
    generalize (t - p) * q.1 = z at *
    rw [w64 (x := z) (by omega) (by omega), fdiv_pos _ (by omega), w32 (by omega) (by omega)]
    refine ⟨rfl, ?_, ?_⟩
    · show -p ≤ z / 65536; omega
    · show z / 65536 ≤ 65535 - p; omega
  · rw [w32 (by omega) (by omega)]
    exact ⟨rfl, by simp only; omega, by simp only; omega⟩
theorem adapt_twin_T {a : D_api_Adapt} (h : WfAd a) : adapt_twin a = some a := by
  rw [adapt_twin_eq, slices_Clone_int32_int32_T _ (by rw [h.2.1.1]; decide), Option.bind_some, slices_Clone_int32_int32_T _ (by rw [h.2.2.1]; decide), Option.bind_some]
theorem adapt_change_T {p q : List Int} {u : Unit} {s b : Int} (h0 : 0 ≤ s) (h1 : s ≤ 192) (hb : b = 0 ∨ b = 1) (hp : p.length = 193 ∧ ∀ x ∈ p, 0 ≤ x ∧ x ≤ 65535) (hq : q.length = 193 ∧ ∀ x ∈ q, 0 ≤ x ∧ x ≤ 255) :
    Tot (adapt_change 255 u s b p q) fun r => r.1 = 0 ∧ (r.2.1.length = 193 ∧ ∀ x ∈ r.2.1, 0 ≤ x ∧ x ≤ 65535) ∧ r.2.2.length = 193 ∧ ∀ x ∈ r.2.2, 0 ≤ x ∧ x ≤ 255 := by
  rw [adapt_change_eq]
  simp only [Int.ofNat_eq_natCast]
  have hd := getD_all (P := fun x => 0 ≤ x ∧ x ≤ 65535) (d := 0) hp.2 (0 + s.toNat) (by rw [hp.1]; omega)
  have he := getD_all (P := fun x => 0 ≤ x ∧ x ≤ 255) (d := 0) hq.2 (0 + s.toNat) (by rw [hq.1]; omega)
  generalize p.getD (0 + s.toNat) 0 = x at *
  generalize q.getD (0 + s.toNat) 0 = y at *
  rw [w32 (x := y + 1) (by omega) (by omega)]
  have hn : 1 ≤ (if 255 < y + 1 then 255 else y + 1) ∧ (if 255 < y + 1 then 255 else y + 1) ≤ 255 := by split <;> omega
  generalize (if 255 < y + 1 then 255 else y + 1) = n at *
  rw [w32 (x := n + 1) (by omega) (by omega)]
  have ht : G_targets.getD b.toNat 0 = 0 ∨ G_targets.getD b.toNat 0 = 65535 := by
    rcases hb with rfl | rfl
    · exact Or.inl rfl
    · exact Or.inr rfl
  refine Tot.g h0 (Tot.g (by omega) (Tot.g h0 (Tot.g (by omega) (Tot.g (by omega) (Tot.g (by omega) (Tot.b (recip_Step_T hd.1 hd.2 ht (by omega) (by omega)) (fun r hr => Tot.g h0 (Tot.g (by omega) (Tot.g h0 (Tot.g (by omega) (Tot.so ?_)))))))))))
  exact ⟨hr.1, ⟨by simpa using hp.1, set_all hp.2 hr.2 _⟩, by simpa using hq.1, set_all hq.2 ⟨by omega, by omega⟩ _⟩
theorem adapt_Update_T {a : D_api_Adapt} (h : WfAd a) {s b : Int} (h0 : 0 ≤ s) (h1 : s ≤ 192) (hb : b = 0 ∨ b = 1) : Tot (adapt_Update a s b) fun r => r.2 = 0 ∧ WfAd r.1 := by
  rw [adapt_Update_eq]
  refine Tot.be (adapt_at_T h h1) (Tot.ifne_neg rfl (Tot.ifd_neg (by omega) (Tot.be (adapt_twin_T h) ?_)))
  rw [h.1]
  exact Tot.b (adapt_change_T h0 h1 hb h.2.1 h.2.2) (fun r hr => Tot.ifne_neg hr.1 (Tot.so ⟨rfl, rfl, hr.2.1, hr.2.2⟩))
def WfFind (l : Int) (f : D_api_Finder) : Prop := f.1 = l ∧ (0 ≤ l ∧ l ≤ 7) ∧ (f.2.1.length : Int) = plR l ∧ ∀ x ∈ f.2.1, -1 ≤ x ∧ x ≤ 1073741824
theorem containsInt_T (l : List Int) (hl : l.length ≤ 1048576) (h : ∀ x ∈ l, -1 ≤ x ∧ x ≤ 1073741824) : slices_ContainsFunc_int_int l = some false := by
  have key : ∀ i : Int, 0 ≤ i → Tot (slices_IndexFunc_int_int_c1 l l.length i) fun r => r = -1 := by
    intro i
    refine up_ind (P := fun i => 0 ≤ i → Tot (slices_IndexFunc_int_int_c1 l l.length i) fun r => r = -1) l.length ?_ ?_ i
    · intro i hi h0
      rw [slices_IndexFunc_int_int_c1_eq]
      exact Tot.ifd_neg (by omega) (Tot.so rfl)
    · intro i hi ih h0
      rw [slices_IndexFunc_int_int_c1_eq]
      simp only [Int.ofNat_eq_natCast]
      rw [w64 (x := i + 1) (by omega) (by omega)]
      have hd := getD_all (P := fun x => -1 ≤ x ∧ x ≤ 1073741824) (d := 0) h i.toNat (by omega)
      refine Tot.ifd_pos (by omega) (Tot.g h0 (Tot.g (by omega) (Tot.be (v := false) ?_ (Tot.iff_ (ih (by omega))))))
      rw [finder_Check_1_eq]
      exact Tot.eq (Tot.ifd_neg (by omega) (Tot.so (decide_eq_false (by omega))))
  rw [slices_ContainsFunc_int_int_eq, slices_IndexFunc_int_int_eq]
  exact Tot.eq (Tot.b (key 0 (by omega)) (fun r hr => Tot.so (by rw [hr]; rfl)))
theorem finder_Check_T {l : Int} {f : D_api_Finder} (h : WfFind l f) : finder_Check f = some 0 := by
  obtain ⟨h1, ⟨h2, h3⟩, h4, h5⟩ := h
  have hp := plR_lt h2 h3
  rw [finder_Check_eq, h1, finder_places_T h2 h3]
  simp only [Int.ofNat_eq_natCast]
  exact Tot.eq (Tot.ifd_neg (by omega) (Tot.ifd_neg (by omega) (Tot.be rfl (Tot.ifne_neg h4 (Tot.be (containsInt_T _ (by omega) h5) (Tot.iff_ (Tot.so rfl)))))))
theorem finder_place_T {l : Int} {f : D_api_Finder} (h : WfFind l f) (a : Int) : Tot (finder_place f a) fun r => r.2 = 0 ∧ 0 ≤ r.1 ∧ r.1 < f.2.1.length := by
  rw [finder_place_eq]
  exact Tot.be (finder_Check_T h) (Tot.ifne_neg rfl (Tot.b (hashes_Place_T a (6 + l.toNat) (by have := h.2.1; omega) h.2.2.1) (fun r hr => Tot.so hr)))
theorem finder_Find_T {l : Int} {f : D_api_Finder} (h : WfFind l f) (a : Int) : Tot (finder_Find f a) fun r => r.2 = 0 ∧ -1 ≤ r.1 ∧ r.1 ≤ 1073741824 := by
  rw [finder_Find_eq]
  simp only [Int.ofNat_eq_natCast]
  refine Tot.b (finder_place_T h a) (fun r hr => Tot.ifne_neg hr.1 (Tot.g hr.2.1 (Tot.g hr.2.2 (Tot.so ⟨rfl, ?_⟩))))
  exact getD_all (P := fun x => -1 ≤ x ∧ x ≤ 1073741824) h.2.2.2 _ (by omega)
theorem finder_Put_T {l : Int} {f : D_api_Finder} (h : WfFind l f) (a : Int) {v : Int} (h0 : 0 ≤ v) (h1 : v ≤ 1073741824) : Tot (finder_Put f a v) fun r => r.2 = 0 ∧ WfFind l r.1 := by
  rw [finder_Put_eq]
  simp only [Int.ofNat_eq_natCast]
  have hp := plR_lt h.2.1.1 h.2.1.2
  refine Tot.b (finder_place_T h a) (fun r hr => Tot.ifne_neg hr.1 (Tot.ifd_neg (by omega) (Tot.ifd_neg (by omega) (Tot.be (slices_Clone_int_int_T _ (by have := h.2.2.1; omega)) (Tot.g hr.2.1 (Tot.g hr.2.2 (Tot.so ⟨rfl, h.1, h.2.1, by simpa using h.2.2.1, set_all h.2.2.2 ⟨by omega, h1⟩ _⟩)))))))
theorem finder_Length_c2_T {l : Int} {r : D_api_Ring} (h : WfRing l r) (v1 v2 v10 : Int) (M : Int) (hM : M = if v2 < v10 then v2 else v10) (hM1 : M ≤ 1073741824) (P : Int → Prop)
    (hP : ∀ v, 0 ≤ v → v ≤ max M 0 → P v) : ∀ (n : Nat) (k : Int) (v11 : Int), (4 - k).toNat = n → 0 ≤ k → k ≤ 4 → 0 ≤ v11 → v11 ≤ max M 0 → (∀ v, v11 + (4 - k) = v → v ≤ max M 0 → Tot (finder_Length_c1 v1 v2 r.2.1.length v10 v r) fun x => P x.1) →
    Tot (finder_Length_c2 v1 v2 r.2.1.length v10 v11 k r) fun x => P x.1
  | 0, k, v11, hn, h0, h4, hv0, hv1, ih => by
    rw [finder_Length_c2_eq]
    exact Tot.ifd_neg (by omega) (ih v11 (by omega) hv1)
  | n + 1, k, v11, hn, h0, h4, hv0, hv1, ih => by
    rw [finder_Length_c2_eq, ← hM]
    simp only [Int.ofNat_eq_natCast]
    have hp := plR_lt h.2.1.1 h.2.1.2
    have hl := h.2.2.1
    rw [w64 (x := v11 + 1) (by omega) (by omega), w64 (x := k + 1) (by omega) (by omega), w64 (x := (r.2.1.length : Int) - 1) (by omega) (by omega)]
    have b1 := and64 (IntKind.wrap .i64 (v1 - (v11 + 1))) ((r.2.1.length : Int) - 1) (by omega) (by omega)
    have b2 := and64 (IntKind.wrap .i64 (r.2.2.1 - (v11 + 1))) ((r.2.1.length : Int) - 1) (by omega) (by omega)
    refine Tot.ifd_pos (by omega) (Tot.ifd (fun _ => Tot.so (hP _ hv0 hv1)) (fun hle => Tot.g b1.1 (Tot.g (by omega) (Tot.g b2.1 (Tot.g (by omega) (Tot.ifne (fun _ => Tot.so (hP _ hv0 hv1)) (fun _ => ?_)))))))
    exact finder_Length_c2_T h v1 v2 v10 M hM hM1 P hP n (k + 1) (v11 + 1) (by omega) (by omega) (by omega) (by omega) (by omega) (fun v e hv => ih v (by omega) hv)
theorem finder_Length_c1_T {l : Int} {r : D_api_Ring} (h : WfRing l r) (v1 v2 v10 : Int) (M : Int) (hM : M = if v2 < v10 then v2 else v10) (hM1 : M ≤ 1073741824) :
    ∀ (v11 : Int), 0 ≤ v11 → v11 ≤ max M 0 → Tot (finder_Length_c1 v1 v2 r.2.1.length v10 v11 r) fun x => 0 ≤ x.1 ∧ x.1 ≤ max M 0 := by
  have key : ∀ (m : Nat) (v11 : Int), (M - v11).toNat ≤ m → 0 ≤ v11 → v11 ≤ max M 0 → Tot (finder_Length_c1 v1 v2 r.2.1.length v10 v11 r) fun x => 0 ≤ x.1 ∧ x.1 ≤ max M 0 := by
    intro m
    induction m with
    | zero =>
      intro v11 hm h0 h1
      rw [finder_Length_c1_eq, ← hM]
      exact Tot.ifd_neg (by omega) (Tot.so ⟨h0, h1⟩)
    | succ m ih =>
      intro v11 hm h0 h1
      rw [finder_Length_c1_eq, ← hM]
      refine Tot.ifd (fun hlt => ?_) (fun _ => Tot.so ⟨h0, h1⟩)
      exact finder_Length_c2_T h v1 v2 v10 M hM hM1 (fun x => 0 ≤ x ∧ x ≤ max M 0) (fun v a b => ⟨a, b⟩) 4 0 v11 rfl (by omega) (by omega) h0 h1 (fun v e hv => ih v (by omega) (by omega) hv)
  intro v11
  exact key _ v11 (Nat.le_refl _)
theorem finder_Length_T {l : Int} {r : D_api_Ring} (h : WfRing l r) (a : Int) : Tot (finder_Length r a 40) fun x => 0 ≤ x.1 ∧ x.1 ≤ 40 := by
  rw [finder_Length_eq]
  simp only [Int.ofNat_eq_natCast]
  refine Tot.be (ring_Check_T h) (Tot.ifne_neg rfl (Tot.ifd (fun _ => Tot.so (by decide)) (fun _ => Tot.ifd (fun _ => Tot.so (by decide)) (fun _ => Tot.ifd (fun _ => Tot.so (by decide)) (fun _ => ?_)))))
  refine Tot.mono (finder_Length_c1_T h a 40 _ _ rfl (by split <;> omega) 0 (by omega) (by omega)) (fun x hx => ⟨hx.1, ?_⟩)
  refine Int.le_trans hx.2 ?_
  split <;> omega
end Go.Ab
