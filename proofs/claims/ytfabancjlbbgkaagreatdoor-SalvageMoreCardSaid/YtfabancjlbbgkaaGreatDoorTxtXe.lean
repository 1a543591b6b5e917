/-
  An abstract machine over the model's code and its soundness; what the functions compute, as plain functions (printed by a program of this repo's own, checked here by the kernel); plain laws of them: part 5. Helper text, no statement of the claim stands here.
-/
import Derived.Test.YtfabancjlbbgkaaGreatDoorTxtXd
import Derived.RangeFuncBox
import Derived.RangeFuncLeaves
import Derived.Shelf.Abstract
import Derived.WalkKit
import Derived.OwnWalkIn
import Derived.TacticsInMore
import Derived.LoopNIn
import Derived.LoopIn
set_option linter.unusedVariables false
set_option maxRecDepth 20000
namespace Go.Ab
open Go Go.Proofs
noncomputable def encoder_split_I : FnI Tryz.prog GT := { f := 141, cuts := [], tab := [], fm := ⟨true, [.val (.int .u32) []]⟩ }
noncomputable def qmg (a0 : Int) (a1 : Int) (a2 : Int) : Option (Int) := encoder_split_I.call [(.int .u32 a0), (.int .u32 a1), (.int .i64 a2)] []
theorem qZl (a0 : Int) (a1 : Int) (a2 : Int) : qmg a0 a1 a2 = (
gd (0 ≤ (12 : Int)) <|
gd (0 ≤ (12 : Int)) <|
some (IntKind.wrap .u32 ((IntKind.wrap .u32 (a0 + (IntKind.wrap .u32 ((Int.fdiv (IntKind.wrap .u32 (a1 - a0)) (4096 : Int)) * (IntKind.wrap .u32 a2))))) + (Int.fdiv (IntKind.wrap .u32 ((qDa .u32 (IntKind.wrap .u32 (a1 - a0)) (4095 : Int)) * (IntKind.wrap .u32 a2))) (4096 : Int))))) := (FnI.call_eq (by kernel_rfl)).trans (by kernel_rfl)
noncomputable def qTm (acc : List AV → Bool) : Summ Tryz.prog GT := encoder_split_I.summ mixed acc false false
noncomputable def encoder_Split_I : FnI Tryz.prog GT := { f := 137, cuts := [], tab := [qdp (fun _ => true), qTm (fun _ => true)], fm := ⟨true, [.val (.int .u32) [], .val (.int .i64) []]⟩ }
noncomputable def qxl (a0 : Int) (a1 : Int) (a2 : Int) : Option (Int × Int) := encoder_Split_I.call [(.int .u32 a0), (.int .u32 a1), (.int .i64 a2)] []
theorem qWt (a0 : Int) (a1 : Int) (a2 : Int) : qxl a0 a1 a2 = (
if (decide (a0 ≥ a1)) = true then
some ((0 : Int), (2 : Int))
else
(qwh a2).bind fun r1 =>
if (not r1) = true then
some ((0 : Int), (2 : Int))
else
(qmg a0 a1 a2).bind fun r2 =>
some (r2, (0 : Int))) := (FnI.call_eq (by kernel_rfl)).trans (by kernel_rfl)
noncomputable def qEw (acc : List AV → Bool) : Summ Tryz.prog GT := encoder_Split_I.summ mixed acc false false
noncomputable def decoder_get_I : FnI Tryz.prog GT := { f := 101, cuts := [⟨(6, 3), [0, 7], false, false, []⟩], tab := [qEw (fun _ => true), qot (fun _ => true)], fm := ⟨false, [.val .bool [], .box 0 qEa [.pu]]⟩ }
noncomputable def qNw (a1 : Int) (b0 : qCa) : Option (Bool × qCa) := decoder_get_I.call [(.ptr qEa 0 []), (.int .i64 a1)] [(0, (.box qEa (inj false qEa b0)))]
noncomputable def qgf (v7 : Bool) (b0 : qCa) : Option (Bool × qCa) := decoder_get_I.sem ⟨[.code (cIn (cIn (qGa (qaa (qaa (qaa (qaa (qda Tryz.prog 101)))))))), .inLoop (cIn (cIn (qGa (qaa (qaa (qaa (qaa (qda Tryz.prog 101)))))))), .inBlock 0, .code (qaa (qaa (qaa (qaa (qaa (qda Tryz.prog 101))))))], ⟨[(0, (.one (.ptr qEa 0 []))), (7, (.one (.bool v7)))], [(0, some (.box qEa (inj false qEa b0)))], 9⟩⟩
theorem qAy (a1 : Int) (b0 : qCa) : qNw a1 b0 = (
(qxl b0.1 b0.2.1 a1).bind fun r1 =>
if (decide (b0.2.2.1 ≤ r1.1)) = true then
qgf (decide (b0.2.2.1 ≤ r1.1)) (b0.1, (r1.1, b0.2.2))
else
qgf (decide (b0.2.2.1 ≤ r1.1)) ((IntKind.wrap .u32 (r1.1 + (1 : Int))), b0.2)) := (FnI.call_eq (by kernel_rfl)).trans (by kernel_rfl)
theorem qQk (v7 : Bool) (b0 : qCa) : qgf v7 b0 = (
gd (0 ≤ (24 : Int)) <|
gd (0 ≤ (24 : Int)) <|
if ((Int.fdiv b0.1 (16777216 : Int)) == (Int.fdiv b0.2.1 (16777216 : Int))) = true then
gd (0 ≤ (8 : Int)) <|
gd (0 ≤ (8 : Int)) <|
gd (0 ≤ (8 : Int)) <|
(qWn b0.2.2.2.1 b0.2.2.2.2.1).bind fun r2 =>
qgf v7 ((IntKind.wrap .u32 (b0.1 * (256 : Int))), ((qFb .u32 (IntKind.wrap .u32 (b0.2.1 * (256 : Int))) (255 : Int)), ((qFb .u32 (IntKind.wrap .u32 (b0.2.2.1 * (256 : Int))) (IntKind.wrap .u32 r2)), (b0.2.2.2.1, ((IntKind.wrap .i64 (b0.2.2.2.2.1 + (1 : Int))), b0.2.2.2.2.2)))))
else
some (v7, b0)) := (FnI.sem_eq _).trans (by kernel_rfl)
noncomputable def qeB (acc : List AV → Bool) : Summ Tryz.prog GT := decoder_get_I.summ mixed acc false false
noncomputable def decoder_Get_I : FnI Tryz.prog GT := { f := 74, cuts := [], tab := [qOw (fun _ => true), qLw (fun _ => true), qsb (fun _ => true), (qeB (fun _ => true)).dropping], fm := ⟨false, [.val qEa [], .val .bool [], .val (.int .i64) []]⟩ }
noncomputable def qUp (a0 : qCa) (a1 : Int) : Option (qCa × Bool × Int) := decoder_Get_I.call [(.agg qEa (inj false qEa a0)), (.int .i64 a1)] []
theorem qBy (a0 : qCa) (a1 : Int) : qUp a0 a1 = (
(qmr a0).bind fun r1 =>
if (r1 != (0 : Int)) = true then
some (((0 : Int), ((0 : Int), ((0 : Int), ([], ((0 : Int), ()))))), (false, r1))
else
(qkr a1).bind fun r2 =>
if r2 = true then
some (((0 : Int), ((0 : Int), ((0 : Int), ([], ((0 : Int), ()))))), (false, (2 : Int)))
else
(qcb a0.2.2.2.1).bind fun r3 =>
(qNw a1 (a0.1, (a0.2.1, (a0.2.2.1, (r3, a0.2.2.2.2))))).bind fun r4 =>
if (decide (r4.2.2.2.2.2.1 > (1000000 : Int))) = true then
some (((0 : Int), ((0 : Int), ((0 : Int), ([], ((0 : Int), ()))))), (false, (4 : Int)))
else
some (r4.2, (r4.1, (0 : Int)))) := (FnI.call_eq (by kernel_rfl)).trans (by kernel_rfl)
noncomputable def qhB (acc : List AV → Bool) : Summ Tryz.prog GT := decoder_Get_I.summ mixed acc false false
noncomputable def slices_Clone_int_int_I : FnI Tryz.prog GT := { f := 177, cuts := [], tab := [], fm := ⟨true, [.val (.slice (.int .i64)) [.nw]]⟩ }
noncomputable def qYc (a0 : List Int) : Option (List Int) := slices_Clone_int_int_I.call [(.sl (.int .i64) false a0)] []
theorem qgl (a0 : List Int) : qYc a0 = (
qvF (fun (r1 : Bool) => r1 = true → a0 = []) fun (r1 : Bool) =>
if r1 = true then
some ([])
else
gd ((List.length ([] ++ a0)) * 8 ≤ 140737488355328) <|
some ([] ++ a0)) := (FnI.call_eq (by kernel_rfl)).trans (by kernel_rfl)
noncomputable def qIg (acc : List AV → Bool) : Summ Tryz.prog GT := slices_Clone_int_int_I.summ mixed acc false false
noncomputable def slices_Clone_api_Table_api_Table_I : FnI Tryz.prog GT := { f := 178, cuts := [], tab := [], fm := ⟨false, [.val (.slice qwa) [.nw]]⟩ }
noncomputable def qUa (a0 : List qja) : Option (List qja) := slices_Clone_api_Table_api_Table_I.call [(.sl qwa false a0)] []
theorem qof (a0 : List qja) : qUa a0 = (
qvF (fun (r1 : Bool) => r1 = true → a0 = []) fun (r1 : Bool) =>
if r1 = true then
some ([])
else
gd ((List.length ([] ++ a0)) * 32 ≤ 140737488355328) <|
some ([] ++ a0)) := (FnI.call_eq (by kernel_rfl)).trans (by kernel_rfl)
noncomputable def qxc (acc : List AV → Bool) : Summ Tryz.prog GT := slices_Clone_api_Table_api_Table_I.summ mixed acc false false
noncomputable def slices_Clone_api_Adapt_api_Adapt_I : FnI Tryz.prog GT := { f := 179, cuts := [], tab := [], fm := ⟨false, [.val (.slice qna) [.nw]]⟩ }
noncomputable def qVa (a0 : List qia) : Option (List qia) := slices_Clone_api_Adapt_api_Adapt_I.call [(.sl qna false a0)] []
theorem qpf (a0 : List qia) : qVa a0 = (
qvF (fun (r1 : Bool) => r1 = true → a0 = []) fun (r1 : Bool) =>
if r1 = true then
some ([])
else
gd ((List.length ([] ++ a0)) * 56 ≤ 140737488355328) <|
some ([] ++ a0)) := (FnI.call_eq (by kernel_rfl)).trans (by kernel_rfl)
noncomputable def qyc (acc : List AV → Bool) : Summ Tryz.prog GT := slices_Clone_api_Adapt_api_Adapt_I.summ mixed acc false false
noncomputable def predict_rows_I : FnI Tryz.prog GT := { f := 182, cuts := [⟨(3, 3), [3, 6, 7, 8], false, false, []⟩], tab := [qbb (fun _ => true)], fm := ⟨true, [.val (.slice (.slice (.int .i32))) [.nw]]⟩ }
noncomputable def qoh (a0 : List (List Int)) : Option (List (List Int)) := predict_rows_I.call [(.sl (.slice (.int .i32)) false a0)] []
noncomputable def qoe (v6 : List (List Int)) (v7 : Int) (v8 : Int) (h8 : List (List Int)) : Option (List (List Int)) := predict_rows_I.sem ⟨[.code (cIn (cIn (qaa (qGa (qaa (qaa (qda Tryz.prog 182))))))), .inLoop (cIn (cIn (qaa (qGa (qaa (qaa (qda Tryz.prog 182))))))), .inBlock 0, .code (qaa (qaa (qaa (qda Tryz.prog 182))))], ⟨[(3, (.one (.ref (.slice (.int .i32)) 8 0 (List.length h8) true))), (6, (.one (.sl (.slice (.int .i32)) false v6))), (7, (.one (.int .i64 v7))), (8, (.one (.int .i64 v8)))], [(8, some (.row (.slice (.int .i32)) true h8))], 9⟩⟩
theorem qpv (a0 : List (List Int)) : qoh a0 = (
qoe a0 (Int.ofNat (List.length a0)) (0 : Int) []) := (FnI.call_eq (by kernel_rfl)).trans (by kernel_rfl)
theorem qpj (v6 : List (List Int)) (v7 : Int) (v8 : Int) (h8 : List (List Int)) : qoe v6 v7 v8 h8 = (
if (decide (v8 < v7)) = true then
gd (0 ≤ v8) <|
gd (v8 < (Int.ofNat (List.length v6))) <|
(qJa (List.getD v6 (Int.toNat v8) [])).bind fun r1 =>
gd ((List.length (h8 ++ [r1])) * 24 ≤ 140737488355328) <|
qoe v6 v7 (IntKind.wrap .i64 (v8 + (1 : Int))) (h8 ++ [r1])
else
some (h8)) := (FnI.sem_eq _).trans (by kernel_rfl)
noncomputable def qHx (acc : List AV → Bool) : Summ Tryz.prog GT := predict_rows_I.summ mixed acc false false
noncomputable def predict_twin_I : FnI Tryz.prog GT := { f := 138, cuts := [⟨(5, 3), [1, 2, 26, 27], false, false, []⟩], tab := [qsb (fun _ => true), qIg (fun _ => true), (qxc (fun _ => true)).dropping, (qyc (fun _ => true)).dropping, qEb (fun _ => true), qbb (fun _ => true), qHx (fun _ => true)], fm := ⟨false, [.val qea []]⟩ }
noncomputable def qum (a0 : qca) : Option (qca) := predict_twin_I.call [(.agg qea (inj false qea a0))] []
noncomputable def qne (v26 : Int) (v27 : Int) (b8a : Int) (b8baa : Int) (b8babb : qka) (b8bbbba : qqa) (b8bbbbba : qIa) (b8bbbbbbaa : Int) (b8bbbbbbabb : Unit) (b8bbbbbbb : (qma × (qka × ((List Int) × ((List Int) × Unit))))) (b9a : Int) (b9baa : Int) (b9babb : qka) (b9bbbbab : Unit) (b9bbbbbaab : Unit) (b9bbbbbabab : Unit) (b9bbbbbabb : Unit) (b9bbbbbbaa : Int) (b9bbbbbbabb : Unit) (b9bbbbbbb : (qma × (qka × ((List Int) × ((List Int) × Unit))))) (h10 : List Int) (h11 : List qja) (h12 : List qia) (h13 : List Int) (h14 : List Int) (h15 : List qja) (h16 : List qia) (h17 : List (List Int)) (h18 : List (List Int)) (h19 : List (List Int)) (h20 : List Int) : Option (qca) := predict_twin_I.sem ⟨[.code (cIn (cIn (qaa (qGa (qaa (qaa (qaa (qaa (qda Tryz.prog 138))))))))), .inLoop (cIn (cIn (qaa (qGa (qaa (qaa (qaa (qaa (qda Tryz.prog 138))))))))), .inBlock 0, .code (qaa (qaa (qaa (qaa (qaa (qda Tryz.prog 138))))))], ⟨[(1, (.one (.ptr qea 8 []))), (2, (.one (.ptr qea 9 []))), (26, (.one (.int .i64 v26))), (27, (.one (.int .i64 v27)))], [(8, some (.box qea (b8a, ((b8baa, ((SV.ref 10 0 (List.length h10) true), (inj false qBa b8babb))), ((SV.ref 11 0 (List.length h11) true), ((SV.ref 12 0 (List.length h12) true), ((inj false qsa b8bbbba), ((inj false qpb b8bbbbba), ((b8bbbbbbaa, ((SV.ref 13 0 (List.length h13) true), b8bbbbbbabb)), (inj false (.pair qua (.pair qBa (.pair (.arr 6 (.int .u32)) (.pair (.arr 6 (.int .i64)) .unit)))) b8bbbbbbb)))))))))), (9, some (.box qea (b9a, ((b9baa, ((SV.ref 14 0 (List.length h14) true), (inj false qBa b9babb))), ((SV.ref 15 0 (List.length h15) true), ((SV.ref 16 0 (List.length h16) true), (((SV.ref 17 0 (List.length h17) true), b9bbbbab), ((((SV.ref 18 0 (List.length h18) true), b9bbbbbaab), (((SV.ref 19 0 (List.length h19) true), b9bbbbbabab), b9bbbbbabb)), ((b9bbbbbbaa, ((SV.ref 20 0 (List.length h20) true), b9bbbbbbabb)), (inj false (.pair qua (.pair qBa (.pair (.arr 6 (.int .u32)) (.pair (.arr 6 (.int .i64)) .unit)))) b9bbbbbbb)))))))))), (10, some (.row (.int .u8) true h10)), (11, some (.row qwa false h11)), (12, some (.row qna false h12)), (13, some (.row (.int .i64) true h13)), (14, some (.row (.int .u8) true h14)), (15, some (.row qwa true h15)), (16, some (.row qna true h16)), (17, some (.row (.slice (.int .i32)) true h17)), (18, some (.row (.slice (.int .i32)) true h18)), (19, some (.row (.slice (.int .i32)) true h19)), (20, some (.row (.int .i64) true h20))], 21⟩⟩
theorem qov (a0 : qca) : qum a0 = (
(qcb a0.2.1.2.1).bind fun r1 =>
(qYc a0.2.2.2.2.2.2.1.2.1).bind fun r2 =>
(qUa a0.2.2.1).bind fun r3 =>
(qVa a0.2.2.2.1).bind fun r4 =>
qne (Int.ofNat (List.length r3)) (0 : Int) a0.1 a0.2.1.1 a0.2.1.2.2 a0.2.2.2.2.1 a0.2.2.2.2.2.1 a0.2.2.2.2.2.2.1.1 a0.2.2.2.2.2.2.1.2.2 a0.2.2.2.2.2.2.2 (0 : Int) (0 : Int) ((0 : Int), ()) () () () () (0 : Int) () (((0 : Int), ((0 : Int), ())), (((0 : Int), ()), ((List.replicate 6 (0 : Int)), ((List.replicate 6 (0 : Int)), ())))) r1 r3 r4 r2 [] [] [] [] [] [] []) := (FnI.call_eq (by kernel_rfl)).trans (by kernel_rfl)
theorem qoj (v26 : Int) (v27 : Int) (b8a : Int) (b8baa : Int) (b8babb : qka) (b8bbbba : qqa) (b8bbbbba : qIa) (b8bbbbbbaa : Int) (b8bbbbbbabb : Unit) (b8bbbbbbb : (qma × (qka × ((List Int) × ((List Int) × Unit))))) (b9a : Int) (b9baa : Int) (b9babb : qka) (b9bbbbab : Unit) (b9bbbbbaab : Unit) (b9bbbbbabab : Unit) (b9bbbbbabb : Unit) (b9bbbbbbaa : Int) (b9bbbbbbabb : Unit) (b9bbbbbbb : (qma × (qka × ((List Int) × ((List Int) × Unit))))) (h10 : List Int) (h11 : List qja) (h12 : List qia) (h13 : List Int) (h14 : List Int) (h15 : List qja) (h16 : List qia) (h17 : List (List Int)) (h18 : List (List Int)) (h19 : List (List Int)) (h20 : List Int) : qne v26 v27 b8a b8baa b8babb b8bbbba b8bbbbba b8bbbbbbaa b8bbbbbbabb b8bbbbbbb b9a b9baa b9babb b9bbbbab b9bbbbbaab b9bbbbbabab b9bbbbbabb b9bbbbbbaa b9bbbbbbabb b9bbbbbbb h10 h11 h12 h13 h14 h15 h16 h17 h18 h19 h20 = (
if (decide (v27 < v26)) = true then
gd (0 ≤ v27) <|
gd (v27 < (Int.ofNat (List.length h11))) <|
(qab (List.getD h11 (0 + (Int.toNat v27)) (qpa qwa)).2.1).bind fun r5 =>
gd (0 ≤ v27) <|
gd (v27 < (Int.ofNat (List.length h11))) <|
gd (0 ≤ v27) <|
gd (v27 < (Int.ofNat (List.length h12))) <|
(qJa (List.getD h12 (0 + (Int.toNat v27)) (qpa qna)).2.1).bind fun r6 =>
gd (0 ≤ v27) <|
gd (v27 < (Int.ofNat (List.length h12))) <|
(qJa (List.getD h12 (0 + (Int.toNat v27)) (qpa qna)).2.2.1).bind fun r7 =>
gd (0 ≤ v27) <|
gd (v27 < (Int.ofNat (List.length h12))) <|
gd (0 ≤ v27) <|
gd (v27 < (Int.ofNat (List.length h12))) <|
qne v26 (IntKind.wrap .i64 (v27 + (1 : Int))) b8a b8baa b8babb b8bbbba b8bbbbba b8bbbbbbaa b8bbbbbbabb b8bbbbbbb b9a b9baa b9babb b9bbbbab b9bbbbbaab b9bbbbbabab b9bbbbbabb b9bbbbbbaa b9bbbbbbabb b9bbbbbbb h10 (List.set h11 (0 + (Int.toNat v27)) ((List.getD h11 (0 + (Int.toNat v27)) (qpa qwa)).1, (r5, (List.getD h11 (0 + (Int.toNat v27)) (qpa qwa)).2.2))) (List.set (List.set h12 (0 + (Int.toNat v27)) ((List.getD h12 (0 + (Int.toNat v27)) (qpa qna)).1, (r6, (List.getD h12 (0 + (Int.toNat v27)) (qpa qna)).2.2))) (0 + (Int.toNat v27)) ((List.getD (List.set h12 (0 + (Int.toNat v27)) ((List.getD h12 (0 + (Int.toNat v27)) (qpa qna)).1, (r6, (List.getD h12 (0 + (Int.toNat v27)) (qpa qna)).2.2))) (0 + (Int.toNat v27)) (qpa qna)).1, ((List.getD (List.set h12 (0 + (Int.toNat v27)) ((List.getD h12 (0 + (Int.toNat v27)) (qpa qna)).1, (r6, (List.getD h12 (0 + (Int.toNat v27)) (qpa qna)).2.2))) (0 + (Int.toNat v27)) (qpa qna)).2.1, (r7, (List.getD (List.set h12 (0 + (Int.toNat v27)) ((List.getD h12 (0 + (Int.toNat v27)) (qpa qna)).1, (r6, (List.getD h12 (0 + (Int.toNat v27)) (qpa qna)).2.2))) (0 + (Int.toNat v27)) (qpa qna)).2.2.2)))) h13 h14 h15 h16 h17 h18 h19 h20
else
(qoh b8bbbba.1).bind fun r8 =>
(qoh b8bbbbba.1.1).bind fun r9 =>
(qoh b8bbbbba.2.1.1).bind fun r10 =>
some (b8a, ((b8baa, (h10, b8babb)), (h11, (h12, ((r8, b8bbbba.2), (((r9, b8bbbbba.1.2), ((r10, b8bbbbba.2.1.2), b8bbbbba.2.2)), ((b8bbbbbbaa, (h13, b8bbbbbbabb)), b8bbbbbbb)))))))) := (FnI.sem_eq _).trans (by kernel_rfl)
noncomputable def qGx (acc : List AV → Bool) : Summ Tryz.prog GT := predict_twin_I.summ mixed acc false false
noncomputable def adapt_twin_I : FnI Tryz.prog GT := { f := 214, cuts := [], tab := [qbb (fun _ => true)], fm := ⟨true, [.val qna [.nw, .nw]]⟩ }
noncomputable def qMs (a0 : qia) : Option (qia) := adapt_twin_I.call [(.agg qna (inj false qna a0))] []
theorem qzB (a0 : qia) : qMs a0 = (
(qJa a0.2.1).bind fun r1 =>
(qJa a0.2.2.1).bind fun r2 =>
some (a0.1, (r1, (r2, a0.2.2.2)))) := (FnI.call_eq (by kernel_rfl)).trans (by kernel_rfl)
noncomputable def qFD (acc : List AV → Bool) : Summ Tryz.prog GT := adapt_twin_I.summ mixed acc false false
noncomputable def recip_Of_I : FnI Tryz.prog GT := { f := 250, cuts := [], tab := [], fm := ⟨true, [.val (.int .i32) [], .val (.int .i64) []]⟩ }
noncomputable def qXz (a0 : Int) : Option (Int × Int) := recip_Of_I.call [(.int .i32 a0)] []
theorem qnE (a0 : Int) : qXz a0 = (
if (decide (a0 < (1 : Int))) = true then
some ((0 : Int), (2 : Int))
else
if (decide (a0 > (1024 : Int))) = true then
some ((0 : Int), (2 : Int))
else
gd (a0 ≠ 0) <|
some ((IntKind.wrap .i32 (Int.tdiv (65536 : Int) a0)), (0 : Int))) := (FnI.call_eq (by kernel_rfl)).trans (by kernel_rfl)
noncomputable def qZG (acc : List AV → Bool) : Summ Tryz.prog GT := recip_Of_I.summ mixed acc false false
noncomputable def recip_Div_I : FnI Tryz.prog GT := { f := 243, cuts := [], tab := [qZG (fun _ => true)], fm := ⟨true, [.val (.int .i32) [], .val (.int .i64) []]⟩ }
noncomputable def qfC (a0 : Int) (a1 : Int) : Option (Int × Int) := recip_Div_I.call [(.int .i32 a0), (.int .i32 a1)] []
theorem qeC (a0 : Int) (a1 : Int) : qfC a0 a1 = (
(qXz a1).bind fun r1 =>
if (r1.2 != (0 : Int)) = true then
some ((0 : Int), r1.2)
else
gd (0 ≤ (16 : Int)) <|
some ((IntKind.wrap .i32 (Int.fdiv (IntKind.wrap .i64 ((IntKind.wrap .i64 a0) * (IntKind.wrap .i64 r1.1))) (65536 : Int))), (0 : Int))) := (FnI.call_eq (by kernel_rfl)).trans (by kernel_rfl)
noncomputable def qoE (acc : List AV → Bool) : Summ Tryz.prog GT := recip_Div_I.summ mixed acc false false
noncomputable def recip_Step_I : FnI Tryz.prog GT := { f := 238, cuts := [], tab := [qoE (fun _ => true)], fm := ⟨true, [.val (.int .i32) [], .val (.int .i64) []]⟩ }
noncomputable def qVr (a0 : Int) (a1 : Int) (a2 : Int) : Option (Int × Int) := recip_Step_I.call [(.int .i32 a0), (.int .i32 a1), (.int .i32 a2)] []
theorem qWz (a0 : Int) (a1 : Int) (a2 : Int) : qVr a0 a1 a2 = (
if (decide ((if a1 < a0 then a1 else a0) < (0 : Int))) = true then
some ((0 : Int), (2 : Int))
else
if (decide ((if a1 > a0 then a1 else a0) ≥ (65536 : Int))) = true then
some ((0 : Int), (2 : Int))
else
(qfC (IntKind.wrap .i32 (a1 - a0)) a2).bind fun r1 =>
if (r1.2 != (0 : Int)) = true then
some ((0 : Int), r1.2)
else
some ((IntKind.wrap .i32 (a0 + r1.1)), (0 : Int))) := (FnI.call_eq (by kernel_rfl)).trans (by kernel_rfl)
noncomputable def qdC (acc : List AV → Bool) : Summ Tryz.prog GT := recip_Step_I.summ mixed acc false false
noncomputable def adapt_change_I : FnI Tryz.prog GT := { f := 215, cuts := [], tab := [qdC (fun _ => true)], fm := ⟨false, [.val (.int .i64) [], .row 0 (.int .i32), .row 1 (.int .i32)]⟩ }
noncomputable def qBn (a0a : Int) (a0bbb : Unit) (a1 : Int) (a2 : Int) (h0 : List Int) (h1 : List Int) : Option (Int × List Int × List Int) := adapt_change_I.call [(.agg qna (a0a, ((SV.ref 0 0 (List.length h0) true), ((SV.ref 1 0 (List.length h1) true), a0bbb)))), (.int .u8 a1), (.int .u8 a2)] [(0, (.row (.int .i32) false h0)), (1, (.row (.int .i32) false h1))]
theorem qjx (a0a : Int) (a0bbb : Unit) (a1 : Int) (a2 : Int) (h0 : List Int) (h1 : List Int) : qBn a0a a0bbb a1 a2 h0 h1 = (
gd (0 ≤ a1) <|
gd (a1 < (Int.ofNat (List.length h1))) <|
gd (0 ≤ a1) <|
gd (a1 < (Int.ofNat (List.length h0))) <|
gd (0 ≤ a2) <|
gd (a2 < (2 : Int)) <|
(qVr (List.getD h0 (0 + (Int.toNat a1)) (0 : Int)) (List.getD G_targets (Int.toNat a2) (0 : Int)) (IntKind.wrap .i32 ((if a0a < (IntKind.wrap .i32 ((List.getD h1 (0 + (Int.toNat a1)) (0 : Int)) + (1 : Int))) then a0a else (IntKind.wrap .i32 ((List.getD h1 (0 + (Int.toNat a1)) (0 : Int)) + (1 : Int)))) + (1 : Int)))).bind fun r1 =>
gd (0 ≤ a1) <|
gd (a1 < (Int.ofNat (List.length h0))) <|
gd (0 ≤ a1) <|
gd (a1 < (Int.ofNat (List.length h1))) <|
some (r1.2, ((List.set h0 (0 + (Int.toNat a1)) r1.1), (List.set h1 (0 + (Int.toNat a1)) (if a0a < (IntKind.wrap .i32 ((List.getD h1 (0 + (Int.toNat a1)) (0 : Int)) + (1 : Int))) then a0a else (IntKind.wrap .i32 ((List.getD h1 (0 + (Int.toNat a1)) (0 : Int)) + (1 : Int)))))))) := (FnI.call_eq (by kernel_rfl)).trans (by kernel_rfl)
noncomputable def qSy (acc : List AV → Bool) : Summ Tryz.prog GT := adapt_change_I.summ mixed acc true false
noncomputable def adapt_Update_I : FnI Tryz.prog GT := { f := 183, cuts := [], tab := [qxz (fun _ => true), qFD (fun _ => true), (qSy (fun _ => true)).dropping], fm := ⟨true, [.val qna [], .val (.int .i64) []]⟩ }
noncomputable def qCn (a0 : qia) (a1 : Int) (a2 : Int) : Option (qia × Int) := adapt_Update_I.call [(.agg qna (inj false qna a0)), (.int .u8 a1), (.int .u8 a2)] []
theorem qkx (a0 : qia) (a1 : Int) (a2 : Int) : qCn a0 a1 a2 = (
(qyu a0 a1).bind fun r1 =>
if (r1 != (0 : Int)) = true then
some (((0 : Int), ([], ([], ()))), r1)
else
if (decide (a2 > (1 : Int))) = true then
some (((0 : Int), ([], ([], ()))), (2 : Int))
else
(qMs a0).bind fun r2 =>
(qBn r2.1 r2.2.2.2 a1 a2 r2.2.1 r2.2.2.1).bind fun r3 =>
if (r3.1 != (0 : Int)) = true then
some (((0 : Int), ([], ([], ()))), r3.1)
else
some ((r2.1, (r3.2.1, (r3.2.2, r2.2.2.2))), (0 : Int))) := (FnI.call_eq (by kernel_rfl)).trans (by kernel_rfl)
noncomputable def qUy (acc : List AV → Bool) : Summ Tryz.prog GT := adapt_Update_I.summ mixed acc false false
noncomputable def states_Run_1_I : FnI Tryz.prog GT := { f := 245, cuts := [], tab := [], fm := ⟨true, [.val .bool []]⟩ }
noncomputable def qQs (a0 : Int) : Option (Bool) := states_Run_1_I.call [(.int .u8 a0)] []
theorem qKu (a0 : Int) : qQs a0 = (
some (decide (a0 > (1 : Int)))) := (FnI.call_eq (by kernel_rfl)).trans (by kernel_rfl)
noncomputable def qux (acc : List AV → Bool) : Summ Tryz.prog GT := states_Run_1_I.summ mixed acc false false
noncomputable def slices_IndexFunc_uint8_uint8_I : FnI Tryz.prog GT := { f := 251, cuts := [⟨(2, 3), [0, 1, 7, 8], false, false, []⟩], tab := [qux (fun _ => true)], fm := ⟨true, [.val (.int .i64) []]⟩ }
noncomputable def qPd (a0 : List Int) : Option (Int) := slices_IndexFunc_uint8_uint8_I.call [(.sl (.int .u8) false a0), (.func 245 [])] []
noncomputable def qGb (v0 : List Int) (v7 : Int) (v8 : Int) : Option (Int) := slices_IndexFunc_uint8_uint8_I.sem ⟨[.code (cIn (cIn (qaa (qGa (qaa (qda Tryz.prog 251)))))), .inLoop (cIn (cIn (qaa (qGa (qaa (qda Tryz.prog 251)))))), .inBlock 0, .code (qaa (qaa (qda Tryz.prog 251)))], ⟨[(0, (.one (.sl (.int .u8) false v0))), (1, (.one (.func 245 []))), (7, (.one (.int .i64 v7))), (8, (.one (.int .i64 v8)))], [], 8⟩⟩
theorem qKg (a0 : List Int) : qPd a0 = (
qGb a0 (Int.ofNat (List.length a0)) (0 : Int)) := (FnI.call_eq (by kernel_rfl)).trans (by kernel_rfl)
theorem qvc (v0 : List Int) (v7 : Int) (v8 : Int) : qGb v0 v7 v8 = (
if (decide (v8 < v7)) = true then
gd (0 ≤ v8) <|
gd (v8 < (Int.ofNat (List.length v0))) <|
(qQs (List.getD v0 (Int.toNat v8) (0 : Int))).bind fun r1 =>
if r1 = true then
some (v8)
else
qGb v0 v7 (IntKind.wrap .i64 (v8 + (1 : Int)))
else
some (-1 : Int)) := (FnI.sem_eq _).trans (by kernel_rfl)
noncomputable def qgh (acc : List AV → Bool) : Summ Tryz.prog GT := slices_IndexFunc_uint8_uint8_I.summ mixed acc false false
noncomputable def slices_ContainsFunc_uint8_uint8_I : FnI Tryz.prog GT := { f := 244, cuts := [], tab := [qgh (fun _ => true)], fm := ⟨true, [.val .bool []]⟩ }
noncomputable def qHb (a0 : List Int) : Option (Bool) := slices_ContainsFunc_uint8_uint8_I.call [(.sl (.int .u8) false a0), (.func 245 [])] []
theorem qRf (a0 : List Int) : qHb a0 = (
(qPd a0).bind fun r1 =>
some (decide (r1 ≥ (0 : Int)))) := (FnI.call_eq (by kernel_rfl)).trans (by kernel_rfl)
noncomputable def qWf (acc : List AV → Bool) : Summ Tryz.prog GT := slices_ContainsFunc_uint8_uint8_I.summ mixed acc false false
noncomputable def counts_Check_I : FnI Tryz.prog GT := { f := 252, cuts := [], tab := [], fm := ⟨true, [.val (.int .i64) []]⟩ }
noncomputable def qYm (a0 : qTa) : Option (Int) := counts_Check_I.call [(.agg qZa (inj false qZa a0))] []
theorem qSw (a0 : qTa) : qYm a0 = (
if (peq qZa a0 ((0 : Int), ((0 : Int), ((0 : Int), ())))) = true then
some (0 : Int)
else
if (decide (a0.2.2.1 > (1 : Int))) = true then
some (8 : Int)
else
gd (0 ≤ a0.2.2.1) <|
gd (a0.2.2.1 < (2 : Int)) <|
gd (0 ≤ (IntKind.wrap .u8 ((1 : Int) - a0.2.2.1))) <|
gd ((IntKind.wrap .u8 ((1 : Int) - a0.2.2.1)) < (2 : Int)) <|
if (decide ((List.getD (List.set (List.set (List.replicate 2 (0 : Int)) 0 a0.1) 1 a0.2.1) (Int.toNat a0.2.2.1) (0 : Int)) < (1 : Int))) = true then
some (8 : Int)
else
if (decide ((List.getD (List.set (List.set (List.replicate 2 (0 : Int)) 0 a0.1) 1 a0.2.1) (Int.toNat a0.2.2.1) (0 : Int)) > (12 : Int))) = true then
some (8 : Int)
else
if (decide ((List.getD (List.set (List.set (List.replicate 2 (0 : Int)) 0 a0.1) 1 a0.2.1) (Int.toNat (IntKind.wrap .u8 ((1 : Int) - a0.2.2.1))) (0 : Int)) < (0 : Int))) = true then
some (8 : Int)
else
if (decide ((List.getD (List.set (List.set (List.replicate 2 (0 : Int)) 0 a0.1) 1 a0.2.1) (Int.toNat (IntKind.wrap .u8 ((1 : Int) - a0.2.2.1))) (0 : Int)) > (7 : Int))) = true then
some (8 : Int)
else
some (0 : Int)) := (FnI.call_eq (by kernel_rfl)).trans (by kernel_rfl)
noncomputable def qEy (acc : List AV → Bool) : Summ Tryz.prog GT := counts_Check_I.summ mixed acc false false
noncomputable def counts_next_I : FnI Tryz.prog GT := { f := 253, cuts := [], tab := [], fm := ⟨true, [.val qZa []]⟩ }
noncomputable def qVp (a0 : qTa) (a1 : Int) : Option (qTa) := counts_next_I.call [(.agg qZa (inj false qZa a0)), (.int .u8 a1)] []
theorem qCy (a0 : qTa) (a1 : Int) : qVp a0 a1 = (
gd (0 ≤ a1) <|
gd (a1 < (2 : Int)) <|
gd (0 ≤ a1) <|
gd (a1 < (2 : Int)) <|
gd (0 ≤ (IntKind.wrap .u8 ((1 : Int) - a1))) <|
gd ((IntKind.wrap .u8 ((1 : Int) - a1)) < (2 : Int)) <|
if (decide ((List.getD (List.set (List.set (List.set (List.replicate 2 (0 : Int)) 0 a0.1) 1 a0.2.1) (Int.toNat a1) (if (12 : Int) < (IntKind.wrap .i32 ((List.getD (List.set (List.set (List.replicate 2 (0 : Int)) 0 a0.1) 1 a0.2.1) (Int.toNat a1) (0 : Int)) + (1 : Int))) then (12 : Int) else (IntKind.wrap .i32 ((List.getD (List.set (List.set (List.replicate 2 (0 : Int)) 0 a0.1) 1 a0.2.1) (Int.toNat a1) (0 : Int)) + (1 : Int))))) (Int.toNat (IntKind.wrap .u8 ((1 : Int) - a1))) (0 : Int)) > (2 : Int))) = true then
gd ((2 : Int) ≠ 0) <|
gd (0 ≤ (0 : Int)) <|
gd ((0 : Int) < (2 : Int)) <|
gd (0 ≤ (1 : Int)) <|
gd ((1 : Int) < (2 : Int)) <|
some ((List.getD (List.set (List.set (List.set (List.set (List.replicate 2 (0 : Int)) 0 a0.1) 1 a0.2.1) (Int.toNat a1) (if (12 : Int) < (IntKind.wrap .i32 ((List.getD (List.set (List.set (List.replicate 2 (0 : Int)) 0 a0.1) 1 a0.2.1) (Int.toNat a1) (0 : Int)) + (1 : Int))) then (12 : Int) else (IntKind.wrap .i32 ((List.getD (List.set (List.set (List.replicate 2 (0 : Int)) 0 a0.1) 1 a0.2.1) (Int.toNat a1) (0 : Int)) + (1 : Int))))) (Int.toNat (IntKind.wrap .u8 ((1 : Int) - a1))) (IntKind.wrap .i32 ((IntKind.wrap .i32 (Int.tdiv (List.getD (List.set (List.set (List.set (List.replicate 2 (0 : Int)) 0 a0.1) 1 a0.2.1) (Int.toNat a1) (if (12 : Int) < (IntKind.wrap .i32 ((List.getD (List.set (List.set (List.replicate 2 (0 : Int)) 0 a0.1) 1 a0.2.1) (Int.toNat a1) (0 : Int)) + (1 : Int))) then (12 : Int) else (IntKind.wrap .i32 ((List.getD (List.set (List.set (List.replicate 2 (0 : Int)) 0 a0.1) 1 a0.2.1) (Int.toNat a1) (0 : Int)) + (1 : Int))))) (Int.toNat (IntKind.wrap .u8 ((1 : Int) - a1))) (0 : Int)) (2 : Int))) + (1 : Int)))) 0 (0 : Int)), ((List.getD (List.set (List.set (List.set (List.set (List.replicate 2 (0 : Int)) 0 a0.1) 1 a0.2.1) (Int.toNat a1) (if (12 : Int) < (IntKind.wrap .i32 ((List.getD (List.set (List.set (List.replicate 2 (0 : Int)) 0 a0.1) 1 a0.2.1) (Int.toNat a1) (0 : Int)) + (1 : Int))) then (12 : Int) else (IntKind.wrap .i32 ((List.getD (List.set (List.set (List.replicate 2 (0 : Int)) 0 a0.1) 1 a0.2.1) (Int.toNat a1) (0 : Int)) + (1 : Int))))) (Int.toNat (IntKind.wrap .u8 ((1 : Int) - a1))) (IntKind.wrap .i32 ((IntKind.wrap .i32 (Int.tdiv (List.getD (List.set (List.set (List.set (List.replicate 2 (0 : Int)) 0 a0.1) 1 a0.2.1) (Int.toNat a1) (if (12 : Int) < (IntKind.wrap .i32 ((List.getD (List.set (List.set (List.replicate 2 (0 : Int)) 0 a0.1) 1 a0.2.1) (Int.toNat a1) (0 : Int)) + (1 : Int))) then (12 : Int) else (IntKind.wrap .i32 ((List.getD (List.set (List.set (List.replicate 2 (0 : Int)) 0 a0.1) 1 a0.2.1) (Int.toNat a1) (0 : Int)) + (1 : Int))))) (Int.toNat (IntKind.wrap .u8 ((1 : Int) - a1))) (0 : Int)) (2 : Int))) + (1 : Int)))) 1 (0 : Int)), (a1, ())))
else
gd (0 ≤ (0 : Int)) <|
gd ((0 : Int) < (2 : Int)) <|
gd (0 ≤ (1 : Int)) <|
gd ((1 : Int) < (2 : Int)) <|
some ((List.getD (List.set (List.set (List.set (List.replicate 2 (0 : Int)) 0 a0.1) 1 a0.2.1) (Int.toNat a1) (if (12 : Int) < (IntKind.wrap .i32 ((List.getD (List.set (List.set (List.replicate 2 (0 : Int)) 0 a0.1) 1 a0.2.1) (Int.toNat a1) (0 : Int)) + (1 : Int))) then (12 : Int) else (IntKind.wrap .i32 ((List.getD (List.set (List.set (List.replicate 2 (0 : Int)) 0 a0.1) 1 a0.2.1) (Int.toNat a1) (0 : Int)) + (1 : Int))))) 0 (0 : Int)), ((List.getD (List.set (List.set (List.set (List.replicate 2 (0 : Int)) 0 a0.1) 1 a0.2.1) (Int.toNat a1) (if (12 : Int) < (IntKind.wrap .i32 ((List.getD (List.set (List.set (List.replicate 2 (0 : Int)) 0 a0.1) 1 a0.2.1) (Int.toNat a1) (0 : Int)) + (1 : Int))) then (12 : Int) else (IntKind.wrap .i32 ((List.getD (List.set (List.set (List.replicate 2 (0 : Int)) 0 a0.1) 1 a0.2.1) (Int.toNat a1) (0 : Int)) + (1 : Int))))) 1 (0 : Int)), (a1, ())))) := (FnI.call_eq (by kernel_rfl)).trans (by kernel_rfl)
noncomputable def qmB (acc : List AV → Bool) : Summ Tryz.prog GT := counts_next_I.summ mixed acc false false
noncomputable def counts_Run_I : FnI Tryz.prog GT := { f := 246, cuts := [⟨(9, 3), [2, 4, 31, 32, 33], false, false, []⟩], tab := [qEy (fun _ => true), qyf (fun _ => true), qmB (fun _ => true)], fm := ⟨true, [.val qZa [], .val (.int .i64) []]⟩ }
noncomputable def qzs (a0 : qTa) (a1 : List Int) : Option (qTa × Int) := counts_Run_I.call [(.agg qZa (inj false qZa a0)), (.sl (.int .u8) false a1)] []
noncomputable def qji (v31 : List Int) (v32 : Int) (v33 : Int) (b8 : qTa) (b9 : qTa) : Option (qTa × Int) := counts_Run_I.sem ⟨[.code (cIn (cIn (qaa (qGa (qaa (qaa (qaa (qda Tryz.prog 246)))))))), .inLoop (cIn (cIn (qaa (qGa (qaa (qaa (qaa (qda Tryz.prog 246)))))))), .inBlock 1, .code (qaa (qaa (qaa (qaa (qda Tryz.prog 246)))))], ⟨[(2, (.one (.ptr qZa 8 []))), (4, (.one (.ptr qZa 9 []))), (31, (.one (.sl (.int .u8) false v31))), (32, (.one (.int .i64 v32))), (33, (.one (.int .i64 v33)))], [(8, some (.box qZa (inj false qZa b8))), (9, some (.box qZa (inj false qZa b9)))], 10⟩⟩
theorem qnB (a0 : qTa) (a1 : List Int) : qzs a0 a1 = (
(qYm a0).bind fun r1 =>
if (r1 != (0 : Int)) = true then
some (((0 : Int), ((0 : Int), ((0 : Int), ()))), r1)
else
if (decide ((Int.ofNat (List.length a1)) > (20000 : Int))) = true then
some (((0 : Int), ((0 : Int), ((0 : Int), ()))), (4 : Int))
else
if (decide ((Int.ofNat (List.length a1)) > (0 : Int))) = true then
(qtc a1).bind fun r2 =>
if (decide (r2 > (1 : Int))) = true then
some (((0 : Int), ((0 : Int), ((0 : Int), ()))), (2 : Int))
else
qji a1 (Int.ofNat (List.length a1)) (0 : Int) a0 ((0 : Int), ((0 : Int), ((0 : Int), ())))
else
qji a1 (Int.ofNat (List.length a1)) (0 : Int) a0 ((0 : Int), ((0 : Int), ((0 : Int), ())))) := (FnI.call_eq (by kernel_rfl)).trans (by kernel_rfl)
theorem qam (v31 : List Int) (v32 : Int) (v33 : Int) (b8 : qTa) (b9 : qTa) : qji v31 v32 v33 b8 b9 = (
if (decide (v33 < v32)) = true then
gd (0 ≤ v33) <|
gd (v33 < (Int.ofNat (List.length v31))) <|
(qVp b8 (List.getD v31 (Int.toNat v33) (0 : Int))).bind fun r3 =>
qji v31 v32 (IntKind.wrap .i64 (v33 + (1 : Int))) r3 b9
else
some (b8, (0 : Int))) := (FnI.sem_eq _).trans (by kernel_rfl)
noncomputable def qkD (acc : List AV → Bool) : Summ Tryz.prog GT := counts_Run_I.summ mixed acc false false
noncomputable def states_number_I : FnI Tryz.prog GT := { f := 247, cuts := [], tab := [], fm := ⟨true, [.val (.int .u8) []]⟩ }
noncomputable def qbl (a0 : qTa) : Option (Int) := states_number_I.call [(.agg qZa (inj false qZa a0))] []
theorem qwt (a0 : qTa) : qbl a0 = (
if (peq qZa a0 ((0 : Int), ((0 : Int), ((0 : Int), ())))) = true then
some (0 : Int)
else
gd (0 ≤ a0.2.2.1) <|
gd (a0.2.2.1 < (2 : Int)) <|
gd (0 ≤ (IntKind.wrap .u8 ((1 : Int) - a0.2.2.1))) <|
gd ((IntKind.wrap .u8 ((1 : Int) - a0.2.2.1)) < (2 : Int)) <|
some (IntKind.wrap .u8 (IntKind.wrap .i32 ((IntKind.wrap .i32 ((IntKind.wrap .i32 ((IntKind.wrap .i32 ((IntKind.wrap .i32 ((IntKind.wrap .i32 ((12 : Int) * (IntKind.wrap .i32 a0.2.2.1))) + (List.getD (List.set (List.set (List.replicate 2 (0 : Int)) 0 a0.1) 1 a0.2.1) (Int.toNat a0.2.2.1) (0 : Int)))) - (1 : Int))) * (8 : Int))) + (List.getD (List.set (List.set (List.replicate 2 (0 : Int)) 0 a0.1) 1 a0.2.1) (Int.toNat (IntKind.wrap .u8 ((1 : Int) - a0.2.2.1))) (0 : Int)))) + (1 : Int))))) := (FnI.call_eq (by kernel_rfl)).trans (by kernel_rfl)
noncomputable def qHu (acc : List AV → Bool) : Summ Tryz.prog GT := states_number_I.summ mixed acc false false
noncomputable def states_Run_I : FnI Tryz.prog GT := { f := 239, cuts := [], tab := [qCo (fun _ => true), qWf (fun _ => true), qkD (fun _ => true), qHu (fun _ => true)], fm := ⟨true, [.val (.int .u8) [], .val (.int .i64) []]⟩ }
noncomputable def qZy (a0 : Int) (a1 : List Int) : Option (Int × Int) := states_Run_I.call [(.int .u8 a0), (.sl (.int .u8) false a1)] []
theorem qEz (a0 : Int) (a1 : List Int) : qZy a0 a1 = (
(qaj a0).bind fun r1 =>
if (r1.2 != (0 : Int)) = true then
some ((0 : Int), r1.2)
else
if (decide ((Int.ofNat (List.length a1)) > (20000 : Int))) = true then
some ((0 : Int), (4 : Int))
else
(qHb a1).bind fun r2 =>
if r2 = true then
some ((0 : Int), (2 : Int))
else
(qzs r1.1 a1).bind fun r3 =>
if (r3.2 != (0 : Int)) = true then
some ((0 : Int), r3.2)
else
(qbl r3.1).bind fun r4 =>
some (r4, (0 : Int))) := (FnI.call_eq (by kernel_rfl)).trans (by kernel_rfl)
noncomputable def qIB (acc : List AV → Bool) : Summ Tryz.prog GT := states_Run_I.summ mixed acc false false
noncomputable def states_Next_I : FnI Tryz.prog GT := { f := 216, cuts := [], tab := [qIB (fun _ => true)], fm := ⟨true, [.val (.int .u8) [], .val (.int .i64) []]⟩ }
noncomputable def qkp (a0 : Int) (a1 : Int) : Option (Int × Int) := states_Next_I.call [(.int .u8 a0), (.int .u8 a1)] []
theorem qvx (a0 : Int) (a1 : Int) : qkp a0 a1 = (
(qZy a0 [a1]).bind fun r1 =>
some (r1)) := (FnI.call_eq (by kernel_rfl)).trans (by kernel_rfl)
noncomputable def qGz (acc : List AV → Bool) : Summ Tryz.prog GT := states_Next_I.summ mixed acc false false
noncomputable def slots_Set_I : FnI Tryz.prog GT := { f := 217, cuts := [], tab := [qcz (fun _ => true), qEb (fun _ => true)], fm := ⟨true, [.val qwa [], .val (.int .i64) []]⟩ }
noncomputable def qNu (a0 : qja) (a1 : Int) (a2 : Int) (a3 : Int) : Option (qja × Int) := slots_Set_I.call [(.agg qwa (inj false qwa a0)), (.int .i64 a1), (.int .i64 a2), (.int .u8 a3)] []
theorem qJB (a0 : qja) (a1 : Int) (a2 : Int) (a3 : Int) : qNu a0 a1 a2 a3 = (
(qmu a0 a1 a2).bind fun r1 =>
if (r1 != (0 : Int)) = true then
some (((0 : Int), ([], ())), r1)
else
if (decide (a3 ≥ (193 : Int))) = true then
some (((0 : Int), ([], ())), (2 : Int))
else
(qab a0.2.1).bind fun r2 =>
gd (0 ≤ a1) <|
gd (a1 < (Int.ofNat (List.length r2))) <|
gd (0 ≤ (IntKind.wrap .i64 (a2 - (1 : Int)))) <|
gd ((IntKind.wrap .i64 (a2 - (1 : Int))) < (15 : Int)) <|
some ((a0.1, ((List.set r2 (0 + (Int.toNat a1)) ((List.getD r2 (0 + (Int.toNat a1)) (qpa qfb)).1, ((List.set (List.getD r2 (0 + (Int.toNat a1)) (qpa qfb)).2.1 (Int.toNat (IntKind.wrap .i64 (a2 - (1 : Int)))) a3), (List.getD r2 (0 + (Int.toNat a1)) (qpa qfb)).2.2))), ())), (0 : Int))) := (FnI.call_eq (by kernel_rfl)).trans (by kernel_rfl)
noncomputable def qXD (acc : List AV → Bool) : Summ Tryz.prog GT := slots_Set_I.summ mixed acc false false
noncomputable def slots_Bit_I : FnI Tryz.prog GT := { f := 184, cuts := [], tab := [qPu (fun _ => true), qGz (fun _ => true), qXD (fun _ => true)], fm := ⟨true, [.val qwa [], .val (.int .i64) []]⟩ }
noncomputable def qQu (a0 : qja) (a1 : Int) (a2 : Int) (a3 : Int) : Option (qja × Int) := slots_Bit_I.call [(.agg qwa (inj false qwa a0)), (.int .i64 a1), (.int .i64 a2), (.int .u8 a3)] []
theorem qOB (a0 : qja) (a1 : Int) (a2 : Int) (a3 : Int) : qQu a0 a1 a2 a3 = (
(qpq a0 a1 a2).bind fun r1 =>
if (r1.2 != (0 : Int)) = true then
some (((0 : Int), ([], ())), r1.2)
else
(qkp r1.1 a3).bind fun r2 =>
if (r2.2 != (0 : Int)) = true then
some (((0 : Int), ([], ())), r2.2)
else
(qNu a0 a1 a2 r2.1).bind fun r3 =>
some (r3)) := (FnI.call_eq (by kernel_rfl)).trans (by kernel_rfl)
noncomputable def qbE (acc : List AV → Bool) : Summ Tryz.prog GT := slots_Bit_I.summ mixed acc false false
noncomputable def mixer_wrong_I : FnI Tryz.prog GT := { f := 218, cuts := [], tab := [], fm := ⟨true, [.val (.int .i32) []]⟩ }
noncomputable def qLv (a0 : Int) (a1 : Bool) : Option (Int) := mixer_wrong_I.call [(.int .i32 a0), (.bool a1)] []
theorem qQx (a0 : Int) (a1 : Bool) : qLv a0 a1 = (
if a1 = true then
some (IntKind.wrap .i32 ((4095 : Int) - a0))
else
some (IntKind.wrap .i32 ((0 : Int) - a0))) := (FnI.call_eq (by kernel_rfl)).trans (by kernel_rfl)
noncomputable def qlA (acc : List AV → Bool) : Summ Tryz.prog GT := mixer_wrong_I.summ mixed acc false false
noncomputable def fixed_Round_I : FnI Tryz.prog GT := { f := 219, cuts := [], tab := [], fm := ⟨true, [.val (.int .i64) [], .val (.int .i64) []]⟩ }
noncomputable def qOp (a0 : Int) (a1 : Int) : Option (Int × Int) := fixed_Round_I.call [(.int .i64 a0), (.int .i64 a1)] []
theorem qmy (a0 : Int) (a1 : Int) : qOp a0 a1 = (
if (decide (a1 < (0 : Int))) = true then
some ((0 : Int), (2 : Int))
else
if (decide (a1 > (62 : Int))) = true then
some ((0 : Int), (2 : Int))
else
if (a1 == (0 : Int)) = true then
some (a0, (0 : Int))
else
gd (0 ≤ a1) <|
gd (0 ≤ (IntKind.wrap .i64 (a1 - (1 : Int)))) <|
some ((IntKind.wrap .i64 ((qjh .i64 a0 a1) + (qDa .i64 (qjh .i64 a0 (IntKind.wrap .i64 (a1 - (1 : Int)))) (1 : Int)))), (0 : Int))) := (FnI.call_eq (by kernel_rfl)).trans (by kernel_rfl)
noncomputable def qDA (acc : List AV → Bool) : Summ Tryz.prog GT := fixed_Round_I.summ mixed acc false false
noncomputable def fixed_Add_I : FnI Tryz.prog GT := { f := 220, cuts := [], tab := [qvw (fun _ => true)], fm := ⟨true, [.val (.int .i32) []]⟩ }
noncomputable def qxw (a0 : Int) (a1 : Int) : Option (Int) := fixed_Add_I.call [(.int .i32 a0), (.int .i32 a1)] []
theorem qFC (a0 : Int) (a1 : Int) : qxw a0 a1 = (
(qGi (IntKind.wrap .i64 ((IntKind.wrap .i64 a0) + (IntKind.wrap .i64 a1)))).bind fun r1 =>
some (r1)) := (FnI.call_eq (by kernel_rfl)).trans (by kernel_rfl)
noncomputable def qQE (acc : List AV → Bool) : Summ Tryz.prog GT := fixed_Add_I.summ mixed acc false false
noncomputable def mixer_Learn_I : FnI Tryz.prog GT := { f := 185, cuts := [⟨(8, 3), [1, 2, 3, 4, 10, 13, 37, 38, 39], false, false, [10, 11]⟩, ⟨(14, 3), [1, 10, 13, 16, 56, 57, 58], false, false, [10, 11]⟩], tab := [qRq (fun _ => true), qbb (fun _ => true), qlA (fun _ => true), qDA (fun _ => true), qQE (fun _ => true)], fm := ⟨true, [.val qsa [], .val (.int .i64) []]⟩ }
noncomputable def qHp (a0 : qqa) (a1 : Int) (a2 : List Int) (a3 : Int) (a4 : Bool) : Option (qqa × Int) := mixer_Learn_I.call [(.agg qsa (inj false qsa a0)), (.int .i64 a1), (.sl (.int .i32) false a2), (.int .i32 a3), (.bool a4)] []
noncomputable def qff (v1 : Int) (v2 : List Int) (v3 : Int) (v4 : Bool) (v37 : List (List Int)) (v38 : Int) (v39 : Int) (b8b : Unit) (b9b : Unit) (h10 : List (List Int)) (h11 : List (List Int)) : Option (qqa × Int) := mixer_Learn_I.sem ⟨[.code (cIn (cIn (qaa (qGa (qaa (qaa (qaa (qaa (qda Tryz.prog 185))))))))), .inLoop (cIn (cIn (qaa (qGa (qaa (qaa (qaa (qaa (qda Tryz.prog 185))))))))), .inBlock 0, .code (qaa (qaa (qaa (qaa (qaa (qda Tryz.prog 185))))))], ⟨[(1, (.one (.int .i64 v1))), (2, (.one (.sl (.int .i32) false v2))), (3, (.one (.int .i32 v3))), (4, (.one (.bool v4))), (10, (.one (.ptr qsa 8 []))), (13, (.one (.ptr qsa 9 []))), (37, (.one (.sl (.slice (.int .i32)) false v37))), (38, (.one (.int .i64 v38))), (39, (.one (.int .i64 v39)))], [(8, some (.box qsa ((SV.ref 10 0 (List.length h10) true), b8b))), (9, some (.box qsa ((SV.ref 11 0 (List.length h11) true), b9b))), (10, some (.fam (.int .i32) h10)), (11, some (.fam (.int .i32) h11))], 12⟩⟩
noncomputable def qef (v1 : Int) (v16 : Int) (v56 : List Int) (v57 : Int) (v58 : Int) (b8b : Unit) (b9b : Unit) (h10 : List (List Int)) (h11 : List (List Int)) : Option (qqa × Int) := mixer_Learn_I.sem ⟨[.code (cIn (cIn (qaa (qGa (qaa (qaa (qaa (qaa (qaa (qaa (qda Tryz.prog 185))))))))))), .inLoop (cIn (cIn (qaa (qGa (qaa (qaa (qaa (qaa (qaa (qaa (qda Tryz.prog 185))))))))))), .inBlock 2, .code (qaa (qaa (qaa (qaa (qaa (qaa (qaa (qda Tryz.prog 185))))))))], ⟨[(1, (.one (.int .i64 v1))), (10, (.one (.ptr qsa 8 []))), (13, (.one (.ptr qsa 9 []))), (16, (.one (.int .i64 v16))), (56, (.one (.sl (.int .i32) false v56))), (57, (.one (.int .i64 v57))), (58, (.one (.int .i64 v58)))], [(8, some (.box qsa ((SV.ref 10 0 (List.length h10) true), b8b))), (9, some (.box qsa ((SV.ref 11 0 (List.length h11) true), b9b))), (10, some (.fam (.int .i32) h10)), (11, some (.fam (.int .i32) h11))], 12⟩⟩
theorem qTx (a0 : qqa) (a1 : Int) (a2 : List Int) (a3 : Int) (a4 : Bool) : qHp a0 a1 a2 a3 a4 = (
(qml a0 a1 a2).bind fun r1 =>
if (r1 != (0 : Int)) = true then
some (([], ()), r1)
else
if (decide (a3 < (0 : Int))) = true then
some (([], ()), (2 : Int))
else
if (decide (a3 > (4095 : Int))) = true then
some (([], ()), (2 : Int))
else
qff a1 a2 a3 a4 a0.1 (Int.ofNat (List.length a0.1)) (0 : Int) () () [] []) := (FnI.call_eq (by kernel_rfl)).trans (by kernel_rfl)
theorem qHk (v1 : Int) (v2 : List Int) (v3 : Int) (v4 : Bool) (v37 : List (List Int)) (v38 : Int) (v39 : Int) (b8b : Unit) (b9b : Unit) (h10 : List (List Int)) (h11 : List (List Int)) : qff v1 v2 v3 v4 v37 v38 v39 b8b b9b h10 h11 = (
if (decide (v39 < v38)) = true then
gd (0 ≤ v39) <|
gd (v39 < (Int.ofNat (List.length v37))) <|
(qJa (List.getD v37 (Int.toNat v39) [])).bind fun r2 =>
gd ((List.length (h11 ++ [r2])) * 24 ≤ 140737488355328) <|
qff v1 v2 v3 v4 v37 v38 (IntKind.wrap .i64 (v39 + (1 : Int))) b8b b9b h10 (h11 ++ [r2])
else
(qLv v3 v4).bind fun r3 =>
qef v1 (IntKind.wrap .i64 ((IntKind.wrap .i64 r3) * (7 : Int))) v2 (Int.ofNat (List.length v2)) (0 : Int) b8b b9b h10 h11) := (FnI.sem_eq _).trans (by kernel_rfl)
theorem qGk (v1 : Int) (v16 : Int) (v56 : List Int) (v57 : Int) (v58 : Int) (b8b : Unit) (b9b : Unit) (h10 : List (List Int)) (h11 : List (List Int)) : qef v1 v16 v56 v57 v58 b8b b9b h10 h11 = (
if (decide (v58 < v57)) = true then
gd (0 ≤ v58) <|
gd (v58 < (Int.ofNat (List.length v56))) <|
(qOp (IntKind.wrap .i64 ((IntKind.wrap .i64 (List.getD v56 (Int.toNat v58) (0 : Int))) * v16)) (14 : Int)).bind fun r4 =>
gd (0 ≤ v1) <|
gd (v1 < (Int.ofNat (List.length h11))) <|
gd (0 < (List.length (List.getD h11 (0 + (Int.toNat v1)) []))) <|
gd (0 ≤ v1) <|
gd (v1 < (Int.ofNat (List.length h11))) <|
gd (0 < (List.length (List.getD h11 (0 + (Int.toNat v1)) []))) <|
gd (0 ≤ v58) <|
gd (v58 < (Int.ofNat (List.length (List.getD h11 (0 + (Int.toNat v1)) [])))) <|
(qxw (List.getD (List.getD h11 (0 + (Int.toNat v1)) []) (0 + (Int.toNat v58)) (0 : Int)) (IntKind.wrap .i32 r4.1)).bind fun r5 =>
gd (0 ≤ v58) <|
gd (v58 < (Int.ofNat (List.length (List.getD h11 (0 + (Int.toNat v1)) [])))) <|
qef v1 v16 v56 v57 (IntKind.wrap .i64 (v58 + (1 : Int))) b8b b9b h10 (List.set h11 (0 + (Int.toNat v1)) (List.set (List.getD h11 (0 + (Int.toNat v1)) []) (0 + (Int.toNat v58)) r5))
else
some ((h11, b9b), (0 : Int))) := (FnI.sem_eq _).trans (by kernel_rfl)
noncomputable def qoA (acc : List AV → Bool) : Summ Tryz.prog GT := mixer_Learn_I.summ mixed acc false false
noncomputable def refine_Learn_I : FnI Tryz.prog GT := { f := 221, cuts := [⟨(8, 3), [1, 2, 3, 8, 11, 31, 32, 33], false, false, [10, 11]⟩], tab := [qJo (fun _ => true), qbb (fun _ => true)], fm := ⟨true, [.val qsa [], .val (.int .i64) []]⟩ }
noncomputable def qlj (a0 : qqa) (a1 : Int) (a2 : Int) (a3 : Bool) : Option (qqa × Int) := refine_Learn_I.call [(.agg qsa (inj false qsa a0)), (.int .i64 a1), (.int .i64 a2), (.bool a3)] []
noncomputable def qle (v1 : Int) (v2 : Int) (v3 : Bool) (v31 : List (List Int)) (v32 : Int) (v33 : Int) (b8b : Unit) (b9b : Unit) (h10 : List (List Int)) (h11 : List (List Int)) : Option (qqa × Int) := refine_Learn_I.sem ⟨[.code (cIn (cIn (qaa (qGa (qaa (qaa (qaa (qaa (qda Tryz.prog 221))))))))), .inLoop (cIn (cIn (qaa (qGa (qaa (qaa (qaa (qaa (qda Tryz.prog 221))))))))), .inBlock 0, .code (qaa (qaa (qaa (qaa (qaa (qda Tryz.prog 221))))))], ⟨[(1, (.one (.int .i64 v1))), (2, (.one (.int .i64 v2))), (3, (.one (.bool v3))), (8, (.one (.ptr qsa 8 []))), (11, (.one (.ptr qsa 9 []))), (31, (.one (.sl (.slice (.int .i32)) false v31))), (32, (.one (.int .i64 v32))), (33, (.one (.int .i64 v33)))], [(8, some (.box qsa ((SV.ref 10 0 (List.length h10) true), b8b))), (9, some (.box qsa ((SV.ref 11 0 (List.length h11) true), b9b))), (10, some (.fam (.int .i32) h10)), (11, some (.fam (.int .i32) h11))], 12⟩⟩
theorem qiv (a0 : qqa) (a1 : Int) (a2 : Int) (a3 : Bool) : qlj a0 a1 a2 a3 = (
(qjj a0 a1).bind fun r1 =>
if (r1 != (0 : Int)) = true then
some (([], ()), r1)
else
if (decide (a2 < (0 : Int))) = true then
some (([], ()), (2 : Int))
else
if (decide (a2 ≥ (33 : Int))) = true then
some (([], ()), (2 : Int))
else
qle a1 a2 a3 a0.1 (Int.ofNat (List.length a0.1)) (0 : Int) () () [] []) := (FnI.call_eq (by kernel_rfl)).trans (by kernel_rfl)
theorem qkj (v1 : Int) (v2 : Int) (v3 : Bool) (v31 : List (List Int)) (v32 : Int) (v33 : Int) (b8b : Unit) (b9b : Unit) (h10 : List (List Int)) (h11 : List (List Int)) : qle v1 v2 v3 v31 v32 v33 b8b b9b h10 h11 = (
if (decide (v33 < v32)) = true then
gd (0 ≤ v33) <|
gd (v33 < (Int.ofNat (List.length v31))) <|
(qJa (List.getD v31 (Int.toNat v33) [])).bind fun r2 =>
gd ((List.length (h11 ++ [r2])) * 24 ≤ 140737488355328) <|
qle v1 v2 v3 v31 v32 (IntKind.wrap .i64 (v33 + (1 : Int))) b8b b9b h10 (h11 ++ [r2])
else
if v3 = true then
gd (0 ≤ v1) <|
gd (v1 < (Int.ofNat (List.length h11))) <|
gd (0 < (List.length (List.getD h11 (0 + (Int.toNat v1)) []))) <|
gd (0 ≤ v2) <|
gd (v2 < (Int.ofNat (List.length (List.getD h11 (0 + (Int.toNat v1)) [])))) <|
gd ((64 : Int) ≠ 0) <|
some (((List.set h11 (0 + (Int.toNat v1)) (List.set (List.getD h11 (0 + (Int.toNat v1)) []) (0 + (Int.toNat v2)) (IntKind.wrap .i32 ((List.getD (List.getD h11 (0 + (Int.toNat v1)) []) (0 + (Int.toNat v2)) (0 : Int)) + (IntKind.wrap .i32 (Int.tdiv (IntKind.wrap .i32 ((65535 : Int) - (List.getD (List.getD h11 (0 + (Int.toNat v1)) []) (0 + (Int.toNat v2)) (0 : Int)))) (64 : Int))))))), b9b), (0 : Int))
else
gd (0 ≤ v1) <|
gd (v1 < (Int.ofNat (List.length h11))) <|
gd (0 < (List.length (List.getD h11 (0 + (Int.toNat v1)) []))) <|
gd (0 ≤ v2) <|
gd (v2 < (Int.ofNat (List.length (List.getD h11 (0 + (Int.toNat v1)) [])))) <|
gd ((64 : Int) ≠ 0) <|
some (((List.set h11 (0 + (Int.toNat v1)) (List.set (List.getD h11 (0 + (Int.toNat v1)) []) (0 + (Int.toNat v2)) (IntKind.wrap .i32 ((List.getD (List.getD h11 (0 + (Int.toNat v1)) []) (0 + (Int.toNat v2)) (0 : Int)) + (IntKind.wrap .i32 (Int.tdiv (IntKind.wrap .i32 ((0 : Int) - (List.getD (List.getD h11 (0 + (Int.toNat v1)) []) (0 + (Int.toNat v2)) (0 : Int)))) (64 : Int))))))), b9b), (0 : Int))) := (FnI.sem_eq _).trans (by kernel_rfl)
noncomputable def qDx (acc : List AV → Bool) : Summ Tryz.prog GT := refine_Learn_I.summ mixed acc false false
noncomputable def final_Learn_I : FnI Tryz.prog GT := { f := 186, cuts := [], tab := [qtl (fun _ => true), qDx (fun _ => true)], fm := ⟨true, [.val qpb [], .val (.int .i64) []]⟩ }
noncomputable def qPp (a0 : qIa) (a1 : qDb) (a2 : Bool) : Option (qIa × Int) := final_Learn_I.call [(.agg qpb (inj false qpb a0)), (.agg qPf (inj false qPf a1)), (.bool a2)] []
theorem qpy (a0 : qIa) (a1 : qDb) (a2 : Bool) : qPp a0 a1 a2 = (
(qKi a0).bind fun r1 =>
if (r1 != (0 : Int)) = true then
some ((([], ()), (([], ()), ())), r1)
else
gd (0 ≤ (0 : Int)) <|
gd ((0 : Int) < (2 : Int)) <|
gd (0 ≤ (0 : Int)) <|
gd ((0 : Int) < (2 : Int)) <|
(qlj a0.1 (List.getD a1.1 0 (0 : Int)) (List.getD a1.2.1 0 (0 : Int)) a2).bind fun r2 =>
gd (0 ≤ (1 : Int)) <|
gd ((1 : Int) < (2 : Int)) <|
gd (0 ≤ (1 : Int)) <|
gd ((1 : Int) < (2 : Int)) <|
(qlj a0.2.1 (List.getD a1.1 1 (0 : Int)) (List.getD a1.2.1 1 (0 : Int)) a2).bind fun r3 =>
if (r2.2 != (0 : Int)) = true then
some ((([], ()), (([], ()), ())), (2 : Int))
else
if (r3.2 != (0 : Int)) = true then
some ((([], ()), (([], ()), ())), (2 : Int))
else
some ((r2.1, (r3.1, ())), (0 : Int))) := (FnI.call_eq (by kernel_rfl)).trans (by kernel_rfl)
noncomputable def qLA (acc : List AV → Bool) : Summ Tryz.prog GT := final_Learn_I.summ mixed acc false false
noncomputable def nibble_step_I : FnI Tryz.prog GT := { f := 222, cuts := [], tab := [], fm := ⟨true, [.val (.int .i64) []]⟩ }
noncomputable def qFv (a0 : Int) (a1 : Bool) : Option (Int) := nibble_step_I.call [(.int .i64 a0), (.bool a1)] []
theorem qKx (a0 : Int) (a1 : Bool) : qFv a0 a1 = (
if a1 = true then
some (IntKind.wrap .i64 ((IntKind.wrap .i64 ((2 : Int) * a0)) + (1 : Int)))
else
some (IntKind.wrap .i64 ((2 : Int) * a0))) := (FnI.call_eq (by kernel_rfl)).trans (by kernel_rfl)
noncomputable def qeA (acc : List AV → Bool) : Summ Tryz.prog GT := nibble_step_I.summ mixed acc false false
noncomputable def nibble_Step_I : FnI Tryz.prog GT := { f := 187, cuts := [], tab := [qdf (fun _ => true), qeA (fun _ => true), qgt (fun _ => true)], fm := ⟨true, [.val qBa [], .val .bool [], .val (.int .u8) [], .val (.int .i64) []]⟩ }
noncomputable def qCp (a0 : qka) (a1 : Bool) : Option (qka × Bool × Int × Int) := nibble_Step_I.call [(.agg qBa (inj false qBa a0)), (.bool a1)] []
theorem qMx (a0 : qka) (a1 : Bool) : qCp a0 a1 = (
(qqe a0).bind fun r1 =>
if (r1 != (0 : Int)) = true then
some (((0 : Int), ()), (false, ((0 : Int), r1)))
else
(qFv a0.1 a1).bind fun r2 =>
if (decide (r2 > (255 : Int))) = true then
(qds).bind fun r3 =>
some (r3, (true, ((IntKind.wrap .u8 r2), (0 : Int))))
else
some ((r2, ()), (false, ((0 : Int), (0 : Int))))) := (FnI.call_eq (by kernel_rfl)).trans (by kernel_rfl)
noncomputable def qhA (acc : List AV → Bool) : Summ Tryz.prog GT := nibble_Step_I.summ mixed acc false false
noncomputable def ring_Put_I : FnI Tryz.prog GT := { f := 223, cuts := [⟨(9, 3), [1, 4, 7], false, false, []⟩], tab := [qIc (fun _ => true), qmi (fun _ => true)], fm := ⟨true, [.val qva [], .val (.int .i64) []]⟩ }
noncomputable def qNn (a0 : qla) (a1 : List Int) : Option (qla × Int) := ring_Put_I.call [(.agg qva (inj false qva a0)), (.sl (.int .u8) false a1)] []
noncomputable def qvp (v1 : List Int) (b8a : Int) (b8bb : qka) (b9a : Int) (b9bb : qka) (h10 : List Int) (h11 : List Int) : Option (qla × Int) := ring_Put_I.sem ⟨[.code (cIn (cIn (qGa (qaa (qaa (qaa (qaa (qda Tryz.prog 223)))))))), .inLoop (cIn (cIn (qGa (qaa (qaa (qaa (qaa (qda Tryz.prog 223)))))))), .inBlock 1, .code (qaa (qaa (qaa (qaa (qaa (qda Tryz.prog 223))))))], ⟨[(1, (.one (.sl (.int .u8) false v1))), (4, (.one (.ptr qva 8 []))), (7, (.one (.ptr qva 9 [])))], [(8, some (.box qva (b8a, ((SV.ref 10 0 (List.length h10) true), (inj false qBa b8bb))))), (9, some (.box qva (b9a, ((SV.ref 11 0 (List.length h11) true), (inj false qBa b9bb))))), (10, some (.row (.int .u8) true h10)), (11, some (.row (.int .u8) true h11))], 12⟩⟩
theorem qjE (a0 : qla) (a1 : List Int) : qNn a0 a1 = (
(qgd a0).bind fun r1 =>
if (r1 != (0 : Int)) = true then
some (((0 : Int), ([], ((0 : Int), ()))), r1)
else
if (decide ((Int.ofNat (List.length a1)) > (20000 : Int))) = true then
some (((0 : Int), ([], ((0 : Int), ()))), (4 : Int))
else
if (decide ((Int.ofNat (List.length a1)) > (IntKind.wrap .i64 ((1073741824 : Int) - a0.2.2.1)))) = true then
some (((0 : Int), ([], ((0 : Int), ()))), (16 : Int))
else
(quf a0.2.1).bind fun r2 =>
qvp a1 (0 : Int) ((0 : Int), ()) a0.1 (a0.2.2.1, ()) [] r2) := (FnI.call_eq (by kernel_rfl)).trans (by kernel_rfl)
theorem qGo (v1 : List Int) (b8a : Int) (b8bb : qka) (b9a : Int) (b9bb : qka) (h10 : List Int) (h11 : List Int) : qvp v1 b8a b8bb b9a b9bb h10 h11 = (
if (decide ((Int.ofNat (List.length v1)) > (0 : Int))) = true then
gd ((Int.ofNat (List.length h11)) ≠ 0) <|
gd (0 ≤ (Int.tmod b9bb.1 (Int.ofNat (List.length h11)))) <|
gd ((Int.tmod b9bb.1 (Int.ofNat (List.length h11))) ≤ (Int.ofNat (List.length h11))) <|
gd (0 ≤ (Int.ofNat (min (List.length v1) ((List.length h11) - (Int.toNat (Int.tmod b9bb.1 (Int.ofNat (List.length h11)))))))) <|
gd ((Int.ofNat (min (List.length v1) ((List.length h11) - (Int.toNat (Int.tmod b9bb.1 (Int.ofNat (List.length h11))))))) ≤ (Int.ofNat (List.length v1))) <|
qvp (List.drop (min (List.length v1) ((List.length h11) - (Int.toNat (Int.tmod b9bb.1 (Int.ofNat (List.length h11)))))) v1) b8a b8bb b9a ((IntKind.wrap .i64 (b9bb.1 + (Int.ofNat (min (List.length v1) ((List.length h11) - (Int.toNat (Int.tmod b9bb.1 (Int.ofNat (List.length h11))))))))), b9bb.2) h10 (qNb h11 (0 + (Int.toNat (Int.tmod b9bb.1 (Int.ofNat (List.length h11))))) (List.take (min (List.length v1) ((List.length h11) - (Int.toNat (Int.tmod b9bb.1 (Int.ofNat (List.length h11)))))) v1))
else
some ((b9a, (h11, b9bb)), (0 : Int))) := (FnI.sem_eq _).trans (by kernel_rfl)
noncomputable def qQG (acc : List AV → Bool) : Summ Tryz.prog GT := ring_Put_I.summ mixed acc false false
noncomputable def match_recent_I : FnI Tryz.prog GT := { f := 224, cuts := [⟨(3, 3), [1, 3, 4], false, false, []⟩], tab := [qev (fun _ => true), qNp (fun _ => true)], fm := ⟨true, [.val (.int .u32) []]⟩ }
noncomputable def qBf (a0 : qla) : Option (Int) := match_recent_I.call [(.agg qva (inj false qva a0))] []
noncomputable def qhg (v4 : Int) (b8 : qla) (h9 : List Int) : Option (Int) := match_recent_I.sem ⟨[.code (cIn (cIn (qaa (qGa (qaa (qaa (qda Tryz.prog 224))))))), .inLoop (cIn (cIn (qaa (qGa (qaa (qaa (qda Tryz.prog 224))))))), .inBlock 0, .code (qaa (qaa (qaa (qda Tryz.prog 224))))], ⟨[(1, (.one (.ptr qva 8 []))), (3, (.one (.ref (.int .u8) 9 0 (List.length h9) true))), (4, (.one (.int .i64 v4)))], [(8, some (.box qva (inj false qva b8))), (9, some (.row (.int .u8) true h9))], 10⟩⟩
theorem qVv (a0 : qla) : qBf a0 = (
qhg (4 : Int) a0 []) := (FnI.call_eq (by kernel_rfl)).trans (by kernel_rfl)
theorem qtj (v4 : Int) (b8 : qla) (h9 : List Int) : qhg v4 b8 h9 = (
if (decide (v4 > (0 : Int))) = true then
(qBq b8 v4).bind fun r1 =>
gd ((List.length (h9 ++ [r1.1])) * 1 ≤ 140737488355328) <|
qhg (IntKind.wrap .i64 (v4 - (1 : Int))) b8 (h9 ++ [r1.1])
else
(qPk (6 : Int) h9).bind fun r2 =>
some (r2.1)) := (FnI.sem_eq _).trans (by kernel_rfl)
noncomputable def qXx (acc : List AV → Bool) : Summ Tryz.prog GT := match_recent_I.summ mixed acc false false
noncomputable def finder_place_I : FnI Tryz.prog GT := { f := 240, cuts := [], tab := [qkk (fun _ => true), qik (fun _ => true)], fm := ⟨true, [.val (.int .i64) [], .val (.int .i64) []]⟩ }
noncomputable def qCj (a0 : qAa) (a1 : Int) : Option (Int × Int) := finder_place_I.call [(.agg qSa (inj false qSa a0)), (.int .u32 a1)] []
theorem qyw (a0 : qAa) (a1 : Int) : qCj a0 a1 = (
(qvh a0).bind fun r1 =>
if (r1 != (0 : Int)) = true then
some ((0 : Int), r1)
else
(qth a1 (Int.ofNat (List.length a0.2.1))).bind fun r2 =>
some (r2)) := (FnI.call_eq (by kernel_rfl)).trans (by kernel_rfl)
noncomputable def qbp (acc : List AV → Bool) : Summ Tryz.prog GT := finder_place_I.summ mixed acc false false
noncomputable def finder_Find_I : FnI Tryz.prog GT := { f := 225, cuts := [], tab := [qbp (fun _ => true)], fm := ⟨true, [.val (.int .i64) [], .val (.int .i64) []]⟩ }
noncomputable def qPg (a0 : qAa) (a1 : Int) : Option (Int × Int) := finder_Find_I.call [(.agg qSa (inj false qSa a0)), (.int .u32 a1)] []
theorem qoy (a0 : qAa) (a1 : Int) : qPg a0 a1 = (
(qCj a0 a1).bind fun r1 =>
if (r1.2 != (0 : Int)) = true then
some ((0 : Int), r1.2)
else
gd (0 ≤ r1.1) <|
gd (r1.1 < (Int.ofNat (List.length a0.2.1))) <|
some ((List.getD a0.2.1 (Int.toNat r1.1) (0 : Int)), (0 : Int))) := (FnI.call_eq (by kernel_rfl)).trans (by kernel_rfl)
noncomputable def qGA (acc : List AV → Bool) : Summ Tryz.prog GT := finder_Find_I.summ mixed acc false false
noncomputable def finder_Length_I : FnI Tryz.prog GT := { f := 226, cuts := [⟨(9, 4), [1, 2, 3, 9, 10, 11], false, false, []⟩, ⟨(11, 7), [1, 2, 3, 9, 10, 11, 46], false, false, []⟩], tab := [qIc (fun _ => true)], fm := ⟨true, [.val (.int .i64) [], .val (.int .i64) []]⟩ }
noncomputable def qKe (a0 : qla) (a1 : Int) (a2 : Int) : Option (Int × Int) := finder_Length_I.call [(.agg qva (inj false qva a0)), (.int .i64 a1), (.int .i64 a2)] []
noncomputable def qDc (v1 : Int) (v2 : Int) (v9 : Int) (v10 : Int) (v11 : Int) (b8 : qla) : Option (Int × Int) := finder_Length_I.sem ⟨[.code (cIn (cIn (qGa (qaa (qaa (qaa (qaa (qaa (qaa (cIn (qaa (qda Tryz.prog 226)))))))))))), .inLoop (cIn (cIn (qGa (qaa (qaa (qaa (qaa (qaa (qaa (cIn (qaa (qda Tryz.prog 226)))))))))))), .inBlock 0, .code (qaa (qaa (qaa (qaa (qaa (qaa (qaa (cIn (qaa (qda Tryz.prog 226)))))))))), .inScope (cIn (qaa (qda Tryz.prog 226)))], ⟨[(1, (.one (.int .i64 v1))), (2, (.one (.int .i64 v2))), (3, (.one (.ptr qva 8 []))), (9, (.one (.int .i64 v9))), (10, (.one (.int .i64 v10))), (11, (.one (.int .i64 v11)))], [(8, some (.box qva (inj false qva b8)))], 9⟩⟩
noncomputable def qlf (v1 : Int) (v2 : Int) (v9 : Int) (v10 : Int) (v11 : Int) (v46 : Int) (b8 : qla) : Option (Int × Int) := finder_Length_I.sem ⟨[.code (cIn (cIn (qaa (cIn (qaa (cIn (cIn (qGa (qaa (qaa (qaa (qaa (qaa (qaa (cIn (qaa (qda Tryz.prog 226))))))))))))))))), .inLoop (cIn (cIn (qaa (cIn (qaa (cIn (cIn (qGa (qaa (qaa (qaa (qaa (qaa (qaa (cIn (qaa (qda Tryz.prog 226))))))))))))))))), .inBlock 2, .inBlock 1, .inLoop (cIn (cIn (qGa (qaa (qaa (qaa (qaa (qaa (qaa (cIn (qaa (qda Tryz.prog 226)))))))))))), .inBlock 0, .code (qaa (qaa (qaa (qaa (qaa (qaa (qaa (cIn (qaa (qda Tryz.prog 226)))))))))), .inScope (cIn (qaa (qda Tryz.prog 226)))], ⟨[(1, (.one (.int .i64 v1))), (2, (.one (.int .i64 v2))), (3, (.one (.ptr qva 8 []))), (9, (.one (.int .i64 v9))), (10, (.one (.int .i64 v10))), (11, (.one (.int .i64 v11))), (46, (.one (.int .i64 v46)))], [(8, some (.box qva (inj false qva b8)))], 9⟩⟩
theorem qTt (a0 : qla) (a1 : Int) (a2 : Int) : qKe a0 a1 a2 = (
(qgd a0).bind fun r1 =>
if (r1 != (0 : Int)) = true then
some ((0 : Int), r1)
else
if (decide (a1 < (0 : Int))) = true then
some ((0 : Int), (2 : Int))
else
if (decide (a1 > a0.2.2.1)) = true then
some ((0 : Int), (2 : Int))
else
if (decide (a2 < (0 : Int))) = true then
some ((0 : Int), (2 : Int))
else
qDc a1 a2 (Int.ofNat (List.length a0.2.1)) (if (IntKind.wrap .i64 (a1 - (IntKind.wrap .i64 (a0.2.2.1 - (Int.ofNat (List.length a0.2.1)))))) < a1 then (IntKind.wrap .i64 (a1 - (IntKind.wrap .i64 (a0.2.2.1 - (Int.ofNat (List.length a0.2.1)))))) else a1) (0 : Int) a0) := (FnI.call_eq (by kernel_rfl)).trans (by kernel_rfl)
theorem qIi (v1 : Int) (v2 : Int) (v9 : Int) (v10 : Int) (v11 : Int) (b8 : qla) : qDc v1 v2 v9 v10 v11 b8 = (
if (decide (v11 < (if v2 < v10 then v2 else v10))) = true then
qlf v1 v2 v9 v10 v11 (0 : Int) b8
else
some (v11, (0 : Int))) := (FnI.sem_eq _).trans (by kernel_rfl)
theorem qHi (v1 : Int) (v2 : Int) (v9 : Int) (v10 : Int) (v11 : Int) (v46 : Int) (b8 : qla) : qlf v1 v2 v9 v10 v11 v46 b8 = (
if (decide (v46 < (4 : Int))) = true then
if (decide ((IntKind.wrap .i64 (v11 + (1 : Int))) > (if v2 < v10 then v2 else v10))) = true then
some (v11, (0 : Int))
else
gd (0 ≤ (qDa .i64 (IntKind.wrap .i64 (v1 - (IntKind.wrap .i64 (v11 + (1 : Int))))) (IntKind.wrap .i64 (v9 - (1 : Int))))) <|
gd ((qDa .i64 (IntKind.wrap .i64 (v1 - (IntKind.wrap .i64 (v11 + (1 : Int))))) (IntKind.wrap .i64 (v9 - (1 : Int)))) < (Int.ofNat (List.length b8.2.1))) <|
gd (0 ≤ (qDa .i64 (IntKind.wrap .i64 (b8.2.2.1 - (IntKind.wrap .i64 (v11 + (1 : Int))))) (IntKind.wrap .i64 (v9 - (1 : Int))))) <|
gd ((qDa .i64 (IntKind.wrap .i64 (b8.2.2.1 - (IntKind.wrap .i64 (v11 + (1 : Int))))) (IntKind.wrap .i64 (v9 - (1 : Int)))) < (Int.ofNat (List.length b8.2.1))) <|
if ((List.getD b8.2.1 (Int.toNat (qDa .i64 (IntKind.wrap .i64 (v1 - (IntKind.wrap .i64 (v11 + (1 : Int))))) (IntKind.wrap .i64 (v9 - (1 : Int))))) (0 : Int)) != (List.getD b8.2.1 (Int.toNat (qDa .i64 (IntKind.wrap .i64 (b8.2.2.1 - (IntKind.wrap .i64 (v11 + (1 : Int))))) (IntKind.wrap .i64 (v9 - (1 : Int))))) (0 : Int))) = true then
some (v11, (0 : Int))
else
qlf v1 v2 v9 v10 (IntKind.wrap .i64 (v11 + (1 : Int))) (IntKind.wrap .i64 (v46 + (1 : Int))) b8
else
qDc v1 v2 v9 v10 v11 b8) := (FnI.sem_eq _).trans (by kernel_rfl)
noncomputable def qzw (acc : List AV → Bool) : Summ Tryz.prog GT := finder_Length_I.summ mixed acc false false
noncomputable def finder_Put_I : FnI Tryz.prog GT := { f := 227, cuts := [], tab := [qbp (fun _ => true), qIg (fun _ => true)], fm := ⟨true, [.val qSa [], .val (.int .i64) []]⟩ }
noncomputable def qXa (a0 : qAa) (a1 : Int) (a2 : Int) : Option (qAa × Int) := finder_Put_I.call [(.agg qSa (inj false qSa a0)), (.int .u32 a1), (.int .i64 a2)] []
theorem qEA (a0 : qAa) (a1 : Int) (a2 : Int) : qXa a0 a1 a2 = (
(qCj a0 a1).bind fun r1 =>
if (r1.2 != (0 : Int)) = true then
some (((0 : Int), ([], ())), r1.2)
else
if (decide (a2 < (0 : Int))) = true then
some (((0 : Int), ([], ())), (2 : Int))
else
if (decide (a2 > (1073741824 : Int))) = true then
some (((0 : Int), ([], ())), (2 : Int))
else
(qYc a0.2.1).bind fun r2 =>
gd (0 ≤ r1.1) <|
gd (r1.1 < (Int.ofNat (List.length r2))) <|
some ((a0.1, ((List.set r2 (0 + (Int.toNat r1.1)) a2), ())), (0 : Int))) := (FnI.call_eq (by kernel_rfl)).trans (by kernel_rfl)
noncomputable def qIC (acc : List AV → Bool) : Summ Tryz.prog GT := finder_Put_I.summ mixed acc false false
noncomputable def match_Byte_I : FnI Tryz.prog GT := { f := 188, cuts := [], tab := [qpl (fun _ => true), qIc (fun _ => true), qkk (fun _ => true), qIp (fun _ => true), qRo (fun _ => true), qQG (fun _ => true), qXx (fun _ => true), qGA (fun _ => true), qzw (fun _ => true), qIC (fun _ => true)], fm := ⟨true, [.val qua [], .val qva [], .val qSa [], .val (.int .i64) []]⟩ }
noncomputable def qis (a0 : qma) (a1 : qla) (a2 : qAa) (a3 : Int) : Option (qma × qla × qAa × Int) := match_Byte_I.call [(.agg qua (inj false qua a0)), (.agg qva (inj false qva a1)), (.agg qSa (inj false qSa a2)), (.int .u8 a3)] []
theorem qrA (a0 : qma) (a1 : qla) (a2 : qAa) (a3 : Int) : qis a0 a1 a2 a3 = (
(qDi a0).bind fun r1 =>
if (r1 != (0 : Int)) = true then
some (((0 : Int), ((0 : Int), ())), (((0 : Int), ([], ((0 : Int), ()))), (((0 : Int), ([], ())), (8 : Int))))
else
(qgd a1).bind fun r2 =>
if (r2 != (0 : Int)) = true then
some (((0 : Int), ((0 : Int), ())), (((0 : Int), ([], ((0 : Int), ()))), (((0 : Int), ([], ())), (8 : Int))))
else
(qvh a2).bind fun r3 =>
if (r3 != (0 : Int)) = true then
some (((0 : Int), ((0 : Int), ())), (((0 : Int), ([], ((0 : Int), ()))), (((0 : Int), ([], ())), (8 : Int))))
else
(qbr).bind fun r4 =>
(quj a0 a1).bind fun r5 =>
if r5.2 = true then
if (r5.1 == a3) = true then
if (decide (a0.1 < (1073741824 : Int))) = true then
(qNn a1 [a3]).bind fun r6 =>
if (r6.2 != (0 : Int)) = true then
some (((0 : Int), ((0 : Int), ())), (((0 : Int), ([], ((0 : Int), ()))), (((0 : Int), ([], ())), r6.2)))
else
(qBf r6.1).bind fun r7 =>
(qPg a2 r7).bind fun r8 =>
if (decide ((IntKind.wrap .i64 (a0.1 + (1 : Int))) < (0 : Int))) = true then
if (decide (r8.1 ≥ (0 : Int))) = true then
if (decide (r8.1 ≤ r6.1.2.2.1)) = true then
(qKe r6.1 r8.1 (40 : Int)).bind fun r9 =>
if (decide (r9.1 ≥ (3 : Int))) = true then
(qXa a2 r7 r6.1.2.2.1).bind fun r10 =>
some ((r8.1, (r9.1, ())), (r6.1, (r10.1, (0 : Int))))
else
(qXa a2 r7 r6.1.2.2.1).bind fun r11 =>
some (((IntKind.wrap .i64 (a0.1 + (1 : Int))), ((if (40 : Int) < (IntKind.wrap .i64 (a0.2.1 + (1 : Int))) then (40 : Int) else (IntKind.wrap .i64 (a0.2.1 + (1 : Int)))), ())), (r6.1, (r11.1, (0 : Int))))
else
(qXa a2 r7 r6.1.2.2.1).bind fun r12 =>
some (((IntKind.wrap .i64 (a0.1 + (1 : Int))), ((if (40 : Int) < (IntKind.wrap .i64 (a0.2.1 + (1 : Int))) then (40 : Int) else (IntKind.wrap .i64 (a0.2.1 + (1 : Int)))), ())), (r6.1, (r12.1, (0 : Int))))
else
(qXa a2 r7 r6.1.2.2.1).bind fun r13 =>
some (((IntKind.wrap .i64 (a0.1 + (1 : Int))), ((if (40 : Int) < (IntKind.wrap .i64 (a0.2.1 + (1 : Int))) then (40 : Int) else (IntKind.wrap .i64 (a0.2.1 + (1 : Int)))), ())), (r6.1, (r13.1, (0 : Int))))
else
(qXa a2 r7 r6.1.2.2.1).bind fun r14 =>
some (((IntKind.wrap .i64 (a0.1 + (1 : Int))), ((if (40 : Int) < (IntKind.wrap .i64 (a0.2.1 + (1 : Int))) then (40 : Int) else (IntKind.wrap .i64 (a0.2.1 + (1 : Int)))), ())), (r6.1, (r14.1, (0 : Int))))
else
(qNn a1 [a3]).bind fun r15 =>
if (r15.2 != (0 : Int)) = true then
some (((0 : Int), ((0 : Int), ())), (((0 : Int), ([], ((0 : Int), ()))), (((0 : Int), ([], ())), r15.2)))
else
(qBf r15.1).bind fun r16 =>
(qPg a2 r16).bind fun r17 =>
if (decide (r4.1 < (0 : Int))) = true then
if (decide (r17.1 ≥ (0 : Int))) = true then
if (decide (r17.1 ≤ r15.1.2.2.1)) = true then
(qKe r15.1 r17.1 (40 : Int)).bind fun r18 =>
if (decide (r18.1 ≥ (3 : Int))) = true then
(qXa a2 r16 r15.1.2.2.1).bind fun r19 =>
some ((r17.1, (r18.1, ())), (r15.1, (r19.1, (0 : Int))))
else
(qXa a2 r16 r15.1.2.2.1).bind fun r20 =>
some (r4, (r15.1, (r20.1, (0 : Int))))
else
(qXa a2 r16 r15.1.2.2.1).bind fun r21 =>
some (r4, (r15.1, (r21.1, (0 : Int))))
else
(qXa a2 r16 r15.1.2.2.1).bind fun r22 =>
some (r4, (r15.1, (r22.1, (0 : Int))))
else
(qXa a2 r16 r15.1.2.2.1).bind fun r23 =>
some (r4, (r15.1, (r23.1, (0 : Int))))
else
(qNn a1 [a3]).bind fun r24 =>
if (r24.2 != (0 : Int)) = true then
some (((0 : Int), ((0 : Int), ())), (((0 : Int), ([], ((0 : Int), ()))), (((0 : Int), ([], ())), r24.2)))
else
(qBf r24.1).bind fun r25 =>
(qPg a2 r25).bind fun r26 =>
if (decide (r4.1 < (0 : Int))) = true then
if (decide (r26.1 ≥ (0 : Int))) = true then
if (decide (r26.1 ≤ r24.1.2.2.1)) = true then
(qKe r24.1 r26.1 (40 : Int)).bind fun r27 =>
if (decide (r27.1 ≥ (3 : Int))) = true then
(qXa a2 r25 r24.1.2.2.1).bind fun r28 =>
some ((r26.1, (r27.1, ())), (r24.1, (r28.1, (0 : Int))))
else
(qXa a2 r25 r24.1.2.2.1).bind fun r29 =>
some (r4, (r24.1, (r29.1, (0 : Int))))
else
(qXa a2 r25 r24.1.2.2.1).bind fun r30 =>
some (r4, (r24.1, (r30.1, (0 : Int))))
else
(qXa a2 r25 r24.1.2.2.1).bind fun r31 =>
some (r4, (r24.1, (r31.1, (0 : Int))))
else
(qXa a2 r25 r24.1.2.2.1).bind fun r32 =>
some (r4, (r24.1, (r32.1, (0 : Int))))
else
(qNn a1 [a3]).bind fun r33 =>
if (r33.2 != (0 : Int)) = true then
some (((0 : Int), ((0 : Int), ())), (((0 : Int), ([], ((0 : Int), ()))), (((0 : Int), ([], ())), r33.2)))
else
(qBf r33.1).bind fun r34 =>
(qPg a2 r34).bind fun r35 =>
if (decide (r4.1 < (0 : Int))) = true then
if (decide (r35.1 ≥ (0 : Int))) = true then
if (decide (r35.1 ≤ r33.1.2.2.1)) = true then
(qKe r33.1 r35.1 (40 : Int)).bind fun r36 =>
if (decide (r36.1 ≥ (3 : Int))) = true then
(qXa a2 r34 r33.1.2.2.1).bind fun r37 =>
some ((r35.1, (r36.1, ())), (r33.1, (r37.1, (0 : Int))))
else
(qXa a2 r34 r33.1.2.2.1).bind fun r38 =>
some (r4, (r33.1, (r38.1, (0 : Int))))
else
(qXa a2 r34 r33.1.2.2.1).bind fun r39 =>
some (r4, (r33.1, (r39.1, (0 : Int))))
else
(qXa a2 r34 r33.1.2.2.1).bind fun r40 =>
some (r4, (r33.1, (r40.1, (0 : Int))))
else
(qXa a2 r34 r33.1.2.2.1).bind fun r41 =>
some (r4, (r33.1, (r41.1, (0 : Int))))) := (FnI.call_eq (by kernel_rfl)).trans (by kernel_rfl)
noncomputable def qqC (acc : List AV → Bool) : Summ Tryz.prog GT := match_Byte_I.summ mixed acc false false
noncomputable def hashes_Step_I : FnI Tryz.prog GT := { f := 228, cuts := [], tab := [qZo (fun _ => true)], fm := ⟨true, [.val (.int .u32) []]⟩ }
noncomputable def qMp (a0 : Int) (a1 : Int) : Option (Int) := hashes_Step_I.call [(.int .u32 a0), (.int .u8 a1)] []
theorem qiy (a0 : Int) (a1 : Int) : qMp a0 a1 = (
(qBj a0 [a1]).bind fun r1 =>
some (r1)) := (FnI.call_eq (by kernel_rfl)).trans (by kernel_rfl)
noncomputable def qBA (acc : List AV → Bool) : Summ Tryz.prog GT := hashes_Step_I.summ mixed acc false false
noncomputable def context_Deep_I : FnI Tryz.prog GT := { f := 189, cuts := [], tab := [qBA (fun _ => true)], fm := ⟨true, [.val (.int .u32) [], .val (.int .i64) []]⟩ }
noncomputable def qcn (a0 : Int) (a1 : Int) : Option (Int × Int) := context_Deep_I.call [(.int .u32 a0), (.int .i64 a1)] []
theorem qXw (a0 : Int) (a1 : Int) : qcn a0 a1 = (
if (decide (a1 < (16 : Int))) = true then
some ((0 : Int), (2 : Int))
else
if (decide (a1 > (31 : Int))) = true then
some ((0 : Int), (2 : Int))
else
(qMp a0 (IntKind.wrap .u8 a1)).bind fun r1 =>
some (r1, (0 : Int))) := (FnI.call_eq (by kernel_rfl)).trans (by kernel_rfl)
noncomputable def qIy (acc : List AV → Bool) : Summ Tryz.prog GT := context_Deep_I.summ mixed acc false false
noncomputable def predict_update_I : FnI Tryz.prog GT := { f := 139, cuts := [⟨(7, 3), [2, 3, 4, 6, 8, 9, 31], false, false, []⟩, ⟨(28, 3), [3, 6, 11, 16, 152, 153], false, false, []⟩], tab := [(qxc (fun _ => true)).dropping, (qyc (fun _ => true)).dropping, qUy (fun _ => true), qbE (fun _ => true), qoA (fun _ => true), qLA (fun _ => true), qhA (fun _ => true), qqC (fun _ => true), qbn (fun _ => true), (qDk (fun _ => true)).dropping, qIy (fun _ => true)], fm := ⟨false, [.val qea [], .val (.int .i64) []]⟩ }
noncomputable def qZg (a0 : qca) (a1 : qMb) (a2 : Bool) : Option (qca × Int) := predict_update_I.call [(.agg qea (inj false qea a0)), (.agg qxb (inj false qxb a1)), (.bool a2)] []
noncomputable def qlc (v2 : Bool) (v8 : Int) (v9 : Int) (v31 : Int) (b8a : Int) (b8ba : qla) (b8bbbb : (qqa × (qIa × (qAa × (qma × (qka × ((List Int) × ((List Int) × Unit)))))))) (b9 : qMb) (b10a : Int) (b10baa : Int) (b10babb : qka) (b10bbbbab : Unit) (b10bbbbbaab : Unit) (b10bbbbbabab : Unit) (b10bbbbbabb : Unit) (b10bbbbbbaa : Int) (b10bbbbbbabb : Unit) (b10bbbbbbb : (qma × (qka × ((List Int) × ((List Int) × Unit))))) (h11 : List qja) (h12 : List qia) (h13 : List Int) (h14 : List qja) (h15 : List qia) (h16 : List (List Int)) (h17 : List (List Int)) (h18 : List (List Int)) (h19 : List Int) : Option (qca × Int) := predict_update_I.sem ⟨[.code (cIn (cIn (qaa (qGa (qaa (qaa (qaa (qaa (qaa (qda Tryz.prog 139)))))))))), .inLoop (cIn (cIn (qaa (qGa (qaa (qaa (qaa (qaa (qaa (qda Tryz.prog 139)))))))))), .inBlock 0, .code (qaa (qaa (qaa (qaa (qaa (qaa (qda Tryz.prog 139)))))))], ⟨[(2, (.one (.bool v2))), (3, (.one (.ptr qea 8 []))), (4, (.one (.ptr qxb 9 []))), (6, (.one (.ptr qea 10 []))), (8, (.one (.int .u8 v8))), (9, (.one (.int .i64 v9))), (31, (.one (.int .i64 v31)))], [(8, some (.box qea (b8a, ((inj false qva b8ba), ((SV.ref 11 0 (List.length h11) true), ((SV.ref 12 0 (List.length h12) true), (inj false (.pair qsa (.pair qpb (.pair qSa (.pair qua (.pair qBa (.pair (.arr 6 (.int .u32)) (.pair (.arr 6 (.int .i64)) .unit))))))) b8bbbb))))))), (9, some (.box qxb (inj false qxb b9))), (10, some (.box qea (b10a, ((b10baa, ((SV.ref 13 0 (List.length h13) true), (inj false qBa b10babb))), ((SV.ref 14 0 (List.length h14) true), ((SV.ref 15 0 (List.length h15) true), (((SV.ref 16 0 (List.length h16) true), b10bbbbab), ((((SV.ref 17 0 (List.length h17) true), b10bbbbbaab), (((SV.ref 18 0 (List.length h18) true), b10bbbbbabab), b10bbbbbabb)), ((b10bbbbbbaa, ((SV.ref 19 0 (List.length h19) true), b10bbbbbbabb)), (inj false (.pair qua (.pair qBa (.pair (.arr 6 (.int .u32)) (.pair (.arr 6 (.int .i64)) .unit)))) b10bbbbbbb)))))))))), (11, some (.row qwa false h11)), (12, some (.row qna false h12)), (13, some (.row (.int .u8) true h13)), (14, some (.row qwa true h14)), (15, some (.row qna true h15)), (16, some (.row (.slice (.int .i32)) true h16)), (17, some (.row (.slice (.int .i32)) true h17)), (18, some (.row (.slice (.int .i32)) true h18)), (19, some (.row (.int .i64) true h19))], 20⟩⟩
noncomputable def qhd (v152 : (List Int)) (v153 : Int) (b8a : Int) (b8ba : qla) (b8bbbba : qqa) (b8bbbbba : qIa) (b8bbbbbb : (qAa × (qma × (qka × ((List Int) × ((List Int) × Unit)))))) (b9a : Int) (b9baa : Int) (b9babb : qka) (b9bbbbab : Unit) (b9bbbbbaab : Unit) (b9bbbbbabab : Unit) (b9bbbbbabb : Unit) (b9bbbbbbaa : Int) (b9bbbbbbabb : Unit) (b9bbbbbbb : (qma × (qka × ((List Int) × ((List Int) × Unit))))) (b10 : qka) (b11 : (List Int)) (h12 : List qja) (h13 : List qia) (h14 : List Int) (h15 : List qja) (h16 : List qia) (h17 : List (List Int)) (h18 : List (List Int)) (h19 : List (List Int)) (h20 : List Int) : Option (qca × Int) := predict_update_I.sem ⟨[.code (cIn (cIn (qaa (qGa (qaa (qaa (qaa (qaa (qaa (qaa (qaa (qaa (qaa (qaa (qaa (qaa (qaa (qda Tryz.prog 139)))))))))))))))))), .inLoop (cIn (cIn (qaa (qGa (qaa (qaa (qaa (qaa (qaa (qaa (qaa (qaa (qaa (qaa (qaa (qaa (qaa (qda Tryz.prog 139)))))))))))))))))), .inBlock 2, .code (qaa (qaa (qaa (qaa (qaa (qaa (qaa (qaa (qaa (qaa (qaa (qaa (qaa (qaa (qda Tryz.prog 139)))))))))))))))], ⟨[(3, (.one (.ptr qea 8 []))), (6, (.one (.ptr qea 9 []))), (11, (.one (.ptr qBa 10 []))), (16, (.one (.ptr (.arr 6 (.int .u32)) 11 []))), (152, (.one (.agg (.arr 6 (.int .u32)) v152))), (153, (.one (.int .i64 v153)))], [(8, some (.box qea (b8a, ((inj false qva b8ba), ((SV.ref 12 0 (List.length h12) true), ((SV.ref 13 0 (List.length h13) true), ((inj true qsa b8bbbba), ((inj true qpb b8bbbbba), (inj false (.pair qSa (.pair qua (.pair qBa (.pair (.arr 6 (.int .u32)) (.pair (.arr 6 (.int .i64)) .unit))))) b8bbbbbb))))))))), (9, some (.box qea (b9a, ((b9baa, ((SV.ref 14 0 (List.length h14) true), (inj false qBa b9babb))), ((SV.ref 15 0 (List.length h15) true), ((SV.ref 16 0 (List.length h16) true), (((SV.ref 17 0 (List.length h17) true), b9bbbbab), ((((SV.ref 18 0 (List.length h18) true), b9bbbbbaab), (((SV.ref 19 0 (List.length h19) true), b9bbbbbabab), b9bbbbbabb)), ((b9bbbbbbaa, ((SV.ref 20 0 (List.length h20) true), b9bbbbbbabb)), (inj false (.pair qua (.pair qBa (.pair (.arr 6 (.int .u32)) (.pair (.arr 6 (.int .i64)) .unit)))) b9bbbbbbb)))))))))), (10, some (.box qBa (inj false qBa b10))), (11, some (.box (.arr 6 (.int .u32)) b11)), (12, some (.row qwa false h12)), (13, some (.row qna false h13)), (14, some (.row (.int .u8) true h14)), (15, some (.row qwa true h15)), (16, some (.row qna true h16)), (17, some (.row (.slice (.int .i32)) true h17)), (18, some (.row (.slice (.int .i32)) true h18)), (19, some (.row (.slice (.int .i32)) true h19)), (20, some (.row (.int .i64) true h20))], 21⟩⟩
theorem qWr (a0 : qca) (a1 : qMb) (a2 : Bool) : qZg a0 a1 a2 = (
if a2 = true then
(qUa a0.2.2.1).bind fun r1 =>
(qVa a0.2.2.2.1).bind fun r2 =>
qlc a2 (1 : Int) a0.2.2.2.2.2.2.2.2.1.1 (0 : Int) a0.1 a0.2.1 a0.2.2.2.2 a1 (0 : Int) (0 : Int) ((0 : Int), ()) () () () () (0 : Int) () (((0 : Int), ((0 : Int), ())), (((0 : Int), ()), ((List.replicate 6 (0 : Int)), ((List.replicate 6 (0 : Int)), ())))) r1 r2 [] [] [] [] [] [] []
else
(qUa a0.2.2.1).bind fun r3 =>
(qVa a0.2.2.2.1).bind fun r4 =>
qlc a2 (0 : Int) a0.2.2.2.2.2.2.2.2.1.1 (0 : Int) a0.1 a0.2.1 a0.2.2.2.2 a1 (0 : Int) (0 : Int) ((0 : Int), ()) () () () () (0 : Int) () (((0 : Int), ((0 : Int), ())), (((0 : Int), ()), ((List.replicate 6 (0 : Int)), ((List.replicate 6 (0 : Int)), ())))) r3 r4 [] [] [] [] [] [] []) := (FnI.call_eq (by kernel_rfl)).trans (by kernel_rfl)
theorem qSh (v2 : Bool) (v8 : Int) (v9 : Int) (v31 : Int) (b8a : Int) (b8ba : qla) (b8bbbb : (qqa × (qIa × (qAa × (qma × (qka × ((List Int) × ((List Int) × Unit)))))))) (b9 : qMb) (b10a : Int) (b10baa : Int) (b10babb : qka) (b10bbbbab : Unit) (b10bbbbbaab : Unit) (b10bbbbbabab : Unit) (b10bbbbbabb : Unit) (b10bbbbbbaa : Int) (b10bbbbbbabb : Unit) (b10bbbbbbb : (qma × (qka × ((List Int) × ((List Int) × Unit))))) (h11 : List qja) (h12 : List qia) (h13 : List Int) (h14 : List qja) (h15 : List qia) (h16 : List (List Int)) (h17 : List (List Int)) (h18 : List (List Int)) (h19 : List Int) : qlc v2 v8 v9 v31 b8a b8ba b8bbbb b9 b10a b10baa b10babb b10bbbbab b10bbbbbaab b10bbbbbabab b10bbbbbabb b10bbbbbbaa b10bbbbbbabb b10bbbbbbb h11 h12 h13 h14 h15 h16 h17 h18 h19 = (
if (decide (v31 < (6 : Int))) = true then
gd (0 ≤ v31) <|
gd (v31 < (Int.ofNat (List.length h12))) <|
gd (0 ≤ v31) <|
gd (v31 < (Int.ofNat (List.length b9.2.1))) <|
(qCn (List.getD h12 (0 + (Int.toNat v31)) (qpa qna)) (List.getD b9.2.1 (Int.toNat v31) (0 : Int)) v8).bind fun r5 =>
gd (0 ≤ v31) <|
gd (v31 < (Int.ofNat (List.length h12))) <|
gd (0 ≤ v31) <|
gd (v31 < (Int.ofNat (List.length h11))) <|
gd (0 ≤ v31) <|
gd (v31 < (6 : Int)) <|
(qQu (List.getD h11 (0 + (Int.toNat v31)) (qpa qwa)) (List.getD b8bbbb.2.2.2.2.2.2.1 (Int.toNat v31) (0 : Int)) b9.1 v8).bind fun r6 =>
gd (0 ≤ v31) <|
gd (v31 < (Int.ofNat (List.length h11))) <|
qlc v2 v8 v9 (IntKind.wrap .i64 (v31 + (1 : Int))) b8a b8ba b8bbbb b9 b10a b10baa b10babb b10bbbbab b10bbbbbaab b10bbbbbabab b10bbbbbabb b10bbbbbbaa b10bbbbbbabb b10bbbbbbb (List.set h11 (0 + (Int.toNat v31)) r6.1) (List.set h12 (0 + (Int.toNat v31)) r5.1) h13 h14 h15 h16 h17 h18 h19
else
(qHp b8bbbb.1 v9 b9.2.2.1 b9.2.2.2.1 v2).bind fun r7 =>
(qPp b8bbbb.2.1 b9.2.2.2.2.2.1 v2).bind fun r8 =>
(qCp b8bbbb.2.2.2.2.1 v2).bind fun r9 =>
if r9.2.1 = true then
(qis b8bbbb.2.2.2.1 b8ba b8bbbb.2.2.1 r9.2.2.1).bind fun r10 =>
if (r10.2.2.2 != (0 : Int)) = true then
some (((0 : Int), (((0 : Int), ([], ((0 : Int), ()))), ([], ([], (([], ()), ((([], ()), (([], ()), ())), (((0 : Int), ([], ())), (((0 : Int), ((0 : Int), ())), (((0 : Int), ()), ((List.replicate 6 (0 : Int)), ((List.replicate 6 (0 : Int)), ()))))))))))), r10.2.2.2)
else
(qLe r10.2.1).bind fun r11 =>
(qpe r11.1 b8a r10.2.1 (r7.1, (r8.1, (r10.2.2.1, (r10.1, (r9.1, (r11.1, b8bbbb.2.2.2.2.2.2)))))) h11 h12).bind fun r12 =>
some ((r12.1.1, (r12.1.2.1, (r12.2.1, (r12.2.2, r12.1.2.2.2.2)))), (0 : Int))
else
if (decide (r9.1.1 < (16 : Int))) = true then
some ((b8a, (b8ba, (h11, (h12, (r7.1, (r8.1, (b8bbbb.2.2.1, (b8bbbb.2.2.2.1, (r9.1, b8bbbb.2.2.2.2.2))))))))), (0 : Int))
else
if (decide (r9.1.1 > (31 : Int))) = true then
some ((b8a, (b8ba, (h11, (h12, (r7.1, (r8.1, (b8bbbb.2.2.1, (b8bbbb.2.2.2.1, (r9.1, b8bbbb.2.2.2.2.2))))))))), (0 : Int))
else
qhd b8bbbb.2.2.2.2.2.1 (0 : Int) b8a b8ba r7.1 r8.1 (b8bbbb.2.2.1, (b8bbbb.2.2.2.1, (r9.1, b8bbbb.2.2.2.2.2))) b10a b10baa b10babb b10bbbbab b10bbbbbaab b10bbbbbabab b10bbbbbabb b10bbbbbbaa b10bbbbbbabb b10bbbbbbb r9.1 b8bbbb.2.2.2.2.2.1 h11 h12 h13 h14 h15 h16 h17 h18 h19) := (FnI.sem_eq _).trans (by kernel_rfl)
theorem qRh (v152 : (List Int)) (v153 : Int) (b8a : Int) (b8ba : qla) (b8bbbba : qqa) (b8bbbbba : qIa) (b8bbbbbb : (qAa × (qma × (qka × ((List Int) × ((List Int) × Unit)))))) (b9a : Int) (b9baa : Int) (b9babb : qka) (b9bbbbab : Unit) (b9bbbbbaab : Unit) (b9bbbbbabab : Unit) (b9bbbbbabb : Unit) (b9bbbbbbaa : Int) (b9bbbbbbabb : Unit) (b9bbbbbbb : (qma × (qka × ((List Int) × ((List Int) × Unit))))) (b10 : qka) (b11 : (List Int)) (h12 : List qja) (h13 : List qia) (h14 : List Int) (h15 : List qja) (h16 : List qia) (h17 : List (List Int)) (h18 : List (List Int)) (h19 : List (List Int)) (h20 : List Int) : qhd v152 v153 b8a b8ba b8bbbba b8bbbbba b8bbbbbb b9a b9baa b9babb b9bbbbab b9bbbbbaab b9bbbbbabab b9bbbbbabb b9bbbbbbaa b9bbbbbbabb b9bbbbbbb b10 b11 h12 h13 h14 h15 h16 h17 h18 h19 h20 = (
if (decide (v153 < (6 : Int))) = true then
gd (0 ≤ v153) <|
gd (v153 < (6 : Int)) <|
(qcn (List.getD v152 (Int.toNat v153) (0 : Int)) b10.1).bind fun r13 =>
gd (0 ≤ v153) <|
gd (v153 < (6 : Int)) <|
qhd v152 (IntKind.wrap .i64 (v153 + (1 : Int))) b8a b8ba b8bbbba b8bbbbba b8bbbbbb b9a b9baa b9babb b9bbbbab b9bbbbbaab b9bbbbbabab b9bbbbbabb b9bbbbbbaa b9bbbbbbabb b9bbbbbbb b10 (List.set b11 (Int.toNat v153) r13.1) h12 h13 h14 h15 h16 h17 h18 h19 h20
else
(qpe b11 b8a b8ba (b8bbbba, (b8bbbbba, b8bbbbbb)) h12 h13).bind fun r14 =>
some ((r14.1.1, (r14.1.2.1, (r14.2.1, (r14.2.2, r14.1.2.2.2.2)))), (0 : Int))) := (FnI.sem_eq _).trans (by kernel_rfl)
noncomputable def qGt (acc : List AV → Bool) : Summ Tryz.prog GT := predict_update_I.summ mixed acc false false
noncomputable def predict_Run_I : FnI Tryz.prog GT := { f := 102, cuts := [⟨(9, 3), [2, 4, 8, 26, 27, 28], false, false, []⟩], tab := [qwm (fun _ => true), (qGx (fun _ => true)).dropping, qDq (fun _ => true), (qGt (fun _ => true)).dropping], fm := ⟨false, [.val qea [], .val (.slice (.int .i64)) [.nw], .val (.int .i64) []]⟩ }
noncomputable def qAi (a0 : qca) (a1 : List Bool) : Option (qca × List Int × Int) := predict_Run_I.call [(.agg qea (inj false qea a0)), (.sl .bool false a1)] []
noncomputable def qTc (v26 : List Bool) (v27 : Int) (v28 : Int) (b8 : qca) (b9a : Int) (b9baa : Int) (b9babb : qka) (b9bbbbab : Unit) (b9bbbbbaab : Unit) (b9bbbbbabab : Unit) (b9bbbbbabb : Unit) (b9bbbbbbaa : Int) (b9bbbbbbabb : Unit) (b9bbbbbbb : (qma × (qka × ((List Int) × ((List Int) × Unit))))) (h10 : List Int) (h11 : List Int) (h12 : List qja) (h13 : List qia) (h14 : List (List Int)) (h15 : List (List Int)) (h16 : List (List Int)) (h17 : List Int) : Option (qca × List Int × Int) := predict_Run_I.sem ⟨[.code (cIn (cIn (qaa (qGa (qaa (qaa (qaa (qaa (qaa (qda Tryz.prog 102)))))))))), .inLoop (cIn (cIn (qaa (qGa (qaa (qaa (qaa (qaa (qaa (qda Tryz.prog 102)))))))))), .inBlock 0, .code (qaa (qaa (qaa (qaa (qaa (qaa (qda Tryz.prog 102)))))))], ⟨[(2, (.one (.ptr qea 8 []))), (4, (.one (.ptr qea 9 []))), (8, (.one (.ref (.int .i64) 10 0 (List.length h10) true))), (26, (.one (.sl .bool false v26))), (27, (.one (.int .i64 v27))), (28, (.one (.int .i64 v28)))], [(8, some (.box qea (inj false qea b8))), (9, some (.box qea (b9a, ((b9baa, ((SV.ref 11 0 (List.length h11) true), (inj false qBa b9babb))), ((SV.ref 12 0 (List.length h12) true), ((SV.ref 13 0 (List.length h13) true), (((SV.ref 14 0 (List.length h14) true), b9bbbbab), ((((SV.ref 15 0 (List.length h15) true), b9bbbbbaab), (((SV.ref 16 0 (List.length h16) true), b9bbbbbabab), b9bbbbbabb)), ((b9bbbbbbaa, ((SV.ref 17 0 (List.length h17) true), b9bbbbbbabb)), (inj false (.pair qua (.pair qBa (.pair (.arr 6 (.int .u32)) (.pair (.arr 6 (.int .i64)) .unit)))) b9bbbbbbb)))))))))), (10, some (.row (.int .i64) true h10)), (11, some (.row (.int .u8) true h11)), (12, some (.row qwa true h12)), (13, some (.row qna true h13)), (14, some (.row (.slice (.int .i32)) true h14)), (15, some (.row (.slice (.int .i32)) true h15)), (16, some (.row (.slice (.int .i32)) true h16)), (17, some (.row (.int .i64) true h17))], 18⟩⟩
theorem qNo (a0 : qca) (a1 : List Bool) : qAi a0 a1 = (
(qbi a0).bind fun r1 =>
if (r1 != (0 : Int)) = true then
some (((0 : Int), (((0 : Int), ([], ((0 : Int), ()))), ([], ([], (([], ()), ((([], ()), (([], ()), ())), (((0 : Int), ([], ())), (((0 : Int), ((0 : Int), ())), (((0 : Int), ()), ((List.replicate 6 (0 : Int)), ((List.replicate 6 (0 : Int)), ()))))))))))), ([], r1))
else
if (decide ((Int.ofNat (List.length a1)) > (2000 : Int))) = true then
some (((0 : Int), (((0 : Int), ([], ((0 : Int), ()))), ([], ([], (([], ()), ((([], ()), (([], ()), ())), (((0 : Int), ([], ())), (((0 : Int), ((0 : Int), ())), (((0 : Int), ()), ((List.replicate 6 (0 : Int)), ((List.replicate 6 (0 : Int)), ()))))))))))), ([], (4 : Int)))
else
(qum a0).bind fun r2 =>
qTc a1 (Int.ofNat (List.length a1)) (0 : Int) r2 (0 : Int) (0 : Int) ((0 : Int), ()) () () () () (0 : Int) () (((0 : Int), ((0 : Int), ())), (((0 : Int), ()), ((List.replicate 6 (0 : Int)), ((List.replicate 6 (0 : Int)), ())))) [] [] [] [] [] [] [] []) := (FnI.call_eq (by kernel_rfl)).trans (by kernel_rfl)
theorem qIe (v26 : List Bool) (v27 : Int) (v28 : Int) (b8 : qca) (b9a : Int) (b9baa : Int) (b9babb : qka) (b9bbbbab : Unit) (b9bbbbbaab : Unit) (b9bbbbbabab : Unit) (b9bbbbbabb : Unit) (b9bbbbbbaa : Int) (b9bbbbbbabb : Unit) (b9bbbbbbb : (qma × (qka × ((List Int) × ((List Int) × Unit))))) (h10 : List Int) (h11 : List Int) (h12 : List qja) (h13 : List qia) (h14 : List (List Int)) (h15 : List (List Int)) (h16 : List (List Int)) (h17 : List Int) : qTc v26 v27 v28 b8 b9a b9baa b9babb b9bbbbab b9bbbbbaab b9bbbbbabab b9bbbbbabb b9bbbbbbaa b9bbbbbbabb b9bbbbbbb h10 h11 h12 h13 h14 h15 h16 h17 = (
if (decide (v28 < v27)) = true then
gd (0 ≤ v28) <|
gd (v28 < (Int.ofNat (List.length v26))) <|
(qMg b8).bind fun r3 =>
(qZg b8 r3 (List.getD v26 (Int.toNat v28) false)).bind fun r4 =>
if (r4.2 != (0 : Int)) = true then
some (((0 : Int), (((0 : Int), ([], ((0 : Int), ()))), ([], ([], (([], ()), ((([], ()), (([], ()), ())), (((0 : Int), ([], ())), (((0 : Int), ((0 : Int), ())), (((0 : Int), ()), ((List.replicate 6 (0 : Int)), ((List.replicate 6 (0 : Int)), ()))))))))))), ([], r4.2))
else
gd ((List.length (h10 ++ [(IntKind.wrap .i64 r3.2.2.2.2.1)])) * 8 ≤ 140737488355328) <|
qTc v26 v27 (IntKind.wrap .i64 (v28 + (1 : Int))) r4.1 b9a b9baa b9babb b9bbbbab b9bbbbbaab b9bbbbbabab b9bbbbbabb b9bbbbbbaa b9bbbbbbabb b9bbbbbbb (h10 ++ [(IntKind.wrap .i64 r3.2.2.2.2.1)]) h11 h12 h13 h14 h15 h16 h17
else
some (b8, (h10, (0 : Int)))) := (FnI.sem_eq _).trans (by kernel_rfl)
noncomputable def qGq (acc : List AV → Bool) : Summ Tryz.prog GT := predict_Run_I.summ mixed acc false false
noncomputable def predict_Update_I : FnI Tryz.prog GT := { f := 75, cuts := [], tab := [(qGq (fun _ => true)).dropping], fm := ⟨false, [.val qea [], .val (.int .i64) []]⟩ }
noncomputable def qdk (a0 : qca) (a1 : Bool) : Option (qca × Int) := predict_Update_I.call [(.agg qea (inj false qea a0)), (.bool a1)] []
theorem qYr (a0 : qca) (a1 : Bool) : qdk a0 a1 = (
(qAi a0 [a1]).bind fun r1 =>
some (r1.1, r1.2.2)) := (FnI.call_eq (by kernel_rfl)).trans (by kernel_rfl)
noncomputable def qIt (acc : List AV → Bool) : Summ Tryz.prog GT := predict_Update_I.summ mixed acc false false
noncomputable def codec_Decode_I : FnI Tryz.prog GT := { f := 45, cuts := [⟨(8, 3), [2, 8, 10, 11], false, false, []⟩, ⟨(11, 7), [2, 8, 10, 11, 12, 45], false, false, []⟩], tab := [(qnr (fun _ => true)).dropping, (qgB (fun _ => true)).dropping, quE (fun _ => true), (qhB (fun _ => true)).dropping, (qIt (fun _ => true)).dropping], fm := ⟨true, [.val (.slice (.int .u8)) [.nw], .val (.int .i64) []]⟩ }
noncomputable def qen (a0 : Int) (a1 : List Int) (a2 : Int) : Option (List Int × Int) := codec_Decode_I.call [(.int .i64 a0), (.sl (.int .u8) false a1), (.int .i64 a2)] []
noncomputable def qye (v2 : Int) (b8 : qca) (b9 : qCa) (h10 : List Int) : Option (List Int × Int) := codec_Decode_I.sem ⟨[.code (cIn (cIn (qGa (qaa (qaa (qaa (qaa (qaa (qaa (qda Tryz.prog 45)))))))))), .inLoop (cIn (cIn (qGa (qaa (qaa (qaa (qaa (qaa (qaa (qda Tryz.prog 45)))))))))), .inBlock 0, .code (qaa (qaa (qaa (qaa (qaa (qaa (qaa (qda Tryz.prog 45))))))))], ⟨[(2, (.one (.int .i64 v2))), (8, (.one (.ptr qea 8 []))), (10, (.one (.ptr qEa 9 []))), (11, (.one (.ref (.int .u8) 10 0 (List.length h10) true)))], [(8, some (.box qea (inj false qea b8))), (9, some (.box qEa (inj false qEa b9))), (10, some (.row (.int .u8) true h10))], 11⟩⟩
noncomputable def qxe (v2 : Int) (v12 : Int) (v45 : Int) (b8 : qca) (b9 : qCa) (h10 : List Int) : Option (List Int × Int) := codec_Decode_I.sem ⟨[.code (cIn (cIn (qaa (qGa (qaa (cIn (qaa (cIn (cIn (qGa (qaa (qaa (qaa (qaa (qaa (qaa (qda Tryz.prog 45))))))))))))))))), .inLoop (cIn (cIn (qaa (qGa (qaa (cIn (qaa (cIn (cIn (qGa (qaa (qaa (qaa (qaa (qaa (qaa (qda Tryz.prog 45))))))))))))))))), .inBlock 2, .code (qaa (qaa (cIn (qaa (cIn (cIn (qGa (qaa (qaa (qaa (qaa (qaa (qaa (qda Tryz.prog 45)))))))))))))), .inBlock 1, .inLoop (cIn (cIn (qGa (qaa (qaa (qaa (qaa (qaa (qaa (qda Tryz.prog 45)))))))))), .inBlock 0, .code (qaa (qaa (qaa (qaa (qaa (qaa (qaa (qda Tryz.prog 45))))))))], ⟨[(2, (.one (.int .i64 v2))), (8, (.one (.ptr qea 8 []))), (10, (.one (.ptr qEa 9 []))), (11, (.one (.ref (.int .u8) 10 0 (List.length h10) true))), (12, (.one (.int .u8 v12))), (45, (.one (.int .i64 v45)))], [(8, some (.box qea (inj false qea b8))), (9, some (.box qEa (inj false qEa b9))), (10, some (.row (.int .u8) true h10))], 11⟩⟩
theorem qax (a0 : Int) (a1 : List Int) (a2 : Int) : qen a0 a1 a2 = (
(qWp a0 (0 : Int)).bind fun r1 =>
if (r1.2 != (0 : Int)) = true then
some ([], (2 : Int))
else
if (decide (a2 < (0 : Int))) = true then
some ([], (2 : Int))
else
if (decide (a2 > (4096 : Int))) = true then
some ([], (2 : Int))
else
(qTp a1).bind fun r2 =>
if (r2.2 != (0 : Int)) = true then
some ([], r2.2)
else
qye a2 r1.1 r2.1 []) := (FnI.call_eq (by kernel_rfl)).trans (by kernel_rfl)
theorem qLj (v2 : Int) (b8 : qca) (b9 : qCa) (h10 : List Int) : qye v2 b8 b9 h10 = (
if (decide ((Int.ofNat (List.length h10)) < v2)) = true then
qxe v2 (0 : Int) (0 : Int) b8 b9 h10
else
some (h10, (0 : Int))) := (FnI.sem_eq _).trans (by kernel_rfl)
theorem qKj (v2 : Int) (v12 : Int) (v45 : Int) (b8 : qca) (b9 : qCa) (h10 : List Int) : qxe v2 v12 v45 b8 b9 h10 = (
if (decide (v45 < (8 : Int))) = true then
(qrv b8).bind fun r3 =>
(qUp b9 r3.1).bind fun r4 =>
(qdk b8 r4.2.1).bind fun r5 =>
if r4.2.1 = true then
qxe v2 (IntKind.wrap .u8 ((IntKind.wrap .u8 (v12 * (2 : Int))) + (1 : Int))) (IntKind.wrap .i64 (v45 + (1 : Int))) r5.1 r4.1 h10
else
qxe v2 (IntKind.wrap .u8 (v12 * (2 : Int))) (IntKind.wrap .i64 (v45 + (1 : Int))) r5.1 r4.1 h10
else
gd ((List.length (h10 ++ [v12])) * 1 ≤ 140737488355328) <|
qye v2 b8 b9 (h10 ++ [v12])) := (FnI.sem_eq _).trans (by kernel_rfl)
noncomputable def qNy (acc : List AV → Bool) : Summ Tryz.prog GT := codec_Decode_I.summ mixed acc false false
noncomputable def encoder_New_I : FnI Tryz.prog GT := { f := 76, cuts := [], tab := [], fm := ⟨true, [.val qoa []]⟩ }
noncomputable def qFw : Option (qra) := encoder_New_I.call [] []
theorem quy : qFw = (
some ((0 : Int), ((4294967295 : Int), ([], ())))) := (FnI.call_eq (by kernel_rfl)).trans (by kernel_rfl)
noncomputable def qTA (acc : List AV → Bool) : Summ Tryz.prog GT := encoder_New_I.summ mixed acc false false
noncomputable def codec_bits_I : FnI Tryz.prog GT := { f := 104, cuts := [], tab := [], fm := ⟨false, [.clo 140 (.slice (.int .u8))]⟩ }
noncomputable def qtz (a0 : List Int) : Option ((List Int)) := codec_bits_I.call [(.sl (.int .u8) false a0)] []
theorem qrB (a0 : List Int) : qtz a0 = (
some (a0)) := (FnI.call_eq (by kernel_rfl)).trans (by kernel_rfl)
noncomputable def qqD (acc : List AV → Bool) : Summ Tryz.prog GT := codec_bits_I.summ mixed acc false false
noncomputable def encoder_Check_I : FnI Tryz.prog GT := { f := 105, cuts := [], tab := [], fm := ⟨true, [.val (.int .i64) []]⟩ }
noncomputable def qii (a0 : qra) : Option (Int) := encoder_Check_I.call [(.agg qoa (inj false qoa a0))] []
theorem qXt (a0 : qra) : qii a0 = (
if (decide (a0.1 ≥ a0.2.1)) = true then
some (8 : Int)
else
gd (0 ≤ (24 : Int)) <|
gd (0 ≤ (24 : Int)) <|
if ((Int.fdiv a0.1 (16777216 : Int)) == (Int.fdiv a0.2.1 (16777216 : Int))) = true then
some (8 : Int)
else
if (decide ((Int.ofNat (List.length a0.2.2.1)) > (20000 : Int))) = true then
some (8 : Int)
else
some (0 : Int)) := (FnI.call_eq (by kernel_rfl)).trans (by kernel_rfl)
noncomputable def qWm (acc : List AV → Bool) : Summ Tryz.prog GT := encoder_Check_I.summ mixed acc false false
noncomputable def encoder_put_v2_I : FnI Tryz.prog GT := { f := 107, cuts := [⟨(4, 1), [0], false, false, []⟩], tab := [qTm (fun _ => true)], fm := ⟨true, [.box 0 qoa [.pu]]⟩ }
noncomputable def qmk (a1 : Int) (a2 : Bool) (b0a : Int) (b0ba : Int) (b0bbb : Unit) (h1 : List Int) : Option (qra) := encoder_put_v2_I.call [(.ptr qoa 0 []), (.int .i64 a1), (.bool a2)] [(0, (.box qoa (b0a, (b0ba, ((SV.ref 1 0 (List.length h1) true), b0bbb))))), (1, (.row (.int .u8) false h1))]
noncomputable def qkd (b0a : Int) (b0ba : Int) (b0bbb : Unit) (h8 : List Int) : Option (qra) := encoder_put_v2_I.sem ⟨[.code (qlO (cIn (qda Tryz.prog 107)) 0), .inScope (cIn (qda Tryz.prog 107))], ⟨[(0, (.one (.ptr qoa 0 [])))], [(0, some (.box qoa (b0a, (b0ba, ((SV.ref 8 0 (List.length h8) true), b0bbb))))), (8, some (.row (.int .u8) false h8))], 10⟩⟩
theorem qus (a1 : Int) (a2 : Bool) (b0a : Int) (b0ba : Int) (b0bbb : Unit) (h1 : List Int) : qmk a1 a2 b0a b0ba b0bbb h1 = (
(qmg b0a b0ba a1).bind fun r1 =>
if a2 = true then
gd (0 ≤ (24 : Int)) <|
gd (0 ≤ (24 : Int)) <|
if ((Int.fdiv b0a (16777216 : Int)) == (Int.fdiv r1 (16777216 : Int))) = true then
gd (0 ≤ (24 : Int)) <|
gd ((List.length (h1 ++ [(IntKind.wrap .u8 (Int.fdiv r1 (16777216 : Int)))])) * 1 ≤ 140737488355328) <|
gd (0 ≤ (8 : Int)) <|
gd (0 ≤ (8 : Int)) <|
qkd (IntKind.wrap .u32 (b0a * (256 : Int))) (qFb .u32 (IntKind.wrap .u32 (r1 * (256 : Int))) (255 : Int)) b0bbb (h1 ++ [(IntKind.wrap .u8 (Int.fdiv r1 (16777216 : Int)))])
else
some (b0a, (r1, (h1, b0bbb)))
else
gd (0 ≤ (24 : Int)) <|
gd (0 ≤ (24 : Int)) <|
if ((Int.fdiv (IntKind.wrap .u32 (r1 + (1 : Int))) (16777216 : Int)) == (Int.fdiv b0ba (16777216 : Int))) = true then
gd (0 ≤ (24 : Int)) <|
gd ((List.length (h1 ++ [(IntKind.wrap .u8 (Int.fdiv b0ba (16777216 : Int)))])) * 1 ≤ 140737488355328) <|
gd (0 ≤ (8 : Int)) <|
gd (0 ≤ (8 : Int)) <|
qkd (IntKind.wrap .u32 ((IntKind.wrap .u32 (r1 + (1 : Int))) * (256 : Int))) (qFb .u32 (IntKind.wrap .u32 (b0ba * (256 : Int))) (255 : Int)) b0bbb (h1 ++ [(IntKind.wrap .u8 (Int.fdiv b0ba (16777216 : Int)))])
else
some ((IntKind.wrap .u32 (r1 + (1 : Int))), (b0ba, (h1, b0bbb)))) := (FnI.call_eq (by kernel_rfl)).trans (by kernel_rfl)
theorem qTh (b0a : Int) (b0ba : Int) (b0bbb : Unit) (h8 : List Int) : qkd b0a b0ba b0bbb h8 = (
gd (0 ≤ (24 : Int)) <|
gd (0 ≤ (24 : Int)) <|
if ((Int.fdiv b0a (16777216 : Int)) == (Int.fdiv b0ba (16777216 : Int))) = true then
gd (0 ≤ (24 : Int)) <|
gd ((List.length (h8 ++ [(IntKind.wrap .u8 (Int.fdiv b0ba (16777216 : Int)))])) * 1 ≤ 140737488355328) <|
gd (0 ≤ (8 : Int)) <|
gd (0 ≤ (8 : Int)) <|
qkd (IntKind.wrap .u32 (b0a * (256 : Int))) (qFb .u32 (IntKind.wrap .u32 (b0ba * (256 : Int))) (255 : Int)) b0bbb (h8 ++ [(IntKind.wrap .u8 (Int.fdiv b0ba (16777216 : Int)))])
else
some (b0a, (b0ba, (h8, b0bbb)))) := (FnI.sem_eq _).trans (by kernel_rfl)
noncomputable def qVt (acc : List AV → Bool) : Summ Tryz.prog GT := encoder_put_v2_I.summ mixed acc true false
noncomputable def encoder_Put_I : FnI Tryz.prog GT := { f := 79, cuts := [], tab := [qWm (fun _ => true), qdp (fun _ => true), qsb (fun _ => true), qVt (fun _ => true)], fm := ⟨true, [.val qoa [], .val (.int .i64) []]⟩ }
noncomputable def qRp (a0 : qra) (a1 : Int) (a2 : Bool) : Option (qra × Int) := encoder_Put_I.call [(.agg qoa (inj false qoa a0)), (.int .i64 a1), (.bool a2)] []
theorem qty (a0 : qra) (a1 : Int) (a2 : Bool) : qRp a0 a1 a2 = (
(qii a0).bind fun r1 =>
if (r1 != (0 : Int)) = true then
some (((0 : Int), ((0 : Int), ([], ()))), r1)
else
(qwh a1).bind fun r2 =>
if (not r2) = true then
some (((0 : Int), ((0 : Int), ([], ()))), (2 : Int))
else
(qcb a0.2.2.1).bind fun r3 =>
(qmk a1 a2 a0.1 a0.2.1 a0.2.2.2 r3).bind fun r4 =>
if (decide ((Int.ofNat (List.length r4.2.2.1)) > (20000 : Int))) = true then
some (((0 : Int), ((0 : Int), ([], ()))), (4 : Int))
else
some (r4, (0 : Int))) := (FnI.call_eq (by kernel_rfl)).trans (by kernel_rfl)
noncomputable def qSA (acc : List AV → Bool) : Summ Tryz.prog GT := encoder_Put_I.summ mixed acc false false
noncomputable def codec_Encode_1_I : FnI Tryz.prog GT := { f := 78, cuts := [], tab := [qSA (fun _ => true)], fm := ⟨false, [.box 0 (.int .i64) [], .box 1 qoa [.pu]]⟩ }
noncomputable def qqk (a0 : Int) (a1 : Bool) (b0 : Int) (b1 : qra) : Option (Int × qra) := codec_Encode_1_I.call [(.int .i64 a0), (.bool a1), (.ptr (.int .i64) 0 []), (.ptr qoa 1 [])] [(0, (.box (.int .i64) b0)), (1, (.box qoa (inj false qoa b1)))]
theorem qCs (a0 : Int) (a1 : Bool) (b0 : Int) (b1 : qra) : qqk a0 a1 b0 b1 = (
if (b0 == (0 : Int)) = true then
(qRp b1 a0 a1).bind fun r1 =>
some (r1.2, r1.1)
else
some (b0, b1)) := (FnI.call_eq (by kernel_rfl)).trans (by kernel_rfl)
noncomputable def qdu (acc : List AV → Bool) : Summ Tryz.prog GT := codec_Encode_1_I.summ mixed acc false false
noncomputable def codec_each_1_I : FnI Tryz.prog GT := { f := 103, cuts := [⟨(2, 3), [0, 1, 2, 3, 4, 15, 16, 17], false, true, []⟩], tab := [(qGq (fun _ => true)).dropping, (qdu (fun _ => true)).dropping], fm := ⟨false, [.box 0 qea [.pu, .pu, .pu, .pu, .pu, .pu, .pu], .box 1 (.slice .bool) [.nw], .cfn 2 78 [3, 4], .box 3 (.int .i64) [], .box 4 qoa [.pu]]⟩ }
noncomputable def qEf (b0 : qca) (b1 : (List Bool)) (b3 : Int) (b4 : qra) : Option (qca × (List Bool) × Unit × Int × qra) := codec_each_1_I.call [(.ptr qea 0 []), (.ptr (.slice .bool) 1 []), (.cptr 2)] [(0, (.box qea (inj false qea b0))), (1, (.box (.slice .bool) (SV.pure false b1))), (2, (.cell (.func 78 [3, 4]))), (3, (.box (.int .i64) b3)), (4, (.box qoa (inj false qoa b4)))]
noncomputable def qwe (v15 : List Bool) (v16 : Int) (v17 : Int) (b0 : qca) (b1 : (List Bool)) (b3 : Int) (b4 : qra) (b8 : qca) (h9 : List Int) : Option (qca × (List Bool) × Unit × Int × qra) := codec_each_1_I.sem ⟨[.code (cIn (cIn (qaa (qGa (qaa (qda Tryz.prog 103)))))), .inLoop (cIn (cIn (qaa (qGa (qaa (qda Tryz.prog 103)))))), .inBlock 0, .code (qaa (qaa (qda Tryz.prog 103)))], ⟨[(0, (.one (.ptr qea 0 []))), (1, (.one (.ptr (.slice .bool) 1 []))), (2, (.one (.cptr 2))), (3, (.one (.ptr qea 8 []))), (4, (.one (.ref (.int .i64) 9 0 (List.length h9) true))), (15, (.one (.sl .bool false v15))), (16, (.one (.int .i64 v16))), (17, (.one (.int .i64 v17)))], [(0, some (.box qea (inj false qea b0))), (1, some (.box (.slice .bool) (SV.pure false b1))), (2, some (.cell (.func 78 [3, 4]))), (3, some (.box (.int .i64) b3)), (4, some (.box qoa (inj false qoa b4))), (8, some (.box qea (inj false qea b8))), (9, some (.row (.int .i64) false h9))], 15⟩⟩
theorem qYw (b0 : qca) (b1 : (List Bool)) (b3 : Int) (b4 : qra) : qEf b0 b1 b3 b4 = (
(qAi b0 b1).bind fun r1 =>
qwe b1 (Int.ofNat (List.length b1)) (0 : Int) b0 b1 b3 b4 r1.1 r1.2.1) := (FnI.call_eq (by kernel_rfl)).trans (by kernel_rfl)
theorem qJj (v15 : List Bool) (v16 : Int) (v17 : Int) (b0 : qca) (b1 : (List Bool)) (b3 : Int) (b4 : qra) (b8 : qca) (h9 : List Int) : qwe v15 v16 v17 b0 b1 b3 b4 b8 h9 = (
if (decide (v17 < v16)) = true then
gd (0 ≤ v17) <|
gd (v17 < (Int.ofNat (List.length v15))) <|
gd (0 ≤ v17) <|
gd (v17 < (Int.ofNat (List.length h9))) <|
(qqk (List.getD h9 (0 + (Int.toNat v17)) (0 : Int)) (List.getD v15 (Int.toNat v17) false) b3 b4).bind fun r2 =>
qwe v15 v16 (IntKind.wrap .i64 (v17 + (1 : Int))) b0 b1 r2.1 r2.2 b8 h9
else
some (b8, ([], ((), (b3, b4))))) := (FnI.sem_eq _).trans (by kernel_rfl)
noncomputable def qJy (acc : List AV → Bool) : Summ Tryz.prog GT := codec_each_1_I.summ mixed acc false false
end Go.Ab

/-
  codec.each: walked by hand, the rounds by the abstract machine.
-/
set_option linter.unusedVariables false
namespace Go.Ab
open Go Go.Proofs Go.RowKit Go.Shelf
attribute [local go_sem] Oper.semAt_some
def KpM (M : Nat → Prop) (W W' : World) : Prop := ∀ p v, M p.block → W.cell? p = some v → W'.cell? p = some v
theorem KpM.refl (M : Nat → Prop) (W : World) : KpM M W W := fun _ _ _ h => h
theorem KpM.trans {M : Nat → Prop} {A B C : World} (h : KpM M A B) (k : KpM M B C) : KpM M A C := fun p v hm hv => k p v hm (h p v hm hv)
def qwN (z : Int) (j : Nat) : Bool := bits BinOp.and IntKind.u8 (z / 2 ^ (7 - j)) 1 == 1
def qQy (z : Int) : List Bool := (List.range 8).map (qwN z)
def qfu (zs : List Int) : List Bool := zs.flatMap qQy
theorem qur (z : Int) : (qQy z).length = 8 := by simp [qQy]
theorem qfx : ∀ (zs : List Int), (qfu zs).length = 8 * zs.length
  | [] => rfl
  | z :: r => by
    have := qfx r
    simp only [qfu, List.flatMap_cons, List.length_append, qur, List.length_cons] at this ⊢
    omega
theorem qDH (z : Int) {j : Nat} (h : j < 8) : (qQy z).take (j + 1) = (qQy z).take j ++ [qwN z j] := by
  rw [List.take_succ_eq_append_getElem (by rw [qur]; exact h)]
  simp [qQy]
theorem qCH (zs : List Int) {k : Nat} (h : k < zs.length) : qfu (zs.take (k + 1)) = qfu (zs.take k) ++ qQy (zs[k]'h) := by
  unfold qfu
  rw [List.take_succ_eq_append_getElem h, List.flatMap_append]
  simp only [List.flatMap_cons, List.flatMap_nil, List.append_nil]
set_option maxRecDepth 100000 in
set_option maxHeartbeats 4000000 in
theorem qTK (n : Nat) (hn : 1 ≤ n) (l Bs Bo b off len cap : Nat) (zs : List Int) (hreach : len * 8 ≤ 140737488351232) (M : Nat → Prop) (hM1 : M Bs) (hM2 : M b) (hl : zs.length = len) (J Jx : List Bool → World → Prop)
    (hY : ∀ pre x W, J pre W → pre.length < 8 * len → YieldAt Fence.wide (n - 1) Tryz.prog l #[.bool x] W fun e W' =>
      (e = .returned (.bool true) ∧ J (pre ++ [x]) W' ∧ KpM M W W') ∨ (e = .returned (.bool false) ∧ Jx (pre ++ [x]) W'))
    (W : World) (hBs : W.cell? ⟨Bs, Bo, none⟩ = some (.slice (some ⟨b, off, none⟩) len cap)) (hc : ∀ j, j < len → W.cell? ⟨b, off + j, none⟩ = some (.int .u8 (zs[j]?.getD 0))) (h0 : J [] W) :
    CallsIn Fence.wide n Tryz.prog 140 #[.func (.yield l) #[] #[], .pointer (some ⟨Bs, Bo, none⟩)] W fun e W' => (∃ v, e = .returned v) ∧ (J (qfu zs) W' ∨ ∃ pre, Jx pre W') := by
  refine callsIn_of_wp Tryz.func140 rfl trivial ?_ rfl
  simp only [Tryz.ntmps140, List.size_toArray, List.length_cons, List.length_nil, Nat.reduceAdd, Nat.reduceSub, Array.replicate_succ, Array.replicate_zero, List.push_toArray, List.append_toArray, List.nil_append, List.cons_append]
  gi_wp2
  gi_loopw [8, 4, 5] (fun i c4 c5 wr => ∃ k : Nat, k ≤ len ∧ i = .int .i64 k ∧ J (qfu (zs.take k)) wr ∧ KpM M W wr)
    (fun i _ _ _ => len - (intOf i).toNat)
  case atStart => exact ⟨0, Nat.zero_le _, rfl, h0, KpM.refl _ _⟩
  case round =>
    obtain ⟨k, hk, rfl, hJs, hnx⟩ := hrel
    by_cases hlt : k < len
    · have hk' : k < zs.length := by omega
      have hcx : wr.cell? ⟨b, off + k, none⟩ = some (.int .u8 (zs[k]?.getD 0)) := hnx _ _ hM2 (hc k hlt)
      rw [List.getElem?_eq_getElem hk'] at hcx
      simp only [Option.getD_some] at hcx
      have htake := qCH zs hk'
      generalize zs[k] = z at hcx htake
      gi_wp2
      gi_loopw [5] (fun c5 wr2 => ∃ j : Nat, j ≤ 8 ∧ c5 = .int .i64 (7 - (j : Int)) ∧ J (qfu (zs.take k) ++ (qQy z).take j) wr2 ∧ KpM M W wr2) (fun c5 _ => (intOf c5 + 1).toNat)
      case atStart => exact ⟨0, by omega, rfl, by simpa using hJs, hnx⟩
      case round =>
        obtain ⟨j, hj, rfl, hJq, hnx2⟩ := hrel
        by_cases hj8 : j < 8
        · have hj0 : (0 : Int) ≤ 7 - (j : Int) := by omega
          obtain ⟨fn, tmps, assign, body, hy, hR⟩ := hY _ (qwN z j) wr hJq (by rw [List.length_append, qfx, List.length_take, List.length_take, qur]; omega)
          unfold qwN at hy
          gi_wp2
          refine hR.mono ?_
          rintro e W3 (⟨rfl, hJ3, hk3⟩ | ⟨rfl, hJx3⟩)
          · gi_wp2
            go_roundw
            case rel =>
              refine ⟨j + 1, by omega, ?_, ?_, hnx2.trans hk3⟩
              · simp; omega
              · rw [qDH z hj8, ← List.append_assoc]; exact hJ3
            case measure => simp [intOf]; omega
          · gi_wp2
            refine bodyPost_ret (results_none rfl _ _ _) rfl ?_
            exact ⟨⟨_, rfl⟩, .inr ⟨_, hJx3⟩⟩
        · obtain rfl : j = 8 := by omega
          gi_wp2
          go_roundw
          case rel =>
            refine ⟨k + 1, by omega, by simp, ?_, hnx2⟩
            rw [htake]
            have : (qQy z).take 8 = qQy z := List.take_of_length_le (by rw [qur]; omega)
            rw [← this]; exact hJq
          case measure => simp [intOf]; omega
    · obtain rfl : k = len := by omega
      gi_wp2
      go_end0
      refine ⟨⟨_, rfl⟩, .inl ?_⟩
      rwa [List.take_of_length_le (by omega)] at hJs
set_option maxRecDepth 100000 in
set_option maxHeartbeats 4000000 in
theorem qPJ (n : Nat) (l Bs Bo cap : Nat) (A0 : Option Addr) (J : List Bool → World → Prop)
    (W : World) (hBs : W.cell? ⟨Bs, Bo, none⟩ = some (.slice A0 0 cap)) (h0 : J [] W) :
    CallsIn Fence.wide n Tryz.prog 140 #[.func (.yield l) #[] #[], .pointer (some ⟨Bs, Bo, none⟩)] W fun e W' => (∃ v, e = .returned v) ∧ J [] W' := by
  refine callsIn_of_wp Tryz.func140 rfl trivial ?_ rfl
  simp only [Tryz.ntmps140, List.size_toArray, List.length_cons, List.length_nil, Nat.reduceAdd, Nat.reduceSub, Array.replicate_succ, Array.replicate_zero, List.push_toArray, List.append_toArray, List.nil_append, List.cons_append]
  gi_wp2
  gi_loopw [8] (fun i wr => i = .int .i64 0 ∧ J [] wr) (fun _ _ => 0)
  case atStart => exact ⟨rfl, h0⟩
  case round =>
    obtain ⟨rfl, hJs⟩ := hrel
    gi_wp2
    go_end0
    exact ⟨⟨_, rfl⟩, hJs⟩
def qDL (w : World) (b : Nat) (A0 : Option Addr) (zs : List Int) : Prop := zs = [] ∨ ∃ o, A0 = some ⟨b, o, none⟩ ∧ ∀ j, j < zs.length → w.cell? ⟨b, o + j, none⟩ = some (.int .u8 (zs[j]?.getD 0))
theorem qBH (n : Nat) (hn : 1 ≤ n) (Bs Bo b cap : Nat) (A0 : Option Addr) (zs : List Int) (hreach : zs.length * 8 ≤ 140737488351232) (M : Nat → Prop) (hM1 : M Bs) (hM2 : M b) (w : World) (h1 : Bs < w.heap.size) (h2 : b < w.heap.size)
    (hBs : w.cell? ⟨Bs, Bo, none⟩ = some (.slice A0 zs.length cap)) (hc : qDL w b A0 zs) :
    SeqStopsK Fence.wide n Tryz.prog 140 #[.pointer (some ⟨Bs, Bo, none⟩)] (fun x : Bool => #[.bool x]) (KpM M) (fun xs => xs = qfu zs) (fun _ => True) (8 * zs.length) w := fun l J Jx W hW _ _ hY h0 => by
  have hBs' := (hW.cell (p := ⟨Bs, Bo, none⟩) h1).trans hBs
  rcases hc with rfl | ⟨o, rfl, hc⟩
  · refine (qPJ n l Bs Bo cap A0 J W hBs' h0).mono ?_
    rintro e W' ⟨he, hj⟩
    exact ⟨he, .inl ⟨_, rfl, hj⟩⟩
  · refine (qTK n hn l Bs Bo b o zs.length cap zs hreach M hM1 hM2 rfl J Jx hY W hBs' (fun j hj => (hW.cell (p := ⟨b, o + j, none⟩) h2).trans (hc j hj)) h0).mono ?_
    rintro e W' ⟨he, hj | ⟨pre, hj⟩⟩
    · exact ⟨he, .inl ⟨_, rfl, hj⟩⟩
    · exact ⟨he, .inr ⟨pre, trivial, hj⟩⟩
section each
@[reducible] def qWb (x : qca) (l : List Bool) (e : Int) (c : qra) : St :=
  ⟨[(6, .one (.ptr (.slice .bool) 8 [])), (7, .one (.cptr 9))], [(0, some (.box (.int .i64) e)), (1, some (.box qoa (inj false qoa c))), (8, some (.box (.slice .bool) (.ref 10 0 l.length true))), (9, some (.cell (.func 103 [11, 8, 12]))), (10, some (.row .bool false l)), (11, some (.box qea (inj false qea x))), (12, some (.cell (.func 78 [0, 1])))], 15⟩
@[reducible] def qUn (x : qca) (l : List Bool) (e : Int) (c : qra) (b : Bool) : St :=
  ⟨(8, .one (.bool b)) :: (qWb x l e c).tmps, (qWb x l e c).heap, 15⟩
@[reducible] def quG (e : Int) (c : qra) : St := ⟨[], [(0, some (.box (.int .i64) e)), (1, some (.box qoa (inj false qoa c)))], 10⟩
@[reducible] def qFj : Type := qca × List Bool × Int × qra
@[reducible] def qrz : Type := Int × qra
noncomputable def qng (s : qFj) (b : Bool) : Option qFj :=
  gd ((s.2.1 ++ [b]).length * 1 ≤ 140737488355328) <|
  if ((Int.ofNat (s.2.1 ++ [b]).length) == (2000 : Int)) = true then
    (qEf s.1 (s.2.1 ++ [b]) s.2.2.1 s.2.2.2).bind fun r => some (r.1, r.2.1, r.2.2.2.1, r.2.2.2.2)
  else some (s.1, s.2.1 ++ [b], s.2.2.1, s.2.2.2)
noncomputable def qdh : List Bool → qFj → Option qFj
  | [], s => some s
  | b :: l, s => (qng s b).bind (qdh l)
theorem qyl : ∀ (l : List Bool) (b : Bool) (s : qFj), qdh (l ++ [b]) s = (qdh l s).bind fun t => qng t b
  | [], b, s => by
    simp only [List.nil_append, qdh, Option.bind_some]
    cases qng s b <;> rfl
  | a :: l, b, s => by
    simp only [List.cons_append, qdh]
    cases qng s a with
    | none => rfl
    | some t => exact qyl l b t
noncomputable def qqi (x : qca) (b : List Int) (e : Int) (c : qra) : Option qrz :=
  gd (b.length * 8 ≤ 140737488351232) <|
  gd (∀ l : List Bool, l.length ≤ 8 * b.length → (qdh l (x, [], e, c)).isSome = true) <|
  (qdh (qfu b) (x, [], e, c)).bind fun s =>
  (qEf s.1 s.2.1 s.2.2.1 s.2.2.2).bind fun r => some (r.2.2.2.1, r.2.2.2.2)
noncomputable def qLK : List (Summ Tryz.prog GT) := [qqD (fun _ => true), (qJy (fun _ => true)).dropping]
@[reducible] noncomputable def rg (cd : Code) (σ : St) (k : St → Tr) : Tr := qsm Tryz.prog GT (qTf Tryz.prog 77) [] qLK (qbO cd) false σ k
def stL : Pos → Option St := fun s => some s.st
def noL {R : Type} : Pos → Option R := fun _ => none
def lf0 (σ : St) : Tr := .leaf ⟨[], σ⟩
def qAK (ts : List Nat) (σ : St) : Tr := match keepSt σ ts true true with
  | some σ' => lf0 σ'
  | none => .dead
def qQI (σ : St) : Tr := if (qKd (qZB σ [6, 7] true) 8 == some 8) && (qKd (qZB σ [6, 7] true) 9 == some 9) then qAK [6, 7] σ else .dead
@[reducible] noncomputable def eC0 : Code := qda Tryz.prog 77
@[reducible] noncomputable def eC1 : Code := qaa eC0
@[reducible] noncomputable def eC2 : Code := qaa eC1
@[reducible] noncomputable def eC3 : Code := qaa eC2
@[reducible] noncomputable def eC4 : Code := qGa eC3
@[reducible] noncomputable def eR8 : Code := qaa eC3
@[reducible] noncomputable def eRF : Code := cIn (qaa eC4)
@[reducible] noncomputable def eB : Code := cIn (rfB eRF)
@[reducible] noncomputable def eB2 : Code := qaa eB
@[reducible] noncomputable def eB3 : Code := qaa eB2
@[reducible] def qeF (x : qca) (b : List Int) : List AV := [.agg qea (inj false qea x), .sl (.int .u8) false b, .func 78 [0, 1]]
@[reducible] def qGw (e : Int) (c : qra) : List (Nat × Obj) := [(0, .box (.int .i64) e), (1, .box qoa (inj false qoa c))]
noncomputable def qtG (x : qca) (b : List Int) (e : Int) (c : qra) : Tr :=
  rg (qGa eC0) (st0 (qeF x b) (qGw e c)) fun σ => rg (qGa eC1) σ fun σ => rg (qGa eC2) σ fun σ => rg (qGa eC4) σ lf0
def qYA (s : Pos) : Option (List Int × St) :=
  match s.st.look 11, qBb s.st.heap 64, keepSt s.st [6, 7] true true with
  | .one (.func 140 [64]), some (.box t y), some σ' => if h : t = .slice (.int .u8) ∧ qKd (qZB s.st [6, 7] true) 64 = none then (match (h.1 ▸ y : qFe (.slice (.int .u8))) with
    | .pure false r => some (r, σ')
    | _ => none) else none
  | _, _, _ => none
set_option maxRecDepth 100000 in
theorem qcF (x : qca) (b : List Int) (e : Int) (c : qra) : den qYA noL (qtG x b e c) = (qtz b).bind fun r => some (r, qWb x [] e c) := by kernel_rfl
noncomputable def qHw (σ : St) : Tr := rg (qGa eB) σ fun σ1 => rg (qGa eB2) σ1 fun σ2 => match σ2.look 19 with
  | .one (.bool b) => .bit b (rg (qdO eB3) σ2 qQI) (qQI σ2)
  | _ => .dead
set_option maxRecDepth 100000 in
theorem qbD (x : qca) (l : List Bool) (e : Int) (c : qra) (b : Bool) : den stL noL (qHw (qUn x l e c b)) = (
gd ((l ++ [b]).length * 1 ≤ 140737488355328) <|
if ((Int.ofNat (l ++ [b]).length) == (2000 : Int)) = true then
(qEf x (l ++ [b]) e c).bind fun r => some (qWb r.1 r.2.1 r.2.2.2.1 r.2.2.2.2)
else some (qWb x (l ++ [b]) e c)) := by kernel_rfl
set_option maxRecDepth 100000 in
theorem qdF (x : qca) (l : List Bool) (e : Int) (c : qra) : den stL noL (rg eR8 (qWb x l e c) (qAK [])) = (qEf x l e c).bind fun r => some (quG r.2.2.2.1 r.2.2.2.2) := by kernel_rfl
end each
section each
theorem qZC {s s' : qFj} {b : Bool} (h : qng s b = some s') : den stL noL (qHw (qUn s.1 s.2.1 s.2.2.1 s.2.2.2 b)) = some (qWb s'.1 s'.2.1 s'.2.2.1 s'.2.2.2) := by
  rw [qbD]
  unfold qng at h
  obtain ⟨h0, h⟩ := qLh h
  rw [qga h0]
  split at h
  · rename_i hc
    rw [if_pos hc]
    simp only [Option.bind_eq_some_iff] at h
    obtain ⟨r, hr, h⟩ := h
    simp only [Option.some.injEq] at h; subst h
    rw [hr]; rfl
  · rename_i hc
    rw [if_neg hc]
    simp only [Option.some.injEq] at h; subst h
    rfl
theorem qws (x : qca) (l : List Bool) (e : Int) (c : qra) : ∀ k o, qBb (qWb x l e c).heap k = some o → qdH o = true := by
  intro k o h
  unfold qBb at h
  split at h
  · rename_i ob hl
    subst h
    have := qac hl
    simp only [List.mem_cons, Prod.mk.injEq, List.not_mem_nil, or_false, Option.some.injEq] at this
    rcases this with ⟨_, rfl⟩ | ⟨_, rfl⟩ | ⟨_, rfl⟩ | ⟨_, rfl⟩ | ⟨_, rfl⟩ | ⟨_, rfl⟩ | ⟨_, rfl⟩ <;> rfl
  · cases h
def qSM : Code → Option (Nat × Nat)
  | .region _ ops false => match ops.toList with
    | [o] => match o.op, o.dst, o.guard with
      | .assign (.tmp t), some d, none => some (d, t)
      | _, _, _ => none
    | _ => none
  | _ => none
theorem qiN {F : Fence} (hF : ∀ f, F.fn f) {n : Nat} {P : Program} {cd : Code} {d t : Nat} (h : qSM cd = some (d, t)) {Kx : Act → World → Prop} {Q : Exit → Act → World → Prop} {a : Act} {w : World} (hk : Kx (a.put (some d) (a.eval (.tmp t))) w) :
    cd.wpIn F n P (Exit.then Kx Q) a w := by
  unfold qSM at h
  split at h
  · rename_i id ops
    split at h
    · rename_i o ho
      split at h
      · rename_i t' d' h1 h2 h3
        simp only [Option.some.injEq, Prod.mk.injEq] at h
        obtain ⟨rfl, rfl⟩ := h
        have hops : ops = #[o] := by apply Array.ext'; simpa using ho
        subst hops
        refine wpIn_region ?_
        show wpOpsIn F n P #[o] _ [0] a w
        have hw : Region.wanted o (yielded #[o] a.tmps) = true := by unfold Region.wanted; rw [h3]
        have hg : (#[o] : Array Oper)[0]? = some o := rfl
        simp only [wpOpsIn, hg, hw, if_true]
        refine ⟨fun f _ => hF f, ?_⟩
        rw [Oper.semAt_eq _ _ _ (by rw [h1]; intro c hc; cases hc)]
        have : (execOp a.eval o).run P w = .ok (.value (a.eval (.tmp t'))) w := by simp [execOp, h1]
        rw [this]
        show Exit.then Kx Q .normal (a.put o.dst _) w
        rw [h2]; exact hk
      · cases h
    · cases h
  · cases h
theorem qXH {P : Program} {GT : qEh} {f : Nat} {fn : Func} {args : List AV} {pre : List (Nat × Obj)} {w : World} {F G : Nat → Prop} {K : Kn} {vs : List Value} (hf : P.funcs[f]? = some fn) (hnt : args.length ≤ fn.ntmps) (hp : pre.all (fun p => decide (p.1 < 8)) = true)
    (hglob : Glob P GT w) (hinv : Inv ⟨w, F, G, (ngOf GT), []⟩ (lookL pre) K w) (hK : ∀ l, lookL pre l = none → K l = none) (hargs : VRdL w (NN ⟨w, F, G, (ngOf GT), []⟩ (lookL pre) K w) K args vs) :
    RelS ⟨w, F, G, (ngOf GT), []⟩ P GT (qTf P f) (st0 args pre) K { tmps := vs.toArray ++ Array.replicate (fn.ntmps - vs.toArray.size) undef, defers := [] } w := by
  have hlen := hargs.len
  have htf : qTf P f = fn.ntmps := by simp [qTf, hf]
  rw [htf]
  refine ⟨⟨?_, fun t => ?_, ?_, rfl, hglob.1, rfl, hglob⟩, fun l hl => ?_⟩
  · show Inv _ (qBb (qSb pre)) K w
    rw [qpi]; exact hinv
  · show TVRd w (NN _ (qBb (qSb pre)) K w) K _ _
    rw [qpi]
    simp only [St.look, st0, qjs, Nat.zero_le, if_true, Nat.sub_zero]
    cases ht : args[t]? with
    | none => trivial
    | some v =>
      simp only [Option.map_some]
      obtain ⟨u, hu, hr⟩ := hargs.get ht
      have : ({ tmps := vs.toArray ++ Array.replicate (fn.ntmps - vs.toArray.size) undef, defers := [] } : Act).eval (.tmp t) = u := by
        have htl : t < vs.length := (List.getElem?_eq_some_iff.1 hu).1
        simp only [Act.eval, Array.getD_eq_getD_getElem?]
        rw [Array.getElem?_append_left (by simpa using htl)]
        simp [hu]
      rw [this]; exact hr
  · simp only [Array.size_append, List.size_toArray, Array.size_replicate]
    omega
  · refine hK l (qMk (fun hm => ?_))
    obtain ⟨p, h1, h2⟩ := List.mem_map.1 hm
    have := List.all_eq_true.1 hp p h1
    simp only [decide_eq_true_eq] at this
    have h15 : (st0 args pre).next ≤ l := hl
    have : (st0 args pre).next = 8 := rfl
    omega
theorem qpz {ts : List Nat} {σ σ' : St} (h : den stL noL (qAK ts σ) = some σ') : keepSt σ ts true true = some σ' := by
  unfold qAK at h
  split at h
  · rename_i σ1 h1
    simp only [lf0, den, stL, Option.some.injEq] at h
    subst h; exact h1
  · cases h
theorem qhH {σ σ' : St} (h : den stL noL (qQI σ) = some σ') : keepSt σ [6, 7] true true = some σ' ∧ qKd (qZB σ [6, 7] true) 8 = some 8 ∧ qKd (qZB σ [6, 7] true) 9 = some 9 := by
  unfold qQI at h
  split at h
  · rename_i hc
    simp only [Bool.and_eq_true, beq_iff_eq] at hc
    exact ⟨qpz h, hc⟩
  · cases h
variable {c0 : Cx}
def qJD (c0 : Cx) (s s' : qFj) (K : Kn) (a : Act) (W W' : World) : Prop :=
  KeepsOthers W W' ∧ (∀ b, NN c0 (qBb (qWb s.1 s.2.1 s.2.2.1 s.2.2.2).heap) K W false b → W'.heap[b]? = W.heap[b]?) ∧
  ∃ K', RelS c0 Tryz.prog GT (qTf Tryz.prog 77) (qWb s'.1 s'.2.1 s'.2.2.1 s'.2.2.2) K' a W' ∧ (∀ l, l < 8 → ∀ gh, K l = some gh → K' l = some gh) ∧
    ∀ b, NN c0 (qBb (qWb s.1 s.2.1 s.2.2.1 s.2.2.2).heap) K W false b → NN c0 (qBb (qWb s'.1 s'.2.1 s'.2.2.1 s'.2.2.2).heap) K' W' false b
theorem qep {s s' : qFj} {b : Bool} {K K2 : Kn} {a a1 a2 : Act} {W W' : World} {σ2 : St} (R0 : RelS c0 Tryz.prog GT (qTf Tryz.prog 77) (qWb s.1 s.2.1 s.2.2.1 s.2.2.2) K a W)
    (R8 : RelS c0 Tryz.prog GT (qTf Tryz.prog 77) (qUn s.1 s.2.1 s.2.2.1 s.2.2.2 b) K a1 W) (hG : ∀ b, c0.G b → qUb (qBb (qWb s.1 s.2.1 s.2.2.1 s.2.2.2).heap) K b)
    (h : den stL noL (qQI σ2) = some (qWb s'.1 s'.2.1 s'.2.2.1 s'.2.2.2)) (hsz : W.heap.size ≤ W'.heap.size) (R2 : RelS c0 Tryz.prog GT (qTf Tryz.prog 77) σ2 K2 a2 W')
    (hk : KeepK W W' (NN c0 (qBb (qUn s.1 s.2.1 s.2.2.1 s.2.2.2 b).heap) K W) (NN c0 (qBb σ2.heap) K2 W') K K2) : qJD c0 s s' K a W W' := by
  obtain ⟨h1, h2, h3⟩ := qhH h
  obtain ⟨K', R', g1, g2, g3, _⟩ := R2.keepSt h1
  refine ⟨hk.others R8 R2 (qws _ _ _ _) hG hsz, fun b hb => ((hk.n false).k b hb).2, K', ?_, fun l hl gh hgh => ?_, fun b hb => g2 b ((hk.n false).k b hb).1⟩
  · have ha : a.tmps.size = a2.tmps.size := R0.rel.size.trans R2.rel.size.symm
    refine R'.act (σ' := qWb s'.1 s'.2.1 s'.2.2.1 s'.2.2.2) rfl rfl ha (R0.rel.defers.trans R2.rel.defers.symm) (fun t => ?_)
    have h0 := R0.rel.tmps t
    simp only [St.look, lookL] at h0 ⊢
    by_cases h6 : 6 = t
    · subst h6
      simp only [if_true] at h0 ⊢
      obtain ⟨gh, pl, po, k1, k2⟩ := h0
      exact ⟨gh, pl, po, (g3 8 8 h2).trans (hk.k 8 gh k1), k2⟩
    · simp only [h6, if_false] at h0 ⊢
      by_cases h7 : 7 = t
      · subst h7
        simp only [if_true] at h0 ⊢
        obtain ⟨sh, pl, k1, k2⟩ := h0
        exact ⟨sh, pl, (g3 9 9 h3).trans (hk.k 9 _ k1), k2⟩
      · simp only [h7, if_false]
        trivial
  · rw [g1 l hl]; exact hk.k l gh hgh
theorem qoH {l n : Nat} {s s' : qFj} {b : Bool} (hstep : qng s b = some s') {K : Kn} {a a1 : Act} {W : World} (R0 : RelS c0 Tryz.prog GT (qTf Tryz.prog 77) (qWb s.1 s.2.1 s.2.2.1 s.2.2.2) K a W)
    (R8 : RelS c0 Tryz.prog GT (qTf Tryz.prog 77) (qUn s.1 s.2.1 s.2.2.1 s.2.2.2 b) K a1 W) (hG : ∀ b, c0.G b → qUb (qBb (qWb s.1 s.2.1 s.2.2.1 s.2.2.2).heap) K b)
    {Q : Exit → Act → World → Prop} (hQ : ∀ a' W', qJD c0 s s' K a W W' → Q .normal a' W') : (rfB eRF).wpIn (Fence.wide.inRound l) n Tryz.prog Q a1 W := by
  have h0 := qZC hstep
  unfold qHw at h0
  refine qvD (by kernel_rfl) ?_
  refine qpp (by kernel_rfl) ?_
  refine qtm (fun _ => trivial) rfl qPD (fun f hf => by cases hf) (by kernel_rfl) h0 R8 ?_
  intro σ1 K1 a2 W1 h1 R1 z1 k1
  show Code.wpIn _ _ _ (qaa (cIn (rfB eRF))) _ a2 W1
  refine qpp (by kernel_rfl) ?_
  refine qtm (fun _ => trivial) rfl qPD (fun f hf => by cases hf) (by kernel_rfl) h1 R1 ?_
  intro σ2 K2 a3 W2 h2 R2 z2 k2
  show Code.wpIn _ _ _ (qaa (qaa (cIn (rfB eRF)))) _ a3 W2
  split at h2
  · rename_i bv hbv
    have he : a3.eval (qkM (qaa (qaa (cIn (rfB eRF))))) = .bool bv := by
      have h19 : qkM (qaa (qaa (cIn (rfB eRF)))) = .tmp 19 := by kernel_rfl
      rw [h19]
      have := R2.rel.tmps 19
      rw [hbv] at this
      exact this
    refine qPK (by kernel_rfl) he ?_
    simp only [den] at h2
    by_cases hb : bv = true
    · subst hb
      simp only [if_true] at h2 ⊢
      refine qtm (fun _ => trivial) rfl qPD (fun f hf => by cases hf) (by kernel_rfl) h2 R2 ?_
      intro σ3 K3 a4 W3 h3 R3 z3 k3
      exact hQ _ _ (qep R0 R8 hG h3 (Nat.le_trans z1 (Nat.le_trans z2 z3)) R3 ((k1.trans k2).trans k3))
    · simp only [Bool.not_eq_true] at hb; subst hb
      simp only [Bool.false_eq_true, if_false] at h2 ⊢
      have hsk : qeO (qaa (qaa (cIn (rfB eRF)))) = .skip := by kernel_rfl
      rw [hsk]
      exact wpIn_skip (hQ _ _ (qep R0 R8 hG h2 (Nat.le_trans z1 z2) R2 (k1.trans k2)))
  · cases h2
theorem qXA {s : Pos} {b : List Int} {σ' : St} (h : qYA s = some (b, σ')) : s.st.look 11 = .one (.func 140 [64]) ∧ qBb s.st.heap 64 = some (.box (.slice (.int .u8)) (.pure false b)) ∧ keepSt s.st [6, 7] true true = some σ' ∧ qKd (qZB s.st [6, 7] true) 64 = none := by
  unfold qYA at h
  split at h
  · rename_i t y σ1 h1 h2 h3
    split at h
    · rename_i ht
      obtain ⟨rfl, hn⟩ := ht
      split at h
      · rename_i r hr
        simp only [Option.some.injEq, Prod.mk.injEq] at h
        obtain ⟨rfl, rfl⟩ := h
        simp only at hr
        subst hr
        exact ⟨h1, h2, h3, hn⟩
      · cases h
    · cases h
  · cases h
@[reducible] def qIw (a : Act) (b : Bool) : Act := ({ tmps := a.tmps.setIfInBounds 12 (.bool b), defers := [] } : Act).put (some 8) (.bool b)
theorem qoJ {s : qFj} {b : Bool} {K : Kn} {a : Act} {W : World} (hd : c0.df = []) (R0 : RelS c0 Tryz.prog GT (qTf Tryz.prog 77) (qWb s.1 s.2.1 s.2.2.1 s.2.2.2) K a W) :
    RelS c0 Tryz.prog GT (qTf Tryz.prog 77) (qUn s.1 s.2.1 s.2.2.1 s.2.2.2 b) K (qIw a b) W := by
  have hnt : qTf Tryz.prog 77 = 24 := by kernel_rfl
  have hs : a.tmps.size = 24 := R0.rel.size.trans hnt
  refine R0.act rfl rfl (by simp [Act.put]) (by simp [Act.put]; rw [R0.rel.defers, hd]) (fun t => ?_)
  have h0 := R0.rel.tmps t
  simp only [St.look, lookL] at h0 ⊢
  by_cases h8 : 8 = t
  · subst h8
    simp only [if_true]
    show (qIw a b).eval (.tmp 8) = .bool b
    simp [Act.eval, Act.put, hs]
  · simp only [h8, if_false]
    by_cases h6 : 6 = t
    · subst h6
      simp only [if_true] at h0 ⊢
      have : (qIw a b).eval (.tmp 6) = a.eval (.tmp 6) := by simp [Act.eval, Act.put, hs]
      rw [this]; exact h0
    · simp only [h6, if_false] at h0 ⊢
      by_cases h7 : 7 = t
      · subst h7
        simp only [if_true] at h0 ⊢
        have : (qIw a b).eval (.tmp 7) = a.eval (.tmp 7) := by simp [Act.eval, Act.put, hs]
        rw [this]; exact h0
      · simp only [h7, if_false]
        trivial
end each
section each
theorem qOM (e : Int) (c : qra) : qBb (quG e c).heap = lookL [(0, .box (.int .i64) e), (1, .box qoa (inj false qoa c))] := by
  rw [← qpi]; rfl
set_option maxRecDepth 100000 in
theorem qpJ {x : qca} {b : List Int} {e : Int} {c : qra} {r : qrz} (h : qqi x b e c = some r) :
    CallOK Tryz.prog GT 77 (qeF x b) (qGw e c) (.tup []) [(0, .box (.int .i64) r.1), (1, .box qoa (inj false qoa r.2))] := by
  unfold qqi at h
  obtain ⟨hlen, h⟩ := qLh h
  obtain ⟨hall, h⟩ := qLh h
  simp only [Option.bind_eq_some_iff] at h
  obtain ⟨sf, hsf, rf, hrf, h⟩ := h
  simp only [Option.some.injEq] at h; subst h
  intro w F G K0 vs hglob hinv hG hK hF hargs
  have hlenv := hargs.len
  have hfn : qtM Tryz.prog 77 3 = true := by kernel_rfl
  have hf := Tryz.func77
  generalize hfg : Tryz.f77 = fn at hf
  clear hfg
  unfold qtM at hfn
  rw [hf] at hfn
  simp only [Bool.and_eq_true, Bool.not_eq_true', decide_eq_true_eq] at hfn
  obtain ⟨⟨hbd, hnm⟩, hnt⟩ := hfn
  obtain ⟨body, hb⟩ := Option.isSome_iff_exists.1 hbd
  have hbody : body = eC0 := by simp [eC0, qda, hf, hb]
  have hcf : (callFunc 77 vs.toArray).run Tryz.prog w = .ok (.enter 77 vs.toArray) w := by
    have hnm' : ¬ fn.name = "runtime.NumGoroutine" := by simpa using hnm
    simp [callFunc, hf, hnm', hb]
  unfold qjp
  rw [hcf]
  have R0 := qXH (args := qeF x b) (pre := qGw e c) hf hnt rfl hglob hinv hK hargs
  refine (callsIn_wide (n := 3)).1 (callsIn_of_wp_marks hf hb trivial ?_ rfl)
  rw [hbody]
  have hG0 : ∀ q, (⟨w, F, G, (ngOf GT), []⟩ : Cx).G q → qUb (lookL (qGw e c)) K0 q := hG
  have hpost : ∀ v w', (∃ K', (∀ l gh, K0 l = some gh → K' l = some gh) ∧ Inv ⟨w, F, G, (ngOf GT), []⟩ (lookL [(0, .box (.int .i64) rf.2.2.2.1), (1, .box qoa (inj false qoa rf.2.2.2.2))]) K' w' ∧
      TVRd w' (NN ⟨w, F, G, (ngOf GT), []⟩ (lookL [(0, .box (.int .i64) rf.2.2.2.1), (1, .box qoa (inj false qoa rf.2.2.2.2))]) K' w') K' (.tup []) v) → (∃ v', Ending.returned v = .returned v' ∧ (∃ K', (∀ l gh, K0 l = some gh → K' l = some gh) ∧ Inv ⟨w, F, G, (ngOf GT), []⟩ (lookL [(0, .box (.int .i64) rf.2.2.2.1), (1, .box qoa (inj false qoa rf.2.2.2.2))]) K' w' ∧
      TVRd w' (NN ⟨w, F, G, (ngOf GT), []⟩ (lookL [(0, .box (.int .i64) rf.2.2.2.1), (1, .box qoa (inj false qoa rf.2.2.2.2))]) K' w') K' (.tup []) v')) := fun v w' hh => ⟨v, rfl, hh⟩
  have hK8 : ∀ l, 8 ≤ l → K0 l = none := by
    intro l hl
    refine hK l (qMk (fun hm => ?_))
    simp at hm; omega
  generalize hc0 : (⟨w, F, G, (ngOf GT), []⟩ : Cx) = c0 at R0 hG0 hpost
  have hdf : c0.df = [] := by rw [← hc0]
  have hw0 : c0.w0 = w := by rw [← hc0]
  have hpre := qcF x b e c
  rw [qrB] at hpre
  simp only [Option.bind_some] at hpre
  unfold qtG at hpre
  refine qpp (by kernel_rfl) ?_
  refine qtm (fun _ => trivial) rfl qkq (fun f hf => by cases hf) (by kernel_rfl) hpre R0 ?_
  intro σ1 K1 a1 W1 h1 R1 z1 k1
  show Code.wpIn _ _ _ eC1 _ a1 W1
  refine qpp (by kernel_rfl) ?_
  refine qtm (fun _ => trivial) rfl qkq (fun f hf => by cases hf) (by kernel_rfl) h1 R1 ?_
  intro σ2 K2 a2 W2 h2 R2 z2 k2
  show Code.wpIn _ _ _ eC2 _ a2 W2
  refine qpp (by kernel_rfl) ?_
  refine qtm (fun _ => trivial) rfl qkq (fun f hf => by cases hf) (by kernel_rfl) h2 R2 ?_
  intro σ3 K3 a3 W3 h3 R3 z3 k3
  show Code.wpIn _ _ _ eC3 _ a3 W3
  refine qpp (by kernel_rfl) ?_
  refine qpp (by kernel_rfl) ?_
  refine qtm (fun _ => trivial) rfl qkq (fun f hf => by cases hf) (by kernel_rfl) h3 R3 ?_
  intro σ4 K4 a4 W4 h4 R4 z4 k4
  show Code.wpIn _ _ _ (qaa eC4) _ a4 W4
  refine qvD (by kernel_rfl) ?_
  have hrf0 : cIn (qaa eC4) = .rangeFunc (rfF eRF) (rfP eRF) (rfA eRF) (rfB eRF) := rfC (c := eRF) (by kernel_rfl)
  rw [hrf0]
  simp only [lf0, den] at h4
  obtain ⟨l11, l64, hkp, hn64⟩ := qXA h4
  simp only at l11 l64 hkp hn64
  have hsz4 : w.heap.size ≤ W4.heap.size := Nat.le_trans z1 (Nat.le_trans z2 (Nat.le_trans z3 z4))
  have t11 := R4.rel.tmps 11
  rw [l11] at t11
  obtain ⟨us, t1, gh, p, ur, g1, g2, t2, t3⟩ := t11
  simp only [capsRd] at t3
  subst t3; subst t2
  obtain ⟨gh', e1, e2, p', cs, e3, e4, e5⟩ := R4.rel.inv.objs 64 _ l64
  rw [g1] at e1; injection e1 with e1; subst e1
  rw [g2] at e3; injection e3 with e3; subst e3
  obtain ⟨A0, cap, rfl, hle, hbytes⟩ := e5
  have hBs : W4.cell? ⟨p.blk, p.ob, none⟩ = some (.slice A0 b.length cap) := by simpa using e4.cells 0 _ rfl
  have hpb := (R4.rel.inv.own 64 _ gh p l64 g1 (.inl g2)).1
  obtain ⟨K5, R5, q1, q2, q3, q4⟩ := R4.keepSt hkp
  have hNB : NN c0 (qBb (qWb x [] e c).heap) K5 W4 false p.blk := q4 64 _ gh p hn64 l64 g1 (.inl g2)
  obtain ⟨bb, hH, hNb⟩ : ∃ bb, qDL W4 bb A0 b ∧ NN c0 (qBb (qWb x [] e c).heap) K5 W4 false bb := by
    rcases hbytes with rfl | ⟨b', o, cl, hA, hN, hc, hcat⟩
    · exact ⟨p.blk, .inl rfl, hNB⟩
    · refine ⟨b', .inr ⟨o, hA, fun j hj => ?_⟩, q2 b' hN⟩
      have hcl := qfh hcat
      refine hc j _ ?_
      rw [hcl, List.getElem?_map, List.getElem?_eq_getElem hj]; rfl
  have hK05 : ∀ l, l < 8 → ∀ g, K0 l = some g → K5 l = some g := fun l hl g hg => by rw [q1 l hl]; exact (((k1.trans k2).trans k3).trans k4).k l g hg
  have hG5 : ∀ (s : qFj) (K : Kn), (∀ l, l < 8 → ∀ g, K0 l = some g → K l = some g) → ∀ q, c0.G q → qUb (qBb (qWb s.1 s.2.1 s.2.2.1 s.2.2.2).heap) K q := by
    intro s K hk q hq
    obtain ⟨l, o, g, pp, h1, h2, h3, h4⟩ := hG0 q hq
    have hm := qac h1
    simp only [qGw, List.mem_cons, Prod.mk.injEq, List.not_mem_nil, or_false] at hm
    rcases hm with ⟨rfl, _⟩ | ⟨rfl, _⟩
    · exact ⟨0, _, g, pp, rfl, hk 0 (by omega) g h2, h3, h4⟩
    · exact ⟨1, _, g, pp, rfl, hk 1 (by omega) g h2, h3, h4⟩
  have hps : rfP eRF = #[12] := by kernel_rfl
  refine wpIn_rangeFunc_ownF (α := Bool) rfl (by omega) (gf := 140) (lb := #[.pointer (some ⟨p.blk, p.ob, none⟩)]) ?hg trivial ?eg (encs := fun x : Bool => #[.bool x]) (Kp := KpM (fun q => q = p.blk ∨ q = bb)) (S := fun xs => xs = qfu b) (Sp := fun _ => True) (N := 8 * b.length) (w0 := W4)
    (qBH (3 - 1) (by omega) p.blk p.ob bb cap A0 b hlen _ (.inl rfl) (.inr rfl) W4 hpb hNb.1 hBs hH) (fun h k => h.trans k) ?hKb (Below.refl _ _) ?hps
    (fun pre W => ∃ s K, qdh pre (x, [], e, c) = some s ∧ RelS c0 Tryz.prog GT (qTf Tryz.prog 77) (qWb s.1 s.2.1 s.2.2.1 s.2.2.2) K a4 W ∧ (∀ l, l < 8 → ∀ g, K0 l = some g → K l = some g) ∧
      NN c0 (qBb (qWb s.1 s.2.1 s.2.2.1 s.2.2.2).heap) K W false p.blk ∧ NN c0 (qBb (qWb s.1 s.2.1 s.2.2.1 s.2.2.2).heap) K W false bb)
    (fun _ _ _ => False) ?hI (fun _ _ _ _ _ h _ _ => h) ?h0 (fun bit => qIw a4 bit) ?assign ?body ?done ?stop
  case hg =>
    have h11 : rfF eRF = .tmp 11 := by kernel_rfl
    rw [h11, t1]
  case eg => exact enters_of Tryz.func140 (by kernel_rfl) rfl
  case hKb =>
    intro W l o o' _ ho hoc _ q v _ hv
    exact cell_kept hv (grownBy_putObj' W l o') (fun r e => by cases e; exact ⟨o, ho, hoc⟩)
  case hps => intro x; rw [hps]; rfl
  case hI =>
    rintro pre W W' row ⟨s, K, hs, R, hk, n1, n2⟩ hg hr
    refine ⟨s, K, hs, R.abide hg (fun r e => ⟨?_, (hr r e).2⟩) (qws _ _ _ _), hk, ⟨Nat.lt_of_lt_of_le n1.1 hg.size, n1.2⟩, ⟨Nat.lt_of_lt_of_le n2.1 hg.size, n2.2⟩⟩
    rw [hw0]
    exact Nat.le_trans hsz4 (hr r e).1
  case h0 => exact ⟨(x, [], e, c), K5, rfl, R5, hK05, hNB, hNb⟩
  case assign =>
    intro l bit W Kx hKx
    rw [hps]
    refine qiN (fun _ => trivial) (d := 8) (t := 12) (by kernel_rfl) ?_
    have hsz : a4.tmps.size = 24 := R4.rel.size.trans (by kernel_rfl)
    have : ({ tmps := (#[12].zip #[Value.bool bit]).foldl (fun t (x : Nat × Value) => t.setIfInBounds x.1 x.2) a4.tmps, defers := [] } : Act).eval (.tmp 12) = .bool bit := by
      simp [Act.eval, hsz]
    rw [this]
    simpa using hKx
  case body =>
    rintro l pre bit W ⟨s, K, hs, R, hk, n1, n2⟩ hlt
    have hok := hall (pre ++ [bit]) (by simp; omega)
    rw [qyl, hs] at hok
    simp only [Option.bind_some] at hok
    obtain ⟨s', hstep⟩ := Option.isSome_iff_exists.1 hok
    refine qoH hstep R (qoJ hdf R) (hG5 s K hk) ?_
    rintro a' W' ⟨hko, hsame, K', R', hm, hn⟩
    refine ⟨hko, fun q v hq hv => ?_, s', K', by rw [qyl, hs]; exact hstep, R', fun l hl g hg => hm l hl g (hk l hl g hg), hn _ n1, hn _ n2⟩
    rw [World.cell?_of_block (a := q) (hsame q.block (by rcases hq with hq | hq <;> rw [hq] <;> assumption))]
    exact hv
  case stop => rintro D cd pre W _ _ h _; exact h.elim
  case done =>
    rintro D xs W hD rfl ⟨s, K, hs, R, hk, n1, n2⟩ hdef
    rw [hs] at hsf
    simp only [Option.some.injEq] at hsf; subst hsf
    have hend := qdF s.1 s.2.1 s.2.2.1 s.2.2.2
    rw [hrf] at hend
    simp only [Option.bind_some] at hend
    have had : a4.defers = [] := R4.rel.defers.trans hdf
    rw [had]
    have Rd := R.df [{ target := .collected D, args := #[] }]
    show Code.wpIn _ _ _ eR8 _ _ W
    refine qtm (fun _ => trivial) rfl qkq (fun f hf => by cases hf) (by kernel_rfl) hend Rd ?_
    intro σ6 K6 a6 W6 h6 R6 z6 k6
    have hk6 := qpz h6
    obtain ⟨K7, R7, r1, _⟩ := R6.keepSt hk6
    have hD6 : W6.heap[D]? = some (.deferred (some [])) := (k6.others Rd R6 (qws _ _ _ _) (hG5 s K hk) z6).same D _ hdef rfl
    show LeavesInM _ _ _ fn a6.tmps _ a6.defers .returning W6
    rw [R6.rel.defers]
    refine ⟨by simp, .inl ⟨D, _, rfl, run_takeDeferred hD6, ?_⟩⟩
    have R8 := R7.abide (grownBy_putObj' W6 D (.deferred none)) (fun r hr => by
      injection hr with hr; subst hr
      exact ⟨by show c0.w0.heap.size ≤ D; rw [hw0]; exact Nat.le_trans hsz4 hD, _, hD6, rfl⟩) (fun k o hk => by
      unfold qBb at hk
      split at hk
      · rename_i ob hl
        subst hk
        have := qac hl
        simp only [List.mem_cons, Prod.mk.injEq, List.not_mem_nil, or_false, Option.some.injEq] at this
        rcases this with ⟨_, rfl⟩ | ⟨_, rfl⟩ <;> rfl
      · cases hk)
    have hrs : fn.results.toList = [] := by
      have : qKL Tryz.prog 77 = [] := by kernel_rfl
      simpa [qKL, hf] using this
    obtain ⟨v, hv1, hv2⟩ := qMF R8 (fn := fn) (res := .tup []) (by rw [hrs]; rfl)
    refine ⟨v, hv1, hpost v _ ⟨K7, fun l g hg => ?_, ?_, ?_⟩⟩
    · by_cases hl : l < 8
      · rw [r1 l hl]; exact k6.k l g (hk l hl g hg)
      · rw [hK8 l (by omega)] at hg; cases hg
    · have := R8.rel.inv
      rw [qOM] at this
      have := this.df []
      rw [hc0] at *
      rw [← hdf] at this
      exact this
    · exact hv2
noncomputable def qBl (avs : List AV) (pre : List (Nat × Obj)) : Option qrz :=
  match avs, pre with
  | [.agg t x, .sl t2 fr b, .func g [0, 1]], [(0, .box t3 e), (1, .box t4 c)] =>
    if h : t = qea ∧ t2 = .int .u8 ∧ fr = false ∧ g = 78 ∧ t3 = .int .i64 ∧ t4 = qoa then
      match unj qea (h.1 ▸ x), unj qoa (h.2.2.2.2.2 ▸ c) with
      | some x', some c' => if qyr false qea (h.1 ▸ x) && qyr false qoa (h.2.2.2.2.2 ▸ c) then qqi x' (h.2.1 ▸ b : List (pden (.int .u8))) (h.2.2.2.2.1 ▸ e : qFe (.int .i64)) c' else none
      | _, _ => none
    else none
  | _, _ => none
def qaD (r : qrz) : List (Nat × Obj) := [(0, .box (.int .i64) r.1), (1, .box qoa (inj false qoa r.2))]
set_option maxRecDepth 100000 in
theorem qqB {avs : List AV} {pre : List (Nat × Obj)} {r : qrz} (h : qBl avs pre = some r) : CallOK Tryz.prog GT 77 avs pre (.tup []) (qaD r) := by
  unfold qBl at h
  split at h
  · rename_i t x t2 fr b g t3 e t4 c
    split at h
    · rename_i hh
      obtain ⟨rfl, rfl, rfl, rfl, rfl, rfl⟩ := hh
      split at h
      · rename_i x' c' hx hc
        split at h
        · rename_i hf
          simp only [Bool.and_eq_true] at hf
          have ex := qhw hx hf.1
          have ec := qhw hc hf.2
          simp only at ex ec h
          have := qpJ h
          rw [← ex, ← ec]
          exact this
        · cases h
      · cases h
    · cases h
  · cases h
end each
end Go.Ab

set_option linter.unusedVariables false
set_option maxRecDepth 20000
namespace Go.Ab
open Go Go.Proofs
noncomputable def qpD (acc : List AV → Bool) : Summ Tryz.prog GT := { f := 77, acc := acc, rows := false, nils := false, R := qrz, fn := qBl, res := fun _ => .tup [], post := qaD, drop := false, ok := fun _ _ _ h => qqB h }
noncomputable def encoder_end_I : FnI Tryz.prog GT := { f := 108, cuts := [], tab := [qsb (fun _ => true)], fm := ⟨true, [.val (.slice (.int .u8)) [.nw]]⟩ }
noncomputable def qDw (a0 : qra) : Option (List Int) := encoder_end_I.call [(.agg qoa (inj false qoa a0))] []
theorem qsy (a0 : qra) : qDw a0 = (
(qcb a0.2.2.1).bind fun r1 =>
gd (0 ≤ (24 : Int)) <|
gd (0 ≤ (16 : Int)) <|
gd (0 ≤ (8 : Int)) <|
gd ((List.length (r1 ++ [(IntKind.wrap .u8 (Int.fdiv a0.1 (16777216 : Int))), (IntKind.wrap .u8 (Int.fdiv a0.1 (65536 : Int))), (IntKind.wrap .u8 (Int.fdiv a0.1 (256 : Int))), (IntKind.wrap .u8 a0.1)])) * 1 ≤ 140737488355328) <|
some (r1 ++ [(IntKind.wrap .u8 (Int.fdiv a0.1 (16777216 : Int))), (IntKind.wrap .u8 (Int.fdiv a0.1 (65536 : Int))), (IntKind.wrap .u8 (Int.fdiv a0.1 (256 : Int))), (IntKind.wrap .u8 a0.1)])) := (FnI.call_eq (by kernel_rfl)).trans (by kernel_rfl)
noncomputable def qQA (acc : List AV → Bool) : Summ Tryz.prog GT := encoder_end_I.summ mixed acc false false
noncomputable def encoder_End_I : FnI Tryz.prog GT := { f := 80, cuts := [], tab := [qWm (fun _ => true), qQA (fun _ => true)], fm := ⟨true, [.val (.slice (.int .u8)) [.nw], .val (.int .i64) []]⟩ }
noncomputable def qSp (a0 : qra) : Option (List Int × Int) := encoder_End_I.call [(.agg qoa (inj false qoa a0))] []
theorem qvy (a0 : qra) : qSp a0 = (
(qii a0).bind fun r1 =>
if (r1 != (0 : Int)) = true then
some ([], r1)
else
if (decide ((Int.ofNat (List.length a0.2.2.1)) > (19996 : Int))) = true then
some ([], (4 : Int))
else
(qDw a0).bind fun r2 =>
some (r2, (0 : Int))) := (FnI.call_eq (by kernel_rfl)).trans (by kernel_rfl)
noncomputable def qVA (acc : List AV → Bool) : Summ Tryz.prog GT := encoder_End_I.summ mixed acc false false
noncomputable def codec_Encode_I : FnI Tryz.prog GT := { f := 46, cuts := [], tab := [(qnr (fun _ => true)).dropping, qTA (fun _ => true), (qpD (fun _ => true)).dropping, qVA (fun _ => true)], fm := ⟨true, [.val (.slice (.int .u8)) [.nw], .val (.int .i64) []]⟩ }
noncomputable def qdn (a0 : Int) (a1 : List Int) : Option (List Int × Int) := codec_Encode_I.call [(.int .i64 a0), (.sl (.int .u8) false a1)] []
theorem qZw (a0 : Int) (a1 : List Int) : qdn a0 a1 = (
(qWp a0 (Int.ofNat (List.length a1))).bind fun r1 =>
if (r1.2 != (0 : Int)) = true then
some ([], r1.2)
else
(qFw).bind fun r2 =>
(qqi r1.1 a1 r1.2 r2).bind fun r3 =>
if (r3.1 != (0 : Int)) = true then
some ([], (4 : Int))
else
(qSp r3.2).bind fun r4 =>
some (r4)) := (FnI.call_eq (by kernel_rfl)).trans (by kernel_rfl)
noncomputable def qLy (acc : List AV → Bool) : Summ Tryz.prog GT := codec_Encode_I.summ mixed acc false false
noncomputable def header_front_I : FnI Tryz.prog GT := { f := 109, cuts := [⟨(3, 3), [3, 18, 19], false, false, []⟩, ⟨(6, 7), [3, 4, 5, 18, 19, 25, 26], false, false, []⟩], tab := [], fm := ⟨true, [.val (.slice (.int .u8)) [.nw]]⟩ }
noncomputable def qLm (a0 : qfa) : Option (List Int) := header_front_I.call [(.agg qya (inj false qya a0))] []
noncomputable def qpc (v18 : (List Int)) (v19 : Int) (h8 : List Int) : Option (List Int) := header_front_I.sem ⟨[.code (cIn (cIn (qaa (qGa (qaa (qaa (qda Tryz.prog 109))))))), .inLoop (cIn (cIn (qaa (qGa (qaa (qaa (qda Tryz.prog 109))))))), .inBlock 0, .code (qaa (qaa (qaa (qda Tryz.prog 109))))], ⟨[(3, (.one (.ref (.int .u8) 8 0 (List.length h8) true))), (18, (.one (.agg (.arr 5 (.int .i64)) v18))), (19, (.one (.int .i64 v19)))], [(8, some (.row (.int .u8) true h8))], 9⟩⟩
noncomputable def qEi (v4 : Int) (v5 : Int) (v18 : (List Int)) (v19 : Int) (v25 : Int) (v26 : Int) (h8 : List Int) : Option (List Int) := header_front_I.sem ⟨[.code (cIn (cIn (qaa (qaa (cIn (qGa (qaa (qaa (cIn (cIn (qaa (qGa (qaa (qaa (qda Tryz.prog 109))))))))))))))), .inLoop (cIn (cIn (qaa (qaa (cIn (qGa (qaa (qaa (cIn (cIn (qaa (qGa (qaa (qaa (qda Tryz.prog 109))))))))))))))), .inBlock 2, .inBlock 1, .code (qaa (qaa (qaa (cIn (cIn (qaa (qGa (qaa (qaa (qda Tryz.prog 109)))))))))), .inLoop (cIn (cIn (qaa (qGa (qaa (qaa (qda Tryz.prog 109))))))), .inBlock 0, .code (qaa (qaa (qaa (qda Tryz.prog 109))))], ⟨[(3, (.one (.ref (.int .u8) 8 0 (List.length h8) true))), (4, (.one (.int .i64 v4))), (5, (.one (.int .i64 v5))), (18, (.one (.agg (.arr 5 (.int .i64)) v18))), (19, (.one (.int .i64 v19))), (25, (.one (.int .i64 v25))), (26, (.one (.int .i64 v26)))], [(8, some (.row (.int .u8) true h8))], 9⟩⟩
theorem qiw (a0 : qfa) : qLm a0 = (
qpc (List.set (List.set (List.set (List.set (List.set (List.replicate 5 (0 : Int)) 0 (IntKind.wrap .i64 a0.1)) 1 a0.2.1) 2 a0.2.2.1) 3 a0.2.2.2.1) 4 a0.2.2.2.2.1) (0 : Int) []) := (FnI.call_eq (by kernel_rfl)).trans (by kernel_rfl)
theorem qjg (v18 : (List Int)) (v19 : Int) (h8 : List Int) : qpc v18 v19 h8 = (
if (decide (v19 < (5 : Int))) = true then
gd (0 ≤ v19) <|
gd (v19 < (5 : Int)) <|
gd (0 ≤ v19) <|
gd (v19 < (5 : Int)) <|
qEi v19 (List.getD v18 (Int.toNat v19) (0 : Int)) v18 v19 (List.getD G_widths (Int.toNat v19) (0 : Int)) (0 : Int) h8
else
some (h8)) := (FnI.sem_eq _).trans (by kernel_rfl)
theorem qMc (v4 : Int) (v5 : Int) (v18 : (List Int)) (v19 : Int) (v25 : Int) (v26 : Int) (h8 : List Int) : qEi v4 v5 v18 v19 v25 v26 h8 = (
if (decide (v26 < v25)) = true then
gd (0 ≤ v4) <|
gd (v4 < (5 : Int)) <|
gd (0 ≤ (IntKind.wrap .i64 ((8 : Int) * (IntKind.wrap .i64 ((IntKind.wrap .i64 ((List.getD G_widths (Int.toNat v4) (0 : Int)) - (1 : Int))) - v26))))) <|
gd ((List.length (h8 ++ [(IntKind.wrap .u8 (qjh .i64 v5 (IntKind.wrap .i64 ((8 : Int) * (IntKind.wrap .i64 ((IntKind.wrap .i64 ((List.getD G_widths (Int.toNat v4) (0 : Int)) - (1 : Int))) - v26))))))])) * 1 ≤ 140737488355328) <|
qEi v4 v5 v18 v19 v25 (IntKind.wrap .i64 (v26 + (1 : Int))) (h8 ++ [(IntKind.wrap .u8 (qjh .i64 v5 (IntKind.wrap .i64 ((8 : Int) * (IntKind.wrap .i64 ((IntKind.wrap .i64 ((List.getD G_widths (Int.toNat v4) (0 : Int)) - (1 : Int))) - v26))))))])
else
qpc v18 (IntKind.wrap .i64 (v19 + (1 : Int))) h8) := (FnI.sem_eq _).trans (by kernel_rfl)
noncomputable def qey (acc : List AV → Bool) : Summ Tryz.prog GT := header_front_I.summ mixed acc false false
noncomputable def sha_pad_I : FnI Tryz.prog GT := { f := 56, cuts := [⟨(3, 3), [0, 3, 4], false, false, []⟩], tab := [], fm := ⟨true, [.val (.slice (.int .u8)) [.nw]]⟩ }
noncomputable def qcE (a0 : Int) : Option (List Int) := sha_pad_I.call [(.int .i64 a0)] []
noncomputable def qJn (v0 : Int) (v4 : Int) (h8 : List Int) : Option (List Int) := sha_pad_I.sem ⟨[.code (cIn (cIn (qaa (qGa (qaa (qaa (qda Tryz.prog 56))))))), .inLoop (cIn (cIn (qaa (qGa (qaa (qaa (qda Tryz.prog 56))))))), .inBlock 0, .code (qaa (qaa (qaa (qda Tryz.prog 56))))], ⟨[(0, (.one (.int .i64 v0))), (3, (.one (.ref (.int .u8) 8 0 (List.length h8) true))), (4, (.one (.int .i64 v4)))], [(8, some (.row (.int .u8) true h8))], 9⟩⟩
theorem qJG (a0 : Int) : qcE a0 = (
gd ((64 : Int) ≠ 0) <|
gd ((64 : Int) ≠ 0) <|
gd (0 ≤ (Int.tmod (IntKind.wrap .i64 ((119 : Int) - (Int.tmod a0 (64 : Int)))) (64 : Int))) <|
gd ((Int.tmod (IntKind.wrap .i64 ((119 : Int) - (Int.tmod a0 (64 : Int)))) (64 : Int)) * 1 ≤ 140737488355328) <|
gd ((Int.tmod (IntKind.wrap .i64 ((119 : Int) - (Int.tmod a0 (64 : Int)))) (64 : Int)) ≤ 9223372036854775807) <|
gd ((List.length ([(128 : Int)] ++ (List.replicate (Int.toNat (Int.tmod (IntKind.wrap .i64 ((119 : Int) - (Int.tmod a0 (64 : Int)))) (64 : Int))) (0 : Int)))) * 1 ≤ 140737488355328) <|
qJn a0 (56 : Int) ([(128 : Int)] ++ (List.replicate (Int.toNat (Int.tmod (IntKind.wrap .i64 ((119 : Int) - (Int.tmod a0 (64 : Int)))) (64 : Int))) (0 : Int)))) := (FnI.call_eq (by kernel_rfl)).trans (by kernel_rfl)
theorem qrq (v0 : Int) (v4 : Int) (h8 : List Int) : qJn v0 v4 h8 = (
if (decide (v4 ≥ (0 : Int))) = true then
gd (0 ≤ v4) <|
gd ((List.length (h8 ++ [(IntKind.wrap .u8 (qjh .u64 (IntKind.wrap .u64 ((IntKind.wrap .u64 v0) * (8 : Int))) v4))])) * 1 ≤ 140737488355328) <|
qJn v0 (IntKind.wrap .i64 (v4 - (8 : Int))) (h8 ++ [(IntKind.wrap .u8 (qjh .u64 (IntKind.wrap .u64 ((IntKind.wrap .u64 v0) * (8 : Int))) v4))])
else
some (h8)) := (FnI.sem_eq _).trans (by kernel_rfl)
noncomputable def qbI (acc : List AV → Bool) : Summ Tryz.prog GT := sha_pad_I.summ mixed acc false false
noncomputable def slices_Grow_byte_byte_I : FnI Tryz.prog GT := { f := 86, cuts := [], tab := [], fm := ⟨true, [.part (.int .u8)]⟩ }
noncomputable def qje (a1 : Int) : Option (List Int × Nat × Nat) := slices_Grow_byte_byte_I.call [.nil, (.int .i64 a1)] []
theorem qBk (a1 : Int) : qje a1 = (
if (decide (a1 < (0 : Int))) = true then
none
else
if (decide ((IntKind.wrap .i64 (a1 - (0 : Int))) > (0 : Int))) = true then
gd (0 ≤ (0 : Int)) <|
gd ((0 : Int) ≤ (0 : Int)) <|
gd (0 ≤ (IntKind.wrap .i64 (a1 - (0 : Int)))) <|
gd ((IntKind.wrap .i64 (a1 - (0 : Int))) * 1 ≤ 140737488355328) <|
gd ((IntKind.wrap .i64 (a1 - (0 : Int))) ≤ 9223372036854775807) <|
gd ((List.length (List.replicate (Int.toNat (IntKind.wrap .i64 (a1 - (0 : Int)))) (0 : Int))) * 1 ≤ 140737488355328) <|
gd (0 ≤ (0 : Int)) <|
gd ((0 : Int) ≤ (Int.ofNat (List.length (List.replicate (Int.toNat (IntKind.wrap .i64 (a1 - (0 : Int)))) (0 : Int))))) <|
some ((List.replicate (Int.toNat (IntKind.wrap .i64 (a1 - (0 : Int)))) (0 : Int)), (0, 0))
else
some ([], (0, 0))) := (FnI.call_eq (by kernel_rfl)).trans (by kernel_rfl)
noncomputable def qfl (acc : List AV → Bool) : Summ Tryz.prog GT := slices_Grow_byte_byte_I.summ mixed acc false true
noncomputable def slices_Concat_byte_byte_I : FnI Tryz.prog GT := { f := 55, cuts := [⟨(3, 3), [0, 3, 9, 10, 11], false, false, []⟩, ⟨(11, 3), [6, 25, 26, 27], false, false, []⟩], tab := [qfl (fun _ => true)], fm := ⟨true, [.val (.slice (.int .u8)) [.pu]]⟩ }
noncomputable def qzd (a0 : List (List Int)) : Option (List Int) := slices_Concat_byte_byte_I.call [(.sl (.slice (.int .u8)) false a0)] []
noncomputable def qAc (v0 : List (List Int)) (v3 : Int) (v9 : List (List Int)) (v10 : Int) (v11 : Int) : Option (List Int) := slices_Concat_byte_byte_I.sem ⟨[.code (cIn (cIn (qaa (qGa (qaa (qaa (qda Tryz.prog 55))))))), .inLoop (cIn (cIn (qaa (qGa (qaa (qaa (qda Tryz.prog 55))))))), .inBlock 0, .code (qaa (qaa (qaa (qda Tryz.prog 55))))], ⟨[(0, (.one (.sl (.slice (.int .u8)) false v0))), (3, (.one (.int .i64 v3))), (9, (.one (.sl (.slice (.int .u8)) false v9))), (10, (.one (.int .i64 v10))), (11, (.one (.int .i64 v11)))], [], 8⟩⟩
noncomputable def qOe (v6o : Nat) (v6n : Nat) (v25 : List (List Int)) (v26 : Int) (v27 : Int) (h8 : List Int) : Option (List Int) := slices_Concat_byte_byte_I.sem ⟨[.code (cIn (cIn (qaa (qGa (qaa (qaa (qaa (qaa (qda Tryz.prog 55))))))))), .inLoop (cIn (cIn (qaa (qGa (qaa (qaa (qaa (qaa (qda Tryz.prog 55))))))))), .inBlock 2, .code (qaa (qaa (qaa (qaa (qaa (qda Tryz.prog 55))))))], ⟨[(6, (.one (.ref (.int .u8) 8 v6o v6n false))), (25, (.one (.sl (.slice (.int .u8)) false v25))), (26, (.one (.int .i64 v26))), (27, (.one (.int .i64 v27)))], [(8, some (.row (.int .u8) true h8))], 9⟩⟩
noncomputable def qzc (v25 : List (List Int)) (v26 : Int) (v27 : Int) (h8 : List Int) : Option (List Int) := slices_Concat_byte_byte_I.sem ⟨[.code (cIn (cIn (qaa (qGa (qaa (qaa (qaa (qaa (qda Tryz.prog 55))))))))), .inLoop (cIn (cIn (qaa (qGa (qaa (qaa (qaa (qaa (qda Tryz.prog 55))))))))), .inBlock 2, .code (qaa (qaa (qaa (qaa (qaa (qda Tryz.prog 55))))))], ⟨[(6, (.one (.ref (.int .u8) 8 0 (List.length h8) true))), (25, (.one (.sl (.slice (.int .u8)) false v25))), (26, (.one (.int .i64 v26))), (27, (.one (.int .i64 v27)))], [(8, some (.row (.int .u8) true h8))], 9⟩⟩
theorem qXi (a0 : List (List Int)) : qzd a0 = (
qAc a0 (0 : Int) a0 (Int.ofNat (List.length a0)) (0 : Int)) := (FnI.call_eq (by kernel_rfl)).trans (by kernel_rfl)
theorem qVb (v0 : List (List Int)) (v3 : Int) (v9 : List (List Int)) (v10 : Int) (v11 : Int) : qAc v0 v3 v9 v10 v11 = (
if (decide (v11 < v10)) = true then
gd (0 ≤ v11) <|
gd (v11 < (Int.ofNat (List.length v9))) <|
if (decide ((IntKind.wrap .i64 (v3 + (Int.ofNat (List.length (List.getD v9 (Int.toNat v11) []))))) < (0 : Int))) = true then
none
else
qAc v0 (IntKind.wrap .i64 (v3 + (Int.ofNat (List.length (List.getD v9 (Int.toNat v11) []))))) v9 v10 (IntKind.wrap .i64 (v11 + (1 : Int)))
else
(qje v3).bind fun r1 =>
qOe r1.2.1 r1.2.2 v0 (Int.ofNat (List.length v0)) (0 : Int) r1.1) := (FnI.sem_eq _).trans (by kernel_rfl)
theorem qJh (v6o : Nat) (v6n : Nat) (v25 : List (List Int)) (v26 : Int) (v27 : Int) (h8 : List Int) : qOe v6o v6n v25 v26 v27 h8 = (
if (decide (v27 < v26)) = true then
gd (0 ≤ v27) <|
gd (v27 < (Int.ofNat (List.length v25))) <|
gd ((List.length ((List.take v6n (List.drop v6o h8)) ++ (List.getD v25 (Int.toNat v27) []))) * 1 ≤ 140737488355328) <|
qzc v25 v26 (IntKind.wrap .i64 (v27 + (1 : Int))) ((List.take v6n (List.drop v6o h8)) ++ (List.getD v25 (Int.toNat v27) []))
else
some (List.take v6n (List.drop v6o h8))) := (FnI.sem_eq _).trans (by kernel_rfl)
theorem qDd (v25 : List (List Int)) (v26 : Int) (v27 : Int) (h8 : List Int) : qzc v25 v26 v27 h8 = (
if (decide (v27 < v26)) = true then
gd (0 ≤ v27) <|
gd (v27 < (Int.ofNat (List.length v25))) <|
gd ((List.length (h8 ++ (List.getD v25 (Int.toNat v27) []))) * 1 ≤ 140737488355328) <|
qzc v25 v26 (IntKind.wrap .i64 (v27 + (1 : Int))) (h8 ++ (List.getD v25 (Int.toNat v27) []))
else
some (h8)) := (FnI.sem_eq _).trans (by kernel_rfl)
noncomputable def qZj (acc : List AV → Bool) : Summ Tryz.prog GT := slices_Concat_byte_byte_I.summ mixed acc false false
noncomputable def math_bits_RotateLeft32_I : FnI Tryz.prog GT := { f := 87, cuts := [], tab := [], fm := ⟨true, [.val (.int .u32) []]⟩ }
noncomputable def qQa (a0 : Int) (a1 : Int) : Option (Int) := math_bits_RotateLeft32_I.call [(.int .u32 a0), (.int .i64 a1)] []
theorem qek (a0 : Int) (a1 : Int) : qQa a0 a1 = (
gd (0 ≤ (qDa .u64 (IntKind.wrap .u64 a1) (31 : Int))) <|
gd (0 ≤ (IntKind.wrap .u64 ((32 : Int) - (qDa .u64 (IntKind.wrap .u64 a1) (31 : Int))))) <|
some (qFb .u32 (IntKind.wrap .u32 (qMr .u32 a0 (qDa .u64 (IntKind.wrap .u64 a1) (31 : Int)))) (qjh .u32 a0 (IntKind.wrap .u64 ((32 : Int) - (qDa .u64 (IntKind.wrap .u64 a1) (31 : Int))))))) := (FnI.call_eq (by kernel_rfl)).trans (by kernel_rfl)
noncomputable def qJk (acc : List AV → Bool) : Summ Tryz.prog GT := math_bits_RotateLeft32_I.summ mixed acc false false
noncomputable def sha_mix_I : FnI Tryz.prog GT := { f := 88, cuts := [], tab := [], fm := ⟨true, [.val (.int .u32) []]⟩ }
noncomputable def qMz (a0 : Int) (a1 : Int) (a2 : Int) (a3 : Int) : Option (Int) := sha_mix_I.call [(.int .i64 a0), (.int .u32 a1), (.int .u32 a2), (.int .u32 a3)] []
theorem qKG (a0 : Int) (a1 : Int) (a2 : Int) (a3 : Int) : qMz a0 a1 a2 a3 = (
if (a0 == (0 : Int)) = true then
some (qNa .u32 a3 (qDa .u32 a1 (qNa .u32 a2 a3)))
else
if (a0 == (2 : Int)) = true then
some (qFb .u32 (qDa .u32 a1 a2) (qDa .u32 a3 (qFb .u32 a1 a2)))
else
some (qNa .u32 (qNa .u32 a1 a2) a3)) := (FnI.call_eq (by kernel_rfl)).trans (by kernel_rfl)
noncomputable def qcI (acc : List AV → Bool) : Summ Tryz.prog GT := sha_mix_I.summ mixed acc false false
noncomputable def sha_do_I : FnI Tryz.prog GT := { f := 57, cuts := [⟨(3, 3), [2, 4, 5, 16, 17, 18], false, false, []⟩, ⟨(9, 3), [2, 4, 5, 8, 9, 10, 11, 12, 45], false, false, []⟩], tab := [qJk (fun _ => true), qcI (fun _ => true)], fm := ⟨true, [.val (.arr 5 (.int .u32)) []]⟩ }
noncomputable def qeI (a0 : (List Int)) (a1 : List Int) : Option ((List Int)) := sha_do_I.call [(.agg (.arr 5 (.int .u32)) a0), (.sl (.int .u8) false a1)] []
noncomputable def qwi (v16 : List Int) (v17 : Int) (v18 : Int) (b8 : (List Int)) (b9 : (List Int)) (b10 : (List Int)) : Option ((List Int)) := sha_do_I.sem ⟨[.code (cIn (cIn (qaa (qGa (qaa (qaa (qda Tryz.prog 57))))))), .inLoop (cIn (cIn (qaa (qGa (qaa (qaa (qda Tryz.prog 57))))))), .inBlock 0, .code (qaa (qaa (qaa (qda Tryz.prog 57))))], ⟨[(2, (.one (.ptr (.arr 5 (.int .u32)) 8 []))), (4, (.one (.ptr (.arr 5 (.int .u32)) 9 []))), (5, (.one (.ptr (.arr 16 (.int .u32)) 10 []))), (16, (.one (.sl (.int .u8) false v16))), (17, (.one (.int .i64 v17))), (18, (.one (.int .i64 v18)))], [(8, some (.box (.arr 5 (.int .u32)) b8)), (9, some (.box (.arr 5 (.int .u32)) b9)), (10, some (.box (.arr 16 (.int .u32)) b10))], 11⟩⟩
noncomputable def qmm (v8 : Int) (v9 : Int) (v10 : Int) (v11 : Int) (v12 : Int) (v45 : Int) (b8 : (List Int)) (b9 : (List Int)) (b10 : (List Int)) : Option ((List Int)) := sha_do_I.sem ⟨[.code (cIn (cIn (qaa (qGa (qaa (qaa (qaa (qaa (qda Tryz.prog 57))))))))), .inLoop (cIn (cIn (qaa (qGa (qaa (qaa (qaa (qaa (qda Tryz.prog 57))))))))), .inBlock 2, .code (qaa (qaa (qaa (qaa (qaa (qda Tryz.prog 57))))))], ⟨[(2, (.one (.ptr (.arr 5 (.int .u32)) 8 []))), (4, (.one (.ptr (.arr 5 (.int .u32)) 9 []))), (5, (.one (.ptr (.arr 16 (.int .u32)) 10 []))), (8, (.one (.int .u32 v8))), (9, (.one (.int .u32 v9))), (10, (.one (.int .u32 v10))), (11, (.one (.int .u32 v11))), (12, (.one (.int .u32 v12))), (45, (.one (.int .i64 v45)))], [(8, some (.box (.arr 5 (.int .u32)) b8)), (9, some (.box (.arr 5 (.int .u32)) b9)), (10, some (.box (.arr 16 (.int .u32)) b10))], 11⟩⟩
theorem qdI (a0 : (List Int)) (a1 : List Int) : qeI a0 a1 = (
gd (0 ≤ (64 : Int)) <|
gd ((64 : Int) ≤ (Int.ofNat (List.length a1))) <|
qwi (List.take 64 a1) (Int.ofNat (List.length (List.take 64 a1))) (0 : Int) a0 (List.replicate 5 (0 : Int)) (List.replicate 16 (0 : Int))) := (FnI.call_eq (by kernel_rfl)).trans (by kernel_rfl)
theorem qUs (v16 : List Int) (v17 : Int) (v18 : Int) (b8 : (List Int)) (b9 : (List Int)) (b10 : (List Int)) : qwi v16 v17 v18 b8 b9 b10 = (
if (decide (v18 < v17)) = true then
gd (0 ≤ v18) <|
gd (v18 < (Int.ofNat (List.length v16))) <|
gd ((4 : Int) ≠ 0) <|
gd ((4 : Int) ≠ 0) <|
gd (0 ≤ (IntKind.wrap .i64 (Int.tdiv v18 (4 : Int)))) <|
gd ((IntKind.wrap .i64 (Int.tdiv v18 (4 : Int))) < (16 : Int)) <|
gd (0 ≤ (8 : Int)) <|
gd (0 ≤ (IntKind.wrap .i64 (Int.tdiv v18 (4 : Int)))) <|
gd ((IntKind.wrap .i64 (Int.tdiv v18 (4 : Int))) < (16 : Int)) <|
qwi v16 v17 (IntKind.wrap .i64 (v18 + (1 : Int))) b8 b9 (List.set b10 (Int.toNat (IntKind.wrap .i64 (Int.tdiv v18 (4 : Int)))) (qFb .u32 (IntKind.wrap .u32 ((List.getD b10 (Int.toNat (IntKind.wrap .i64 (Int.tdiv v18 (4 : Int)))) (0 : Int)) * (256 : Int))) (IntKind.wrap .u32 (List.getD v16 (Int.toNat v18) (0 : Int)))))
else
gd (0 ≤ (0 : Int)) <|
gd ((0 : Int) < (5 : Int)) <|
gd (0 ≤ (1 : Int)) <|
gd ((1 : Int) < (5 : Int)) <|
gd (0 ≤ (2 : Int)) <|
gd ((2 : Int) < (5 : Int)) <|
gd (0 ≤ (3 : Int)) <|
gd ((3 : Int) < (5 : Int)) <|
gd (0 ≤ (4 : Int)) <|
gd ((4 : Int) < (5 : Int)) <|
qmm (List.getD b8 0 (0 : Int)) (List.getD b8 1 (0 : Int)) (List.getD b8 2 (0 : Int)) (List.getD b8 3 (0 : Int)) (List.getD b8 4 (0 : Int)) (0 : Int) b8 b9 b10) := (FnI.sem_eq _).trans (by kernel_rfl)
theorem qTs (v8 : Int) (v9 : Int) (v10 : Int) (v11 : Int) (v12 : Int) (v45 : Int) (b8 : (List Int)) (b9 : (List Int)) (b10 : (List Int)) : qmm v8 v9 v10 v11 v12 v45 b8 b9 b10 = (
if (decide (v45 < (80 : Int))) = true then
if (decide (v45 ≥ (16 : Int))) = true then
gd ((16 : Int) ≠ 0) <|
gd ((16 : Int) ≠ 0) <|
gd (0 ≤ (Int.tmod (IntKind.wrap .i64 (v45 + (13 : Int))) (16 : Int))) <|
gd ((Int.tmod (IntKind.wrap .i64 (v45 + (13 : Int))) (16 : Int)) < (16 : Int)) <|
gd ((16 : Int) ≠ 0) <|
gd (0 ≤ (Int.tmod (IntKind.wrap .i64 (v45 + (8 : Int))) (16 : Int))) <|
gd ((Int.tmod (IntKind.wrap .i64 (v45 + (8 : Int))) (16 : Int)) < (16 : Int)) <|
gd ((16 : Int) ≠ 0) <|
gd (0 ≤ (Int.tmod (IntKind.wrap .i64 (v45 + (2 : Int))) (16 : Int))) <|
gd ((Int.tmod (IntKind.wrap .i64 (v45 + (2 : Int))) (16 : Int)) < (16 : Int)) <|
gd ((16 : Int) ≠ 0) <|
gd (0 ≤ (Int.tmod v45 (16 : Int))) <|
gd ((Int.tmod v45 (16 : Int)) < (16 : Int)) <|
(qQa (qNa .u32 (qNa .u32 (qNa .u32 (List.getD b10 (Int.toNat (Int.tmod (IntKind.wrap .i64 (v45 + (13 : Int))) (16 : Int))) (0 : Int)) (List.getD b10 (Int.toNat (Int.tmod (IntKind.wrap .i64 (v45 + (8 : Int))) (16 : Int))) (0 : Int))) (List.getD b10 (Int.toNat (Int.tmod (IntKind.wrap .i64 (v45 + (2 : Int))) (16 : Int))) (0 : Int))) (List.getD b10 (Int.toNat (Int.tmod v45 (16 : Int))) (0 : Int))) (1 : Int)).bind fun r1 =>
gd (0 ≤ (Int.tmod v45 (16 : Int))) <|
gd ((Int.tmod v45 (16 : Int)) < (16 : Int)) <|
(qQa v8 (5 : Int)).bind fun r2 =>
gd ((20 : Int) ≠ 0) <|
(qMz (IntKind.wrap .i64 (Int.tdiv v45 (20 : Int))) v9 v10 v11).bind fun r3 =>
gd ((20 : Int) ≠ 0) <|
gd (0 ≤ (IntKind.wrap .i64 (Int.tdiv v45 (20 : Int)))) <|
gd ((IntKind.wrap .i64 (Int.tdiv v45 (20 : Int))) < (4 : Int)) <|
gd ((16 : Int) ≠ 0) <|
gd (0 ≤ (Int.tmod v45 (16 : Int))) <|
gd ((Int.tmod v45 (16 : Int)) < (16 : Int)) <|
(qQa v9 (30 : Int)).bind fun r4 =>
qmm (IntKind.wrap .u32 ((IntKind.wrap .u32 ((IntKind.wrap .u32 ((IntKind.wrap .u32 (r2 + r3)) + v12)) + (List.getD G_quarters (Int.toNat (IntKind.wrap .i64 (Int.tdiv v45 (20 : Int)))) (0 : Int)))) + (List.getD (List.set b10 (Int.toNat (Int.tmod v45 (16 : Int))) r1) (Int.toNat (Int.tmod v45 (16 : Int))) (0 : Int)))) v8 r4 v10 v11 (IntKind.wrap .i64 (v45 + (1 : Int))) b8 b9 (List.set b10 (Int.toNat (Int.tmod v45 (16 : Int))) r1)
else
(qQa v8 (5 : Int)).bind fun r5 =>
gd ((20 : Int) ≠ 0) <|
(qMz (IntKind.wrap .i64 (Int.tdiv v45 (20 : Int))) v9 v10 v11).bind fun r6 =>
gd ((20 : Int) ≠ 0) <|
gd (0 ≤ (IntKind.wrap .i64 (Int.tdiv v45 (20 : Int)))) <|
gd ((IntKind.wrap .i64 (Int.tdiv v45 (20 : Int))) < (4 : Int)) <|
gd ((16 : Int) ≠ 0) <|
gd (0 ≤ (Int.tmod v45 (16 : Int))) <|
gd ((Int.tmod v45 (16 : Int)) < (16 : Int)) <|
(qQa v9 (30 : Int)).bind fun r7 =>
qmm (IntKind.wrap .u32 ((IntKind.wrap .u32 ((IntKind.wrap .u32 ((IntKind.wrap .u32 (r5 + r6)) + v12)) + (List.getD G_quarters (Int.toNat (IntKind.wrap .i64 (Int.tdiv v45 (20 : Int)))) (0 : Int)))) + (List.getD b10 (Int.toNat (Int.tmod v45 (16 : Int))) (0 : Int)))) v8 r7 v10 v11 (IntKind.wrap .i64 (v45 + (1 : Int))) b8 b9 b10
else
gd (0 ≤ (0 : Int)) <|
gd ((0 : Int) < (5 : Int)) <|
gd (0 ≤ (1 : Int)) <|
gd ((1 : Int) < (5 : Int)) <|
gd (0 ≤ (2 : Int)) <|
gd ((2 : Int) < (5 : Int)) <|
gd (0 ≤ (3 : Int)) <|
gd ((3 : Int) < (5 : Int)) <|
gd (0 ≤ (4 : Int)) <|
gd ((4 : Int) < (5 : Int)) <|
some (List.set (List.set (List.set (List.set (List.set (List.replicate 5 (0 : Int)) 0 (IntKind.wrap .u32 ((List.getD b8 0 (0 : Int)) + v8))) 1 (IntKind.wrap .u32 ((List.getD b8 1 (0 : Int)) + v9))) 2 (IntKind.wrap .u32 ((List.getD b8 2 (0 : Int)) + v10))) 3 (IntKind.wrap .u32 ((List.getD b8 3 (0 : Int)) + v11))) 4 (IntKind.wrap .u32 ((List.getD b8 4 (0 : Int)) + v12)))) := (FnI.sem_eq _).trans (by kernel_rfl)
noncomputable def qhK (acc : List AV → Bool) : Summ Tryz.prog GT := sha_do_I.summ mixed acc false false
noncomputable def sha_Sum_I : FnI Tryz.prog GT := { f := 29, cuts := [⟨(5, 3), [2, 4, 5], false, false, []⟩, ⟨(9, 3), [2, 27, 28], false, false, []⟩], tab := [qbI (fun _ => true), qZj (fun _ => true), qhK (fun _ => true)], fm := ⟨true, [.val (.arr 20 (.int .u8)) [], .val (.int .i64) []]⟩ }
noncomputable def qNr (a0 : List Int) : Option ((List Int) × Int) := sha_Sum_I.call [(.sl (.int .u8) false a0)] []
noncomputable def qLn (v5 : List Int) (b8 : (List Int)) (b9 : (List Int)) : Option ((List Int) × Int) := sha_Sum_I.sem ⟨[.code (cIn (cIn (qaa (qGa (qaa (qaa (qaa (qda Tryz.prog 29)))))))), .inLoop (cIn (cIn (qaa (qGa (qaa (qaa (qaa (qda Tryz.prog 29)))))))), .inBlock 0, .code (qaa (qaa (qaa (qaa (qda Tryz.prog 29)))))], ⟨[(2, (.one (.ptr (.arr 20 (.int .u8)) 8 []))), (4, (.one (.ptr (.arr 5 (.int .u32)) 9 []))), (5, (.one (.sl (.int .u8) true v5)))], [(8, some (.box (.arr 20 (.int .u8)) b8)), (9, some (.box (.arr 5 (.int .u32)) b9))], 10⟩⟩
noncomputable def qKn (v27 : (List Int)) (v28 : Int) (b8 : (List Int)) : Option ((List Int) × Int) := sha_Sum_I.sem ⟨[.code (cIn (cIn (qaa (qGa (qaa (qaa (qaa (qaa (qda Tryz.prog 29))))))))), .inLoop (cIn (cIn (qaa (qGa (qaa (qaa (qaa (qaa (qda Tryz.prog 29))))))))), .inBlock 2, .code (qaa (qaa (qaa (qaa (qaa (qda Tryz.prog 29))))))], ⟨[(2, (.one (.ptr (.arr 20 (.int .u8)) 8 []))), (27, (.one (.agg (.arr 5 (.int .u32)) v27))), (28, (.one (.int .i64 v28)))], [(8, some (.box (.arr 20 (.int .u8)) b8))], 9⟩⟩
theorem qLG (a0 : List Int) : qNr a0 = (
if (decide ((Int.ofNat (List.length a0)) > (20000 : Int))) = true then
some ((List.replicate 20 (0 : Int)), (4 : Int))
else
(qcE (Int.ofNat (List.length a0))).bind fun r1 =>
(qzd [a0, r1]).bind fun r2 =>
qLn r2 (List.replicate 20 (0 : Int)) (List.set (List.set (List.set (List.set (List.set (List.replicate 5 (0 : Int)) 0 (1732584193 : Int)) 1 (4023233417 : Int)) 2 (2562383102 : Int)) 3 (271733878 : Int)) 4 (3285377520 : Int))) := (FnI.call_eq (by kernel_rfl)).trans (by kernel_rfl)
theorem qtq (v5 : List Int) (b8 : (List Int)) (b9 : (List Int)) : qLn v5 b8 b9 = (
if (decide ((Int.ofNat (List.length v5)) > (0 : Int))) = true then
(qeI b9 v5).bind fun r3 =>
gd (0 ≤ (64 : Int)) <|
gd ((64 : Int) ≤ (Int.ofNat (List.length v5))) <|
qLn (List.drop 64 v5) b8 r3
else
qKn b9 (0 : Int) b8) := (FnI.sem_eq _).trans (by kernel_rfl)
theorem qsq (v27 : (List Int)) (v28 : Int) (b8 : (List Int)) : qKn v27 v28 b8 = (
if (decide (v28 < (5 : Int))) = true then
gd (0 ≤ v28) <|
gd (v28 < (5 : Int)) <|
gd (0 ≤ (24 : Int)) <|
gd (0 ≤ (16 : Int)) <|
gd (0 ≤ (8 : Int)) <|
gd (0 ≤ (IntKind.wrap .i64 ((4 : Int) * v28))) <|
gd ((IntKind.wrap .i64 ((4 : Int) * v28)) < (20 : Int)) <|
gd (0 ≤ (IntKind.wrap .i64 ((IntKind.wrap .i64 ((4 : Int) * v28)) + (1 : Int)))) <|
gd ((IntKind.wrap .i64 ((IntKind.wrap .i64 ((4 : Int) * v28)) + (1 : Int))) < (20 : Int)) <|
gd (0 ≤ (IntKind.wrap .i64 ((IntKind.wrap .i64 ((4 : Int) * v28)) + (2 : Int)))) <|
gd ((IntKind.wrap .i64 ((IntKind.wrap .i64 ((4 : Int) * v28)) + (2 : Int))) < (20 : Int)) <|
gd (0 ≤ (IntKind.wrap .i64 ((IntKind.wrap .i64 ((4 : Int) * v28)) + (3 : Int)))) <|
gd ((IntKind.wrap .i64 ((IntKind.wrap .i64 ((4 : Int) * v28)) + (3 : Int))) < (20 : Int)) <|
qKn v27 (IntKind.wrap .i64 (v28 + (1 : Int))) (List.set (List.set (List.set (List.set b8 (Int.toNat (IntKind.wrap .i64 ((4 : Int) * v28))) (IntKind.wrap .u8 (Int.fdiv (List.getD v27 (Int.toNat v28) (0 : Int)) (16777216 : Int)))) (Int.toNat (IntKind.wrap .i64 ((IntKind.wrap .i64 ((4 : Int) * v28)) + (1 : Int)))) (IntKind.wrap .u8 (Int.fdiv (List.getD v27 (Int.toNat v28) (0 : Int)) (65536 : Int)))) (Int.toNat (IntKind.wrap .i64 ((IntKind.wrap .i64 ((4 : Int) * v28)) + (2 : Int)))) (IntKind.wrap .u8 (Int.fdiv (List.getD v27 (Int.toNat v28) (0 : Int)) (256 : Int)))) (Int.toNat (IntKind.wrap .i64 ((IntKind.wrap .i64 ((4 : Int) * v28)) + (3 : Int)))) (IntKind.wrap .u8 (List.getD v27 (Int.toNat v28) (0 : Int))))
else
some (b8, (0 : Int))) := (FnI.sem_eq _).trans (by kernel_rfl)
noncomputable def qRu (acc : List AV → Bool) : Summ Tryz.prog GT := sha_Sum_I.summ mixed acc false false
noncomputable def header_digest_I : FnI Tryz.prog GT := { f := 81, cuts := [], tab := [qey (fun _ => true), qRu (fun _ => true)], fm := ⟨true, [.val (.arr 20 (.int .u8)) []]⟩ }
noncomputable def qrl (a0 : qfa) (a1 : List Int) : Option ((List Int)) := header_digest_I.call [(.agg qya (inj false qya a0)), (.sl (.int .u8) false a1)] []
theorem qYl (a0 : qfa) (a1 : List Int) : qrl a0 a1 = (
(qLm a0).bind fun r1 =>
gd ((List.length (r1 ++ a1)) * 1 ≤ 140737488355328) <|
(qNr (r1 ++ a1)).bind fun r2 =>
some (r2.1)) := (FnI.call_eq (by kernel_rfl)).trans (by kernel_rfl)
noncomputable def qjw (acc : List AV → Bool) : Summ Tryz.prog GT := header_digest_I.summ mixed acc false false
noncomputable def header_Right_I : FnI Tryz.prog GT := { f := 48, cuts := [], tab := [qgk (fun _ => true), qjw (fun _ => true)], fm := ⟨true, [.val .bool [], .val (.int .i64) []]⟩ }
noncomputable def qte (a0 : qfa) (a1 : List Int) : Option (Bool × Int) := header_Right_I.call [(.agg qya (inj false qya a0)), (.sl (.int .u8) false a1)] []
theorem qFi (a0 : qfa) (a1 : List Int) : qte a0 a1 = (
(qsh a0).bind fun r1 =>
if (r1 != (0 : Int)) = true then
some (false, r1)
else
if ((Int.ofNat (List.length a1)) == a0.2.2.2.1) = true then
(qrl a0 a1).bind fun r2 =>
some ((peq (.arr 20 (.int .u8)) r2 a0.2.2.2.2.2.1), (0 : Int))
else
some (false, (0 : Int))) := (FnI.call_eq (by kernel_rfl)).trans (by kernel_rfl)
noncomputable def qXo (acc : List AV → Bool) : Summ Tryz.prog GT := header_Right_I.summ mixed acc false false
noncomputable def block_Raw_I : FnI Tryz.prog GT := { f := 22, cuts := [], tab := [qvB (fun _ => true), qdx (fun _ => true), qmi (fun _ => true), qNy (fun _ => true), qLy (fun _ => true), qtr (fun _ => true), qXo (fun _ => true)], fm := ⟨true, [.val (.slice (.int .u8)) [.nw], .val (.int .i64) []]⟩ }
noncomputable def qOi (a0 : Int) (a1 : qPa) : Option (List Int × Int) := block_Raw_I.call [(.int .i64 a0), (.agg qXb (inj false qXb a1))] []
theorem qrt (a0 : Int) (a1 : qPa) : qOi a0 a1 = (
(qZp a1).bind fun r1 =>
if (r1 != (0 : Int)) = true then
some ([], r1)
else
(qDl a0).bind fun r2 =>
if (not r2) = true then
some ([], (2 : Int))
else
(quf a1.2.1).bind fun r3 =>
if (a1.1.1 == (2 : Int)) = true then
(qen a0 a1.2.1 a1.1.2.2.2.1).bind fun r4 =>
if (r4.2 != (0 : Int)) = true then
some ([], (12 : Int))
else
(qdn a0 r4.1).bind fun r5 =>
if (r5.2 != (0 : Int)) = true then
some ([], (12 : Int))
else
(qYp r5.1 a1.2.1).bind fun r6 =>
if (not r6) = true then
some ([], (12 : Int))
else
(qte a1.1 r4.1).bind fun r7 =>
if (not r7.1) = true then
some ([], (22 : Int))
else
some (r4.1, (0 : Int))
else
(qte a1.1 r3).bind fun r8 =>
if (not r8.1) = true then
some ([], (22 : Int))
else
some (r3, (0 : Int))) := (FnI.call_eq (by kernel_rfl)).trans (by kernel_rfl)
noncomputable def qtF (acc : List AV → Bool) : Summ Tryz.prog GT := block_Raw_I.summ mixed acc false false
noncomputable def salvage_Salvage_I : FnI Tryz.prog GT := { f := 6, cuts := [⟨(7, 3), [0, 1, 6, 7, 8], false, false, []⟩], tab := [qsA (fun _ => true), quD (fun _ => true), qtF (fun _ => true)], fm := ⟨true, [.val (.slice T_api_Found) [.nw], .val (.int .i64) []]⟩ }
noncomputable def qOb (a0 : Int) (a1 : List Int) : Option (List qha × Int) := salvage_Salvage_I.call [(.int .i64 a0), (.sl (.int .u8) false a1)] []
noncomputable def qyb (v0 : Int) (v1 : List Int) (v7 : Int) (v8 : Int) (h8 : List qha) : Option (List qha × Int) := salvage_Salvage_I.sem ⟨[.code (cIn (cIn (qaa (qGa (qaa (qaa (qaa (qda Tryz.prog 6)))))))), .inLoop (cIn (cIn (qaa (qGa (qaa (qaa (qaa (qda Tryz.prog 6)))))))), .inBlock 1, .code (qaa (qaa (qaa (qaa (qda Tryz.prog 6)))))], ⟨[(0, (.one (.int .i64 v0))), (1, (.one (.sl (.int .u8) false v1))), (6, (.one (.ref T_api_Found 8 0 (List.length h8) true))), (7, (.one (.int .i64 v7))), (8, (.one (.int .i64 v8)))], [(8, some (.row T_api_Found true h8))], 9⟩⟩
theorem qwq (a0 : Int) (a1 : List Int) : qOb a0 a1 = (
if (decide (a0 < (0 : Int))) = true then
some ([], (2 : Int))
else
if (decide (a0 > (7 : Int))) = true then
some ([], (2 : Int))
else
if (decide ((Int.ofNat (List.length a1)) > (50000 : Int))) = true then
some ([], (4 : Int))
else
(qVc a1 (0 : Int)).bind fun r1 =>
qyb a0 a1 r1.1 r1.2 []) := (FnI.call_eq (by kernel_rfl)).trans (by kernel_rfl)
theorem qkh (v0 : Int) (v1 : List Int) (v7 : Int) (v8 : Int) (h8 : List qha) : qyb v0 v1 v7 v8 h8 = (
if (v8 == (0 : Int)) = true then
gd (0 ≤ v7) <|
gd (v7 ≤ (Int.ofNat (List.length v1))) <|
(qKs (List.drop (Int.toNat v7) v1)).bind fun r2 =>
if (r2.2.2 != (0 : Int)) = true then
(qVc v1 (IntKind.wrap .i64 (v7 + (1 : Int)))).bind fun r3 =>
qyb v0 v1 r3.1 r3.2 h8
else
(qOi v0 r2.1).bind fun r4 =>
if (r4.2 != (0 : Int)) = true then
(qVc v1 (IntKind.wrap .i64 (v7 + (1 : Int)))).bind fun r5 =>
qyb v0 v1 r5.1 r5.2 h8
else
gd ((List.length (h8 ++ [(v7, (r2.1.1, (r4.1, ())))])) * 96 ≤ 140737488355328) <|
(qVc v1 (IntKind.wrap .i64 (v7 + r2.2.1))).bind fun r6 =>
qyb v0 v1 r6.1 r6.2 (h8 ++ [(v7, (r2.1.1, (r4.1, ())))])
else
some (h8, (0 : Int))) := (FnI.sem_eq _).trans (by kernel_rfl)
noncomputable def qOr (acc : List AV → Bool) : Summ Tryz.prog GT := salvage_Salvage_I.summ mixed acc false false
noncomputable def member_isName_I : FnI Tryz.prog GT := { f := 63, cuts := [⟨(2, 3), [0, 5, 6], false, false, []⟩], tab := [], fm := ⟨true, [.val .bool []]⟩ }
noncomputable def qci (a0 : ByteArray) : Option (Bool) := member_isName_I.call [(.str a0)] []
noncomputable def qkf (v0 : ByteArray) (v5 : Int) (v6 : Int) : Option (Bool) := member_isName_I.sem ⟨[.code (cIn (cIn (qaa (qGa (qaa (qda Tryz.prog 63)))))), .inLoop (cIn (cIn (qaa (qGa (qaa (qda Tryz.prog 63)))))), .inBlock 0, .code (qaa (qaa (qda Tryz.prog 63)))], ⟨[(0, (.one (.str v0))), (5, (.one (.int .i64 v5))), (6, (.one (.int .i64 v6)))], [], 8⟩⟩
theorem qWl (a0 : ByteArray) : qci a0 = (
qkf a0 (Int.ofNat (ByteArray.size a0)) (0 : Int)) := (FnI.call_eq (by kernel_rfl)).trans (by kernel_rfl)
theorem qBd (v0 : ByteArray) (v5 : Int) (v6 : Int) : qkf v0 v5 v6 = (
if (decide (v6 < v5)) = true then
gd (0 ≤ v6) <|
gd (v6 < (v0.size : Int)) <|
if (decide ((qGr v0 (Int.toNat v6)) ≤ (32 : Int))) = true then
some (false)
else
gd (0 ≤ v6) <|
gd (v6 < (v0.size : Int)) <|
if (decide ((qGr v0 (Int.toNat v6)) > (126 : Int))) = true then
some (false)
else
qkf v0 v5 (IntKind.wrap .i64 (v6 + (1 : Int)))
else
if (decide ((Int.ofNat (ByteArray.size v0)) > (0 : Int))) = true then
some (decide ((Int.ofNat (ByteArray.size v0)) ≤ (40 : Int)))
else
some (false)) := (FnI.sem_eq _).trans (by kernel_rfl)
noncomputable def qRv (acc : List AV → Bool) : Summ Tryz.prog GT := member_isName_I.summ mixed acc false false
noncomputable def member_digest_I : FnI Tryz.prog GT := { f := 37, cuts := [], tab := [qRu (fun _ => true)], fm := ⟨true, [.val (.arr 20 (.int .u8)) []]⟩ }
noncomputable def qgg (a0 : List Int) : Option ((List Int)) := member_digest_I.call [(.sl (.int .u8) false a0)] []
theorem qXl (a0 : List Int) : qgg a0 = (
(qNr a0).bind fun r1 =>
some (r1.1)) := (FnI.call_eq (by kernel_rfl)).trans (by kernel_rfl)
noncomputable def qAm (acc : List AV → Bool) : Summ Tryz.prog GT := member_digest_I.summ mixed acc false false
noncomputable def member_twice_I : FnI Tryz.prog GT := { f := 64, cuts := [⟨(3, 3), [3, 7, 8, 9], false, false, []⟩], tab := [], fm := ⟨true, [.val .bool []]⟩ }
noncomputable def qsj (a0 : List ByteArray) : Option (Bool) := member_twice_I.call [(.sl .str false a0)] []
noncomputable def qfg (v7 : List ByteArray) (v8 : Int) (v9 : Int) (m8 : List (ByteArray × Bool)) : Option (Bool) := member_twice_I.sem ⟨[.code (cIn (cIn (qaa (qGa (qaa (qaa (qda Tryz.prog 64))))))), .inLoop (cIn (cIn (qaa (qGa (qaa (qaa (qda Tryz.prog 64))))))), .inBlock 0, .code (qaa (qaa (qaa (qda Tryz.prog 64))))], ⟨[(3, (.one (.mapr 8))), (7, (.one (.sl .str false v7))), (8, (.one (.int .i64 v8))), (9, (.one (.int .i64 v9)))], [(8, some (.map .str .bool m8))], 9⟩⟩
theorem qzm (a0 : List ByteArray) : qsj a0 = (
qfg a0 (Int.ofNat (List.length a0)) (0 : Int) []) := (FnI.call_eq (by kernel_rfl)).trans (by kernel_rfl)
theorem qSd (v7 : List ByteArray) (v8 : Int) (v9 : Int) (m8 : List (ByteArray × Bool)) : qfg v7 v8 v9 m8 = (
if (decide (v9 < v8)) = true then
gd (0 ≤ v9) <|
gd (v9 < (Int.ofNat (List.length v7))) <|
if (Option.getD (qal (peq .str) (List.getD v7 (Int.toNat v9) ByteArray.empty) m8) false) = true then
some (true)
else
qfg v7 v8 (IntKind.wrap .i64 (v9 + (1 : Int))) (qPx (peq .str) (List.getD v7 (Int.toNat v9) ByteArray.empty) true m8)
else
some (false)) := (FnI.sem_eq _).trans (by kernel_rfl)
noncomputable def qVx (acc : List AV → Bool) : Summ Tryz.prog GT := member_twice_I.summ mixed acc false false
noncomputable def member_Valid_I : FnI Tryz.prog GT := { f := 36, cuts := [⟨(6, 3), [3, 4, 10, 11, 12], false, false, []⟩], tab := [qRv (fun _ => true), qAm (fun _ => true), qVx (fun _ => true)], fm := ⟨true, [.val (.int .i64) []]⟩ }
noncomputable def qrh (a0 : List qba) : Option (Int) := member_Valid_I.call [(.sl T_api_Record false a0)] []
noncomputable def qre (v3 : Int) (v10 : List qba) (v11 : Int) (v12 : Int) (h8 : List ByteArray) : Option (Int) := member_Valid_I.sem ⟨[.code (cIn (cIn (qaa (qGa (qaa (qaa (qaa (qaa (qda Tryz.prog 36))))))))), .inLoop (cIn (cIn (qaa (qGa (qaa (qaa (qaa (qaa (qda Tryz.prog 36))))))))), .inBlock 0, .code (qaa (qaa (qaa (qaa (qaa (qda Tryz.prog 36))))))], ⟨[(3, (.one (.int .i64 v3))), (4, (.one (.ref .str 8 0 (List.length h8) true))), (10, (.one (.sl T_api_Record false v10))), (11, (.one (.int .i64 v11))), (12, (.one (.int .i64 v12)))], [(8, some (.row .str true h8))], 9⟩⟩
theorem qBm (a0 : List qba) : qrh a0 = (
if (decide ((Int.ofNat (List.length a0)) > (16 : Int))) = true then
some (4 : Int)
else
qre (0 : Int) a0 (Int.ofNat (List.length a0)) (0 : Int) []) := (FnI.call_eq (by kernel_rfl)).trans (by kernel_rfl)
theorem qTd (v3 : Int) (v10 : List qba) (v11 : Int) (v12 : Int) (h8 : List ByteArray) : qre v3 v10 v11 v12 h8 = (
if (decide (v12 < v11)) = true then
gd (0 ≤ v12) <|
gd (v12 < (Int.ofNat (List.length v10))) <|
(qci (List.getD v10 (Int.toNat v12) (qpa T_api_Record)).1).bind fun r1 =>
if (not r1) = true then
some (8 : Int)
else
if (decide ((List.getD v10 (Int.toNat v12) (qpa T_api_Record)).2.1 < (0 : Int))) = true then
some (8 : Int)
else
if (decide ((List.getD v10 (Int.toNat v12) (qpa T_api_Record)).2.1 > (8192 : Int))) = true then
some (8 : Int)
else
if ((List.getD v10 (Int.toNat v12) (qpa T_api_Record)).2.1 == (0 : Int)) = true then
(qgg []).bind fun r2 =>
if (not (peq (.arr 20 (.int .u8)) (List.getD v10 (Int.toNat v12) (qpa T_api_Record)).2.2.1 r2)) = true then
some (8 : Int)
else
gd ((List.length (h8 ++ [(List.getD v10 (Int.toNat v12) (qpa T_api_Record)).1])) * 16 ≤ 140737488355328) <|
qre (IntKind.wrap .i64 (v3 + (List.getD v10 (Int.toNat v12) (qpa T_api_Record)).2.1)) v10 v11 (IntKind.wrap .i64 (v12 + (1 : Int))) (h8 ++ [(List.getD v10 (Int.toNat v12) (qpa T_api_Record)).1])
else
gd ((List.length (h8 ++ [(List.getD v10 (Int.toNat v12) (qpa T_api_Record)).1])) * 16 ≤ 140737488355328) <|
qre (IntKind.wrap .i64 (v3 + (List.getD v10 (Int.toNat v12) (qpa T_api_Record)).2.1)) v10 v11 (IntKind.wrap .i64 (v12 + (1 : Int))) (h8 ++ [(List.getD v10 (Int.toNat v12) (qpa T_api_Record)).1])
else
if (decide (v3 > (8192 : Int))) = true then
some (4 : Int)
else
(qsj h8).bind fun r3 =>
if r3 = true then
some (14 : Int)
else
some (0 : Int)) := (FnI.sem_eq _).trans (by kernel_rfl)
noncomputable def qPo (acc : List AV → Bool) : Summ Tryz.prog GT := member_Valid_I.summ mixed acc false false
noncomputable def salvage_check_I : FnI Tryz.prog GT := { f := 26, cuts := [⟨(7, 3), [18, 19, 20], false, false, []⟩], tab := [qPo (fun _ => true), qXo (fun _ => true)], fm := ⟨true, [.val (.int .i64) []]⟩ }
noncomputable def qZh (a0 : List qba) (a1 : List qha) : Option (Int) := salvage_check_I.call [(.sl T_api_Record false a0), (.sl T_api_Found false a1)] []
noncomputable def qjf (v18 : List qha) (v19 : Int) (v20 : Int) : Option (Int) := salvage_check_I.sem ⟨[.code (cIn (cIn (qaa (qGa (qaa (qaa (qaa (qda Tryz.prog 26)))))))), .inLoop (cIn (cIn (qaa (qGa (qaa (qaa (qaa (qda Tryz.prog 26)))))))), .inBlock 0, .code (qaa (qaa (qaa (qaa (qda Tryz.prog 26)))))], ⟨[(18, (.one (.sl T_api_Found false v18))), (19, (.one (.int .i64 v19))), (20, (.one (.int .i64 v20)))], [], 8⟩⟩
theorem qPl (a0 : List qba) (a1 : List qha) : qZh a0 a1 = (
(qrh a0).bind fun r1 =>
if (r1 != (0 : Int)) = true then
some (r1)
else
if (decide ((Int.ofNat (List.length a1)) > (600 : Int))) = true then
some (4 : Int)
else
qjf a1 (Int.ofNat (List.length a1)) (0 : Int)) := (FnI.call_eq (by kernel_rfl)).trans (by kernel_rfl)
theorem qrf (v18 : List qha) (v19 : Int) (v20 : Int) : qjf v18 v19 v20 = (
if (decide (v20 < v19)) = true then
gd (0 ≤ v20) <|
gd (v20 < (Int.ofNat (List.length v18))) <|
(qte (List.getD v18 (Int.toNat v20) (qpa T_api_Found)).2.1 (List.getD v18 (Int.toNat v20) (qpa T_api_Found)).2.2.1).bind fun r2 =>
if (not r2.1) = true then
some (8 : Int)
else
if (decide ((List.getD v18 (Int.toNat v20) (qpa T_api_Found)).1 < (0 : Int))) = true then
some (8 : Int)
else
qjf v18 v19 (IntKind.wrap .i64 (v20 + (1 : Int)))
else
some (0 : Int)) := (FnI.sem_eq _).trans (by kernel_rfl)
noncomputable def qXu (acc : List AV → Bool) : Summ Tryz.prog GT := salvage_check_I.summ mixed acc false false
noncomputable def salvage_Parts_1_I : FnI Tryz.prog GT := { f := 27, cuts := [⟨(5, 3), [2, 3, 5, 34, 35, 36], false, true, []⟩, ⟨(12, 3), [2, 5, 61, 62, 63], false, true, []⟩], tab := [], fm := ⟨false, [.val .bool [], .box 0 (.slice T_api_Record) [.pu], .cmap 1 2, .map 2 qua (.int .u8)]⟩ }
noncomputable def qxi (a0 : qha) (b0 : (List qba)) (m2 : List (qma × Int)) : Option (Bool × (List qba) × Unit × List (qma × Int)) := salvage_Parts_1_I.call [(.agg T_api_Found (inj false T_api_Found a0)), (.ptr (.slice T_api_Record) 0 []), (.cptr 1)] [(0, (.box (.slice T_api_Record) (SV.pure false b0))), (1, (.cell (.mapr 2))), (2, (.map qua (.int .u8) m2))]
noncomputable def qGc (v34 : List Int) (v35 : Int) (v36 : Int) (b0 : (List qba)) (m2 : List (qma × Int)) (b8 : qha) (b9 : qfa) : Option (Bool × (List qba) × Unit × List (qma × Int)) := salvage_Parts_1_I.sem ⟨[.code (cIn (cIn (qaa (qGa (qaa (qaa (qaa (qda Tryz.prog 27)))))))), .inLoop (cIn (cIn (qaa (qGa (qaa (qaa (qaa (qda Tryz.prog 27)))))))), .inBlock 0, .code (qaa (qaa (qaa (qaa (qda Tryz.prog 27)))))], ⟨[(2, (.one (.cptr 1))), (3, (.one (.ptr T_api_Found 8 []))), (5, (.one (.ptr qya 9 []))), (34, (.one (.sl (.int .u8) false v34))), (35, (.one (.int .i64 v35))), (36, (.one (.int .i64 v36)))], [(0, some (.box (.slice T_api_Record) (SV.pure false b0))), (1, some (.cell (.mapr 2))), (2, some (.map qua (.int .u8) m2)), (8, some (.box T_api_Found (inj false T_api_Found b8))), (9, some (.box qya (inj false qya b9)))], 13⟩⟩
noncomputable def qAb (v61 : List Int) (v62 : Int) (v63 : Int) (b0 : (List qba)) (m2 : List (qma × Int)) (b8 : qfa) : Option (Bool × (List qba) × Unit × List (qma × Int)) := salvage_Parts_1_I.sem ⟨[.code (cIn (cIn (qaa (qGa (qaa (qaa (qaa (qaa (qda Tryz.prog 27))))))))), .inLoop (cIn (cIn (qaa (qGa (qaa (qaa (qaa (qaa (qda Tryz.prog 27))))))))), .inBlock 2, .code (qaa (qaa (qaa (qaa (qaa (qda Tryz.prog 27))))))], ⟨[(2, (.one (.cptr 1))), (5, (.one (.ptr qya 8 []))), (61, (.one (.sl (.int .u8) false v61))), (62, (.one (.int .i64 v62))), (63, (.one (.int .i64 v63)))], [(0, some (.box (.slice T_api_Record) (SV.pure false b0))), (1, some (.cell (.mapr 2))), (2, some (.map qua (.int .u8) m2)), (8, some (.box qya (inj false qya b8)))], 12⟩⟩
theorem qxq (a0 : qha) (b0 : (List qba)) (m2 : List (qma × Int)) : qxi a0 b0 m2 = (
if (decide (a0.2.1.2.1 ≥ (Int.ofNat (List.length b0)))) = true then
some (false, (b0, ((), m2)))
else
gd (0 ≤ a0.2.1.2.1) <|
gd (a0.2.1.2.1 < (Int.ofNat (List.length b0))) <|
if (decide ((IntKind.wrap .i64 (a0.2.1.2.2.1 + a0.2.1.2.2.2.1)) > (List.getD b0 (Int.toNat a0.2.1.2.1) (qpa T_api_Record)).2.1)) = true then
some (false, (b0, ((), m2)))
else
qGc a0.2.2.1 (Int.ofNat (List.length a0.2.2.1)) (0 : Int) b0 m2 a0 a0.2.1) := (FnI.call_eq (by kernel_rfl)).trans (by kernel_rfl)
theorem qnh (v34 : List Int) (v35 : Int) (v36 : Int) (b0 : (List qba)) (m2 : List (qma × Int)) (b8 : qha) (b9 : qfa) : qGc v34 v35 v36 b0 m2 b8 b9 = (
if (decide (v36 < v35)) = true then
gd (0 ≤ v36) <|
gd (v36 < (Int.ofNat (List.length v34))) <|
if (Option.isSome (qal (peq qua) (b9.2.1, ((IntKind.wrap .i64 (b9.2.2.1 + v36)), ())) m2)) = true then
if ((Option.getD (qal (peq qua) (b9.2.1, ((IntKind.wrap .i64 (b9.2.2.1 + v36)), ())) m2) (0 : Int)) != (List.getD v34 (Int.toNat v36) (0 : Int))) = true then
some (false, (b0, ((), m2)))
else
qGc v34 v35 (IntKind.wrap .i64 (v36 + (1 : Int))) b0 m2 b8 b9
else
qGc v34 v35 (IntKind.wrap .i64 (v36 + (1 : Int))) b0 m2 b8 b9
else
qAb b8.2.2.1 (Int.ofNat (List.length b8.2.2.1)) (0 : Int) b0 m2 b9) := (FnI.sem_eq _).trans (by kernel_rfl)
theorem qmh (v61 : List Int) (v62 : Int) (v63 : Int) (b0 : (List qba)) (m2 : List (qma × Int)) (b8 : qfa) : qAb v61 v62 v63 b0 m2 b8 = (
if (decide (v63 < v62)) = true then
gd (0 ≤ v63) <|
gd (v63 < (Int.ofNat (List.length v61))) <|
qAb v61 v62 (IntKind.wrap .i64 (v63 + (1 : Int))) b0 (qPx (peq qua) (b8.2.1, ((IntKind.wrap .i64 (b8.2.2.1 + v63)), ())) (List.getD v61 (Int.toNat v63) (0 : Int)) m2) b8
else
some (true, (b0, ((), m2)))) := (FnI.sem_eq _).trans (by kernel_rfl)
noncomputable def qPr (acc : List AV → Bool) : Summ Tryz.prog GT := salvage_Parts_1_I.summ mixed acc false false
noncomputable def salvage_Parts_I : FnI Tryz.prog GT := { f := 8, cuts := [⟨(8, 3), [8, 9, 20, 21, 22], false, false, []⟩], tab := [qXu (fun _ => true), (qPr (fun _ => true)).dropping, qmi (fun _ => true)], fm := ⟨true, [.val (.slice qFa) [.nw], .val (.int .i64) []]⟩ }
noncomputable def qag (a0 : List qba) (a1 : List qha) : Option (List qxa × Int) := salvage_Parts_I.call [(.sl T_api_Record false a0), (.sl T_api_Found false a1)] []
noncomputable def qEd (v20 : List qha) (v21 : Int) (v22 : Int) (b8 : (List qba)) (h10 : List qxa) (m11 : List (qma × Int)) : Option (List qxa × Int) := salvage_Parts_I.sem ⟨[.code (cIn (cIn (qaa (qGa (qaa (qaa (qaa (qaa (qaa (qda Tryz.prog 8)))))))))), .inLoop (cIn (cIn (qaa (qGa (qaa (qaa (qaa (qaa (qaa (qda Tryz.prog 8)))))))))), .inBlock 0, .code (qaa (qaa (qaa (qaa (qaa (qaa (qda Tryz.prog 8)))))))], ⟨[(8, (.one (.func 27 [8, 9]))), (9, (.one (.ref qFa 10 0 (List.length h10) true))), (20, (.one (.sl T_api_Found false v20))), (21, (.one (.int .i64 v21))), (22, (.one (.int .i64 v22)))], [(8, some (.box (.slice T_api_Record) (SV.pure false b8))), (9, some (.cell (.mapr 11))), (10, some (.row qFa true h10)), (11, some (.map qua (.int .u8) m11))], 12⟩⟩
theorem qQl (a0 : List qba) (a1 : List qha) : qag a0 a1 = (
(qZh a0 a1).bind fun r1 =>
if (r1 != (0 : Int)) = true then
some ([], r1)
else
qEd a1 (Int.ofNat (List.length a1)) (0 : Int) a0 [] []) := (FnI.call_eq (by kernel_rfl)).trans (by kernel_rfl)
theorem qsf (v20 : List qha) (v21 : Int) (v22 : Int) (b8 : (List qba)) (h10 : List qxa) (m11 : List (qma × Int)) : qEd v20 v21 v22 b8 h10 m11 = (
if (decide (v22 < v21)) = true then
gd (0 ≤ v22) <|
gd (v22 < (Int.ofNat (List.length v20))) <|
(qxi (List.getD v20 (Int.toNat v22) (qpa T_api_Found)) b8 m11).bind fun r2 =>
if r2.1 = true then
(quf (List.getD v20 (Int.toNat v22) (qpa T_api_Found)).2.2.1).bind fun r3 =>
gd ((List.length (h10 ++ [(((List.getD v20 (Int.toNat v22) (qpa T_api_Found)).2.1.2.1, ((List.getD v20 (Int.toNat v22) (qpa T_api_Found)).2.1.2.2.1, ((List.getD v20 (Int.toNat v22) (qpa T_api_Found)).2.1.2.2.2.1, ()))), (r3, ()))])) * 48 ≤ 140737488355328) <|
qEd v20 v21 (IntKind.wrap .i64 (v22 + (1 : Int))) r2.2.1 (h10 ++ [(((List.getD v20 (Int.toNat v22) (qpa T_api_Found)).2.1.2.1, ((List.getD v20 (Int.toNat v22) (qpa T_api_Found)).2.1.2.2.1, ((List.getD v20 (Int.toNat v22) (qpa T_api_Found)).2.1.2.2.2.1, ()))), (r3, ()))]) r2.2.2.2
else
qEd v20 v21 (IntKind.wrap .i64 (v22 + (1 : Int))) r2.2.1 h10 r2.2.2.2
else
some (h10, (0 : Int))) := (FnI.sem_eq _).trans (by kernel_rfl)
noncomputable def qom (acc : List AV → Bool) : Summ Tryz.prog GT := salvage_Parts_I.summ mixed acc false false
noncomputable def salvage_Rebuild_I : FnI Tryz.prog GT := { f := 9, cuts := [⟨(8, 3), [7, 9, 10, 11, 30, 31, 32], false, false, []⟩, ⟨(13, 8), [7, 9, 10, 11, 12, 13, 14, 30, 31, 32, 41, 42, 43], false, false, []⟩, ⟨(18, 12), [7, 9, 10, 11, 12, 13, 14, 16, 30, 31, 32, 41, 42, 43, 62, 63], false, false, []⟩], tab := [qom (fun _ => true), qRu (fun _ => true)], fm := ⟨true, [.val (.slice qza) [.nw], .val (.slice .bool) [.nw], .val (.int .i64) []]⟩ }
noncomputable def qfd (a0 : List qba) (a1 : List qha) : Option (List qta × List Bool × Int) := salvage_Rebuild_I.call [(.sl T_api_Record false a0), (.sl T_api_Found false a1)] []
noncomputable def qFc (v30 : List qba) (v31 : Int) (v32 : Int) (h8 : List qxa) (h9 : List qta) (h10 : List Bool) (m11 : List (Int × Bool)) : Option (List qta × List Bool × Int) := salvage_Rebuild_I.sem ⟨[.code (cIn (cIn (qaa (qGa (qaa (qaa (qaa (qaa (qaa (qaa (qda Tryz.prog 9))))))))))), .inLoop (cIn (cIn (qaa (qGa (qaa (qaa (qaa (qaa (qaa (qaa (qda Tryz.prog 9))))))))))), .inBlock 0, .code (qaa (qaa (qaa (qaa (qaa (qaa (qaa (qda Tryz.prog 9))))))))], ⟨[(7, (.one (.ref qFa 8 0 (List.length h8) true))), (9, (.one (.ref qza 9 0 (List.length h9) true))), (10, (.one (.ref .bool 10 0 (List.length h10) true))), (11, (.one (.mapr 11))), (30, (.one (.sl T_api_Record false v30))), (31, (.one (.int .i64 v31))), (32, (.one (.int .i64 v32)))], [(8, some (.row qFa true h8)), (9, some (.row qza true h9)), (10, some (.row .bool true h10)), (11, some (.map (.int .i64) .bool m11))], 12⟩⟩
noncomputable def qzb (v12 : Int) (v30 : List qba) (v31 : Int) (v32 : Int) (v42 : Int) (v43 : Int) (h8 : List qxa) (h9 : List qta) (h10 : List Bool) (m11 : List (Int × Bool)) (b12 : qba) (h13 : List Int) : Option (List qta × List Bool × Int) := salvage_Rebuild_I.sem ⟨[.code (cIn (cIn (qaa (qGa (qaa (qaa (qaa (cIn (qGa (qaa (qaa (cIn (cIn (qaa (qGa (qaa (qaa (qaa (qaa (qaa (qaa (qda Tryz.prog 9)))))))))))))))))))))), .inLoop (cIn (cIn (qaa (qGa (qaa (qaa (qaa (cIn (qGa (qaa (qaa (cIn (cIn (qaa (qGa (qaa (qaa (qaa (qaa (qaa (qaa (qda Tryz.prog 9)))))))))))))))))))))), .inBlock 2, .code (qaa (qaa (qaa (qaa (cIn (qGa (qaa (qaa (cIn (cIn (qaa (qGa (qaa (qaa (qaa (qaa (qaa (qaa (qda Tryz.prog 9))))))))))))))))))), .inBlock 1, .code (qaa (qaa (qaa (cIn (cIn (qaa (qGa (qaa (qaa (qaa (qaa (qaa (qaa (qda Tryz.prog 9)))))))))))))), .inLoop (cIn (cIn (qaa (qGa (qaa (qaa (qaa (qaa (qaa (qaa (qda Tryz.prog 9))))))))))), .inBlock 0, .code (qaa (qaa (qaa (qaa (qaa (qaa (qaa (qda Tryz.prog 9))))))))], ⟨[(7, (.one (.ref qFa 8 0 (List.length h8) true))), (9, (.one (.ref qza 9 0 (List.length h9) true))), (10, (.one (.ref .bool 10 0 (List.length h10) true))), (11, (.one (.mapr 11))), (12, (.one (.int .i64 v12))), (13, (.one (.ptr T_api_Record 12 []))), (14, (.one (.ref (.int .u8) 13 0 (List.length h13) true))), (30, (.one (.sl T_api_Record false v30))), (31, (.one (.int .i64 v31))), (32, (.one (.int .i64 v32))), (41, (.one (.ref qFa 8 0 (List.length h8) true))), (42, (.one (.int .i64 v42))), (43, (.one (.int .i64 v43)))], [(8, some (.row qFa true h8)), (9, some (.row qza true h9)), (10, some (.row .bool true h10)), (11, some (.map (.int .i64) .bool m11)), (12, some (.box T_api_Record (inj false T_api_Record b12))), (13, some (.row (.int .u8) true h13))], 14⟩⟩
noncomputable def qRd (v12 : Int) (v30 : List qba) (v31 : Int) (v32 : Int) (v42 : Int) (v43 : Int) (v62 : Int) (v63 : Int) (h8 : List qxa) (h9 : List qta) (h10 : List Bool) (m11 : List (Int × Bool)) (b12 : qba) (h13 : List Int) (b14 : qxa) : Option (List qta × List Bool × Int) := salvage_Rebuild_I.sem ⟨[.code (cIn (cIn (qaa (qaa (qaa (qaa (cIn (qGa (qaa (qaa (cIn (cIn (qaa (qGa (qaa (qaa (qaa (cIn (qGa (qaa (qaa (cIn (cIn (qaa (qGa (qaa (qaa (qaa (qaa (qaa (qaa (qda Tryz.prog 9)))))))))))))))))))))))))))))))), .inLoop (cIn (cIn (qaa (qaa (qaa (qaa (cIn (qGa (qaa (qaa (cIn (cIn (qaa (qGa (qaa (qaa (qaa (cIn (qGa (qaa (qaa (cIn (cIn (qaa (qGa (qaa (qaa (qaa (qaa (qaa (qaa (qda Tryz.prog 9)))))))))))))))))))))))))))))))), .inBlock 4, .inBlock 3, .code (qaa (qaa (qaa (cIn (cIn (qaa (qGa (qaa (qaa (qaa (cIn (qGa (qaa (qaa (cIn (cIn (qaa (qGa (qaa (qaa (qaa (qaa (qaa (qaa (qda Tryz.prog 9))))))))))))))))))))))))), .inLoop (cIn (cIn (qaa (qGa (qaa (qaa (qaa (cIn (qGa (qaa (qaa (cIn (cIn (qaa (qGa (qaa (qaa (qaa (qaa (qaa (qaa (qda Tryz.prog 9)))))))))))))))))))))), .inBlock 2, .code (qaa (qaa (qaa (qaa (cIn (qGa (qaa (qaa (cIn (cIn (qaa (qGa (qaa (qaa (qaa (qaa (qaa (qaa (qda Tryz.prog 9))))))))))))))))))), .inBlock 1, .code (qaa (qaa (qaa (cIn (cIn (qaa (qGa (qaa (qaa (qaa (qaa (qaa (qaa (qda Tryz.prog 9)))))))))))))), .inLoop (cIn (cIn (qaa (qGa (qaa (qaa (qaa (qaa (qaa (qaa (qda Tryz.prog 9))))))))))), .inBlock 0, .code (qaa (qaa (qaa (qaa (qaa (qaa (qaa (qda Tryz.prog 9))))))))], ⟨[(7, (.one (.ref qFa 8 0 (List.length h8) true))), (9, (.one (.ref qza 9 0 (List.length h9) true))), (10, (.one (.ref .bool 10 0 (List.length h10) true))), (11, (.one (.mapr 11))), (12, (.one (.int .i64 v12))), (13, (.one (.ptr T_api_Record 12 []))), (14, (.one (.ref (.int .u8) 13 0 (List.length h13) true))), (16, (.one (.ptr qFa 14 []))), (30, (.one (.sl T_api_Record false v30))), (31, (.one (.int .i64 v31))), (32, (.one (.int .i64 v32))), (41, (.one (.ref qFa 8 0 (List.length h8) true))), (42, (.one (.int .i64 v42))), (43, (.one (.int .i64 v43))), (62, (.one (.int .i64 v62))), (63, (.one (.int .i64 v63)))], [(8, some (.row qFa true h8)), (9, some (.row qza true h9)), (10, some (.row .bool true h10)), (11, some (.map (.int .i64) .bool m11)), (12, some (.box T_api_Record (inj false T_api_Record b12))), (13, some (.row (.int .u8) true h13)), (14, some (.box qFa (inj true qFa b14)))], 15⟩⟩
theorem qdj (a0 : List qba) (a1 : List qha) : qfd a0 a1 = (
(qag a0 a1).bind fun r1 =>
if (r1.2 != (0 : Int)) = true then
some ([], ([], r1.2))
else
qFc a0 (Int.ofNat (List.length a0)) (0 : Int) r1.1 [] [] []) := (FnI.call_eq (by kernel_rfl)).trans (by kernel_rfl)
theorem qEc (v30 : List qba) (v31 : Int) (v32 : Int) (h8 : List qxa) (h9 : List qta) (h10 : List Bool) (m11 : List (Int × Bool)) : qFc v30 v31 v32 h8 h9 h10 m11 = (
if (decide (v32 < v31)) = true then
gd (0 ≤ v32) <|
gd (v32 < (Int.ofNat (List.length v30))) <|
gd ((List.getD v30 (Int.toNat v32) (qpa T_api_Record)).2.1 = (List.getD v30 (Int.toNat v32) (qpa T_api_Record)).2.1) <|
gd (0 ≤ (List.getD v30 (Int.toNat v32) (qpa T_api_Record)).2.1) <|
gd ((List.getD v30 (Int.toNat v32) (qpa T_api_Record)).2.1 * 1 ≤ 140737488355328) <|
gd ((List.getD v30 (Int.toNat v32) (qpa T_api_Record)).2.1 ≤ 9223372036854775807) <|
qzb v32 v30 v31 v32 (Int.ofNat (List.length h8)) (0 : Int) h8 h9 h10 [] (List.getD v30 (Int.toNat v32) (qpa T_api_Record)) (List.replicate (Int.toNat (List.getD v30 (Int.toNat v32) (qpa T_api_Record)).2.1) (0 : Int))
else
some (h9, (h10, (0 : Int)))) := (FnI.sem_eq _).trans (by kernel_rfl)
theorem qke (v12 : Int) (v30 : List qba) (v31 : Int) (v32 : Int) (v42 : Int) (v43 : Int) (h8 : List qxa) (h9 : List qta) (h10 : List Bool) (m11 : List (Int × Bool)) (b12 : qba) (h13 : List Int) : qzb v12 v30 v31 v32 v42 v43 h8 h9 h10 m11 b12 h13 = (
if (decide (v43 < v42)) = true then
gd (0 ≤ v43) <|
gd (v43 < (Int.ofNat (List.length h8))) <|
if ((List.getD h8 (0 + (Int.toNat v43)) (qpa qFa)).1.1 != v12) = true then
qzb v12 v30 v31 v32 v42 (IntKind.wrap .i64 (v43 + (1 : Int))) h8 h9 h10 m11 b12 h13
else
gd (0 ≤ (List.getD h8 (0 + (Int.toNat v43)) (qpa qFa)).1.2.1) <|
gd ((List.getD h8 (0 + (Int.toNat v43)) (qpa qFa)).1.2.1 ≤ (Int.ofNat (List.length h13))) <|
qRd v12 v30 v31 v32 v42 v43 (Int.ofNat (List.length (List.getD h8 (0 + (Int.toNat v43)) (qpa qFa)).2.1)) (0 : Int) h8 h9 h10 m11 b12 (qNb h13 (0 + (Int.toNat (List.getD h8 (0 + (Int.toNat v43)) (qpa qFa)).1.2.1)) (List.take (min (List.length (List.getD h8 (0 + (Int.toNat v43)) (qpa qFa)).2.1) ((List.length h13) - (Int.toNat (List.getD h8 (0 + (Int.toNat v43)) (qpa qFa)).1.2.1))) (List.getD h8 (0 + (Int.toNat v43)) (qpa qFa)).2.1)) (List.getD h8 (0 + (Int.toNat v43)) (qpa qFa))
else
(qNr h13).bind fun r2 =>
gd ((List.length (h9 ++ [(b12.1, (h13, ()))])) * 40 ≤ 140737488355328) <|
if ((Int.ofNat (List.length m11)) == b12.2.1) = true then
gd ((List.length (h10 ++ [(peq (.arr 20 (.int .u8)) r2.1 b12.2.2.1)])) * 1 ≤ 140737488355328) <|
qFc v30 v31 (IntKind.wrap .i64 (v32 + (1 : Int))) h8 (h9 ++ [(b12.1, (h13, ()))]) (h10 ++ [(peq (.arr 20 (.int .u8)) r2.1 b12.2.2.1)]) m11
else
gd ((List.length (h10 ++ [false])) * 1 ≤ 140737488355328) <|
qFc v30 v31 (IntKind.wrap .i64 (v32 + (1 : Int))) h8 (h9 ++ [(b12.1, (h13, ()))]) (h10 ++ [false]) m11) := (FnI.sem_eq _).trans (by kernel_rfl)
theorem qlh (v12 : Int) (v30 : List qba) (v31 : Int) (v32 : Int) (v42 : Int) (v43 : Int) (v62 : Int) (v63 : Int) (h8 : List qxa) (h9 : List qta) (h10 : List Bool) (m11 : List (Int × Bool)) (b12 : qba) (h13 : List Int) (b14 : qxa) : qRd v12 v30 v31 v32 v42 v43 v62 v63 h8 h9 h10 m11 b12 h13 b14 = (
if (decide (v63 < v62)) = true then
qRd v12 v30 v31 v32 v42 v43 v62 (IntKind.wrap .i64 (v63 + (1 : Int))) h8 h9 h10 (qPx (peq (.int .i64)) (IntKind.wrap .i64 (b14.1.2.1 + v63)) true m11) b12 h13 b14
else
qzb v12 v30 v31 v32 v42 (IntKind.wrap .i64 (v43 + (1 : Int))) h8 h9 h10 m11 b12 h13) := (FnI.sem_eq _).trans (by kernel_rfl)
noncomputable def qCk (acc : List AV → Bool) : Summ Tryz.prog GT := salvage_Rebuild_I.summ mixed acc false false
noncomputable def bitloftref28_SameMembers_I : FnI Tryz.prog GT := { f := 31, cuts := [⟨(4, 3), [0, 1, 5], false, false, []⟩], tab := [], fm := ⟨true, [.val .bool []]⟩ }
noncomputable def qmd (a0 : List qta) (a1 : List qta) : Option (Bool) := bitloftref28_SameMembers_I.call [(.sl qza false a0), (.sl qza false a1)] []
noncomputable def qrc (v0 : List qta) (v1 : List qta) (v5 : Int) : Option (Bool) := bitloftref28_SameMembers_I.sem ⟨[.code (cIn (cIn (qaa (qGa (qaa (qaa (qda Tryz.prog 31))))))), .inLoop (cIn (cIn (qaa (qGa (qaa (qaa (qda Tryz.prog 31))))))), .inBlock 0, .code (qaa (qaa (qaa (qda Tryz.prog 31))))], ⟨[(0, (.one (.sl qza false v0))), (1, (.one (.sl qza false v1))), (5, (.one (.int .i64 v5)))], [], 8⟩⟩
theorem qPi (a0 : List qta) (a1 : List qta) : qmd a0 a1 = (
if ((Int.ofNat (List.length a0)) != (Int.ofNat (List.length a1))) = true then
some (false)
else
qrc a0 a1 (0 : Int)) := (FnI.call_eq (by kernel_rfl)).trans (by kernel_rfl)
theorem qvd (v0 : List qta) (v1 : List qta) (v5 : Int) : qrc v0 v1 v5 = (
if (decide (v5 < (Int.ofNat (List.length v0)))) = true then
gd (0 ≤ v5) <|
gd (v5 < (Int.ofNat (List.length v0))) <|
gd (0 ≤ v5) <|
gd (v5 < (Int.ofNat (List.length v1))) <|
if (not ((ByteArray.toList (List.getD v0 (Int.toNat v5) (qpa qza)).1) == (ByteArray.toList (List.getD v1 (Int.toNat v5) (qpa qza)).1))) = true then
some (false)
else
gd (0 ≤ v5) <|
gd (v5 < (Int.ofNat (List.length v0))) <|
gd (0 ≤ v5) <|
gd (v5 < (Int.ofNat (List.length v1))) <|
if (not ((ByteArray.toList (qem (List.getD v0 (Int.toNat v5) (qpa qza)).2.1)) == (ByteArray.toList (qem (List.getD v1 (Int.toNat v5) (qpa qza)).2.1)))) = true then
some (false)
else
qrc v0 v1 (IntKind.wrap .i64 (v5 + (1 : Int)))
else
some (true)) := (FnI.sem_eq _).trans (by kernel_rfl)
noncomputable def qYi (acc : List AV → Bool) : Summ Tryz.prog GT := bitloftref28_SameMembers_I.summ mixed acc false false
noncomputable def bitloftref33_SameBools_I : FnI Tryz.prog GT := { f := 12, cuts := [⟨(4, 3), [0, 1, 5], false, false, []⟩], tab := [], fm := ⟨true, [.val .bool []]⟩ }
noncomputable def qLd (a0 : List Bool) (a1 : List Bool) : Option (Bool) := bitloftref33_SameBools_I.call [(.sl .bool false a0), (.sl .bool false a1)] []
noncomputable def qWc (v0 : List Bool) (v1 : List Bool) (v5 : Int) : Option (Bool) := bitloftref33_SameBools_I.sem ⟨[.code (cIn (cIn (qaa (qGa (qaa (qaa (qda Tryz.prog 12))))))), .inLoop (cIn (cIn (qaa (qGa (qaa (qaa (qda Tryz.prog 12))))))), .inBlock 0, .code (qaa (qaa (qaa (qda Tryz.prog 12))))], ⟨[(0, (.one (.sl .bool false v0))), (1, (.one (.sl .bool false v1))), (5, (.one (.int .i64 v5)))], [], 8⟩⟩
theorem qsk (a0 : List Bool) (a1 : List Bool) : qLd a0 a1 = (
if ((Int.ofNat (List.length a0)) != (Int.ofNat (List.length a1))) = true then
some (false)
else
qWc a0 a1 (0 : Int)) := (FnI.call_eq (by kernel_rfl)).trans (by kernel_rfl)
theorem qWd (v0 : List Bool) (v1 : List Bool) (v5 : Int) : qWc v0 v1 v5 = (
if (decide (v5 < (Int.ofNat (List.length v0)))) = true then
gd (0 ≤ v5) <|
gd (v5 < (Int.ofNat (List.length v0))) <|
gd (0 ≤ v5) <|
gd (v5 < (Int.ofNat (List.length v1))) <|
if (not ((List.getD v0 (Int.toNat v5) false) == (List.getD v1 (Int.toNat v5) false))) = true then
some (false)
else
qWc v0 v1 (IntKind.wrap .i64 (v5 + (1 : Int)))
else
some (true)) := (FnI.sem_eq _).trans (by kernel_rfl)
noncomputable def qWk (acc : List AV → Bool) : Summ Tryz.prog GT := bitloftref33_SameBools_I.summ mixed acc false false
noncomputable def bitloftlaw34_alive_I : FnI Tryz.prog GT := { f := 11, cuts := [], tab := [qim (fun _ => true), qOr (fun _ => true), qCk (fun _ => true), qYi (fun _ => true), qWk (fun _ => true)], fm := ⟨true, [.val .bool []]⟩ }
noncomputable def qGg : Option (Bool) := bitloftlaw34_alive_I.call [] []
theorem qyn : qGg = (
(qXe).bind fun r1 =>
(qOb (3 : Int) r1.1).bind fun r2 =>
gd ((10 : Int) = (10 : Int)) <|
gd (0 ≤ (10 : Int)) <|
gd ((10 : Int) * 1 ≤ 140737488355328) <|
gd ((10 : Int) ≤ 9223372036854775807) <|
gd ((List.length ((List.replicate 10 (0 : Int)) ++ r1.1)) * 1 ≤ 140737488355328) <|
(qOb (3 : Int) ((List.replicate 10 (0 : Int)) ++ r1.1)).bind fun r3 =>
gd ((List.length ([] ++ r1.1)) * 1 ≤ 140737488355328) <|
gd (0 ≤ (IntKind.wrap .i64 ((Int.ofNat (List.length ([] ++ r1.1))) - (1 : Int)))) <|
gd ((IntKind.wrap .i64 ((Int.ofNat (List.length ([] ++ r1.1))) - (1 : Int))) < (Int.ofNat (List.length ([] ++ r1.1)))) <|
gd (0 ≤ (IntKind.wrap .i64 ((Int.ofNat (List.length ([] ++ r1.1))) - (1 : Int)))) <|
gd ((IntKind.wrap .i64 ((Int.ofNat (List.length ([] ++ r1.1))) - (1 : Int))) < (Int.ofNat (List.length ([] ++ r1.1)))) <|
(qOb (3 : Int) (List.set ([] ++ r1.1) (0 + (Int.toNat (IntKind.wrap .i64 ((Int.ofNat (List.length ([] ++ r1.1))) - (1 : Int))))) (IntKind.wrap .u8 ((List.getD ([] ++ r1.1) (0 + (Int.toNat (IntKind.wrap .i64 ((Int.ofNat (List.length ([] ++ r1.1))) - (1 : Int))))) (0 : Int)) + (1 : Int))))).bind fun r4 =>
(qfd r1.2 r4.1).bind fun r5 =>
if (r2.2 == (0 : Int)) = true then
if ((Int.ofNat (List.length r2.1)) == (1 : Int)) = true then
gd (0 ≤ (0 : Int)) <|
gd ((0 : Int) < (Int.ofNat (List.length r2.1))) <|
if ((List.getD r2.1 0 (qpa T_api_Found)).1 == (52 : Int)) = true then
gd (0 ≤ (0 : Int)) <|
gd ((0 : Int) < (Int.ofNat (List.length r2.1))) <|
if ((ByteArray.toList (qem (List.getD r2.1 0 (qpa T_api_Found)).2.2.1)) == (ByteArray.toList (qem [(7 : Int)]))) = true then
if (r3.2 == (0 : Int)) = true then
if ((Int.ofNat (List.length r3.1)) == (1 : Int)) = true then
gd (0 ≤ (0 : Int)) <|
gd ((0 : Int) < (Int.ofNat (List.length r3.1))) <|
if ((List.getD r3.1 0 (qpa T_api_Found)).1 == (62 : Int)) = true then
if (r4.2 == (0 : Int)) = true then
if ((Int.ofNat (List.length r4.1)) == (0 : Int)) = true then
if (r5.2.2 == (0 : Int)) = true then
(qmd r5.1 [((ByteArray.mk #[97]), ([(0 : Int)], ()))]).bind fun r6 =>
if r6 = true then
(qLd r5.2.1 [false]).bind fun r7 =>
some (r7)
else
some (false)
else
some (false)
else
some (false)
else
some (false)
else
some (false)
else
some (false)
else
some (false)
else
some (false)
else
some (false)
else
some (false)
else
some (false)) := (FnI.call_eq (by kernel_rfl)).trans (by kernel_rfl)
noncomputable def qyo (acc : List AV → Bool) : Summ Tryz.prog GT := bitloftlaw34_alive_I.summ mixed acc false false
noncomputable def bitloftref28_GreatRecords_I : FnI Tryz.prog GT := { f := 15, cuts := [⟨(2, 3), [0, 3], false, false, []⟩], tab := [], fm := ⟨true, [.val .bool []]⟩ }
noncomputable def qXc (a0 : List qba) : Option (Bool) := bitloftref28_GreatRecords_I.call [(.sl T_api_Record false a0)] []
noncomputable def qvb (v0 : List qba) (v3 : Int) : Option (Bool) := bitloftref28_GreatRecords_I.sem ⟨[.code (cIn (cIn (qaa (qGa (qaa (qda Tryz.prog 15)))))), .inLoop (cIn (cIn (qaa (qGa (qaa (qda Tryz.prog 15)))))), .inBlock 0, .code (qaa (qaa (qda Tryz.prog 15)))], ⟨[(0, (.one (.sl T_api_Record false v0))), (3, (.one (.int .i64 v3)))], [], 8⟩⟩
theorem qni (a0 : List qba) : qXc a0 = (
qvb a0 (0 : Int)) := (FnI.call_eq (by kernel_rfl)).trans (by kernel_rfl)
theorem qod (v0 : List qba) (v3 : Int) : qvb v0 v3 = (
if (decide (v3 < (Int.ofNat (List.length v0)))) = true then
if (decide (v3 ≤ (30 : Int))) = true then
gd (0 ≤ v3) <|
gd (v3 < (Int.ofNat (List.length v0))) <|
if (decide ((Int.ofNat (ByteArray.size (List.getD v0 (Int.toNat v3) (qpa T_api_Record)).1)) > (100 : Int))) = true then
some (true)
else
qvb v0 (IntKind.wrap .i64 (v3 + (1 : Int)))
else
some (decide ((Int.ofNat (List.length v0)) > (30 : Int)))
else
some (decide ((Int.ofNat (List.length v0)) > (30 : Int)))) := (FnI.sem_eq _).trans (by kernel_rfl)
noncomputable def qSi (acc : List AV → Bool) : Summ Tryz.prog GT := bitloftref28_GreatRecords_I.summ mixed acc false false
noncomputable def bitloftref34_Great_I : FnI Tryz.prog GT := { f := 16, cuts := [⟨(2, 3), [0, 3], false, false, []⟩], tab := [], fm := ⟨true, [.val .bool []]⟩ }
noncomputable def qPc (a0 : List qha) : Option (Bool) := bitloftref34_Great_I.call [(.sl T_api_Found false a0)] []
noncomputable def qOc (v0 : List qha) (v3 : Int) : Option (Bool) := bitloftref34_Great_I.sem ⟨[.code (cIn (cIn (qaa (qGa (qaa (qda Tryz.prog 16)))))), .inLoop (cIn (cIn (qaa (qGa (qaa (qda Tryz.prog 16)))))), .inBlock 0, .code (qaa (qaa (qda Tryz.prog 16)))], ⟨[(0, (.one (.sl T_api_Found false v0))), (3, (.one (.int .i64 v3)))], [], 8⟩⟩
theorem qAh (a0 : List qha) : qPc a0 = (
qOc a0 (0 : Int)) := (FnI.call_eq (by kernel_rfl)).trans (by kernel_rfl)
theorem qGf (v0 : List qha) (v3 : Int) : qOc v0 v3 = (
if (decide (v3 < (Int.ofNat (List.length v0)))) = true then
if (decide (v3 ≤ (30 : Int))) = true then
gd (0 ≤ v3) <|
gd (v3 < (Int.ofNat (List.length v0))) <|
if (decide ((Int.ofNat (List.length (List.getD v0 (Int.toNat v3) (qpa T_api_Found)).2.2.1)) > (5000 : Int))) = true then
some (true)
else
qOc v0 (IntKind.wrap .i64 (v3 + (1 : Int)))
else
if (decide ((Int.ofNat (List.length v0)) > (30 : Int))) = true then
if (decide ((Int.ofNat (List.length v0)) ≤ (600 : Int))) = true then
some (true)
else
some (decide ((Int.ofNat (List.length v0)) > (620 : Int)))
else
some (decide ((Int.ofNat (List.length v0)) > (620 : Int)))
else
if (decide ((Int.ofNat (List.length v0)) > (30 : Int))) = true then
if (decide ((Int.ofNat (List.length v0)) ≤ (600 : Int))) = true then
some (true)
else
some (decide ((Int.ofNat (List.length v0)) > (620 : Int)))
else
some (decide ((Int.ofNat (List.length v0)) > (620 : Int)))) := (FnI.sem_eq _).trans (by kernel_rfl)
noncomputable def qfo (acc : List AV → Bool) : Summ Tryz.prog GT := bitloftref34_Great_I.summ mixed acc false false
noncomputable def bitloftref28_Valid_I : FnI Tryz.prog GT := { f := 34, cuts := [⟨(5, 3), [0, 3, 4], false, false, []⟩, ⟨(14, 3), [0, 6], false, false, []⟩, ⟨(17, 7), [0, 6, 7], false, false, []⟩], tab := [qRi (fun _ => true), qMe (fun _ => true)], fm := ⟨true, [.val (.int .i64) []]⟩ }
noncomputable def qXd (a0 : List qba) : Option (Int) := bitloftref28_Valid_I.call [(.sl T_api_Record false a0)] []
noncomputable def qQb (v0 : List qba) (v3 : Int) (v4 : Int) : Option (Int) := bitloftref28_Valid_I.sem ⟨[.code (cIn (cIn (qaa (qGa (qaa (qaa (qaa (qda Tryz.prog 34)))))))), .inLoop (cIn (cIn (qaa (qGa (qaa (qaa (qaa (qda Tryz.prog 34)))))))), .inBlock 0, .code (qaa (qaa (qaa (qaa (qda Tryz.prog 34)))))], ⟨[(0, (.one (.sl T_api_Record false v0))), (3, (.one (.int .i64 v3))), (4, (.one (.int .i64 v4)))], [], 8⟩⟩
noncomputable def qPb (v0 : List qba) (v6 : Int) : Option (Int) := bitloftref28_Valid_I.sem ⟨[.code (cIn (cIn (qaa (qGa (qaa (qaa (qaa (qaa (qaa (qda Tryz.prog 34)))))))))), .inLoop (cIn (cIn (qaa (qGa (qaa (qaa (qaa (qaa (qaa (qda Tryz.prog 34)))))))))), .inBlock 2, .code (qaa (qaa (qaa (qaa (qaa (qaa (qda Tryz.prog 34)))))))], ⟨[(0, (.one (.sl T_api_Record false v0))), (6, (.one (.int .i64 v6)))], [], 8⟩⟩
noncomputable def qRc (v0 : List qba) (v6 : Int) (v7 : Int) : Option (Int) := bitloftref28_Valid_I.sem ⟨[.code (cIn (cIn (qaa (cIn (qGa (qaa (cIn (cIn (qaa (qGa (qaa (qaa (qaa (qaa (qaa (qda Tryz.prog 34)))))))))))))))), .inLoop (cIn (cIn (qaa (cIn (qGa (qaa (cIn (cIn (qaa (qGa (qaa (qaa (qaa (qaa (qaa (qda Tryz.prog 34)))))))))))))))), .inBlock 4, .inBlock 3, .code (qaa (qaa (cIn (cIn (qaa (qGa (qaa (qaa (qaa (qaa (qaa (qda Tryz.prog 34)))))))))))), .inLoop (cIn (cIn (qaa (qGa (qaa (qaa (qaa (qaa (qaa (qda Tryz.prog 34)))))))))), .inBlock 2, .code (qaa (qaa (qaa (qaa (qaa (qaa (qda Tryz.prog 34)))))))], ⟨[(0, (.one (.sl T_api_Record false v0))), (6, (.one (.int .i64 v6))), (7, (.one (.int .i64 v7)))], [], 8⟩⟩
theorem qon (a0 : List qba) : qXd a0 = (
if (decide ((Int.ofNat (List.length a0)) > (16 : Int))) = true then
some (4 : Int)
else
qQb a0 (0 : Int) (0 : Int)) := (FnI.call_eq (by kernel_rfl)).trans (by kernel_rfl)
theorem qKf (v0 : List qba) (v3 : Int) (v4 : Int) : qQb v0 v3 v4 = (
if (decide (v4 < (Int.ofNat (List.length v0)))) = true then
gd (0 ≤ v4) <|
gd (v4 < (Int.ofNat (List.length v0))) <|
(qnd (List.getD v0 (Int.toNat v4) (qpa T_api_Record)).1).bind fun r1 =>
if (not r1) = true then
some (8 : Int)
else
if (decide ((List.getD v0 (Int.toNat v4) (qpa T_api_Record)).2.1 < (0 : Int))) = true then
some (8 : Int)
else
if (decide ((List.getD v0 (Int.toNat v4) (qpa T_api_Record)).2.1 > (8192 : Int))) = true then
some (8 : Int)
else
if ((List.getD v0 (Int.toNat v4) (qpa T_api_Record)).2.1 == (0 : Int)) = true then
(qRb []).bind fun r2 =>
if (not (peq (.arr 20 (.int .u8)) (List.getD v0 (Int.toNat v4) (qpa T_api_Record)).2.2.1 r2)) = true then
some (8 : Int)
else
qQb v0 (IntKind.wrap .i64 (v3 + (List.getD v0 (Int.toNat v4) (qpa T_api_Record)).2.1)) (IntKind.wrap .i64 (v4 + (1 : Int)))
else
qQb v0 (IntKind.wrap .i64 (v3 + (List.getD v0 (Int.toNat v4) (qpa T_api_Record)).2.1)) (IntKind.wrap .i64 (v4 + (1 : Int)))
else
if (decide (v3 > (8192 : Int))) = true then
some (4 : Int)
else
qPb v0 (0 : Int)) := (FnI.sem_eq _).trans (by kernel_rfl)
theorem qJf (v0 : List qba) (v6 : Int) : qPb v0 v6 = (
if (decide (v6 < (Int.ofNat (List.length v0)))) = true then
qRc v0 v6 (0 : Int)
else
some (0 : Int)) := (FnI.sem_eq _).trans (by kernel_rfl)
theorem qIf (v0 : List qba) (v6 : Int) (v7 : Int) : qRc v0 v6 v7 = (
if (decide (v7 < v6)) = true then
gd (0 ≤ v7) <|
gd (v7 < (Int.ofNat (List.length v0))) <|
gd (0 ≤ v6) <|
gd (v6 < (Int.ofNat (List.length v0))) <|
if ((ByteArray.toList (List.getD v0 (Int.toNat v7) (qpa T_api_Record)).1) == (ByteArray.toList (List.getD v0 (Int.toNat v6) (qpa T_api_Record)).1)) = true then
some (14 : Int)
else
qRc v0 v6 (IntKind.wrap .i64 (v7 + (1 : Int)))
else
qPb v0 (IntKind.wrap .i64 (v6 + (1 : Int)))) := (FnI.sem_eq _).trans (by kernel_rfl)
noncomputable def qko (acc : List AV → Bool) : Summ Tryz.prog GT := bitloftref28_Valid_I.summ mixed acc false false
noncomputable def bitloftref26_Check_I : FnI Tryz.prog GT := { f := 91, cuts := [], tab := [], fm := ⟨true, [.val (.int .i64) []]⟩ }
noncomputable def qae (a0 : qfa) : Option (Int) := bitloftref26_Check_I.call [(.agg qya (inj false qya a0))] []
theorem qun (a0 : qfa) : qae a0 = (
if (decide (a0.2.1 < (0 : Int))) = true then
some (8 : Int)
else
if (decide (a0.2.1 ≥ (16 : Int))) = true then
some (8 : Int)
else
if (decide (a0.2.2.2.1 < (1 : Int))) = true then
some (8 : Int)
else
if (decide (a0.2.2.2.1 > (4096 : Int))) = true then
some (8 : Int)
else
if (decide (a0.2.2.1 < (0 : Int))) = true then
some (8 : Int)
else
if (decide (a0.2.2.1 > (IntKind.wrap .i64 ((8192 : Int) - a0.2.2.2.1)))) = true then
some (8 : Int)
else
if (a0.1 == (1 : Int)) = true then
if (a0.1 == (2 : Int)) = true then
if (decide (a0.2.2.2.2.1 ≥ (1 : Int))) = true then
if (not (a0.2.2.2.2.1 == a0.2.2.2.1)) = true then
if (not (decide (a0.2.2.2.2.1 < a0.2.2.2.1))) = true then
some (8 : Int)
else
some (0 : Int)
else
some (0 : Int)
else
if (not (a0.2.2.2.2.1 == a0.2.2.2.1)) = true then
some (8 : Int)
else
some (0 : Int)
else
if (not (a0.2.2.2.2.1 == a0.2.2.2.1)) = true then
some (8 : Int)
else
some (0 : Int)
else
if (a0.1 == (2 : Int)) = true then
if (decide (a0.2.2.2.2.1 ≥ (1 : Int))) = true then
if (not (decide (a0.2.2.2.2.1 < a0.2.2.2.1))) = true then
some (8 : Int)
else
some (0 : Int)
else
some (8 : Int)
else
some (8 : Int)) := (FnI.call_eq (by kernel_rfl)).trans (by kernel_rfl)
noncomputable def qqo (acc : List AV → Bool) : Summ Tryz.prog GT := bitloftref26_Check_I.summ mixed acc false false
noncomputable def bitloftref26_Right_I : FnI Tryz.prog GT := { f := 62, cuts := [], tab := [qqo (fun _ => true), qYk (fun _ => true)], fm := ⟨true, [.val .bool [], .val (.int .i64) []]⟩ }
noncomputable def qAg (a0 : qfa) (a1 : List Int) : Option (Bool × Int) := bitloftref26_Right_I.call [(.agg qya (inj false qya a0)), (.sl (.int .u8) false a1)] []
theorem qsn (a0 : qfa) (a1 : List Int) : qAg a0 a1 = (
(qae a0).bind fun r1 =>
if (r1 != (0 : Int)) = true then
(qae a0).bind fun r2 =>
some (false, r2)
else
if ((Int.ofNat (List.length a1)) == a0.2.2.2.1) = true then
(qEe a0 a1).bind fun r3 =>
some ((peq (.arr 20 (.int .u8)) r3 a0.2.2.2.2.2.1), (0 : Int))
else
some (false, (0 : Int))) := (FnI.call_eq (by kernel_rfl)).trans (by kernel_rfl)
noncomputable def qpo (acc : List AV → Bool) : Summ Tryz.prog GT := bitloftref26_Right_I.summ mixed acc false false
noncomputable def bitloftref34_valid_I : FnI Tryz.prog GT := { f := 35, cuts := [], tab := [qpo (fun _ => true)], fm := ⟨true, [.val .bool []]⟩ }
noncomputable def qtg (a0 : qha) : Option (Bool) := bitloftref34_valid_I.call [(.agg T_api_Found (inj false T_api_Found a0))] []
theorem qjn (a0 : qha) : qtg a0 = (
(qAg a0.2.1 a0.2.2.1).bind fun r1 =>
if (decide (a0.1 ≥ (0 : Int))) = true then
if (r1.2 == (0 : Int)) = true then
some (r1.1)
else
some (false)
else
some (false)) := (FnI.call_eq (by kernel_rfl)).trans (by kernel_rfl)
noncomputable def qdo (acc : List AV → Bool) : Summ Tryz.prog GT := bitloftref34_valid_I.summ mixed acc false false
noncomputable def bitloftref34_Asked_I : FnI Tryz.prog GT := { f := 17, cuts := [⟨(6, 3), [1, 5], false, false, []⟩], tab := [qko (fun _ => true), qdo (fun _ => true)], fm := ⟨true, [.val (.int .i64) []]⟩ }
noncomputable def qVd (a0 : List qba) (a1 : List qha) : Option (Int) := bitloftref34_Asked_I.call [(.sl T_api_Record false a0), (.sl T_api_Found false a1)] []
noncomputable def qQc (v1 : List qha) (v5 : Int) : Option (Int) := bitloftref34_Asked_I.sem ⟨[.code (cIn (cIn (qaa (qGa (qaa (qaa (qaa (qda Tryz.prog 17)))))))), .inLoop (cIn (cIn (qaa (qGa (qaa (qaa (qaa (qda Tryz.prog 17)))))))), .inBlock 0, .code (qaa (qaa (qaa (qaa (qda Tryz.prog 17)))))], ⟨[(1, (.one (.sl T_api_Found false v1))), (5, (.one (.int .i64 v5)))], [], 8⟩⟩
theorem qkn (a0 : List qba) (a1 : List qha) : qVd a0 a1 = (
(qXd a0).bind fun r1 =>
if (r1 != (0 : Int)) = true then
(qXd a0).bind fun r2 =>
some (r2)
else
if (decide ((Int.ofNat (List.length a1)) > (600 : Int))) = true then
some (4 : Int)
else
qQc a1 (0 : Int)) := (FnI.call_eq (by kernel_rfl)).trans (by kernel_rfl)
theorem qHf (v1 : List qha) (v5 : Int) : qQc v1 v5 = (
if (decide (v5 < (Int.ofNat (List.length v1)))) = true then
gd (0 ≤ v5) <|
gd (v5 < (Int.ofNat (List.length v1))) <|
(qtg (List.getD v1 (Int.toNat v5) (qpa T_api_Found))).bind fun r3 =>
if (not r3) = true then
some (8 : Int)
else
qQc v1 (IntKind.wrap .i64 (v5 + (1 : Int)))
else
some (0 : Int)) := (FnI.sem_eq _).trans (by kernel_rfl)
noncomputable def qgo (acc : List AV → Bool) : Summ Tryz.prog GT := bitloftref34_Asked_I.summ mixed acc false false
noncomputable def bitloftref34_Part_I : FnI Tryz.prog GT := { f := 18, cuts := [], tab := [], fm := ⟨true, [.val qFa []]⟩ }
noncomputable def qSg (a0 : qha) : Option (qxa) := bitloftref34_Part_I.call [(.agg T_api_Found (inj false T_api_Found a0))] []
theorem qeo (a0 : qha) : qSg a0 = (
gd ((List.length ([] ++ a0.2.2.1)) * 1 ≤ 140737488355328) <|
some ((a0.2.1.2.1, (a0.2.1.2.2.1, (a0.2.1.2.2.2.1, ()))), (([] ++ a0.2.2.1), ()))) := (FnI.call_eq (by kernel_rfl)).trans (by kernel_rfl)
noncomputable def qaq (acc : List AV → Bool) : Summ Tryz.prog GT := bitloftref34_Part_I.summ mixed acc false false
noncomputable def member_Right_I : FnI Tryz.prog GT := { f := 19, cuts := [], tab := [qPo (fun _ => true), qAm (fun _ => true)], fm := ⟨true, [.val .bool [], .val (.int .i64) []]⟩ }
noncomputable def qCm (a0 : qba) (a1 : qta) : Option (Bool × Int) := member_Right_I.call [(.agg T_api_Record (inj false T_api_Record a0)), (.agg qza (inj false qza a1))] []
theorem qSv (a0 : qba) (a1 : qta) : qCm a0 a1 = (
(qrh [a0]).bind fun r1 =>
if (r1 != (0 : Int)) = true then
some (false, r1)
else
if ((ByteArray.toList a0.1) == (ByteArray.toList a1.1)) = true then
if (a0.2.1 == (Int.ofNat (List.length a1.2.1))) = true then
(qgg a1.2.1).bind fun r2 =>
some ((peq (.arr 20 (.int .u8)) a0.2.2.1 r2), (0 : Int))
else
some (false, (0 : Int))
else
some (false, (0 : Int))) := (FnI.call_eq (by kernel_rfl)).trans (by kernel_rfl)
noncomputable def qWx (acc : List AV → Bool) : Summ Tryz.prog GT := member_Right_I.summ mixed acc false false
noncomputable def bitloftlaw34_SalvageMore_I : FnI Tryz.prog GT := { f := 5, cuts := [⟨(14, 3), [0, 1, 7, 8, 10, 11, 15, 17, 18], false, false, []⟩, ⟨(20, 3), [0, 7, 8, 10, 11, 15, 17, 20], false, false, []⟩], tab := [qyo (fun _ => true), qSi (fun _ => true), qfo (fun _ => true), qgo (fun _ => true), qom (fun _ => true), qCk (fun _ => true), qaq (fun _ => true), qWx (fun _ => true)], fm := ⟨true, [.val .bool []]⟩ }
noncomputable def qqd (a0 : List qba) (a1 : List qha) (a2 : List qha) : Option (Bool) := bitloftlaw34_SalvageMore_I.call [(.sl T_api_Record false a0), (.sl T_api_Found false a1), (.sl T_api_Found false a2)] []
noncomputable def qOa (v0 : List qba) (v1 : List qha) (v7 : Bool) (v17 : Int) (v18 : Int) (h8 : List qxa) (h9 : List qta) (h10 : List Bool) (h11 : List Bool) : Option (Bool) := bitloftlaw34_SalvageMore_I.sem ⟨[.code (cIn (cIn (qaa (qGa (qaa (qaa (qaa (qaa (qaa (qaa (qaa (qaa (qaa (qaa (qda Tryz.prog 5))))))))))))))), .inLoop (cIn (cIn (qaa (qGa (qaa (qaa (qaa (qaa (qaa (qaa (qaa (qaa (qaa (qaa (qda Tryz.prog 5))))))))))))))), .inBlock 0, .code (qaa (qaa (qaa (qaa (qaa (qaa (qaa (qaa (qaa (qaa (qaa (qda Tryz.prog 5))))))))))))], ⟨[(0, (.one (.sl T_api_Record false v0))), (1, (.one (.sl T_api_Found false v1))), (7, (.one (.bool v7))), (8, (.one (.ref qFa 8 0 (List.length h8) true))), (10, (.one (.ref qza 9 0 (List.length h9) true))), (11, (.one (.ref .bool 10 0 (List.length h10) true))), (15, (.one (.ref .bool 11 0 (List.length h11) true))), (17, (.one (.int .i64 v17))), (18, (.one (.int .i64 v18)))], [(8, some (.row qFa true h8)), (9, some (.row qza true h9)), (10, some (.row .bool true h10)), (11, some (.row .bool true h11))], 12⟩⟩
noncomputable def qYa (v0 : List qba) (v7 : Bool) (v17 : Int) (v20 : Int) (h8 : List qxa) (h9 : List qta) (h10 : List Bool) (h11 : List Bool) : Option (Bool) := bitloftlaw34_SalvageMore_I.sem ⟨[.code (cIn (cIn (qaa (qGa (qaa (qaa (qaa (qaa (qaa (qaa (qaa (qaa (qaa (qaa (qaa (qda Tryz.prog 5)))))))))))))))), .inLoop (cIn (cIn (qaa (qGa (qaa (qaa (qaa (qaa (qaa (qaa (qaa (qaa (qaa (qaa (qaa (qda Tryz.prog 5)))))))))))))))), .inBlock 2, .code (qaa (qaa (qaa (qaa (qaa (qaa (qaa (qaa (qaa (qaa (qaa (qaa (qda Tryz.prog 5)))))))))))))], ⟨[(0, (.one (.sl T_api_Record false v0))), (7, (.one (.bool v7))), (8, (.one (.ref qFa 8 0 (List.length h8) true))), (10, (.one (.ref qza 9 0 (List.length h9) true))), (11, (.one (.ref .bool 10 0 (List.length h10) true))), (15, (.one (.ref .bool 11 0 (List.length h11) true))), (17, (.one (.int .i64 v17))), (20, (.one (.int .i64 v20)))], [(8, some (.row qFa true h8)), (9, some (.row qza true h9)), (10, some (.row .bool true h10)), (11, some (.row .bool true h11))], 12⟩⟩
theorem qTi (a0 : List qba) (a1 : List qha) (a2 : List qha) : qqd a0 a1 a2 = (
(qGg).bind fun r1 =>
(qXc a0).bind fun r2 =>
if r2 = true then
some (r1)
else
(qPc a1).bind fun r3 =>
if r3 = true then
some (r1)
else
(qPc a2).bind fun r4 =>
if r4 = true then
some (r1)
else
(qVd a0 a1).bind fun r5 =>
if (r5 != (0 : Int)) = true then
some (r1)
else
(qVd a0 a2).bind fun r6 =>
if (r6 != (0 : Int)) = true then
some (r1)
else
if (not r1) = true then
some (r1)
else
(qag a0 a1).bind fun r7 =>
(qfd a0 a1).bind fun r8 =>
gd ((List.length ([] ++ a1)) * 96 ≤ 140737488355328) <|
gd ((List.length (([] ++ a1) ++ a2)) * 96 ≤ 140737488355328) <|
(qfd a0 (([] ++ a1) ++ a2)).bind fun r9 =>
if (decide ((Int.ofNat (List.length (([] ++ a1) ++ a2))) > (600 : Int))) = true then
if r1 = true then
some (r9.2.2 == (4 : Int))
else
some (false)
else
if (r7.2 != (0 : Int)) = true then
some (false)
else
if (r8.2.2 != (0 : Int)) = true then
some (false)
else
if (r9.2.2 != (0 : Int)) = true then
some (false)
else
if (decide ((Int.ofNat (List.length r7.1)) > (Int.ofNat (List.length a1)))) = true then
some (false)
else
if ((Int.ofNat (List.length r8.1)) != (Int.ofNat (List.length a0))) = true then
some (false)
else
if ((Int.ofNat (List.length r8.2.1)) != (Int.ofNat (List.length a0))) = true then
some (false)
else
if ((Int.ofNat (List.length r9.2.1)) != (Int.ofNat (List.length a0))) = true then
some (false)
else
qOa a0 a1 r1 (0 : Int) (0 : Int) r7.1 r8.1 r8.2.1 r9.2.1) := (FnI.call_eq (by kernel_rfl)).trans (by kernel_rfl)
theorem qxd (v0 : List qba) (v1 : List qha) (v7 : Bool) (v17 : Int) (v18 : Int) (h8 : List qxa) (h9 : List qta) (h10 : List Bool) (h11 : List Bool) : qOa v0 v1 v7 v17 v18 h8 h9 h10 h11 = (
if (decide (v18 < (Int.ofNat (List.length v1)))) = true then
gd (0 ≤ v18) <|
gd (v18 < (Int.ofNat (List.length v1))) <|
(qSg (List.getD v1 (Int.toNat v18) (qpa T_api_Found))).bind fun r10 =>
if (decide (v17 < (Int.ofNat (List.length h8)))) = true then
gd (0 ≤ v17) <|
gd (v17 < (Int.ofNat (List.length h8))) <|
if (peq qLl (List.getD h8 (0 + (Int.toNat v17)) (qpa qFa)).1 r10.1) = true then
gd (0 ≤ v17) <|
gd (v17 < (Int.ofNat (List.length h8))) <|
if ((ByteArray.toList (qem (List.getD h8 (0 + (Int.toNat v17)) (qpa qFa)).2.1)) == (ByteArray.toList (qem r10.2.1))) = true then
qOa v0 v1 v7 (IntKind.wrap .i64 (v17 + (1 : Int))) (IntKind.wrap .i64 (v18 + (1 : Int))) h8 h9 h10 h11
else
qOa v0 v1 v7 v17 (IntKind.wrap .i64 (v18 + (1 : Int))) h8 h9 h10 h11
else
qOa v0 v1 v7 v17 (IntKind.wrap .i64 (v18 + (1 : Int))) h8 h9 h10 h11
else
qOa v0 v1 v7 v17 (IntKind.wrap .i64 (v18 + (1 : Int))) h8 h9 h10 h11
else
qYa v0 v7 v17 (0 : Int) h8 h9 h10 h11) := (FnI.sem_eq _).trans (by kernel_rfl)
theorem qwd (v0 : List qba) (v7 : Bool) (v17 : Int) (v20 : Int) (h8 : List qxa) (h9 : List qta) (h10 : List Bool) (h11 : List Bool) : qYa v0 v7 v17 v20 h8 h9 h10 h11 = (
if (decide (v20 < (Int.ofNat (List.length v0)))) = true then
gd (0 ≤ v20) <|
gd (v20 < (Int.ofNat (List.length v0))) <|
gd (0 ≤ v20) <|
gd (v20 < (Int.ofNat (List.length h9))) <|
(qCm (List.getD v0 (Int.toNat v20) (qpa T_api_Record)) (List.getD h9 (0 + (Int.toNat v20)) (qpa qza))).bind fun r11 =>
if (r11.2 != (0 : Int)) = true then
some (false)
else
gd (0 ≤ v20) <|
gd (v20 < (Int.ofNat (List.length h10))) <|
if (List.getD h10 (0 + (Int.toNat v20)) false) = true then
if (not r11.1) = true then
some (false)
else
gd (0 ≤ v20) <|
gd (v20 < (Int.ofNat (List.length h11))) <|
if (not (List.getD h11 (0 + (Int.toNat v20)) false)) = true then
some (false)
else
gd (0 ≤ v20) <|
gd (v20 < (Int.ofNat (List.length h9))) <|
gd (0 ≤ v20) <|
gd (v20 < (Int.ofNat (List.length v0))) <|
if ((Int.ofNat (List.length (List.getD h9 (0 + (Int.toNat v20)) (qpa qza)).2.1)) != (List.getD v0 (Int.toNat v20) (qpa T_api_Record)).2.1) = true then
some (false)
else
gd (0 ≤ v20) <|
gd (v20 < (Int.ofNat (List.length h9))) <|
gd (0 ≤ v20) <|
gd (v20 < (Int.ofNat (List.length v0))) <|
if (not ((ByteArray.toList (List.getD h9 (0 + (Int.toNat v20)) (qpa qza)).1) == (ByteArray.toList (List.getD v0 (Int.toNat v20) (qpa T_api_Record)).1))) = true then
some (false)
else
qYa v0 v7 v17 (IntKind.wrap .i64 (v20 + (1 : Int))) h8 h9 h10 h11
else
gd (0 ≤ v20) <|
gd (v20 < (Int.ofNat (List.length h9))) <|
gd (0 ≤ v20) <|
gd (v20 < (Int.ofNat (List.length v0))) <|
if ((Int.ofNat (List.length (List.getD h9 (0 + (Int.toNat v20)) (qpa qza)).2.1)) != (List.getD v0 (Int.toNat v20) (qpa T_api_Record)).2.1) = true then
some (false)
else
gd (0 ≤ v20) <|
gd (v20 < (Int.ofNat (List.length h9))) <|
gd (0 ≤ v20) <|
gd (v20 < (Int.ofNat (List.length v0))) <|
if (not ((ByteArray.toList (List.getD h9 (0 + (Int.toNat v20)) (qpa qza)).1) == (ByteArray.toList (List.getD v0 (Int.toNat v20) (qpa T_api_Record)).1))) = true then
some (false)
else
qYa v0 v7 v17 (IntKind.wrap .i64 (v20 + (1 : Int))) h8 h9 h10 h11
else
if v7 = true then
some (v17 == (Int.ofNat (List.length h8)))
else
some (false)) := (FnI.sem_eq _).trans (by kernel_rfl)
end Go.Ab

/-
  Totality of the codec, 1: steps, numbers, small functions.
-/
set_option linter.unusedVariables false
set_option linter.unusedSimpArgs false
set_option maxRecDepth 10000
namespace Go.Ab
open Go
attribute [local irreducible] IntKind.wrap
def Tot {α : Type} (x : Option α) (P : α → Prop) : Prop := ∃ r, x = some r ∧ P r
theorem Tot.so {α : Type} {r : α} {P : α → Prop} (h : P r) : Tot (some r) P := ⟨r, rfl, h⟩
theorem Tot.of_eq {α : Type} {x : Option α} {r : α} {P : α → Prop} (e : x = some r) (h : P r) : Tot x P := ⟨r, e, h⟩
theorem Tot.mono {α : Type} {x : Option α} {P Q : α → Prop} (h : Tot x P) (k : ∀ r, P r → Q r) : Tot x Q := by
  obtain ⟨r, e, p⟩ := h; exact ⟨r, e, k r p⟩
theorem Tot.b {α β : Type} {x : Option α} {f : α → Option β} {P : α → Prop} {Q : β → Prop} (h : Tot x P) (k : ∀ r, P r → Tot (f r) Q) : Tot (x.bind f) Q := by
  obtain ⟨r, e, p⟩ := h; obtain ⟨s, e', q⟩ := k r p; exact ⟨s, by rw [e, Option.bind_some, e'], q⟩
theorem Tot.be {α β : Type} {x : Option α} {f : α → Option β} {v : α} {Q : β → Prop} (h : x = some v) (k : Tot (f v) Q) : Tot (x.bind f) Q := by
  subst h; exact k
theorem Tot.g {α : Type} {p : Prop} {x : Option α} {Q : α → Prop} (h : p) (k : Tot x Q) : Tot (gd p x) Q := by rw [qga h]; exact k
theorem Tot.it {α : Type} {c : Prop} {i : Decidable c} {x y : Option α} {Q : α → Prop} (h1 : c → Tot x Q) (h2 : ¬c → Tot y Q) : Tot (@ite _ c i x y) Q := by
  by_cases h : c
  · rw [if_pos h]; exact h1 h
  · rw [if_neg h]; exact h2 h
theorem Tot.ifd {α : Type} {p : Prop} {d : Decidable p} {i : Decidable (@decide p d = true)} {x y : Option α} {Q : α → Prop} (h1 : p → Tot x Q) (h2 : ¬p → Tot y Q) : Tot (@ite _ (@decide p d = true) i x y) Q :=
  Tot.it (fun h => h1 (of_decide_eq_true h)) (fun h => h2 (fun hp => h (decide_eq_true hp)))
theorem Tot.ifd_pos {α : Type} {p : Prop} {d : Decidable p} {i : Decidable (@decide p d = true)} {x y : Option α} {Q : α → Prop} (h : p) (h1 : Tot x Q) : Tot (@ite _ (@decide p d = true) i x y) Q :=
  Tot.ifd (fun _ => h1) (fun k => absurd h k)
theorem Tot.ifd_neg {α : Type} {p : Prop} {d : Decidable p} {i : Decidable (@decide p d = true)} {x y : Option α} {Q : α → Prop} (h : ¬p) (h1 : Tot y Q) : Tot (@ite _ (@decide p d = true) i x y) Q :=
  Tot.ifd (fun k => absurd k h) (fun _ => h1)
theorem Tot.ifne {α : Type} {a b : Int} {i : Decidable ((a != b) = true)} {x y : Option α} {Q : α → Prop} (h1 : a ≠ b → Tot x Q) (h2 : a = b → Tot y Q) : Tot (@ite _ ((a != b) = true) i x y) Q :=
  Tot.it (fun h => h1 (by simpa using h)) (fun h => h2 (by simpa using h))
theorem Tot.ifne_pos {α : Type} {a b : Int} {i : Decidable ((a != b) = true)} {x y : Option α} {Q : α → Prop} (h : a ≠ b) (h1 : Tot x Q) : Tot (@ite _ ((a != b) = true) i x y) Q :=
  Tot.ifne (fun _ => h1) (fun k => absurd k h)
theorem Tot.ifne_neg {α : Type} {a b : Int} {i : Decidable ((a != b) = true)} {x y : Option α} {Q : α → Prop} (h : a = b) (h1 : Tot y Q) : Tot (@ite _ ((a != b) = true) i x y) Q :=
  Tot.ifne (fun k => absurd h k) (fun _ => h1)
theorem Tot.ifeq {α : Type} {a b : Int} {i : Decidable ((a == b) = true)} {x y : Option α} {Q : α → Prop} (h1 : a = b → Tot x Q) (h2 : a ≠ b → Tot y Q) : Tot (@ite _ ((a == b) = true) i x y) Q :=
  Tot.it (fun h => h1 (by simpa using h)) (fun h => h2 (by simpa using h))
theorem Tot.ifeq_pos {α : Type} {a b : Int} {i : Decidable ((a == b) = true)} {x y : Option α} {Q : α → Prop} (h : a = b) (h1 : Tot x Q) : Tot (@ite _ ((a == b) = true) i x y) Q :=
  Tot.ifeq (fun _ => h1) (fun k => absurd h k)
theorem Tot.ifeq_neg {α : Type} {a b : Int} {i : Decidable ((a == b) = true)} {x y : Option α} {Q : α → Prop} (h : a ≠ b) (h1 : Tot y Q) : Tot (@ite _ ((a == b) = true) i x y) Q :=
  Tot.ifeq (fun k => absurd k h) (fun _ => h1)
theorem Tot.iff_ {α : Type} {i : Decidable (false = true)} {x y : Option α} {Q : α → Prop} (h : Tot y Q) : Tot (@ite _ (false = true) i x y) Q := Tot.it (fun k => absurd k Bool.false_ne_true) (fun _ => h)
theorem Tot.ift_ {α : Type} {i : Decidable (true = true)} {x y : Option α} {Q : α → Prop} (h : Tot x Q) : Tot (@ite _ (true = true) i x y) Q := Tot.it (fun _ => h) (fun k => absurd rfl k)
theorem Tot.ifn {α : Type} {b : Bool} {i : Decidable ((not b) = true)} {x y : Option α} {Q : α → Prop} (h1 : b = false → Tot x Q) (h2 : b = true → Tot y Q) : Tot (@ite _ ((not b) = true) i x y) Q :=
  Tot.it (fun h => h1 (by simpa using h)) (fun h => h2 (by simpa using h))
theorem Tot.eq {α : Type} {x : Option α} {v : α} (h : Tot x fun r => r = v) : x = some v := by obtain ⟨r, e, p⟩ := h; rw [e, p]
theorem qjc {P : Int → Prop} (n : Int) (base : ∀ i, n ≤ i → P i) (step : ∀ i, i < n → P (i + 1) → P i) : ∀ i, P i := by
  intro i
  generalize hm : (n - i).toNat = m
  induction m generalizing i with
  | zero => exact base i (by omega)
  | succ m ih => exact step i (by omega) (ih (i + 1) (by omega))
theorem qgL (x : Int) : 0 ≤ IntKind.wrap .u32 x ∧ IntKind.wrap .u32 x < 4294967296 := by rw [qpx]; omega
theorem qwM (x : Int) : 0 ≤ IntKind.wrap .u64 x ∧ IntKind.wrap .u64 x < 18446744073709551616 := by rw [qBN]; omega
theorem qut (x : Int) : 0 ≤ IntKind.wrap .u8 x ∧ IntKind.wrap .u8 x < 256 := by rw [wu8]; omega
theorem qUc (n : Nat) (m : Int) (h0 : 0 ≤ m) (h1 : m < 2 ^ n) : (BitVec.ofInt n m).toNat = m.toNat := by
  rw [BitVec.toNat_ofInt]; congr 1; exact Int.emod_eq_of_lt h0 (by exact_mod_cast h1)
theorem qWK (x m : Int) (h0 : 0 ≤ m) (h1 : m < 9223372036854775808) : 0 ≤ qDa .i64 x m ∧ qDa .i64 x m ≤ m := by
  have hh : (BitVec.ofInt 64 x &&& BitVec.ofInt 64 m).toNat ≤ m.toNat := by
    rw [BitVec.toNat_and, qUc 64 m h0 (by omega)]; exact Nat.and_le_right
  have e : qDa .i64 x m = ((BitVec.ofInt 64 x &&& BitVec.ofInt 64 m).toNat : Int) := by
    show IntKind.wrap .i64 ((BitVec.ofInt 64 x &&& BitVec.ofInt 64 m).toNat : Int) = _
    exact w64 (by omega) (by omega)
  rw [e]; omega
theorem qPN (x m : Int) (h0 : 0 ≤ m) (h1 : m < 2147483648) : 0 ≤ qDa .i32 x m ∧ qDa .i32 x m ≤ m := by
  have hh : (BitVec.ofInt 32 x &&& BitVec.ofInt 32 m).toNat ≤ m.toNat := by
    rw [BitVec.toNat_and, qUc 32 m h0 (by omega)]; exact Nat.and_le_right
  have e : qDa .i32 x m = ((BitVec.ofInt 32 x &&& BitVec.ofInt 32 m).toNat : Int) := by
    show IntKind.wrap .i32 ((BitVec.ofInt 32 x &&& BitVec.ofInt 32 m).toNat : Int) = _
    exact w32 (by omega) (by omega)
  rw [e]; omega
theorem qAN (x : Int) (k : Nat) (hk : k ≤ 20) (h1 : 1 ≤ k) (h0 : 0 ≤ x) (hx : x < 2 ^ k) : 0 ≤ qNa .i64 x 1 ∧ qNa .i64 x 1 < 2 ^ k := by
  have hp : (2:Int) ^ k ≤ 2 ^ 20 := by exact_mod_cast Nat.pow_le_pow_right (by decide) hk
  have hp' : (2:Int) ^ 20 = 1048576 := by decide
  have hc : ((2 ^ k : Nat) : Int) = (2:Int) ^ k := by norm_cast
  have hh : (BitVec.ofInt 64 x ^^^ BitVec.ofInt 64 1).toNat < 2 ^ k := by
    rw [BitVec.toNat_xor, qUc 64 x h0 (by omega), qUc 64 1 (by omega) (by omega)]
    refine Nat.xor_lt_two_pow (by omega) ?_
    show 1 < 2 ^ k
    exact Nat.one_lt_two_pow (by omega)
  have hz : ((BitVec.ofInt 64 x ^^^ BitVec.ofInt 64 1).toNat : Int) < 2 ^ k := by rw [← hc]; exact_mod_cast hh
  have e : qNa .i64 x 1 = ((BitVec.ofInt 64 x ^^^ BitVec.ofInt 64 1).toNat : Int) := by
    show IntKind.wrap .i64 ((BitVec.ofInt 64 x ^^^ BitVec.ofInt 64 1).toNat : Int) = _
    exact w64 (by omega) (by omega)
  rw [e]; omega
theorem qsM {l : Int} (h0 : 0 ≤ l) (h1 : l ≤ 7) : l = 0 ∨ l = 1 ∨ l = 2 ∨ l = 3 ∨ l = 4 ∨ l = 5 ∨ l = 6 ∨ l = 7 := by omega
def plR (l : Int) : Int := 2 ^ (6 + l.toNat)
def plT (l : Int) : Int := 2 ^ (4 + l.toNat)
theorem qet {l : Int} (h0 : 0 ≤ l) (h1 : l ≤ 7) : 64 ≤ plR l ∧ plR l ≤ 8192 := by
  rcases qsM h0 h1 with rfl | rfl | rfl | rfl | rfl | rfl | rfl | rfl <;> decide
theorem qsv {l : Int} (h0 : 0 ≤ l) (h1 : l ≤ 7) : 16 ≤ plT l ∧ plT l ≤ 2048 := by
  rcases qsM h0 h1 with rfl | rfl | rfl | rfl | rfl | rfl | rfl | rfl <;> decide
theorem qzq {l : Int} (h0 : 0 ≤ l) (h1 : l ≤ 7) : qil l = some (plR l) := by
  rw [qzx, qga h0]
  rcases qsM h0 h1 with rfl | rfl | rfl | rfl | rfl | rfl | rfl | rfl <;> exact congrArg some (by kernel_rfl)
theorem qQm {l : Int} (h0 : 0 ≤ l) (h1 : l ≤ 7) : qfi l = some (plR l) := by
  rw [qSt, qga h0]
  rcases qsM h0 h1 with rfl | rfl | rfl | rfl | rfl | rfl | rfl | rfl <;> exact congrArg some (by kernel_rfl)
theorem qRs {l : Int} (h0 : 0 ≤ l) (h1 : l ≤ 7) : qIn l = some (plT l) := by
  rw [qKz, qga h0]
  rcases qsM h0 h1 with rfl | rfl | rfl | rfl | rfl | rfl | rfl | rfl <;> exact congrArg some (by kernel_rfl)
theorem qVK : ∀ k : Fin 21, qDa .i64 ((2 ^ k.val : Nat) : Int) (((2 ^ k.val : Nat) : Int) - 1) = 0 := by decide +kernel
theorem qhk (a : Int) {len : Int} (k : Nat) (hk : k ≤ 20) (hl : len = 2 ^ k) : Tot (qth a len) fun r => r.2 = 0 ∧ 0 ≤ r.1 ∧ r.1 < len := by
  have hp : (2:Int) ^ k ≤ 2 ^ 20 := by exact_mod_cast Nat.pow_le_pow_right (by decide) hk
  have hp' : (2:Int) ^ 20 = 1048576 := by decide
  have h1 : (1:Int) ≤ 2 ^ k := by exact_mod_cast Nat.one_le_two_pow
  have hz := qVK ⟨k, by omega⟩
  have hc : ((2 ^ k : Nat) : Int) = (2:Int) ^ k := by norm_cast
  rw [hc, ← hl] at hz
  rw [qow, w64 (x := len - 1) (by omega) (by omega)]
  have hb := qWK (IntKind.wrap .i64 a) (len - 1) (by omega) (by omega)
  refine Tot.ifd_neg (by omega) (Tot.ifd_neg (by omega) (Tot.ifne_neg hz (Tot.so ⟨rfl, ?_⟩)))
  simp only
  omega
theorem qky (a : Int) : Tot (qNm a) fun r => True := by
  rw [qpw]
  exact Tot.g (by decide) (Tot.so trivial)
theorem qMi {α : Type} (l : List α) (s : Nat) (hs : s ≤ 64) (hl : l.length ≤ 1048576) :
    (qvF (fun (r1 : Bool) => r1 = true → l = []) fun (r1 : Bool) =>
      if r1 = true then some ([]) else gd ((List.length ([] ++ l)) * s ≤ 140737488355328) <| some ([] ++ l)) = some l := by
  refine quF false (by simp) (fun r hr => ?_)
  by_cases h : r = true
  · rw [if_pos h, hr h]
  · rw [if_neg h, qga (by
      rw [List.nil_append]
      exact Nat.le_trans (Nat.mul_le_mul hl hs) (by decide)), List.nil_append]
theorem qli (l : List Int) (h : l.length ≤ 1048576) : quf l = some l := by rw [qip]; exact qMi l 1 (by decide) h
theorem qMa (l : List Int) (h : l.length ≤ 1048576) : qJa l = some l := by rw [qvi]; exact qMi l 4 (by decide) h
theorem qrb (l : List Int) (h : l.length ≤ 1048576) : qcb l = some l := by rw [qak]; exact qMi l 1 (by decide) h
theorem qHg (l : List Int) (h : l.length ≤ 1048576) : qYc l = some l := by rw [qgl]; exact qMi l 8 (by decide) h
theorem qqf (l : List qsd) (h : l.length ≤ 1048576) : qab l = some l := by rw [qYf]; exact qMi l 16 (by decide) h
theorem qNh (l : List qja) (h : l.length ≤ 1048576) : qUa l = some l := by rw [qof]; exact qMi l 32 (by decide) h
theorem qOh (l : List qia) (h : l.length ≤ 1048576) : qVa l = some l := by rw [qpf]; exact qMi l 56 (by decide) h
theorem qHa {α : Type} {P : α → Prop} {l : List α} {d : α} (h : ∀ x ∈ l, P x) (i : Nat) (hi : i < l.length) : P (l.getD i d) := by
  rw [List.getD_eq_getElem?_getD, List.getElem?_eq_getElem hi]; exact h _ (List.getElem_mem hi)
theorem qAC {α : Type} {P : α → Prop} {l : List α} {d : α} (h : ∀ x ∈ l, P x) (hd : P d) (i : Nat) : P (l.getD i d) := by
  by_cases hi : i < l.length
  · exact qHa h i hi
  · rw [List.getD_eq_getElem?_getD, List.getElem?_eq_none (by omega)]; exact hd
theorem qJd {α : Type} {P : α → Prop} {l : List α} {v : α} (h : ∀ x ∈ l, P x) (hv : P v) (i : Nat) : ∀ x ∈ l.set i v, P x := by
  intro x hx
  rcases List.mem_or_eq_of_mem_set hx with h' | rfl
  · exact h x h'
  · exact hv
theorem qMh {α : Type} {P : α → Prop} {l : List α} {v : α} (h : ∀ x ∈ l, P x) (hv : P v) : ∀ x ∈ l ++ [v], P x := by
  intro x hx
  rcases List.mem_append.1 hx with h' | h'
  · exact h x h'
  · rw [List.mem_singleton.1 h']; exact hv
theorem qJF {α : Type} (l : List α) (i : Nat) (d : α) : l.set i (l.getD i d) = l := by
  by_cases hi : i < l.length
  · rw [List.getD_eq_getElem?_getD, List.getElem?_eq_getElem hi, Option.getD_some, List.set_getElem_self]
  · rw [List.set_eq_of_length_le (by omega)]
end Go.Ab

/-
  Totality of the codec, 2: rings, contexts, hashes.
-/
set_option linter.unusedVariables false
set_option linter.unusedSimpArgs false
set_option maxRecDepth 10000
namespace Go.Ab
open Go
attribute [local irreducible] IntKind.wrap
def qrd (l : Int) (r : qla) : Prop := r.1 = l ∧ (0 ≤ l ∧ l ≤ 7) ∧ (r.2.1.length : Int) = plR l ∧ Bts r.2.1 ∧ 0 ≤ r.2.2.1 ∧ r.2.2.1 ≤ 1073741824 ∧ ∀ x ∈ r.2.1.drop r.2.2.1.toNat, x = 0
theorem qox (x : Int) (l : List Int) (hx : x = 0) (hl : (x :: l).length ≤ 1048576) : qyd (x :: l) = some (0, 1) := by
  subst hx
  rw [qVi, qHh]
  simp only [Int.ofNat_eq_natCast, List.length_cons] at *
  have e : (0 :: l).getD (Int.toNat 0) 0 = (0 : Int) := rfl
  rw [if_pos (by simp), qga (by omega), qga (by omega), e, if_pos (by decide), w32 (by decide) (by decide)]
theorem qdy (l : List Int) (hl : l.length ≤ 1048576) (hz : ∀ x ∈ l, x = 0) : ∀ i : Int, 0 ≤ i → qNc l true i = some (-1) := by
  intro i
  refine qjc (P := fun i => 0 ≤ i → qNc l true i = some (-1)) l.length ?_ ?_ i
  · intro i hi h0
    rw [qzh]
    simp only [Int.ofNat_eq_natCast]
    rw [if_neg (by simp; omega)]
  · intro i hi ih h0
    rw [qzh]
    simp only [Int.ofNat_eq_natCast]
    rw [if_pos (by simpa using hi), qga h0, qga (by omega)]
    have hd : l.drop i.toNat = l[i.toNat]'(by omega) :: l.drop (i.toNat + 1) := List.drop_eq_getElem_cons (by omega)
    rw [hd, qox _ _ (hz _ (List.getElem_mem _)) (by rw [← hd, List.length_drop]; omega), Option.bind_some, qcv, Option.bind_some, if_neg (by decide)]
    simp only
    rw [w64 (by omega) (by omega)]
    exact ih (by omega)
theorem qNs (l : List Int) (hl : l.length ≤ 1048576) (hz : ∀ x ∈ l, x = 0) : qrg l = some false := by
  rw [qin, qrr, qqr, qdy l hl hz 0 (by omega)]
  rfl
theorem qHc {l : Int} {r : qla} (h : qrd l r) : qgd r = some 0 := by
  obtain ⟨h1, ⟨h2, h3⟩, h4, h5, h6, h7, h8⟩ := h
  have hp := qet h2 h3
  rw [qSz, h1, qzq h2 h3]
  simp only [Int.ofNat_eq_natCast]
  rw [if_neg (by simpa using h2), if_neg (by simpa using h3), Option.bind_some, if_neg (by simpa using h4), if_neg (by simpa using h6), if_neg (by simpa using h7)]
  by_cases hc : r.2.2.1 < (r.2.1.length : Int)
  · rw [if_pos (by simpa using hc), qga h6, qga (by omega), qNs _ (by rw [List.length_drop]; omega) h8, Option.bind_some, if_neg (by decide)]
  · rw [if_neg (by simpa using hc)]
theorem qiz {l : Int} {r : qla} (h : qrd l r) (a : Int) : Tot (qpu r a) fun x => 0 ≤ x ∧ x < 256 := by
  obtain ⟨h1, ⟨h2, h3⟩, h4, h5, h6, h7, h8⟩ := h
  have hp := qet h2 h3
  rw [qiE]
  simp only [Int.ofNat_eq_natCast]
  rw [w64 (x := (r.2.1.length : Int) - 1) (by omega) (by omega)]
  have hb := qWK (IntKind.wrap .i64 (r.2.2.1 - a)) ((r.2.1.length : Int) - 1) (by omega) (by omega)
  refine Tot.g hb.1 (Tot.g (by omega) (Tot.so ?_))
  exact qHa (P := fun x => 0 ≤ x ∧ x < 256) h5 _ (by omega)
theorem qdv {l : Int} {r : qla} (h : qrd l r) (a : Int) : Tot (qBq r a) fun x => 0 ≤ x.1 ∧ x.1 < 256 := by
  rw [qTB]
  refine Tot.be (qHc h) (Tot.ifne_neg rfl (Tot.ifd (fun _ => Tot.so (by decide)) (fun _ => Tot.ifd (fun _ => Tot.so (by decide)) (fun _ => Tot.ifd (fun _ => Tot.so (by decide)) (fun _ => ?_)))))
  exact Tot.b (qiz h a) (fun x hx => Tot.so hx)
theorem qkI {l : Int} {r : qla} (h : qrd l r) (a : Int) : Tot (qkE r a) fun x => 0 ≤ x.1 ∧ x.1 < 256 := by
  rw [qTG]
  refine Tot.be (qHc h) (Tot.ifne_neg rfl (Tot.ifd (fun _ => Tot.so (by decide)) (fun _ => Tot.ifd (fun _ => Tot.so (by decide)) (fun _ => Tot.ifd (fun _ => Tot.so (by decide)) (fun _ => ?_)))))
  exact Tot.b (qiz h _) (fun x hx => Tot.so hx)
theorem qns (b : List Int) (hl : b.length ≤ 1048576) : ∀ (i : Int) (a : Int), 0 ≤ i → Tot (qve a b b.length i) fun _ => True := by
  intro i
  refine qjc (P := fun i => ∀ a, 0 ≤ i → Tot (qve a b b.length i) fun _ => True) b.length ?_ ?_ i
  · intro i hi a h0
    rw [qAj]
    exact Tot.ifd_neg (by omega) (Tot.so trivial)
  · intro i hi ih a h0
    rw [qAj]
    simp only [Int.ofNat_eq_natCast]
    rw [w64 (x := i + 1) (by omega) (by omega)]
    exact Tot.ifd_pos (by omega) (Tot.g h0 (Tot.g (by omega) (Tot.g (by decide) (ih _ (by omega)))))
theorem qYo (a : Int) (b : List Int) (hl : b.length ≤ 1048576) : Tot (qBj a b) fun _ => True := by
  rw [qmw]; exact qns b hl 0 a (by omega)
theorem qsl (a : Int) (b : List Int) (hl : b.length ≤ 1048576) : Tot (qPk a b) fun _ => True := by
  rw [qyC]
  refine Tot.b (P := fun _ => True) ?_ (fun r _ => Tot.ifne (fun _ => Tot.so trivial) (fun _ => Tot.ifd (fun _ => Tot.so trivial) (fun _ => Tot.b (qYo _ _ hl) (fun _ _ => Tot.so trivial))))
  rw [qnw]
  exact Tot.ifd (fun _ => Tot.so trivial) (fun _ => Tot.ifd (fun _ => Tot.so trivial) (fun _ => Tot.so trivial))
theorem qAA (a b : Int) : Tot (qMp a b) fun _ => True := by
  rw [qiy]; exact Tot.b (qYo _ _ (by show 1 ≤ _; decide)) (fun _ _ => Tot.so trivial)
theorem qTk {l : Int} {r : qla} (h : qrd l r) : ∀ (n : Nat) (hs : List Int), n + hs.length ≤ 1000 → Bts hs → Tot (qpg n r hs) fun x => x.length = hs.length + n ∧ Bts x
  | 0, hs, hn, hb => by
    rw [qIj]
    exact Tot.ifd_neg (by simp) (Tot.so ⟨rfl, hb⟩)
  | n + 1, hs, hn, hb => by
    rw [qIj]
    refine Tot.ifd_pos (by omega) (Tot.b (qdv h _) (fun x hx => Tot.g (by simp; omega) ?_))
    rw [w64 (by omega) (by omega)]
    have e : ((n + 1 : Nat) : Int) - 1 = (n : Int) := by omega
    rw [e]
    exact Tot.mono (qTk h n (hs ++ [x.1]) (by simp; omega) (qMh hb hx)) (fun y hy => ⟨by simp at hy; omega, hy.2⟩)
theorem qnk {l : Int} {r : qla} (h : qrd l r) (n : Nat) (hn : n ≤ 1000) : Tot (qyh r n) fun x => x.length = n ∧ Bts x := by
  rw [qVw]
  exact Tot.mono (qTk h n [] (by simpa using hn) Bts.nil) (fun y hy => ⟨by simpa using hy.1, hy.2⟩)
theorem qan (a : Int) : Tot (qki a) fun _ => True := by
  rw [qbu]
  repeat (first | exact Tot.so trivial | refine Tot.ifd (fun _ => ?_) (fun _ => ?_))
theorem qRk (h9 : List Int) (o n : Nat) (hn : n ≤ 1000) : ∀ (i : Int) (hs : List Int), 0 ≤ i → i ≤ n → hs.length = i.toNat → Tot (qld o n n i hs h9) fun x => x.length ≤ 1000 := by
  intro i
  refine qjc (P := fun i => ∀ (hs : List Int), 0 ≤ i → i ≤ n → hs.length = i.toNat → Tot (qld o n n i hs h9) fun x => x.length ≤ 1000) n ?_ ?_ i
  · intro i hi hs h0 h1 h2
    rw [qGj]
    exact Tot.ifd_neg (by omega) (Tot.so (by omega))
  · intro i hi ih hs h0 h1 h2
    rw [qGj]
    simp only [Int.ofNat_eq_natCast]
    rw [w64 (x := i + 1) (by omega) (by omega)]
    refine Tot.ifd_pos (by omega) (Tot.g h0 (Tot.g (by omega) (Tot.b (qan _) (fun x _ => Tot.g (by simp; omega) (ih _ (by omega) (by omega) ?_)))))
    simp; omega
theorem qSk (hs : List Int) (hl : hs.length ≤ 1000) : ∀ n : Nat, n ≤ hs.length → Tot (qog n hs) fun x => x.length ≤ 1000
  | 0, hn => by
    rw [qHj]
    exact Tot.ifd_neg (by simp) (Tot.g (by omega) (Tot.g (by simp only [Int.ofNat_eq_natCast]; omega) (qRk hs _ _ (by omega) 0 [] (by omega) (by omega) rfl)))
  | n + 1, hn => by
    rw [qHj]
    simp only [Int.ofNat_eq_natCast]
    have e : ((n + 1 : Nat) : Int) - 1 = (n : Int) := by omega
    rw [w64 (x := ((n + 1 : Nat) : Int) - 1) (by omega) (by omega), e]
    refine Tot.ifd_pos (by omega) (Tot.g (by omega) (Tot.g (by omega) (Tot.b (qan _) (fun x _ => Tot.ifne (fun _ => qSk hs hl n (by omega)) (fun _ => Tot.g (by omega) (Tot.g (by omega) ?_))))))
    exact qRk hs _ _ (by omega) 0 [] (by omega) (by omega) rfl
theorem qFy {l : Int} {r : qla} (h : qrd l r) : Tot (qZm r) fun x => x.length ≤ 1000 := by
  rw [qTw]
  exact Tot.b (qnk h 16 (by decide)) (fun x hx => qSk x (by omega) x.length (Nat.le_refl _))
theorem qWw {l : Int} {r : qla} (h : qrd l r) (v b9 : List Int) (hv : v = [1, 2, 3, 4, 6]) (hs : List Int) (hl : hs.length = 6) : ∀ (i : Int) (b10 : List Int), 0 ≤ i → i ≤ 5 → Tot (qqg v i r b9 b10 hs) fun x => x.2 = 0 := by
  intro i
  refine qjc (P := fun i => ∀ (b10 : List Int), 0 ≤ i → i ≤ 5 → Tot (qqg v i r b9 b10 hs) fun x => x.2 = 0) 5 ?_ ?_ i
  · intro i hi b10 h0 h1
    rw [qcm]
    refine Tot.ifd_neg (by omega) (Tot.b (qFy h) (fun x hx => Tot.b (qsl 5 x (by omega)) (fun y _ => Tot.g (by decide) (Tot.g (by decide) (Tot.so rfl)))))
  · intro i hi ih b10 h0 h1
    rw [qcm]
    have hg : 1 ≤ v.getD i.toNat 0 ∧ v.getD i.toNat 0 ≤ 6 := by
      subst hv
      have : i = 0 ∨ i = 1 ∨ i = 2 ∨ i = 3 ∨ i = 4 := by omega
      rcases this with rfl | rfl | rfl | rfl | rfl <;> decide
    simp only [Int.ofNat_eq_natCast]
    rw [w64 (x := i + 1) (by omega) (by omega), w64 (x := 6 - v.getD i.toNat 0) (by omega) (by omega)]
    refine Tot.ifd_pos (by omega) (Tot.g h0 (Tot.g (by omega) (Tot.g (by omega) (Tot.g (by omega) (Tot.b (qsl _ _ ?_) (fun y _ => Tot.g h0 (Tot.g (by omega) (ih _ (by omega) (by omega)))))))))
    rw [List.length_take]; omega
theorem qqt {l : Int} {r : qla} (h : qrd l r) : Tot (qLe r) fun x => x.2 = 0 := by
  rw [qoB]
  refine Tot.be (qHc h) (Tot.ifne_neg rfl (Tot.b (qnk h 6 (by decide)) (fun x hx => ?_)))
  exact qWw h _ _ rfl x hx.1 0 _ (by omega) (by omega)
theorem qbm {l : Int} {r : qla} (h : qrd l r) : Tot (qpk r) fun x => 0 ≤ x.1 ∧ x.1 < 256 ∧ 0 ≤ x.2.1 ∧ x.2.1 < 256 := by
  rw [qAs]
  refine Tot.be (qHc h) (Tot.ifne_neg rfl (Tot.b (qnk h 2 (by decide)) (fun x hx => ?_)))
  simp only [Int.ofNat_eq_natCast]
  have h1 := qHa (P := fun x => 0 ≤ x ∧ x < 256) (d := 0) hx.2 1 (by omega)
  have h2 := qHa (P := fun x => 0 ≤ x ∧ x < 256) (d := 0) hx.2 0 (by omega)
  exact Tot.g (by omega) (Tot.g (by omega) (Tot.g (by omega) (Tot.g (by omega) (Tot.so ⟨h1.1, h1.2, h2.1, h2.2⟩))))
theorem qHy (a b : Int) : Tot (qcn a b) fun _ => True := by
  rw [qXw]
  exact Tot.ifd (fun _ => Tot.so trivial) (fun _ => Tot.ifd (fun _ => Tot.so trivial) (fun _ => Tot.b (qAA _ _) (fun _ _ => Tot.so trivial)))
end Go.Ab

/-
  Totality of the codec, 3: states and counts.
-/
set_option linter.unusedVariables false
set_option linter.unusedSimpArgs false
set_option maxRecDepth 10000
namespace Go.Ab
open Go
attribute [local irreducible] IntKind.wrap
theorem qfH {m : Int} (l : List Int) (hl : l.length ≤ 1048576) (h : ∀ x ∈ l, 0 ≤ x ∧ x ≤ m) : ∀ (i : Int) (v : Int), 0 ≤ i → 0 ≤ v → v ≤ m → Tot (qkb l v i) fun r => 0 ≤ r ∧ r ≤ m := by
  intro i
  refine qjc (P := fun i => ∀ v, 0 ≤ i → 0 ≤ v → v ≤ m → Tot (qkb l v i) fun r => 0 ≤ r ∧ r ≤ m) l.length ?_ ?_ i
  · intro i hi v h0 h1 h2
    rw [qNd]
    exact Tot.ifd_neg (by simp only [Int.ofNat_eq_natCast]; omega) (Tot.so ⟨h1, h2⟩)
  · intro i hi ih v h0 h1 h2
    rw [qNd]
    simp only [Int.ofNat_eq_natCast]
    rw [w64 (x := i + 1) (by omega) (by omega)]
    have hd := qHa (P := fun x => 0 ≤ x ∧ x ≤ m) (d := 0) h i.toNat (by omega)
    refine Tot.ifd_pos (by omega) (Tot.g h0 (Tot.g (by omega) (ih _ (by omega) ?_ ?_)))
    · split <;> omega
    · split <;> omega
theorem qMI {m : Int} (l : List Int) (hl : l.length ≤ 1048576) (h1 : 1 ≤ l.length) (h : ∀ x ∈ l, 0 ≤ x ∧ x ≤ m) : Tot (qtc l) fun r => 0 ≤ r ∧ r ≤ m := by
  rw [qXj]
  simp only [Int.ofNat_eq_natCast]
  have hd := qHa (P := fun x => 0 ≤ x ∧ x ≤ m) (d := 0) h 0 (by omega)
  exact Tot.ifd_neg (by omega) (Tot.g (by omega) (Tot.g (by omega) (qfH l hl h 1 _ (by omega) hd.1 hd.2)))
theorem qDE {m n : Int} (l : List Int) (hl : l.length ≤ 1048576) (h : ∀ x ∈ l, n ≤ x ∧ x ≤ m) : ∀ (i : Int) (v : Int), 0 ≤ i → n ≤ v → v ≤ m → Tot (qlb l v i) fun r => n ≤ r ∧ r ≤ m := by
  intro i
  refine qjc (P := fun i => ∀ v, 0 ≤ i → n ≤ v → v ≤ m → Tot (qlb l v i) fun r => n ≤ r ∧ r ≤ m) l.length ?_ ?_ i
  · intro i hi v h0 h1 h2
    rw [qOd]
    exact Tot.ifd_neg (by simp only [Int.ofNat_eq_natCast]; omega) (Tot.so ⟨h1, h2⟩)
  · intro i hi ih v h0 h1 h2
    rw [qOd]
    simp only [Int.ofNat_eq_natCast]
    rw [w64 (x := i + 1) (by omega) (by omega)]
    have hd := qHa (P := fun x => n ≤ x ∧ x ≤ m) (d := 0) h i.toNat (by omega)
    refine Tot.ifd_pos (by omega) (Tot.g h0 (Tot.g (by omega) (ih _ (by omega) ?_ ?_)))
    · split <;> omega
    · split <;> omega
theorem qdG {m n : Int} (l : List Int) (hl : l.length ≤ 1048576) (h1 : 1 ≤ l.length) (h : ∀ x ∈ l, n ≤ x ∧ x ≤ m) : Tot (quc l) fun r => n ≤ r ∧ r ≤ m := by
  rw [qYj]
  simp only [Int.ofNat_eq_natCast]
  have hd := qHa (P := fun x => n ≤ x ∧ x ≤ m) (d := 0) h 0 (by omega)
  exact Tot.ifd_neg (by omega) (Tot.g (by omega) (Tot.g (by omega) (qDE l hl h 1 _ (by omega) hd.1 hd.2)))
theorem qBE {m n : Int} (l : List Int) (hl : l.length ≤ 1048576) (h : ∀ x ∈ l, n ≤ x ∧ x ≤ m) : ∀ (i : Int) (v : Int), 0 ≤ i → n ≤ v → v ≤ m → Tot (qjb l v i) fun r => n ≤ r ∧ r ≤ m := by
  intro i
  refine qjc (P := fun i => ∀ v, 0 ≤ i → n ≤ v → v ≤ m → Tot (qjb l v i) fun r => n ≤ r ∧ r ≤ m) l.length ?_ ?_ i
  · intro i hi v h0 h1 h2
    rw [qMd]
    exact Tot.ifd_neg (by simp only [Int.ofNat_eq_natCast]; omega) (Tot.so ⟨h1, h2⟩)
  · intro i hi ih v h0 h1 h2
    rw [qMd]
    simp only [Int.ofNat_eq_natCast]
    rw [w64 (x := i + 1) (by omega) (by omega)]
    have hd := qHa (P := fun x => n ≤ x ∧ x ≤ m) (d := 0) h i.toNat (by omega)
    refine Tot.ifd_pos (by omega) (Tot.g h0 (Tot.g (by omega) (ih _ (by omega) ?_ ?_)))
    · split <;> omega
    · split <;> omega
theorem qcG {m n : Int} (l : List Int) (hl : l.length ≤ 1048576) (h1 : 1 ≤ l.length) (h : ∀ x ∈ l, n ≤ x ∧ x ≤ m) : Tot (qsc l) fun r => n ≤ r ∧ r ≤ m := by
  rw [qWj]
  simp only [Int.ofNat_eq_natCast]
  have hd := qHa (P := fun x => n ≤ x ∧ x ≤ m) (d := 0) h 0 (by omega)
  exact Tot.ifd_neg (by omega) (Tot.g (by omega) (Tot.g (by omega) (qBE l hl h 1 _ (by omega) hd.1 hd.2)))
def WfC (c : qTa) : Prop := (c.1 = 0 ∧ c.2.1 = 0 ∧ c.2.2.1 = 0) ∨ (c.2.2.1 = 0 ∧ 1 ≤ c.1 ∧ c.1 ≤ 12 ∧ 0 ≤ c.2.1 ∧ c.2.1 ≤ 7) ∨ (c.2.2.1 = 1 ∧ 1 ≤ c.2.1 ∧ c.2.1 ≤ 12 ∧ 0 ≤ c.1 ∧ c.1 ≤ 7)
theorem qeK (x y d : Int) : List.getD (List.set (List.set (List.replicate 2 (0:Int)) 0 x) 1 y) 0 d = x := rfl
theorem qdK (x y d : Int) : List.getD (List.set (List.set (List.replicate 2 (0:Int)) 0 x) 1 y) 1 d = y := rfl
theorem qBo {a : Int} (h0 : 0 ≤ a) (h1 : a ≤ 192) : Tot (qaj a) fun r => r.2 = 0 ∧ WfC r.1 := by
  rw [qLu, qtx]
  refine Tot.be rfl (Tot.ifd_neg (by rw [w64 (by omega) (by omega)]; omega) (Tot.ifeq (fun h => Tot.so ⟨rfl, Or.inl ⟨rfl, rfl, rfl⟩⟩) (fun h => ?_)))
  simp (disch := omega) only [wu8, w32, qUj, qRe]
  have hv : (a - 1) % 256 / 8 / 12 = 0 ∨ (a - 1) % 256 / 8 / 12 = 1 := by omega
  have hx : 0 ≤ (a - 1) % 256 / 8 % 12 ∧ (a - 1) % 256 / 8 % 12 < 12 := by omega
  have hy : 0 ≤ (a - 1) % 256 % 8 ∧ (a - 1) % 256 % 8 < 8 := by omega
  generalize (a - 1) % 256 / 8 % 12 = x at *
  generalize (a - 1) % 256 % 8 = y at *
  generalize (a - 1) % 256 / 8 / 12 = v at *
  rcases hv with rfl | rfl
  · refine Tot.g (by decide) (Tot.g (by decide) (Tot.g (by decide) (Tot.g (by decide) (Tot.g (by decide) (Tot.g (by decide) (Tot.g (by decide) (Tot.g (by decide) (Tot.g (by decide) (Tot.g (by decide) (Tot.g (by decide) (Tot.g (by decide) (Tot.g (by decide) (Tot.so ⟨rfl, Or.inr (Or.inl ?_)⟩)))))))))))))
    refine ⟨rfl, ?_, ?_, hy.1, ?_⟩
    · show 1 ≤ x + 1; omega
    · show x + 1 ≤ 12; omega
    · show y ≤ 7; omega
  · refine Tot.g (by decide) (Tot.g (by decide) (Tot.g (by decide) (Tot.g (by decide) (Tot.g (by decide) (Tot.g (by decide) (Tot.g (by decide) (Tot.g (by decide) (Tot.g (by decide) (Tot.g (by decide) (Tot.g (by decide) (Tot.g (by decide) (Tot.g (by decide) (Tot.so ⟨rfl, Or.inr (Or.inr ?_)⟩)))))))))))))
    refine ⟨rfl, ?_, ?_, hy.1, ?_⟩
    · show 1 ≤ x + 1; omega
    · show x + 1 ≤ 12; omega
    · show y ≤ 7; omega
theorem qrx {a : Int} (h0 : 0 ≤ a) (h1 : a ≤ 192) : Tot (qkm a) fun r => True := by
  rw [qIu]
  exact Tot.b (qBo h0 h1) (fun r _ => Tot.so trivial)
theorem qDy {c : qTa} (h : WfC c) : qYm c = some 0 := by
  obtain ⟨x, y, v, u⟩ := c
  rw [qSw]
  by_cases hp : peq qZa (x, y, v, u) (0, (0, (0, ()))) = true
  · rw [if_pos hp]
  · rw [if_neg hp]
    simp only [WfC] at h
    have e0 : ¬ (x = 0 ∧ y = 0 ∧ v = 0) := by
      intro ⟨h1, h2, h3⟩
      subst h1 h2 h3
      exact hp rfl
    rcases h with h | h | h
    · exact absurd h e0
    · obtain ⟨rfl, h⟩ := h
      have e1 : (1 - 0 : Int) % 256 = 1 := by decide
      have e2 : Int.toNat 1 = 1 := rfl
      simp only [wu8, e1, e2, Int.toNat_zero, qeK, qdK]
      exact Tot.eq (Tot.ifd_neg (by omega) (Tot.g (by decide) (Tot.g (by decide) (Tot.g (by decide) (Tot.g (by decide) (Tot.ifd_neg (by omega) (Tot.ifd_neg (by omega) (Tot.ifd_neg (by omega) (Tot.ifd_neg (by omega) (Tot.so rfl))))))))))
    · obtain ⟨rfl, h⟩ := h
      have e1 : (1 - 1 : Int) % 256 = 0 := by decide
      have e2 : Int.toNat 1 = 1 := rfl
      simp only [wu8, e1, e2, Int.toNat_zero, qeK, qdK]
      exact Tot.eq (Tot.ifd_neg (by omega) (Tot.g (by decide) (Tot.g (by decide) (Tot.g (by decide) (Tot.g (by decide) (Tot.ifd_neg (by omega) (Tot.ifd_neg (by omega) (Tot.ifd_neg (by omega) (Tot.ifd_neg (by omega) (Tot.so rfl))))))))))
theorem qhG (z : Int) : (if (12:Int) < z then 12 else z) = min 12 z := by split <;> omega
theorem qlB {c : qTa} (h : WfC c) {b : Int} (hb : b = 0 ∨ b = 1) : Tot (qVp c b) WfC := by
  obtain ⟨x, y, v, u⟩ := c
  have hr : 0 ≤ x ∧ x ≤ 12 ∧ 0 ≤ y ∧ y ≤ 12 := by
    simp only [WfC] at h; omega
  rw [qCy]
  rcases hb with rfl | rfl
  · have e1 : (1 - 0 : Int) % 256 = 1 := by decide
    have e2 : Int.toNat 1 = 1 := rfl
    simp only [wu8, e1, e2, Int.toNat_zero, qhG]
    have a1 : List.getD (List.set (List.set (List.replicate 2 (0:Int)) 0 x) 1 y) 0 0 = x := rfl
    rw [a1, w32 (x := x + 1) (by omega) (by omega)]
    have a2 : List.getD (List.set (List.set (List.set (List.replicate 2 (0:Int)) 0 x) 1 y) 0 (min 12 (x + 1))) 1 0 = y := rfl
    rw [a2, qUj (by omega), w32 (x := y / 2) (by omega) (by omega), w32 (x := y / 2 + 1) (by omega) (by omega)]
    refine Tot.g (by decide) (Tot.g (by decide) (Tot.g (by decide) (Tot.g (by decide) (Tot.g (by decide) (Tot.g (by decide) (Tot.ifd (fun k => ?_) (fun k => ?_)))))))
    · refine Tot.g (by decide) (Tot.g (by decide) (Tot.g (by decide) (Tot.g (by decide) (Tot.g (by decide) (Tot.so (Or.inr (Or.inl ⟨rfl, ?_, ?_, ?_, ?_⟩))))))) 
      · show 1 ≤ min 12 (x + 1); omega
      · show min 12 (x + 1) ≤ 12; omega
      · show 0 ≤ y / 2 + 1; omega
      · show y / 2 + 1 ≤ 7; omega
    · refine Tot.g (by decide) (Tot.g (by decide) (Tot.g (by decide) (Tot.g (by decide) (Tot.so (Or.inr (Or.inl ⟨rfl, ?_, ?_, ?_, ?_⟩)))))) 
      · show 1 ≤ min 12 (x + 1); omega
      · show min 12 (x + 1) ≤ 12; omega
      · show 0 ≤ y; omega
      · show y ≤ 7; omega
  · have e1 : (1 - 1 : Int) % 256 = 0 := by decide
    have e2 : Int.toNat 1 = 1 := rfl
    simp only [wu8, e1, e2, Int.toNat_zero, qhG]
    have a1 : List.getD (List.set (List.set (List.replicate 2 (0:Int)) 0 x) 1 y) 1 0 = y := rfl
    rw [a1, w32 (x := y + 1) (by omega) (by omega)]
    have a2 : List.getD (List.set (List.set (List.set (List.replicate 2 (0:Int)) 0 x) 1 y) 1 (min 12 (y + 1))) 0 0 = x := rfl
    rw [a2, qUj (by omega), w32 (x := x / 2) (by omega) (by omega), w32 (x := x / 2 + 1) (by omega) (by omega)]
    refine Tot.g (by decide) (Tot.g (by decide) (Tot.g (by decide) (Tot.g (by decide) (Tot.g (by decide) (Tot.g (by decide) (Tot.ifd (fun k => ?_) (fun k => ?_)))))))
    · refine Tot.g (by decide) (Tot.g (by decide) (Tot.g (by decide) (Tot.g (by decide) (Tot.g (by decide) (Tot.so (Or.inr (Or.inr ⟨rfl, ?_, ?_, ?_, ?_⟩))))))) 
      · show 1 ≤ min 12 (y + 1); omega
      · show min 12 (y + 1) ≤ 12; omega
      · show 0 ≤ x / 2 + 1; omega
      · show x / 2 + 1 ≤ 7; omega
    · refine Tot.g (by decide) (Tot.g (by decide) (Tot.g (by decide) (Tot.g (by decide) (Tot.so (Or.inr (Or.inr ⟨rfl, ?_, ?_, ?_, ?_⟩)))))) 
      · show 1 ≤ min 12 (y + 1); omega
      · show min 12 (y + 1) ≤ 12; omega
      · show 0 ≤ x; omega
      · show x ≤ 7; omega
theorem qjD {c : qTa} (h : WfC c) {b : Int} (hb : b = 0 ∨ b = 1) : Tot (qzs c [b]) fun r => r.2 = 0 ∧ WfC r.1 := by
  rw [qnB]
  have e : (Int.ofNat [b].length) = 1 := rfl
  rw [e]
  refine Tot.be (qDy h) (Tot.ifne_neg rfl (Tot.ifd_neg (by decide) (Tot.ifd_pos (by decide) (Tot.b (qMI (m := 1) [b] (by show 1 ≤ _; decide) (by show 1 ≤ 1; decide) (fun x hx => by rw [List.mem_singleton.1 hx]; omega)) (fun r hr => Tot.ifd_neg (by omega) ?_)))))
  rw [qam]
  have eb : [b].getD (Int.toNat 0) 0 = b := rfl
  rw [e, eb, w64 (x := 0 + 1) (by decide) (by decide)]
  refine Tot.ifd_pos (by decide) (Tot.g (by decide) (Tot.g (by decide) (Tot.b (qlB h hb) (fun r hr => ?_))))
  rw [qam]
  exact Tot.ifd_neg (by decide) (Tot.so ⟨rfl, hr⟩)
theorem qGu {c : qTa} (h : WfC c) : Tot (qbl c) fun r => 0 ≤ r ∧ r ≤ 192 := by
  obtain ⟨x, y, v, u⟩ := c
  rw [qwt]
  refine Tot.it (fun _ => Tot.so (by decide)) (fun hp => ?_)
  simp only [WfC] at h
  have e0 : ¬ (x = 0 ∧ y = 0 ∧ v = 0) := by
    intro ⟨h1, h2, h3⟩
    subst h1 h2 h3
    exact hp rfl
  rcases h with h | h | h
  · exact absurd h e0
  · obtain ⟨rfl, h⟩ := h
    have e1 : (1 - 0 : Int) % 256 = 1 := by decide
    have e2 : Int.toNat 1 = 1 := rfl
    simp (disch := omega) only [wu8, e1, e2, Int.toNat_zero, qeK, qdK, w32]
    refine Tot.g (by decide) (Tot.g (by decide) (Tot.g (by decide) (Tot.g (by decide) (Tot.so ?_))))
    omega
  · obtain ⟨rfl, h⟩ := h
    have e1 : (1 - 1 : Int) % 256 = 0 := by decide
    have e2 : Int.toNat 1 = 1 := rfl
    simp (disch := omega) only [wu8, e1, e2, Int.toNat_zero, qeK, qdK, w32]
    refine Tot.g (by decide) (Tot.g (by decide) (Tot.g (by decide) (Tot.g (by decide) (Tot.so ?_))))
    omega
theorem qFz {a b : Int} (h0 : 0 ≤ a) (h1 : a ≤ 192) (hb : b = 0 ∨ b = 1) : Tot (qkp a b) fun r => r.2 = 0 ∧ 0 ≤ r.1 ∧ r.1 ≤ 192 := by
  rw [qvx, qEz]
  refine Tot.b (P := fun r => r.2 = 0 ∧ 0 ≤ r.1 ∧ r.1 ≤ 192) (Tot.b (qBo h0 h1) (fun r hr => Tot.ifne_neg hr.1 (Tot.ifd_neg (by show ¬ (1:Int) > 20000; decide) ?_))) (fun r hr => Tot.so hr)
  have hc : qHb [b] = some false := by
    have e : (Int.ofNat [b].length) = 1 := rfl
    have eb : [b].getD (Int.toNat 0) 0 = b := rfl
    rw [qRf, qKg, qvc, e, eb, w64 (x := 0 + 1) (by decide) (by decide), if_pos (by decide), qga (by decide), qga (by decide), qKu, Option.bind_some, if_neg (by simp; omega), qvc, if_neg (by decide)]
    rfl
  refine Tot.be hc (Tot.iff_ (Tot.b (qjD hr.2 hb) (fun s hs => Tot.ifne_neg hs.1 (Tot.b (qGu hs.2) (fun t ht => Tot.so ⟨rfl, ht⟩)))))
end Go.Ab

/-
  Totality of the codec, 4: tables, maps, finders.
-/
set_option linter.unusedVariables false
set_option linter.unusedSimpArgs false
set_option maxRecDepth 10000
namespace Go.Ab
open Go
attribute [local irreducible] IntKind.wrap
def WfSlot (s : qsd) : Prop := s.2.1.length = 15 ∧ ∀ x ∈ s.2.1, 0 ≤ x ∧ x ≤ 192
def qJl (l : Int) (t : qja) : Prop := t.1 = l ∧ (0 ≤ l ∧ l ≤ 7) ∧ (t.2.1.length : Int) = plT l ∧ ∀ s ∈ t.2.1, WfSlot s
theorem qBt (l : List qsd) (hl : l.length ≤ 1048576) (h : ∀ s ∈ l, WfSlot s) : ∀ i : Int, 0 ≤ i → Tot (qZe l l.length i) fun r => r = 0 := by
  intro i
  refine qjc (P := fun i => 0 ≤ i → Tot (qZe l l.length i) fun r => r = 0) l.length ?_ ?_ i
  · intro i hi h0
    rw [qzk]
    exact Tot.ifd_neg (by omega) (Tot.so rfl)
  · intro i hi ih h0
    rw [qzk]
    simp only [Int.ofNat_eq_natCast]
    rw [w64 (x := i + 1) (by omega) (by omega)]
    have hd := qHa (P := WfSlot) (d := qpa qfb) h i.toNat (by omega)
    refine Tot.ifd_pos (by omega) (Tot.g h0 (Tot.g (by omega) (Tot.b (qMI (m := 192) _ ?_ ?_ ?_) (fun r hr => Tot.ifd_neg (by omega) (ih (by omega))))))
    · have := hd.1; simp only [List.length_take, List.length_drop]; omega
    · have := hd.1; simp only [List.length_take, List.length_drop]; omega
    · exact fun x hx => hd.2 x (List.mem_of_mem_drop (List.mem_of_mem_take hx))
theorem qcl {l : Int} {t : qja} (h : qJl l t) : qti t = some 0 := by
  obtain ⟨h1, ⟨h2, h3⟩, h4, h5⟩ := h
  have hp := qsv h2 h3
  rw [qxx, h1, qRs h2 h3]
  simp only [Int.ofNat_eq_natCast]
  exact Tot.eq (Tot.ifd_neg (by omega) (Tot.ifd_neg (by omega) (Tot.be rfl (Tot.ifne_neg h4 (qBt _ (by omega) h5 0 (by omega))))))
theorem qOl {s : qsd} (h : WfSlot s) : Tot (qXg s) fun _ => True := by
  rw [qKr]
  have hd := qHa (P := fun x => 0 ≤ x ∧ x ≤ 192) (d := 0) h.2 0 (by rw [h.1]; decide)
  exact Tot.g (by decide) (Tot.g (by decide) (Tot.b (qrx hd.1 hd.2) (fun r _ => Tot.so trivial)))
theorem WfSlot.zero (c : Int) : WfSlot (c, ((List.replicate 15 0), ())) := ⟨rfl, fun x hx => by rw [List.eq_of_mem_replicate hx]; omega⟩
theorem qMB {l : Int} {t : qja} (h : qJl l t) (a : Int) : Tot (qLr t a) fun r => qJl l r.1 ∧ 0 ≤ r.2.1 ∧ r.2.1 < plT l ∧ r.2.2 = 0 := by
  have hh := h
  obtain ⟨h1, ⟨h2, h3⟩, h4, h5⟩ := h
  have hp := qsv h2 h3
  rw [qLz]
  simp only [Int.ofNat_eq_natCast]
  refine Tot.be (qcl hh) (Tot.ifne_neg rfl (Tot.b (qhk a (4 + l.toNat) (by omega) h4) (fun r hr => Tot.ifne_neg hr.1 (Tot.b (qky a) (fun c _ => Tot.be (qqf _ (by omega)) ?_)))))
  have hx := qAN r.1 (4 + l.toNat) (by omega) (by omega) hr.2.1 (by rw [h4] at hr; exact hr.2.2)
  have hx2 : qNa .i64 r.1 1 < plT l := hx.2
  have hd1 := qHa (P := WfSlot) (d := qpa qfb) h5 r.1.toNat (by omega)
  have hd2 := qHa (P := WfSlot) (d := qpa qfb) h5 (qNa .i64 r.1 1).toNat (by omega)
  refine Tot.g hr.2.1 (Tot.g hr.2.2 (Tot.ifeq (fun _ => Tot.so ⟨⟨h1, ⟨h2, h3⟩, h4, h5⟩, hr.2.1, by rw [← h4]; exact hr.2.2, rfl⟩) (fun _ => Tot.g hx.1 (Tot.g (by rw [h4]; exact hx2) (Tot.ifeq (fun _ => Tot.so ⟨⟨h1, ⟨h2, h3⟩, h4, h5⟩, hx.1, hx2, rfl⟩) (fun _ => ?_))))))
  refine Tot.g hx.1 (Tot.g (by omega) (Tot.b (qOl hd2) (fun _ _ => Tot.g hr.2.1 (Tot.g hr.2.2 (Tot.b (qOl hd1) (fun _ _ => Tot.ifd (fun _ => ?_) (fun _ => ?_)))))))
  · exact Tot.g hx.1 (Tot.g (by omega) (Tot.so ⟨⟨h1, ⟨h2, h3⟩, by simpa using h4, qJd h5 (WfSlot.zero _) _⟩, hx.1, hx2, rfl⟩))
  · exact Tot.g hr.2.1 (Tot.g hr.2.2 (Tot.so ⟨⟨h1, ⟨h2, h3⟩, by simpa using h4, qJd h5 (WfSlot.zero _) _⟩, hr.2.1, by rw [← h4]; exact hr.2.2, rfl⟩))
theorem qbz {l : Int} {t : qja} (h : qJl l t) {i n : Int} (h0 : 0 ≤ i) (h1 : i < plT l) (h2 : 1 ≤ n) (h3 : n ≤ 15) : qmu t i n = some 0 := by
  rw [qVD]
  simp only [Int.ofNat_eq_natCast]
  exact Tot.eq (Tot.be (qcl h) (Tot.ifne_neg rfl (Tot.ifd_neg (by omega) (Tot.ifd_neg (by rw [h.2.2.1]; omega) (Tot.ifd_neg (by omega) (Tot.ifd_neg (by omega) (Tot.so rfl)))))))
theorem qmp {l : Int} {t : qja} (h : qJl l t) {i n : Int} (h0 : 0 ≤ i) (h1 : i < plT l) (h2 : 1 ≤ n) (h3 : n ≤ 15) : Tot (qpq t i n) fun r => r.2 = 0 ∧ 0 ≤ r.1 ∧ r.1 ≤ 192 := by
  rw [qLB]
  simp only [Int.ofNat_eq_natCast]
  have h4 := h.2.2.1
  rw [w64 (x := n - 1) (by omega) (by omega)]
  have hd := qHa (P := WfSlot) (d := qpa qfb) h.2.2.2 i.toNat (by omega)
  have he := qHa (P := fun x => 0 ≤ x ∧ x ≤ 192) (d := 0) hd.2 (n - 1).toNat (by rw [hd.1]; omega)
  exact Tot.be (qbz h h0 h1 h2 h3) (Tot.ifne_neg rfl (Tot.g h0 (Tot.g (by omega) (Tot.g (by omega) (Tot.g (by omega) (Tot.so ⟨rfl, he.1, he.2⟩))))))
theorem qWD {l : Int} {t : qja} (h : qJl l t) {i n v : Int} (h0 : 0 ≤ i) (h1 : i < plT l) (h2 : 1 ≤ n) (h3 : n ≤ 15) (hv0 : 0 ≤ v) (hv1 : v ≤ 192) : Tot (qNu t i n v) fun r => r.2 = 0 ∧ qJl l r.1 := by
  rw [qJB]
  simp only [Int.ofNat_eq_natCast]
  have h4 := h.2.2.1
  have hp := qsv h.2.1.1 h.2.1.2
  rw [w64 (x := n - 1) (by omega) (by omega)]
  have hd := qHa (P := WfSlot) (d := qpa qfb) h.2.2.2 (0 + i.toNat) (by omega)
  refine Tot.be (qbz h h0 h1 h2 h3) (Tot.ifne_neg rfl (Tot.ifd_neg (by omega) (Tot.be (qqf _ (by omega)) (Tot.g h0 (Tot.g (by omega) (Tot.g (by omega) (Tot.g (by omega) (Tot.so ⟨rfl, h.1, h.2.1, by simpa using h4, qJd h.2.2.2 ?_ _⟩))))))))
  exact ⟨by simpa using hd.1, qJd hd.2 ⟨hv0, hv1⟩ _⟩
theorem qaE {l : Int} {t : qja} (h : qJl l t) {i n b : Int} (h0 : 0 ≤ i) (h1 : i < plT l) (h2 : 1 ≤ n) (h3 : n ≤ 15) (hb : b = 0 ∨ b = 1) : Tot (qQu t i n b) fun r => r.2 = 0 ∧ qJl l r.1 := by
  rw [qOB]
  exact Tot.b (qmp h h0 h1 h2 h3) (fun r hr => Tot.ifne_neg hr.1 (Tot.b (qFz hr.2.1 hr.2.2 hb) (fun s hs => Tot.ifne_neg hs.1 (Tot.b (qWD h h0 h1 h2 h3 hs.2.1 hs.2.2) (fun u hu => Tot.so hu)))))
def qOD (a : qia) : Prop := a.1 = 255 ∧ (a.2.1.length = 193 ∧ ∀ x ∈ a.2.1, 0 ≤ x ∧ x ≤ 65535) ∧ a.2.2.1.length = 193 ∧ ∀ x ∈ a.2.2.1, 0 ≤ x ∧ x ≤ 255
theorem qAn {l : List Int} {m : Int} (hl : l.length = 193) (h : ∀ x ∈ l, 0 ≤ x ∧ x ≤ m) : qoi l m = some false := by
  rw [qgu]
  simp only [Int.ofNat_eq_natCast]
  exact Tot.eq (Tot.ifne_neg (by omega) (Tot.b (qcG l (by omega) (by omega) h) (fun r hr => Tot.ifd_neg (by omega) (Tot.b (qdG l (by omega) (by omega) h) (fun s hs => Tot.so (by simp; omega))))))
theorem qzr {a : qia} (h : qOD a) : qIl a = some 0 := by
  rw [qVy]
  have e : G_targets.getD 1 0 = 65535 := rfl
  rw [e, h.1]
  exact Tot.eq (Tot.ifd_neg (by omega) (Tot.ifd_neg (by omega) (Tot.g (by omega) (Tot.g (by omega) (Tot.be (qAn h.2.1.1 h.2.1.2) (Tot.iff_ (Tot.be (qAn h.2.2.1 h.2.2.2) (Tot.iff_ (Tot.so rfl)))))))))
theorem qwz {a : qia} (h : qOD a) {s : Int} (h1 : s ≤ 192) : qyu a s = some 0 := by
  rw [qxF]
  exact Tot.eq (Tot.be (qzr h) (Tot.ifne_neg rfl (Tot.ifd_neg (by omega) (Tot.so rfl))))
theorem qGD {a : qia} (h : qOD a) {s : Int} (h0 : 0 ≤ s) (h1 : s ≤ 192) : Tot (qyF a s) fun r => r.2 = 0 ∧ 0 ≤ r.1 ∧ r.1 ≤ 65535 := by
  rw [qFH]
  simp only [Int.ofNat_eq_natCast]
  have hd := qHa (P := fun x => 0 ≤ x ∧ x ≤ 65535) (d := 0) h.2.1.2 s.toNat (by rw [h.2.1.1]; omega)
  exact Tot.be (qwz h h1) (Tot.ifne_neg rfl (Tot.g h0 (Tot.g (by rw [h.2.1.1]; omega) (Tot.so ⟨rfl, hd⟩))))
theorem qYG {n : Int} (h0 : 1 ≤ n) (h1 : n ≤ 1024) : Tot (qXz n) fun r => r.2 = 0 ∧ 0 ≤ r.1 ∧ r.1 ≤ 65536 := by
  rw [qnE, qUj (by omega)]
  have h3 : 0 ≤ 65536 / n := Int.ediv_nonneg (by omega) (by omega)
  have h4 : 65536 / n ≤ 65536 := Int.ediv_le_self _ (by omega)
  rw [w32 (by omega) (by omega)]
  exact Tot.ifd_neg (by omega) (Tot.ifd_neg (by omega) (Tot.g (by omega) (Tot.so ⟨rfl, h3, h4⟩)))
theorem qcC {p t n : Int} (hp0 : 0 ≤ p) (hp1 : p ≤ 65535) (ht : t = 0 ∨ t = 65535) (h0 : 1 ≤ n) (h1 : n ≤ 1024) : Tot (qVr p t n) fun r => r.2 = 0 ∧ 0 ≤ r.1 ∧ r.1 ≤ 65535 := by
  rw [qWz, qeC]
  have e1 : IntKind.wrap .i32 (t - p) = t - p := w32 (by omega) (by omega)
  rw [e1]
  refine Tot.ifd_neg (by split <;> omega) (Tot.ifd_neg (by split <;> omega) (Tot.b (P := fun r => r.2 = 0 ∧ -p ≤ r.1 ∧ r.1 ≤ 65535 - p) ?_ (fun r hr => Tot.ifne_neg hr.1 (Tot.so ?_))))
  · refine Tot.b (qYG h0 h1) (fun q hq => Tot.ifne_neg hq.1 (Tot.g (by decide) (Tot.so ?_)))
    rw [w64 (x := t - p) (by omega) (by omega), w64 (x := q.1) (by omega) (by omega)]
    have hm : -(p * 65536) ≤ (t - p) * q.1 ∧ (t - p) * q.1 ≤ (65535 - p) * 65536 := by
      rcases ht with rfl | rfl
      · have a1 : p * q.1 ≤ p * 65536 := Int.mul_le_mul_of_nonneg_left hq.2.2 hp0
        have a2 : 0 ≤ p * q.1 := Int.mul_nonneg hp0 hq.2.1
        have a3 : (0 - p) * q.1 = -(p * q.1) := by rw [Int.zero_sub, Int.neg_mul]
        rw [a3]; omega
      · have a1 : (65535 - p) * q.1 ≤ (65535 - p) * 65536 := Int.mul_le_mul_of_nonneg_left hq.2.2 (by omega)
        have a2 : 0 ≤ (65535 - p) * q.1 := Int.mul_nonneg (by omega) hq.2.1
        omega
    generalize (t - p) * q.1 = z at *
    rw [w64 (x := z) (by omega) (by omega), qEj _ (by omega), w32 (by omega) (by omega)]
    refine ⟨rfl, ?_, ?_⟩
    · show -p ≤ z / 65536; omega
    · show z / 65536 ≤ 65535 - p; omega
  · rw [w32 (by omega) (by omega)]
    exact ⟨rfl, by simp only; omega, by simp only; omega⟩
theorem qED {a : qia} (h : qOD a) : qMs a = some a := by
  rw [qzB, qMa _ (by rw [h.2.1.1]; decide), Option.bind_some, qMa _ (by rw [h.2.2.1]; decide), Option.bind_some]
theorem qRy {p q : List Int} {u : Unit} {s b : Int} (h0 : 0 ≤ s) (h1 : s ≤ 192) (hb : b = 0 ∨ b = 1) (hp : p.length = 193 ∧ ∀ x ∈ p, 0 ≤ x ∧ x ≤ 65535) (hq : q.length = 193 ∧ ∀ x ∈ q, 0 ≤ x ∧ x ≤ 255) :
    Tot (qBn 255 u s b p q) fun r => r.1 = 0 ∧ (r.2.1.length = 193 ∧ ∀ x ∈ r.2.1, 0 ≤ x ∧ x ≤ 65535) ∧ r.2.2.length = 193 ∧ ∀ x ∈ r.2.2, 0 ≤ x ∧ x ≤ 255 := by
  rw [qjx]
  simp only [Int.ofNat_eq_natCast]
  have hd := qHa (P := fun x => 0 ≤ x ∧ x ≤ 65535) (d := 0) hp.2 (0 + s.toNat) (by rw [hp.1]; omega)
  have he := qHa (P := fun x => 0 ≤ x ∧ x ≤ 255) (d := 0) hq.2 (0 + s.toNat) (by rw [hq.1]; omega)
  generalize p.getD (0 + s.toNat) 0 = x at *
  generalize q.getD (0 + s.toNat) 0 = y at *
  rw [w32 (x := y + 1) (by omega) (by omega)]
  have hn : 1 ≤ (if 255 < y + 1 then 255 else y + 1) ∧ (if 255 < y + 1 then 255 else y + 1) ≤ 255 := by split <;> omega
  generalize (if 255 < y + 1 then 255 else y + 1) = n at *
  rw [w32 (x := n + 1) (by omega) (by omega)]
  have ht : G_targets.getD b.toNat 0 = 0 ∨ G_targets.getD b.toNat 0 = 65535 := by
    rcases hb with rfl | rfl
    · exact Or.inl rfl
    · exact Or.inr rfl
  refine Tot.g h0 (Tot.g (by omega) (Tot.g h0 (Tot.g (by omega) (Tot.g (by omega) (Tot.g (by omega) (Tot.b (qcC hd.1 hd.2 ht (by omega) (by omega)) (fun r hr => Tot.g h0 (Tot.g (by omega) (Tot.g h0 (Tot.g (by omega) (Tot.so ?_)))))))))))
  exact ⟨hr.1, ⟨by simpa using hp.1, qJd hp.2 hr.2 _⟩, by simpa using hq.1, qJd hq.2 ⟨by omega, by omega⟩ _⟩
theorem qTy {a : qia} (h : qOD a) {s b : Int} (h0 : 0 ≤ s) (h1 : s ≤ 192) (hb : b = 0 ∨ b = 1) : Tot (qCn a s b) fun r => r.2 = 0 ∧ qOD r.1 := by
  rw [qkx]
  refine Tot.be (qwz h h1) (Tot.ifne_neg rfl (Tot.ifd_neg (by omega) (Tot.be (qED h) ?_)))
  rw [h.1]
  exact Tot.b (qRy h0 h1 hb h.2.1 h.2.2) (fun r hr => Tot.ifne_neg hr.1 (Tot.so ⟨rfl, rfl, hr.2.1, hr.2.2⟩))
def qDn (l : Int) (f : qAa) : Prop := f.1 = l ∧ (0 ≤ l ∧ l ≤ 7) ∧ (f.2.1.length : Int) = plR l ∧ ∀ x ∈ f.2.1, -1 ≤ x ∧ x ≤ 1073741824
theorem qpB (l : List Int) (hl : l.length ≤ 1048576) (h : ∀ x ∈ l, -1 ≤ x ∧ x ≤ 1073741824) : qoc l = some false := by
  have key : ∀ i : Int, 0 ≤ i → Tot (qgb l l.length i) fun r => r = -1 := by
    intro i
    refine qjc (P := fun i => 0 ≤ i → Tot (qgb l l.length i) fun r => r = -1) l.length ?_ ?_ i
    · intro i hi h0
      rw [qud]
      exact Tot.ifd_neg (by omega) (Tot.so rfl)
    · intro i hi ih h0
      rw [qud]
      simp only [Int.ofNat_eq_natCast]
      rw [w64 (x := i + 1) (by omega) (by omega)]
      have hd := qHa (P := fun x => -1 ≤ x ∧ x ≤ 1073741824) (d := 0) h i.toNat (by omega)
      refine Tot.ifd_pos (by omega) (Tot.g h0 (Tot.g (by omega) (Tot.be (v := false) ?_ (Tot.iff_ (ih (by omega))))))
      rw [qps]
      exact Tot.eq (Tot.ifd_neg (by omega) (Tot.so (decide_eq_false (by omega))))
  rw [qih, qui]
  exact Tot.eq (Tot.b (key 0 (by omega)) (fun r hr => Tot.so (by rw [hr]; rfl)))
theorem qjk {l : Int} {f : qAa} (h : qDn l f) : qvh f = some 0 := by
  obtain ⟨h1, ⟨h2, h3⟩, h4, h5⟩ := h
  have hp := qet h2 h3
  rw [qAw, h1, qQm h2 h3]
  simp only [Int.ofNat_eq_natCast]
  exact Tot.eq (Tot.ifd_neg (by omega) (Tot.ifd_neg (by omega) (Tot.be rfl (Tot.ifne_neg h4 (Tot.be (qpB _ (by omega) h5) (Tot.iff_ (Tot.so rfl)))))))
theorem qap {l : Int} {f : qAa} (h : qDn l f) (a : Int) : Tot (qCj f a) fun r => r.2 = 0 ∧ 0 ≤ r.1 ∧ r.1 < f.2.1.length := by
  rw [qyw]
  exact Tot.be (qjk h) (Tot.ifne_neg rfl (Tot.b (qhk a (6 + l.toNat) (by have := h.2.1; omega) h.2.2.1) (fun r hr => Tot.so hr)))
theorem qgi {l : Int} {f : qAa} (h : qDn l f) (a : Int) : Tot (qPg f a) fun r => r.2 = 0 ∧ -1 ≤ r.1 ∧ r.1 ≤ 1073741824 := by
  rw [qoy]
  simp only [Int.ofNat_eq_natCast]
  refine Tot.b (qap h a) (fun r hr => Tot.ifne_neg hr.1 (Tot.g hr.2.1 (Tot.g hr.2.2 (Tot.so ⟨rfl, ?_⟩))))
  exact qHa (P := fun x => -1 ≤ x ∧ x ≤ 1073741824) h.2.2.2 _ (by omega)
theorem qHC {l : Int} {f : qAa} (h : qDn l f) (a : Int) {v : Int} (h0 : 0 ≤ v) (h1 : v ≤ 1073741824) : Tot (qXa f a v) fun r => r.2 = 0 ∧ qDn l r.1 := by
  rw [qEA]
  simp only [Int.ofNat_eq_natCast]
  have hp := qet h.2.1.1 h.2.1.2
  refine Tot.b (qap h a) (fun r hr => Tot.ifne_neg hr.1 (Tot.ifd_neg (by omega) (Tot.ifd_neg (by omega) (Tot.be (qHg _ (by have := h.2.2.1; omega)) (Tot.g hr.2.1 (Tot.g hr.2.2 (Tot.so ⟨rfl, h.1, h.2.1, by simpa using h.2.2.1, qJd h.2.2.2 ⟨by omega, h1⟩ _⟩)))))))
theorem qDj {l : Int} {r : qla} (h : qrd l r) (v1 v2 v10 : Int) (M : Int) (hM : M = if v2 < v10 then v2 else v10) (hM1 : M ≤ 1073741824) (P : Int → Prop)
    (hP : ∀ v, 0 ≤ v → v ≤ max M 0 → P v) : ∀ (n : Nat) (k : Int) (v11 : Int), (4 - k).toNat = n → 0 ≤ k → k ≤ 4 → 0 ≤ v11 → v11 ≤ max M 0 → (∀ v, v11 + (4 - k) = v → v ≤ max M 0 → Tot (qDc v1 v2 r.2.1.length v10 v r) fun x => P x.1) →
    Tot (qlf v1 v2 r.2.1.length v10 v11 k r) fun x => P x.1
  | 0, k, v11, hn, h0, h4, hv0, hv1, ih => by
    rw [qHi]
    exact Tot.ifd_neg (by omega) (ih v11 (by omega) hv1)
  | n + 1, k, v11, hn, h0, h4, hv0, hv1, ih => by
    rw [qHi, ← hM]
    simp only [Int.ofNat_eq_natCast]
    have hp := qet h.2.1.1 h.2.1.2
    have hl := h.2.2.1
    rw [w64 (x := v11 + 1) (by omega) (by omega), w64 (x := k + 1) (by omega) (by omega), w64 (x := (r.2.1.length : Int) - 1) (by omega) (by omega)]
    have b1 := qWK (IntKind.wrap .i64 (v1 - (v11 + 1))) ((r.2.1.length : Int) - 1) (by omega) (by omega)
    have b2 := qWK (IntKind.wrap .i64 (r.2.2.1 - (v11 + 1))) ((r.2.1.length : Int) - 1) (by omega) (by omega)
    refine Tot.ifd_pos (by omega) (Tot.ifd (fun _ => Tot.so (hP _ hv0 hv1)) (fun hle => Tot.g b1.1 (Tot.g (by omega) (Tot.g b2.1 (Tot.g (by omega) (Tot.ifne (fun _ => Tot.so (hP _ hv0 hv1)) (fun _ => ?_)))))))
    exact qDj h v1 v2 v10 M hM hM1 P hP n (k + 1) (v11 + 1) (by omega) (by omega) (by omega) (by omega) (by omega) (fun v e hv => ih v (by omega) hv)
theorem qgr {l : Int} {r : qla} (h : qrd l r) (v1 v2 v10 : Int) (M : Int) (hM : M = if v2 < v10 then v2 else v10) (hM1 : M ≤ 1073741824) :
    ∀ (v11 : Int), 0 ≤ v11 → v11 ≤ max M 0 → Tot (qDc v1 v2 r.2.1.length v10 v11 r) fun x => 0 ≤ x.1 ∧ x.1 ≤ max M 0 := by
  have key : ∀ (m : Nat) (v11 : Int), (M - v11).toNat ≤ m → 0 ≤ v11 → v11 ≤ max M 0 → Tot (qDc v1 v2 r.2.1.length v10 v11 r) fun x => 0 ≤ x.1 ∧ x.1 ≤ max M 0 := by
    intro m
    induction m with
    | zero =>
      intro v11 hm h0 h1
      rw [qIi, ← hM]
      exact Tot.ifd_neg (by omega) (Tot.so ⟨h0, h1⟩)
    | succ m ih =>
      intro v11 hm h0 h1
      rw [qIi, ← hM]
      refine Tot.ifd (fun hlt => ?_) (fun _ => Tot.so ⟨h0, h1⟩)
      exact qDj h v1 v2 v10 M hM hM1 (fun x => 0 ≤ x ∧ x ≤ max M 0) (fun v a b => ⟨a, b⟩) 4 0 v11 rfl (by omega) (by omega) h0 h1 (fun v e hv => ih v (by omega) (by omega) hv)
  intro v11
  exact key _ v11 (Nat.le_refl _)
theorem qJi {l : Int} {r : qla} (h : qrd l r) (a : Int) : Tot (qKe r a 40) fun x => 0 ≤ x.1 ∧ x.1 ≤ 40 := by
  rw [qTt]
  simp only [Int.ofNat_eq_natCast]
  refine Tot.be (qHc h) (Tot.ifne_neg rfl (Tot.ifd (fun _ => Tot.so (by decide)) (fun _ => Tot.ifd (fun _ => Tot.so (by decide)) (fun _ => Tot.ifd (fun _ => Tot.so (by decide)) (fun _ => ?_)))))
  refine Tot.mono (qgr h a 40 _ _ rfl (by split <;> omega) 0 (by omega) (by omega)) (fun x hx => ⟨hx.1, ?_⟩)
  refine Int.le_trans hx.2 ?_
  split <;> omega
end Go.Ab
