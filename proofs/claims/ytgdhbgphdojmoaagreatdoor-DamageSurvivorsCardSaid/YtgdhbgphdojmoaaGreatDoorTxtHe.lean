/-
  An abstract machine over the model's code and its soundness; what the functions compute, as plain functions (printed by a program of this repo's own, checked here by the kernel); plain laws of them: part 5. Helper text, no statement of the claim stands here.
-/
import Derived.Test.YtgdhbgphdojmoaaGreatDoorTxtHd
import Derived.Test.YtgdhbgphdojmoaaGreatDoorProg
set_option linter.unusedVariables false
set_option maxRecDepth 20000
namespace Go.Ab
open Go Go.Proofs
abbrev qga : Ty := (.pair (.int .i64) (.pair (.int .i64) (.pair (.int .i64) .unit)))
abbrev qfa : Type := (Int × (Int × (Int × Unit)))
abbrev qma : Ty := (.pair (.int .u8) (.pair (.int .i64) (.pair (.int .i64) (.pair (.int .i64) (.pair (.int .i64) (.pair (.arr 20 (.int .u8)) .unit))))))
abbrev qda : Type := (Int × (Int × (Int × (Int × (Int × ((List Int) × Unit))))))
abbrev qva : Ty := (.pair (.int .i64) (.pair qma (.pair (.slice (.int .u8)) .unit)))
abbrev qpa : Type := (Int × (qda × ((List Int) × Unit)))
abbrev qqa : Ty := (.pair (.int .i64) (.pair (.int .i64) .unit))
abbrev qna : Type := (Int × (Int × Unit))
abbrev qsa : Ty := (.pair qqa (.pair (.slice (.pair .str (.pair (.int .i64) (.pair (.arr 20 (.int .u8)) .unit)))) (.pair (.slice qma) .unit)))
abbrev qta : Type := (qna × ((List (ByteArray × (Int × ((List Int) × Unit)))) × ((List qda) × Unit)))
abbrev T_api_Harm : Ty := (.pair (.int .u8) (.pair (.int .i64) (.pair (.int .i64) (.pair (.slice (.int .u8)) .unit))))
abbrev qka : Type := (Int × (Int × (Int × ((List Int) × Unit))))
abbrev T_api_Member : Ty := (.pair .str (.pair (.slice (.int .u8)) .unit))
abbrev qia : Type := (ByteArray × ((List Int) × Unit))
abbrev qwa : Ty := (.pair qma (.pair (.slice (.int .u8)) .unit))
abbrev qoa : Type := (qda × ((List Int) × Unit))
abbrev qya : Ty := (.pair qga (.pair (.slice (.int .u8)) .unit))
abbrev qra : Type := (qfa × ((List Int) × Unit))
abbrev qba : Ty := (.pair .str (.pair (.int .i64) (.pair (.arr 20 (.int .u8)) .unit)))
abbrev qaa : Type := (ByteArray × (Int × ((List Int) × Unit)))
abbrev qkA : Ty := (.pair (.int .i64) .unit)
abbrev qqA : Type := (Int × Unit)
abbrev qyl : Ty := (.pair (.slice (.int .u8)) qkA)
abbrev qKs : Type := ((List Int) × qqA)
abbrev qRa : Ty := (.pair qyl .unit)
abbrev qvb : Type := (qKs × Unit)
def G_widths : List Int := [1, 1, 2, 2, 2]
def G_quarters : List Int := [1518500249, 1859775393, 2400959708, 3395469782]
def GT : qfg := [(0, ⟨(.pair .unit .unit), ((), ())⟩), (1, ⟨(.arr 5 (.int .i64)), G_widths⟩), (2, ⟨(.arr 4 (.int .u32)), G_quarters⟩), (3, ⟨.unit, ()⟩)]
theorem mixed : Tryz.prog.follows .mixedOrders = true := by kernel_rfl
noncomputable def qyx (acc : List AV → Bool) : Summ Tryz.prog GT := { f := 207, acc := acc, rows := false, nils := false, R := Bool × Int, fn := qSk, res := fun r => .one (.bool r.1), post := fun r => [(0, .box (.int .i64) r.2)], ok := fun _ _ _ h => qaw rfl h }
noncomputable def qMu (acc : List AV → Bool) : Summ Tryz.prog GT := { f := 74, acc := acc, rows := false, nils := false, R := Int, fn := qHi, res := fun r => .one (.int .i64 r), post := fun _ => [], ok := fun _ _ _ h => qrt rfl h }
noncomputable def qMn (acc : List AV → Bool) : Summ Tryz.prog GT := { f := 61, acc := acc, rows := true, nils := false, R := List Int, fn := qIe, res := fun r => .one (.ref (.int .u8) 8 0 r.length true), post := fun r => [(8, .row (.int .u8) true r)], ok := fun _ _ _ h => qQm h }
noncomputable def qLn (acc : List AV → Bool) : Summ Tryz.prog GT := { f := 62, acc := acc, rows := true, nils := false, R := List Int, fn := qHe, res := fun r => .one (.ref (.int .u8) 8 0 r.length true), post := fun r => [(8, .row (.int .u8) true r)], ok := fun _ _ _ h => qOm h }
noncomputable def qRm (acc : List AV → Bool) : Summ Tryz.prog GT := { f := 92, acc := acc, rows := true, nils := false, R := List Int, fn := qhe, res := fun r => .one (.ref (.int .i64) 8 0 r.length true), post := fun r => [(8, .row (.int .i64) true r)], ok := fun _ _ _ h => qLl h }
noncomputable def qPm (acc : List AV → Bool) : Summ Tryz.prog GT := { f := 93, acc := acc, rows := true, nils := false, R := List Int, fn := qee, res := fun r => .one (.ref (.int .i64) 8 0 r.length true), post := fun r => [(8, .row (.int .i64) true r)], ok := fun _ _ _ h => qKl h }
noncomputable def damage_valid_I : FnI Tryz.prog GT := { f := 58, cuts := [], tab := [], fm := ⟨true, [.val .bool []]⟩ }
noncomputable def qTk (a0 : qka) : Option (Bool) := damage_valid_I.call [(.agg T_api_Harm (inj false T_api_Harm a0))] []
theorem qps (a0 : qka) : qTk a0 = (
if (a0.1 == (1 : Int)) = true then
if (decide (a0.2.1 ≥ (0 : Int))) = true then
if (decide (a0.2.2.1 ≥ (0 : Int))) = true then
if (decide (a0.2.2.1 < (256 : Int))) = true then
some ((Int.ofNat (List.length a0.2.2.2.1)) == (0 : Int))
else
some (false)
else
some (false)
else
some (false)
else
if (a0.1 == (2 : Int)) = true then
if (decide (a0.2.1 ≥ (0 : Int))) = true then
if (decide (a0.2.2.1 ≥ (0 : Int))) = true then
some ((Int.ofNat (List.length a0.2.2.2.1)) == (0 : Int))
else
some (false)
else
some (false)
else
if (a0.1 == (3 : Int)) = true then
if (decide (a0.2.1 ≥ (0 : Int))) = true then
if (a0.2.2.1 == (0 : Int)) = true then
some (decide ((Int.ofNat (List.length a0.2.2.2.1)) ≤ (200 : Int)))
else
some (false)
else
some (false)
else
if (a0.1 == (4 : Int)) = true then
if (decide (a0.2.1 ≥ (0 : Int))) = true then
if (a0.2.2.1 == (0 : Int)) = true then
some ((Int.ofNat (List.length a0.2.2.2.1)) == (0 : Int))
else
some (false)
else
some (false)
else
some (false)) := (FnI.call_eq (by kernel_rfl)).trans (by kernel_rfl)
noncomputable def qpt (acc : List AV → Bool) : Summ Tryz.prog GT := damage_valid_I.summ mixed acc false false
noncomputable def damage_Check_1_I : FnI Tryz.prog GT := { f := 57, cuts := [], tab := [qpt (fun _ => true)], fm := ⟨true, [.val .bool []]⟩ }
noncomputable def qJm (a0 : qka) : Option (Bool) := damage_Check_1_I.call [(.agg T_api_Harm (inj false T_api_Harm a0))] []
theorem qxp (a0 : qka) : qJm a0 = (
(qTk a0).bind fun r1 =>
some (not r1)) := (FnI.call_eq (by kernel_rfl)).trans (by kernel_rfl)
noncomputable def qBq (acc : List AV → Bool) : Summ Tryz.prog GT := damage_Check_1_I.summ mixed acc false false
noncomputable def slices_IndexFunc_api_Harm_api_Harm_I : FnI Tryz.prog GT := { f := 99, cuts := [⟨(2, 3), [0, 1, 7, 8], false, false, []⟩], tab := [qBq (fun _ => true)], fm := ⟨true, [.val (.int .i64) []]⟩ }
noncomputable def qZb (a0 : List qka) : Option (Int) := slices_IndexFunc_api_Harm_api_Harm_I.call [(.sl T_api_Harm false a0), (.func 57 [])] []
noncomputable def qEa (v0 : List qka) (v7 : Int) (v8 : Int) : Option (Int) := slices_IndexFunc_api_Harm_api_Harm_I.sem ⟨[.code (cIn (cIn (qca (qua (qca (qja Tryz.prog 99)))))), .inLoop (cIn (cIn (qca (qua (qca (qja Tryz.prog 99)))))), .inBlock 0, .code (qca (qca (qja Tryz.prog 99)))], ⟨[(0, (.one (.sl T_api_Harm false v0))), (1, (.one (.func 57 []))), (7, (.one (.int .i64 v7))), (8, (.one (.int .i64 v8)))], [], 8⟩⟩
theorem qge (a0 : List qka) : qZb a0 = (
qEa a0 (Int.ofNat (List.length a0)) (0 : Int)) := (FnI.call_eq (by kernel_rfl)).trans (by kernel_rfl)
theorem qmb (v0 : List qka) (v7 : Int) (v8 : Int) : qEa v0 v7 v8 = (
if (decide (v8 < v7)) = true then
gd (0 ≤ v8) <|
gd (v8 < (Int.ofNat (List.length v0))) <|
(qJm (List.getD v0 (Int.toNat v8) (qla T_api_Harm))).bind fun r1 =>
if r1 = true then
some (v8)
else
qEa v0 v7 (IntKind.wrap .i64 (v8 + (1 : Int)))
else
some (-1 : Int)) := (FnI.sem_eq _).trans (by kernel_rfl)
noncomputable def qqe (acc : List AV → Bool) : Summ Tryz.prog GT := slices_IndexFunc_api_Harm_api_Harm_I.summ mixed acc false false
noncomputable def slices_ContainsFunc_api_Harm_api_Harm_I : FnI Tryz.prog GT := { f := 56, cuts := [], tab := [qqe (fun _ => true)], fm := ⟨true, [.val .bool []]⟩ }
noncomputable def qzb (a0 : List qka) : Option (Bool) := slices_ContainsFunc_api_Harm_api_Harm_I.call [(.sl T_api_Harm false a0), (.func 57 [])] []
theorem qvd (a0 : List qka) : qzb a0 = (
(qZb a0).bind fun r1 =>
some (decide (r1 ≥ (0 : Int)))) := (FnI.call_eq (by kernel_rfl)).trans (by kernel_rfl)
noncomputable def qBd (acc : List AV → Bool) : Summ Tryz.prog GT := slices_ContainsFunc_api_Harm_api_Harm_I.summ mixed acc false false
noncomputable def damage_Check_I : FnI Tryz.prog GT := { f := 30, cuts := [], tab := [qBd (fun _ => true)], fm := ⟨true, [.val (.int .i64) []]⟩ }
noncomputable def qQg (a0 : List qka) : Option (Int) := damage_Check_I.call [(.sl T_api_Harm false a0)] []
theorem qrs (a0 : List qka) : qQg a0 = (
if (decide ((Int.ofNat (List.length a0)) > (20 : Int))) = true then
some (4 : Int)
else
(qzb a0).bind fun r1 =>
if r1 = true then
some (8 : Int)
else
some (0 : Int)) := (FnI.call_eq (by kernel_rfl)).trans (by kernel_rfl)
noncomputable def qGi (acc : List AV → Bool) : Summ Tryz.prog GT := damage_Check_I.summ mixed acc false false
noncomputable def slices_Clone_byte_byte_I : FnI Tryz.prog GT := { f := 59, cuts := [], tab := [], fm := ⟨true, [.val (.slice (.int .u8)) [.nw]]⟩ }
noncomputable def qid (a0 : List Int) : Option (List Int) := slices_Clone_byte_byte_I.call [(.sl (.int .u8) false a0)] []
theorem qBi (a0 : List Int) : qid a0 = (
qIC (fun (r1 : Bool) => r1 = true → a0 = []) fun (r1 : Bool) =>
if r1 = true then
some ([])
else
gd ((List.length ([] ++ a0)) * 1 ≤ 140737488355328) <|
some ([] ++ a0)) := (FnI.call_eq (by kernel_rfl)).trans (by kernel_rfl)
noncomputable def qPi (acc : List AV → Bool) : Summ Tryz.prog GT := slices_Clone_byte_byte_I.summ mixed acc false false
noncomputable def damage_possible_I : FnI Tryz.prog GT := { f := 60, cuts := [], tab := [], fm := ⟨true, [.val .bool []]⟩ }
noncomputable def qSc (a0 : Int) (a1 : qka) : Option (Bool) := damage_possible_I.call [(.int .i64 a0), (.agg T_api_Harm (inj false T_api_Harm a1))] []
theorem qyo (a0 : Int) (a1 : qka) : qSc a0 a1 = (
if (a1.1 == (1 : Int)) = true then
some (decide (a1.2.1 < a0))
else
if (a1.1 == (2 : Int)) = true then
if (decide (a1.2.1 ≤ a0)) = true then
some (decide (a1.2.2.1 ≤ (IntKind.wrap .i64 (a0 - a1.2.1))))
else
some (false)
else
if (a1.1 == (3 : Int)) = true then
if (decide (a1.2.1 ≤ a0)) = true then
some (decide ((IntKind.wrap .i64 (a0 + (Int.ofNat (List.length a1.2.2.2.1)))) ≤ (50000 : Int)))
else
some (false)
else
some (decide (a1.2.1 ≤ a0))) := (FnI.call_eq (by kernel_rfl)).trans (by kernel_rfl)
noncomputable def qej (acc : List AV → Bool) : Summ Tryz.prog GT := damage_possible_I.summ mixed acc false false
noncomputable def damage_Apply_1_I : FnI Tryz.prog GT := { f := 32, cuts := [], tab := [], fm := ⟨true, [.val (.int .u8) []]⟩ }
noncomputable def qhd (a0 : Int) : Option (Int) := damage_Apply_1_I.call [(.int .u8 a0)] []
theorem qyp (a0 : Int) : qhd a0 = (
some (a0)) := (FnI.call_eq (by kernel_rfl)).trans (by kernel_rfl)
noncomputable def qDq (acc : List AV → Bool) : Summ Tryz.prog GT := damage_Apply_1_I.summ mixed acc false false
noncomputable def damage_do_byte_I : FnI Tryz.prog GT := { f := 31, cuts := [⟨(3, 3), [0, 2, 15, 16, 17], false, false, []⟩, ⟨(15, 9), [0, 2, 9, 10, 15, 16, 17, 53, 54, 55], false, false, []⟩], tab := [qPi (fun _ => true), qej (fun _ => true), qDq (fun _ => true), qMn (fun _ => true), qLn (fun _ => true)], fm := ⟨true, [.val (.slice (.int .u8)) [.pu], .val (.int .i64) []]⟩ }
noncomputable def qFi (a0 : List Int) (a1 : List qka) : Option (List Int × Int) := damage_do_byte_I.call [(.sl (.int .u8) false a0), (.sl T_api_Harm false a1), (.func 32 [])] []
noncomputable def qFa (v15 : List qka) (v16 : Int) (v17 : Int) (h8 : List Int) : Option (List Int × Int) := damage_do_byte_I.sem ⟨[.code (cIn (cIn (qca (qua (qca (qca (qja Tryz.prog 31))))))), .inLoop (cIn (cIn (qca (qua (qca (qca (qja Tryz.prog 31))))))), .inBlock 0, .code (qca (qca (qca (qja Tryz.prog 31))))], ⟨[(0, (.one (.ref (.int .u8) 8 0 (List.length h8) true))), (2, (.one (.func 32 []))), (15, (.one (.sl T_api_Harm false v15))), (16, (.one (.int .i64 v16))), (17, (.one (.int .i64 v17)))], [(8, some (.row (.int .u8) true h8))], 9⟩⟩
noncomputable def qQd (v15 : List qka) (v16 : Int) (v17 : Int) (v53 : List Int) (v54 : Int) (v55 : Int) (h8 : List Int) (b9 : qka) (h10 : List Int) : Option (List Int × Int) := damage_do_byte_I.sem ⟨[.code (cIn (cIn (qca (qua (qca (qtA (qca (qWq (qca (qWq (qca (cIn (qca (qca (qca (cIn (qua (qca (qca (cIn (cIn (qca (qua (qca (qca (qja Tryz.prog 31)))))))))))))))))))))))))), .inLoop (cIn (cIn (qca (qua (qca (qtA (qca (qWq (qca (qWq (qca (cIn (qca (qca (qca (cIn (qua (qca (qca (cIn (cIn (qca (qua (qca (qca (qja Tryz.prog 31)))))))))))))))))))))))))), .inBlock 3, .code (qca (qca (qtA (qca (qWq (qca (qWq (qca (cIn (qca (qca (qca (cIn (qua (qca (qca (cIn (cIn (qca (qua (qca (qca (qja Tryz.prog 31))))))))))))))))))))))), .inBlock 2, .inBlock 1, .code (qca (qca (qca (cIn (cIn (qca (qua (qca (qca (qja Tryz.prog 31)))))))))), .inLoop (cIn (cIn (qca (qua (qca (qca (qja Tryz.prog 31))))))), .inBlock 0, .code (qca (qca (qca (qja Tryz.prog 31))))], ⟨[(0, (.one (.ref (.int .u8) 8 0 (List.length h8) true))), (2, (.one (.func 32 []))), (9, (.one (.ptr T_api_Harm 9 []))), (10, (.one (.ref (.int .u8) 10 0 (List.length h10) true))), (15, (.one (.sl T_api_Harm false v15))), (16, (.one (.int .i64 v16))), (17, (.one (.int .i64 v17))), (53, (.one (.sl (.int .u8) false v53))), (54, (.one (.int .i64 v54))), (55, (.one (.int .i64 v55)))], [(8, some (.row (.int .u8) true h8)), (9, some (.box T_api_Harm (inj false T_api_Harm b9))), (10, some (.row (.int .u8) true h10))], 11⟩⟩
noncomputable def qNb (v0o : Nat) (v0n : Nat) (v15 : List qka) (v16 : Int) (v17 : Int) (h8 : List Int) : Option (List Int × Int) := damage_do_byte_I.sem ⟨[.code (cIn (cIn (qca (qua (qca (qca (qja Tryz.prog 31))))))), .inLoop (cIn (cIn (qca (qua (qca (qca (qja Tryz.prog 31))))))), .inBlock 0, .code (qca (qca (qca (qja Tryz.prog 31))))], ⟨[(0, (.one (.ref (.int .u8) 8 v0o v0n false))), (2, (.one (.func 32 []))), (15, (.one (.sl T_api_Harm false v15))), (16, (.one (.int .i64 v16))), (17, (.one (.int .i64 v17)))], [(8, some (.row (.int .u8) true h8))], 9⟩⟩
noncomputable def qPd (v0o : Nat) (v0n : Nat) (v15 : List qka) (v16 : Int) (v17 : Int) (v53 : List Int) (v54 : Int) (v55 : Int) (h8 : List Int) (b9 : qka) (h10 : List Int) : Option (List Int × Int) := damage_do_byte_I.sem ⟨[.code (cIn (cIn (qca (qua (qca (qtA (qca (qWq (qca (qWq (qca (cIn (qca (qca (qca (cIn (qua (qca (qca (cIn (cIn (qca (qua (qca (qca (qja Tryz.prog 31)))))))))))))))))))))))))), .inLoop (cIn (cIn (qca (qua (qca (qtA (qca (qWq (qca (qWq (qca (cIn (qca (qca (qca (cIn (qua (qca (qca (cIn (cIn (qca (qua (qca (qca (qja Tryz.prog 31)))))))))))))))))))))))))), .inBlock 3, .code (qca (qca (qtA (qca (qWq (qca (qWq (qca (cIn (qca (qca (qca (cIn (qua (qca (qca (cIn (cIn (qca (qua (qca (qca (qja Tryz.prog 31))))))))))))))))))))))), .inBlock 2, .inBlock 1, .code (qca (qca (qca (cIn (cIn (qca (qua (qca (qca (qja Tryz.prog 31)))))))))), .inLoop (cIn (cIn (qca (qua (qca (qca (qja Tryz.prog 31))))))), .inBlock 0, .code (qca (qca (qca (qja Tryz.prog 31))))], ⟨[(0, (.one (.ref (.int .u8) 8 v0o v0n false))), (2, (.one (.func 32 []))), (9, (.one (.ptr T_api_Harm 9 []))), (10, (.one (.ref (.int .u8) 10 0 (List.length h10) true))), (15, (.one (.sl T_api_Harm false v15))), (16, (.one (.int .i64 v16))), (17, (.one (.int .i64 v17))), (53, (.one (.sl (.int .u8) false v53))), (54, (.one (.int .i64 v54))), (55, (.one (.int .i64 v55)))], [(8, some (.row (.int .u8) true h8)), (9, some (.box T_api_Harm (inj false T_api_Harm b9))), (10, some (.row (.int .u8) true h10))], 11⟩⟩
theorem qvp (a0 : List Int) (a1 : List qka) : qFi a0 a1 = (
(qid a0).bind fun r1 =>
qFa a1 (Int.ofNat (List.length a1)) (0 : Int) r1) := (FnI.call_eq (by kernel_rfl)).trans (by kernel_rfl)
theorem qkh (v15 : List qka) (v16 : Int) (v17 : Int) (h8 : List Int) : qFa v15 v16 v17 h8 = (
if (decide (v17 < v16)) = true then
gd (0 ≤ v17) <|
gd (v17 < (Int.ofNat (List.length v15))) <|
(qSc (Int.ofNat (List.length h8)) (List.getD v15 (Int.toNat v17) (qla T_api_Harm))).bind fun r2 =>
if (not r2) = true then
some ([], (16 : Int))
else
if ((List.getD v15 (Int.toNat v17) (qla T_api_Harm)).1 == (1 : Int)) = true then
(qhd (IntKind.wrap .u8 (List.getD v15 (Int.toNat v17) (qla T_api_Harm)).2.2.1)).bind fun r3 =>
gd (0 ≤ (List.getD v15 (Int.toNat v17) (qla T_api_Harm)).2.1) <|
gd ((List.getD v15 (Int.toNat v17) (qla T_api_Harm)).2.1 < (Int.ofNat (List.length h8))) <|
qFa v15 v16 (IntKind.wrap .i64 (v17 + (1 : Int))) (List.set h8 (0 + (Int.toNat (List.getD v15 (Int.toNat v17) (qla T_api_Harm)).2.1)) r3)
else
if ((List.getD v15 (Int.toNat v17) (qla T_api_Harm)).1 == (2 : Int)) = true then
(qgc h8 (List.getD v15 (Int.toNat v17) (qla T_api_Harm)).2.1 (IntKind.wrap .i64 ((List.getD v15 (Int.toNat v17) (qla T_api_Harm)).2.1 + (List.getD v15 (Int.toNat v17) (qla T_api_Harm)).2.2.1))).bind fun r4 =>
qFa v15 v16 (IntKind.wrap .i64 (v17 + (1 : Int))) r4
else
if ((List.getD v15 (Int.toNat v17) (qla T_api_Harm)).1 == (3 : Int)) = true then
qQd v15 v16 v17 (List.getD v15 (Int.toNat v17) (qla T_api_Harm)).2.2.2.1 (Int.ofNat (List.length (List.getD v15 (Int.toNat v17) (qla T_api_Harm)).2.2.2.1)) (0 : Int) h8 (List.getD v15 (Int.toNat v17) (qla T_api_Harm)) []
else
if ((List.getD v15 (Int.toNat v17) (qla T_api_Harm)).1 == (4 : Int)) = true then
gd (0 ≤ (List.getD v15 (Int.toNat v17) (qla T_api_Harm)).2.1) <|
gd ((List.getD v15 (Int.toNat v17) (qla T_api_Harm)).2.1 ≤ (Int.ofNat (List.length h8))) <|
qNb 0 ((Int.toNat (List.getD v15 (Int.toNat v17) (qla T_api_Harm)).2.1) - 0) v15 v16 (IntKind.wrap .i64 (v17 + (1 : Int))) h8
else
qFa v15 v16 (IntKind.wrap .i64 (v17 + (1 : Int))) h8
else
some (h8, (0 : Int))) := (FnI.sem_eq _).trans (by kernel_rfl)
theorem qjh (v15 : List qka) (v16 : Int) (v17 : Int) (v53 : List Int) (v54 : Int) (v55 : Int) (h8 : List Int) (b9 : qka) (h10 : List Int) : qQd v15 v16 v17 v53 v54 v55 h8 b9 h10 = (
if (decide (v55 < v54)) = true then
gd (0 ≤ v55) <|
gd (v55 < (Int.ofNat (List.length v53))) <|
(qhd (List.getD v53 (Int.toNat v55) (0 : Int))).bind fun r5 =>
gd ((List.length (h10 ++ [r5])) * 1 ≤ 140737488355328) <|
qQd v15 v16 v17 v53 v54 (IntKind.wrap .i64 (v55 + (1 : Int))) h8 b9 (h10 ++ [r5])
else
(qib h8 b9.2.1 h10).bind fun r6 =>
qFa v15 v16 (IntKind.wrap .i64 (v17 + (1 : Int))) r6) := (FnI.sem_eq _).trans (by kernel_rfl)
theorem qih (v0o : Nat) (v0n : Nat) (v15 : List qka) (v16 : Int) (v17 : Int) (h8 : List Int) : qNb v0o v0n v15 v16 v17 h8 = (
if (decide (v17 < v16)) = true then
gd (0 ≤ v17) <|
gd (v17 < (Int.ofNat (List.length v15))) <|
(qSc (Int.ofNat v0n) (List.getD v15 (Int.toNat v17) (qla T_api_Harm))).bind fun r7 =>
if (not r7) = true then
some ([], (16 : Int))
else
if ((List.getD v15 (Int.toNat v17) (qla T_api_Harm)).1 == (1 : Int)) = true then
(qhd (IntKind.wrap .u8 (List.getD v15 (Int.toNat v17) (qla T_api_Harm)).2.2.1)).bind fun r8 =>
gd (0 ≤ (List.getD v15 (Int.toNat v17) (qla T_api_Harm)).2.1) <|
gd ((List.getD v15 (Int.toNat v17) (qla T_api_Harm)).2.1 < (Int.ofNat v0n)) <|
qNb v0o v0n v15 v16 (IntKind.wrap .i64 (v17 + (1 : Int))) (List.set h8 (v0o + (Int.toNat (List.getD v15 (Int.toNat v17) (qla T_api_Harm)).2.1)) r8)
else
if ((List.getD v15 (Int.toNat v17) (qla T_api_Harm)).1 == (2 : Int)) = true then
(qgc (List.take v0n (List.drop v0o h8)) (List.getD v15 (Int.toNat v17) (qla T_api_Harm)).2.1 (IntKind.wrap .i64 ((List.getD v15 (Int.toNat v17) (qla T_api_Harm)).2.1 + (List.getD v15 (Int.toNat v17) (qla T_api_Harm)).2.2.1))).bind fun r9 =>
qFa v15 v16 (IntKind.wrap .i64 (v17 + (1 : Int))) r9
else
if ((List.getD v15 (Int.toNat v17) (qla T_api_Harm)).1 == (3 : Int)) = true then
qPd v0o v0n v15 v16 v17 (List.getD v15 (Int.toNat v17) (qla T_api_Harm)).2.2.2.1 (Int.ofNat (List.length (List.getD v15 (Int.toNat v17) (qla T_api_Harm)).2.2.2.1)) (0 : Int) h8 (List.getD v15 (Int.toNat v17) (qla T_api_Harm)) []
else
if ((List.getD v15 (Int.toNat v17) (qla T_api_Harm)).1 == (4 : Int)) = true then
gd (0 ≤ (List.getD v15 (Int.toNat v17) (qla T_api_Harm)).2.1) <|
gd ((List.getD v15 (Int.toNat v17) (qla T_api_Harm)).2.1 ≤ (Int.ofNat v0n)) <|
qNb (v0o + 0) ((Int.toNat (List.getD v15 (Int.toNat v17) (qla T_api_Harm)).2.1) - 0) v15 v16 (IntKind.wrap .i64 (v17 + (1 : Int))) h8
else
qNb v0o v0n v15 v16 (IntKind.wrap .i64 (v17 + (1 : Int))) h8
else
some ((List.take v0n (List.drop v0o h8)), (0 : Int))) := (FnI.sem_eq _).trans (by kernel_rfl)
theorem qhh (v0o : Nat) (v0n : Nat) (v15 : List qka) (v16 : Int) (v17 : Int) (v53 : List Int) (v54 : Int) (v55 : Int) (h8 : List Int) (b9 : qka) (h10 : List Int) : qPd v0o v0n v15 v16 v17 v53 v54 v55 h8 b9 h10 = (
if (decide (v55 < v54)) = true then
gd (0 ≤ v55) <|
gd (v55 < (Int.ofNat (List.length v53))) <|
(qhd (List.getD v53 (Int.toNat v55) (0 : Int))).bind fun r10 =>
gd ((List.length (h10 ++ [r10])) * 1 ≤ 140737488355328) <|
qPd v0o v0n v15 v16 v17 v53 v54 (IntKind.wrap .i64 (v55 + (1 : Int))) h8 b9 (h10 ++ [r10])
else
(qib (List.take v0n (List.drop v0o h8)) b9.2.1 h10).bind fun r11 =>
qFa v15 v16 (IntKind.wrap .i64 (v17 + (1 : Int))) r11) := (FnI.sem_eq _).trans (by kernel_rfl)
noncomputable def qAq (acc : List AV → Bool) : Summ Tryz.prog GT := damage_do_byte_I.summ mixed acc false false
noncomputable def damage_Apply_I : FnI Tryz.prog GT := { f := 10, cuts := [], tab := [qGi (fun _ => true), qAq (fun _ => true)], fm := ⟨true, [.val (.slice (.int .u8)) [.pu], .val (.int .i64) []]⟩ }
noncomputable def qpi (a0 : List Int) (a1 : List qka) : Option (List Int × Int) := damage_Apply_I.call [(.sl (.int .u8) false a0), (.sl T_api_Harm false a1)] []
theorem qts (a0 : List Int) (a1 : List qka) : qpi a0 a1 = (
(qQg a1).bind fun r1 =>
if (r1 != (0 : Int)) = true then
some ([], r1)
else
if (decide ((Int.ofNat (List.length a0)) > (50000 : Int))) = true then
some ([], (4 : Int))
else
(qFi a0 a1).bind fun r2 =>
some (r2)) := (FnI.call_eq (by kernel_rfl)).trans (by kernel_rfl)
noncomputable def qKm (acc : List AV → Bool) : Summ Tryz.prog GT := damage_Apply_I.summ mixed acc false false
noncomputable def slices_Clone_int_int_I : FnI Tryz.prog GT := { f := 91, cuts := [], tab := [], fm := ⟨true, [.val (.slice (.int .i64)) [.nw]]⟩ }
noncomputable def qie (a0 : List Int) : Option (List Int) := slices_Clone_int_int_I.call [(.sl (.int .i64) false a0)] []
theorem qxj (a0 : List Int) : qie a0 = (
qIC (fun (r1 : Bool) => r1 = true → a0 = []) fun (r1 : Bool) =>
if r1 = true then
some ([])
else
gd ((List.length ([] ++ a0)) * 8 ≤ 140737488355328) <|
some ([] ++ a0)) := (FnI.call_eq (by kernel_rfl)).trans (by kernel_rfl)
noncomputable def qgk (acc : List AV → Bool) : Summ Tryz.prog GT := slices_Clone_int_int_I.summ mixed acc false false
noncomputable def damage_Origins_1_I : FnI Tryz.prog GT := { f := 46, cuts := [], tab := [], fm := ⟨true, [.val (.int .i64) []]⟩ }
noncomputable def qjc (a0 : Int) : Option (Int) := damage_Origins_1_I.call [(.int .u8 a0)] []
theorem qon (a0 : Int) : qjc a0 = (
some (-1 : Int)) := (FnI.call_eq (by kernel_rfl)).trans (by kernel_rfl)
noncomputable def qCo (acc : List AV → Bool) : Summ Tryz.prog GT := damage_Origins_1_I.summ mixed acc false false
noncomputable def damage_do_int_I : FnI Tryz.prog GT := { f := 45, cuts := [⟨(3, 3), [0, 2, 15, 16, 17], false, false, []⟩, ⟨(15, 9), [0, 2, 9, 10, 15, 16, 17, 53, 54, 55], false, false, []⟩], tab := [qgk (fun _ => true), qej (fun _ => true), qCo (fun _ => true), qRm (fun _ => true), qPm (fun _ => true)], fm := ⟨true, [.val (.slice (.int .i64)) [.pu], .val (.int .i64) []]⟩ }
noncomputable def qvh (a0 : List Int) (a1 : List qka) : Option (List Int × Int) := damage_do_int_I.call [(.sl (.int .i64) false a0), (.sl T_api_Harm false a1), (.func 46 [])] []
noncomputable def qIa (v15 : List qka) (v16 : Int) (v17 : Int) (h8 : List Int) : Option (List Int × Int) := damage_do_int_I.sem ⟨[.code (cIn (cIn (qca (qua (qca (qca (qja Tryz.prog 45))))))), .inLoop (cIn (cIn (qca (qua (qca (qca (qja Tryz.prog 45))))))), .inBlock 0, .code (qca (qca (qca (qja Tryz.prog 45))))], ⟨[(0, (.one (.ref (.int .i64) 8 0 (List.length h8) true))), (2, (.one (.func 46 []))), (15, (.one (.sl T_api_Harm false v15))), (16, (.one (.int .i64 v16))), (17, (.one (.int .i64 v17)))], [(8, some (.row (.int .i64) true h8))], 9⟩⟩
noncomputable def qCe (v15 : List qka) (v16 : Int) (v17 : Int) (v53 : List Int) (v54 : Int) (v55 : Int) (h8 : List Int) (b9 : qka) (h10 : List Int) : Option (List Int × Int) := damage_do_int_I.sem ⟨[.code (cIn (cIn (qca (qua (qca (qtA (qca (qWq (qca (qWq (qca (cIn (qca (qca (qca (cIn (qua (qca (qca (cIn (cIn (qca (qua (qca (qca (qja Tryz.prog 45)))))))))))))))))))))))))), .inLoop (cIn (cIn (qca (qua (qca (qtA (qca (qWq (qca (qWq (qca (cIn (qca (qca (qca (cIn (qua (qca (qca (cIn (cIn (qca (qua (qca (qca (qja Tryz.prog 45)))))))))))))))))))))))))), .inBlock 3, .code (qca (qca (qtA (qca (qWq (qca (qWq (qca (cIn (qca (qca (qca (cIn (qua (qca (qca (cIn (cIn (qca (qua (qca (qca (qja Tryz.prog 45))))))))))))))))))))))), .inBlock 2, .inBlock 1, .code (qca (qca (qca (cIn (cIn (qca (qua (qca (qca (qja Tryz.prog 45)))))))))), .inLoop (cIn (cIn (qca (qua (qca (qca (qja Tryz.prog 45))))))), .inBlock 0, .code (qca (qca (qca (qja Tryz.prog 45))))], ⟨[(0, (.one (.ref (.int .i64) 8 0 (List.length h8) true))), (2, (.one (.func 46 []))), (9, (.one (.ptr T_api_Harm 9 []))), (10, (.one (.ref (.int .i64) 10 0 (List.length h10) true))), (15, (.one (.sl T_api_Harm false v15))), (16, (.one (.int .i64 v16))), (17, (.one (.int .i64 v17))), (53, (.one (.sl (.int .u8) false v53))), (54, (.one (.int .i64 v54))), (55, (.one (.int .i64 v55)))], [(8, some (.row (.int .i64) true h8)), (9, some (.box T_api_Harm (inj false T_api_Harm b9))), (10, some (.row (.int .i64) true h10))], 11⟩⟩
noncomputable def qic (v0o : Nat) (v0n : Nat) (v15 : List qka) (v16 : Int) (v17 : Int) (h8 : List Int) : Option (List Int × Int) := damage_do_int_I.sem ⟨[.code (cIn (cIn (qca (qua (qca (qca (qja Tryz.prog 45))))))), .inLoop (cIn (cIn (qca (qua (qca (qca (qja Tryz.prog 45))))))), .inBlock 0, .code (qca (qca (qca (qja Tryz.prog 45))))], ⟨[(0, (.one (.ref (.int .i64) 8 v0o v0n false))), (2, (.one (.func 46 []))), (15, (.one (.sl T_api_Harm false v15))), (16, (.one (.int .i64 v16))), (17, (.one (.int .i64 v17)))], [(8, some (.row (.int .i64) true h8))], 9⟩⟩
noncomputable def qBe (v0o : Nat) (v0n : Nat) (v15 : List qka) (v16 : Int) (v17 : Int) (v53 : List Int) (v54 : Int) (v55 : Int) (h8 : List Int) (b9 : qka) (h10 : List Int) : Option (List Int × Int) := damage_do_int_I.sem ⟨[.code (cIn (cIn (qca (qua (qca (qtA (qca (qWq (qca (qWq (qca (cIn (qca (qca (qca (cIn (qua (qca (qca (cIn (cIn (qca (qua (qca (qca (qja Tryz.prog 45)))))))))))))))))))))))))), .inLoop (cIn (cIn (qca (qua (qca (qtA (qca (qWq (qca (qWq (qca (cIn (qca (qca (qca (cIn (qua (qca (qca (cIn (cIn (qca (qua (qca (qca (qja Tryz.prog 45)))))))))))))))))))))))))), .inBlock 3, .code (qca (qca (qtA (qca (qWq (qca (qWq (qca (cIn (qca (qca (qca (cIn (qua (qca (qca (cIn (cIn (qca (qua (qca (qca (qja Tryz.prog 45))))))))))))))))))))))), .inBlock 2, .inBlock 1, .code (qca (qca (qca (cIn (cIn (qca (qua (qca (qca (qja Tryz.prog 45)))))))))), .inLoop (cIn (cIn (qca (qua (qca (qca (qja Tryz.prog 45))))))), .inBlock 0, .code (qca (qca (qca (qja Tryz.prog 45))))], ⟨[(0, (.one (.ref (.int .i64) 8 v0o v0n false))), (2, (.one (.func 46 []))), (9, (.one (.ptr T_api_Harm 9 []))), (10, (.one (.ref (.int .i64) 10 0 (List.length h10) true))), (15, (.one (.sl T_api_Harm false v15))), (16, (.one (.int .i64 v16))), (17, (.one (.int .i64 v17))), (53, (.one (.sl (.int .u8) false v53))), (54, (.one (.int .i64 v54))), (55, (.one (.int .i64 v55)))], [(8, some (.row (.int .i64) true h8)), (9, some (.box T_api_Harm (inj false T_api_Harm b9))), (10, some (.row (.int .i64) true h10))], 11⟩⟩
theorem qzq (a0 : List Int) (a1 : List qka) : qvh a0 a1 = (
(qie a0).bind fun r1 =>
qIa a1 (Int.ofNat (List.length a1)) (0 : Int) r1) := (FnI.call_eq (by kernel_rfl)).trans (by kernel_rfl)
theorem qNh (v15 : List qka) (v16 : Int) (v17 : Int) (h8 : List Int) : qIa v15 v16 v17 h8 = (
if (decide (v17 < v16)) = true then
gd (0 ≤ v17) <|
gd (v17 < (Int.ofNat (List.length v15))) <|
(qSc (Int.ofNat (List.length h8)) (List.getD v15 (Int.toNat v17) (qla T_api_Harm))).bind fun r2 =>
if (not r2) = true then
some ([], (16 : Int))
else
if ((List.getD v15 (Int.toNat v17) (qla T_api_Harm)).1 == (1 : Int)) = true then
(qjc (IntKind.wrap .u8 (List.getD v15 (Int.toNat v17) (qla T_api_Harm)).2.2.1)).bind fun r3 =>
gd (0 ≤ (List.getD v15 (Int.toNat v17) (qla T_api_Harm)).2.1) <|
gd ((List.getD v15 (Int.toNat v17) (qla T_api_Harm)).2.1 < (Int.ofNat (List.length h8))) <|
qIa v15 v16 (IntKind.wrap .i64 (v17 + (1 : Int))) (List.set h8 (0 + (Int.toNat (List.getD v15 (Int.toNat v17) (qla T_api_Harm)).2.1)) r3)
else
if ((List.getD v15 (Int.toNat v17) (qla T_api_Harm)).1 == (2 : Int)) = true then
(qMb h8 (List.getD v15 (Int.toNat v17) (qla T_api_Harm)).2.1 (IntKind.wrap .i64 ((List.getD v15 (Int.toNat v17) (qla T_api_Harm)).2.1 + (List.getD v15 (Int.toNat v17) (qla T_api_Harm)).2.2.1))).bind fun r4 =>
qIa v15 v16 (IntKind.wrap .i64 (v17 + (1 : Int))) r4
else
if ((List.getD v15 (Int.toNat v17) (qla T_api_Harm)).1 == (3 : Int)) = true then
qCe v15 v16 v17 (List.getD v15 (Int.toNat v17) (qla T_api_Harm)).2.2.2.1 (Int.ofNat (List.length (List.getD v15 (Int.toNat v17) (qla T_api_Harm)).2.2.2.1)) (0 : Int) h8 (List.getD v15 (Int.toNat v17) (qla T_api_Harm)) []
else
if ((List.getD v15 (Int.toNat v17) (qla T_api_Harm)).1 == (4 : Int)) = true then
gd (0 ≤ (List.getD v15 (Int.toNat v17) (qla T_api_Harm)).2.1) <|
gd ((List.getD v15 (Int.toNat v17) (qla T_api_Harm)).2.1 ≤ (Int.ofNat (List.length h8))) <|
qic 0 ((Int.toNat (List.getD v15 (Int.toNat v17) (qla T_api_Harm)).2.1) - 0) v15 v16 (IntKind.wrap .i64 (v17 + (1 : Int))) h8
else
qIa v15 v16 (IntKind.wrap .i64 (v17 + (1 : Int))) h8
else
some (h8, (0 : Int))) := (FnI.sem_eq _).trans (by kernel_rfl)
theorem qMh (v15 : List qka) (v16 : Int) (v17 : Int) (v53 : List Int) (v54 : Int) (v55 : Int) (h8 : List Int) (b9 : qka) (h10 : List Int) : qCe v15 v16 v17 v53 v54 v55 h8 b9 h10 = (
if (decide (v55 < v54)) = true then
gd (0 ≤ v55) <|
gd (v55 < (Int.ofNat (List.length v53))) <|
(qjc (List.getD v53 (Int.toNat v55) (0 : Int))).bind fun r5 =>
gd ((List.length (h10 ++ [r5])) * 8 ≤ 140737488355328) <|
qCe v15 v16 v17 v53 v54 (IntKind.wrap .i64 (v55 + (1 : Int))) h8 b9 (h10 ++ [r5])
else
(qTa h8 b9.2.1 h10).bind fun r6 =>
qIa v15 v16 (IntKind.wrap .i64 (v17 + (1 : Int))) r6) := (FnI.sem_eq _).trans (by kernel_rfl)
theorem qLh (v0o : Nat) (v0n : Nat) (v15 : List qka) (v16 : Int) (v17 : Int) (h8 : List Int) : qic v0o v0n v15 v16 v17 h8 = (
if (decide (v17 < v16)) = true then
gd (0 ≤ v17) <|
gd (v17 < (Int.ofNat (List.length v15))) <|
(qSc (Int.ofNat v0n) (List.getD v15 (Int.toNat v17) (qla T_api_Harm))).bind fun r7 =>
if (not r7) = true then
some ([], (16 : Int))
else
if ((List.getD v15 (Int.toNat v17) (qla T_api_Harm)).1 == (1 : Int)) = true then
(qjc (IntKind.wrap .u8 (List.getD v15 (Int.toNat v17) (qla T_api_Harm)).2.2.1)).bind fun r8 =>
gd (0 ≤ (List.getD v15 (Int.toNat v17) (qla T_api_Harm)).2.1) <|
gd ((List.getD v15 (Int.toNat v17) (qla T_api_Harm)).2.1 < (Int.ofNat v0n)) <|
qic v0o v0n v15 v16 (IntKind.wrap .i64 (v17 + (1 : Int))) (List.set h8 (v0o + (Int.toNat (List.getD v15 (Int.toNat v17) (qla T_api_Harm)).2.1)) r8)
else
if ((List.getD v15 (Int.toNat v17) (qla T_api_Harm)).1 == (2 : Int)) = true then
(qMb (List.take v0n (List.drop v0o h8)) (List.getD v15 (Int.toNat v17) (qla T_api_Harm)).2.1 (IntKind.wrap .i64 ((List.getD v15 (Int.toNat v17) (qla T_api_Harm)).2.1 + (List.getD v15 (Int.toNat v17) (qla T_api_Harm)).2.2.1))).bind fun r9 =>
qIa v15 v16 (IntKind.wrap .i64 (v17 + (1 : Int))) r9
else
if ((List.getD v15 (Int.toNat v17) (qla T_api_Harm)).1 == (3 : Int)) = true then
qBe v0o v0n v15 v16 v17 (List.getD v15 (Int.toNat v17) (qla T_api_Harm)).2.2.2.1 (Int.ofNat (List.length (List.getD v15 (Int.toNat v17) (qla T_api_Harm)).2.2.2.1)) (0 : Int) h8 (List.getD v15 (Int.toNat v17) (qla T_api_Harm)) []
else
if ((List.getD v15 (Int.toNat v17) (qla T_api_Harm)).1 == (4 : Int)) = true then
gd (0 ≤ (List.getD v15 (Int.toNat v17) (qla T_api_Harm)).2.1) <|
gd ((List.getD v15 (Int.toNat v17) (qla T_api_Harm)).2.1 ≤ (Int.ofNat v0n)) <|
qic (v0o + 0) ((Int.toNat (List.getD v15 (Int.toNat v17) (qla T_api_Harm)).2.1) - 0) v15 v16 (IntKind.wrap .i64 (v17 + (1 : Int))) h8
else
qic v0o v0n v15 v16 (IntKind.wrap .i64 (v17 + (1 : Int))) h8
else
some ((List.take v0n (List.drop v0o h8)), (0 : Int))) := (FnI.sem_eq _).trans (by kernel_rfl)
theorem qKh (v0o : Nat) (v0n : Nat) (v15 : List qka) (v16 : Int) (v17 : Int) (v53 : List Int) (v54 : Int) (v55 : Int) (h8 : List Int) (b9 : qka) (h10 : List Int) : qBe v0o v0n v15 v16 v17 v53 v54 v55 h8 b9 h10 = (
if (decide (v55 < v54)) = true then
gd (0 ≤ v55) <|
gd (v55 < (Int.ofNat (List.length v53))) <|
(qjc (List.getD v53 (Int.toNat v55) (0 : Int))).bind fun r10 =>
gd ((List.length (h10 ++ [r10])) * 8 ≤ 140737488355328) <|
qBe v0o v0n v15 v16 v17 v53 v54 (IntKind.wrap .i64 (v55 + (1 : Int))) h8 b9 (h10 ++ [r10])
else
(qTa (List.take v0n (List.drop v0o h8)) b9.2.1 h10).bind fun r11 =>
qIa v15 v16 (IntKind.wrap .i64 (v17 + (1 : Int))) r11) := (FnI.sem_eq _).trans (by kernel_rfl)
noncomputable def qqs (acc : List AV → Bool) : Summ Tryz.prog GT := damage_do_int_I.summ mixed acc false false
noncomputable def damage_Origins_I : FnI Tryz.prog GT := { f := 18, cuts := [⟨(8, 3), [1, 7, 23, 24], false, false, []⟩], tab := [qGi (fun _ => true), qqs (fun _ => true)], fm := ⟨true, [.val (.slice (.int .i64)) [.pu], .val (.int .i64) []]⟩ }
noncomputable def qDc (a0 : Int) (a1 : List qka) : Option (List Int × Int) := damage_Origins_I.call [(.int .i64 a0), (.sl T_api_Harm false a1)] []
noncomputable def qRd (v1 : List qka) (v23 : Int) (v24 : Int) (h8 : List Int) : Option (List Int × Int) := damage_Origins_I.sem ⟨[.code (cIn (cIn (qca (qua (qca (qca (qca (qca (qja Tryz.prog 18))))))))), .inLoop (cIn (cIn (qca (qua (qca (qca (qca (qca (qja Tryz.prog 18))))))))), .inBlock 0, .code (qca (qca (qca (qca (qca (qja Tryz.prog 18))))))], ⟨[(1, (.one (.sl T_api_Harm false v1))), (7, (.one (.ref (.int .i64) 8 0 (List.length h8) true))), (23, (.one (.int .i64 v23))), (24, (.one (.int .i64 v24)))], [(8, some (.row (.int .i64) true h8))], 9⟩⟩
theorem qwp (a0 : Int) (a1 : List qka) : qDc a0 a1 = (
(qQg a1).bind fun r1 =>
if (r1 != (0 : Int)) = true then
some ([], r1)
else
if (decide (a0 < (0 : Int))) = true then
some ([], (2 : Int))
else
if (decide (a0 > (50000 : Int))) = true then
some ([], (2 : Int))
else
gd (a0 = a0) <|
gd (0 ≤ a0) <|
gd (a0 * 8 ≤ 140737488355328) <|
gd (a0 ≤ 9223372036854775807) <|
qRd a1 (Int.ofNat (List.length (List.replicate (Int.toNat a0) (0 : Int)))) (0 : Int) (List.replicate (Int.toNat a0) (0 : Int))) := (FnI.call_eq (by kernel_rfl)).trans (by kernel_rfl)
theorem qlh (v1 : List qka) (v23 : Int) (v24 : Int) (h8 : List Int) : qRd v1 v23 v24 h8 = (
if (decide (v24 < v23)) = true then
gd (0 ≤ v24) <|
gd (v24 < (Int.ofNat (List.length h8))) <|
qRd v1 v23 (IntKind.wrap .i64 (v24 + (1 : Int))) (List.set h8 (0 + (Int.toNat v24)) v24)
else
(qvh h8 v1).bind fun r2 =>
some (r2)) := (FnI.sem_eq _).trans (by kernel_rfl)
noncomputable def qch (acc : List AV → Bool) : Summ Tryz.prog GT := damage_Origins_I.summ mixed acc false false
noncomputable def slices_Index_int_int_I : FnI Tryz.prog GT := { f := 66, cuts := [⟨(2, 3), [0, 1, 7, 8], false, false, []⟩], tab := [], fm := ⟨true, [.val (.int .i64) []]⟩ }
noncomputable def qfe (a0 : List Int) (a1 : Int) : Option (Int) := slices_Index_int_int_I.call [(.sl (.int .i64) false a0), (.int .i64 a1)] []
noncomputable def qFb (v0 : List Int) (v1 : Int) (v7 : Int) (v8 : Int) : Option (Int) := slices_Index_int_int_I.sem ⟨[.code (cIn (cIn (qca (qua (qca (qja Tryz.prog 66)))))), .inLoop (cIn (cIn (qca (qua (qca (qja Tryz.prog 66)))))), .inBlock 0, .code (qca (qca (qja Tryz.prog 66)))], ⟨[(0, (.one (.sl (.int .i64) false v0))), (1, (.one (.int .i64 v1))), (7, (.one (.int .i64 v7))), (8, (.one (.int .i64 v8)))], [], 8⟩⟩
theorem qvj (a0 : List Int) (a1 : Int) : qfe a0 a1 = (
qFb a0 a1 (Int.ofNat (List.length a0)) (0 : Int)) := (FnI.call_eq (by kernel_rfl)).trans (by kernel_rfl)
theorem qVd (v0 : List Int) (v1 : Int) (v7 : Int) (v8 : Int) : qFb v0 v1 v7 v8 = (
if (decide (v8 < v7)) = true then
gd (0 ≤ v8) <|
gd (v8 < (Int.ofNat (List.length v0))) <|
if (v1 == (List.getD v0 (Int.toNat v8) (0 : Int))) = true then
some (v8)
else
qFb v0 v1 v7 (IntKind.wrap .i64 (v8 + (1 : Int)))
else
some (-1 : Int)) := (FnI.sem_eq _).trans (by kernel_rfl)
noncomputable def qfk (acc : List AV → Bool) : Summ Tryz.prog GT := slices_Index_int_int_I.summ mixed acc false false
noncomputable def damage_left_I : FnI Tryz.prog GT := { f := 35, cuts := [⟨(3, 3), [1, 5, 12, 13, 14], false, false, []⟩, ⟨(9, 8), [1, 5, 6, 7, 8, 9, 12, 13, 14, 40, 41, 42], false, false, []⟩], tab := [qfk (fun _ => true)], fm := ⟨true, [.val (.slice qga) [.nw]]⟩ }
noncomputable def qFd (a0 : List qfa) (a1 : List Int) : Option (List qfa) := damage_left_I.call [(.sl qga false a0), (.sl (.int .i64) false a1)] []
noncomputable def qCc (v1 : List Int) (v12 : List qfa) (v13 : Int) (v14 : Int) (h8 : List qfa) : Option (List qfa) := damage_left_I.sem ⟨[.code (cIn (cIn (qca (qua (qca (qca (qja Tryz.prog 35))))))), .inLoop (cIn (cIn (qca (qua (qca (qca (qja Tryz.prog 35))))))), .inBlock 0, .code (qca (qca (qca (qja Tryz.prog 35))))], ⟨[(1, (.one (.sl (.int .i64) false v1))), (5, (.one (.ref qga 8 0 (List.length h8) true))), (12, (.one (.sl qga false v12))), (13, (.one (.int .i64 v13))), (14, (.one (.int .i64 v14)))], [(8, some (.row qga true h8))], 9⟩⟩
noncomputable def qgd (v1 : List Int) (v6 : Int) (v8 : Int) (v9 : Bool) (v12 : List qfa) (v13 : Int) (v14 : Int) (v40 : List Int) (v41 : Int) (v42 : Int) (h8 : List qfa) (b9 : qfa) : Option (List qfa) := damage_left_I.sem ⟨[.code (cIn (cIn (qca (qua (qca (qca (qca (qca (cIn (qua (qca (qca (cIn (cIn (qca (qua (qca (qca (qja Tryz.prog 35))))))))))))))))))), .inLoop (cIn (cIn (qca (qua (qca (qca (qca (qca (cIn (qua (qca (qca (cIn (cIn (qca (qua (qca (qca (qja Tryz.prog 35))))))))))))))))))), .inBlock 2, .code (qca (qca (qca (qca (qca (cIn (qua (qca (qca (cIn (cIn (qca (qua (qca (qca (qja Tryz.prog 35)))))))))))))))), .inBlock 1, .code (qca (qca (qca (cIn (cIn (qca (qua (qca (qca (qja Tryz.prog 35)))))))))), .inLoop (cIn (cIn (qca (qua (qca (qca (qja Tryz.prog 35))))))), .inBlock 0, .code (qca (qca (qca (qja Tryz.prog 35))))], ⟨[(1, (.one (.sl (.int .i64) false v1))), (5, (.one (.ref qga 8 0 (List.length h8) true))), (6, (.one (.int .i64 v6))), (7, (.one (.ptr qga 9 []))), (8, (.one (.int .i64 v8))), (9, (.one (.bool v9))), (12, (.one (.sl qga false v12))), (13, (.one (.int .i64 v13))), (14, (.one (.int .i64 v14))), (40, (.one (.sl (.int .i64) false v40))), (41, (.one (.int .i64 v41))), (42, (.one (.int .i64 v42)))], [(8, some (.row qga true h8)), (9, some (.box qga (inj false qga b9)))], 10⟩⟩
theorem qqt (a0 : List qfa) (a1 : List Int) : qFd a0 a1 = (
qCc a1 a0 (Int.ofNat (List.length a0)) (0 : Int) []) := (FnI.call_eq (by kernel_rfl)).trans (by kernel_rfl)
theorem qgj (v1 : List Int) (v12 : List qfa) (v13 : Int) (v14 : Int) (h8 : List qfa) : qCc v1 v12 v13 v14 h8 = (
if (decide (v14 < v13)) = true then
gd (0 ≤ v14) <|
gd (v14 < (Int.ofNat (List.length v12))) <|
(qfe v1 (List.getD v12 (Int.toNat v14) (qla qga)).2.1).bind fun r1 =>
if (decide (r1 < (0 : Int))) = true then
qCc v1 v12 v13 (IntKind.wrap .i64 (v14 + (1 : Int))) h8
else
if (decide ((IntKind.wrap .i64 (r1 + (List.getD v12 (Int.toNat v14) (qla qga)).2.2.1)) > (Int.ofNat (List.length v1)))) = true then
qCc v1 v12 v13 (IntKind.wrap .i64 (v14 + (1 : Int))) h8
else
gd (0 ≤ r1) <|
gd (r1 ≤ (IntKind.wrap .i64 (r1 + (List.getD v12 (Int.toNat v14) (qla qga)).2.2.1))) <|
gd ((IntKind.wrap .i64 (r1 + (List.getD v12 (Int.toNat v14) (qla qga)).2.2.1)) ≤ (Int.ofNat (List.length v1))) <|
qgd v1 v14 r1 true v12 v13 v14 (List.take ((Int.toNat (IntKind.wrap .i64 (r1 + (List.getD v12 (Int.toNat v14) (qla qga)).2.2.1))) - (Int.toNat r1)) (List.drop (Int.toNat r1) v1)) (Int.ofNat (List.length (List.take ((Int.toNat (IntKind.wrap .i64 (r1 + (List.getD v12 (Int.toNat v14) (qla qga)).2.2.1))) - (Int.toNat r1)) (List.drop (Int.toNat r1) v1)))) (0 : Int) h8 (List.getD v12 (Int.toNat v14) (qla qga))
else
some (h8)) := (FnI.sem_eq _).trans (by kernel_rfl)
theorem qfj (v1 : List Int) (v6 : Int) (v8 : Int) (v9 : Bool) (v12 : List qfa) (v13 : Int) (v14 : Int) (v40 : List Int) (v41 : Int) (v42 : Int) (h8 : List qfa) (b9 : qfa) : qgd v1 v6 v8 v9 v12 v13 v14 v40 v41 v42 h8 b9 = (
if (decide (v42 < v41)) = true then
gd (0 ≤ v42) <|
gd (v42 < (Int.ofNat (List.length v40))) <|
if v9 = true then
qgd v1 v6 v8 ((List.getD v40 (Int.toNat v42) (0 : Int)) == (IntKind.wrap .i64 (b9.2.1 + v42))) v12 v13 v14 v40 v41 (IntKind.wrap .i64 (v42 + (1 : Int))) h8 b9
else
qgd v1 v6 v8 false v12 v13 v14 v40 v41 (IntKind.wrap .i64 (v42 + (1 : Int))) h8 b9
else
if v9 = true then
gd ((List.length (h8 ++ [(v6, (v8, (b9.2.2.1, ())))])) * 24 ≤ 140737488355328) <|
qCc v1 v12 v13 (IntKind.wrap .i64 (v14 + (1 : Int))) (h8 ++ [(v6, (v8, (b9.2.2.1, ())))])
else
qCc v1 v12 v13 (IntKind.wrap .i64 (v14 + (1 : Int))) h8) := (FnI.sem_eq _).trans (by kernel_rfl)
noncomputable def qzo (acc : List AV → Bool) : Summ Tryz.prog GT := damage_left_I.summ mixed acc false false
noncomputable def damage_Survivors_I : FnI Tryz.prog GT := { f := 19, cuts := [⟨(7, 3), [0, 1, 8, 24, 25, 26], false, false, []⟩], tab := [qch (fun _ => true), qzo (fun _ => true)], fm := ⟨true, [.val (.slice qga) [.nw], .val (.int .i64) []]⟩ }
noncomputable def qbh (a0 : List qfa) (a1 : Int) (a2 : List qka) : Option (List qfa × Int) := damage_Survivors_I.call [(.sl qga false a0), (.int .i64 a1), (.sl T_api_Harm false a2)] []
noncomputable def qYc (v0 : List qfa) (v1 : Int) (v8 : List Int) (v24 : List qfa) (v25 : Int) (v26 : Int) : Option (List qfa × Int) := damage_Survivors_I.sem ⟨[.code (cIn (cIn (qca (qua (qca (qca (qca (qca (qja Tryz.prog 19))))))))), .inLoop (cIn (cIn (qca (qua (qca (qca (qca (qca (qja Tryz.prog 19))))))))), .inBlock 0, .code (qca (qca (qca (qca (qca (qja Tryz.prog 19))))))], ⟨[(0, (.one (.sl qga false v0))), (1, (.one (.int .i64 v1))), (8, (.one (.sl (.int .i64) true v8))), (24, (.one (.sl qga false v24))), (25, (.one (.int .i64 v25))), (26, (.one (.int .i64 v26)))], [], 8⟩⟩
theorem qnn (a0 : List qfa) (a1 : Int) (a2 : List qka) : qbh a0 a1 a2 = (
(qDc a1 a2).bind fun r1 =>
if (r1.2 != (0 : Int)) = true then
some ([], r1.2)
else
if (decide ((Int.ofNat (List.length a0)) > (600 : Int))) = true then
some ([], (4 : Int))
else
qYc a0 a1 r1.1 a0 (Int.ofNat (List.length a0)) (0 : Int)) := (FnI.call_eq (by kernel_rfl)).trans (by kernel_rfl)
theorem qag (v0 : List qfa) (v1 : Int) (v8 : List Int) (v24 : List qfa) (v25 : Int) (v26 : Int) : qYc v0 v1 v8 v24 v25 v26 = (
if (decide (v26 < v25)) = true then
gd (0 ≤ v26) <|
gd (v26 < (Int.ofNat (List.length v24))) <|
if (decide ((List.getD v24 (Int.toNat v26) (qla qga)).2.1 < (0 : Int))) = true then
some ([], (8 : Int))
else
if (decide ((List.getD v24 (Int.toNat v26) (qla qga)).2.2.1 < (1 : Int))) = true then
some ([], (8 : Int))
else
if (decide ((List.getD v24 (Int.toNat v26) (qla qga)).2.1 > v1)) = true then
some ([], (8 : Int))
else
if (decide ((List.getD v24 (Int.toNat v26) (qla qga)).2.2.1 > (IntKind.wrap .i64 (v1 - (List.getD v24 (Int.toNat v26) (qla qga)).2.1)))) = true then
some ([], (8 : Int))
else
qYc v0 v1 v8 v24 v25 (IntKind.wrap .i64 (v26 + (1 : Int)))
else
(qFd v0 v8).bind fun r2 =>
some (r2, (0 : Int))) := (FnI.sem_eq _).trans (by kernel_rfl)
noncomputable def qBo (acc : List AV → Bool) : Summ Tryz.prog GT := damage_Survivors_I.summ mixed acc false false
noncomputable def bitloftref25_SameInts_I : FnI Tryz.prog GT := { f := 20, cuts := [⟨(4, 3), [0, 1, 5], false, false, []⟩], tab := [], fm := ⟨true, [.val .bool []]⟩ }
noncomputable def qLd (a0 : List Int) (a1 : List Int) : Option (Bool) := bitloftref25_SameInts_I.call [(.sl (.int .i64) false a0), (.sl (.int .i64) false a1)] []
noncomputable def qxb (v0 : List Int) (v1 : List Int) (v5 : Int) : Option (Bool) := bitloftref25_SameInts_I.sem ⟨[.code (cIn (cIn (qca (qua (qca (qca (qja Tryz.prog 20))))))), .inLoop (cIn (cIn (qca (qua (qca (qca (qja Tryz.prog 20))))))), .inBlock 0, .code (qca (qca (qca (qja Tryz.prog 20))))], ⟨[(0, (.one (.sl (.int .i64) false v0))), (1, (.one (.sl (.int .i64) false v1))), (5, (.one (.int .i64 v5)))], [], 8⟩⟩
theorem qqj (a0 : List Int) (a1 : List Int) : qLd a0 a1 = (
if ((Int.ofNat (List.length a0)) != (Int.ofNat (List.length a1))) = true then
some (false)
else
qxb a0 a1 (0 : Int)) := (FnI.call_eq (by kernel_rfl)).trans (by kernel_rfl)
theorem qKd (v0 : List Int) (v1 : List Int) (v5 : Int) : qxb v0 v1 v5 = (
if (decide (v5 < (Int.ofNat (List.length v0)))) = true then
gd (0 ≤ v5) <|
gd (v5 < (Int.ofNat (List.length v0))) <|
gd (0 ≤ v5) <|
gd (v5 < (Int.ofNat (List.length v1))) <|
if ((List.getD v0 (Int.toNat v5) (0 : Int)) != (List.getD v1 (Int.toNat v5) (0 : Int))) = true then
some (false)
else
qxb v0 v1 (IntKind.wrap .i64 (v5 + (1 : Int)))
else
some (true)) := (FnI.sem_eq _).trans (by kernel_rfl)
noncomputable def qUj (acc : List AV → Bool) : Summ Tryz.prog GT := bitloftref25_SameInts_I.summ mixed acc false false
noncomputable def bitloftref29_Same_I : FnI Tryz.prog GT := { f := 21, cuts := [⟨(4, 3), [0, 1, 5], false, false, []⟩], tab := [], fm := ⟨true, [.val .bool []]⟩ }
noncomputable def qpg (a0 : List qfa) (a1 : List qfa) : Option (Bool) := bitloftref29_Same_I.call [(.sl qga false a0), (.sl qga false a1)] []
noncomputable def qle (v0 : List qfa) (v1 : List qfa) (v5 : Int) : Option (Bool) := bitloftref29_Same_I.sem ⟨[.code (cIn (cIn (qca (qua (qca (qca (qja Tryz.prog 21))))))), .inLoop (cIn (cIn (qca (qua (qca (qca (qja Tryz.prog 21))))))), .inBlock 0, .code (qca (qca (qca (qja Tryz.prog 21))))], ⟨[(0, (.one (.sl qga false v0))), (1, (.one (.sl qga false v1))), (5, (.one (.int .i64 v5)))], [], 8⟩⟩
theorem qam (a0 : List qfa) (a1 : List qfa) : qpg a0 a1 = (
if ((Int.ofNat (List.length a0)) != (Int.ofNat (List.length a1))) = true then
some (false)
else
qle a0 a1 (0 : Int)) := (FnI.call_eq (by kernel_rfl)).trans (by kernel_rfl)
theorem qLf (v0 : List qfa) (v1 : List qfa) (v5 : Int) : qle v0 v1 v5 = (
if (decide (v5 < (Int.ofNat (List.length v0)))) = true then
gd (0 ≤ v5) <|
gd (v5 < (Int.ofNat (List.length v0))) <|
gd (0 ≤ v5) <|
gd (v5 < (Int.ofNat (List.length v1))) <|
if (not (peq qga (List.getD v0 (Int.toNat v5) (qla qga)) (List.getD v1 (Int.toNat v5) (qla qga)))) = true then
some (false)
else
qle v0 v1 (IntKind.wrap .i64 (v5 + (1 : Int)))
else
some (true)) := (FnI.sem_eq _).trans (by kernel_rfl)
noncomputable def qun (acc : List AV → Bool) : Summ Tryz.prog GT := bitloftref29_Same_I.summ mixed acc false false
noncomputable def bitloftlaw35_alive_I : FnI Tryz.prog GT := { f := 4, cuts := [], tab := [qKm (fun _ => true), qch (fun _ => true), qBo (fun _ => true), qUj (fun _ => true), qun (fun _ => true)], fm := ⟨true, [.val .bool []]⟩ }
noncomputable def qZf : Option (Bool) := bitloftlaw35_alive_I.call [] []
theorem qvl : qZf = (
gd (0 < 1) <|
gd (0 < 4) <|
(qpi [(97 : Int), (98 : Int), (99 : Int), (100 : Int)] [((3 : Int), ((1 : Int), ((0 : Int), ([(120 : Int)], ())))), ((2 : Int), ((2 : Int), ((1 : Int), ([], ())))), ((1 : Int), ((0 : Int), ((121 : Int), ([], ()))))]).bind fun r1 =>
(qDc (4 : Int) [((3 : Int), ((1 : Int), ((0 : Int), ([(120 : Int)], ())))), ((2 : Int), ((2 : Int), ((1 : Int), ([], ())))), ((1 : Int), ((0 : Int), ((121 : Int), ([], ()))))]).bind fun r2 =>
(qbh [((0 : Int), ((2 : Int), ((2 : Int), ()))), ((0 : Int), ((1 : Int), ((2 : Int), ())))] (4 : Int) [((3 : Int), ((1 : Int), ((0 : Int), ([(120 : Int)], ())))), ((2 : Int), ((2 : Int), ((1 : Int), ([], ())))), ((1 : Int), ((0 : Int), ((121 : Int), ([], ()))))]).bind fun r3 =>
if (r1.2 == (0 : Int)) = true then
if ((ByteArray.toList (qEg r1.1)) == (ByteArray.toList (ByteArray.mk #[121, 120, 99, 100]))) = true then
if (r2.2 == (0 : Int)) = true then
(qLd r2.1 [(-1 : Int), (-1 : Int), (2 : Int), (3 : Int)]).bind fun r4 =>
if r4 = true then
if (r3.2 == (0 : Int)) = true then
(qpg r3.1 [((0 : Int), ((2 : Int), ((2 : Int), ())))]).bind fun r5 =>
some (r5)
else
some (false)
else
some (false)
else
some (false)
else
some (false)
else
some (false)) := (FnI.call_eq (by kernel_rfl)).trans (by kernel_rfl)
noncomputable def qsm (acc : List AV → Bool) : Summ Tryz.prog GT := bitloftlaw35_alive_I.summ mixed acc false false
noncomputable def bitloftref28_Great_I : FnI Tryz.prog GT := { f := 22, cuts := [⟨(2, 3), [0, 3], false, false, []⟩], tab := [], fm := ⟨true, [.val .bool []]⟩ }
noncomputable def quc (a0 : List qia) : Option (Bool) := bitloftref28_Great_I.call [(.sl T_api_Member false a0)] []
noncomputable def qVa (v0 : List qia) (v3 : Int) : Option (Bool) := bitloftref28_Great_I.sem ⟨[.code (cIn (cIn (qca (qua (qca (qja Tryz.prog 22)))))), .inLoop (cIn (cIn (qca (qua (qca (qja Tryz.prog 22)))))), .inBlock 0, .code (qca (qca (qja Tryz.prog 22)))], ⟨[(0, (.one (.sl T_api_Member false v0))), (3, (.one (.int .i64 v3)))], [], 8⟩⟩
theorem qhl (a0 : List qia) : quc a0 = (
qVa a0 (0 : Int)) := (FnI.call_eq (by kernel_rfl)).trans (by kernel_rfl)
theorem qff (v0 : List qia) (v3 : Int) : qVa v0 v3 = (
if (decide (v3 < (Int.ofNat (List.length v0)))) = true then
if (decide (v3 ≤ (30 : Int))) = true then
gd (0 ≤ v3) <|
gd (v3 < (Int.ofNat (List.length v0))) <|
if (decide ((Int.ofNat (ByteArray.size (List.getD v0 (Int.toNat v3) (qla T_api_Member)).1)) > (100 : Int))) = true then
some (true)
else
gd (0 ≤ v3) <|
gd (v3 < (Int.ofNat (List.length v0))) <|
if (decide ((Int.ofNat (List.length (List.getD v0 (Int.toNat v3) (qla T_api_Member)).2.1)) > (10000 : Int))) = true then
some (true)
else
gd (0 ≤ v3) <|
gd (v3 < (Int.ofNat (List.length v0))) <|
if (decide ((Int.ofNat (List.length (List.getD v0 (Int.toNat v3) (qla T_api_Member)).2.1)) > (600 : Int))) = true then
gd (0 ≤ v3) <|
gd (v3 < (Int.ofNat (List.length v0))) <|
if (decide ((Int.ofNat (List.length (List.getD v0 (Int.toNat v3) (qla T_api_Member)).2.1)) < (8000 : Int))) = true then
some (true)
else
qVa v0 (IntKind.wrap .i64 (v3 + (1 : Int)))
else
qVa v0 (IntKind.wrap .i64 (v3 + (1 : Int)))
else
some (decide ((Int.ofNat (List.length v0)) > (30 : Int)))
else
some (decide ((Int.ofNat (List.length v0)) > (30 : Int)))) := (FnI.sem_eq _).trans (by kernel_rfl)
noncomputable def qem (acc : List AV → Bool) : Summ Tryz.prog GT := bitloftref28_Great_I.summ mixed acc false false
noncomputable def bitloftref28_Name_I : FnI Tryz.prog GT := { f := 23, cuts := [⟨(4, 3), [0, 3], false, false, []⟩], tab := [], fm := ⟨true, [.val .bool []]⟩ }
noncomputable def qTd (a0 : ByteArray) : Option (Bool) := bitloftref28_Name_I.call [(.str a0)] []
noncomputable def qJc (v0 : ByteArray) (v3 : Int) : Option (Bool) := bitloftref28_Name_I.sem ⟨[.code (cIn (cIn (qca (qua (qca (qca (qja Tryz.prog 23))))))), .inLoop (cIn (cIn (qca (qua (qca (qca (qja Tryz.prog 23))))))), .inBlock 0, .code (qca (qca (qca (qja Tryz.prog 23))))], ⟨[(0, (.one (.str v0))), (3, (.one (.int .i64 v3)))], [], 8⟩⟩
theorem qdm (a0 : ByteArray) : qTd a0 = (
if (decide ((Int.ofNat (ByteArray.size a0)) < (1 : Int))) = true then
some (false)
else
if (decide ((Int.ofNat (ByteArray.size a0)) > (40 : Int))) = true then
some (false)
else
qJc a0 (0 : Int)) := (FnI.call_eq (by kernel_rfl)).trans (by kernel_rfl)
theorem qPf (v0 : ByteArray) (v3 : Int) : qJc v0 v3 = (
if (decide (v3 < (Int.ofNat (ByteArray.size v0)))) = true then
gd (0 ≤ v3) <|
gd (v3 < (v0.size : Int)) <|
if (decide ((qaD v0 (Int.toNat v3)) < (33 : Int))) = true then
some (false)
else
gd (0 ≤ v3) <|
gd (v3 < (v0.size : Int)) <|
if (decide ((qaD v0 (Int.toNat v3)) > (126 : Int))) = true then
some (false)
else
qJc v0 (IntKind.wrap .i64 (v3 + (1 : Int)))
else
some (true)) := (FnI.sem_eq _).trans (by kernel_rfl)
noncomputable def qSh (acc : List AV → Bool) : Summ Tryz.prog GT := bitloftref28_Name_I.summ mixed acc false false
noncomputable def bitloftref28_Check_I : FnI Tryz.prog GT := { f := 6, cuts := [⟨(5, 3), [0, 3, 4], false, false, []⟩, ⟨(11, 3), [0, 5], false, false, []⟩, ⟨(16, 3), [0, 6], false, false, []⟩, ⟨(19, 7), [0, 6, 7], false, false, []⟩], tab := [qSh (fun _ => true)], fm := ⟨true, [.val (.int .i64) []]⟩ }
noncomputable def qGa (a0 : List qia) : Option (Int) := bitloftref28_Check_I.call [(.sl T_api_Member false a0)] []
noncomputable def qwc (v0 : List qia) (v3 : Int) (v4 : Int) : Option (Int) := bitloftref28_Check_I.sem ⟨[.code (cIn (cIn (qca (qua (qca (qca (qca (qja Tryz.prog 6)))))))), .inLoop (cIn (cIn (qca (qua (qca (qca (qca (qja Tryz.prog 6)))))))), .inBlock 0, .code (qca (qca (qca (qca (qja Tryz.prog 6)))))], ⟨[(0, (.one (.sl T_api_Member false v0))), (3, (.one (.int .i64 v3))), (4, (.one (.int .i64 v4)))], [], 8⟩⟩
noncomputable def qtb (v0 : List qia) (v5 : Int) : Option (Int) := bitloftref28_Check_I.sem ⟨[.code (cIn (cIn (qca (qua (qca (qca (qca (qca (qca (qja Tryz.prog 6)))))))))), .inLoop (cIn (cIn (qca (qua (qca (qca (qca (qca (qca (qja Tryz.prog 6)))))))))), .inBlock 2, .code (qca (qca (qca (qca (qca (qca (qja Tryz.prog 6)))))))], ⟨[(0, (.one (.sl T_api_Member false v0))), (5, (.one (.int .i64 v5)))], [], 8⟩⟩
noncomputable def qWa (v0 : List qia) (v6 : Int) : Option (Int) := bitloftref28_Check_I.sem ⟨[.code (cIn (cIn (qca (qua (qca (qca (qca (qca (qca (qca (qja Tryz.prog 6))))))))))), .inLoop (cIn (cIn (qca (qua (qca (qca (qca (qca (qca (qca (qja Tryz.prog 6))))))))))), .inBlock 4, .code (qca (qca (qca (qca (qca (qca (qca (qja Tryz.prog 6))))))))], ⟨[(0, (.one (.sl T_api_Member false v0))), (6, (.one (.int .i64 v6)))], [], 8⟩⟩
noncomputable def qvc (v0 : List qia) (v6 : Int) (v7 : Int) : Option (Int) := bitloftref28_Check_I.sem ⟨[.code (cIn (cIn (qca (cIn (qua (qca (cIn (cIn (qca (qua (qca (qca (qca (qca (qca (qca (qja Tryz.prog 6))))))))))))))))), .inLoop (cIn (cIn (qca (cIn (qua (qca (cIn (cIn (qca (qua (qca (qca (qca (qca (qca (qca (qja Tryz.prog 6))))))))))))))))), .inBlock 6, .inBlock 5, .code (qca (qca (cIn (cIn (qca (qua (qca (qca (qca (qca (qca (qca (qja Tryz.prog 6))))))))))))), .inLoop (cIn (cIn (qca (qua (qca (qca (qca (qca (qca (qca (qja Tryz.prog 6))))))))))), .inBlock 4, .code (qca (qca (qca (qca (qca (qca (qca (qja Tryz.prog 6))))))))], ⟨[(0, (.one (.sl T_api_Member false v0))), (6, (.one (.int .i64 v6))), (7, (.one (.int .i64 v7)))], [], 8⟩⟩
theorem qil (a0 : List qia) : qGa a0 = (
if (decide ((Int.ofNat (List.length a0)) > (16 : Int))) = true then
some (4 : Int)
else
qwc a0 (0 : Int) (0 : Int)) := (FnI.call_eq (by kernel_rfl)).trans (by kernel_rfl)
theorem qjf (v0 : List qia) (v3 : Int) (v4 : Int) : qwc v0 v3 v4 = (
if (decide (v4 < (Int.ofNat (List.length v0)))) = true then
gd (0 ≤ v4) <|
gd (v4 < (Int.ofNat (List.length v0))) <|
qwc v0 (IntKind.wrap .i64 (v3 + (Int.ofNat (List.length (List.getD v0 (Int.toNat v4) (qla T_api_Member)).2.1)))) (IntKind.wrap .i64 (v4 + (1 : Int)))
else
if (decide (v3 > (8192 : Int))) = true then
some (4 : Int)
else
qtb v0 (0 : Int)) := (FnI.sem_eq _).trans (by kernel_rfl)
theorem qif (v0 : List qia) (v5 : Int) : qtb v0 v5 = (
if (decide (v5 < (Int.ofNat (List.length v0)))) = true then
gd (0 ≤ v5) <|
gd (v5 < (Int.ofNat (List.length v0))) <|
(qTd (List.getD v0 (Int.toNat v5) (qla T_api_Member)).1).bind fun r1 =>
if (not r1) = true then
some (8 : Int)
else
qtb v0 (IntKind.wrap .i64 (v5 + (1 : Int)))
else
qWa v0 (0 : Int)) := (FnI.sem_eq _).trans (by kernel_rfl)
theorem qhf (v0 : List qia) (v6 : Int) : qWa v0 v6 = (
if (decide (v6 < (Int.ofNat (List.length v0)))) = true then
qvc v0 v6 (0 : Int)
else
some (0 : Int)) := (FnI.sem_eq _).trans (by kernel_rfl)
theorem qgf (v0 : List qia) (v6 : Int) (v7 : Int) : qvc v0 v6 v7 = (
if (decide (v7 < v6)) = true then
gd (0 ≤ v7) <|
gd (v7 < (Int.ofNat (List.length v0))) <|
gd (0 ≤ v6) <|
gd (v6 < (Int.ofNat (List.length v0))) <|
if ((ByteArray.toList (List.getD v0 (Int.toNat v7) (qla T_api_Member)).1) == (ByteArray.toList (List.getD v0 (Int.toNat v6) (qla T_api_Member)).1)) = true then
some (14 : Int)
else
qvc v0 v6 (IntKind.wrap .i64 (v7 + (1 : Int)))
else
qWa v0 (IntKind.wrap .i64 (v6 + (1 : Int)))) := (FnI.sem_eq _).trans (by kernel_rfl)
noncomputable def qKc (acc : List AV → Bool) : Summ Tryz.prog GT := bitloftref28_Check_I.summ mixed acc false false
noncomputable def bitloftref30_Small_I : FnI Tryz.prog GT := { f := 5, cuts := [⟨(3, 3), [0, 3, 4], false, false, []⟩], tab := [qem (fun _ => true), qKc (fun _ => true)], fm := ⟨true, [.val .bool []]⟩ }
noncomputable def qHf (a0 : List qia) : Option (Bool) := bitloftref30_Small_I.call [(.sl T_api_Member false a0)] []
noncomputable def qqc (v0 : List qia) (v3 : Int) (v4 : Int) : Option (Bool) := bitloftref30_Small_I.sem ⟨[.code (cIn (cIn (qca (qua (qca (qca (qja Tryz.prog 5))))))), .inLoop (cIn (cIn (qca (qua (qca (qca (qja Tryz.prog 5))))))), .inBlock 0, .code (qca (qca (qca (qja Tryz.prog 5))))], ⟨[(0, (.one (.sl T_api_Member false v0))), (3, (.one (.int .i64 v3))), (4, (.one (.int .i64 v4)))], [], 8⟩⟩
theorem qZk (a0 : List qia) : qHf a0 = (
qqc a0 (0 : Int) (0 : Int)) := (FnI.call_eq (by kernel_rfl)).trans (by kernel_rfl)
theorem qZe (v0 : List qia) (v3 : Int) (v4 : Int) : qqc v0 v3 v4 = (
if (decide (v4 < (Int.ofNat (List.length v0)))) = true then
if (decide (v4 < (30 : Int))) = true then
gd (0 ≤ v4) <|
gd (v4 < (Int.ofNat (List.length v0))) <|
qqc v0 (IntKind.wrap .i64 (v3 + (Int.ofNat (List.length (List.getD v0 (Int.toNat v4) (qla T_api_Member)).2.1)))) (IntKind.wrap .i64 (v4 + (1 : Int)))
else
if (decide ((Int.ofNat (List.length v0)) ≤ (30 : Int))) = true then
(quc v0).bind fun r1 =>
if (not r1) = true then
if (decide (v3 ≤ (80 : Int))) = true then
some (true)
else
(qGa v0).bind fun r2 =>
some (r2 != (0 : Int))
else
some (false)
else
some (false)
else
if (decide ((Int.ofNat (List.length v0)) ≤ (30 : Int))) = true then
(quc v0).bind fun r3 =>
if (not r3) = true then
if (decide (v3 ≤ (80 : Int))) = true then
some (true)
else
(qGa v0).bind fun r4 =>
some (r4 != (0 : Int))
else
some (false)
else
some (false)) := (FnI.sem_eq _).trans (by kernel_rfl)
noncomputable def qUl (acc : List AV → Bool) : Summ Tryz.prog GT := bitloftref30_Small_I.summ mixed acc false false
noncomputable def bitloftref35_Great_I : FnI Tryz.prog GT := { f := 7, cuts := [⟨(2, 3), [0, 3], false, false, []⟩], tab := [], fm := ⟨true, [.val .bool []]⟩ }
noncomputable def qEf (a0 : List qka) : Option (Bool) := bitloftref35_Great_I.call [(.sl T_api_Harm false a0)] []
noncomputable def qoc (v0 : List qka) (v3 : Int) : Option (Bool) := bitloftref35_Great_I.sem ⟨[.code (cIn (cIn (qca (qua (qca (qja Tryz.prog 7)))))), .inLoop (cIn (cIn (qca (qua (qca (qja Tryz.prog 7)))))), .inBlock 0, .code (qca (qca (qja Tryz.prog 7)))], ⟨[(0, (.one (.sl T_api_Harm false v0))), (3, (.one (.int .i64 v3)))], [], 8⟩⟩
theorem qVk (a0 : List qka) : qEf a0 = (
qoc a0 (0 : Int)) := (FnI.call_eq (by kernel_rfl)).trans (by kernel_rfl)
theorem qXe (v0 : List qka) (v3 : Int) : qoc v0 v3 = (
if (decide (v3 < (Int.ofNat (List.length v0)))) = true then
gd (0 ≤ v3) <|
gd (v3 < (Int.ofNat (List.length v0))) <|
if (decide ((Int.ofNat (List.length (List.getD v0 (Int.toNat v3) (qla T_api_Harm)).2.2.2.1)) > (300 : Int))) = true then
some (true)
else
qoc v0 (IntKind.wrap .i64 (v3 + (1 : Int)))
else
some (decide ((Int.ofNat (List.length v0)) > (40 : Int)))) := (FnI.sem_eq _).trans (by kernel_rfl)
noncomputable def qQl (acc : List AV → Bool) : Summ Tryz.prog GT := bitloftref35_Great_I.summ mixed acc false false
noncomputable def bitloftref35_valid_I : FnI Tryz.prog GT := { f := 24, cuts := [], tab := [], fm := ⟨true, [.val .bool []]⟩ }
noncomputable def qDf (a0 : qka) : Option (Bool) := bitloftref35_valid_I.call [(.agg T_api_Harm (inj false T_api_Harm a0))] []
theorem qUk (a0 : qka) : qDf a0 = (
if (decide (a0.2.1 < (0 : Int))) = true then
some (false)
else
if (decide ((Int.ofNat (List.length a0.2.2.2.1)) > (0 : Int))) = true then
if (a0.1 != (3 : Int)) = true then
some (false)
else
if (a0.1 == (1 : Int)) = true then
if (decide (a0.2.2.1 ≥ (0 : Int))) = true then
some (decide (a0.2.2.1 ≤ (255 : Int)))
else
some (false)
else
if (a0.1 == (2 : Int)) = true then
some (decide (a0.2.2.1 ≥ (0 : Int)))
else
if (a0.1 == (3 : Int)) = true then
if (a0.2.2.1 == (0 : Int)) = true then
some (decide ((Int.ofNat (List.length a0.2.2.2.1)) ≤ (200 : Int)))
else
some (false)
else
if (a0.1 == (4 : Int)) = true then
some (a0.2.2.1 == (0 : Int))
else
some (false)
else
if (a0.1 == (1 : Int)) = true then
if (decide (a0.2.2.1 ≥ (0 : Int))) = true then
some (decide (a0.2.2.1 ≤ (255 : Int)))
else
some (false)
else
if (a0.1 == (2 : Int)) = true then
some (decide (a0.2.2.1 ≥ (0 : Int)))
else
if (a0.1 == (3 : Int)) = true then
if (a0.2.2.1 == (0 : Int)) = true then
some (decide ((Int.ofNat (List.length a0.2.2.2.1)) ≤ (200 : Int)))
else
some (false)
else
if (a0.1 == (4 : Int)) = true then
some (a0.2.2.1 == (0 : Int))
else
some (false)) := (FnI.call_eq (by kernel_rfl)).trans (by kernel_rfl)
noncomputable def qPl (acc : List AV → Bool) : Summ Tryz.prog GT := bitloftref35_valid_I.summ mixed acc false false
noncomputable def bitloftref35_Check_I : FnI Tryz.prog GT := { f := 8, cuts := [⟨(4, 3), [0, 3], false, false, []⟩], tab := [qPl (fun _ => true)], fm := ⟨true, [.val (.int .i64) []]⟩ }
noncomputable def qFf (a0 : List qka) : Option (Int) := bitloftref35_Check_I.call [(.sl T_api_Harm false a0)] []
noncomputable def qpc (v0 : List qka) (v3 : Int) : Option (Int) := bitloftref35_Check_I.sem ⟨[.code (cIn (cIn (qca (qua (qca (qca (qja Tryz.prog 8))))))), .inLoop (cIn (cIn (qca (qua (qca (qca (qja Tryz.prog 8))))))), .inBlock 0, .code (qca (qca (qca (qja Tryz.prog 8))))], ⟨[(0, (.one (.sl T_api_Harm false v0))), (3, (.one (.int .i64 v3)))], [], 8⟩⟩
theorem qWk (a0 : List qka) : qFf a0 = (
if (decide ((Int.ofNat (List.length a0)) > (20 : Int))) = true then
some (4 : Int)
else
qpc a0 (0 : Int)) := (FnI.call_eq (by kernel_rfl)).trans (by kernel_rfl)
theorem qYe (v0 : List qka) (v3 : Int) : qpc v0 v3 = (
if (decide (v3 < (Int.ofNat (List.length v0)))) = true then
gd (0 ≤ v3) <|
gd (v3 < (Int.ofNat (List.length v0))) <|
(qDf (List.getD v0 (Int.toNat v3) (qla T_api_Harm))).bind fun r1 =>
if (not r1) = true then
some (8 : Int)
else
qpc v0 (IntKind.wrap .i64 (v3 + (1 : Int)))
else
some (0 : Int)) := (FnI.sem_eq _).trans (by kernel_rfl)
noncomputable def qRl (acc : List AV → Bool) : Summ Tryz.prog GT := bitloftref35_Check_I.summ mixed acc false false
noncomputable def bitloftref01_Padding_I : FnI Tryz.prog GT := { f := 96, cuts := [⟨(2, 3), [0, 3], false, false, []⟩, ⟨(5, 3), [0, 3, 4], false, false, []⟩], tab := [], fm := ⟨true, [.val (.slice (.int .u8)) [.nw]]⟩ }
noncomputable def qoe (a0 : Int) : Option (List Int) := bitloftref01_Padding_I.call [(.int .i64 a0)] []
noncomputable def qIb (v0 : Int) (h8 : List Int) : Option (List Int) := bitloftref01_Padding_I.sem ⟨[.code (cIn (cIn (qua (qca (qca (qja Tryz.prog 96)))))), .inLoop (cIn (cIn (qua (qca (qca (qja Tryz.prog 96)))))), .inBlock 0, .code (qca (qca (qca (qja Tryz.prog 96))))], ⟨[(0, (.one (.int .i64 v0))), (3, (.one (.ref (.int .u8) 8 0 (List.length h8) true)))], [(8, some (.row (.int .u8) true h8))], 9⟩⟩
noncomputable def qHb (v0 : Int) (v4 : Int) (h8 : List Int) : Option (List Int) := bitloftref01_Padding_I.sem ⟨[.code (cIn (cIn (qca (qua (qca (qca (qca (qja Tryz.prog 96)))))))), .inLoop (cIn (cIn (qca (qua (qca (qca (qca (qja Tryz.prog 96)))))))), .inBlock 2, .code (qca (qca (qca (qca (qja Tryz.prog 96)))))], ⟨[(0, (.one (.int .i64 v0))), (3, (.one (.ref (.int .u8) 8 0 (List.length h8) true))), (4, (.one (.int .i64 v4)))], [(8, some (.row (.int .u8) true h8))], 9⟩⟩
theorem qVj (a0 : Int) : qoe a0 = (
qIb a0 [(128 : Int)]) := (FnI.call_eq (by kernel_rfl)).trans (by kernel_rfl)
theorem qae (v0 : Int) (h8 : List Int) : qIb v0 h8 = (
gd ((64 : Int) ≠ 0) <|
if ((Int.tmod (IntKind.wrap .i64 ((IntKind.wrap .i64 (v0 + (Int.ofNat (List.length h8)))) + (8 : Int))) (64 : Int)) != (0 : Int)) = true then
gd ((List.length (h8 ++ [(0 : Int)])) * 1 ≤ 140737488355328) <|
qIb v0 (h8 ++ [(0 : Int)])
else
qHb v0 (7 : Int) h8) := (FnI.sem_eq _).trans (by kernel_rfl)
theorem qZd (v0 : Int) (v4 : Int) (h8 : List Int) : qHb v0 v4 h8 = (
if (decide (v4 ≥ (0 : Int))) = true then
gd (0 ≤ (IntKind.wrap .i64 ((8 : Int) * v4))) <|
gd ((List.length (h8 ++ [(IntKind.wrap .u8 (qQi .u64 (IntKind.wrap .u64 ((8 : Int) * (IntKind.wrap .u64 v0))) (IntKind.wrap .i64 ((8 : Int) * v4))))])) * 1 ≤ 140737488355328) <|
qHb v0 (IntKind.wrap .i64 (v4 - (1 : Int))) (h8 ++ [(IntKind.wrap .u8 (qQi .u64 (IntKind.wrap .u64 ((8 : Int) * (IntKind.wrap .u64 v0))) (IntKind.wrap .i64 ((8 : Int) * v4))))])
else
some (h8)) := (FnI.sem_eq _).trans (by kernel_rfl)
noncomputable def qpk (acc : List AV → Bool) : Summ Tryz.prog GT := bitloftref01_Padding_I.summ mixed acc false false
noncomputable def bitloftref01_First_I : FnI Tryz.prog GT := { f := 97, cuts := [], tab := [], fm := ⟨true, [.val (.arr 5 (.int .u32)) []]⟩ }
noncomputable def qsi : Option ((List Int)) := bitloftref01_First_I.call [] []
theorem qsl : qsi = (
some (List.set (List.set (List.set (List.set (List.set (List.replicate 5 (0 : Int)) 0 (1732584193 : Int)) 1 (4023233417 : Int)) 2 (2562383102 : Int)) 3 (271733878 : Int)) 4 (3285377520 : Int))) := (FnI.call_eq (by kernel_rfl)).trans (by kernel_rfl)
noncomputable def qpm (acc : List AV → Bool) : Summ Tryz.prog GT := bitloftref01_First_I.summ mixed acc false false
noncomputable def bitloftref01_turn_I : FnI Tryz.prog GT := { f := 148, cuts := [], tab := [], fm := ⟨true, [.val (.int .u32) []]⟩ }
noncomputable def qTc (a0 : Int) (a1 : Int) : Option (Int) := bitloftref01_turn_I.call [(.int .u32 a0), (.int .i64 a1)] []
theorem qnm (a0 : Int) (a1 : Int) : qTc a0 a1 = (
gd (0 ≤ a1) <|
gd (0 ≤ (IntKind.wrap .i64 ((32 : Int) - a1))) <|
some (qFc .u32 (IntKind.wrap .u32 (qKE .u32 a0 a1)) (qQi .u32 a0 (IntKind.wrap .i64 ((32 : Int) - a1))))) := (FnI.call_eq (by kernel_rfl)).trans (by kernel_rfl)
noncomputable def qBn (acc : List AV → Bool) : Summ Tryz.prog GT := bitloftref01_turn_I.summ mixed acc false false
noncomputable def bitloftref01_part_I : FnI Tryz.prog GT := { f := 149, cuts := [], tab := [], fm := ⟨true, [.val (.int .u32) [], .val (.int .u32) []]⟩ }
noncomputable def qsg (a0 : Int) (a1 : Int) (a2 : Int) (a3 : Int) : Option (Int × Int) := bitloftref01_part_I.call [(.int .i64 a0), (.int .u32 a1), (.int .u32 a2), (.int .u32 a3)] []
theorem qom (a0 : Int) (a1 : Int) (a2 : Int) (a3 : Int) : qsg a0 a1 a2 a3 = (
if (decide (a0 < (20 : Int))) = true then
some ((qFc .u32 (qeb .u32 a1 a2) (qeb .u32 (qYa .u32 (4294967295 : Int) a1) a3)), (1518500249 : Int))
else
if (decide (a0 < (40 : Int))) = true then
some ((qYa .u32 (qYa .u32 a1 a2) a3), (1859775393 : Int))
else
if (decide (a0 < (60 : Int))) = true then
some ((qFc .u32 (qFc .u32 (qeb .u32 a1 a2) (qeb .u32 a1 a3)) (qeb .u32 a2 a3)), (2400959708 : Int))
else
some ((qYa .u32 (qYa .u32 a1 a2) a3), (3395469782 : Int))) := (FnI.call_eq (by kernel_rfl)).trans (by kernel_rfl)
noncomputable def qCn (acc : List AV → Bool) : Summ Tryz.prog GT := bitloftref01_part_I.summ mixed acc false false
noncomputable def bitloftref01_Done_I : FnI Tryz.prog GT := { f := 98, cuts := [⟨(3, 3), [1, 2, 4, 5, 6], false, false, []⟩, ⟨(7, 3), [2, 4, 5, 7], false, false, []⟩, ⟨(12, 3), [2, 4, 5, 8, 9], false, false, []⟩, ⟨(17, 3), [2, 4, 8, 12], false, false, []⟩], tab := [qBn (fun _ => true), qCn (fun _ => true)], fm := ⟨true, [.val (.arr 5 (.int .u32)) []]⟩ }
noncomputable def qtg (a0 : (List Int)) (a1 : List Int) : Option ((List Int)) := bitloftref01_Done_I.call [(.agg (.arr 5 (.int .u32)) a0), (.sl (.int .u8) false a1)] []
noncomputable def qLc (v1 : List Int) (v6 : Int) (b8 : (List Int)) (b9 : (List Int)) (h10 : List Int) : Option ((List Int)) := bitloftref01_Done_I.sem ⟨[.code (cIn (cIn (qca (qua (qca (qca (qja Tryz.prog 98))))))), .inLoop (cIn (cIn (qca (qua (qca (qca (qja Tryz.prog 98))))))), .inBlock 0, .code (qca (qca (qca (qja Tryz.prog 98))))], ⟨[(1, (.one (.sl (.int .u8) false v1))), (2, (.one (.ptr (.arr 5 (.int .u32)) 8 []))), (4, (.one (.ptr (.arr 5 (.int .u32)) 9 []))), (5, (.one (.ref (.int .u32) 10 0 (List.length h10) true))), (6, (.one (.int .i64 v6)))], [(8, some (.box (.arr 5 (.int .u32)) b8)), (9, some (.box (.arr 5 (.int .u32)) b9)), (10, some (.row (.int .u32) true h10))], 11⟩⟩
noncomputable def qEb (v7 : Int) (b8 : (List Int)) (b9 : (List Int)) (h10 : List Int) : Option ((List Int)) := bitloftref01_Done_I.sem ⟨[.code (cIn (cIn (qca (qua (qca (qca (qca (qja Tryz.prog 98)))))))), .inLoop (cIn (cIn (qca (qua (qca (qca (qca (qja Tryz.prog 98)))))))), .inBlock 2, .code (qca (qca (qca (qca (qja Tryz.prog 98)))))], ⟨[(2, (.one (.ptr (.arr 5 (.int .u32)) 8 []))), (4, (.one (.ptr (.arr 5 (.int .u32)) 9 []))), (5, (.one (.ref (.int .u32) 10 0 (List.length h10) true))), (7, (.one (.int .i64 v7)))], [(8, some (.box (.arr 5 (.int .u32)) b8)), (9, some (.box (.arr 5 (.int .u32)) b9)), (10, some (.row (.int .u32) true h10))], 11⟩⟩
noncomputable def qDb (v9 : Int) (b8 : (List Int)) (b9 : (List Int)) (h10 : List Int) (b11 : (List Int)) : Option ((List Int)) := bitloftref01_Done_I.sem ⟨[.code (cIn (cIn (qca (qua (qca (qca (qca (qca (qca (qja Tryz.prog 98)))))))))), .inLoop (cIn (cIn (qca (qua (qca (qca (qca (qca (qca (qja Tryz.prog 98)))))))))), .inBlock 4, .code (qca (qca (qca (qca (qca (qca (qja Tryz.prog 98)))))))], ⟨[(2, (.one (.ptr (.arr 5 (.int .u32)) 8 []))), (4, (.one (.ptr (.arr 5 (.int .u32)) 9 []))), (5, (.one (.ref (.int .u32) 10 0 (List.length h10) true))), (8, (.one (.ptr (.arr 5 (.int .u32)) 11 []))), (9, (.one (.int .i64 v9)))], [(8, some (.box (.arr 5 (.int .u32)) b8)), (9, some (.box (.arr 5 (.int .u32)) b9)), (10, some (.row (.int .u32) true h10)), (11, some (.box (.arr 5 (.int .u32)) b11))], 12⟩⟩
noncomputable def qCb (v12 : Int) (b8 : (List Int)) (b9 : (List Int)) (b10 : (List Int)) : Option ((List Int)) := bitloftref01_Done_I.sem ⟨[.code (cIn (cIn (qca (qua (qca (qca (qca (qca (qca (qca (qja Tryz.prog 98))))))))))), .inLoop (cIn (cIn (qca (qua (qca (qca (qca (qca (qca (qca (qja Tryz.prog 98))))))))))), .inBlock 6, .code (qca (qca (qca (qca (qca (qca (qca (qja Tryz.prog 98))))))))], ⟨[(2, (.one (.ptr (.arr 5 (.int .u32)) 8 []))), (4, (.one (.ptr (.arr 5 (.int .u32)) 9 []))), (8, (.one (.ptr (.arr 5 (.int .u32)) 10 []))), (12, (.one (.int .i64 v12)))], [(8, some (.box (.arr 5 (.int .u32)) b8)), (9, some (.box (.arr 5 (.int .u32)) b9)), (10, some (.box (.arr 5 (.int .u32)) b10))], 11⟩⟩
theorem qqm (a0 : (List Int)) (a1 : List Int) : qtg a0 a1 = (
qLc a1 (0 : Int) a0 (List.replicate 5 (0 : Int)) []) := (FnI.call_eq (by kernel_rfl)).trans (by kernel_rfl)
theorem qXf (v1 : List Int) (v6 : Int) (b8 : (List Int)) (b9 : (List Int)) (h10 : List Int) : qLc v1 v6 b8 b9 h10 = (
if (decide (v6 < (16 : Int))) = true then
gd (0 ≤ (IntKind.wrap .i64 ((4 : Int) * v6))) <|
gd ((IntKind.wrap .i64 ((4 : Int) * v6)) < (Int.ofNat (List.length v1))) <|
gd (0 ≤ (IntKind.wrap .i64 ((IntKind.wrap .i64 ((4 : Int) * v6)) + (1 : Int)))) <|
gd ((IntKind.wrap .i64 ((IntKind.wrap .i64 ((4 : Int) * v6)) + (1 : Int))) < (Int.ofNat (List.length v1))) <|
gd (0 ≤ (IntKind.wrap .i64 ((IntKind.wrap .i64 ((4 : Int) * v6)) + (2 : Int)))) <|
gd ((IntKind.wrap .i64 ((IntKind.wrap .i64 ((4 : Int) * v6)) + (2 : Int))) < (Int.ofNat (List.length v1))) <|
gd (0 ≤ (IntKind.wrap .i64 ((IntKind.wrap .i64 ((4 : Int) * v6)) + (3 : Int)))) <|
gd ((IntKind.wrap .i64 ((IntKind.wrap .i64 ((4 : Int) * v6)) + (3 : Int))) < (Int.ofNat (List.length v1))) <|
gd ((List.length (h10 ++ [(IntKind.wrap .u32 ((IntKind.wrap .u32 ((IntKind.wrap .u32 ((IntKind.wrap .u32 ((IntKind.wrap .u32 ((IntKind.wrap .u32 ((IntKind.wrap .u32 (List.getD v1 (Int.toNat (IntKind.wrap .i64 ((4 : Int) * v6))) (0 : Int))) * (256 : Int))) + (IntKind.wrap .u32 (List.getD v1 (Int.toNat (IntKind.wrap .i64 ((IntKind.wrap .i64 ((4 : Int) * v6)) + (1 : Int)))) (0 : Int))))) * (256 : Int))) + (IntKind.wrap .u32 (List.getD v1 (Int.toNat (IntKind.wrap .i64 ((IntKind.wrap .i64 ((4 : Int) * v6)) + (2 : Int)))) (0 : Int))))) * (256 : Int))) + (IntKind.wrap .u32 (List.getD v1 (Int.toNat (IntKind.wrap .i64 ((IntKind.wrap .i64 ((4 : Int) * v6)) + (3 : Int)))) (0 : Int)))))])) * 4 ≤ 140737488355328) <|
qLc v1 (IntKind.wrap .i64 (v6 + (1 : Int))) b8 b9 (h10 ++ [(IntKind.wrap .u32 ((IntKind.wrap .u32 ((IntKind.wrap .u32 ((IntKind.wrap .u32 ((IntKind.wrap .u32 ((IntKind.wrap .u32 ((IntKind.wrap .u32 (List.getD v1 (Int.toNat (IntKind.wrap .i64 ((4 : Int) * v6))) (0 : Int))) * (256 : Int))) + (IntKind.wrap .u32 (List.getD v1 (Int.toNat (IntKind.wrap .i64 ((IntKind.wrap .i64 ((4 : Int) * v6)) + (1 : Int)))) (0 : Int))))) * (256 : Int))) + (IntKind.wrap .u32 (List.getD v1 (Int.toNat (IntKind.wrap .i64 ((IntKind.wrap .i64 ((4 : Int) * v6)) + (2 : Int)))) (0 : Int))))) * (256 : Int))) + (IntKind.wrap .u32 (List.getD v1 (Int.toNat (IntKind.wrap .i64 ((IntKind.wrap .i64 ((4 : Int) * v6)) + (3 : Int)))) (0 : Int)))))])
else
qEb (16 : Int) b8 b9 h10) := (FnI.sem_eq _).trans (by kernel_rfl)
theorem qWf (v7 : Int) (b8 : (List Int)) (b9 : (List Int)) (h10 : List Int) : qEb v7 b8 b9 h10 = (
if (decide (v7 < (80 : Int))) = true then
gd (0 ≤ (IntKind.wrap .i64 (v7 - (3 : Int)))) <|
gd ((IntKind.wrap .i64 (v7 - (3 : Int))) < (Int.ofNat (List.length h10))) <|
gd (0 ≤ (IntKind.wrap .i64 (v7 - (8 : Int)))) <|
gd ((IntKind.wrap .i64 (v7 - (8 : Int))) < (Int.ofNat (List.length h10))) <|
gd (0 ≤ (IntKind.wrap .i64 (v7 - (14 : Int)))) <|
gd ((IntKind.wrap .i64 (v7 - (14 : Int))) < (Int.ofNat (List.length h10))) <|
gd (0 ≤ (IntKind.wrap .i64 (v7 - (16 : Int)))) <|
gd ((IntKind.wrap .i64 (v7 - (16 : Int))) < (Int.ofNat (List.length h10))) <|
(qTc (qYa .u32 (qYa .u32 (qYa .u32 (List.getD h10 (0 + (Int.toNat (IntKind.wrap .i64 (v7 - (3 : Int))))) (0 : Int)) (List.getD h10 (0 + (Int.toNat (IntKind.wrap .i64 (v7 - (8 : Int))))) (0 : Int))) (List.getD h10 (0 + (Int.toNat (IntKind.wrap .i64 (v7 - (14 : Int))))) (0 : Int))) (List.getD h10 (0 + (Int.toNat (IntKind.wrap .i64 (v7 - (16 : Int))))) (0 : Int))) (1 : Int)).bind fun r1 =>
gd ((List.length (h10 ++ [r1])) * 4 ≤ 140737488355328) <|
qEb (IntKind.wrap .i64 (v7 + (1 : Int))) b8 b9 (h10 ++ [r1])
else
qDb (0 : Int) b8 b9 h10 b8) := (FnI.sem_eq _).trans (by kernel_rfl)
theorem qVf (v9 : Int) (b8 : (List Int)) (b9 : (List Int)) (h10 : List Int) (b11 : (List Int)) : qDb v9 b8 b9 h10 b11 = (
if (decide (v9 < (80 : Int))) = true then
gd (0 ≤ (1 : Int)) <|
gd ((1 : Int) < (5 : Int)) <|
gd (0 ≤ (2 : Int)) <|
gd ((2 : Int) < (5 : Int)) <|
gd (0 ≤ (3 : Int)) <|
gd ((3 : Int) < (5 : Int)) <|
(qsg v9 (List.getD b11 1 (0 : Int)) (List.getD b11 2 (0 : Int)) (List.getD b11 3 (0 : Int))).bind fun r2 =>
gd (0 ≤ (0 : Int)) <|
gd ((0 : Int) < (5 : Int)) <|
(qTc (List.getD b11 0 (0 : Int)) (5 : Int)).bind fun r3 =>
gd (0 ≤ (4 : Int)) <|
gd ((4 : Int) < (5 : Int)) <|
gd (0 ≤ v9) <|
gd (v9 < (Int.ofNat (List.length h10))) <|
gd (0 ≤ (0 : Int)) <|
gd ((0 : Int) < (5 : Int)) <|
gd (0 ≤ (1 : Int)) <|
gd ((1 : Int) < (5 : Int)) <|
(qTc (List.getD b11 1 (0 : Int)) (30 : Int)).bind fun r4 =>
gd (0 ≤ (2 : Int)) <|
gd ((2 : Int) < (5 : Int)) <|
gd (0 ≤ (3 : Int)) <|
gd ((3 : Int) < (5 : Int)) <|
qDb (IntKind.wrap .i64 (v9 + (1 : Int))) b8 b9 h10 (List.set (List.set (List.set (List.set (List.set (List.replicate 5 (0 : Int)) 0 (IntKind.wrap .u32 ((IntKind.wrap .u32 ((IntKind.wrap .u32 ((IntKind.wrap .u32 (r3 + r2.1)) + (List.getD b11 4 (0 : Int)))) + r2.2)) + (List.getD h10 (0 + (Int.toNat v9)) (0 : Int))))) 1 (List.getD b11 0 (0 : Int))) 2 r4) 3 (List.getD b11 2 (0 : Int))) 4 (List.getD b11 3 (0 : Int)))
else
qCb (0 : Int) b8 b9 b11) := (FnI.sem_eq _).trans (by kernel_rfl)
theorem qNa (v12 : Int) (b8 : (List Int)) (b9 : (List Int)) (b10 : (List Int)) : qCb v12 b8 b9 b10 = (
if (decide (v12 < (5 : Int))) = true then
gd (0 ≤ v12) <|
gd (v12 < (5 : Int)) <|
gd (0 ≤ v12) <|
gd (v12 < (5 : Int)) <|
gd (0 ≤ v12) <|
gd (v12 < (5 : Int)) <|
qCb (IntKind.wrap .i64 (v12 + (1 : Int))) (List.set b8 (Int.toNat v12) (IntKind.wrap .u32 ((List.getD b8 (Int.toNat v12) (0 : Int)) + (List.getD b10 (Int.toNat v12) (0 : Int))))) b9 b10
else
some (b8)) := (FnI.sem_eq _).trans (by kernel_rfl)
noncomputable def qDn (acc : List AV → Bool) : Summ Tryz.prog GT := bitloftref01_Done_I.summ mixed acc false false
noncomputable def bitloftref01_Of_I : FnI Tryz.prog GT := { f := 55, cuts := [⟨(4, 3), [2, 3, 4, 5], false, false, []⟩, ⟨(9, 3), [2, 4, 6, 7], false, false, []⟩], tab := [qpk (fun _ => true), qpm (fun _ => true), qDn (fun _ => true)], fm := ⟨true, [.val (.arr 20 (.int .u8)) []]⟩ }
noncomputable def qub (a0 : List Int) : Option ((List Int)) := bitloftref01_Of_I.call [(.sl (.int .u8) false a0)] []
noncomputable def qud (v5 : Int) (b8 : (List Int)) (h9 : List Int) (b10 : (List Int)) : Option ((List Int)) := bitloftref01_Of_I.sem ⟨[.code (cIn (cIn (qca (qua (qca (qca (qca (qja Tryz.prog 55)))))))), .inLoop (cIn (cIn (qca (qua (qca (qca (qca (qja Tryz.prog 55)))))))), .inBlock 0, .code (qca (qca (qca (qca (qja Tryz.prog 55)))))], ⟨[(2, (.one (.ptr (.arr 20 (.int .u8)) 8 []))), (3, (.one (.ref (.int .u8) 9 0 (List.length h9) true))), (4, (.one (.ptr (.arr 5 (.int .u32)) 10 []))), (5, (.one (.int .i64 v5)))], [(8, some (.box (.arr 20 (.int .u8)) b8)), (9, some (.row (.int .u8) true h9)), (10, some (.box (.arr 5 (.int .u32)) b10))], 11⟩⟩
noncomputable def qtd (v7 : Int) (b8 : (List Int)) (b9 : (List Int)) (b10 : (List Int)) : Option ((List Int)) := bitloftref01_Of_I.sem ⟨[.code (cIn (cIn (qca (qua (qca (qca (qca (qca (qca (qja Tryz.prog 55)))))))))), .inLoop (cIn (cIn (qca (qua (qca (qca (qca (qca (qca (qja Tryz.prog 55)))))))))), .inBlock 2, .code (qca (qca (qca (qca (qca (qca (qja Tryz.prog 55)))))))], ⟨[(2, (.one (.ptr (.arr 20 (.int .u8)) 8 []))), (4, (.one (.ptr (.arr 5 (.int .u32)) 9 []))), (6, (.one (.ptr (.arr 20 (.int .u8)) 10 []))), (7, (.one (.int .i64 v7)))], [(8, some (.box (.arr 20 (.int .u8)) b8)), (9, some (.box (.arr 5 (.int .u32)) b9)), (10, some (.box (.arr 20 (.int .u8)) b10))], 11⟩⟩
theorem qPo (a0 : List Int) : qub a0 = (
gd ((List.length ([] ++ a0)) * 1 ≤ 140737488355328) <|
(qoe (Int.ofNat (List.length a0))).bind fun r1 =>
gd ((List.length (([] ++ a0) ++ r1)) * 1 ≤ 140737488355328) <|
(qsi).bind fun r2 =>
qud (0 : Int) (List.replicate 20 (0 : Int)) (([] ++ a0) ++ r1) r2) := (FnI.call_eq (by kernel_rfl)).trans (by kernel_rfl)
theorem qXg (v5 : Int) (b8 : (List Int)) (h9 : List Int) (b10 : (List Int)) : qud v5 b8 h9 b10 = (
if (decide (v5 < (Int.ofNat (List.length h9)))) = true then
gd (0 ≤ v5) <|
gd (v5 ≤ (IntKind.wrap .i64 (v5 + (64 : Int)))) <|
gd ((IntKind.wrap .i64 (v5 + (64 : Int))) ≤ (Int.ofNat (List.length h9))) <|
(qtg b10 (List.take ((Int.toNat (IntKind.wrap .i64 (v5 + (64 : Int)))) - (Int.toNat v5)) (List.drop (0 + (Int.toNat v5)) h9))).bind fun r3 =>
qud (IntKind.wrap .i64 (v5 + (64 : Int))) b8 h9 r3
else
qtd (0 : Int) b8 b10 (List.replicate 20 (0 : Int))) := (FnI.sem_eq _).trans (by kernel_rfl)
theorem qWg (v7 : Int) (b8 : (List Int)) (b9 : (List Int)) (b10 : (List Int)) : qtd v7 b8 b9 b10 = (
if (decide (v7 < (20 : Int))) = true then
gd ((4 : Int) ≠ 0) <|
gd (0 ≤ (IntKind.wrap .i64 (Int.tdiv v7 (4 : Int)))) <|
gd ((IntKind.wrap .i64 (Int.tdiv v7 (4 : Int))) < (5 : Int)) <|
gd ((4 : Int) ≠ 0) <|
gd (0 ≤ (IntKind.wrap .i64 ((24 : Int) - (IntKind.wrap .i64 ((8 : Int) * (Int.tmod v7 (4 : Int))))))) <|
gd (0 ≤ v7) <|
gd (v7 < (20 : Int)) <|
qtd (IntKind.wrap .i64 (v7 + (1 : Int))) b8 b9 (List.set b10 (Int.toNat v7) (IntKind.wrap .u8 (qQi .u32 (List.getD b9 (Int.toNat (IntKind.wrap .i64 (Int.tdiv v7 (4 : Int)))) (0 : Int)) (IntKind.wrap .i64 ((24 : Int) - (IntKind.wrap .i64 ((8 : Int) * (Int.tmod v7 (4 : Int)))))))))
else
some (b10)) := (FnI.sem_eq _).trans (by kernel_rfl)
noncomputable def qUc (acc : List AV → Bool) : Summ Tryz.prog GT := bitloftref01_Of_I.summ mixed acc false false
noncomputable def bitloftref28_record_I : FnI Tryz.prog GT := { f := 47, cuts := [], tab := [qUc (fun _ => true)], fm := ⟨true, [.val qba []]⟩ }
noncomputable def qOe (a0 : qia) : Option (qaa) := bitloftref28_record_I.call [(.agg T_api_Member (inj false T_api_Member a0))] []
theorem qnk (a0 : qia) : qOe a0 = (
(qub a0.2.1).bind fun r1 =>
some (a0.1, ((Int.ofNat (List.length a0.2.1)), (r1, ())))) := (FnI.call_eq (by kernel_rfl)).trans (by kernel_rfl)
noncomputable def qfl (acc : List AV → Bool) : Summ Tryz.prog GT := bitloftref28_record_I.summ mixed acc false false
noncomputable def bitloftref28_Of_I : FnI Tryz.prog GT := { f := 25, cuts := [⟨(5, 3), [0, 4, 5], false, false, []⟩], tab := [qKc (fun _ => true), qfl (fun _ => true)], fm := ⟨true, [.val (.slice qba) [.nw], .val (.int .i64) []]⟩ }
noncomputable def qRh (a0 : List qia) : Option (List qaa × Int) := bitloftref28_Of_I.call [(.sl T_api_Member false a0)] []
noncomputable def qod (v0 : List qia) (v5 : Int) (h8 : List qaa) : Option (List qaa × Int) := bitloftref28_Of_I.sem ⟨[.code (cIn (cIn (qca (qua (qca (qca (qca (qja Tryz.prog 25)))))))), .inLoop (cIn (cIn (qca (qua (qca (qca (qca (qja Tryz.prog 25)))))))), .inBlock 0, .code (qca (qca (qca (qca (qja Tryz.prog 25)))))], ⟨[(0, (.one (.sl T_api_Member false v0))), (4, (.one (.ref qba 8 0 (List.length h8) true))), (5, (.one (.int .i64 v5)))], [(8, some (.row qba true h8))], 9⟩⟩
theorem qLo (a0 : List qia) : qRh a0 = (
(qGa a0).bind fun r1 =>
if (r1 != (0 : Int)) = true then
(qGa a0).bind fun r2 =>
some ([], r2)
else
qod a0 (0 : Int) []) := (FnI.call_eq (by kernel_rfl)).trans (by kernel_rfl)
theorem qTg (v0 : List qia) (v5 : Int) (h8 : List qaa) : qod v0 v5 h8 = (
if (decide (v5 < (Int.ofNat (List.length v0)))) = true then
gd (0 ≤ v5) <|
gd (v5 < (Int.ofNat (List.length v0))) <|
(qOe (List.getD v0 (Int.toNat v5) (qla T_api_Member))).bind fun r3 =>
gd ((List.length (h8 ++ [r3])) * 48 ≤ 140737488355328) <|
qod v0 (IntKind.wrap .i64 (v5 + (1 : Int))) (h8 ++ [r3])
else
some (h8, (0 : Int))) := (FnI.sem_eq _).trans (by kernel_rfl)
noncomputable def qIp (acc : List AV → Bool) : Summ Tryz.prog GT := bitloftref28_Of_I.summ mixed acc false false
noncomputable def bitloftref29_Block_I : FnI Tryz.prog GT := { f := 48, cuts := [], tab := [], fm := ⟨true, [.val .bool []]⟩ }
noncomputable def qsc (a0 : Int) : Option (Bool) := bitloftref29_Block_I.call [(.int .i64 a0)] []
theorem qHd (a0 : Int) : qsc a0 = (
if (decide (a0 ≥ (16 : Int))) = true then
some (decide (a0 ≤ (4096 : Int)))
else
some (false)) := (FnI.call_eq (by kernel_rfl)).trans (by kernel_rfl)
noncomputable def qne (acc : List AV → Bool) : Summ Tryz.prog GT := bitloftref29_Block_I.summ mixed acc false false
noncomputable def bitloftref29_Lengths_I : FnI Tryz.prog GT := { f := 50, cuts := [⟨(3, 3), [0, 3, 4], false, false, []⟩], tab := [], fm := ⟨true, [.val (.slice (.int .i64)) [.nw]]⟩ }
noncomputable def qme (a0 : List qia) : Option (List Int) := bitloftref29_Lengths_I.call [(.sl T_api_Member false a0)] []
noncomputable def qGb (v0 : List qia) (v4 : Int) (h8 : List Int) : Option (List Int) := bitloftref29_Lengths_I.sem ⟨[.code (cIn (cIn (qca (qua (qca (qca (qja Tryz.prog 50))))))), .inLoop (cIn (cIn (qca (qua (qca (qca (qja Tryz.prog 50))))))), .inBlock 0, .code (qca (qca (qca (qja Tryz.prog 50))))], ⟨[(0, (.one (.sl T_api_Member false v0))), (3, (.one (.ref (.int .i64) 8 0 (List.length h8) true))), (4, (.one (.int .i64 v4)))], [(8, some (.row (.int .i64) true h8))], 9⟩⟩
theorem qTj (a0 : List qia) : qme a0 = (
qGb a0 (0 : Int) []) := (FnI.call_eq (by kernel_rfl)).trans (by kernel_rfl)
theorem qYd (v0 : List qia) (v4 : Int) (h8 : List Int) : qGb v0 v4 h8 = (
if (decide (v4 < (Int.ofNat (List.length v0)))) = true then
gd (0 ≤ v4) <|
gd (v4 < (Int.ofNat (List.length v0))) <|
gd ((List.length (h8 ++ [(Int.ofNat (List.length (List.getD v0 (Int.toNat v4) (qla T_api_Member)).2.1))])) * 8 ≤ 140737488355328) <|
qGb v0 (IntKind.wrap .i64 (v4 + (1 : Int))) (h8 ++ [(Int.ofNat (List.length (List.getD v0 (Int.toNat v4) (qla T_api_Member)).2.1))])
else
some (h8)) := (FnI.sem_eq _).trans (by kernel_rfl)
noncomputable def qmk (acc : List AV → Bool) : Summ Tryz.prog GT := bitloftref29_Lengths_I.summ mixed acc false false
noncomputable def bitloftref29_pieces_I : FnI Tryz.prog GT := { f := 49, cuts := [⟨(3, 3), [0, 1, 5, 6], false, false, []⟩, ⟨(6, 7), [0, 1, 5, 6, 7], false, false, []⟩], tab := [], fm := ⟨true, [.val (.slice qga) [.nw]]⟩ }
noncomputable def qRb (a0 : List Int) (a1 : Int) : Option (List qfa) := bitloftref29_pieces_I.call [(.sl (.int .i64) false a0), (.int .i64 a1)] []
noncomputable def qjb (v0 : List Int) (v1 : Int) (v6 : Int) (h8 : List qfa) : Option (List qfa) := bitloftref29_pieces_I.sem ⟨[.code (cIn (cIn (qca (qua (qca (qca (qja Tryz.prog 49))))))), .inLoop (cIn (cIn (qca (qua (qca (qca (qja Tryz.prog 49))))))), .inBlock 0, .code (qca (qca (qca (qja Tryz.prog 49))))], ⟨[(0, (.one (.sl (.int .i64) false v0))), (1, (.one (.int .i64 v1))), (5, (.one (.ref qga 8 0 (List.length h8) true))), (6, (.one (.int .i64 v6)))], [(8, some (.row qga true h8))], 9⟩⟩
noncomputable def qXb (v0 : List Int) (v1 : Int) (v6 : Int) (v7 : Int) (h8 : List qfa) : Option (List qfa) := bitloftref29_pieces_I.sem ⟨[.code (cIn (cIn (qca (cIn (qua (qca (cIn (cIn (qca (qua (qca (qca (qja Tryz.prog 49))))))))))))), .inLoop (cIn (cIn (qca (cIn (qua (qca (cIn (cIn (qca (qua (qca (qca (qja Tryz.prog 49))))))))))))), .inBlock 2, .inBlock 1, .code (qca (qca (cIn (cIn (qca (qua (qca (qca (qja Tryz.prog 49))))))))), .inLoop (cIn (cIn (qca (qua (qca (qca (qja Tryz.prog 49))))))), .inBlock 0, .code (qca (qca (qca (qja Tryz.prog 49))))], ⟨[(0, (.one (.sl (.int .i64) false v0))), (1, (.one (.int .i64 v1))), (5, (.one (.ref qga 8 0 (List.length h8) true))), (6, (.one (.int .i64 v6))), (7, (.one (.int .i64 v7)))], [(8, some (.row qga true h8))], 9⟩⟩
theorem qbg (a0 : List Int) (a1 : Int) : qRb a0 a1 = (
qjb a0 a1 (0 : Int) []) := (FnI.call_eq (by kernel_rfl)).trans (by kernel_rfl)
theorem qwe (v0 : List Int) (v1 : Int) (v6 : Int) (h8 : List qfa) : qjb v0 v1 v6 h8 = (
if (decide (v6 < (Int.ofNat (List.length v0)))) = true then
qXb v0 v1 v6 (0 : Int) h8
else
some (h8)) := (FnI.sem_eq _).trans (by kernel_rfl)
theorem qve (v0 : List Int) (v1 : Int) (v6 : Int) (v7 : Int) (h8 : List qfa) : qXb v0 v1 v6 v7 h8 = (
gd (0 ≤ v6) <|
gd (v6 < (Int.ofNat (List.length v0))) <|
if (decide (v7 < (List.getD v0 (Int.toNat v6) (0 : Int)))) = true then
gd (0 ≤ v6) <|
gd (v6 < (Int.ofNat (List.length v0))) <|
gd ((List.length (h8 ++ [(v6, (v7, ((if (IntKind.wrap .i64 ((List.getD v0 (Int.toNat v6) (0 : Int)) - v7)) < v1 then (IntKind.wrap .i64 ((List.getD v0 (Int.toNat v6) (0 : Int)) - v7)) else v1), ())))])) * 24 ≤ 140737488355328) <|
qXb v0 v1 v6 (IntKind.wrap .i64 (v7 + v1)) (h8 ++ [(v6, (v7, ((if (IntKind.wrap .i64 ((List.getD v0 (Int.toNat v6) (0 : Int)) - v7)) < v1 then (IntKind.wrap .i64 ((List.getD v0 (Int.toNat v6) (0 : Int)) - v7)) else v1), ())))])
else
qjb v0 v1 (IntKind.wrap .i64 (v6 + (1 : Int))) h8) := (FnI.sem_eq _).trans (by kernel_rfl)
noncomputable def qSg (acc : List AV → Bool) : Summ Tryz.prog GT := bitloftref29_pieces_I.summ mixed acc false false
noncomputable def bitloftref29_Cut_I : FnI Tryz.prog GT := { f := 26, cuts := [⟨(8, 3), [0, 6, 7, 8], false, false, []⟩], tab := [qKc (fun _ => true), qne (fun _ => true), qmk (fun _ => true), qSg (fun _ => true)], fm := ⟨true, [.val (.slice qya) [.nw], .val (.int .i64) []]⟩ }
noncomputable def qdh (a0 : List qia) (a1 : Int) : Option (List qra × Int) := bitloftref29_Cut_I.call [(.sl T_api_Member false a0), (.int .i64 a1)] []
noncomputable def qad (v0 : List qia) (v8 : Int) (h8 : List qfa) (h9 : List qra) : Option (List qra × Int) := bitloftref29_Cut_I.sem ⟨[.code (cIn (cIn (qca (qua (qca (qca (qca (qca (qca (qja Tryz.prog 26)))))))))), .inLoop (cIn (cIn (qca (qua (qca (qca (qca (qca (qca (qja Tryz.prog 26)))))))))), .inBlock 0, .code (qca (qca (qca (qca (qca (qca (qja Tryz.prog 26)))))))], ⟨[(0, (.one (.sl T_api_Member false v0))), (6, (.one (.ref qga 8 0 (List.length h8) true))), (7, (.one (.ref qya 9 0 (List.length h9) true))), (8, (.one (.int .i64 v8)))], [(8, some (.row qga true h8)), (9, some (.row qya true h9))], 10⟩⟩
theorem qvn (a0 : List qia) (a1 : Int) : qdh a0 a1 = (
(qGa a0).bind fun r1 =>
if (r1 != (0 : Int)) = true then
(qGa a0).bind fun r2 =>
some ([], r2)
else
(qsc a1).bind fun r3 =>
if (not r3) = true then
some ([], (2 : Int))
else
(qme a0).bind fun r4 =>
(qRb r4 a1).bind fun r5 =>
qad a0 (0 : Int) r5 []) := (FnI.call_eq (by kernel_rfl)).trans (by kernel_rfl)
theorem qcg (v0 : List qia) (v8 : Int) (h8 : List qfa) (h9 : List qra) : qad v0 v8 h8 h9 = (
if (decide (v8 < (Int.ofNat (List.length h8)))) = true then
gd (0 ≤ v8) <|
gd (v8 < (Int.ofNat (List.length h8))) <|
gd (0 ≤ v8) <|
gd (v8 < (Int.ofNat (List.length h8))) <|
gd (0 ≤ (List.getD h8 (0 + (Int.toNat v8)) (qla qga)).1) <|
gd ((List.getD h8 (0 + (Int.toNat v8)) (qla qga)).1 < (Int.ofNat (List.length v0))) <|
gd (0 ≤ v8) <|
gd (v8 < (Int.ofNat (List.length h8))) <|
gd (0 ≤ v8) <|
gd (v8 < (Int.ofNat (List.length h8))) <|
gd (0 ≤ v8) <|
gd (v8 < (Int.ofNat (List.length h8))) <|
gd (0 ≤ (List.getD h8 (0 + (Int.toNat v8)) (qla qga)).2.1) <|
gd ((List.getD h8 (0 + (Int.toNat v8)) (qla qga)).2.1 ≤ (IntKind.wrap .i64 ((List.getD h8 (0 + (Int.toNat v8)) (qla qga)).2.1 + (List.getD h8 (0 + (Int.toNat v8)) (qla qga)).2.2.1))) <|
gd ((IntKind.wrap .i64 ((List.getD h8 (0 + (Int.toNat v8)) (qla qga)).2.1 + (List.getD h8 (0 + (Int.toNat v8)) (qla qga)).2.2.1)) ≤ (Int.ofNat (List.length (List.getD v0 (Int.toNat (List.getD h8 (0 + (Int.toNat v8)) (qla qga)).1) (qla T_api_Member)).2.1))) <|
gd ((List.length ([] ++ (List.take ((Int.toNat (IntKind.wrap .i64 ((List.getD h8 (0 + (Int.toNat v8)) (qla qga)).2.1 + (List.getD h8 (0 + (Int.toNat v8)) (qla qga)).2.2.1))) - (Int.toNat (List.getD h8 (0 + (Int.toNat v8)) (qla qga)).2.1)) (List.drop (Int.toNat (List.getD h8 (0 + (Int.toNat v8)) (qla qga)).2.1) (List.getD v0 (Int.toNat (List.getD h8 (0 + (Int.toNat v8)) (qla qga)).1) (qla T_api_Member)).2.1)))) * 1 ≤ 140737488355328) <|
gd ((List.length (h9 ++ [((List.getD h8 (0 + (Int.toNat v8)) (qla qga)), (([] ++ (List.take ((Int.toNat (IntKind.wrap .i64 ((List.getD h8 (0 + (Int.toNat v8)) (qla qga)).2.1 + (List.getD h8 (0 + (Int.toNat v8)) (qla qga)).2.2.1))) - (Int.toNat (List.getD h8 (0 + (Int.toNat v8)) (qla qga)).2.1)) (List.drop (Int.toNat (List.getD h8 (0 + (Int.toNat v8)) (qla qga)).2.1) (List.getD v0 (Int.toNat (List.getD h8 (0 + (Int.toNat v8)) (qla qga)).1) (qla T_api_Member)).2.1))), ()))])) * 48 ≤ 140737488355328) <|
qad v0 (IntKind.wrap .i64 (v8 + (1 : Int))) h8 (h9 ++ [((List.getD h8 (0 + (Int.toNat v8)) (qla qga)), (([] ++ (List.take ((Int.toNat (IntKind.wrap .i64 ((List.getD h8 (0 + (Int.toNat v8)) (qla qga)).2.1 + (List.getD h8 (0 + (Int.toNat v8)) (qla qga)).2.2.1))) - (Int.toNat (List.getD h8 (0 + (Int.toNat v8)) (qla qga)).2.1)) (List.drop (Int.toNat (List.getD h8 (0 + (Int.toNat v8)) (qla qga)).2.1) (List.getD v0 (Int.toNat (List.getD h8 (0 + (Int.toNat v8)) (qla qga)).1) (qla T_api_Member)).2.1))), ()))])
else
some (h9, (0 : Int))) := (FnI.sem_eq _).trans (by kernel_rfl)
noncomputable def qKo (acc : List AV → Bool) : Summ Tryz.prog GT := bitloftref29_Cut_I.summ mixed acc false false
noncomputable def bitloftref26_two_I : FnI Tryz.prog GT := { f := 147, cuts := [], tab := [], fm := ⟨true, [.val (.slice (.int .u8)) [.nw]]⟩ }
noncomputable def qFe (a0 : Int) : Option (List Int) := bitloftref26_two_I.call [(.int .i64 a0)] []
theorem qAn (a0 : Int) : qFe a0 = (
gd (0 ≤ (8 : Int)) <|
some ([(IntKind.wrap .u8 (Int.fdiv a0 (256 : Int))), (IntKind.wrap .u8 a0)])) := (FnI.call_eq (by kernel_rfl)).trans (by kernel_rfl)
noncomputable def qNo (acc : List AV → Bool) : Summ Tryz.prog GT := bitloftref26_two_I.summ mixed acc false false
noncomputable def bitloftref26_Front_I : FnI Tryz.prog GT := { f := 94, cuts := [], tab := [qNo (fun _ => true)], fm := ⟨true, [.val (.slice (.int .u8)) [.nw]]⟩ }
noncomputable def qqd (a0 : qda) : Option (List Int) := bitloftref26_Front_I.call [(.agg qma (inj false qma a0))] []
theorem qol (a0 : qda) : qqd a0 = (
(qFe a0.2.2.1).bind fun r1 =>
gd ((List.length ([a0.1, (IntKind.wrap .u8 a0.2.1)] ++ r1)) * 1 ≤ 140737488355328) <|
(qFe a0.2.2.2.1).bind fun r2 =>
gd ((List.length (([a0.1, (IntKind.wrap .u8 a0.2.1)] ++ r1) ++ r2)) * 1 ≤ 140737488355328) <|
(qFe a0.2.2.2.2.1).bind fun r3 =>
gd ((List.length ((([a0.1, (IntKind.wrap .u8 a0.2.1)] ++ r1) ++ r2) ++ r3)) * 1 ≤ 140737488355328) <|
some ((([a0.1, (IntKind.wrap .u8 a0.2.1)] ++ r1) ++ r2) ++ r3)) := (FnI.call_eq (by kernel_rfl)).trans (by kernel_rfl)
noncomputable def qnh (acc : List AV → Bool) : Summ Tryz.prog GT := bitloftref26_Front_I.summ mixed acc false false
noncomputable def bitloftref26_Of_I : FnI Tryz.prog GT := { f := 51, cuts := [], tab := [qnh (fun _ => true), qUc (fun _ => true)], fm := ⟨true, [.val (.arr 20 (.int .u8)) []]⟩ }
noncomputable def qJd (a0 : qda) (a1 : List Int) : Option ((List Int)) := bitloftref26_Of_I.call [(.agg qma (inj false qma a0)), (.sl (.int .u8) false a1)] []
theorem qOo (a0 : qda) (a1 : List Int) : qJd a0 a1 = (
(qqd a0).bind fun r1 =>
gd ((List.length (r1 ++ a1)) * 1 ≤ 140737488355328) <|
(qub (r1 ++ a1)).bind fun r2 =>
some (r2)) := (FnI.call_eq (by kernel_rfl)).trans (by kernel_rfl)
noncomputable def qpj (acc : List AV → Bool) : Summ Tryz.prog GT := bitloftref26_Of_I.summ mixed acc false false
noncomputable def bitloftref27_Made_I : FnI Tryz.prog GT := { f := 27, cuts := [], tab := [qpj (fun _ => true)], fm := ⟨true, [.val qwa []]⟩ }
noncomputable def qUd (a0 : Int) (a1 : Int) (a2 : List Int) (a3 : List Int) : Option (qoa) := bitloftref27_Made_I.call [(.int .i64 a0), (.int .i64 a1), (.sl (.int .u8) false a2), (.sl (.int .u8) false a3)] []
theorem qhm (a0 : Int) (a1 : Int) (a2 : List Int) (a3 : List Int) : qUd a0 a1 a2 a3 = (
gd ((List.length ([] ++ a2)) * 1 ≤ 140737488355328) <|
if (decide ((Int.ofNat (List.length a3)) < (Int.ofNat (List.length a2)))) = true then
gd ((List.length ([] ++ a3)) * 1 ≤ 140737488355328) <|
(qJd ((2 : Int), (a0, (a1, ((Int.ofNat (List.length a2)), ((Int.ofNat (List.length a3)), ((List.replicate 20 (0 : Int)), ())))))) a2).bind fun r1 =>
some (((2 : Int), (a0, (a1, ((Int.ofNat (List.length a2)), ((Int.ofNat (List.length a3)), (r1, ())))))), (([] ++ a3), ()))
else
(qJd ((1 : Int), (a0, (a1, ((Int.ofNat (List.length a2)), ((Int.ofNat (List.length a2)), ((List.replicate 20 (0 : Int)), ())))))) a2).bind fun r2 =>
some (((1 : Int), (a0, (a1, ((Int.ofNat (List.length a2)), ((Int.ofNat (List.length a2)), (r2, ())))))), (([] ++ a2), ()))) := (FnI.call_eq (by kernel_rfl)).trans (by kernel_rfl)
noncomputable def qzn (acc : List AV → Bool) : Summ Tryz.prog GT := bitloftref27_Made_I.summ mixed acc false false
noncomputable def bitloftref30_Front_I : FnI Tryz.prog GT := { f := 53, cuts := [], tab := [], fm := ⟨true, [.val (.slice (.int .u8)) [.nw]]⟩ }
noncomputable def qri (a0 : qna) (a1 : Int) : Option (List Int) := bitloftref30_Front_I.call [(.agg qqa (inj false qqa a0)), (.int .i64 a1)] []
theorem qal (a0 : qna) (a1 : Int) : qri a0 a1 = (
gd (0 ≤ (8 : Int)) <|
some ([(66 : Int), (76 : Int), (70 : Int), (1 : Int), (IntKind.wrap .u8 a0.1), (IntKind.wrap .u8 (Int.fdiv a0.2.1 (256 : Int))), (IntKind.wrap .u8 a0.2.1), (IntKind.wrap .u8 a1)])) := (FnI.call_eq (by kernel_rfl)).trans (by kernel_rfl)
noncomputable def qWl (acc : List AV → Bool) : Summ Tryz.prog GT := bitloftref30_Front_I.summ mixed acc false false
noncomputable def bitloftref28_Bytes_I : FnI Tryz.prog GT := { f := 54, cuts := [⟨(3, 3), [0, 3, 4], false, false, []⟩], tab := [], fm := ⟨true, [.val (.slice (.int .u8)) [.nw]]⟩ }
noncomputable def qQf (a0 : List qaa) : Option (List Int) := bitloftref28_Bytes_I.call [(.sl qba false a0)] []
noncomputable def qxc (v0 : List qaa) (v4 : Int) (h8 : List Int) : Option (List Int) := bitloftref28_Bytes_I.sem ⟨[.code (cIn (cIn (qca (qua (qca (qca (qja Tryz.prog 54))))))), .inLoop (cIn (cIn (qca (qua (qca (qca (qja Tryz.prog 54))))))), .inBlock 0, .code (qca (qca (qca (qja Tryz.prog 54))))], ⟨[(0, (.one (.sl qba false v0))), (3, (.one (.ref (.int .u8) 8 0 (List.length h8) true))), (4, (.one (.int .i64 v4)))], [(8, some (.row (.int .u8) true h8))], 9⟩⟩
theorem qjl (a0 : List qaa) : qQf a0 = (
qxc a0 (0 : Int) []) := (FnI.call_eq (by kernel_rfl)).trans (by kernel_rfl)
theorem qkf (v0 : List qaa) (v4 : Int) (h8 : List Int) : qxc v0 v4 h8 = (
if (decide (v4 < (Int.ofNat (List.length v0)))) = true then
gd (0 ≤ v4) <|
gd (v4 < (Int.ofNat (List.length v0))) <|
gd ((List.length (h8 ++ [(IntKind.wrap .u8 (Int.ofNat (ByteArray.size (List.getD v0 (Int.toNat v4) (qla qba)).1)))])) * 1 ≤ 140737488355328) <|
gd ((List.length ((h8 ++ [(IntKind.wrap .u8 (Int.ofNat (ByteArray.size (List.getD v0 (Int.toNat v4) (qla qba)).1)))]) ++ (qob (List.getD v0 (Int.toNat v4) (qla qba)).1))) * 1 ≤ 140737488355328) <|
gd (0 ≤ (8 : Int)) <|
gd ((List.length (((h8 ++ [(IntKind.wrap .u8 (Int.ofNat (ByteArray.size (List.getD v0 (Int.toNat v4) (qla qba)).1)))]) ++ (qob (List.getD v0 (Int.toNat v4) (qla qba)).1)) ++ [(IntKind.wrap .u8 (Int.fdiv (List.getD v0 (Int.toNat v4) (qla qba)).2.1 (256 : Int))), (IntKind.wrap .u8 (List.getD v0 (Int.toNat v4) (qla qba)).2.1)])) * 1 ≤ 140737488355328) <|
gd ((List.length ((((h8 ++ [(IntKind.wrap .u8 (Int.ofNat (ByteArray.size (List.getD v0 (Int.toNat v4) (qla qba)).1)))]) ++ (qob (List.getD v0 (Int.toNat v4) (qla qba)).1)) ++ [(IntKind.wrap .u8 (Int.fdiv (List.getD v0 (Int.toNat v4) (qla qba)).2.1 (256 : Int))), (IntKind.wrap .u8 (List.getD v0 (Int.toNat v4) (qla qba)).2.1)]) ++ (List.take 20 (List.drop 0 (List.getD v0 (Int.toNat v4) (qla qba)).2.2.1)))) * 1 ≤ 140737488355328) <|
qxc v0 (IntKind.wrap .i64 (v4 + (1 : Int))) ((((h8 ++ [(IntKind.wrap .u8 (Int.ofNat (ByteArray.size (List.getD v0 (Int.toNat v4) (qla qba)).1)))]) ++ (qob (List.getD v0 (Int.toNat v4) (qla qba)).1)) ++ [(IntKind.wrap .u8 (Int.fdiv (List.getD v0 (Int.toNat v4) (qla qba)).2.1 (256 : Int))), (IntKind.wrap .u8 (List.getD v0 (Int.toNat v4) (qla qba)).2.1)]) ++ (List.take 20 (List.drop 0 (List.getD v0 (Int.toNat v4) (qla qba)).2.2.1)))
else
some (h8)) := (FnI.sem_eq _).trans (by kernel_rfl)
noncomputable def qfm (acc : List AV → Bool) : Summ Tryz.prog GT := bitloftref28_Bytes_I.summ mixed acc false false
noncomputable def bitloftref30_Bytes_I : FnI Tryz.prog GT := { f := 29, cuts := [], tab := [qWl (fun _ => true), qfm (fun _ => true), qUc (fun _ => true)], fm := ⟨true, [.val (.slice (.int .u8)) [.nw]]⟩ }
noncomputable def qKf (a0 : qna) (a1 : List qaa) : Option (List Int) := bitloftref30_Bytes_I.call [(.agg qqa (inj false qqa a0)), (.sl qba false a1)] []
theorem qcl (a0 : qna) (a1 : List qaa) : qKf a0 a1 = (
(qri a0 (Int.ofNat (List.length a1))).bind fun r1 =>
(qQf a1).bind fun r2 =>
gd ((List.length (r1 ++ r2)) * 1 ≤ 140737488355328) <|
(qub (r1 ++ r2)).bind fun r3 =>
gd ((List.length ((r1 ++ r2) ++ (List.take 20 (List.drop 0 r3)))) * 1 ≤ 140737488355328) <|
some ((r1 ++ r2) ++ (List.take 20 (List.drop 0 r3)))) := (FnI.call_eq (by kernel_rfl)).trans (by kernel_rfl)
noncomputable def qYl (acc : List AV → Bool) : Summ Tryz.prog GT := bitloftref30_Bytes_I.summ mixed acc false false
noncomputable def bitloftref25_Bytes_I : FnI Tryz.prog GT := { f := 67, cuts := [], tab := [], fm := ⟨true, [.val (.slice (.int .u8)) [.nw]]⟩ }
noncomputable def qsd : Option (List Int) := bitloftref25_Bytes_I.call [] []
theorem qrl : qsd = (
some ([(183 : Int), (98 : Int), (105 : Int), (116 : Int), (108 : Int), (111 : Int), (102 : Int), (116 : Int), (32 : Int), (98 : Int), (108 : Int), (107 : Int), (10 : Int)])) := (FnI.call_eq (by kernel_rfl)).trans (by kernel_rfl)
noncomputable def qph (acc : List AV → Bool) : Summ Tryz.prog GT := bitloftref25_Bytes_I.summ mixed acc false false
noncomputable def bitloftref26_Bytes_I : FnI Tryz.prog GT := { f := 95, cuts := [], tab := [qnh (fun _ => true)], fm := ⟨true, [.val (.slice (.int .u8)) [.nw]]⟩ }
noncomputable def qUf (a0 : qda) : Option (List Int) := bitloftref26_Bytes_I.call [(.agg qma (inj false qma a0))] []
theorem qql (a0 : qda) : qUf a0 = (
(qqd a0).bind fun r1 =>
gd ((List.length (r1 ++ (List.take 20 (List.drop 0 a0.2.2.2.2.2.1)))) * 1 ≤ 140737488355328) <|
some (r1 ++ (List.take 20 (List.drop 0 a0.2.2.2.2.2.1)))) := (FnI.call_eq (by kernel_rfl)).trans (by kernel_rfl)
noncomputable def qmm (acc : List AV → Bool) : Summ Tryz.prog GT := bitloftref26_Bytes_I.summ mixed acc false false
noncomputable def bitloftref27_Bytes_I : FnI Tryz.prog GT := { f := 52, cuts := [], tab := [qph (fun _ => true), qmm (fun _ => true)], fm := ⟨true, [.val (.slice (.int .u8)) [.nw]]⟩ }
noncomputable def qSf (a0 : qoa) : Option (List Int) := bitloftref27_Bytes_I.call [(.agg qwa (inj false qwa a0))] []
theorem qml (a0 : qoa) : qSf a0 = (
(qsd).bind fun r1 =>
(qUf a0.1).bind fun r2 =>
gd ((List.length (r1 ++ r2)) * 1 ≤ 140737488355328) <|
gd ((List.length ((r1 ++ r2) ++ a0.2.1)) * 1 ≤ 140737488355328) <|
some ((r1 ++ r2) ++ a0.2.1)) := (FnI.call_eq (by kernel_rfl)).trans (by kernel_rfl)
noncomputable def qkm (acc : List AV → Bool) : Summ Tryz.prog GT := bitloftref27_Bytes_I.summ mixed acc false false
noncomputable def bitloftref30_Join_I : FnI Tryz.prog GT := { f := 28, cuts := [⟨(3, 3), [1, 5, 6], false, false, []⟩], tab := [qkm (fun _ => true)], fm := ⟨true, [.val (.slice (.int .u8)) [.nw]]⟩ }
noncomputable def qog (a0 : List Int) (a1 : List qoa) : Option (List Int) := bitloftref30_Join_I.call [(.sl (.int .u8) false a0), (.sl qwa false a1)] []
noncomputable def qHc (v1 : List qoa) (v6 : Int) (h8 : List Int) : Option (List Int) := bitloftref30_Join_I.sem ⟨[.code (cIn (cIn (qca (qua (qca (qca (qja Tryz.prog 28))))))), .inLoop (cIn (cIn (qca (qua (qca (qca (qja Tryz.prog 28))))))), .inBlock 0, .code (qca (qca (qca (qja Tryz.prog 28))))], ⟨[(1, (.one (.sl qwa false v1))), (5, (.one (.ref (.int .u8) 8 0 (List.length h8) true))), (6, (.one (.int .i64 v6)))], [(8, some (.row (.int .u8) true h8))], 9⟩⟩
theorem qVl (a0 : List Int) (a1 : List qoa) : qog a0 a1 = (
gd ((List.length ([] ++ a0)) * 1 ≤ 140737488355328) <|
qHc a1 (0 : Int) ([] ++ a0)) := (FnI.call_eq (by kernel_rfl)).trans (by kernel_rfl)
theorem qIf (v1 : List qoa) (v6 : Int) (h8 : List Int) : qHc v1 v6 h8 = (
if (decide (v6 < (Int.ofNat (List.length v1)))) = true then
gd (0 ≤ v6) <|
gd (v6 < (Int.ofNat (List.length v1))) <|
(qSf (List.getD v1 (Int.toNat v6) (qla qwa))).bind fun r1 =>
gd ((List.length (h8 ++ r1)) * 1 ≤ 140737488355328) <|
qHc v1 (IntKind.wrap .i64 (v6 + (1 : Int))) (h8 ++ r1)
else
some (h8)) := (FnI.sem_eq _).trans (by kernel_rfl)
noncomputable def qtn (acc : List AV → Bool) : Summ Tryz.prog GT := bitloftref30_Join_I.summ mixed acc false false
noncomputable def bitloftlaw35_stored_I : FnI Tryz.prog GT := { f := 9, cuts := [⟨(5, 3), [3, 5, 7, 8], false, false, []⟩], tab := [qIp (fun _ => true), qKo (fun _ => true), qzn (fun _ => true), qYl (fun _ => true), qtn (fun _ => true)], fm := ⟨true, [.val (.slice (.int .u8)) [.nw]]⟩ }
noncomputable def qPe (a0 : List qia) : Option (List Int) := bitloftlaw35_stored_I.call [(.sl T_api_Member false a0)] []
noncomputable def qYb (v8 : Int) (h8 : List qaa) (h9 : List qra) (h10 : List qoa) : Option (List Int) := bitloftlaw35_stored_I.sem ⟨[.code (cIn (cIn (qca (qua (qca (qca (qca (qca (qja Tryz.prog 9))))))))), .inLoop (cIn (cIn (qca (qua (qca (qca (qca (qca (qja Tryz.prog 9))))))))), .inBlock 0, .code (qca (qca (qca (qca (qca (qja Tryz.prog 9))))))], ⟨[(3, (.one (.ref qba 8 0 (List.length h8) true))), (5, (.one (.ref qya 9 0 (List.length h9) true))), (7, (.one (.ref qwa 10 0 (List.length h10) true))), (8, (.one (.int .i64 v8)))], [(8, some (.row qba true h8)), (9, some (.row qya true h9)), (10, some (.row qwa true h10))], 11⟩⟩
theorem qqk (a0 : List qia) : qPe a0 = (
(qRh a0).bind fun r1 =>
(qdh a0 (16 : Int)).bind fun r2 =>
qYb (0 : Int) r1.1 r2.1 []) := (FnI.call_eq (by kernel_rfl)).trans (by kernel_rfl)
theorem qye (v8 : Int) (h8 : List qaa) (h9 : List qra) (h10 : List qoa) : qYb v8 h8 h9 h10 = (
if (decide (v8 < (Int.ofNat (List.length h9)))) = true then
gd (0 ≤ v8) <|
gd (v8 < (Int.ofNat (List.length h9))) <|
gd (0 ≤ v8) <|
gd (v8 < (Int.ofNat (List.length h9))) <|
gd (0 ≤ v8) <|
gd (v8 < (Int.ofNat (List.length h9))) <|
gd (0 ≤ v8) <|
gd (v8 < (Int.ofNat (List.length h9))) <|
(qUd (List.getD h9 (0 + (Int.toNat v8)) (qla qya)).1.1 (List.getD h9 (0 + (Int.toNat v8)) (qla qya)).1.2.1 (List.getD h9 (0 + (Int.toNat v8)) (qla qya)).2.1 (List.getD h9 (0 + (Int.toNat v8)) (qla qya)).2.1).bind fun r3 =>
gd ((List.length (h10 ++ [r3])) * 88 ≤ 140737488355328) <|
qYb (IntKind.wrap .i64 (v8 + (1 : Int))) h8 h9 (h10 ++ [r3])
else
(qKf ((0 : Int), ((16 : Int), ())) h8).bind fun r4 =>
(qog r4 h10).bind fun r5 =>
some (r5)) := (FnI.sem_eq _).trans (by kernel_rfl)
noncomputable def qtl (acc : List AV → Bool) : Summ Tryz.prog GT := bitloftlaw35_stored_I.summ mixed acc false false
noncomputable def bytes_Equal_I : FnI Tryz.prog GT := { f := 83, cuts := [], tab := [], fm := ⟨true, [.val .bool []]⟩ }
noncomputable def qzs (a0 : List Int) (a1 : List Int) : Option (Bool) := bytes_Equal_I.call [(.sl (.int .u8) false a0), (.sl (.int .u8) false a1)] []
theorem qLm (a0 : List Int) (a1 : List Int) : qzs a0 a1 = (
some ((ByteArray.toList (qEg a0)) == (ByteArray.toList (qEg a1)))) := (FnI.call_eq (by kernel_rfl)).trans (by kernel_rfl)
noncomputable def qNu (acc : List AV → Bool) : Summ Tryz.prog GT := bytes_Equal_I.summ mixed acc false false
noncomputable def bytes_HasPrefix_I : FnI Tryz.prog GT := { f := 125, cuts := [], tab := [qNu (fun _ => true)], fm := ⟨true, [.val .bool []]⟩ }
noncomputable def qGd (a0 : List Int) (a1 : List Int) : Option (Bool) := bytes_HasPrefix_I.call [(.sl (.int .u8) false a0), (.sl (.int .u8) false a1)] []
theorem qqi (a0 : List Int) (a1 : List Int) : qGd a0 a1 = (
if (decide ((Int.ofNat (List.length a0)) ≥ (Int.ofNat (List.length a1)))) = true then
gd (0 ≤ (Int.ofNat (List.length a1))) <|
gd ((Int.ofNat (List.length a1)) ≤ (Int.ofNat (List.length a0))) <|
(qzs (List.take (List.length a1) a0) a1).bind fun r1 =>
some (r1)
else
some (false)) := (FnI.call_eq (by kernel_rfl)).trans (by kernel_rfl)
noncomputable def qkj (acc : List AV → Bool) : Summ Tryz.prog GT := bytes_HasPrefix_I.summ mixed acc false false
noncomputable def pack_Check_I : FnI Tryz.prog GT := { f := 105, cuts := [], tab := [], fm := ⟨true, [.val (.int .i64) []]⟩ }
noncomputable def qSi (a0 : qna) : Option (Int) := pack_Check_I.call [(.agg qqa (inj false qqa a0))] []
theorem qiu (a0 : qna) : qSi a0 = (
if (decide (a0.1 < (0 : Int))) = true then
some (2 : Int)
else
if (decide (a0.1 > (7 : Int))) = true then
some (2 : Int)
else
if (decide (a0.2.1 < (16 : Int))) = true then
some (2 : Int)
else
if (decide (a0.2.1 > (4096 : Int))) = true then
some (2 : Int)
else
some (0 : Int)) := (FnI.call_eq (by kernel_rfl)).trans (by kernel_rfl)
noncomputable def qEk (acc : List AV → Bool) : Summ Tryz.prog GT := pack_Check_I.summ mixed acc false false
noncomputable def member_source_take_I : FnI Tryz.prog GT := { f := 264, cuts := [], tab := [], fm := ⟨false, [.val (.slice (.int .u8)) [.pu], .err 31 .i64, .box 0 qRa [.pu]]⟩ }
noncomputable def qwb (a1 : Int) (b0 : qvb) : Option (List Int × Option Int × qvb) := member_source_take_I.call [(.ptr qyl 0 [.fst]), (.int .i64 a1)] [(0, (.box qRa (inj false qRa b0)))]
theorem qHk (a1 : Int) (b0 : qvb) : qwb a1 b0 = (
if (decide ((IntKind.wrap .i64 ((Int.ofNat (List.length b0.1.1)) - b0.1.2.1)) < a1)) = true then
some ([], ((some (18 : Int)), b0))
else
gd (0 ≤ (IntKind.wrap .i64 ((IntKind.wrap .i64 (b0.1.2.1 + a1)) - a1))) <|
gd ((IntKind.wrap .i64 ((IntKind.wrap .i64 (b0.1.2.1 + a1)) - a1)) ≤ (IntKind.wrap .i64 (b0.1.2.1 + a1))) <|
gd ((IntKind.wrap .i64 (b0.1.2.1 + a1)) ≤ (Int.ofNat (List.length b0.1.1))) <|
some ((List.take ((Int.toNat (IntKind.wrap .i64 (b0.1.2.1 + a1))) - (Int.toNat (IntKind.wrap .i64 ((IntKind.wrap .i64 (b0.1.2.1 + a1)) - a1)))) (List.drop (Int.toNat (IntKind.wrap .i64 ((IntKind.wrap .i64 (b0.1.2.1 + a1)) - a1))) b0.1.1)), (none, ((b0.1.1, ((IntKind.wrap .i64 (b0.1.2.1 + a1)), b0.1.2.2)), b0.2)))) := (FnI.call_eq (by kernel_rfl)).trans (by kernel_rfl)
noncomputable def qOl (acc : List AV → Bool) : Summ Tryz.prog GT := member_source_take_I.summ mixed acc false false
noncomputable def member_reader_record_I : FnI Tryz.prog GT := { f := 206, cuts := [], tab := [(qOl (fun _ => true)).dropping], fm := ⟨false, [.val qba [], .err 31 .i64, .box 0 qRa [.pu]]⟩ }
noncomputable def qGc (b0 : qvb) : Option (qaa × Option Int × qvb) := member_reader_record_I.call [(.ptr qRa 0 [])] [(0, (.box qRa (inj false qRa b0)))]
theorem qwf (b0 : qvb) : qGc b0 = (
(qwb (1 : Int) b0).bind fun r1 =>
if (not (Option.isNone r1.2.1)) = true then
some ((ByteArray.empty, ((0 : Int), ((List.replicate 20 (0 : Int)), ()))), r1.2)
else
gd (0 ≤ (0 : Int)) <|
gd ((0 : Int) < (Int.ofNat (List.length r1.1))) <|
(qwb (IntKind.wrap .i64 ((IntKind.wrap .i64 (List.getD r1.1 0 (0 : Int))) + (22 : Int))) r1.2.2).bind fun r2 =>
if (not (Option.isNone r2.2.1)) = true then
some ((ByteArray.empty, ((0 : Int), ((List.replicate 20 (0 : Int)), ()))), r2.2)
else
gd (0 ≤ (0 : Int)) <|
gd ((0 : Int) < (Int.ofNat (List.length r1.1))) <|
gd (0 ≤ (IntKind.wrap .i64 (List.getD r1.1 0 (0 : Int)))) <|
gd ((IntKind.wrap .i64 (List.getD r1.1 0 (0 : Int))) ≤ (Int.ofNat (List.length r2.1))) <|
gd (0 ≤ (IntKind.wrap .i64 (List.getD r1.1 0 (0 : Int)))) <|
gd ((IntKind.wrap .i64 (List.getD r1.1 0 (0 : Int))) < (Int.ofNat (List.length r2.1))) <|
gd (0 ≤ (8 : Int)) <|
gd (0 ≤ (IntKind.wrap .i64 ((IntKind.wrap .i64 (List.getD r1.1 0 (0 : Int))) + (1 : Int)))) <|
gd ((IntKind.wrap .i64 ((IntKind.wrap .i64 (List.getD r1.1 0 (0 : Int))) + (1 : Int))) < (Int.ofNat (List.length r2.1))) <|
gd (0 ≤ (IntKind.wrap .i64 ((IntKind.wrap .i64 (List.getD r1.1 0 (0 : Int))) + (2 : Int)))) <|
gd ((IntKind.wrap .i64 ((IntKind.wrap .i64 (List.getD r1.1 0 (0 : Int))) + (2 : Int))) ≤ (Int.ofNat (List.length r2.1))) <|
some (((qEg (List.take (Int.toNat (IntKind.wrap .i64 (List.getD r1.1 0 (0 : Int)))) r2.1)), ((qFc .i64 (IntKind.wrap .i64 ((IntKind.wrap .i64 (List.getD r2.1 (Int.toNat (IntKind.wrap .i64 (List.getD r1.1 0 (0 : Int)))) (0 : Int))) * (256 : Int))) (IntKind.wrap .i64 (List.getD r2.1 (Int.toNat (IntKind.wrap .i64 ((IntKind.wrap .i64 (List.getD r1.1 0 (0 : Int))) + (1 : Int)))) (0 : Int)))), ((qkd (List.replicate 20 (0 : Int)) 0 (List.take (min (List.length (List.drop (Int.toNat (IntKind.wrap .i64 ((IntKind.wrap .i64 (List.getD r1.1 0 (0 : Int))) + (2 : Int)))) r2.1)) 20) (List.drop (Int.toNat (IntKind.wrap .i64 ((IntKind.wrap .i64 (List.getD r1.1 0 (0 : Int))) + (2 : Int)))) r2.1))), ()))), (none, r2.2.2))) := (FnI.call_eq (by kernel_rfl)).trans (by kernel_rfl)
noncomputable def qhk (acc : List AV → Bool) : Summ Tryz.prog GT := member_reader_record_I.summ mixed acc false false
noncomputable def member_isName_I : FnI Tryz.prog GT := { f := 153, cuts := [⟨(2, 3), [0, 5, 6], false, false, []⟩], tab := [], fm := ⟨true, [.val .bool []]⟩ }
noncomputable def qEj (a0 : ByteArray) : Option (Bool) := member_isName_I.call [(.str a0)] []
noncomputable def qAe (v0 : ByteArray) (v5 : Int) (v6 : Int) : Option (Bool) := member_isName_I.sem ⟨[.code (cIn (cIn (qca (qua (qca (qja Tryz.prog 153)))))), .inLoop (cIn (cIn (qca (qua (qca (qja Tryz.prog 153)))))), .inBlock 0, .code (qca (qca (qja Tryz.prog 153)))], ⟨[(0, (.one (.str v0))), (5, (.one (.int .i64 v5))), (6, (.one (.int .i64 v6)))], [], 8⟩⟩
theorem quq (a0 : ByteArray) : qEj a0 = (
qAe a0 (Int.ofNat (ByteArray.size a0)) (0 : Int)) := (FnI.call_eq (by kernel_rfl)).trans (by kernel_rfl)
theorem qGh (v0 : ByteArray) (v5 : Int) (v6 : Int) : qAe v0 v5 v6 = (
if (decide (v6 < v5)) = true then
gd (0 ≤ v6) <|
gd (v6 < (v0.size : Int)) <|
if (decide ((qaD v0 (Int.toNat v6)) ≤ (32 : Int))) = true then
some (false)
else
gd (0 ≤ v6) <|
gd (v6 < (v0.size : Int)) <|
if (decide ((qaD v0 (Int.toNat v6)) > (126 : Int))) = true then
some (false)
else
qAe v0 v5 (IntKind.wrap .i64 (v6 + (1 : Int)))
else
if (decide ((Int.ofNat (ByteArray.size v0)) > (0 : Int))) = true then
some (decide ((Int.ofNat (ByteArray.size v0)) ≤ (40 : Int)))
else
some (false)) := (FnI.sem_eq _).trans (by kernel_rfl)
noncomputable def qNr (acc : List AV → Bool) : Summ Tryz.prog GT := member_isName_I.summ mixed acc false false
noncomputable def sha_pad_I : FnI Tryz.prog GT := { f := 143, cuts := [⟨(3, 3), [0, 3, 4], false, false, []⟩], tab := [], fm := ⟨true, [.val (.slice (.int .u8)) [.nw]]⟩ }
noncomputable def qMw (a0 : Int) : Option (List Int) := sha_pad_I.call [(.int .i64 a0)] []
noncomputable def qAl (v0 : Int) (v4 : Int) (h8 : List Int) : Option (List Int) := sha_pad_I.sem ⟨[.code (cIn (cIn (qca (qua (qca (qca (qja Tryz.prog 143))))))), .inLoop (cIn (cIn (qca (qua (qca (qca (qja Tryz.prog 143))))))), .inBlock 0, .code (qca (qca (qca (qja Tryz.prog 143))))], ⟨[(0, (.one (.int .i64 v0))), (3, (.one (.ref (.int .u8) 8 0 (List.length h8) true))), (4, (.one (.int .i64 v4)))], [(8, some (.row (.int .u8) true h8))], 9⟩⟩
theorem qrz (a0 : Int) : qMw a0 = (
gd ((64 : Int) ≠ 0) <|
gd ((64 : Int) ≠ 0) <|
gd (0 ≤ (Int.tmod (IntKind.wrap .i64 ((119 : Int) - (Int.tmod a0 (64 : Int)))) (64 : Int))) <|
gd ((Int.tmod (IntKind.wrap .i64 ((119 : Int) - (Int.tmod a0 (64 : Int)))) (64 : Int)) * 1 ≤ 140737488355328) <|
gd ((Int.tmod (IntKind.wrap .i64 ((119 : Int) - (Int.tmod a0 (64 : Int)))) (64 : Int)) ≤ 9223372036854775807) <|
gd ((List.length ([(128 : Int)] ++ (List.replicate (Int.toNat (Int.tmod (IntKind.wrap .i64 ((119 : Int) - (Int.tmod a0 (64 : Int)))) (64 : Int))) (0 : Int)))) * 1 ≤ 140737488355328) <|
qAl a0 (56 : Int) ([(128 : Int)] ++ (List.replicate (Int.toNat (Int.tmod (IntKind.wrap .i64 ((119 : Int) - (Int.tmod a0 (64 : Int)))) (64 : Int))) (0 : Int)))) := (FnI.call_eq (by kernel_rfl)).trans (by kernel_rfl)
theorem qOn (v0 : Int) (v4 : Int) (h8 : List Int) : qAl v0 v4 h8 = (
if (decide (v4 ≥ (0 : Int))) = true then
gd (0 ≤ v4) <|
gd ((List.length (h8 ++ [(IntKind.wrap .u8 (qQi .u64 (IntKind.wrap .u64 ((IntKind.wrap .u64 v0) * (8 : Int))) v4))])) * 1 ≤ 140737488355328) <|
qAl v0 (IntKind.wrap .i64 (v4 - (8 : Int))) (h8 ++ [(IntKind.wrap .u8 (qQi .u64 (IntKind.wrap .u64 ((IntKind.wrap .u64 v0) * (8 : Int))) v4))])
else
some (h8)) := (FnI.sem_eq _).trans (by kernel_rfl)
noncomputable def qIA (acc : List AV → Bool) : Summ Tryz.prog GT := sha_pad_I.summ mixed acc false false
noncomputable def slices_Grow_byte_byte_I : FnI Tryz.prog GT := { f := 201, cuts := [], tab := [], fm := ⟨true, [.part (.int .u8)]⟩ }
noncomputable def qzd (a1 : Int) : Option (List Int × Nat × Nat) := slices_Grow_byte_byte_I.call [.nil, (.int .i64 a1)] []
theorem qOi (a1 : Int) : qzd a1 = (
if (decide (a1 < (0 : Int))) = true then
none
else
if (decide ((IntKind.wrap .i64 (a1 - (0 : Int))) > (0 : Int))) = true then
gd (0 ≤ (0 : Int)) <|
gd ((0 : Int) ≤ (0 : Int)) <|
gd (0 ≤ (IntKind.wrap .i64 (a1 - (0 : Int)))) <|
gd ((IntKind.wrap .i64 (a1 - (0 : Int))) * 1 ≤ 140737488355328) <|
gd ((IntKind.wrap .i64 (a1 - (0 : Int))) ≤ 9223372036854775807) <|
gd ((List.length (List.replicate (Int.toNat (IntKind.wrap .i64 (a1 - (0 : Int)))) (0 : Int))) * 1 ≤ 140737488355328) <|
gd (0 ≤ (0 : Int)) <|
gd ((0 : Int) ≤ (Int.ofNat (List.length (List.replicate (Int.toNat (IntKind.wrap .i64 (a1 - (0 : Int)))) (0 : Int))))) <|
some ((List.replicate (Int.toNat (IntKind.wrap .i64 (a1 - (0 : Int)))) (0 : Int)), (0, 0))
else
some ([], (0, 0))) := (FnI.call_eq (by kernel_rfl)).trans (by kernel_rfl)
noncomputable def qwj (acc : List AV → Bool) : Summ Tryz.prog GT := slices_Grow_byte_byte_I.summ mixed acc false true
noncomputable def slices_Concat_byte_byte_I : FnI Tryz.prog GT := { f := 142, cuts := [⟨(3, 3), [0, 3, 9, 10, 11], false, false, []⟩, ⟨(11, 3), [6, 25, 26, 27], false, false, []⟩], tab := [qwj (fun _ => true)], fm := ⟨true, [.val (.slice (.int .u8)) [.pu]]⟩ }
noncomputable def qXc (a0 : List (List Int)) : Option (List Int) := slices_Concat_byte_byte_I.call [(.sl (.slice (.int .u8)) false a0)] []
noncomputable def qec (v0 : List (List Int)) (v3 : Int) (v9 : List (List Int)) (v10 : Int) (v11 : Int) : Option (List Int) := slices_Concat_byte_byte_I.sem ⟨[.code (cIn (cIn (qca (qua (qca (qca (qja Tryz.prog 142))))))), .inLoop (cIn (cIn (qca (qua (qca (qca (qja Tryz.prog 142))))))), .inBlock 0, .code (qca (qca (qca (qja Tryz.prog 142))))], ⟨[(0, (.one (.sl (.slice (.int .u8)) false v0))), (3, (.one (.int .i64 v3))), (9, (.one (.sl (.slice (.int .u8)) false v9))), (10, (.one (.int .i64 v10))), (11, (.one (.int .i64 v11)))], [], 8⟩⟩
noncomputable def qWd (v6o : Nat) (v6n : Nat) (v25 : List (List Int)) (v26 : Int) (v27 : Int) (h8 : List Int) : Option (List Int) := slices_Concat_byte_byte_I.sem ⟨[.code (cIn (cIn (qca (qua (qca (qca (qca (qca (qja Tryz.prog 142))))))))), .inLoop (cIn (cIn (qca (qua (qca (qca (qca (qca (qja Tryz.prog 142))))))))), .inBlock 2, .code (qca (qca (qca (qca (qca (qja Tryz.prog 142))))))], ⟨[(6, (.one (.ref (.int .u8) 8 v6o v6n false))), (25, (.one (.sl (.slice (.int .u8)) false v25))), (26, (.one (.int .i64 v26))), (27, (.one (.int .i64 v27)))], [(8, some (.row (.int .u8) true h8))], 9⟩⟩
noncomputable def qdc (v25 : List (List Int)) (v26 : Int) (v27 : Int) (h8 : List Int) : Option (List Int) := slices_Concat_byte_byte_I.sem ⟨[.code (cIn (cIn (qca (qua (qca (qca (qca (qca (qja Tryz.prog 142))))))))), .inLoop (cIn (cIn (qca (qua (qca (qca (qca (qca (qja Tryz.prog 142))))))))), .inBlock 2, .code (qca (qca (qca (qca (qca (qja Tryz.prog 142))))))], ⟨[(6, (.one (.ref (.int .u8) 8 0 (List.length h8) true))), (25, (.one (.sl (.slice (.int .u8)) false v25))), (26, (.one (.int .i64 v26))), (27, (.one (.int .i64 v27)))], [(8, some (.row (.int .u8) true h8))], 9⟩⟩
theorem qUh (a0 : List (List Int)) : qXc a0 = (
qec a0 (0 : Int) a0 (Int.ofNat (List.length a0)) (0 : Int)) := (FnI.call_eq (by kernel_rfl)).trans (by kernel_rfl)
theorem qyb (v0 : List (List Int)) (v3 : Int) (v9 : List (List Int)) (v10 : Int) (v11 : Int) : qec v0 v3 v9 v10 v11 = (
if (decide (v11 < v10)) = true then
gd (0 ≤ v11) <|
gd (v11 < (Int.ofNat (List.length v9))) <|
if (decide ((IntKind.wrap .i64 (v3 + (Int.ofNat (List.length (List.getD v9 (Int.toNat v11) []))))) < (0 : Int))) = true then
none
else
qec v0 (IntKind.wrap .i64 (v3 + (Int.ofNat (List.length (List.getD v9 (Int.toNat v11) []))))) v9 v10 (IntKind.wrap .i64 (v11 + (1 : Int)))
else
(qzd v3).bind fun r1 =>
qWd r1.2.1 r1.2.2 v0 (Int.ofNat (List.length v0)) (0 : Int) r1.1) := (FnI.sem_eq _).trans (by kernel_rfl)
theorem qZg (v6o : Nat) (v6n : Nat) (v25 : List (List Int)) (v26 : Int) (v27 : Int) (h8 : List Int) : qWd v6o v6n v25 v26 v27 h8 = (
if (decide (v27 < v26)) = true then
gd (0 ≤ v27) <|
gd (v27 < (Int.ofNat (List.length v25))) <|
gd ((List.length ((List.take v6n (List.drop v6o h8)) ++ (List.getD v25 (Int.toNat v27) []))) * 1 ≤ 140737488355328) <|
qdc v25 v26 (IntKind.wrap .i64 (v27 + (1 : Int))) ((List.take v6n (List.drop v6o h8)) ++ (List.getD v25 (Int.toNat v27) []))
else
some (List.take v6n (List.drop v6o h8))) := (FnI.sem_eq _).trans (by kernel_rfl)
theorem qcd (v25 : List (List Int)) (v26 : Int) (v27 : Int) (h8 : List Int) : qdc v25 v26 v27 h8 = (
if (decide (v27 < v26)) = true then
gd (0 ≤ v27) <|
gd (v27 < (Int.ofNat (List.length v25))) <|
gd ((List.length (h8 ++ (List.getD v25 (Int.toNat v27) []))) * 1 ≤ 140737488355328) <|
qdc v25 v26 (IntKind.wrap .i64 (v27 + (1 : Int))) (h8 ++ (List.getD v25 (Int.toNat v27) []))
else
some (h8)) := (FnI.sem_eq _).trans (by kernel_rfl)
noncomputable def qAi (acc : List AV → Bool) : Summ Tryz.prog GT := slices_Concat_byte_byte_I.summ mixed acc false false
noncomputable def math_bits_RotateLeft32_I : FnI Tryz.prog GT := { f := 202, cuts := [], tab := [], fm := ⟨true, [.val (.int .u32) []]⟩ }
noncomputable def qCa (a0 : Int) (a1 : Int) : Option (Int) := math_bits_RotateLeft32_I.call [(.int .u32 a0), (.int .i64 a1)] []
theorem qDi (a0 : Int) (a1 : Int) : qCa a0 a1 = (
gd (0 ≤ (qeb .u64 (IntKind.wrap .u64 a1) (31 : Int))) <|
gd (0 ≤ (IntKind.wrap .u64 ((32 : Int) - (qeb .u64 (IntKind.wrap .u64 a1) (31 : Int))))) <|
some (qFc .u32 (IntKind.wrap .u32 (qKE .u32 a0 (qeb .u64 (IntKind.wrap .u64 a1) (31 : Int)))) (qQi .u32 a0 (IntKind.wrap .u64 ((32 : Int) - (qeb .u64 (IntKind.wrap .u64 a1) (31 : Int))))))) := (FnI.call_eq (by kernel_rfl)).trans (by kernel_rfl)
noncomputable def qUi (acc : List AV → Bool) : Summ Tryz.prog GT := math_bits_RotateLeft32_I.summ mixed acc false false
noncomputable def sha_mix_I : FnI Tryz.prog GT := { f := 203, cuts := [], tab := [], fm := ⟨true, [.val (.int .u32) []]⟩ }
noncomputable def qZt (a0 : Int) (a1 : Int) (a2 : Int) (a3 : Int) : Option (Int) := sha_mix_I.call [(.int .i64 a0), (.int .u32 a1), (.int .u32 a2), (.int .u32 a3)] []
theorem qsz (a0 : Int) (a1 : Int) (a2 : Int) (a3 : Int) : qZt a0 a1 a2 a3 = (
if (a0 == (0 : Int)) = true then
some (qYa .u32 a3 (qeb .u32 a1 (qYa .u32 a2 a3)))
else
if (a0 == (2 : Int)) = true then
some (qFc .u32 (qeb .u32 a1 a2) (qeb .u32 a3 (qFc .u32 a1 a2)))
else
some (qYa .u32 (qYa .u32 a1 a2) a3)) := (FnI.call_eq (by kernel_rfl)).trans (by kernel_rfl)
noncomputable def qJA (acc : List AV → Bool) : Summ Tryz.prog GT := sha_mix_I.summ mixed acc false false
noncomputable def sha_do_I : FnI Tryz.prog GT := { f := 144, cuts := [⟨(3, 3), [2, 4, 5, 16, 17, 18], false, false, []⟩, ⟨(9, 3), [2, 4, 5, 8, 9, 10, 11, 12, 45], false, false, []⟩], tab := [qUi (fun _ => true), qJA (fun _ => true)], fm := ⟨true, [.val (.arr 5 (.int .u32)) []]⟩ }
noncomputable def qLA (a0 : (List Int)) (a1 : List Int) : Option ((List Int)) := sha_do_I.call [(.agg (.arr 5 (.int .u32)) a0), (.sl (.int .u8) false a1)] []
noncomputable def qyh (v16 : List Int) (v17 : Int) (v18 : Int) (b8 : (List Int)) (b9 : (List Int)) (b10 : (List Int)) : Option ((List Int)) := sha_do_I.sem ⟨[.code (cIn (cIn (qca (qua (qca (qca (qja Tryz.prog 144))))))), .inLoop (cIn (cIn (qca (qua (qca (qca (qja Tryz.prog 144))))))), .inBlock 0, .code (qca (qca (qca (qja Tryz.prog 144))))], ⟨[(2, (.one (.ptr (.arr 5 (.int .u32)) 8 []))), (4, (.one (.ptr (.arr 5 (.int .u32)) 9 []))), (5, (.one (.ptr (.arr 16 (.int .u32)) 10 []))), (16, (.one (.sl (.int .u8) false v16))), (17, (.one (.int .i64 v17))), (18, (.one (.int .i64 v18)))], [(8, some (.box (.arr 5 (.int .u32)) b8)), (9, some (.box (.arr 5 (.int .u32)) b9)), (10, some (.box (.arr 16 (.int .u32)) b10))], 11⟩⟩
noncomputable def qwk (v8 : Int) (v9 : Int) (v10 : Int) (v11 : Int) (v12 : Int) (v45 : Int) (b8 : (List Int)) (b9 : (List Int)) (b10 : (List Int)) : Option ((List Int)) := sha_do_I.sem ⟨[.code (cIn (cIn (qca (qua (qca (qca (qca (qca (qja Tryz.prog 144))))))))), .inLoop (cIn (cIn (qca (qua (qca (qca (qca (qca (qja Tryz.prog 144))))))))), .inBlock 2, .code (qca (qca (qca (qca (qca (qja Tryz.prog 144))))))], ⟨[(2, (.one (.ptr (.arr 5 (.int .u32)) 8 []))), (4, (.one (.ptr (.arr 5 (.int .u32)) 9 []))), (5, (.one (.ptr (.arr 16 (.int .u32)) 10 []))), (8, (.one (.int .u32 v8))), (9, (.one (.int .u32 v9))), (10, (.one (.int .u32 v10))), (11, (.one (.int .u32 v11))), (12, (.one (.int .u32 v12))), (45, (.one (.int .i64 v45)))], [(8, some (.box (.arr 5 (.int .u32)) b8)), (9, some (.box (.arr 5 (.int .u32)) b9)), (10, some (.box (.arr 16 (.int .u32)) b10))], 11⟩⟩
theorem qKA (a0 : (List Int)) (a1 : List Int) : qLA a0 a1 = (
gd (0 ≤ (64 : Int)) <|
gd ((64 : Int) ≤ (Int.ofNat (List.length a1))) <|
qyh (List.take 64 a1) (Int.ofNat (List.length (List.take 64 a1))) (0 : Int) a0 (List.replicate 5 (0 : Int)) (List.replicate 16 (0 : Int))) := (FnI.call_eq (by kernel_rfl)).trans (by kernel_rfl)
theorem qRp (v16 : List Int) (v17 : Int) (v18 : Int) (b8 : (List Int)) (b9 : (List Int)) (b10 : (List Int)) : qyh v16 v17 v18 b8 b9 b10 = (
if (decide (v18 < v17)) = true then
gd (0 ≤ v18) <|
gd (v18 < (Int.ofNat (List.length v16))) <|
gd ((4 : Int) ≠ 0) <|
gd ((4 : Int) ≠ 0) <|
gd (0 ≤ (IntKind.wrap .i64 (Int.tdiv v18 (4 : Int)))) <|
gd ((IntKind.wrap .i64 (Int.tdiv v18 (4 : Int))) < (16 : Int)) <|
gd (0 ≤ (8 : Int)) <|
gd (0 ≤ (IntKind.wrap .i64 (Int.tdiv v18 (4 : Int)))) <|
gd ((IntKind.wrap .i64 (Int.tdiv v18 (4 : Int))) < (16 : Int)) <|
qyh v16 v17 (IntKind.wrap .i64 (v18 + (1 : Int))) b8 b9 (List.set b10 (Int.toNat (IntKind.wrap .i64 (Int.tdiv v18 (4 : Int)))) (qFc .u32 (IntKind.wrap .u32 ((List.getD b10 (Int.toNat (IntKind.wrap .i64 (Int.tdiv v18 (4 : Int)))) (0 : Int)) * (256 : Int))) (IntKind.wrap .u32 (List.getD v16 (Int.toNat v18) (0 : Int)))))
else
gd (0 ≤ (0 : Int)) <|
gd ((0 : Int) < (5 : Int)) <|
gd (0 ≤ (1 : Int)) <|
gd ((1 : Int) < (5 : Int)) <|
gd (0 ≤ (2 : Int)) <|
gd ((2 : Int) < (5 : Int)) <|
gd (0 ≤ (3 : Int)) <|
gd ((3 : Int) < (5 : Int)) <|
gd (0 ≤ (4 : Int)) <|
gd ((4 : Int) < (5 : Int)) <|
qwk (List.getD b8 0 (0 : Int)) (List.getD b8 1 (0 : Int)) (List.getD b8 2 (0 : Int)) (List.getD b8 3 (0 : Int)) (List.getD b8 4 (0 : Int)) (0 : Int) b8 b9 b10) := (FnI.sem_eq _).trans (by kernel_rfl)
theorem qQp (v8 : Int) (v9 : Int) (v10 : Int) (v11 : Int) (v12 : Int) (v45 : Int) (b8 : (List Int)) (b9 : (List Int)) (b10 : (List Int)) : qwk v8 v9 v10 v11 v12 v45 b8 b9 b10 = (
if (decide (v45 < (80 : Int))) = true then
if (decide (v45 ≥ (16 : Int))) = true then
gd ((16 : Int) ≠ 0) <|
gd ((16 : Int) ≠ 0) <|
gd (0 ≤ (Int.tmod (IntKind.wrap .i64 (v45 + (13 : Int))) (16 : Int))) <|
gd ((Int.tmod (IntKind.wrap .i64 (v45 + (13 : Int))) (16 : Int)) < (16 : Int)) <|
gd ((16 : Int) ≠ 0) <|
gd (0 ≤ (Int.tmod (IntKind.wrap .i64 (v45 + (8 : Int))) (16 : Int))) <|
gd ((Int.tmod (IntKind.wrap .i64 (v45 + (8 : Int))) (16 : Int)) < (16 : Int)) <|
gd ((16 : Int) ≠ 0) <|
gd (0 ≤ (Int.tmod (IntKind.wrap .i64 (v45 + (2 : Int))) (16 : Int))) <|
gd ((Int.tmod (IntKind.wrap .i64 (v45 + (2 : Int))) (16 : Int)) < (16 : Int)) <|
gd ((16 : Int) ≠ 0) <|
gd (0 ≤ (Int.tmod v45 (16 : Int))) <|
gd ((Int.tmod v45 (16 : Int)) < (16 : Int)) <|
(qCa (qYa .u32 (qYa .u32 (qYa .u32 (List.getD b10 (Int.toNat (Int.tmod (IntKind.wrap .i64 (v45 + (13 : Int))) (16 : Int))) (0 : Int)) (List.getD b10 (Int.toNat (Int.tmod (IntKind.wrap .i64 (v45 + (8 : Int))) (16 : Int))) (0 : Int))) (List.getD b10 (Int.toNat (Int.tmod (IntKind.wrap .i64 (v45 + (2 : Int))) (16 : Int))) (0 : Int))) (List.getD b10 (Int.toNat (Int.tmod v45 (16 : Int))) (0 : Int))) (1 : Int)).bind fun r1 =>
gd (0 ≤ (Int.tmod v45 (16 : Int))) <|
gd ((Int.tmod v45 (16 : Int)) < (16 : Int)) <|
(qCa v8 (5 : Int)).bind fun r2 =>
gd ((20 : Int) ≠ 0) <|
(qZt (IntKind.wrap .i64 (Int.tdiv v45 (20 : Int))) v9 v10 v11).bind fun r3 =>
gd ((20 : Int) ≠ 0) <|
gd (0 ≤ (IntKind.wrap .i64 (Int.tdiv v45 (20 : Int)))) <|
gd ((IntKind.wrap .i64 (Int.tdiv v45 (20 : Int))) < (4 : Int)) <|
gd ((16 : Int) ≠ 0) <|
gd (0 ≤ (Int.tmod v45 (16 : Int))) <|
gd ((Int.tmod v45 (16 : Int)) < (16 : Int)) <|
(qCa v9 (30 : Int)).bind fun r4 =>
qwk (IntKind.wrap .u32 ((IntKind.wrap .u32 ((IntKind.wrap .u32 ((IntKind.wrap .u32 (r2 + r3)) + v12)) + (List.getD G_quarters (Int.toNat (IntKind.wrap .i64 (Int.tdiv v45 (20 : Int)))) (0 : Int)))) + (List.getD (List.set b10 (Int.toNat (Int.tmod v45 (16 : Int))) r1) (Int.toNat (Int.tmod v45 (16 : Int))) (0 : Int)))) v8 r4 v10 v11 (IntKind.wrap .i64 (v45 + (1 : Int))) b8 b9 (List.set b10 (Int.toNat (Int.tmod v45 (16 : Int))) r1)
else
(qCa v8 (5 : Int)).bind fun r5 =>
gd ((20 : Int) ≠ 0) <|
(qZt (IntKind.wrap .i64 (Int.tdiv v45 (20 : Int))) v9 v10 v11).bind fun r6 =>
gd ((20 : Int) ≠ 0) <|
gd (0 ≤ (IntKind.wrap .i64 (Int.tdiv v45 (20 : Int)))) <|
gd ((IntKind.wrap .i64 (Int.tdiv v45 (20 : Int))) < (4 : Int)) <|
gd ((16 : Int) ≠ 0) <|
gd (0 ≤ (Int.tmod v45 (16 : Int))) <|
gd ((Int.tmod v45 (16 : Int)) < (16 : Int)) <|
(qCa v9 (30 : Int)).bind fun r7 =>
qwk (IntKind.wrap .u32 ((IntKind.wrap .u32 ((IntKind.wrap .u32 ((IntKind.wrap .u32 (r5 + r6)) + v12)) + (List.getD G_quarters (Int.toNat (IntKind.wrap .i64 (Int.tdiv v45 (20 : Int)))) (0 : Int)))) + (List.getD b10 (Int.toNat (Int.tmod v45 (16 : Int))) (0 : Int)))) v8 r7 v10 v11 (IntKind.wrap .i64 (v45 + (1 : Int))) b8 b9 b10
else
gd (0 ≤ (0 : Int)) <|
gd ((0 : Int) < (5 : Int)) <|
gd (0 ≤ (1 : Int)) <|
gd ((1 : Int) < (5 : Int)) <|
gd (0 ≤ (2 : Int)) <|
gd ((2 : Int) < (5 : Int)) <|
gd (0 ≤ (3 : Int)) <|
gd ((3 : Int) < (5 : Int)) <|
gd (0 ≤ (4 : Int)) <|
gd ((4 : Int) < (5 : Int)) <|
some (List.set (List.set (List.set (List.set (List.set (List.replicate 5 (0 : Int)) 0 (IntKind.wrap .u32 ((List.getD b8 0 (0 : Int)) + v8))) 1 (IntKind.wrap .u32 ((List.getD b8 1 (0 : Int)) + v9))) 2 (IntKind.wrap .u32 ((List.getD b8 2 (0 : Int)) + v10))) 3 (IntKind.wrap .u32 ((List.getD b8 3 (0 : Int)) + v11))) 4 (IntKind.wrap .u32 ((List.getD b8 4 (0 : Int)) + v12)))) := (FnI.sem_eq _).trans (by kernel_rfl)
noncomputable def qmD (acc : List AV → Bool) : Summ Tryz.prog GT := sha_do_I.summ mixed acc false false
noncomputable def sha_Sum_I : FnI Tryz.prog GT := { f := 90, cuts := [⟨(5, 3), [2, 4, 5], false, false, []⟩, ⟨(9, 3), [2, 27, 28], false, false, []⟩], tab := [qIA (fun _ => true), qAi (fun _ => true), qmD (fun _ => true)], fm := ⟨true, [.val (.arr 20 (.int .u8)) [], .val (.int .i64) []]⟩ }
noncomputable def qYo (a0 : List Int) : Option ((List Int) × Int) := sha_Sum_I.call [(.sl (.int .u8) false a0)] []
noncomputable def qCl (v5 : List Int) (b8 : (List Int)) (b9 : (List Int)) : Option ((List Int) × Int) := sha_Sum_I.sem ⟨[.code (cIn (cIn (qca (qua (qca (qca (qca (qja Tryz.prog 90)))))))), .inLoop (cIn (cIn (qca (qua (qca (qca (qca (qja Tryz.prog 90)))))))), .inBlock 0, .code (qca (qca (qca (qca (qja Tryz.prog 90)))))], ⟨[(2, (.one (.ptr (.arr 20 (.int .u8)) 8 []))), (4, (.one (.ptr (.arr 5 (.int .u32)) 9 []))), (5, (.one (.sl (.int .u8) true v5)))], [(8, some (.box (.arr 20 (.int .u8)) b8)), (9, some (.box (.arr 5 (.int .u32)) b9))], 10⟩⟩
noncomputable def qBl (v27 : (List Int)) (v28 : Int) (b8 : (List Int)) : Option ((List Int) × Int) := sha_Sum_I.sem ⟨[.code (cIn (cIn (qca (qua (qca (qca (qca (qca (qja Tryz.prog 90))))))))), .inLoop (cIn (cIn (qca (qua (qca (qca (qca (qca (qja Tryz.prog 90))))))))), .inBlock 2, .code (qca (qca (qca (qca (qca (qja Tryz.prog 90))))))], ⟨[(2, (.one (.ptr (.arr 20 (.int .u8)) 8 []))), (27, (.one (.agg (.arr 5 (.int .u32)) v27))), (28, (.one (.int .i64 v28)))], [(8, some (.box (.arr 20 (.int .u8)) b8))], 9⟩⟩
theorem qtz (a0 : List Int) : qYo a0 = (
if (decide ((Int.ofNat (List.length a0)) > (20000 : Int))) = true then
some ((List.replicate 20 (0 : Int)), (4 : Int))
else
(qMw (Int.ofNat (List.length a0))).bind fun r1 =>
(qXc [a0, r1]).bind fun r2 =>
qCl r2 (List.replicate 20 (0 : Int)) (List.set (List.set (List.set (List.set (List.set (List.replicate 5 (0 : Int)) 0 (1732584193 : Int)) 1 (4023233417 : Int)) 2 (2562383102 : Int)) 3 (271733878 : Int)) 4 (3285377520 : Int))) := (FnI.call_eq (by kernel_rfl)).trans (by kernel_rfl)
theorem qQn (v5 : List Int) (b8 : (List Int)) (b9 : (List Int)) : qCl v5 b8 b9 = (
if (decide ((Int.ofNat (List.length v5)) > (0 : Int))) = true then
(qLA b9 v5).bind fun r3 =>
gd (0 ≤ (64 : Int)) <|
gd ((64 : Int) ≤ (Int.ofNat (List.length v5))) <|
qCl (List.drop 64 v5) b8 r3
else
qBl b9 (0 : Int) b8) := (FnI.sem_eq _).trans (by kernel_rfl)
theorem qPn (v27 : (List Int)) (v28 : Int) (b8 : (List Int)) : qBl v27 v28 b8 = (
if (decide (v28 < (5 : Int))) = true then
gd (0 ≤ v28) <|
gd (v28 < (5 : Int)) <|
gd (0 ≤ (24 : Int)) <|
gd (0 ≤ (16 : Int)) <|
gd (0 ≤ (8 : Int)) <|
gd (0 ≤ (IntKind.wrap .i64 ((4 : Int) * v28))) <|
gd ((IntKind.wrap .i64 ((4 : Int) * v28)) < (20 : Int)) <|
gd (0 ≤ (IntKind.wrap .i64 ((IntKind.wrap .i64 ((4 : Int) * v28)) + (1 : Int)))) <|
gd ((IntKind.wrap .i64 ((IntKind.wrap .i64 ((4 : Int) * v28)) + (1 : Int))) < (20 : Int)) <|
gd (0 ≤ (IntKind.wrap .i64 ((IntKind.wrap .i64 ((4 : Int) * v28)) + (2 : Int)))) <|
gd ((IntKind.wrap .i64 ((IntKind.wrap .i64 ((4 : Int) * v28)) + (2 : Int))) < (20 : Int)) <|
gd (0 ≤ (IntKind.wrap .i64 ((IntKind.wrap .i64 ((4 : Int) * v28)) + (3 : Int)))) <|
gd ((IntKind.wrap .i64 ((IntKind.wrap .i64 ((4 : Int) * v28)) + (3 : Int))) < (20 : Int)) <|
qBl v27 (IntKind.wrap .i64 (v28 + (1 : Int))) (List.set (List.set (List.set (List.set b8 (Int.toNat (IntKind.wrap .i64 ((4 : Int) * v28))) (IntKind.wrap .u8 (Int.fdiv (List.getD v27 (Int.toNat v28) (0 : Int)) (16777216 : Int)))) (Int.toNat (IntKind.wrap .i64 ((IntKind.wrap .i64 ((4 : Int) * v28)) + (1 : Int)))) (IntKind.wrap .u8 (Int.fdiv (List.getD v27 (Int.toNat v28) (0 : Int)) (65536 : Int)))) (Int.toNat (IntKind.wrap .i64 ((IntKind.wrap .i64 ((4 : Int) * v28)) + (2 : Int)))) (IntKind.wrap .u8 (Int.fdiv (List.getD v27 (Int.toNat v28) (0 : Int)) (256 : Int)))) (Int.toNat (IntKind.wrap .i64 ((IntKind.wrap .i64 ((4 : Int) * v28)) + (3 : Int)))) (IntKind.wrap .u8 (List.getD v27 (Int.toNat v28) (0 : Int))))
else
some (b8, (0 : Int))) := (FnI.sem_eq _).trans (by kernel_rfl)
noncomputable def qRn (acc : List AV → Bool) : Summ Tryz.prog GT := sha_Sum_I.summ mixed acc false false
noncomputable def member_digest_I : FnI Tryz.prog GT := { f := 154, cuts := [], tab := [qRn (fun _ => true)], fm := ⟨true, [.val (.arr 20 (.int .u8)) []]⟩ }
noncomputable def qFj (a0 : List Int) : Option ((List Int)) := member_digest_I.call [(.sl (.int .u8) false a0)] []
theorem qvq (a0 : List Int) : qFj a0 = (
(qYo a0).bind fun r1 =>
some (r1.1)) := (FnI.call_eq (by kernel_rfl)).trans (by kernel_rfl)
noncomputable def qOr (acc : List AV → Bool) : Summ Tryz.prog GT := member_digest_I.summ mixed acc false false
noncomputable def member_twice_I : FnI Tryz.prog GT := { f := 155, cuts := [⟨(3, 3), [3, 7, 8, 9], false, false, []⟩], tab := [], fm := ⟨true, [.val .bool []]⟩ }
noncomputable def qGk (a0 : List ByteArray) : Option (Bool) := member_twice_I.call [(.sl .str false a0)] []
noncomputable def qvf (v7 : List ByteArray) (v8 : Int) (v9 : Int) (m8 : List (ByteArray × Bool)) : Option (Bool) := member_twice_I.sem ⟨[.code (cIn (cIn (qca (qua (qca (qca (qja Tryz.prog 155))))))), .inLoop (cIn (cIn (qca (qua (qca (qca (qja Tryz.prog 155))))))), .inBlock 0, .code (qca (qca (qca (qja Tryz.prog 155))))], ⟨[(3, (.one (.mapr 8))), (7, (.one (.sl .str false v7))), (8, (.one (.int .i64 v8))), (9, (.one (.int .i64 v9)))], [(8, some (.map .str .bool m8))], 9⟩⟩
theorem qMr (a0 : List ByteArray) : qGk a0 = (
qvf a0 (Int.ofNat (List.length a0)) (0 : Int) []) := (FnI.call_eq (by kernel_rfl)).trans (by kernel_rfl)
theorem qgi (v7 : List ByteArray) (v8 : Int) (v9 : Int) (m8 : List (ByteArray × Bool)) : qvf v7 v8 v9 m8 = (
if (decide (v9 < v8)) = true then
gd (0 ≤ v9) <|
gd (v9 < (Int.ofNat (List.length v7))) <|
if (Option.getD (qrj (peq .str) (List.getD v7 (Int.toNat v9) ByteArray.empty) m8) false) = true then
some (true)
else
qvf v7 v8 (IntKind.wrap .i64 (v9 + (1 : Int))) (qVs (peq .str) (List.getD v7 (Int.toNat v9) ByteArray.empty) true m8)
else
some (false)) := (FnI.sem_eq _).trans (by kernel_rfl)
noncomputable def qWs (acc : List AV → Bool) : Summ Tryz.prog GT := member_twice_I.summ mixed acc false false
noncomputable def member_Valid_I : FnI Tryz.prog GT := { f := 106, cuts := [⟨(6, 3), [3, 4, 10, 11, 12], false, false, []⟩], tab := [qNr (fun _ => true), qOr (fun _ => true), qWs (fun _ => true)], fm := ⟨true, [.val (.int .i64) []]⟩ }
noncomputable def qSe (a0 : List qaa) : Option (Int) := member_Valid_I.call [(.sl qba false a0)] []
noncomputable def qCd (v3 : Int) (v10 : List qaa) (v11 : Int) (v12 : Int) (h8 : List ByteArray) : Option (Int) := member_Valid_I.sem ⟨[.code (cIn (cIn (qca (qua (qca (qca (qca (qca (qja Tryz.prog 106))))))))), .inLoop (cIn (cIn (qca (qua (qca (qca (qca (qca (qja Tryz.prog 106))))))))), .inBlock 0, .code (qca (qca (qca (qca (qca (qja Tryz.prog 106))))))], ⟨[(3, (.one (.int .i64 v3))), (4, (.one (.ref .str 8 0 (List.length h8) true))), (10, (.one (.sl qba false v10))), (11, (.one (.int .i64 v11))), (12, (.one (.int .i64 v12)))], [(8, some (.row .str true h8))], 9⟩⟩
theorem qQr (a0 : List qaa) : qSe a0 = (
if (decide ((Int.ofNat (List.length a0)) > (16 : Int))) = true then
some (4 : Int)
else
qCd (0 : Int) a0 (Int.ofNat (List.length a0)) (0 : Int) []) := (FnI.call_eq (by kernel_rfl)).trans (by kernel_rfl)
theorem qii (v3 : Int) (v10 : List qaa) (v11 : Int) (v12 : Int) (h8 : List ByteArray) : qCd v3 v10 v11 v12 h8 = (
if (decide (v12 < v11)) = true then
gd (0 ≤ v12) <|
gd (v12 < (Int.ofNat (List.length v10))) <|
(qEj (List.getD v10 (Int.toNat v12) (qla qba)).1).bind fun r1 =>
if (not r1) = true then
some (8 : Int)
else
if (decide ((List.getD v10 (Int.toNat v12) (qla qba)).2.1 < (0 : Int))) = true then
some (8 : Int)
else
if (decide ((List.getD v10 (Int.toNat v12) (qla qba)).2.1 > (8192 : Int))) = true then
some (8 : Int)
else
if ((List.getD v10 (Int.toNat v12) (qla qba)).2.1 == (0 : Int)) = true then
(qFj []).bind fun r2 =>
if (not (peq (.arr 20 (.int .u8)) (List.getD v10 (Int.toNat v12) (qla qba)).2.2.1 r2)) = true then
some (8 : Int)
else
gd ((List.length (h8 ++ [(List.getD v10 (Int.toNat v12) (qla qba)).1])) * 16 ≤ 140737488355328) <|
qCd (IntKind.wrap .i64 (v3 + (List.getD v10 (Int.toNat v12) (qla qba)).2.1)) v10 v11 (IntKind.wrap .i64 (v12 + (1 : Int))) (h8 ++ [(List.getD v10 (Int.toNat v12) (qla qba)).1])
else
gd ((List.length (h8 ++ [(List.getD v10 (Int.toNat v12) (qla qba)).1])) * 16 ≤ 140737488355328) <|
qCd (IntKind.wrap .i64 (v3 + (List.getD v10 (Int.toNat v12) (qla qba)).2.1)) v10 v11 (IntKind.wrap .i64 (v12 + (1 : Int))) (h8 ++ [(List.getD v10 (Int.toNat v12) (qla qba)).1])
else
if (decide (v3 > (8192 : Int))) = true then
some (4 : Int)
else
(qGk h8).bind fun r3 =>
if r3 = true then
some (14 : Int)
else
some (0 : Int)) := (FnI.sem_eq _).trans (by kernel_rfl)
noncomputable def qxg (acc : List AV → Bool) : Summ Tryz.prog GT := member_Valid_I.summ mixed acc false false
noncomputable def member_Read_I : FnI Tryz.prog GT := { f := 151, cuts := [⟨(8, 3), [7, 8, 27, 28], false, false, []⟩], tab := [(qhk (fun _ => true)).dropping, qyx (fun _ => true), qxg (fun _ => true)], fm := ⟨true, [.val (.slice qba) [.nw], .val (.int .i64) [], .val (.int .i64) []]⟩ }
noncomputable def qfn (a0 : List Int) (a1 : Int) : Option (List qaa × Int × Int) := member_Read_I.call [(.sl (.int .u8) false a0), (.int .i64 a1)] []
noncomputable def qyg (v27 : Int) (v28 : Int) (b8 : qvb) (h9 : List qaa) : Option (List qaa × Int × Int) := member_Read_I.sem ⟨[.code (cIn (cIn (qca (qua (qca (qca (qca (qca (qja Tryz.prog 151))))))))), .inLoop (cIn (cIn (qca (qua (qca (qca (qca (qca (qja Tryz.prog 151))))))))), .inBlock 1, .code (qca (qca (qca (qca (qca (qja Tryz.prog 151))))))], ⟨[(7, (.one (.ptr qRa 8 []))), (8, (.one (.ref qba 9 0 (List.length h9) true))), (27, (.one (.int .i64 v27))), (28, (.one (.int .i64 v28)))], [(8, some (.box qRa (inj false qRa b8))), (9, some (.row qba true h9))], 10⟩⟩
theorem qYs (a0 : List Int) (a1 : Int) : qfn a0 a1 = (
if (decide (a1 < (0 : Int))) = true then
some ([], ((0 : Int), (2 : Int)))
else
if (decide (a1 > (16 : Int))) = true then
some ([], ((0 : Int), (2 : Int)))
else
if (decide ((Int.ofNat (List.length a0)) > (50000 : Int))) = true then
some ([], ((0 : Int), (4 : Int)))
else
qyg a1 (0 : Int) ((a0, ((0 : Int), ())), ()) []) := (FnI.call_eq (by kernel_rfl)).trans (by kernel_rfl)
theorem qTi (v27 : Int) (v28 : Int) (b8 : qvb) (h9 : List qaa) : qyg v27 v28 b8 h9 = (
if (decide (v28 < v27)) = true then
(qGc b8).bind fun r1 =>
(qdj r1.2.1 (0 : Int)).bind fun r2 =>
if r2.1 = true then
some ([], ((0 : Int), r2.2))
else
gd ((List.length (h9 ++ [r1.1])) * 48 ≤ 140737488355328) <|
qyg v27 (IntKind.wrap .i64 (v28 + (1 : Int))) r1.2.2 (h9 ++ [r1.1])
else
(qSe h9).bind fun r3 =>
if (r3 != (0 : Int)) = true then
some ([], ((0 : Int), (12 : Int)))
else
some (h9, (b8.1.2.1, (0 : Int)))) := (FnI.sem_eq _).trans (by kernel_rfl)
noncomputable def qlu (acc : List AV → Bool) : Summ Tryz.prog GT := member_Read_I.summ mixed acc false false
noncomputable def member_Write_I : FnI Tryz.prog GT := { f := 108, cuts := [⟨(6, 3), [5, 13, 14, 15], false, false, []⟩], tab := [qxg (fun _ => true)], fm := ⟨true, [.val (.slice (.int .u8)) [.nw], .val (.int .i64) []]⟩ }
noncomputable def qIk (a0 : List qaa) : Option (List Int × Int) := member_Write_I.call [(.sl qba false a0)] []
noncomputable def qxf (v13 : List qaa) (v14 : Int) (v15 : Int) (h8 : List Int) : Option (List Int × Int) := member_Write_I.sem ⟨[.code (cIn (cIn (qca (qua (qca (qca (qca (qja Tryz.prog 108)))))))), .inLoop (cIn (cIn (qca (qua (qca (qca (qca (qja Tryz.prog 108)))))))), .inBlock 0, .code (qca (qca (qca (qca (qja Tryz.prog 108)))))], ⟨[(5, (.one (.ref (.int .u8) 8 0 (List.length h8) true))), (13, (.one (.sl qba false v13))), (14, (.one (.int .i64 v14))), (15, (.one (.int .i64 v15)))], [(8, some (.row (.int .u8) true h8))], 9⟩⟩
theorem qPr (a0 : List qaa) : qIk a0 = (
(qSe a0).bind fun r1 =>
if (r1 != (0 : Int)) = true then
some ([], r1)
else
qxf a0 (Int.ofNat (List.length a0)) (0 : Int) []) := (FnI.call_eq (by kernel_rfl)).trans (by kernel_rfl)
theorem qhi (v13 : List qaa) (v14 : Int) (v15 : Int) (h8 : List Int) : qxf v13 v14 v15 h8 = (
if (decide (v15 < v14)) = true then
gd (0 ≤ v15) <|
gd (v15 < (Int.ofNat (List.length v13))) <|
gd ((List.length (h8 ++ [(IntKind.wrap .u8 (Int.ofNat (ByteArray.size (List.getD v13 (Int.toNat v15) (qla qba)).1)))])) * 1 ≤ 140737488355328) <|
gd ((List.length ((h8 ++ [(IntKind.wrap .u8 (Int.ofNat (ByteArray.size (List.getD v13 (Int.toNat v15) (qla qba)).1)))]) ++ (qob (List.getD v13 (Int.toNat v15) (qla qba)).1))) * 1 ≤ 140737488355328) <|
gd (0 ≤ (8 : Int)) <|
gd ((List.length (((h8 ++ [(IntKind.wrap .u8 (Int.ofNat (ByteArray.size (List.getD v13 (Int.toNat v15) (qla qba)).1)))]) ++ (qob (List.getD v13 (Int.toNat v15) (qla qba)).1)) ++ [(IntKind.wrap .u8 (Int.fdiv (List.getD v13 (Int.toNat v15) (qla qba)).2.1 (256 : Int))), (IntKind.wrap .u8 (List.getD v13 (Int.toNat v15) (qla qba)).2.1)])) * 1 ≤ 140737488355328) <|
gd ((List.length ((((h8 ++ [(IntKind.wrap .u8 (Int.ofNat (ByteArray.size (List.getD v13 (Int.toNat v15) (qla qba)).1)))]) ++ (qob (List.getD v13 (Int.toNat v15) (qla qba)).1)) ++ [(IntKind.wrap .u8 (Int.fdiv (List.getD v13 (Int.toNat v15) (qla qba)).2.1 (256 : Int))), (IntKind.wrap .u8 (List.getD v13 (Int.toNat v15) (qla qba)).2.1)]) ++ (List.take 20 (List.drop 0 (List.getD v13 (Int.toNat v15) (qla qba)).2.2.1)))) * 1 ≤ 140737488355328) <|
qxf v13 v14 (IntKind.wrap .i64 (v15 + (1 : Int))) ((((h8 ++ [(IntKind.wrap .u8 (Int.ofNat (ByteArray.size (List.getD v13 (Int.toNat v15) (qla qba)).1)))]) ++ (qob (List.getD v13 (Int.toNat v15) (qla qba)).1)) ++ [(IntKind.wrap .u8 (Int.fdiv (List.getD v13 (Int.toNat v15) (qla qba)).2.1 (256 : Int))), (IntKind.wrap .u8 (List.getD v13 (Int.toNat v15) (qla qba)).2.1)]) ++ (List.take 20 (List.drop 0 (List.getD v13 (Int.toNat v15) (qla qba)).2.2.1)))
else
some (h8, (0 : Int))) := (FnI.sem_eq _).trans (by kernel_rfl)
noncomputable def qXs (acc : List AV → Bool) : Summ Tryz.prog GT := member_Write_I.summ mixed acc false false
noncomputable def pack_Head_I : FnI Tryz.prog GT := { f := 65, cuts := [], tab := [qEk (fun _ => true), qXs (fun _ => true), qRn (fun _ => true)], fm := ⟨true, [.val (.slice (.int .u8)) [.nw], .val (.int .i64) []]⟩ }
noncomputable def qfo (a0 : qna) (a1 : List qaa) : Option (List Int × Int) := pack_Head_I.call [(.agg qqa (inj false qqa a0)), (.sl qba false a1)] []
theorem qwv (a0 : qna) (a1 : List qaa) : qfo a0 a1 = (
(qSi a0).bind fun r1 =>
if (r1 != (0 : Int)) = true then
some ([], r1)
else
(qIk a1).bind fun r2 =>
if (r2.2 != (0 : Int)) = true then
some ([], r2.2)
else
gd (0 ≤ (8 : Int)) <|
gd ((List.length ([(66 : Int), (76 : Int), (70 : Int), (1 : Int), (IntKind.wrap .u8 a0.1), (IntKind.wrap .u8 (Int.fdiv a0.2.1 (256 : Int))), (IntKind.wrap .u8 a0.2.1), (IntKind.wrap .u8 (Int.ofNat (List.length a1)))] ++ r2.1)) * 1 ≤ 140737488355328) <|
(qYo ([(66 : Int), (76 : Int), (70 : Int), (1 : Int), (IntKind.wrap .u8 a0.1), (IntKind.wrap .u8 (Int.fdiv a0.2.1 (256 : Int))), (IntKind.wrap .u8 a0.2.1), (IntKind.wrap .u8 (Int.ofNat (List.length a1)))] ++ r2.1)).bind fun r3 =>
gd ((List.length (([(66 : Int), (76 : Int), (70 : Int), (1 : Int), (IntKind.wrap .u8 a0.1), (IntKind.wrap .u8 (Int.fdiv a0.2.1 (256 : Int))), (IntKind.wrap .u8 a0.2.1), (IntKind.wrap .u8 (Int.ofNat (List.length a1)))] ++ r2.1) ++ (List.take 20 (List.drop 0 r3.1)))) * 1 ≤ 140737488355328) <|
some ((([(66 : Int), (76 : Int), (70 : Int), (1 : Int), (IntKind.wrap .u8 a0.1), (IntKind.wrap .u8 (Int.fdiv a0.2.1 (256 : Int))), (IntKind.wrap .u8 a0.2.1), (IntKind.wrap .u8 (Int.ofNat (List.length a1)))] ++ r2.1) ++ (List.take 20 (List.drop 0 r3.1))), (0 : Int))) := (FnI.call_eq (by kernel_rfl)).trans (by kernel_rfl)
noncomputable def qEr (acc : List AV → Bool) : Summ Tryz.prog GT := pack_Head_I.summ mixed acc false false
noncomputable def list_Head_I : FnI Tryz.prog GT := { f := 102, cuts := [], tab := [qkj (fun _ => true), qEk (fun _ => true), qlu (fun _ => true), qEr (fun _ => true)], fm := ⟨true, [.val qqa [], .val (.slice qba) [.nw], .val (.int .i64) [], .val (.int .i64) []]⟩ }
noncomputable def qZr (a0 : List Int) : Option (qna × List qaa × Int × Int) := list_Head_I.call [(.sl (.int .u8) false a0)] []
theorem qGv (a0 : List Int) : qZr a0 = (
if (decide ((Int.ofNat (List.length a0)) > (50000 : Int))) = true then
some (((0 : Int), ((0 : Int), ())), ([], ((0 : Int), (4 : Int))))
else
if (decide ((Int.ofNat (List.length a0)) < (8 : Int))) = true then
some (((0 : Int), ((0 : Int), ())), ([], ((0 : Int), (18 : Int))))
else
gd (0 ≤ (4 : Int)) <|
gd ((4 : Int) < (Int.ofNat (List.length a0))) <|
gd (0 ≤ (5 : Int)) <|
gd ((5 : Int) < (Int.ofNat (List.length a0))) <|
gd (0 ≤ (8 : Int)) <|
gd (0 ≤ (6 : Int)) <|
gd ((6 : Int) < (Int.ofNat (List.length a0))) <|
(qGd a0 [(66 : Int), (76 : Int), (70 : Int), (1 : Int)]).bind fun r1 =>
if (not r1) = true then
some (((0 : Int), ((0 : Int), ())), ([], ((0 : Int), (12 : Int))))
else
(qSi ((IntKind.wrap .i64 (List.getD a0 4 (0 : Int))), ((qFc .i64 (IntKind.wrap .i64 ((IntKind.wrap .i64 (List.getD a0 5 (0 : Int))) * (256 : Int))) (IntKind.wrap .i64 (List.getD a0 6 (0 : Int)))), ()))).bind fun r2 =>
if (r2 != (0 : Int)) = true then
some (((0 : Int), ((0 : Int), ())), ([], ((0 : Int), (12 : Int))))
else
gd (0 ≤ (7 : Int)) <|
gd ((7 : Int) < (Int.ofNat (List.length a0))) <|
if (decide ((List.getD a0 7 (0 : Int)) > (16 : Int))) = true then
some (((0 : Int), ((0 : Int), ())), ([], ((0 : Int), (12 : Int))))
else
gd (0 ≤ (8 : Int)) <|
gd ((8 : Int) ≤ (Int.ofNat (List.length a0))) <|
gd (0 ≤ (7 : Int)) <|
gd ((7 : Int) < (Int.ofNat (List.length a0))) <|
(qfn (List.drop 8 a0) (IntKind.wrap .i64 (List.getD a0 7 (0 : Int)))).bind fun r3 =>
if (r3.2.2 != (0 : Int)) = true then
some (((0 : Int), ((0 : Int), ())), ([], ((0 : Int), r3.2.2)))
else
(qfo ((IntKind.wrap .i64 (List.getD a0 4 (0 : Int))), ((qFc .i64 (IntKind.wrap .i64 ((IntKind.wrap .i64 (List.getD a0 5 (0 : Int))) * (256 : Int))) (IntKind.wrap .i64 (List.getD a0 6 (0 : Int)))), ())) r3.1).bind fun r4 =>
if (decide ((IntKind.wrap .i64 ((IntKind.wrap .i64 ((Int.ofNat (List.length a0)) - (8 : Int))) - r3.2.1)) < (20 : Int))) = true then
some (((0 : Int), ((0 : Int), ())), ([], ((0 : Int), (18 : Int))))
else
(qGd a0 r4.1).bind fun r5 =>
if (not r5) = true then
some (((0 : Int), ((0 : Int), ())), ([], ((0 : Int), (22 : Int))))
else
some (((IntKind.wrap .i64 (List.getD a0 4 (0 : Int))), ((qFc .i64 (IntKind.wrap .i64 ((IntKind.wrap .i64 (List.getD a0 5 (0 : Int))) * (256 : Int))) (IntKind.wrap .i64 (List.getD a0 6 (0 : Int)))), ())), (r3.1, ((Int.ofNat (List.length r4.1)), (0 : Int))))) := (FnI.call_eq (by kernel_rfl)).trans (by kernel_rfl)
noncomputable def qkx (acc : List AV → Bool) : Summ Tryz.prog GT := list_Head_I.summ mixed acc false false
noncomputable def split_check_1_I : FnI Tryz.prog GT := { f := 270, cuts := [], tab := [], fm := ⟨true, [.val .bool []]⟩ }
noncomputable def qJn (a0 : Int) : Option (Bool) := split_check_1_I.call [(.int .i64 a0)] []
theorem qlq (a0 : Int) : qJn a0 = (
some (decide (a0 < (0 : Int)))) := (FnI.call_eq (by kernel_rfl)).trans (by kernel_rfl)
noncomputable def qhr (acc : List AV → Bool) : Summ Tryz.prog GT := split_check_1_I.summ mixed acc false false
noncomputable def slices_IndexFunc_int_int_I : FnI Tryz.prog GT := { f := 335, cuts := [⟨(2, 3), [0, 1, 7, 8], false, false, []⟩], tab := [qhr (fun _ => true)], fm := ⟨true, [.val (.int .i64) []]⟩ }
noncomputable def qOc (a0 : List Int) : Option (Int) := slices_IndexFunc_int_int_I.call [(.sl (.int .i64) false a0), (.func 270 [])] []
noncomputable def qZa (v0 : List Int) (v7 : Int) (v8 : Int) : Option (Int) := slices_IndexFunc_int_int_I.sem ⟨[.code (cIn (cIn (qca (qua (qca (qja Tryz.prog 335)))))), .inLoop (cIn (cIn (qca (qua (qca (qja Tryz.prog 335)))))), .inBlock 0, .code (qca (qca (qja Tryz.prog 335)))], ⟨[(0, (.one (.sl (.int .i64) false v0))), (1, (.one (.func 270 []))), (7, (.one (.int .i64 v7))), (8, (.one (.int .i64 v8)))], [], 8⟩⟩
theorem qxh (a0 : List Int) : qOc a0 = (
qZa a0 (Int.ofNat (List.length a0)) (0 : Int)) := (FnI.call_eq (by kernel_rfl)).trans (by kernel_rfl)
theorem qWc (v0 : List Int) (v7 : Int) (v8 : Int) : qZa v0 v7 v8 = (
if (decide (v8 < v7)) = true then
gd (0 ≤ v8) <|
gd (v8 < (Int.ofNat (List.length v0))) <|
(qJn (List.getD v0 (Int.toNat v8) (0 : Int))).bind fun r1 =>
if r1 = true then
some (v8)
else
qZa v0 v7 (IntKind.wrap .i64 (v8 + (1 : Int)))
else
some (-1 : Int)) := (FnI.sem_eq _).trans (by kernel_rfl)
noncomputable def qTh (acc : List AV → Bool) : Summ Tryz.prog GT := slices_IndexFunc_int_int_I.summ mixed acc false false
noncomputable def slices_ContainsFunc_int_int_I : FnI Tryz.prog GT := { f := 269, cuts := [], tab := [qTh (fun _ => true)], fm := ⟨true, [.val .bool []]⟩ }
noncomputable def qAd (a0 : List Int) : Option (Bool) := slices_ContainsFunc_int_int_I.call [(.sl (.int .i64) false a0), (.func 270 [])] []
theorem qFg (a0 : List Int) : qAd a0 = (
(qOc a0).bind fun r1 =>
some (decide (r1 ≥ (0 : Int)))) := (FnI.call_eq (by kernel_rfl)).trans (by kernel_rfl)
noncomputable def qYg (acc : List AV → Bool) : Summ Tryz.prog GT := slices_ContainsFunc_int_int_I.summ mixed acc false false
noncomputable def split_check_I : FnI Tryz.prog GT := { f := 208, cuts := [⟨(7, 3), [3, 11, 12, 13], false, false, []⟩], tab := [qYg (fun _ => true)], fm := ⟨true, [.val (.int .i64) []]⟩ }
noncomputable def qNm (a0 : List Int) : Option (Int) := split_check_I.call [(.sl (.int .i64) false a0)] []
noncomputable def qvg (v3 : Int) (v11 : List Int) (v12 : Int) (v13 : Int) : Option (Int) := split_check_I.sem ⟨[.code (cIn (cIn (qca (qua (qca (qca (qca (qca (qja Tryz.prog 208))))))))), .inLoop (cIn (cIn (qca (qua (qca (qca (qca (qca (qja Tryz.prog 208))))))))), .inBlock 0, .code (qca (qca (qca (qca (qca (qja Tryz.prog 208))))))], ⟨[(3, (.one (.int .i64 v3))), (11, (.one (.sl (.int .i64) false v11))), (12, (.one (.int .i64 v12))), (13, (.one (.int .i64 v13)))], [], 8⟩⟩
theorem qNs (a0 : List Int) : qNm a0 = (
(qAd a0).bind fun r1 =>
if r1 = true then
some (8 : Int)
else
if (decide ((Int.ofNat (List.length a0)) > (16 : Int))) = true then
some (4 : Int)
else
qvg (0 : Int) a0 (Int.ofNat (List.length a0)) (0 : Int)) := (FnI.call_eq (by kernel_rfl)).trans (by kernel_rfl)
theorem qNi (v3 : Int) (v11 : List Int) (v12 : Int) (v13 : Int) : qvg v3 v11 v12 v13 = (
if (decide (v13 < v12)) = true then
gd (0 ≤ v13) <|
gd (v13 < (Int.ofNat (List.length v11))) <|
if (decide ((IntKind.wrap .i64 (v3 + (if (8193 : Int) < (List.getD v11 (Int.toNat v13) (0 : Int)) then (8193 : Int) else (List.getD v11 (Int.toNat v13) (0 : Int))))) > (8192 : Int))) = true then
some (4 : Int)
else
qvg (IntKind.wrap .i64 (v3 + (if (8193 : Int) < (List.getD v11 (Int.toNat v13) (0 : Int)) then (8193 : Int) else (List.getD v11 (Int.toNat v13) (0 : Int))))) v11 v12 (IntKind.wrap .i64 (v13 + (1 : Int)))
else
some (0 : Int)) := (FnI.sem_eq _).trans (by kernel_rfl)
noncomputable def qYt (acc : List AV → Bool) : Summ Tryz.prog GT := split_check_I.summ mixed acc false false
noncomputable def split_Pieces_I : FnI Tryz.prog GT := { f := 152, cuts := [⟨(8, 3), [1, 7, 22, 23, 24], false, false, []⟩, ⟨(11, 7), [1, 7, 8, 9, 10, 22, 23, 24], false, false, []⟩], tab := [qYt (fun _ => true)], fm := ⟨true, [.val (.slice qga) [.nw], .val (.int .i64) []]⟩ }
noncomputable def quk (a0 : List Int) (a1 : Int) : Option (List qfa × Int) := split_Pieces_I.call [(.sl (.int .i64) false a0), (.int .i64 a1)] []
noncomputable def qyd (v1 : Int) (v22 : List Int) (v23 : Int) (v24 : Int) (h8 : List qfa) : Option (List qfa × Int) := split_Pieces_I.sem ⟨[.code (cIn (cIn (qca (qua (qca (qca (qca (qca (qja Tryz.prog 152))))))))), .inLoop (cIn (cIn (qca (qua (qca (qca (qca (qca (qja Tryz.prog 152))))))))), .inBlock 0, .code (qca (qca (qca (qca (qca (qja Tryz.prog 152))))))], ⟨[(1, (.one (.int .i64 v1))), (7, (.one (.ref qga 8 0 (List.length h8) true))), (22, (.one (.sl (.int .i64) false v22))), (23, (.one (.int .i64 v23))), (24, (.one (.int .i64 v24)))], [(8, some (.row qga true h8))], 9⟩⟩
noncomputable def qof (v1 : Int) (v8 : Int) (v9 : Int) (v10 : Int) (v22 : List Int) (v23 : Int) (v24 : Int) (h8 : List qfa) : Option (List qfa × Int) := split_Pieces_I.sem ⟨[.code (cIn (cIn (qca (qca (cIn (qua (qca (qca (cIn (cIn (qca (qua (qca (qca (qca (qca (qja Tryz.prog 152))))))))))))))))), .inLoop (cIn (cIn (qca (qca (cIn (qua (qca (qca (cIn (cIn (qca (qua (qca (qca (qca (qca (qja Tryz.prog 152))))))))))))))))), .inBlock 2, .inBlock 1, .code (qca (qca (qca (cIn (cIn (qca (qua (qca (qca (qca (qca (qja Tryz.prog 152)))))))))))), .inLoop (cIn (cIn (qca (qua (qca (qca (qca (qca (qja Tryz.prog 152))))))))), .inBlock 0, .code (qca (qca (qca (qca (qca (qja Tryz.prog 152))))))], ⟨[(1, (.one (.int .i64 v1))), (7, (.one (.ref qga 8 0 (List.length h8) true))), (8, (.one (.int .i64 v8))), (9, (.one (.int .i64 v9))), (10, (.one (.int .i64 v10))), (22, (.one (.sl (.int .i64) false v22))), (23, (.one (.int .i64 v23))), (24, (.one (.int .i64 v24)))], [(8, some (.row qga true h8))], 9⟩⟩
theorem qir (a0 : List Int) (a1 : Int) : quk a0 a1 = (
(qNm a0).bind fun r1 =>
if (r1 != (0 : Int)) = true then
some ([], r1)
else
if (decide (a1 < (16 : Int))) = true then
some ([], (2 : Int))
else
if (decide (a1 > (4096 : Int))) = true then
some ([], (2 : Int))
else
qyd a1 a0 (Int.ofNat (List.length a0)) (0 : Int) []) := (FnI.call_eq (by kernel_rfl)).trans (by kernel_rfl)
theorem qYh (v1 : Int) (v22 : List Int) (v23 : Int) (v24 : Int) (h8 : List qfa) : qyd v1 v22 v23 v24 h8 = (
if (decide (v24 < v23)) = true then
gd (0 ≤ v24) <|
gd (v24 < (Int.ofNat (List.length v22))) <|
qof v1 v24 (List.getD v22 (Int.toNat v24) (0 : Int)) (0 : Int) v22 v23 v24 h8
else
some (h8, (0 : Int))) := (FnI.sem_eq _).trans (by kernel_rfl)
theorem qXh (v1 : Int) (v8 : Int) (v9 : Int) (v10 : Int) (v22 : List Int) (v23 : Int) (v24 : Int) (h8 : List qfa) : qof v1 v8 v9 v10 v22 v23 v24 h8 = (
if (decide (v10 < v9)) = true then
gd ((List.length (h8 ++ [(v8, (v10, ((if v1 < (IntKind.wrap .i64 (v9 - v10)) then v1 else (IntKind.wrap .i64 (v9 - v10))), ())))])) * 24 ≤ 140737488355328) <|
qof v1 v8 v9 (IntKind.wrap .i64 (v10 + v1)) v22 v23 v24 (h8 ++ [(v8, (v10, ((if v1 < (IntKind.wrap .i64 (v9 - v10)) then v1 else (IntKind.wrap .i64 (v9 - v10))), ())))])
else
qyd v1 v22 v23 (IntKind.wrap .i64 (v24 + (1 : Int))) h8) := (FnI.sem_eq _).trans (by kernel_rfl)
noncomputable def qOs (acc : List AV → Bool) : Summ Tryz.prog GT := split_Pieces_I.summ mixed acc false false
noncomputable def list_pieces_I : FnI Tryz.prog GT := { f := 103, cuts := [⟨(3, 3), [2, 5, 10, 11, 12], false, false, []⟩], tab := [qOs (fun _ => true)], fm := ⟨true, [.val (.slice qga) [.nw]]⟩ }
noncomputable def qGj (a0 : qna) (a1 : List qaa) : Option (List qfa) := list_pieces_I.call [(.agg qqa (inj false qqa a0)), (.sl qba false a1)] []
noncomputable def qzg (v10 : List qaa) (v11 : Int) (v12 : Int) (b8 : qna) (h9 : List Int) : Option (List qfa) := list_pieces_I.sem ⟨[.code (cIn (cIn (qca (qua (qca (qca (qja Tryz.prog 103))))))), .inLoop (cIn (cIn (qca (qua (qca (qca (qja Tryz.prog 103))))))), .inBlock 0, .code (qca (qca (qca (qja Tryz.prog 103))))], ⟨[(2, (.one (.ptr qqa 8 []))), (5, (.one (.ref (.int .i64) 9 0 (List.length h9) true))), (10, (.one (.sl qba false v10))), (11, (.one (.int .i64 v11))), (12, (.one (.int .i64 v12)))], [(8, some (.box qqa (inj false qqa b8))), (9, some (.row (.int .i64) true h9))], 10⟩⟩
theorem qbt (a0 : qna) (a1 : List qaa) : qGj a0 a1 = (
qzg a1 (Int.ofNat (List.length a1)) (0 : Int) a0 []) := (FnI.call_eq (by kernel_rfl)).trans (by kernel_rfl)
theorem qXi (v10 : List qaa) (v11 : Int) (v12 : Int) (b8 : qna) (h9 : List Int) : qzg v10 v11 v12 b8 h9 = (
if (decide (v12 < v11)) = true then
gd (0 ≤ v12) <|
gd (v12 < (Int.ofNat (List.length v10))) <|
gd ((List.length (h9 ++ [(List.getD v10 (Int.toNat v12) (qla qba)).2.1])) * 8 ≤ 140737488355328) <|
qzg v10 v11 (IntKind.wrap .i64 (v12 + (1 : Int))) b8 (h9 ++ [(List.getD v10 (Int.toNat v12) (qla qba)).2.1])
else
(quk h9 b8.2.1).bind fun r1 =>
some (r1.1)) := (FnI.sem_eq _).trans (by kernel_rfl)
noncomputable def qmo (acc : List AV → Bool) : Summ Tryz.prog GT := list_pieces_I.summ mixed acc false false
noncomputable def header_Check_I : FnI Tryz.prog GT := { f := 107, cuts := [], tab := [], fm := ⟨true, [.val (.int .i64) []]⟩ }
noncomputable def qVe (a0 : qda) : Option (Int) := header_Check_I.call [(.agg qma (inj false qma a0))] []
theorem qis (a0 : qda) : qVe a0 = (
if (decide (a0.2.1 < (0 : Int))) = true then
some (8 : Int)
else
if (decide (a0.2.1 ≥ (16 : Int))) = true then
if (decide (a0.2.1 ≥ (16 : Int))) = true then
some (8 : Int)
else
if (a0.1 == (1 : Int)) = true then
if (a0.2.2.2.2.1 == a0.2.2.2.1) = true then
if (a0.2.2.2.2.1 == a0.2.2.2.1) = true then
some (0 : Int)
else
some (8 : Int)
else
if (a0.1 == (2 : Int)) = true then
if (decide (a0.2.2.2.2.1 > (0 : Int))) = true then
if (decide (a0.2.2.2.2.1 < a0.2.2.2.1)) = true then
some (0 : Int)
else
some (8 : Int)
else
some (8 : Int)
else
some (8 : Int)
else
if (a0.1 == (2 : Int)) = true then
if (decide (a0.2.2.2.2.1 > (0 : Int))) = true then
if (decide (a0.2.2.2.2.1 < a0.2.2.2.1)) = true then
some (0 : Int)
else
some (8 : Int)
else
some (8 : Int)
else
some (8 : Int)
else
if (decide (a0.2.2.2.1 < (1 : Int))) = true then
some (8 : Int)
else
if (decide (a0.2.2.2.1 > (4096 : Int))) = true then
if (decide (a0.2.2.2.1 > (4096 : Int))) = true then
some (8 : Int)
else
if (a0.1 == (1 : Int)) = true then
if (a0.2.2.2.2.1 == a0.2.2.2.1) = true then
if (a0.2.2.2.2.1 == a0.2.2.2.1) = true then
some (0 : Int)
else
some (8 : Int)
else
if (a0.1 == (2 : Int)) = true then
if (decide (a0.2.2.2.2.1 > (0 : Int))) = true then
if (decide (a0.2.2.2.2.1 < a0.2.2.2.1)) = true then
some (0 : Int)
else
some (8 : Int)
else
some (8 : Int)
else
some (8 : Int)
else
if (a0.1 == (2 : Int)) = true then
if (decide (a0.2.2.2.2.1 > (0 : Int))) = true then
if (decide (a0.2.2.2.2.1 < a0.2.2.2.1)) = true then
some (0 : Int)
else
some (8 : Int)
else
some (8 : Int)
else
some (8 : Int)
else
if (decide (a0.2.2.1 < (0 : Int))) = true then
some (8 : Int)
else
if (decide (a0.2.2.1 > (IntKind.wrap .i64 ((8192 : Int) - a0.2.2.2.1)))) = true then
some (8 : Int)
else
if (a0.1 == (1 : Int)) = true then
if (a0.2.2.2.2.1 == a0.2.2.2.1) = true then
if (a0.2.2.2.2.1 == a0.2.2.2.1) = true then
some (0 : Int)
else
some (8 : Int)
else
if (a0.1 == (2 : Int)) = true then
if (decide (a0.2.2.2.2.1 > (0 : Int))) = true then
if (decide (a0.2.2.2.2.1 < a0.2.2.2.1)) = true then
some (0 : Int)
else
some (8 : Int)
else
some (8 : Int)
else
some (8 : Int)
else
if (a0.1 == (2 : Int)) = true then
if (decide (a0.2.2.2.2.1 > (0 : Int))) = true then
if (decide (a0.2.2.2.2.1 < a0.2.2.2.1)) = true then
some (0 : Int)
else
some (8 : Int)
else
some (8 : Int)
else
some (8 : Int)) := (FnI.call_eq (by kernel_rfl)).trans (by kernel_rfl)
noncomputable def qBg (acc : List AV → Bool) : Summ Tryz.prog GT := header_Check_I.summ mixed acc false false
noncomputable def header_Parse_I : FnI Tryz.prog GT := { f := 76, cuts := [⟨(5, 3), [0, 2, 4, 12, 13], false, false, []⟩, ⟨(8, 7), [0, 2, 4, 5, 12, 13, 17, 18], false, false, []⟩], tab := [qBg (fun _ => true)], fm := ⟨true, [.val qma [], .val (.int .i64) []]⟩ }
noncomputable def qPk (a0 : List Int) : Option (qda × Int) := header_Parse_I.call [(.sl (.int .u8) false a0)] []
noncomputable def qQb (v0 : List Int) (v12 : (List Int)) (v13 : Int) (b8 : qda) (b9 : (List Int)) : Option (qda × Int) := header_Parse_I.sem ⟨[.code (cIn (cIn (qca (qua (qca (qca (qca (qja Tryz.prog 76)))))))), .inLoop (cIn (cIn (qca (qua (qca (qca (qca (qja Tryz.prog 76)))))))), .inBlock 0, .code (qca (qca (qca (qca (qja Tryz.prog 76)))))], ⟨[(0, (.one (.sl (.int .u8) false v0))), (2, (.one (.ptr qma 8 []))), (4, (.one (.ptr (.arr 5 (.int .i64)) 9 []))), (12, (.one (.agg (.arr 5 (.int .i64)) v12))), (13, (.one (.int .i64 v13)))], [(8, some (.box qma (inj false qma b8))), (9, some (.box (.arr 5 (.int .i64)) b9))], 10⟩⟩
noncomputable def qEd (v0 : List Int) (v5 : Int) (v12 : (List Int)) (v13 : Int) (v17 : Int) (v18 : Int) (b8 : qda) (b9 : (List Int)) : Option (qda × Int) := header_Parse_I.sem ⟨[.code (cIn (cIn (qca (qca (cIn (qua (qca (qca (cIn (cIn (qca (qua (qca (qca (qca (qja Tryz.prog 76)))))))))))))))), .inLoop (cIn (cIn (qca (qca (cIn (qua (qca (qca (cIn (cIn (qca (qua (qca (qca (qca (qja Tryz.prog 76)))))))))))))))), .inBlock 2, .inBlock 1, .code (qca (qca (qca (cIn (cIn (qca (qua (qca (qca (qca (qja Tryz.prog 76))))))))))), .inLoop (cIn (cIn (qca (qua (qca (qca (qca (qja Tryz.prog 76)))))))), .inBlock 0, .code (qca (qca (qca (qca (qja Tryz.prog 76)))))], ⟨[(0, (.one (.sl (.int .u8) false v0))), (2, (.one (.ptr qma 8 []))), (4, (.one (.ptr (.arr 5 (.int .i64)) 9 []))), (5, (.one (.int .i64 v5))), (12, (.one (.agg (.arr 5 (.int .i64)) v12))), (13, (.one (.int .i64 v13))), (17, (.one (.int .i64 v17))), (18, (.one (.int .i64 v18)))], [(8, some (.box qma (inj false qma b8))), (9, some (.box (.arr 5 (.int .i64)) b9))], 10⟩⟩
theorem qhs (a0 : List Int) : qPk a0 = (
if ((Int.ofNat (List.length a0)) != (28 : Int)) = true then
some (((0 : Int), ((0 : Int), ((0 : Int), ((0 : Int), ((0 : Int), ((List.replicate 20 (0 : Int)), ())))))), (12 : Int))
else
qQb a0 G_widths (0 : Int) ((0 : Int), ((0 : Int), ((0 : Int), ((0 : Int), ((0 : Int), ((List.replicate 20 (0 : Int)), ())))))) (List.replicate 5 (0 : Int))) := (FnI.call_eq (by kernel_rfl)).trans (by kernel_rfl)
theorem qBf (v0 : List Int) (v12 : (List Int)) (v13 : Int) (b8 : qda) (b9 : (List Int)) : qQb v0 v12 v13 b8 b9 = (
if (decide (v13 < (5 : Int))) = true then
gd (0 ≤ v13) <|
gd (v13 < (5 : Int)) <|
qEd v0 v13 v12 v13 (List.getD v12 (Int.toNat v13) (0 : Int)) (0 : Int) b8 b9
else
gd (0 ≤ (0 : Int)) <|
gd ((0 : Int) < (5 : Int)) <|
gd (0 ≤ (1 : Int)) <|
gd ((1 : Int) < (5 : Int)) <|
gd (0 ≤ (2 : Int)) <|
gd ((2 : Int) < (5 : Int)) <|
gd (0 ≤ (3 : Int)) <|
gd ((3 : Int) < (5 : Int)) <|
gd (0 ≤ (4 : Int)) <|
gd ((4 : Int) < (5 : Int)) <|
(qVe ((IntKind.wrap .u8 (List.getD b9 0 (0 : Int))), ((List.getD b9 1 (0 : Int)), ((List.getD b9 2 (0 : Int)), ((List.getD b9 3 (0 : Int)), ((List.getD b9 4 (0 : Int)), ((qkd (List.replicate 20 (0 : Int)) 0 (List.take (min (List.length v0) 20) v0)), ()))))))).bind fun r1 =>
if (r1 != (0 : Int)) = true then
some (((0 : Int), ((0 : Int), ((0 : Int), ((0 : Int), ((0 : Int), ((List.replicate 20 (0 : Int)), ())))))), (12 : Int))
else
some (((IntKind.wrap .u8 (List.getD b9 0 (0 : Int))), ((List.getD b9 1 (0 : Int)), ((List.getD b9 2 (0 : Int)), ((List.getD b9 3 (0 : Int)), ((List.getD b9 4 (0 : Int)), ((qkd (List.replicate 20 (0 : Int)) 0 (List.take (min (List.length v0) 20) v0)), ())))))), (0 : Int))) := (FnI.sem_eq _).trans (by kernel_rfl)
theorem qAf (v0 : List Int) (v5 : Int) (v12 : (List Int)) (v13 : Int) (v17 : Int) (v18 : Int) (b8 : qda) (b9 : (List Int)) : qEd v0 v5 v12 v13 v17 v18 b8 b9 = (
if (decide (v18 < v17)) = true then
gd (0 ≤ v5) <|
gd (v5 < (5 : Int)) <|
gd (0 ≤ (8 : Int)) <|
gd (0 ≤ (0 : Int)) <|
gd ((0 : Int) < (Int.ofNat (List.length v0))) <|
gd (0 ≤ v5) <|
gd (v5 < (5 : Int)) <|
gd (0 ≤ (1 : Int)) <|
gd ((1 : Int) ≤ (Int.ofNat (List.length v0))) <|
qEd (List.drop 1 v0) v5 v12 v13 v17 (IntKind.wrap .i64 (v18 + (1 : Int))) b8 (List.set b9 (Int.toNat v5) (qFc .i64 (IntKind.wrap .i64 ((List.getD b9 (Int.toNat v5) (0 : Int)) * (256 : Int))) (IntKind.wrap .i64 (List.getD v0 0 (0 : Int)))))
else
qQb v0 v12 (IntKind.wrap .i64 (v13 + (1 : Int))) b8 b9) := (FnI.sem_eq _).trans (by kernel_rfl)
noncomputable def qht (acc : List AV → Bool) : Summ Tryz.prog GT := header_Parse_I.summ mixed acc false false
noncomputable def marker_check_I : FnI Tryz.prog GT := { f := 73, cuts := [], tab := [], fm := ⟨true, [.val (.int .i64) []]⟩ }
noncomputable def qji (a0 : List Int) (a1 : Int) : Option (Int) := marker_check_I.call [(.sl (.int .u8) false a0), (.int .i64 a1)] []
theorem qJk (a0 : List Int) (a1 : Int) : qji a0 a1 = (
if (decide ((Int.ofNat (List.length a0)) > (50000 : Int))) = true then
some (4 : Int)
else
if (decide (a1 < (0 : Int))) = true then
some (2 : Int)
else
if (decide (a1 > (Int.ofNat (List.length a0)))) = true then
some (2 : Int)
else
some (0 : Int)) := (FnI.call_eq (by kernel_rfl)).trans (by kernel_rfl)
noncomputable def qAm (acc : List AV → Bool) : Summ Tryz.prog GT := marker_check_I.summ mixed acc false false
noncomputable def marker_Bytes_I : FnI Tryz.prog GT := { f := 75, cuts := [], tab := [], fm := ⟨true, [.val (.slice (.int .u8)) [.pu]]⟩ }
noncomputable def qki : Option (List Int) := marker_Bytes_I.call [] []
theorem qTr : qki = (
gd (0 < 13) <|
some ([(183 : Int), (98 : Int), (105 : Int), (116 : Int), (108 : Int), (111 : Int), (102 : Int), (116 : Int), (32 : Int), (98 : Int), (108 : Int), (107 : Int), (10 : Int)])) := (FnI.call_eq (by kernel_rfl)).trans (by kernel_rfl)
noncomputable def qBm (acc : List AV → Bool) : Summ Tryz.prog GT := marker_Bytes_I.summ mixed acc false false
noncomputable def marker_At_I : FnI Tryz.prog GT := { f := 77, cuts := [], tab := [qAm (fun _ => true), qBm (fun _ => true), qkj (fun _ => true)], fm := ⟨true, [.val .bool [], .val (.int .i64) []]⟩ }
noncomputable def qUr (a0 : List Int) (a1 : Int) : Option (Bool × Int) := marker_At_I.call [(.sl (.int .u8) false a0), (.int .i64 a1)] []
theorem qCv (a0 : List Int) (a1 : Int) : qUr a0 a1 = (
(qji a0 a1).bind fun r1 =>
if (r1 != (0 : Int)) = true then
some (false, r1)
else
gd (0 ≤ a1) <|
gd (a1 ≤ (Int.ofNat (List.length a0))) <|
(qki).bind fun r2 =>
(qGd (List.drop (Int.toNat a1) a0) r2).bind fun r3 =>
some (r3, (0 : Int))) := (FnI.call_eq (by kernel_rfl)).trans (by kernel_rfl)
noncomputable def qhx (acc : List AV → Bool) : Summ Tryz.prog GT := marker_At_I.summ mixed acc false false
noncomputable def bytes_Clone_I : FnI Tryz.prog GT := { f := 78, cuts := [], tab := [], fm := ⟨true, [.val (.slice (.int .u8)) [.nw]]⟩ }
noncomputable def qKe (a0 : List Int) : Option (List Int) := bytes_Clone_I.call [(.sl (.int .u8) false a0)] []
theorem qIi (a0 : List Int) : qKe a0 = (
qIC (fun (r1 : Bool) => r1 = true → a0 = []) fun (r1 : Bool) =>
if r1 = true then
some ([])
else
gd ((List.length ([] ++ a0)) * 1 ≤ 140737488355328) <|
some ([] ++ a0)) := (FnI.call_eq (by kernel_rfl)).trans (by kernel_rfl)
noncomputable def qRj (acc : List AV → Bool) : Summ Tryz.prog GT := bytes_Clone_I.summ mixed acc false false
noncomputable def block_Read_I : FnI Tryz.prog GT := { f := 41, cuts := [], tab := [qht (fun _ => true), qhx (fun _ => true), qRj (fun _ => true)], fm := ⟨true, [.val qwa [], .val (.int .i64) [], .val (.int .i64) []]⟩ }
noncomputable def qnj (a0 : List Int) : Option (qoa × Int × Int) := block_Read_I.call [(.sl (.int .u8) false a0)] []
theorem qHo (a0 : List Int) : qnj a0 = (
if (decide ((Int.ofNat (List.length a0)) > (50000 : Int))) = true then
some ((((0 : Int), ((0 : Int), ((0 : Int), ((0 : Int), ((0 : Int), ((List.replicate 20 (0 : Int)), ())))))), ([], ())), ((0 : Int), (4 : Int)))
else
if (decide ((Int.ofNat (List.length a0)) < (41 : Int))) = true then
some ((((0 : Int), ((0 : Int), ((0 : Int), ((0 : Int), ((0 : Int), ((List.replicate 20 (0 : Int)), ())))))), ([], ())), ((0 : Int), (18 : Int)))
else
gd (0 ≤ (13 : Int)) <|
gd ((13 : Int) ≤ (41 : Int)) <|
gd ((41 : Int) ≤ (Int.ofNat (List.length a0))) <|
(qPk (List.take 28 (List.drop 13 a0))).bind fun r1 =>
(qUr a0 (0 : Int)).bind fun r2 =>
if (not r2.1) = true then
some ((((0 : Int), ((0 : Int), ((0 : Int), ((0 : Int), ((0 : Int), ((List.replicate 20 (0 : Int)), ())))))), ([], ())), ((0 : Int), (12 : Int)))
else
if (r1.2 != (0 : Int)) = true then
some ((((0 : Int), ((0 : Int), ((0 : Int), ((0 : Int), ((0 : Int), ((List.replicate 20 (0 : Int)), ())))))), ([], ())), ((0 : Int), (12 : Int)))
else
if (decide ((Int.ofNat (List.length a0)) < (IntKind.wrap .i64 ((41 : Int) + r1.1.2.2.2.2.1)))) = true then
some ((((0 : Int), ((0 : Int), ((0 : Int), ((0 : Int), ((0 : Int), ((List.replicate 20 (0 : Int)), ())))))), ([], ())), ((0 : Int), (18 : Int)))
else
gd (0 ≤ (41 : Int)) <|
gd ((41 : Int) ≤ (IntKind.wrap .i64 ((41 : Int) + r1.1.2.2.2.2.1))) <|
gd ((IntKind.wrap .i64 ((41 : Int) + r1.1.2.2.2.2.1)) ≤ (Int.ofNat (List.length a0))) <|
(qKe (List.take ((Int.toNat (IntKind.wrap .i64 ((41 : Int) + r1.1.2.2.2.2.1))) - 41) (List.drop 41 a0))).bind fun r3 =>
some ((r1.1, (r3, ())), ((IntKind.wrap .i64 ((41 : Int) + r1.1.2.2.2.2.1)), (0 : Int)))) := (FnI.call_eq (by kernel_rfl)).trans (by kernel_rfl)
noncomputable def qhq (acc : List AV → Bool) : Summ Tryz.prog GT := block_Read_I.summ mixed acc false false
noncomputable def list_is_I : FnI Tryz.prog GT := { f := 104, cuts := [], tab := [], fm := ⟨true, [.val .bool []]⟩ }
noncomputable def qqu (a0 : qda) (a1 : qfa) : Option (Bool) := list_is_I.call [(.agg qma (inj false qma a0)), (.agg qga (inj false qga a1))] []
theorem qLz (a0 : qda) (a1 : qfa) : qqu a0 a1 = (
some (peq qga (a0.2.1, (a0.2.2.1, (a0.2.2.2.1, ()))) a1)) := (FnI.call_eq (by kernel_rfl)).trans (by kernel_rfl)
noncomputable def qEv (acc : List AV → Bool) : Summ Tryz.prog GT := list_is_I.summ mixed acc false false
noncomputable def list_all_I : FnI Tryz.prog GT := { f := 63, cuts := [⟨(7, 3), [0, 2, 7, 9, 10, 32, 33, 34], false, false, []⟩], tab := [qkx (fun _ => true), qmo (fun _ => true), qhq (fun _ => true), qEv (fun _ => true)], fm := ⟨true, [.val qsa [], .val (.slice qwa) [.nw], .val (.int .i64) []]⟩ }
noncomputable def qsu (a0 : List Int) : Option (qta × List qoa × Int) := list_all_I.call [(.sl (.int .u8) false a0)] []
noncomputable def qHj (v0 : List Int) (v7 : Int) (v33 : Int) (v34 : Int) (b8a : qna) (b8bbb : Unit) (b9a : qna) (b9bbb : Unit) (h10 : List qoa) (h11 : List qfa) (h12 : List qaa) (h13 : List qda) (h14 : List qaa) (h15 : List qda) : Option (qta × List qoa × Int) := list_all_I.sem ⟨[.code (cIn (cIn (qca (qua (qca (qca (qca (qca (qca (qja Tryz.prog 63)))))))))), .inLoop (cIn (cIn (qca (qua (qca (qca (qca (qca (qca (qja Tryz.prog 63)))))))))), .inBlock 0, .code (qca (qca (qca (qca (qca (qca (qja Tryz.prog 63)))))))], ⟨[(0, (.one (.sl (.int .u8) false v0))), (2, (.one (.ptr qsa 8 []))), (7, (.one (.int .i64 v7))), (9, (.one (.ptr qsa 9 []))), (10, (.one (.ref qwa 10 0 (List.length h10) true))), (32, (.one (.ref qga 11 0 (List.length h11) true))), (33, (.one (.int .i64 v33))), (34, (.one (.int .i64 v34)))], [(8, some (.box qsa ((inj false qqa b8a), ((SV.ref 12 0 (List.length h12) true), ((SV.ref 13 0 (List.length h13) true), b8bbb))))), (9, some (.box qsa ((inj false qqa b9a), ((SV.ref 14 0 (List.length h14) true), ((SV.ref 15 0 (List.length h15) true), b9bbb))))), (10, some (.row qwa true h10)), (11, some (.row qga true h11)), (12, some (.row qba true h12)), (13, some (.row qma true h13)), (14, some (.row qba true h14)), (15, some (.row qma true h15))], 16⟩⟩
theorem qix (a0 : List Int) : qsu a0 = (
(qZr a0).bind fun r1 =>
if (r1.2.2.2 != (0 : Int)) = true then
some ((((0 : Int), ((0 : Int), ())), ([], ([], ()))), ([], r1.2.2.2))
else
(qGj r1.1 r1.2.1).bind fun r2 =>
qHj a0 r1.2.2.1 (Int.ofNat (List.length r2)) (0 : Int) ((0 : Int), ((0 : Int), ())) () r1.1 () [] r2 [] [] r1.2.1 []) := (FnI.call_eq (by kernel_rfl)).trans (by kernel_rfl)
theorem qFm (v0 : List Int) (v7 : Int) (v33 : Int) (v34 : Int) (b8a : qna) (b8bbb : Unit) (b9a : qna) (b9bbb : Unit) (h10 : List qoa) (h11 : List qfa) (h12 : List qaa) (h13 : List qda) (h14 : List qaa) (h15 : List qda) : qHj v0 v7 v33 v34 b8a b8bbb b9a b9bbb h10 h11 h12 h13 h14 h15 = (
if (decide (v34 < v33)) = true then
gd (0 ≤ v34) <|
gd (v34 < (Int.ofNat (List.length h11))) <|
gd (0 ≤ v7) <|
gd (v7 ≤ (Int.ofNat (List.length v0))) <|
(qnj (List.drop (Int.toNat v7) v0)).bind fun r3 =>
if (r3.2.2 != (0 : Int)) = true then
some ((((0 : Int), ((0 : Int), ())), ([], ([], ()))), ([], r3.2.2))
else
(qqu r3.1.1 (List.getD h11 (0 + (Int.toNat v34)) (qla qga))).bind fun r4 =>
if (not r4) = true then
some ((((0 : Int), ((0 : Int), ())), ([], ([], ()))), ([], (32 : Int)))
else
gd ((List.length (h15 ++ [r3.1.1])) * 64 ≤ 140737488355328) <|
gd ((List.length (h10 ++ [r3.1])) * 88 ≤ 140737488355328) <|
qHj v0 (IntKind.wrap .i64 (v7 + r3.2.1)) v33 (IntKind.wrap .i64 (v34 + (1 : Int))) b8a b8bbb b9a b9bbb (h10 ++ [r3.1]) h11 h12 h13 h14 (h15 ++ [r3.1.1])
else
if (decide (v7 < (Int.ofNat (List.length v0)))) = true then
some ((((0 : Int), ((0 : Int), ())), ([], ([], ()))), ([], (12 : Int)))
else
some ((b9a, (h14, (h15, b9bbb))), (h10, (0 : Int)))) := (FnI.sem_eq _).trans (by kernel_rfl)
noncomputable def qMz (acc : List AV → Bool) : Summ Tryz.prog GT := list_all_I.summ mixed acc false false
noncomputable def list_List_I : FnI Tryz.prog GT := { f := 33, cuts := [], tab := [qMz (fun _ => true)], fm := ⟨true, [.val qsa [], .val (.int .i64) []]⟩ }
noncomputable def qoo (a0 : List Int) : Option (qta × Int) := list_List_I.call [(.sl (.int .u8) false a0)] []
theorem qFv (a0 : List Int) : qoo a0 = (
(qsu a0).bind fun r1 =>
some (r1.1, r1.2.2)) := (FnI.call_eq (by kernel_rfl)).trans (by kernel_rfl)
noncomputable def qjx (acc : List AV → Bool) : Summ Tryz.prog GT := list_List_I.summ mixed acc false false
noncomputable def list_Check_I : FnI Tryz.prog GT := { f := 64, cuts := [⟨(7, 3), [3, 28, 29, 30], false, false, []⟩], tab := [qEk (fun _ => true), qxg (fun _ => true), qmo (fun _ => true), qBg (fun _ => true), qEv (fun _ => true)], fm := ⟨true, [.val (.int .i64) []]⟩ }
noncomputable def qop (a0 : qta) : Option (Int) := list_Check_I.call [(.agg qsa (inj false qsa a0))] []
noncomputable def qth (v28 : List qda) (v29 : Int) (v30 : Int) (h8 : List qfa) : Option (Int) := list_Check_I.sem ⟨[.code (cIn (cIn (qca (qua (qca (qca (qca (qca (qja Tryz.prog 64))))))))), .inLoop (cIn (cIn (qca (qua (qca (qca (qca (qca (qja Tryz.prog 64))))))))), .inBlock 0, .code (qca (qca (qca (qca (qca (qja Tryz.prog 64))))))], ⟨[(3, (.one (.ref qga 8 0 (List.length h8) true))), (28, (.one (.sl qma false v28))), (29, (.one (.int .i64 v29))), (30, (.one (.int .i64 v30)))], [(8, some (.row qga true h8))], 9⟩⟩
theorem quu (a0 : qta) : qop a0 = (
(qSi a0.1).bind fun r1 =>
if (r1 != (0 : Int)) = true then
some (8 : Int)
else
(qSe a0.2.1).bind fun r2 =>
if (r2 != (0 : Int)) = true then
some (8 : Int)
else
(qGj a0.1 a0.2.1).bind fun r3 =>
if ((Int.ofNat (List.length r3)) != (Int.ofNat (List.length a0.2.2.1))) = true then
some (8 : Int)
else
qth a0.2.2.1 (Int.ofNat (List.length a0.2.2.1)) (0 : Int) r3) := (FnI.call_eq (by kernel_rfl)).trans (by kernel_rfl)
theorem qdk (v28 : List qda) (v29 : Int) (v30 : Int) (h8 : List qfa) : qth v28 v29 v30 h8 = (
if (decide (v30 < v29)) = true then
gd (0 ≤ v30) <|
gd (v30 < (Int.ofNat (List.length v28))) <|
(qVe (List.getD v28 (Int.toNat v30) (qla qma))).bind fun r4 =>
if (r4 != (0 : Int)) = true then
some (8 : Int)
else
gd (0 ≤ v30) <|
gd (v30 < (Int.ofNat (List.length h8))) <|
(qqu (List.getD v28 (Int.toNat v30) (qla qma)) (List.getD h8 (0 + (Int.toNat v30)) (qla qga))).bind fun r5 =>
if (not r5) = true then
some (8 : Int)
else
qth v28 v29 (IntKind.wrap .i64 (v30 + (1 : Int))) h8
else
some (0 : Int)) := (FnI.sem_eq _).trans (by kernel_rfl)
noncomputable def qHv (acc : List AV → Bool) : Summ Tryz.prog GT := list_Check_I.summ mixed acc false false
noncomputable def list_Places_I : FnI Tryz.prog GT := { f := 34, cuts := [⟨(8, 3), [7, 8, 27, 28, 29], false, false, []⟩], tab := [qHv (fun _ => true), qEr (fun _ => true)], fm := ⟨true, [.val (.slice (.int .i64)) [.nw], .val (.int .i64) []]⟩ }
noncomputable def qIj (a0 : qta) : Option (List Int × Int) := list_Places_I.call [(.agg qsa (inj false qsa a0))] []
noncomputable def qAg (v7 : Int) (v27 : List qda) (v28 : Int) (v29 : Int) (h8 : List Int) : Option (List Int × Int) := list_Places_I.sem ⟨[.code (cIn (cIn (qca (qua (qca (qca (qca (qca (qca (qja Tryz.prog 34)))))))))), .inLoop (cIn (cIn (qca (qua (qca (qca (qca (qca (qca (qja Tryz.prog 34)))))))))), .inBlock 0, .code (qca (qca (qca (qca (qca (qca (qja Tryz.prog 34)))))))], ⟨[(7, (.one (.int .i64 v7))), (8, (.one (.ref (.int .i64) 8 0 (List.length h8) true))), (27, (.one (.sl qma false v27))), (28, (.one (.int .i64 v28))), (29, (.one (.int .i64 v29)))], [(8, some (.row (.int .i64) true h8))], 9⟩⟩
theorem qct (a0 : qta) : qIj a0 = (
(qop a0).bind fun r1 =>
if (r1 != (0 : Int)) = true then
some ([], r1)
else
(qfo a0.1 a0.2.1).bind fun r2 =>
qAg (Int.ofNat (List.length r2.1)) a0.2.2.1 (Int.ofNat (List.length a0.2.2.1)) (0 : Int) []) := (FnI.call_eq (by kernel_rfl)).trans (by kernel_rfl)
theorem qYi (v7 : Int) (v27 : List qda) (v28 : Int) (v29 : Int) (h8 : List Int) : qAg v7 v27 v28 v29 h8 = (
if (decide (v29 < v28)) = true then
gd (0 ≤ v29) <|
gd (v29 < (Int.ofNat (List.length v27))) <|
gd ((List.length (h8 ++ [v7])) * 8 ≤ 140737488355328) <|
qAg (IntKind.wrap .i64 (v7 + (IntKind.wrap .i64 ((41 : Int) + (List.getD v27 (Int.toNat v29) (qla qma)).2.2.2.2.1)))) v27 v28 (IntKind.wrap .i64 (v29 + (1 : Int))) (h8 ++ [v7])
else
some (h8, (0 : Int))) := (FnI.sem_eq _).trans (by kernel_rfl)
noncomputable def qtu (acc : List AV → Bool) : Summ Tryz.prog GT := list_Places_I.summ mixed acc false false
noncomputable def damage_Blocks_I : FnI Tryz.prog GT := { f := 11, cuts := [⟨(10, 3), [0, 1, 7, 11, 33, 34, 35], false, false, []⟩], tab := [qGi (fun _ => true), qjx (fun _ => true), qtu (fun _ => true), qch (fun _ => true), qzo (fun _ => true)], fm := ⟨true, [.val (.slice qga) [.nw], .val (.int .i64) []]⟩ }
noncomputable def qNj (a0 : List Int) (a1 : List qka) : Option (List qfa × Int) := damage_Blocks_I.call [(.sl (.int .u8) false a0), (.sl T_api_Harm false a1)] []
noncomputable def qDe (v0 : List Int) (v1 : List qka) (v34 : Int) (v35 : Int) (b8 : qta) (h9 : List qfa) (h10 : List Int) : Option (List qfa × Int) := damage_Blocks_I.sem ⟨[.code (cIn (cIn (qca (qua (qca (qca (qca (qca (qca (qca (qja Tryz.prog 11))))))))))), .inLoop (cIn (cIn (qca (qua (qca (qca (qca (qca (qca (qca (qja Tryz.prog 11))))))))))), .inBlock 0, .code (qca (qca (qca (qca (qca (qca (qca (qja Tryz.prog 11))))))))], ⟨[(0, (.one (.sl (.int .u8) false v0))), (1, (.one (.sl T_api_Harm false v1))), (7, (.one (.ptr qsa 8 []))), (11, (.one (.ref qga 9 0 (List.length h9) true))), (33, (.one (.ref (.int .i64) 10 0 (List.length h10) true))), (34, (.one (.int .i64 v34))), (35, (.one (.int .i64 v35)))], [(8, some (.box qsa (inj true qsa b8))), (9, some (.row qga true h9)), (10, some (.row (.int .i64) true h10))], 11⟩⟩
theorem qCq (a0 : List Int) (a1 : List qka) : qNj a0 a1 = (
(qQg a1).bind fun r1 =>
if (r1 != (0 : Int)) = true then
some ([], r1)
else
(qoo a0).bind fun r2 =>
if (r2.2 != (0 : Int)) = true then
some ([], r2.2)
else
(qIj r2.1).bind fun r3 =>
qDe a0 a1 (Int.ofNat (List.length r3.1)) (0 : Int) r2.1 [] r3.1) := (FnI.call_eq (by kernel_rfl)).trans (by kernel_rfl)
theorem qOh (v0 : List Int) (v1 : List qka) (v34 : Int) (v35 : Int) (b8 : qta) (h9 : List qfa) (h10 : List Int) : qDe v0 v1 v34 v35 b8 h9 h10 = (
if (decide (v35 < v34)) = true then
gd (0 ≤ v35) <|
gd (v35 < (Int.ofNat (List.length h10))) <|
gd (0 ≤ v35) <|
gd (v35 < (Int.ofNat (List.length b8.2.2.1))) <|
gd ((List.length (h9 ++ [((0 : Int), ((List.getD h10 (0 + (Int.toNat v35)) (0 : Int)), ((IntKind.wrap .i64 ((41 : Int) + (List.getD b8.2.2.1 (Int.toNat v35) (qla qma)).2.2.2.2.1)), ())))])) * 24 ≤ 140737488355328) <|
qDe v0 v1 v34 (IntKind.wrap .i64 (v35 + (1 : Int))) b8 (h9 ++ [((0 : Int), ((List.getD h10 (0 + (Int.toNat v35)) (0 : Int)), ((IntKind.wrap .i64 ((41 : Int) + (List.getD b8.2.2.1 (Int.toNat v35) (qla qma)).2.2.2.2.1)), ())))]) h10
else
(qDc (Int.ofNat (List.length v0)) v1).bind fun r4 =>
if (r4.2 != (0 : Int)) = true then
some ([], r4.2)
else
(qFd h9 r4.1).bind fun r5 =>
some (r5, (0 : Int))) := (FnI.sem_eq _).trans (by kernel_rfl)
noncomputable def qss (acc : List AV → Bool) : Summ Tryz.prog GT := damage_Blocks_I.summ mixed acc false false
noncomputable def bitloftref25_Stands_I : FnI Tryz.prog GT := { f := 37, cuts := [⟨(5, 3), [0, 1, 5, 6], false, false, []⟩], tab := [qph (fun _ => true)], fm := ⟨true, [.val .bool []]⟩ }
noncomputable def qTb (a0 : List Int) (a1 : Int) : Option (Bool) := bitloftref25_Stands_I.call [(.sl (.int .u8) false a0), (.int .i64 a1)] []
noncomputable def qkb (v0 : List Int) (v1 : Int) (v6 : Int) (h8 : List Int) : Option (Bool) := bitloftref25_Stands_I.sem ⟨[.code (cIn (cIn (qca (qua (qca (qca (qca (qja Tryz.prog 37)))))))), .inLoop (cIn (cIn (qca (qua (qca (qca (qca (qja Tryz.prog 37)))))))), .inBlock 0, .code (qca (qca (qca (qca (qja Tryz.prog 37)))))], ⟨[(0, (.one (.sl (.int .u8) false v0))), (1, (.one (.int .i64 v1))), (5, (.one (.ref (.int .u8) 8 0 (List.length h8) true))), (6, (.one (.int .i64 v6)))], [(8, some (.row (.int .u8) true h8))], 9⟩⟩
theorem qeg (a0 : List Int) (a1 : Int) : qTb a0 a1 = (
(qsd).bind fun r1 =>
if (decide (a1 < (0 : Int))) = true then
some (false)
else
if (decide (a1 > (Int.ofNat (List.length a0)))) = true then
some (false)
else
if (decide ((IntKind.wrap .i64 ((Int.ofNat (List.length a0)) - a1)) < (13 : Int))) = true then
some (false)
else
qkb a0 a1 (0 : Int) r1) := (FnI.call_eq (by kernel_rfl)).trans (by kernel_rfl)
theorem qpb (v0 : List Int) (v1 : Int) (v6 : Int) (h8 : List Int) : qkb v0 v1 v6 h8 = (
if (decide (v6 < (13 : Int))) = true then
gd (0 ≤ (IntKind.wrap .i64 (v1 + v6))) <|
gd ((IntKind.wrap .i64 (v1 + v6)) < (Int.ofNat (List.length v0))) <|
gd (0 ≤ v6) <|
gd (v6 < (Int.ofNat (List.length h8))) <|
if ((List.getD v0 (Int.toNat (IntKind.wrap .i64 (v1 + v6))) (0 : Int)) != (List.getD h8 (0 + (Int.toNat v6)) (0 : Int))) = true then
some (false)
else
qkb v0 v1 (IntKind.wrap .i64 (v6 + (1 : Int))) h8
else
some (true)) := (FnI.sem_eq _).trans (by kernel_rfl)
noncomputable def qUg (acc : List AV → Bool) : Summ Tryz.prog GT := bitloftref25_Stands_I.summ mixed acc false false
noncomputable def bitloftref25_Places_I : FnI Tryz.prog GT := { f := 13, cuts := [⟨(3, 3), [0, 3, 4], false, false, []⟩], tab := [qUg (fun _ => true)], fm := ⟨true, [.val (.slice (.int .i64)) [.nw]]⟩ }
noncomputable def qbd (a0 : List Int) : Option (List Int) := bitloftref25_Places_I.call [(.sl (.int .u8) false a0)] []
noncomputable def qQa (v0 : List Int) (v4 : Int) (h8 : List Int) : Option (List Int) := bitloftref25_Places_I.sem ⟨[.code (cIn (cIn (qca (qua (qca (qca (qja Tryz.prog 13))))))), .inLoop (cIn (cIn (qca (qua (qca (qca (qja Tryz.prog 13))))))), .inBlock 0, .code (qca (qca (qca (qja Tryz.prog 13))))], ⟨[(0, (.one (.sl (.int .u8) false v0))), (3, (.one (.ref (.int .i64) 8 0 (List.length h8) true))), (4, (.one (.int .i64 v4)))], [(8, some (.row (.int .i64) true h8))], 9⟩⟩
theorem qok (a0 : List Int) : qbd a0 = (
qQa a0 (0 : Int) []) := (FnI.call_eq (by kernel_rfl)).trans (by kernel_rfl)
theorem qxe (v0 : List Int) (v4 : Int) (h8 : List Int) : qQa v0 v4 h8 = (
if (decide (v4 < (Int.ofNat (List.length v0)))) = true then
gd (0 ≤ v4) <|
gd (v4 < (Int.ofNat (List.length v0))) <|
if ((List.getD v0 (Int.toNat v4) (0 : Int)) == (183 : Int)) = true then
(qTb v0 v4).bind fun r1 =>
if r1 = true then
gd ((List.length (h8 ++ [v4])) * 8 ≤ 140737488355328) <|
qQa v0 (IntKind.wrap .i64 (v4 + (1 : Int))) (h8 ++ [v4])
else
qQa v0 (IntKind.wrap .i64 (v4 + (1 : Int))) h8
else
qQa v0 (IntKind.wrap .i64 (v4 + (1 : Int))) h8
else
some (h8)) := (FnI.sem_eq _).trans (by kernel_rfl)
noncomputable def qVg (acc : List AV → Bool) : Summ Tryz.prog GT := bitloftref25_Places_I.summ mixed acc false false
noncomputable def bitloftref26_Check_I : FnI Tryz.prog GT := { f := 109, cuts := [], tab := [], fm := ⟨true, [.val (.int .i64) []]⟩ }
noncomputable def qrd (a0 : qda) : Option (Int) := bitloftref26_Check_I.call [(.agg qma (inj false qma a0))] []
theorem qpl (a0 : qda) : qrd a0 = (
if (decide (a0.2.1 < (0 : Int))) = true then
some (8 : Int)
else
if (decide (a0.2.1 ≥ (16 : Int))) = true then
some (8 : Int)
else
if (decide (a0.2.2.2.1 < (1 : Int))) = true then
some (8 : Int)
else
if (decide (a0.2.2.2.1 > (4096 : Int))) = true then
some (8 : Int)
else
if (decide (a0.2.2.1 < (0 : Int))) = true then
some (8 : Int)
else
if (decide (a0.2.2.1 > (IntKind.wrap .i64 ((8192 : Int) - a0.2.2.2.1)))) = true then
some (8 : Int)
else
if (a0.1 == (1 : Int)) = true then
if (a0.1 == (2 : Int)) = true then
if (decide (a0.2.2.2.2.1 ≥ (1 : Int))) = true then
if (not (a0.2.2.2.2.1 == a0.2.2.2.1)) = true then
if (not (decide (a0.2.2.2.2.1 < a0.2.2.2.1))) = true then
some (8 : Int)
else
some (0 : Int)
else
some (0 : Int)
else
if (not (a0.2.2.2.2.1 == a0.2.2.2.1)) = true then
some (8 : Int)
else
some (0 : Int)
else
if (not (a0.2.2.2.2.1 == a0.2.2.2.1)) = true then
some (8 : Int)
else
some (0 : Int)
else
if (a0.1 == (2 : Int)) = true then
if (decide (a0.2.2.2.2.1 ≥ (1 : Int))) = true then
if (not (decide (a0.2.2.2.2.1 < a0.2.2.2.1))) = true then
some (8 : Int)
else
some (0 : Int)
else
some (8 : Int)
else
some (8 : Int)) := (FnI.call_eq (by kernel_rfl)).trans (by kernel_rfl)
noncomputable def qoh (acc : List AV → Bool) : Summ Tryz.prog GT := bitloftref26_Check_I.summ mixed acc false false
noncomputable def bitloftref26_Parse_I : FnI Tryz.prog GT := { f := 68, cuts := [⟨(5, 3), [0, 2, 4, 5], false, false, []⟩], tab := [qoh (fun _ => true)], fm := ⟨true, [.val qma [], .val (.int .i64) []]⟩ }
noncomputable def qTf (a0 : List Int) : Option (qda × Int) := bitloftref26_Parse_I.call [(.sl (.int .u8) false a0)] []
noncomputable def qyc (v0 : List Int) (v5 : Int) (b8 : qda) (b9 : qda) : Option (qda × Int) := bitloftref26_Parse_I.sem ⟨[.code (cIn (cIn (qca (qua (qca (qca (qca (qja Tryz.prog 68)))))))), .inLoop (cIn (cIn (qca (qua (qca (qca (qca (qja Tryz.prog 68)))))))), .inBlock 0, .code (qca (qca (qca (qca (qja Tryz.prog 68)))))], ⟨[(0, (.one (.sl (.int .u8) false v0))), (2, (.one (.ptr qma 8 []))), (4, (.one (.ptr qma 9 []))), (5, (.one (.int .i64 v5)))], [(8, some (.box qma (inj false qma b8))), (9, some (.box qma (inj false qma b9)))], 10⟩⟩
theorem qnl (a0 : List Int) : qTf a0 = (
if ((Int.ofNat (List.length a0)) != (28 : Int)) = true then
some (((0 : Int), ((0 : Int), ((0 : Int), ((0 : Int), ((0 : Int), ((List.replicate 20 (0 : Int)), ())))))), (12 : Int))
else
gd (0 ≤ (0 : Int)) <|
gd ((0 : Int) < (Int.ofNat (List.length a0))) <|
gd (0 ≤ (1 : Int)) <|
gd ((1 : Int) < (Int.ofNat (List.length a0))) <|
gd (0 ≤ (2 : Int)) <|
gd ((2 : Int) < (Int.ofNat (List.length a0))) <|
gd (0 ≤ (8 : Int)) <|
gd (0 ≤ (3 : Int)) <|
gd ((3 : Int) < (Int.ofNat (List.length a0))) <|
gd (0 ≤ (4 : Int)) <|
gd ((4 : Int) < (Int.ofNat (List.length a0))) <|
gd (0 ≤ (8 : Int)) <|
gd (0 ≤ (5 : Int)) <|
gd ((5 : Int) < (Int.ofNat (List.length a0))) <|
gd (0 ≤ (6 : Int)) <|
gd ((6 : Int) < (Int.ofNat (List.length a0))) <|
gd (0 ≤ (8 : Int)) <|
gd (0 ≤ (7 : Int)) <|
gd ((7 : Int) < (Int.ofNat (List.length a0))) <|
qyc a0 (0 : Int) ((0 : Int), ((0 : Int), ((0 : Int), ((0 : Int), ((0 : Int), ((List.replicate 20 (0 : Int)), ())))))) ((List.getD a0 0 (0 : Int)), ((IntKind.wrap .i64 (List.getD a0 1 (0 : Int))), ((IntKind.wrap .i64 ((IntKind.wrap .i64 ((IntKind.wrap .i64 (List.getD a0 2 (0 : Int))) * (256 : Int))) + (IntKind.wrap .i64 (List.getD a0 3 (0 : Int))))), ((IntKind.wrap .i64 ((IntKind.wrap .i64 ((IntKind.wrap .i64 (List.getD a0 4 (0 : Int))) * (256 : Int))) + (IntKind.wrap .i64 (List.getD a0 5 (0 : Int))))), ((IntKind.wrap .i64 ((IntKind.wrap .i64 ((IntKind.wrap .i64 (List.getD a0 6 (0 : Int))) * (256 : Int))) + (IntKind.wrap .i64 (List.getD a0 7 (0 : Int))))), ((List.replicate 20 (0 : Int)), ()))))))) := (FnI.call_eq (by kernel_rfl)).trans (by kernel_rfl)
theorem qlf (v0 : List Int) (v5 : Int) (b8 : qda) (b9 : qda) : qyc v0 v5 b8 b9 = (
if (decide (v5 < (20 : Int))) = true then
gd (0 ≤ (IntKind.wrap .i64 ((8 : Int) + v5))) <|
gd ((IntKind.wrap .i64 ((8 : Int) + v5)) < (Int.ofNat (List.length v0))) <|
gd (0 ≤ v5) <|
gd (v5 < (20 : Int)) <|
qyc v0 (IntKind.wrap .i64 (v5 + (1 : Int))) b8 (b9.1, (b9.2.1, (b9.2.2.1, (b9.2.2.2.1, (b9.2.2.2.2.1, ((List.set b9.2.2.2.2.2.1 (Int.toNat v5) (List.getD v0 (Int.toNat (IntKind.wrap .i64 ((8 : Int) + v5))) (0 : Int))), b9.2.2.2.2.2.2))))))
else
(qrd b9).bind fun r1 =>
if (r1 != (0 : Int)) = true then
some (((0 : Int), ((0 : Int), ((0 : Int), ((0 : Int), ((0 : Int), ((List.replicate 20 (0 : Int)), ())))))), (12 : Int))
else
some (b9, (0 : Int))) := (FnI.sem_eq _).trans (by kernel_rfl)
noncomputable def qlm (acc : List AV → Bool) : Summ Tryz.prog GT := bitloftref26_Parse_I.summ mixed acc false false
noncomputable def bitloftref27_Begins_I : FnI Tryz.prog GT := { f := 38, cuts := [], tab := [qlm (fun _ => true), qUg (fun _ => true)], fm := ⟨true, [.val qwa [], .val (.int .i64) [], .val (.int .i64) []]⟩ }
noncomputable def qSb (a0 : List Int) : Option (qoa × Int × Int) := bitloftref27_Begins_I.call [(.sl (.int .u8) false a0)] []
theorem qdg (a0 : List Int) : qSb a0 = (
if (decide ((Int.ofNat (List.length a0)) < (41 : Int))) = true then
some ((((0 : Int), ((0 : Int), ((0 : Int), ((0 : Int), ((0 : Int), ((List.replicate 20 (0 : Int)), ())))))), ([], ())), ((0 : Int), (18 : Int)))
else
gd (0 ≤ (13 : Int)) <|
gd ((13 : Int) ≤ (41 : Int)) <|
gd ((41 : Int) ≤ (Int.ofNat (List.length a0))) <|
(qTf (List.take 28 (List.drop 13 a0))).bind fun r1 =>
(qTb a0 (0 : Int)).bind fun r2 =>
if (not r2) = true then
some ((((0 : Int), ((0 : Int), ((0 : Int), ((0 : Int), ((0 : Int), ((List.replicate 20 (0 : Int)), ())))))), ([], ())), ((0 : Int), (12 : Int)))
else
if (r1.2 != (0 : Int)) = true then
some ((((0 : Int), ((0 : Int), ((0 : Int), ((0 : Int), ((0 : Int), ((List.replicate 20 (0 : Int)), ())))))), ([], ())), ((0 : Int), (12 : Int)))
else
if (decide ((IntKind.wrap .i64 ((Int.ofNat (List.length a0)) - (41 : Int))) < r1.1.2.2.2.2.1)) = true then
some ((((0 : Int), ((0 : Int), ((0 : Int), ((0 : Int), ((0 : Int), ((List.replicate 20 (0 : Int)), ())))))), ([], ())), ((0 : Int), (18 : Int)))
else
gd (0 ≤ (41 : Int)) <|
gd ((41 : Int) ≤ (IntKind.wrap .i64 ((41 : Int) + r1.1.2.2.2.2.1))) <|
gd ((IntKind.wrap .i64 ((41 : Int) + r1.1.2.2.2.2.1)) ≤ (Int.ofNat (List.length a0))) <|
gd ((List.length ([] ++ (List.take ((Int.toNat (IntKind.wrap .i64 ((41 : Int) + r1.1.2.2.2.2.1))) - 41) (List.drop 41 a0)))) * 1 ≤ 140737488355328) <|
some ((r1.1, (([] ++ (List.take ((Int.toNat (IntKind.wrap .i64 ((41 : Int) + r1.1.2.2.2.2.1))) - 41) (List.drop 41 a0))), ())), ((IntKind.wrap .i64 ((41 : Int) + r1.1.2.2.2.2.1)), (0 : Int)))) := (FnI.call_eq (by kernel_rfl)).trans (by kernel_rfl)
noncomputable def qId (acc : List AV → Bool) : Summ Tryz.prog GT := bitloftref27_Begins_I.summ mixed acc false false
noncomputable def bitloftref33_Candidates_I : FnI Tryz.prog GT := { f := 36, cuts := [⟨(4, 3), [0, 3, 4, 5], false, false, []⟩], tab := [qVg (fun _ => true), qId (fun _ => true)], fm := ⟨true, [.val (.slice qwa) [.nw]]⟩ }
noncomputable def qZc (a0 : List Int) : Option (List qoa) := bitloftref33_Candidates_I.call [(.sl (.int .u8) false a0)] []
noncomputable def qPa (v0 : List Int) (v5 : Int) (h8 : List qoa) (h9 : List Int) : Option (List qoa) := bitloftref33_Candidates_I.sem ⟨[.code (cIn (cIn (qca (qua (qca (qca (qca (qja Tryz.prog 36)))))))), .inLoop (cIn (cIn (qca (qua (qca (qca (qca (qja Tryz.prog 36)))))))), .inBlock 0, .code (qca (qca (qca (qca (qja Tryz.prog 36)))))], ⟨[(0, (.one (.sl (.int .u8) false v0))), (3, (.one (.ref qwa 8 0 (List.length h8) true))), (4, (.one (.ref (.int .i64) 9 0 (List.length h9) true))), (5, (.one (.int .i64 v5)))], [(8, some (.row qwa true h8)), (9, some (.row (.int .i64) true h9))], 10⟩⟩
theorem qVh (a0 : List Int) : qZc a0 = (
(qbd a0).bind fun r1 =>
qPa a0 (0 : Int) [] r1) := (FnI.call_eq (by kernel_rfl)).trans (by kernel_rfl)
theorem qfd (v0 : List Int) (v5 : Int) (h8 : List qoa) (h9 : List Int) : qPa v0 v5 h8 h9 = (
if (decide (v5 < (Int.ofNat (List.length h9)))) = true then
gd (0 ≤ v5) <|
gd (v5 < (Int.ofNat (List.length h9))) <|
gd (0 ≤ (List.getD h9 (0 + (Int.toNat v5)) (0 : Int))) <|
gd ((List.getD h9 (0 + (Int.toNat v5)) (0 : Int)) ≤ (Int.ofNat (List.length v0))) <|
(qSb (List.drop (Int.toNat (List.getD h9 (0 + (Int.toNat v5)) (0 : Int))) v0)).bind fun r2 =>
if (r2.2.2 == (0 : Int)) = true then
gd ((List.length (h8 ++ [r2.1])) * 88 ≤ 140737488355328) <|
qPa v0 (IntKind.wrap .i64 (v5 + (1 : Int))) (h8 ++ [r2.1]) h9
else
qPa v0 (IntKind.wrap .i64 (v5 + (1 : Int))) h8 h9
else
some (h8)) := (FnI.sem_eq _).trans (by kernel_rfl)
noncomputable def qJi (acc : List AV → Bool) : Summ Tryz.prog GT := bitloftref33_Candidates_I.summ mixed acc false false
noncomputable def bitloftlaw35_coded_I : FnI Tryz.prog GT := { f := 12, cuts := [⟨(3, 3), [3, 4], false, false, []⟩], tab := [qJi (fun _ => true)], fm := ⟨true, [.val .bool []]⟩ }
noncomputable def qYf (a0 : List Int) : Option (Bool) := bitloftlaw35_coded_I.call [(.sl (.int .u8) false a0)] []
noncomputable def qzc (v4 : Int) (h8 : List qoa) : Option (Bool) := bitloftlaw35_coded_I.sem ⟨[.code (cIn (cIn (qca (qua (qca (qca (qja Tryz.prog 12))))))), .inLoop (cIn (cIn (qca (qua (qca (qca (qja Tryz.prog 12))))))), .inBlock 0, .code (qca (qca (qca (qja Tryz.prog 12))))], ⟨[(3, (.one (.ref qwa 8 0 (List.length h8) true))), (4, (.one (.int .i64 v4)))], [(8, some (.row qwa true h8))], 9⟩⟩
theorem qul (a0 : List Int) : qYf a0 = (
(qZc a0).bind fun r1 =>
qzc (0 : Int) r1) := (FnI.call_eq (by kernel_rfl)).trans (by kernel_rfl)
theorem qmf (v4 : Int) (h8 : List qoa) : qzc v4 h8 = (
if (decide (v4 < (Int.ofNat (List.length h8)))) = true then
gd (0 ≤ v4) <|
gd (v4 < (Int.ofNat (List.length h8))) <|
if ((List.getD h8 (0 + (Int.toNat v4)) (qla qwa)).1.1 == (2 : Int)) = true then
some (true)
else
qzc (IntKind.wrap .i64 (v4 + (1 : Int))) h8
else
some (false)) := (FnI.sem_eq _).trans (by kernel_rfl)
noncomputable def qrm (acc : List AV → Bool) : Summ Tryz.prog GT := bitloftlaw35_coded_I.summ mixed acc false false
noncomputable def marker_Find_I : FnI Tryz.prog GT := { f := 40, cuts := [], tab := [qAm (fun _ => true), qBm (fun _ => true), qMu (fun _ => true)], fm := ⟨true, [.val (.int .i64) [], .val (.int .i64) []]⟩ }
noncomputable def qBc (a0 : List Int) (a1 : Int) : Option (Int × Int) := marker_Find_I.call [(.sl (.int .u8) false a0), (.int .i64 a1)] []
theorem qZs (a0 : List Int) (a1 : Int) : qBc a0 a1 = (
(qji a0 a1).bind fun r1 =>
if (r1 != (0 : Int)) = true then
some ((0 : Int), r1)
else
gd (0 ≤ a1) <|
gd (a1 ≤ (Int.ofNat (List.length a0))) <|
(qki).bind fun r2 =>
(qPh (List.drop (Int.toNat a1) a0) r2).bind fun r3 =>
if (decide (r3 < (0 : Int))) = true then
some ((0 : Int), (6 : Int))
else
some ((IntKind.wrap .i64 (a1 + r3)), (0 : Int))) := (FnI.call_eq (by kernel_rfl)).trans (by kernel_rfl)
noncomputable def qnu (acc : List AV → Bool) : Summ Tryz.prog GT := marker_Find_I.summ mixed acc false false
noncomputable def block_Check_I : FnI Tryz.prog GT := { f := 79, cuts := [], tab := [qBg (fun _ => true)], fm := ⟨true, [.val (.int .i64) []]⟩ }
noncomputable def qqn (a0 : qoa) : Option (Int) := block_Check_I.call [(.agg qwa (inj false qwa a0))] []
theorem qst (a0 : qoa) : qqn a0 = (
(qVe a0.1).bind fun r1 =>
if (r1 != (0 : Int)) = true then
some (8 : Int)
else
if ((Int.ofNat (List.length a0.2.1)) != a0.1.2.2.2.2.1) = true then
some (8 : Int)
else
some (0 : Int)) := (FnI.call_eq (by kernel_rfl)).trans (by kernel_rfl)
noncomputable def qPu (acc : List AV → Bool) : Summ Tryz.prog GT := block_Check_I.summ mixed acc false false
noncomputable def block_isLevel_I : FnI Tryz.prog GT := { f := 80, cuts := [], tab := [], fm := ⟨true, [.val .bool []]⟩ }
noncomputable def qSj (a0 : Int) : Option (Bool) := block_isLevel_I.call [(.int .i64 a0)] []
theorem qFq (a0 : Int) : qSj a0 = (
if (decide (a0 ≥ (0 : Int))) = true then
some (decide (a0 ≤ (7 : Int)))
else
some (false)) := (FnI.call_eq (by kernel_rfl)).trans (by kernel_rfl)
noncomputable def qAs (acc : List AV → Bool) : Summ Tryz.prog GT := block_isLevel_I.summ mixed acc false false
end Go.Ab

set_option linter.unusedVariables false
set_option maxRecDepth 20000
namespace Go.Ab
open Go Go.Proofs
noncomputable def header_front_I : FnI Tryz.prog GT := { f := 198, cuts := [⟨(3, 3), [3, 18, 19], false, false, []⟩, ⟨(6, 7), [3, 4, 5, 18, 19, 25, 26], false, false, []⟩], tab := [], fm := ⟨true, [.val (.slice (.int .u8)) [.nw]]⟩ }
noncomputable def qNk (a0 : qda) : Option (List Int) := header_front_I.call [(.agg qma (inj false qma a0))] []
noncomputable def qPb (v18 : (List Int)) (v19 : Int) (h8 : List Int) : Option (List Int) := header_front_I.sem ⟨[.code (cIn (cIn (qca (qua (qca (qca (qja Tryz.prog 198))))))), .inLoop (cIn (cIn (qca (qua (qca (qca (qja Tryz.prog 198))))))), .inBlock 0, .code (qca (qca (qca (qja Tryz.prog 198))))], ⟨[(3, (.one (.ref (.int .u8) 8 0 (List.length h8) true))), (18, (.one (.agg (.arr 5 (.int .i64)) v18))), (19, (.one (.int .i64 v19)))], [(8, some (.row (.int .u8) true h8))], 9⟩⟩
noncomputable def qHh (v4 : Int) (v5 : Int) (v18 : (List Int)) (v19 : Int) (v25 : Int) (v26 : Int) (h8 : List Int) : Option (List Int) := header_front_I.sem ⟨[.code (cIn (cIn (qca (qca (cIn (qua (qca (qca (cIn (cIn (qca (qua (qca (qca (qja Tryz.prog 198))))))))))))))), .inLoop (cIn (cIn (qca (qca (cIn (qua (qca (qca (cIn (cIn (qca (qua (qca (qca (qja Tryz.prog 198))))))))))))))), .inBlock 2, .inBlock 1, .code (qca (qca (qca (cIn (cIn (qca (qua (qca (qca (qja Tryz.prog 198)))))))))), .inLoop (cIn (cIn (qca (qua (qca (qca (qja Tryz.prog 198))))))), .inBlock 0, .code (qca (qca (qca (qja Tryz.prog 198))))], ⟨[(3, (.one (.ref (.int .u8) 8 0 (List.length h8) true))), (4, (.one (.int .i64 v4))), (5, (.one (.int .i64 v5))), (18, (.one (.agg (.arr 5 (.int .i64)) v18))), (19, (.one (.int .i64 v19))), (25, (.one (.int .i64 v25))), (26, (.one (.int .i64 v26)))], [(8, some (.row (.int .u8) true h8))], 9⟩⟩
theorem qfs (a0 : qda) : qNk a0 = (
qPb (List.set (List.set (List.set (List.set (List.set (List.replicate 5 (0 : Int)) 0 (IntKind.wrap .i64 a0.1)) 1 a0.2.1) 2 a0.2.2.1) 3 a0.2.2.2.1) 4 a0.2.2.2.2.1) (0 : Int) []) := (FnI.call_eq (by kernel_rfl)).trans (by kernel_rfl)
theorem qzf (v18 : (List Int)) (v19 : Int) (h8 : List Int) : qPb v18 v19 h8 = (
if (decide (v19 < (5 : Int))) = true then
gd (0 ≤ v19) <|
gd (v19 < (5 : Int)) <|
gd (0 ≤ v19) <|
gd (v19 < (5 : Int)) <|
qHh v19 (List.getD v18 (Int.toNat v19) (0 : Int)) v18 v19 (List.getD G_widths (Int.toNat v19) (0 : Int)) (0 : Int) h8
else
some (h8)) := (FnI.sem_eq _).trans (by kernel_rfl)
theorem qnc (v4 : Int) (v5 : Int) (v18 : (List Int)) (v19 : Int) (v25 : Int) (v26 : Int) (h8 : List Int) : qHh v4 v5 v18 v19 v25 v26 h8 = (
if (decide (v26 < v25)) = true then
gd (0 ≤ v4) <|
gd (v4 < (5 : Int)) <|
gd (0 ≤ (IntKind.wrap .i64 ((8 : Int) * (IntKind.wrap .i64 ((IntKind.wrap .i64 ((List.getD G_widths (Int.toNat v4) (0 : Int)) - (1 : Int))) - v26))))) <|
gd ((List.length (h8 ++ [(IntKind.wrap .u8 (qQi .i64 v5 (IntKind.wrap .i64 ((8 : Int) * (IntKind.wrap .i64 ((IntKind.wrap .i64 ((List.getD G_widths (Int.toNat v4) (0 : Int)) - (1 : Int))) - v26))))))])) * 1 ≤ 140737488355328) <|
qHh v4 v5 v18 v19 v25 (IntKind.wrap .i64 (v26 + (1 : Int))) (h8 ++ [(IntKind.wrap .u8 (qQi .i64 v5 (IntKind.wrap .i64 ((8 : Int) * (IntKind.wrap .i64 ((IntKind.wrap .i64 ((List.getD G_widths (Int.toNat v4) (0 : Int)) - (1 : Int))) - v26))))))])
else
qPb v18 (IntKind.wrap .i64 (v19 + (1 : Int))) h8) := (FnI.sem_eq _).trans (by kernel_rfl)
noncomputable def qft (acc : List AV → Bool) : Summ Tryz.prog GT := header_front_I.summ mixed acc false false
noncomputable def header_digest_I : FnI Tryz.prog GT := { f := 136, cuts := [], tab := [qft (fun _ => true), qRn (fun _ => true)], fm := ⟨true, [.val (.arr 20 (.int .u8)) []]⟩ }
noncomputable def qKj (a0 : qda) (a1 : List Int) : Option ((List Int)) := header_digest_I.call [(.agg qma (inj false qma a0)), (.sl (.int .u8) false a1)] []
theorem qek (a0 : qda) (a1 : List Int) : qKj a0 a1 = (
(qNk a0).bind fun r1 =>
gd ((List.length (r1 ++ a1)) * 1 ≤ 140737488355328) <|
(qYo (r1 ++ a1)).bind fun r2 =>
some (r2.1)) := (FnI.call_eq (by kernel_rfl)).trans (by kernel_rfl)
noncomputable def qgs (acc : List AV → Bool) : Summ Tryz.prog GT := header_digest_I.summ mixed acc false false
noncomputable def header_Right_I : FnI Tryz.prog GT := { f := 84, cuts := [], tab := [qBg (fun _ => true), qgs (fun _ => true)], fm := ⟨true, [.val .bool [], .val (.int .i64) []]⟩ }
noncomputable def qOg (a0 : qda) (a1 : List Int) : Option (Bool × Int) := header_Right_I.call [(.agg qma (inj false qma a0)), (.sl (.int .u8) false a1)] []
theorem qOk (a0 : qda) (a1 : List Int) : qOg a0 a1 = (
(qVe a0).bind fun r1 =>
if (r1 != (0 : Int)) = true then
some (false, r1)
else
if ((Int.ofNat (List.length a1)) == a0.2.2.2.1) = true then
(qKj a0 a1).bind fun r2 =>
some ((peq (.arr 20 (.int .u8)) r2 a0.2.2.2.2.2.1), (0 : Int))
else
some (false, (0 : Int))) := (FnI.call_eq (by kernel_rfl)).trans (by kernel_rfl)
noncomputable def qIm (acc : List AV → Bool) : Summ Tryz.prog GT := header_Right_I.summ mixed acc false false
noncomputable def block_Raw_I : FnI Tryz.prog GT := { f := 42, cuts := [], tab := [qPu (fun _ => true), qAs (fun _ => true), qRj (fun _ => true), qIm (fun _ => true)], fm := ⟨true, [.val (.slice (.int .u8)) [.nw], .val (.int .i64) []]⟩ }
noncomputable def qoj (a0 : Int) (a1 : qoa) : Option (List Int × Int) := block_Raw_I.call [(.int .i64 a0), (.agg qwa (inj false qwa a1))] []
theorem qqw (a0 : Int) (a1 : qoa) : qoj a0 a1 = (
(qqn a1).bind fun r1 =>
if (r1 != (0 : Int)) = true then
some ([], r1)
else
(qSj a0).bind fun r2 =>
if (not r2) = true then
some ([], (2 : Int))
else
(qKe a1.2.1).bind fun r3 =>
if (a1.1.1 == (2 : Int)) = true then
none
else
(qOg a1.1 r3).bind fun r4 =>
if (not r4.1) = true then
some ([], (22 : Int))
else
some (r3, (0 : Int))) := (FnI.call_eq (by kernel_rfl)).trans (by kernel_rfl)
noncomputable def qOx (acc : List AV → Bool) : Summ Tryz.prog GT := block_Raw_I.summ mixed acc false false
noncomputable def salvage_Salvage_I : FnI Tryz.prog GT := { f := 15, cuts := [⟨(7, 3), [0, 1, 6, 7, 8], false, false, []⟩], tab := [qnu (fun _ => true), qhq (fun _ => true), qOx (fun _ => true)], fm := ⟨true, [.val (.slice qva) [.nw], .val (.int .i64) []]⟩ }
noncomputable def qrf (a0 : Int) (a1 : List Int) : Option (List qpa × Int) := salvage_Salvage_I.call [(.int .i64 a0), (.sl (.int .u8) false a1)] []
noncomputable def qab (v0 : Int) (v1 : List Int) (v7 : Int) (v8 : Int) (h8 : List qpa) : Option (List qpa × Int) := salvage_Salvage_I.sem ⟨[.code (cIn (cIn (qca (qua (qca (qca (qca (qja Tryz.prog 15)))))))), .inLoop (cIn (cIn (qca (qua (qca (qca (qca (qja Tryz.prog 15)))))))), .inBlock 1, .code (qca (qca (qca (qca (qja Tryz.prog 15)))))], ⟨[(0, (.one (.int .i64 v0))), (1, (.one (.sl (.int .u8) false v1))), (6, (.one (.ref qva 8 0 (List.length h8) true))), (7, (.one (.int .i64 v7))), (8, (.one (.int .i64 v8)))], [(8, some (.row qva true h8))], 9⟩⟩
theorem qUn (a0 : Int) (a1 : List Int) : qrf a0 a1 = (
if (decide (a0 < (0 : Int))) = true then
some ([], (2 : Int))
else
if (decide (a0 > (7 : Int))) = true then
some ([], (2 : Int))
else
if (decide ((Int.ofNat (List.length a1)) > (50000 : Int))) = true then
some ([], (4 : Int))
else
(qBc a1 (0 : Int)).bind fun r1 =>
qab a0 a1 r1.1 r1.2 []) := (FnI.call_eq (by kernel_rfl)).trans (by kernel_rfl)
theorem qHg (v0 : Int) (v1 : List Int) (v7 : Int) (v8 : Int) (h8 : List qpa) : qab v0 v1 v7 v8 h8 = (
if (v8 == (0 : Int)) = true then
gd (0 ≤ v7) <|
gd (v7 ≤ (Int.ofNat (List.length v1))) <|
(qnj (List.drop (Int.toNat v7) v1)).bind fun r2 =>
if (r2.2.2 != (0 : Int)) = true then
(qBc v1 (IntKind.wrap .i64 (v7 + (1 : Int)))).bind fun r3 =>
qab v0 v1 r3.1 r3.2 h8
else
(qoj v0 r2.1).bind fun r4 =>
if (r4.2 != (0 : Int)) = true then
(qBc v1 (IntKind.wrap .i64 (v7 + (1 : Int)))).bind fun r5 =>
qab v0 v1 r5.1 r5.2 h8
else
gd ((List.length (h8 ++ [(v7, (r2.1.1, (r4.1, ())))])) * 96 ≤ 140737488355328) <|
(qBc v1 (IntKind.wrap .i64 (v7 + r2.2.1))).bind fun r6 =>
qab v0 v1 r6.1 r6.2 (h8 ++ [(v7, (r2.1.1, (r4.1, ())))])
else
some (h8, (0 : Int))) := (FnI.sem_eq _).trans (by kernel_rfl)
noncomputable def qZo (acc : List AV → Bool) : Summ Tryz.prog GT := salvage_Salvage_I.summ mixed acc false false
noncomputable def bitloftref30_Check_I : FnI Tryz.prog GT := { f := 137, cuts := [], tab := [qne (fun _ => true)], fm := ⟨true, [.val (.int .i64) []]⟩ }
noncomputable def qJf (a0 : qna) : Option (Int) := bitloftref30_Check_I.call [(.agg qqa (inj false qqa a0))] []
theorem qbl (a0 : qna) : qJf a0 = (
if (decide (a0.1 < (0 : Int))) = true then
some (2 : Int)
else
if (decide (a0.1 > (7 : Int))) = true then
some (2 : Int)
else
(qsc a0.2.1).bind fun r1 =>
if (not r1) = true then
some (2 : Int)
else
some (0 : Int)) := (FnI.call_eq (by kernel_rfl)).trans (by kernel_rfl)
noncomputable def qXl (acc : List AV → Bool) : Summ Tryz.prog GT := bitloftref30_Check_I.summ mixed acc false false
noncomputable def bitloftref28_Valid_I : FnI Tryz.prog GT := { f := 199, cuts := [⟨(5, 3), [0, 3, 4], false, false, []⟩, ⟨(14, 3), [0, 6], false, false, []⟩, ⟨(17, 7), [0, 6, 7], false, false, []⟩], tab := [qSh (fun _ => true), qUc (fun _ => true)], fm := ⟨true, [.val (.int .i64) []]⟩ }
noncomputable def qMf (a0 : List qaa) : Option (Int) := bitloftref28_Valid_I.call [(.sl qba false a0)] []
noncomputable def qsb (v0 : List qaa) (v3 : Int) (v4 : Int) : Option (Int) := bitloftref28_Valid_I.sem ⟨[.code (cIn (cIn (qca (qua (qca (qca (qca (qja Tryz.prog 199)))))))), .inLoop (cIn (cIn (qca (qua (qca (qca (qca (qja Tryz.prog 199)))))))), .inBlock 0, .code (qca (qca (qca (qca (qja Tryz.prog 199)))))], ⟨[(0, (.one (.sl qba false v0))), (3, (.one (.int .i64 v3))), (4, (.one (.int .i64 v4)))], [], 8⟩⟩
noncomputable def qrb (v0 : List qaa) (v6 : Int) : Option (Int) := bitloftref28_Valid_I.sem ⟨[.code (cIn (cIn (qca (qua (qca (qca (qca (qca (qca (qja Tryz.prog 199)))))))))), .inLoop (cIn (cIn (qca (qua (qca (qca (qca (qca (qca (qja Tryz.prog 199)))))))))), .inBlock 2, .code (qca (qca (qca (qca (qca (qca (qja Tryz.prog 199)))))))], ⟨[(0, (.one (.sl qba false v0))), (6, (.one (.int .i64 v6)))], [], 8⟩⟩
noncomputable def qtc (v0 : List qaa) (v6 : Int) (v7 : Int) : Option (Int) := bitloftref28_Valid_I.sem ⟨[.code (cIn (cIn (qca (cIn (qua (qca (cIn (cIn (qca (qua (qca (qca (qca (qca (qca (qja Tryz.prog 199)))))))))))))))), .inLoop (cIn (cIn (qca (cIn (qua (qca (cIn (cIn (qca (qua (qca (qca (qca (qca (qca (qja Tryz.prog 199)))))))))))))))), .inBlock 4, .inBlock 3, .code (qca (qca (cIn (cIn (qca (qua (qca (qca (qca (qca (qca (qja Tryz.prog 199)))))))))))), .inLoop (cIn (cIn (qca (qua (qca (qca (qca (qca (qca (qja Tryz.prog 199)))))))))), .inBlock 2, .code (qca (qca (qca (qca (qca (qca (qja Tryz.prog 199)))))))], ⟨[(0, (.one (.sl qba false v0))), (6, (.one (.int .i64 v6))), (7, (.one (.int .i64 v7)))], [], 8⟩⟩
theorem qgl (a0 : List qaa) : qMf a0 = (
if (decide ((Int.ofNat (List.length a0)) > (16 : Int))) = true then
some (4 : Int)
else
qsb a0 (0 : Int) (0 : Int)) := (FnI.call_eq (by kernel_rfl)).trans (by kernel_rfl)
theorem qef (v0 : List qaa) (v3 : Int) (v4 : Int) : qsb v0 v3 v4 = (
if (decide (v4 < (Int.ofNat (List.length v0)))) = true then
gd (0 ≤ v4) <|
gd (v4 < (Int.ofNat (List.length v0))) <|
(qTd (List.getD v0 (Int.toNat v4) (qla qba)).1).bind fun r1 =>
if (not r1) = true then
some (8 : Int)
else
if (decide ((List.getD v0 (Int.toNat v4) (qla qba)).2.1 < (0 : Int))) = true then
some (8 : Int)
else
if (decide ((List.getD v0 (Int.toNat v4) (qla qba)).2.1 > (8192 : Int))) = true then
some (8 : Int)
else
if ((List.getD v0 (Int.toNat v4) (qla qba)).2.1 == (0 : Int)) = true then
(qub []).bind fun r2 =>
if (not (peq (.arr 20 (.int .u8)) (List.getD v0 (Int.toNat v4) (qla qba)).2.2.1 r2)) = true then
some (8 : Int)
else
qsb v0 (IntKind.wrap .i64 (v3 + (List.getD v0 (Int.toNat v4) (qla qba)).2.1)) (IntKind.wrap .i64 (v4 + (1 : Int)))
else
qsb v0 (IntKind.wrap .i64 (v3 + (List.getD v0 (Int.toNat v4) (qla qba)).2.1)) (IntKind.wrap .i64 (v4 + (1 : Int)))
else
if (decide (v3 > (8192 : Int))) = true then
some (4 : Int)
else
qrb v0 (0 : Int)) := (FnI.sem_eq _).trans (by kernel_rfl)
theorem qdf (v0 : List qaa) (v6 : Int) : qrb v0 v6 = (
if (decide (v6 < (Int.ofNat (List.length v0)))) = true then
qtc v0 v6 (0 : Int)
else
some (0 : Int)) := (FnI.sem_eq _).trans (by kernel_rfl)
theorem qcf (v0 : List qaa) (v6 : Int) (v7 : Int) : qtc v0 v6 v7 = (
if (decide (v7 < v6)) = true then
gd (0 ≤ v7) <|
gd (v7 < (Int.ofNat (List.length v0))) <|
gd (0 ≤ v6) <|
gd (v6 < (Int.ofNat (List.length v0))) <|
if ((ByteArray.toList (List.getD v0 (Int.toNat v7) (qla qba)).1) == (ByteArray.toList (List.getD v0 (Int.toNat v6) (qla qba)).1)) = true then
some (14 : Int)
else
qtc v0 v6 (IntKind.wrap .i64 (v7 + (1 : Int)))
else
qrb v0 (IntKind.wrap .i64 (v6 + (1 : Int)))) := (FnI.sem_eq _).trans (by kernel_rfl)
noncomputable def qbm (acc : List AV → Bool) : Summ Tryz.prog GT := bitloftref28_Valid_I.summ mixed acc false false
noncomputable def bitloftref28_Read_I : FnI Tryz.prog GT := { f := 138, cuts := [⟨(8, 3), [0, 1, 7, 8, 9], false, false, []⟩, ⟨(15, 8), [0, 1, 7, 8, 9, 10, 11, 12], false, false, []⟩], tab := [qbm (fun _ => true)], fm := ⟨true, [.val (.slice qba) [.nw], .val (.int .i64) [], .val (.int .i64) []]⟩ }
noncomputable def qqg (a0 : List Int) (a1 : Int) : Option (List qaa × Int × Int) := bitloftref28_Read_I.call [(.sl (.int .u8) false a0), (.int .i64 a1)] []
noncomputable def qBb (v0 : List Int) (v1 : Int) (v8 : Int) (v9 : Int) (h8 : List qaa) : Option (List qaa × Int × Int) := bitloftref28_Read_I.sem ⟨[.code (cIn (cIn (qca (qua (qca (qca (qca (qca (qca (qja Tryz.prog 138)))))))))), .inLoop (cIn (cIn (qca (qua (qca (qca (qca (qca (qca (qja Tryz.prog 138)))))))))), .inBlock 0, .code (qca (qca (qca (qca (qca (qca (qja Tryz.prog 138)))))))], ⟨[(0, (.one (.sl (.int .u8) false v0))), (1, (.one (.int .i64 v1))), (7, (.one (.ref qba 8 0 (List.length h8) true))), (8, (.one (.int .i64 v8))), (9, (.one (.int .i64 v9)))], [(8, some (.row qba true h8))], 9⟩⟩
noncomputable def qIc (v0 : List Int) (v1 : Int) (v8 : Int) (v9 : Int) (v10 : Int) (v12 : Int) (h8 : List qaa) (b9 : qaa) : Option (List qaa × Int × Int) := bitloftref28_Read_I.sem ⟨[.code (cIn (cIn (qca (qua (qca (qca (qca (cIn (qua (qca (cIn (cIn (qca (qua (qca (qca (qca (qca (qca (qja Tryz.prog 138)))))))))))))))))))), .inLoop (cIn (cIn (qca (qua (qca (qca (qca (cIn (qua (qca (cIn (cIn (qca (qua (qca (qca (qca (qca (qca (qja Tryz.prog 138)))))))))))))))))))), .inBlock 2, .code (qca (qca (qca (qca (cIn (qua (qca (cIn (cIn (qca (qua (qca (qca (qca (qca (qca (qja Tryz.prog 138))))))))))))))))), .inBlock 1, .code (qca (qca (cIn (cIn (qca (qua (qca (qca (qca (qca (qca (qja Tryz.prog 138)))))))))))), .inLoop (cIn (cIn (qca (qua (qca (qca (qca (qca (qca (qja Tryz.prog 138)))))))))), .inBlock 0, .code (qca (qca (qca (qca (qca (qca (qja Tryz.prog 138)))))))], ⟨[(0, (.one (.sl (.int .u8) false v0))), (1, (.one (.int .i64 v1))), (7, (.one (.ref qba 8 0 (List.length h8) true))), (8, (.one (.int .i64 v8))), (9, (.one (.int .i64 v9))), (10, (.one (.int .i64 v10))), (11, (.one (.ptr qba 9 []))), (12, (.one (.int .i64 v12)))], [(8, some (.row qba true h8)), (9, some (.box qba (inj false qba b9)))], 10⟩⟩
theorem qcm (a0 : List Int) (a1 : Int) : qqg a0 a1 = (
if (decide (a1 < (0 : Int))) = true then
some ([], ((0 : Int), (2 : Int)))
else
if (decide (a1 > (16 : Int))) = true then
some ([], ((0 : Int), (2 : Int)))
else
if (decide ((Int.ofNat (List.length a0)) > (50000 : Int))) = true then
some ([], ((0 : Int), (4 : Int)))
else
qBb a0 a1 (0 : Int) (0 : Int) []) := (FnI.call_eq (by kernel_rfl)).trans (by kernel_rfl)
theorem qOf (v0 : List Int) (v1 : Int) (v8 : Int) (v9 : Int) (h8 : List qaa) : qBb v0 v1 v8 v9 h8 = (
if (decide (v9 < v1)) = true then
if (decide (v8 ≥ (Int.ofNat (List.length v0)))) = true then
some ([], ((0 : Int), (18 : Int)))
else
gd (0 ≤ v8) <|
gd (v8 < (Int.ofNat (List.length v0))) <|
if (decide ((IntKind.wrap .i64 ((IntKind.wrap .i64 ((Int.ofNat (List.length v0)) - v8)) - (1 : Int))) < (IntKind.wrap .i64 ((IntKind.wrap .i64 (List.getD v0 (Int.toNat v8) (0 : Int))) + (22 : Int))))) = true then
some ([], ((0 : Int), (18 : Int)))
else
gd (0 ≤ v8) <|
gd (v8 < (Int.ofNat (List.length v0))) <|
gd (0 ≤ (IntKind.wrap .i64 (v8 + (1 : Int)))) <|
gd ((IntKind.wrap .i64 (v8 + (1 : Int))) ≤ (IntKind.wrap .i64 ((IntKind.wrap .i64 (v8 + (1 : Int))) + (IntKind.wrap .i64 (List.getD v0 (Int.toNat v8) (0 : Int)))))) <|
gd ((IntKind.wrap .i64 ((IntKind.wrap .i64 (v8 + (1 : Int))) + (IntKind.wrap .i64 (List.getD v0 (Int.toNat v8) (0 : Int))))) ≤ (Int.ofNat (List.length v0))) <|
gd (0 ≤ (IntKind.wrap .i64 ((IntKind.wrap .i64 (v8 + (1 : Int))) + (IntKind.wrap .i64 (List.getD v0 (Int.toNat v8) (0 : Int)))))) <|
gd ((IntKind.wrap .i64 ((IntKind.wrap .i64 (v8 + (1 : Int))) + (IntKind.wrap .i64 (List.getD v0 (Int.toNat v8) (0 : Int))))) < (Int.ofNat (List.length v0))) <|
gd (0 ≤ (8 : Int)) <|
gd (0 ≤ (IntKind.wrap .i64 ((IntKind.wrap .i64 (v8 + (2 : Int))) + (IntKind.wrap .i64 (List.getD v0 (Int.toNat v8) (0 : Int)))))) <|
gd ((IntKind.wrap .i64 ((IntKind.wrap .i64 (v8 + (2 : Int))) + (IntKind.wrap .i64 (List.getD v0 (Int.toNat v8) (0 : Int))))) < (Int.ofNat (List.length v0))) <|
qIc v0 v1 v8 v9 (IntKind.wrap .i64 (List.getD v0 (Int.toNat v8) (0 : Int))) (0 : Int) h8 ((qEg (List.take ((Int.toNat (IntKind.wrap .i64 ((IntKind.wrap .i64 (v8 + (1 : Int))) + (IntKind.wrap .i64 (List.getD v0 (Int.toNat v8) (0 : Int)))))) - (Int.toNat (IntKind.wrap .i64 (v8 + (1 : Int))))) (List.drop (Int.toNat (IntKind.wrap .i64 (v8 + (1 : Int)))) v0))), ((IntKind.wrap .i64 ((IntKind.wrap .i64 ((IntKind.wrap .i64 (List.getD v0 (Int.toNat (IntKind.wrap .i64 ((IntKind.wrap .i64 (v8 + (1 : Int))) + (IntKind.wrap .i64 (List.getD v0 (Int.toNat v8) (0 : Int)))))) (0 : Int))) * (256 : Int))) + (IntKind.wrap .i64 (List.getD v0 (Int.toNat (IntKind.wrap .i64 ((IntKind.wrap .i64 (v8 + (2 : Int))) + (IntKind.wrap .i64 (List.getD v0 (Int.toNat v8) (0 : Int)))))) (0 : Int))))), ((List.replicate 20 (0 : Int)), ())))
else
(qMf h8).bind fun r1 =>
if (r1 != (0 : Int)) = true then
some ([], ((0 : Int), (12 : Int)))
else
some (h8, (v8, (0 : Int)))) := (FnI.sem_eq _).trans (by kernel_rfl)
theorem qNf (v0 : List Int) (v1 : Int) (v8 : Int) (v9 : Int) (v10 : Int) (v12 : Int) (h8 : List qaa) (b9 : qaa) : qIc v0 v1 v8 v9 v10 v12 h8 b9 = (
if (decide (v12 < (20 : Int))) = true then
gd (0 ≤ (IntKind.wrap .i64 ((IntKind.wrap .i64 ((IntKind.wrap .i64 (v8 + (3 : Int))) + v10)) + v12))) <|
gd ((IntKind.wrap .i64 ((IntKind.wrap .i64 ((IntKind.wrap .i64 (v8 + (3 : Int))) + v10)) + v12)) < (Int.ofNat (List.length v0))) <|
gd (0 ≤ v12) <|
gd (v12 < (20 : Int)) <|
qIc v0 v1 v8 v9 v10 (IntKind.wrap .i64 (v12 + (1 : Int))) h8 (b9.1, (b9.2.1, ((List.set b9.2.2.1 (Int.toNat v12) (List.getD v0 (Int.toNat (IntKind.wrap .i64 ((IntKind.wrap .i64 ((IntKind.wrap .i64 (v8 + (3 : Int))) + v10)) + v12))) (0 : Int))), b9.2.2.2)))
else
gd ((List.length (h8 ++ [b9])) * 48 ≤ 140737488355328) <|
qBb v0 v1 (IntKind.wrap .i64 (v8 + (IntKind.wrap .i64 (v10 + (23 : Int))))) (IntKind.wrap .i64 (v9 + (1 : Int))) (h8 ++ [b9])) := (FnI.sem_eq _).trans (by kernel_rfl)
noncomputable def qwn (acc : List AV → Bool) : Summ Tryz.prog GT := bitloftref28_Read_I.summ mixed acc false false
noncomputable def bitloftref31_Head_I : FnI Tryz.prog GT := { f := 85, cuts := [], tab := [qXl (fun _ => true), qwn (fun _ => true), qUc (fun _ => true)], fm := ⟨true, [.val qqa [], .val (.slice qba) [.nw], .val (.int .i64) [], .val (.int .i64) []]⟩ }
noncomputable def qng (a0 : List Int) : Option (qna × List qaa × Int × Int) := bitloftref31_Head_I.call [(.sl (.int .u8) false a0)] []
theorem qTl (a0 : List Int) : qng a0 = (
if (decide ((Int.ofNat (List.length a0)) > (50000 : Int))) = true then
some (((0 : Int), ((0 : Int), ())), ([], ((0 : Int), (4 : Int))))
else
if (decide ((Int.ofNat (List.length a0)) < (8 : Int))) = true then
some (((0 : Int), ((0 : Int), ())), ([], ((0 : Int), (18 : Int))))
else
gd (0 ≤ (4 : Int)) <|
gd ((4 : Int) < (Int.ofNat (List.length a0))) <|
gd (0 ≤ (5 : Int)) <|
gd ((5 : Int) < (Int.ofNat (List.length a0))) <|
gd (0 ≤ (8 : Int)) <|
gd (0 ≤ (6 : Int)) <|
gd ((6 : Int) < (Int.ofNat (List.length a0))) <|
gd (0 ≤ (4 : Int)) <|
gd ((4 : Int) ≤ (Int.ofNat (List.length a0))) <|
if (not ((ByteArray.toList (qEg (List.take 4 a0))) == (ByteArray.toList (ByteArray.mk #[66, 76, 70, 1])))) = true then
some (((0 : Int), ((0 : Int), ())), ([], ((0 : Int), (12 : Int))))
else
(qJf ((IntKind.wrap .i64 (List.getD a0 4 (0 : Int))), ((IntKind.wrap .i64 ((IntKind.wrap .i64 ((IntKind.wrap .i64 (List.getD a0 5 (0 : Int))) * (256 : Int))) + (IntKind.wrap .i64 (List.getD a0 6 (0 : Int))))), ()))).bind fun r1 =>
if (r1 != (0 : Int)) = true then
some (((0 : Int), ((0 : Int), ())), ([], ((0 : Int), (12 : Int))))
else
gd (0 ≤ (7 : Int)) <|
gd ((7 : Int) < (Int.ofNat (List.length a0))) <|
if (decide ((List.getD a0 7 (0 : Int)) > (16 : Int))) = true then
some (((0 : Int), ((0 : Int), ())), ([], ((0 : Int), (12 : Int))))
else
gd (0 ≤ (8 : Int)) <|
gd ((8 : Int) ≤ (Int.ofNat (List.length a0))) <|
gd (0 ≤ (7 : Int)) <|
gd ((7 : Int) < (Int.ofNat (List.length a0))) <|
(qqg (List.drop 8 a0) (IntKind.wrap .i64 (List.getD a0 7 (0 : Int)))).bind fun r2 =>
if (r2.2.2 != (0 : Int)) = true then
some (((0 : Int), ((0 : Int), ())), ([], ((0 : Int), r2.2.2)))
else
if (decide ((IntKind.wrap .i64 ((IntKind.wrap .i64 ((Int.ofNat (List.length a0)) - (8 : Int))) - r2.2.1)) < (20 : Int))) = true then
some (((0 : Int), ((0 : Int), ())), ([], ((0 : Int), (18 : Int))))
else
gd (0 ≤ (IntKind.wrap .i64 ((8 : Int) + r2.2.1))) <|
gd ((IntKind.wrap .i64 ((8 : Int) + r2.2.1)) ≤ (Int.ofNat (List.length a0))) <|
(qub (List.take (Int.toNat (IntKind.wrap .i64 ((8 : Int) + r2.2.1))) a0)).bind fun r3 =>
gd (0 ≤ (IntKind.wrap .i64 ((8 : Int) + r2.2.1))) <|
gd ((IntKind.wrap .i64 ((8 : Int) + r2.2.1)) ≤ (IntKind.wrap .i64 ((28 : Int) + r2.2.1))) <|
gd ((IntKind.wrap .i64 ((28 : Int) + r2.2.1)) ≤ (Int.ofNat (List.length a0))) <|
if (not ((ByteArray.toList (qEg (List.take 20 (List.drop 0 r3)))) == (ByteArray.toList (qEg (List.take ((Int.toNat (IntKind.wrap .i64 ((28 : Int) + r2.2.1))) - (Int.toNat (IntKind.wrap .i64 ((8 : Int) + r2.2.1)))) (List.drop (Int.toNat (IntKind.wrap .i64 ((8 : Int) + r2.2.1))) a0)))))) = true then
some (((0 : Int), ((0 : Int), ())), ([], ((0 : Int), (22 : Int))))
else
some (((IntKind.wrap .i64 (List.getD a0 4 (0 : Int))), ((IntKind.wrap .i64 ((IntKind.wrap .i64 ((IntKind.wrap .i64 (List.getD a0 5 (0 : Int))) * (256 : Int))) + (IntKind.wrap .i64 (List.getD a0 6 (0 : Int))))), ())), (r2.1, ((IntKind.wrap .i64 ((28 : Int) + r2.2.1)), (0 : Int))))) := (FnI.call_eq (by kernel_rfl)).trans (by kernel_rfl)
noncomputable def qsn (acc : List AV → Bool) : Summ Tryz.prog GT := bitloftref31_Head_I.summ mixed acc false false
noncomputable def bitloftref29_Sizes_I : FnI Tryz.prog GT := { f := 200, cuts := [⟨(2, 3), [0, 3], false, false, []⟩, ⟨(10, 3), [0, 4, 5], false, false, []⟩], tab := [], fm := ⟨true, [.val (.int .i64) []]⟩ }
noncomputable def qnd (a0 : List Int) : Option (Int) := bitloftref29_Sizes_I.call [(.sl (.int .i64) false a0)] []
noncomputable def qrc (v0 : List Int) (v3 : Int) : Option (Int) := bitloftref29_Sizes_I.sem ⟨[.code (cIn (cIn (qca (qua (qca (qja Tryz.prog 200)))))), .inLoop (cIn (cIn (qca (qua (qca (qja Tryz.prog 200)))))), .inBlock 0, .code (qca (qca (qja Tryz.prog 200)))], ⟨[(0, (.one (.sl (.int .i64) false v0))), (3, (.one (.int .i64 v3)))], [], 8⟩⟩
noncomputable def qqb (v0 : List Int) (v4 : Int) (v5 : Int) : Option (Int) := bitloftref29_Sizes_I.sem ⟨[.code (cIn (cIn (qca (qua (qca (qca (qca (qca (qja Tryz.prog 200))))))))), .inLoop (cIn (cIn (qca (qua (qca (qca (qca (qca (qja Tryz.prog 200))))))))), .inBlock 2, .code (qca (qca (qca (qca (qca (qja Tryz.prog 200))))))], ⟨[(0, (.one (.sl (.int .i64) false v0))), (4, (.one (.int .i64 v4))), (5, (.one (.int .i64 v5)))], [], 8⟩⟩
theorem qdl (a0 : List Int) : qnd a0 = (
qrc a0 (0 : Int)) := (FnI.call_eq (by kernel_rfl)).trans (by kernel_rfl)
theorem qbf (v0 : List Int) (v3 : Int) : qrc v0 v3 = (
if (decide (v3 < (Int.ofNat (List.length v0)))) = true then
gd (0 ≤ v3) <|
gd (v3 < (Int.ofNat (List.length v0))) <|
if (decide ((List.getD v0 (Int.toNat v3) (0 : Int)) < (0 : Int))) = true then
some (8 : Int)
else
qrc v0 (IntKind.wrap .i64 (v3 + (1 : Int)))
else
if (decide ((Int.ofNat (List.length v0)) > (16 : Int))) = true then
some (4 : Int)
else
qqb v0 (8192 : Int) (0 : Int)) := (FnI.sem_eq _).trans (by kernel_rfl)
theorem qaf (v0 : List Int) (v4 : Int) (v5 : Int) : qqb v0 v4 v5 = (
if (decide (v5 < (Int.ofNat (List.length v0)))) = true then
gd (0 ≤ v5) <|
gd (v5 < (Int.ofNat (List.length v0))) <|
if (decide ((List.getD v0 (Int.toNat v5) (0 : Int)) > v4)) = true then
some (4 : Int)
else
gd (0 ≤ v5) <|
gd (v5 < (Int.ofNat (List.length v0))) <|
qqb v0 (IntKind.wrap .i64 (v4 - (List.getD v0 (Int.toNat v5) (0 : Int)))) (IntKind.wrap .i64 (v5 + (1 : Int)))
else
some (0 : Int)) := (FnI.sem_eq _).trans (by kernel_rfl)
noncomputable def qZl (acc : List AV → Bool) : Summ Tryz.prog GT := bitloftref29_Sizes_I.summ mixed acc false false
noncomputable def bitloftref29_Pieces_I : FnI Tryz.prog GT := { f := 139, cuts := [], tab := [qZl (fun _ => true), qne (fun _ => true), qSg (fun _ => true)], fm := ⟨true, [.val (.slice qga) [.nw], .val (.int .i64) []]⟩ }
noncomputable def qNe (a0 : List Int) (a1 : Int) : Option (List qfa × Int) := bitloftref29_Pieces_I.call [(.sl (.int .i64) false a0), (.int .i64 a1)] []
theorem qlk (a0 : List Int) (a1 : Int) : qNe a0 a1 = (
(qnd a0).bind fun r1 =>
if (r1 != (0 : Int)) = true then
(qnd a0).bind fun r2 =>
some ([], r2)
else
(qsc a1).bind fun r3 =>
if (not r3) = true then
some ([], (2 : Int))
else
(qRb a0 a1).bind fun r4 =>
some (r4, (0 : Int))) := (FnI.call_eq (by kernel_rfl)).trans (by kernel_rfl)
noncomputable def qel (acc : List AV → Bool) : Summ Tryz.prog GT := bitloftref29_Pieces_I.summ mixed acc false false
noncomputable def bitloftref31_Pieces_I : FnI Tryz.prog GT := { f := 86, cuts := [⟨(3, 3), [1, 2, 5, 6], false, false, []⟩], tab := [qel (fun _ => true)], fm := ⟨true, [.val (.slice qga) [.nw]]⟩ }
noncomputable def qLe (a0 : qna) (a1 : List qaa) : Option (List qfa) := bitloftref31_Pieces_I.call [(.agg qqa (inj false qqa a0)), (.sl qba false a1)] []
noncomputable def qVb (v1 : List qaa) (v6 : Int) (b8 : qna) (h9 : List Int) : Option (List qfa) := bitloftref31_Pieces_I.sem ⟨[.code (cIn (cIn (qca (qua (qca (qca (qja Tryz.prog 86))))))), .inLoop (cIn (cIn (qca (qua (qca (qca (qja Tryz.prog 86))))))), .inBlock 0, .code (qca (qca (qca (qja Tryz.prog 86))))], ⟨[(1, (.one (.sl qba false v1))), (2, (.one (.ptr qqa 8 []))), (5, (.one (.ref (.int .i64) 9 0 (List.length h9) true))), (6, (.one (.int .i64 v6)))], [(8, some (.box qqa (inj false qqa b8))), (9, some (.row (.int .i64) true h9))], 10⟩⟩
theorem qjk (a0 : qna) (a1 : List qaa) : qLe a0 a1 = (
qVb a1 (0 : Int) a0 []) := (FnI.call_eq (by kernel_rfl)).trans (by kernel_rfl)
theorem qte (v1 : List qaa) (v6 : Int) (b8 : qna) (h9 : List Int) : qVb v1 v6 b8 h9 = (
if (decide (v6 < (Int.ofNat (List.length v1)))) = true then
gd (0 ≤ v6) <|
gd (v6 < (Int.ofNat (List.length v1))) <|
gd ((List.length (h9 ++ [(List.getD v1 (Int.toNat v6) (qla qba)).2.1])) * 8 ≤ 140737488355328) <|
qVb v1 (IntKind.wrap .i64 (v6 + (1 : Int))) b8 (h9 ++ [(List.getD v1 (Int.toNat v6) (qla qba)).2.1])
else
(qNe h9 b8.2.1).bind fun r1 =>
some (r1.1)) := (FnI.sem_eq _).trans (by kernel_rfl)
noncomputable def qXk (acc : List AV → Bool) : Summ Tryz.prog GT := bitloftref31_Pieces_I.summ mixed acc false false
noncomputable def bitloftref27_Read_I : FnI Tryz.prog GT := { f := 87, cuts := [], tab := [qId (fun _ => true)], fm := ⟨true, [.val qwa [], .val (.int .i64) [], .val (.int .i64) []]⟩ }
noncomputable def qrg (a0 : List Int) : Option (qoa × Int × Int) := bitloftref27_Read_I.call [(.sl (.int .u8) false a0)] []
theorem qgm (a0 : List Int) : qrg a0 = (
if (decide ((Int.ofNat (List.length a0)) > (50000 : Int))) = true then
some ((((0 : Int), ((0 : Int), ((0 : Int), ((0 : Int), ((0 : Int), ((List.replicate 20 (0 : Int)), ())))))), ([], ())), ((0 : Int), (4 : Int)))
else
(qSb a0).bind fun r1 =>
some (r1)) := (FnI.call_eq (by kernel_rfl)).trans (by kernel_rfl)
noncomputable def qxn (acc : List AV → Bool) : Summ Tryz.prog GT := bitloftref27_Read_I.summ mixed acc false false
noncomputable def bitloftref31_Is_I : FnI Tryz.prog GT := { f := 88, cuts := [], tab := [], fm := ⟨true, [.val .bool []]⟩ }
noncomputable def qQh (a0 : qda) (a1 : qfa) : Option (Bool) := bitloftref31_Is_I.call [(.agg qma (inj false qma a0)), (.agg qga (inj false qga a1))] []
theorem qJo (a0 : qda) (a1 : qfa) : qQh a0 a1 = (
if (a0.2.1 == a1.1) = true then
if (a0.2.2.1 == a1.2.1) = true then
some (a0.2.2.2.1 == a1.2.2.1)
else
some (false)
else
some (false)) := (FnI.call_eq (by kernel_rfl)).trans (by kernel_rfl)
noncomputable def qHp (acc : List AV → Bool) : Summ Tryz.prog GT := bitloftref31_Is_I.summ mixed acc false false
noncomputable def bitloftref31_Blocks_I : FnI Tryz.prog GT := { f := 43, cuts := [⟨(8, 3), [0, 2, 7, 9, 10, 11, 12], false, false, []⟩], tab := [qsn (fun _ => true), qXk (fun _ => true), qxn (fun _ => true), qHp (fun _ => true)], fm := ⟨true, [.val qsa [], .val (.slice qwa) [.nw], .val (.int .i64) []]⟩ }
noncomputable def qMe (a0 : List Int) : Option (qta × List qoa × Int) := bitloftref31_Blocks_I.call [(.sl (.int .u8) false a0)] []
noncomputable def qWb (v0 : List Int) (v7 : Int) (v12 : Int) (b8a : qna) (b8bbb : Unit) (b9a : qna) (b9bbb : Unit) (h10 : List qoa) (h11 : List qfa) (h12 : List qaa) (h13 : List qda) (h14 : List qaa) (h15 : List qda) : Option (qta × List qoa × Int) := bitloftref31_Blocks_I.sem ⟨[.code (cIn (cIn (qca (qua (qca (qca (qca (qca (qca (qca (qja Tryz.prog 43))))))))))), .inLoop (cIn (cIn (qca (qua (qca (qca (qca (qca (qca (qca (qja Tryz.prog 43))))))))))), .inBlock 0, .code (qca (qca (qca (qca (qca (qca (qca (qja Tryz.prog 43))))))))], ⟨[(0, (.one (.sl (.int .u8) false v0))), (2, (.one (.ptr qsa 8 []))), (7, (.one (.int .i64 v7))), (9, (.one (.ptr qsa 9 []))), (10, (.one (.ref qwa 10 0 (List.length h10) true))), (11, (.one (.ref qga 11 0 (List.length h11) true))), (12, (.one (.int .i64 v12)))], [(8, some (.box qsa ((inj false qqa b8a), ((SV.ref 12 0 (List.length h12) true), ((SV.ref 13 0 (List.length h13) true), b8bbb))))), (9, some (.box qsa ((inj false qqa b9a), ((SV.ref 14 0 (List.length h14) true), ((SV.ref 15 0 (List.length h15) true), b9bbb))))), (10, some (.row qwa true h10)), (11, some (.row qga true h11)), (12, some (.row qba true h12)), (13, some (.row qma true h13)), (14, some (.row qba true h14)), (15, some (.row qma true h15))], 16⟩⟩
theorem qkk (a0 : List Int) : qMe a0 = (
(qng a0).bind fun r1 =>
if (r1.2.2.2 != (0 : Int)) = true then
some ((((0 : Int), ((0 : Int), ())), ([], ([], ()))), ([], r1.2.2.2))
else
(qLe r1.1 r1.2.1).bind fun r2 =>
qWb a0 r1.2.2.1 (0 : Int) ((0 : Int), ((0 : Int), ())) () r1.1 () [] r2 [] [] r1.2.1 []) := (FnI.call_eq (by kernel_rfl)).trans (by kernel_rfl)
theorem que (v0 : List Int) (v7 : Int) (v12 : Int) (b8a : qna) (b8bbb : Unit) (b9a : qna) (b9bbb : Unit) (h10 : List qoa) (h11 : List qfa) (h12 : List qaa) (h13 : List qda) (h14 : List qaa) (h15 : List qda) : qWb v0 v7 v12 b8a b8bbb b9a b9bbb h10 h11 h12 h13 h14 h15 = (
if (decide (v12 < (Int.ofNat (List.length h11)))) = true then
gd (0 ≤ v7) <|
gd (v7 ≤ (Int.ofNat (List.length v0))) <|
(qrg (List.drop (Int.toNat v7) v0)).bind fun r3 =>
if (r3.2.2 != (0 : Int)) = true then
some ((((0 : Int), ((0 : Int), ())), ([], ([], ()))), ([], r3.2.2))
else
gd (0 ≤ v12) <|
gd (v12 < (Int.ofNat (List.length h11))) <|
(qQh r3.1.1 (List.getD h11 (0 + (Int.toNat v12)) (qla qga))).bind fun r4 =>
if (not r4) = true then
some ((((0 : Int), ((0 : Int), ())), ([], ([], ()))), ([], (32 : Int)))
else
gd ((List.length (h15 ++ [r3.1.1])) * 64 ≤ 140737488355328) <|
gd ((List.length (h10 ++ [r3.1])) * 88 ≤ 140737488355328) <|
qWb v0 (IntKind.wrap .i64 (v7 + r3.2.1)) (IntKind.wrap .i64 (v12 + (1 : Int))) b8a b8bbb b9a b9bbb (h10 ++ [r3.1]) h11 h12 h13 h14 (h15 ++ [r3.1.1])
else
if (v7 != (Int.ofNat (List.length v0))) = true then
some ((((0 : Int), ((0 : Int), ())), ([], ([], ()))), ([], (12 : Int)))
else
some ((b9a, (h14, (h15, b9bbb))), (h10, (0 : Int)))) := (FnI.sem_eq _).trans (by kernel_rfl)
noncomputable def qYk (acc : List AV → Bool) : Summ Tryz.prog GT := bitloftref31_Blocks_I.summ mixed acc false false
noncomputable def bitloftref31_List_I : FnI Tryz.prog GT := { f := 16, cuts := [], tab := [qYk (fun _ => true)], fm := ⟨true, [.val qsa [], .val (.int .i64) []]⟩ }
noncomputable def qSd (a0 : List Int) : Option (qta × Int) := bitloftref31_List_I.call [(.sl (.int .u8) false a0)] []
theorem qSl (a0 : List Int) : qSd a0 = (
(qMe a0).bind fun r1 =>
some (r1.1, r1.2.2)) := (FnI.call_eq (by kernel_rfl)).trans (by kernel_rfl)
noncomputable def qrn (acc : List AV → Bool) : Summ Tryz.prog GT := bitloftref31_List_I.summ mixed acc false false
noncomputable def bitloftref27_Check_I : FnI Tryz.prog GT := { f := 69, cuts := [], tab := [qoh (fun _ => true)], fm := ⟨true, [.val (.int .i64) []]⟩ }
noncomputable def qpd (a0 : qoa) : Option (Int) := bitloftref27_Check_I.call [(.agg qwa (inj false qwa a0))] []
theorem qll (a0 : qoa) : qpd a0 = (
(qrd a0.1).bind fun r1 =>
if (r1 != (0 : Int)) = true then
some (8 : Int)
else
if ((Int.ofNat (List.length a0.2.1)) != a0.1.2.2.2.2.1) = true then
some (8 : Int)
else
some (0 : Int)) := (FnI.call_eq (by kernel_rfl)).trans (by kernel_rfl)
noncomputable def qjm (acc : List AV → Bool) : Summ Tryz.prog GT := bitloftref27_Check_I.summ mixed acc false false
noncomputable def bitloftref27_Level_I : FnI Tryz.prog GT := { f := 70, cuts := [], tab := [], fm := ⟨true, [.val .bool []]⟩ }
noncomputable def qRf (a0 : Int) : Option (Bool) := bitloftref27_Level_I.call [(.int .i64 a0)] []
theorem qkl (a0 : Int) : qRf a0 = (
if (decide (a0 ≥ (0 : Int))) = true then
some (decide (a0 ≤ (7 : Int)))
else
some (false)) := (FnI.call_eq (by kernel_rfl)).trans (by kernel_rfl)
noncomputable def qim (acc : List AV → Bool) : Summ Tryz.prog GT := bitloftref27_Level_I.summ mixed acc false false
noncomputable def bitloftref27_Raw_I : FnI Tryz.prog GT := { f := 39, cuts := [], tab := [qjm (fun _ => true), qim (fun _ => true), qpj (fun _ => true)], fm := ⟨true, [.val (.slice (.int .u8)) [.nw], .val (.int .i64) []]⟩ }
noncomputable def qeh (a0 : Int) (a1 : qoa) : Option (List Int × Int) := bitloftref27_Raw_I.call [(.int .i64 a0), (.agg qwa (inj false qwa a1))] []
theorem qyn (a0 : Int) (a1 : qoa) : qeh a0 a1 = (
(qpd a1).bind fun r1 =>
if (r1 != (0 : Int)) = true then
(qpd a1).bind fun r2 =>
some ([], r2)
else
(qRf a0).bind fun r3 =>
if (not r3) = true then
some ([], (2 : Int))
else
gd ((List.length ([] ++ a1.2.1)) * 1 ≤ 140737488355328) <|
if (a1.1.1 == (2 : Int)) = true then
none
else
(qJd a1.1 ([] ++ a1.2.1)).bind fun r4 =>
if (not (peq (.arr 20 (.int .u8)) r4 a1.1.2.2.2.2.2.1)) = true then
some ([], (22 : Int))
else
some (([] ++ a1.2.1), (0 : Int))) := (FnI.call_eq (by kernel_rfl)).trans (by kernel_rfl)
noncomputable def qMo (acc : List AV → Bool) : Summ Tryz.prog GT := bitloftref27_Raw_I.summ mixed acc false false
noncomputable def bitloftref34_At_I : FnI Tryz.prog GT := { f := 14, cuts := [], tab := [qId (fun _ => true), qMo (fun _ => true)], fm := ⟨true, [.val qva [], .val (.int .i64) []]⟩ }
noncomputable def qGf (a0 : Int) (a1 : List Int) (a2 : Int) : Option (qpa × Int) := bitloftref34_At_I.call [(.int .i64 a0), (.sl (.int .u8) false a1), (.int .i64 a2)] []
theorem qIo (a0 : Int) (a1 : List Int) (a2 : Int) : qGf a0 a1 a2 = (
gd (0 ≤ a2) <|
gd (a2 < (Int.ofNat (List.length a1))) <|
if ((List.getD a1 (Int.toNat a2) (0 : Int)) != (183 : Int)) = true then
some (((0 : Int), (((0 : Int), ((0 : Int), ((0 : Int), ((0 : Int), ((0 : Int), ((List.replicate 20 (0 : Int)), ())))))), ([], ()))), (0 : Int))
else
gd (0 ≤ a2) <|
gd (a2 ≤ (Int.ofNat (List.length a1))) <|
(qSb (List.drop (Int.toNat a2) a1)).bind fun r1 =>
if (r1.2.2 != (0 : Int)) = true then
some (((0 : Int), (((0 : Int), ((0 : Int), ((0 : Int), ((0 : Int), ((0 : Int), ((List.replicate 20 (0 : Int)), ())))))), ([], ()))), (0 : Int))
else
(qeh a0 r1.1).bind fun r2 =>
if (r2.2 != (0 : Int)) = true then
some (((0 : Int), (((0 : Int), ((0 : Int), ((0 : Int), ((0 : Int), ((0 : Int), ((List.replicate 20 (0 : Int)), ())))))), ([], ()))), (0 : Int))
else
some ((a2, (r1.1.1, (r2.1, ()))), r1.2.1)) := (FnI.call_eq (by kernel_rfl)).trans (by kernel_rfl)
noncomputable def qGp (acc : List AV → Bool) : Summ Tryz.prog GT := bitloftref34_At_I.summ mixed acc false false
noncomputable def salvage_check_I : FnI Tryz.prog GT := { f := 140, cuts := [⟨(7, 3), [18, 19, 20], false, false, []⟩], tab := [qxg (fun _ => true), qIm (fun _ => true)], fm := ⟨true, [.val (.int .i64) []]⟩ }
noncomputable def qzj (a0 : List qaa) (a1 : List qpa) : Option (Int) := salvage_check_I.call [(.sl qba false a0), (.sl qva false a1)] []
noncomputable def qze (v18 : List qpa) (v19 : Int) (v20 : Int) : Option (Int) := salvage_check_I.sem ⟨[.code (cIn (cIn (qca (qua (qca (qca (qca (qja Tryz.prog 140)))))))), .inLoop (cIn (cIn (qca (qua (qca (qca (qca (qja Tryz.prog 140)))))))), .inBlock 0, .code (qca (qca (qca (qca (qja Tryz.prog 140)))))], ⟨[(18, (.one (.sl qva false v18))), (19, (.one (.int .i64 v19))), (20, (.one (.int .i64 v20)))], [], 8⟩⟩
theorem qmq (a0 : List qaa) (a1 : List qpa) : qzj a0 a1 = (
(qSe a0).bind fun r1 =>
if (r1 != (0 : Int)) = true then
some (r1)
else
if (decide ((Int.ofNat (List.length a1)) > (600 : Int))) = true then
some (4 : Int)
else
qze a1 (Int.ofNat (List.length a1)) (0 : Int)) := (FnI.call_eq (by kernel_rfl)).trans (by kernel_rfl)
theorem qzh (v18 : List qpa) (v19 : Int) (v20 : Int) : qze v18 v19 v20 = (
if (decide (v20 < v19)) = true then
gd (0 ≤ v20) <|
gd (v20 < (Int.ofNat (List.length v18))) <|
(qOg (List.getD v18 (Int.toNat v20) (qla qva)).2.1 (List.getD v18 (Int.toNat v20) (qla qva)).2.2.1).bind fun r2 =>
if (not r2.1) = true then
some (8 : Int)
else
if (decide ((List.getD v18 (Int.toNat v20) (qla qva)).1 < (0 : Int))) = true then
some (8 : Int)
else
qze v18 v19 (IntKind.wrap .i64 (v20 + (1 : Int)))
else
some (0 : Int)) := (FnI.sem_eq _).trans (by kernel_rfl)
noncomputable def qor (acc : List AV → Bool) : Summ Tryz.prog GT := salvage_check_I.summ mixed acc false false
noncomputable def salvage_Parts_1_I : FnI Tryz.prog GT := { f := 141, cuts := [⟨(5, 3), [2, 3, 5, 34, 35, 36], false, true, []⟩, ⟨(12, 3), [2, 5, 61, 62, 63], false, true, []⟩], tab := [], fm := ⟨false, [.val .bool [], .box 0 (.slice qba) [.pu], .cmap 1 2, .map 2 qqa (.int .u8)]⟩ }
noncomputable def qCh (a0 : qpa) (b0 : (List qaa)) (m2 : List (qna × Int)) : Option (Bool × (List qaa) × Unit × List (qna × Int)) := salvage_Parts_1_I.call [(.agg qva (inj false qva a0)), (.ptr (.slice qba) 0 []), (.cptr 1)] [(0, (.box (.slice qba) (SV.pure false b0))), (1, (.cell (.mapr 2))), (2, (.map qqa (.int .u8) m2))]
noncomputable def qlc (v34 : List Int) (v35 : Int) (v36 : Int) (b0 : (List qaa)) (m2 : List (qna × Int)) (b8 : qpa) (b9 : qda) : Option (Bool × (List qaa) × Unit × List (qna × Int)) := salvage_Parts_1_I.sem ⟨[.code (cIn (cIn (qca (qua (qca (qca (qca (qja Tryz.prog 141)))))))), .inLoop (cIn (cIn (qca (qua (qca (qca (qca (qja Tryz.prog 141)))))))), .inBlock 0, .code (qca (qca (qca (qca (qja Tryz.prog 141)))))], ⟨[(2, (.one (.cptr 1))), (3, (.one (.ptr qva 8 []))), (5, (.one (.ptr qma 9 []))), (34, (.one (.sl (.int .u8) false v34))), (35, (.one (.int .i64 v35))), (36, (.one (.int .i64 v36)))], [(0, some (.box (.slice qba) (SV.pure false b0))), (1, some (.cell (.mapr 2))), (2, some (.map qqa (.int .u8) m2)), (8, some (.box qva (inj false qva b8))), (9, some (.box qma (inj false qma b9)))], 13⟩⟩
noncomputable def qcb (v61 : List Int) (v62 : Int) (v63 : Int) (b0 : (List qaa)) (m2 : List (qna × Int)) (b8 : qda) : Option (Bool × (List qaa) × Unit × List (qna × Int)) := salvage_Parts_1_I.sem ⟨[.code (cIn (cIn (qca (qua (qca (qca (qca (qca (qja Tryz.prog 141))))))))), .inLoop (cIn (cIn (qca (qua (qca (qca (qca (qca (qja Tryz.prog 141))))))))), .inBlock 2, .code (qca (qca (qca (qca (qca (qja Tryz.prog 141))))))], ⟨[(2, (.one (.cptr 1))), (5, (.one (.ptr qma 8 []))), (61, (.one (.sl (.int .u8) false v61))), (62, (.one (.int .i64 v62))), (63, (.one (.int .i64 v63)))], [(0, some (.box (.slice qba) (SV.pure false b0))), (1, some (.cell (.mapr 2))), (2, some (.map qqa (.int .u8) m2)), (8, some (.box qma (inj false qma b8)))], 12⟩⟩
theorem qXn (a0 : qpa) (b0 : (List qaa)) (m2 : List (qna × Int)) : qCh a0 b0 m2 = (
if (decide (a0.2.1.2.1 ≥ (Int.ofNat (List.length b0)))) = true then
some (false, (b0, ((), m2)))
else
gd (0 ≤ a0.2.1.2.1) <|
gd (a0.2.1.2.1 < (Int.ofNat (List.length b0))) <|
if (decide ((IntKind.wrap .i64 (a0.2.1.2.2.1 + a0.2.1.2.2.2.1)) > (List.getD b0 (Int.toNat a0.2.1.2.1) (qla qba)).2.1)) = true then
some (false, (b0, ((), m2)))
else
qlc a0.2.2.1 (Int.ofNat (List.length a0.2.2.1)) (0 : Int) b0 m2 a0 a0.2.1) := (FnI.call_eq (by kernel_rfl)).trans (by kernel_rfl)
theorem qMg (v34 : List Int) (v35 : Int) (v36 : Int) (b0 : (List qaa)) (m2 : List (qna × Int)) (b8 : qpa) (b9 : qda) : qlc v34 v35 v36 b0 m2 b8 b9 = (
if (decide (v36 < v35)) = true then
gd (0 ≤ v36) <|
gd (v36 < (Int.ofNat (List.length v34))) <|
if (Option.isSome (qrj (peq qqa) (b9.2.1, ((IntKind.wrap .i64 (b9.2.2.1 + v36)), ())) m2)) = true then
if ((Option.getD (qrj (peq qqa) (b9.2.1, ((IntKind.wrap .i64 (b9.2.2.1 + v36)), ())) m2) (0 : Int)) != (List.getD v34 (Int.toNat v36) (0 : Int))) = true then
some (false, (b0, ((), m2)))
else
qlc v34 v35 (IntKind.wrap .i64 (v36 + (1 : Int))) b0 m2 b8 b9
else
qlc v34 v35 (IntKind.wrap .i64 (v36 + (1 : Int))) b0 m2 b8 b9
else
qcb b8.2.2.1 (Int.ofNat (List.length b8.2.2.1)) (0 : Int) b0 m2 b9) := (FnI.sem_eq _).trans (by kernel_rfl)
theorem qLg (v61 : List Int) (v62 : Int) (v63 : Int) (b0 : (List qaa)) (m2 : List (qna × Int)) (b8 : qda) : qcb v61 v62 v63 b0 m2 b8 = (
if (decide (v63 < v62)) = true then
gd (0 ≤ v63) <|
gd (v63 < (Int.ofNat (List.length v61))) <|
qcb v61 v62 (IntKind.wrap .i64 (v63 + (1 : Int))) b0 (qVs (peq qqa) (b8.2.1, ((IntKind.wrap .i64 (b8.2.2.1 + v63)), ())) (List.getD v61 (Int.toNat v63) (0 : Int)) m2) b8
else
some (true, (b0, ((), m2)))) := (FnI.sem_eq _).trans (by kernel_rfl)
noncomputable def qbp (acc : List AV → Bool) : Summ Tryz.prog GT := salvage_Parts_1_I.summ mixed acc false false
noncomputable def salvage_Parts_I : FnI Tryz.prog GT := { f := 89, cuts := [⟨(8, 3), [8, 9, 20, 21, 22], false, false, []⟩], tab := [qor (fun _ => true), (qbp (fun _ => true)).dropping, qRj (fun _ => true)], fm := ⟨true, [.val (.slice qya) [.nw], .val (.int .i64) []]⟩ }
noncomputable def qAj (a0 : List qaa) (a1 : List qpa) : Option (List qra × Int) := salvage_Parts_I.call [(.sl qba false a0), (.sl qva false a1)] []
noncomputable def qdd (v20 : List qpa) (v21 : Int) (v22 : Int) (b8 : (List qaa)) (h10 : List qra) (m11 : List (qna × Int)) : Option (List qra × Int) := salvage_Parts_I.sem ⟨[.code (cIn (cIn (qca (qua (qca (qca (qca (qca (qca (qja Tryz.prog 89)))))))))), .inLoop (cIn (cIn (qca (qua (qca (qca (qca (qca (qca (qja Tryz.prog 89)))))))))), .inBlock 0, .code (qca (qca (qca (qca (qca (qca (qja Tryz.prog 89)))))))], ⟨[(8, (.one (.func 141 [8, 9]))), (9, (.one (.ref qya 10 0 (List.length h10) true))), (20, (.one (.sl qva false v20))), (21, (.one (.int .i64 v21))), (22, (.one (.int .i64 v22)))], [(8, some (.box (.slice qba) (SV.pure false b8))), (9, some (.cell (.mapr 11))), (10, some (.row qya true h10)), (11, some (.map qqa (.int .u8) m11))], 12⟩⟩
theorem qnq (a0 : List qaa) (a1 : List qpa) : qAj a0 a1 = (
(qzj a0 a1).bind fun r1 =>
if (r1 != (0 : Int)) = true then
some ([], r1)
else
qdd a1 (Int.ofNat (List.length a1)) (0 : Int) a0 [] []) := (FnI.call_eq (by kernel_rfl)).trans (by kernel_rfl)
theorem qBh (v20 : List qpa) (v21 : Int) (v22 : Int) (b8 : (List qaa)) (h10 : List qra) (m11 : List (qna × Int)) : qdd v20 v21 v22 b8 h10 m11 = (
if (decide (v22 < v21)) = true then
gd (0 ≤ v22) <|
gd (v22 < (Int.ofNat (List.length v20))) <|
(qCh (List.getD v20 (Int.toNat v22) (qla qva)) b8 m11).bind fun r2 =>
if r2.1 = true then
(qKe (List.getD v20 (Int.toNat v22) (qla qva)).2.2.1).bind fun r3 =>
gd ((List.length (h10 ++ [(((List.getD v20 (Int.toNat v22) (qla qva)).2.1.2.1, ((List.getD v20 (Int.toNat v22) (qla qva)).2.1.2.2.1, ((List.getD v20 (Int.toNat v22) (qla qva)).2.1.2.2.2.1, ()))), (r3, ()))])) * 48 ≤ 140737488355328) <|
qdd v20 v21 (IntKind.wrap .i64 (v22 + (1 : Int))) r2.2.1 (h10 ++ [(((List.getD v20 (Int.toNat v22) (qla qva)).2.1.2.1, ((List.getD v20 (Int.toNat v22) (qla qva)).2.1.2.2.1, ((List.getD v20 (Int.toNat v22) (qla qva)).2.1.2.2.2.1, ()))), (r3, ()))]) r2.2.2.2
else
qdd v20 v21 (IntKind.wrap .i64 (v22 + (1 : Int))) r2.2.1 h10 r2.2.2.2
else
some (h10, (0 : Int))) := (FnI.sem_eq _).trans (by kernel_rfl)
noncomputable def qpr (acc : List AV → Bool) : Summ Tryz.prog GT := salvage_Parts_I.summ mixed acc false false
noncomputable def salvage_Rebuild_I : FnI Tryz.prog GT := { f := 44, cuts := [⟨(8, 3), [7, 9, 10, 11, 30, 31, 32], false, false, []⟩, ⟨(13, 8), [7, 9, 10, 11, 12, 13, 14, 30, 31, 32, 41, 42, 43], false, false, []⟩, ⟨(18, 12), [7, 9, 10, 11, 12, 13, 14, 16, 30, 31, 32, 41, 42, 43, 62, 63], false, false, []⟩], tab := [qpr (fun _ => true), qRn (fun _ => true)], fm := ⟨true, [.val (.slice T_api_Member) [.nw], .val (.slice .bool) [.nw], .val (.int .i64) []]⟩ }
noncomputable def qAh (a0 : List qaa) (a1 : List qpa) : Option (List qia × List Bool × Int) := salvage_Rebuild_I.call [(.sl qba false a0), (.sl qva false a1)] []
noncomputable def qkc (v30 : List qaa) (v31 : Int) (v32 : Int) (h8 : List qra) (h9 : List qia) (h10 : List Bool) (m11 : List (Int × Bool)) : Option (List qia × List Bool × Int) := salvage_Rebuild_I.sem ⟨[.code (cIn (cIn (qca (qua (qca (qca (qca (qca (qca (qca (qja Tryz.prog 44))))))))))), .inLoop (cIn (cIn (qca (qua (qca (qca (qca (qca (qca (qca (qja Tryz.prog 44))))))))))), .inBlock 0, .code (qca (qca (qca (qca (qca (qca (qca (qja Tryz.prog 44))))))))], ⟨[(7, (.one (.ref qya 8 0 (List.length h8) true))), (9, (.one (.ref T_api_Member 9 0 (List.length h9) true))), (10, (.one (.ref .bool 10 0 (List.length h10) true))), (11, (.one (.mapr 11))), (30, (.one (.sl qba false v30))), (31, (.one (.int .i64 v31))), (32, (.one (.int .i64 v32)))], [(8, some (.row qya true h8)), (9, some (.row T_api_Member true h9)), (10, some (.row .bool true h10)), (11, some (.map (.int .i64) .bool m11))], 12⟩⟩
noncomputable def qbb (v12 : Int) (v30 : List qaa) (v31 : Int) (v32 : Int) (v42 : Int) (v43 : Int) (h8 : List qra) (h9 : List qia) (h10 : List Bool) (m11 : List (Int × Bool)) (b12 : qaa) (h13 : List Int) : Option (List qia × List Bool × Int) := salvage_Rebuild_I.sem ⟨[.code (cIn (cIn (qca (qua (qca (qca (qca (cIn (qua (qca (qca (cIn (cIn (qca (qua (qca (qca (qca (qca (qca (qca (qja Tryz.prog 44)))))))))))))))))))))), .inLoop (cIn (cIn (qca (qua (qca (qca (qca (cIn (qua (qca (qca (cIn (cIn (qca (qua (qca (qca (qca (qca (qca (qca (qja Tryz.prog 44)))))))))))))))))))))), .inBlock 2, .code (qca (qca (qca (qca (cIn (qua (qca (qca (cIn (cIn (qca (qua (qca (qca (qca (qca (qca (qca (qja Tryz.prog 44))))))))))))))))))), .inBlock 1, .code (qca (qca (qca (cIn (cIn (qca (qua (qca (qca (qca (qca (qca (qca (qja Tryz.prog 44)))))))))))))), .inLoop (cIn (cIn (qca (qua (qca (qca (qca (qca (qca (qca (qja Tryz.prog 44))))))))))), .inBlock 0, .code (qca (qca (qca (qca (qca (qca (qca (qja Tryz.prog 44))))))))], ⟨[(7, (.one (.ref qya 8 0 (List.length h8) true))), (9, (.one (.ref T_api_Member 9 0 (List.length h9) true))), (10, (.one (.ref .bool 10 0 (List.length h10) true))), (11, (.one (.mapr 11))), (12, (.one (.int .i64 v12))), (13, (.one (.ptr qba 12 []))), (14, (.one (.ref (.int .u8) 13 0 (List.length h13) true))), (30, (.one (.sl qba false v30))), (31, (.one (.int .i64 v31))), (32, (.one (.int .i64 v32))), (41, (.one (.ref qya 8 0 (List.length h8) true))), (42, (.one (.int .i64 v42))), (43, (.one (.int .i64 v43)))], [(8, some (.row qya true h8)), (9, some (.row T_api_Member true h9)), (10, some (.row .bool true h10)), (11, some (.map (.int .i64) .bool m11)), (12, some (.box qba (inj false qba b12))), (13, some (.row (.int .u8) true h13))], 14⟩⟩
noncomputable def qld (v12 : Int) (v30 : List qaa) (v31 : Int) (v32 : Int) (v42 : Int) (v43 : Int) (v62 : Int) (v63 : Int) (h8 : List qra) (h9 : List qia) (h10 : List Bool) (m11 : List (Int × Bool)) (b12 : qaa) (h13 : List Int) (b14 : qra) : Option (List qia × List Bool × Int) := salvage_Rebuild_I.sem ⟨[.code (cIn (cIn (qca (qca (qca (qca (cIn (qua (qca (qca (cIn (cIn (qca (qua (qca (qca (qca (cIn (qua (qca (qca (cIn (cIn (qca (qua (qca (qca (qca (qca (qca (qca (qja Tryz.prog 44)))))))))))))))))))))))))))))))), .inLoop (cIn (cIn (qca (qca (qca (qca (cIn (qua (qca (qca (cIn (cIn (qca (qua (qca (qca (qca (cIn (qua (qca (qca (cIn (cIn (qca (qua (qca (qca (qca (qca (qca (qca (qja Tryz.prog 44)))))))))))))))))))))))))))))))), .inBlock 4, .inBlock 3, .code (qca (qca (qca (cIn (cIn (qca (qua (qca (qca (qca (cIn (qua (qca (qca (cIn (cIn (qca (qua (qca (qca (qca (qca (qca (qca (qja Tryz.prog 44))))))))))))))))))))))))), .inLoop (cIn (cIn (qca (qua (qca (qca (qca (cIn (qua (qca (qca (cIn (cIn (qca (qua (qca (qca (qca (qca (qca (qca (qja Tryz.prog 44)))))))))))))))))))))), .inBlock 2, .code (qca (qca (qca (qca (cIn (qua (qca (qca (cIn (cIn (qca (qua (qca (qca (qca (qca (qca (qca (qja Tryz.prog 44))))))))))))))))))), .inBlock 1, .code (qca (qca (qca (cIn (cIn (qca (qua (qca (qca (qca (qca (qca (qca (qja Tryz.prog 44)))))))))))))), .inLoop (cIn (cIn (qca (qua (qca (qca (qca (qca (qca (qca (qja Tryz.prog 44))))))))))), .inBlock 0, .code (qca (qca (qca (qca (qca (qca (qca (qja Tryz.prog 44))))))))], ⟨[(7, (.one (.ref qya 8 0 (List.length h8) true))), (9, (.one (.ref T_api_Member 9 0 (List.length h9) true))), (10, (.one (.ref .bool 10 0 (List.length h10) true))), (11, (.one (.mapr 11))), (12, (.one (.int .i64 v12))), (13, (.one (.ptr qba 12 []))), (14, (.one (.ref (.int .u8) 13 0 (List.length h13) true))), (16, (.one (.ptr qya 14 []))), (30, (.one (.sl qba false v30))), (31, (.one (.int .i64 v31))), (32, (.one (.int .i64 v32))), (41, (.one (.ref qya 8 0 (List.length h8) true))), (42, (.one (.int .i64 v42))), (43, (.one (.int .i64 v43))), (62, (.one (.int .i64 v62))), (63, (.one (.int .i64 v63)))], [(8, some (.row qya true h8)), (9, some (.row T_api_Member true h9)), (10, some (.row .bool true h10)), (11, some (.map (.int .i64) .bool m11)), (12, some (.box qba (inj false qba b12))), (13, some (.row (.int .u8) true h13)), (14, some (.box qya (inj true qya b14)))], 15⟩⟩
theorem qVn (a0 : List qaa) (a1 : List qpa) : qAh a0 a1 = (
(qAj a0 a1).bind fun r1 =>
if (r1.2 != (0 : Int)) = true then
some ([], ([], r1.2))
else
qkc a0 (Int.ofNat (List.length a0)) (0 : Int) r1.1 [] [] []) := (FnI.call_eq (by kernel_rfl)).trans (by kernel_rfl)
theorem qKg (v30 : List qaa) (v31 : Int) (v32 : Int) (h8 : List qra) (h9 : List qia) (h10 : List Bool) (m11 : List (Int × Bool)) : qkc v30 v31 v32 h8 h9 h10 m11 = (
if (decide (v32 < v31)) = true then
gd (0 ≤ v32) <|
gd (v32 < (Int.ofNat (List.length v30))) <|
gd ((List.getD v30 (Int.toNat v32) (qla qba)).2.1 = (List.getD v30 (Int.toNat v32) (qla qba)).2.1) <|
gd (0 ≤ (List.getD v30 (Int.toNat v32) (qla qba)).2.1) <|
gd ((List.getD v30 (Int.toNat v32) (qla qba)).2.1 * 1 ≤ 140737488355328) <|
gd ((List.getD v30 (Int.toNat v32) (qla qba)).2.1 ≤ 9223372036854775807) <|
qbb v32 v30 v31 v32 (Int.ofNat (List.length h8)) (0 : Int) h8 h9 h10 [] (List.getD v30 (Int.toNat v32) (qla qba)) (List.replicate (Int.toNat (List.getD v30 (Int.toNat v32) (qla qba)).2.1) (0 : Int))
else
some (h9, (h10, (0 : Int)))) := (FnI.sem_eq _).trans (by kernel_rfl)
theorem qJg (v12 : Int) (v30 : List qaa) (v31 : Int) (v32 : Int) (v42 : Int) (v43 : Int) (h8 : List qra) (h9 : List qia) (h10 : List Bool) (m11 : List (Int × Bool)) (b12 : qaa) (h13 : List Int) : qbb v12 v30 v31 v32 v42 v43 h8 h9 h10 m11 b12 h13 = (
if (decide (v43 < v42)) = true then
gd (0 ≤ v43) <|
gd (v43 < (Int.ofNat (List.length h8))) <|
if ((List.getD h8 (0 + (Int.toNat v43)) (qla qya)).1.1 != v12) = true then
qbb v12 v30 v31 v32 v42 (IntKind.wrap .i64 (v43 + (1 : Int))) h8 h9 h10 m11 b12 h13
else
gd (0 ≤ (List.getD h8 (0 + (Int.toNat v43)) (qla qya)).1.2.1) <|
gd ((List.getD h8 (0 + (Int.toNat v43)) (qla qya)).1.2.1 ≤ (Int.ofNat (List.length h13))) <|
qld v12 v30 v31 v32 v42 v43 (Int.ofNat (List.length (List.getD h8 (0 + (Int.toNat v43)) (qla qya)).2.1)) (0 : Int) h8 h9 h10 m11 b12 (qkd h13 (0 + (Int.toNat (List.getD h8 (0 + (Int.toNat v43)) (qla qya)).1.2.1)) (List.take (min (List.length (List.getD h8 (0 + (Int.toNat v43)) (qla qya)).2.1) ((List.length h13) - (Int.toNat (List.getD h8 (0 + (Int.toNat v43)) (qla qya)).1.2.1))) (List.getD h8 (0 + (Int.toNat v43)) (qla qya)).2.1)) (List.getD h8 (0 + (Int.toNat v43)) (qla qya))
else
(qYo h13).bind fun r2 =>
gd ((List.length (h9 ++ [(b12.1, (h13, ()))])) * 40 ≤ 140737488355328) <|
if ((Int.ofNat (List.length m11)) == b12.2.1) = true then
gd ((List.length (h10 ++ [(peq (.arr 20 (.int .u8)) r2.1 b12.2.2.1)])) * 1 ≤ 140737488355328) <|
qkc v30 v31 (IntKind.wrap .i64 (v32 + (1 : Int))) h8 (h9 ++ [(b12.1, (h13, ()))]) (h10 ++ [(peq (.arr 20 (.int .u8)) r2.1 b12.2.2.1)]) m11
else
gd ((List.length (h10 ++ [false])) * 1 ≤ 140737488355328) <|
qkc v30 v31 (IntKind.wrap .i64 (v32 + (1 : Int))) h8 (h9 ++ [(b12.1, (h13, ()))]) (h10 ++ [false]) m11) := (FnI.sem_eq _).trans (by kernel_rfl)
theorem qIg (v12 : Int) (v30 : List qaa) (v31 : Int) (v32 : Int) (v42 : Int) (v43 : Int) (v62 : Int) (v63 : Int) (h8 : List qra) (h9 : List qia) (h10 : List Bool) (m11 : List (Int × Bool)) (b12 : qaa) (h13 : List Int) (b14 : qra) : qld v12 v30 v31 v32 v42 v43 v62 v63 h8 h9 h10 m11 b12 h13 b14 = (
if (decide (v63 < v62)) = true then
qld v12 v30 v31 v32 v42 v43 v62 (IntKind.wrap .i64 (v63 + (1 : Int))) h8 h9 h10 (qVs (peq (.int .i64)) (IntKind.wrap .i64 (b14.1.2.1 + v63)) true m11) b12 h13 b14
else
qbb v12 v30 v31 v32 v42 (IntKind.wrap .i64 (v43 + (1 : Int))) h8 h9 h10 m11 b12 h13) := (FnI.sem_eq _).trans (by kernel_rfl)
noncomputable def qap (acc : List AV → Bool) : Summ Tryz.prog GT := salvage_Rebuild_I.summ mixed acc false false
noncomputable def bitloftlaw35_rebuilt_I : FnI Tryz.prog GT := { f := 17, cuts := [⟨(5, 3), [0, 2, 5, 9, 10, 12], false, false, []⟩, ⟨(9, 8), [0, 2, 5, 9, 10, 12, 13, 14, 15], false, false, []⟩, ⟨(14, 8), [0, 2, 5, 9, 10, 12, 13, 14, 16], false, false, []⟩], tab := [qap (fun _ => true)], fm := ⟨true, [.val .bool []]⟩ }
noncomputable def qMc (a0 : List qia) (a1 : qta) (a2 : List qfa) (a3 : List qpa) : Option (Bool) := bitloftlaw35_rebuilt_I.call [(.sl T_api_Member false a0), (.agg qsa (inj false qsa a1)), (.sl qga false a2), (.sl qva false a3)] []
noncomputable def qgb (v0 : List qia) (v2 : List qfa) (v12 : Int) (b8 : qta) (h9 : List qia) (h10 : List Bool) : Option (Bool) := bitloftlaw35_rebuilt_I.sem ⟨[.code (cIn (cIn (qca (qua (qca (qca (qca (qja Tryz.prog 17)))))))), .inLoop (cIn (cIn (qca (qua (qca (qca (qca (qja Tryz.prog 17)))))))), .inBlock 0, .code (qca (qca (qca (qca (qja Tryz.prog 17)))))], ⟨[(0, (.one (.sl T_api_Member false v0))), (2, (.one (.sl qga false v2))), (5, (.one (.ptr qsa 8 []))), (9, (.one (.ref T_api_Member 9 0 (List.length h9) true))), (10, (.one (.ref .bool 10 0 (List.length h10) true))), (12, (.one (.int .i64 v12)))], [(8, some (.box qsa (inj false qsa b8))), (9, some (.row T_api_Member true h9)), (10, some (.row .bool true h10))], 11⟩⟩
noncomputable def qfb (v0 : List qia) (v2 : List qfa) (v12 : Int) (v13 : Int) (v14 : Int) (v15 : Int) (b8 : qta) (h9 : List qia) (h10 : List Bool) : Option (Bool) := bitloftlaw35_rebuilt_I.sem ⟨[.code (cIn (cIn (qca (qua (qca (cIn (qua (qca (cIn (cIn (qca (qua (qca (qca (qca (qja Tryz.prog 17)))))))))))))))), .inLoop (cIn (cIn (qca (qua (qca (cIn (qua (qca (cIn (cIn (qca (qua (qca (qca (qca (qja Tryz.prog 17)))))))))))))))), .inBlock 2, .code (qca (qca (cIn (qua (qca (cIn (cIn (qca (qua (qca (qca (qca (qja Tryz.prog 17))))))))))))), .inBlock 1, .code (qca (qca (cIn (cIn (qca (qua (qca (qca (qca (qja Tryz.prog 17)))))))))), .inLoop (cIn (cIn (qca (qua (qca (qca (qca (qja Tryz.prog 17)))))))), .inBlock 0, .code (qca (qca (qca (qca (qja Tryz.prog 17)))))], ⟨[(0, (.one (.sl T_api_Member false v0))), (2, (.one (.sl qga false v2))), (5, (.one (.ptr qsa 8 []))), (9, (.one (.ref T_api_Member 9 0 (List.length h9) true))), (10, (.one (.ref .bool 10 0 (List.length h10) true))), (12, (.one (.int .i64 v12))), (13, (.one (.int .i64 v13))), (14, (.one (.int .i64 v14))), (15, (.one (.int .i64 v15)))], [(8, some (.box qsa (inj false qsa b8))), (9, some (.row T_api_Member true h9)), (10, some (.row .bool true h10))], 11⟩⟩
noncomputable def qHa (v0 : List qia) (v2 : List qfa) (v12 : Int) (v13 : Int) (v14 : Int) (v16 : Int) (b8 : qta) (h9 : List qia) (h10 : List Bool) : Option (Bool) := bitloftlaw35_rebuilt_I.sem ⟨[.code (cIn (cIn (qca (qua (qca (qca (cIn (qua (qca (cIn (cIn (qca (qua (qca (qca (qca (qja Tryz.prog 17))))))))))))))))), .inLoop (cIn (cIn (qca (qua (qca (qca (cIn (qua (qca (cIn (cIn (qca (qua (qca (qca (qca (qja Tryz.prog 17))))))))))))))))), .inBlock 4, .code (qca (qca (qca (cIn (qua (qca (cIn (cIn (qca (qua (qca (qca (qca (qja Tryz.prog 17)))))))))))))), .inBlock 1, .code (qca (qca (cIn (cIn (qca (qua (qca (qca (qca (qja Tryz.prog 17)))))))))), .inLoop (cIn (cIn (qca (qua (qca (qca (qca (qja Tryz.prog 17)))))))), .inBlock 0, .code (qca (qca (qca (qca (qja Tryz.prog 17)))))], ⟨[(0, (.one (.sl T_api_Member false v0))), (2, (.one (.sl qga false v2))), (5, (.one (.ptr qsa 8 []))), (9, (.one (.ref T_api_Member 9 0 (List.length h9) true))), (10, (.one (.ref .bool 10 0 (List.length h10) true))), (12, (.one (.int .i64 v12))), (13, (.one (.int .i64 v13))), (14, (.one (.int .i64 v14))), (16, (.one (.int .i64 v16)))], [(8, some (.box qsa (inj false qsa b8))), (9, some (.row T_api_Member true h9)), (10, some (.row .bool true h10))], 11⟩⟩
theorem qWj (a0 : List qia) (a1 : qta) (a2 : List qfa) (a3 : List qpa) : qMc a0 a1 a2 a3 = (
(qAh a1.2.1 a3).bind fun r1 =>
if (r1.2.2 != (0 : Int)) = true then
some (false)
else
if ((Int.ofNat (List.length r1.1)) != (Int.ofNat (List.length a0))) = true then
some (false)
else
if ((Int.ofNat (List.length r1.2.1)) != (Int.ofNat (List.length a0))) = true then
some (false)
else
qgb a0 a2 (0 : Int) a1 r1.1 r1.2.1) := (FnI.call_eq (by kernel_rfl)).trans (by kernel_rfl)
theorem qde (v0 : List qia) (v2 : List qfa) (v12 : Int) (b8 : qta) (h9 : List qia) (h10 : List Bool) : qgb v0 v2 v12 b8 h9 h10 = (
if (decide (v12 < (Int.ofNat (List.length v0)))) = true then
qfb v0 v2 v12 (0 : Int) (0 : Int) (0 : Int) b8 h9 h10
else
some (true)) := (FnI.sem_eq _).trans (by kernel_rfl)
theorem qce (v0 : List qia) (v2 : List qfa) (v12 : Int) (v13 : Int) (v14 : Int) (v15 : Int) (b8 : qta) (h9 : List qia) (h10 : List Bool) : qfb v0 v2 v12 v13 v14 v15 b8 h9 h10 = (
if (decide (v15 < (Int.ofNat (List.length b8.2.2.1)))) = true then
gd (0 ≤ v15) <|
gd (v15 < (Int.ofNat (List.length b8.2.2.1))) <|
if ((List.getD b8.2.2.1 (Int.toNat v15) (qla qma)).2.1 == v12) = true then
qfb v0 v2 v12 (IntKind.wrap .i64 (v13 + (1 : Int))) v14 (IntKind.wrap .i64 (v15 + (1 : Int))) b8 h9 h10
else
qfb v0 v2 v12 v13 v14 (IntKind.wrap .i64 (v15 + (1 : Int))) b8 h9 h10
else
qHa v0 v2 v12 v13 v14 (0 : Int) b8 h9 h10) := (FnI.sem_eq _).trans (by kernel_rfl)
theorem qbe (v0 : List qia) (v2 : List qfa) (v12 : Int) (v13 : Int) (v14 : Int) (v16 : Int) (b8 : qta) (h9 : List qia) (h10 : List Bool) : qHa v0 v2 v12 v13 v14 v16 b8 h9 h10 = (
if (decide (v16 < (Int.ofNat (List.length v2)))) = true then
gd (0 ≤ v16) <|
gd (v16 < (Int.ofNat (List.length v2))) <|
gd (0 ≤ (List.getD v2 (Int.toNat v16) (qla qga)).1) <|
gd ((List.getD v2 (Int.toNat v16) (qla qga)).1 < (Int.ofNat (List.length b8.2.2.1))) <|
if ((List.getD b8.2.2.1 (Int.toNat (List.getD v2 (Int.toNat v16) (qla qga)).1) (qla qma)).2.1 == v12) = true then
qHa v0 v2 v12 v13 (IntKind.wrap .i64 (v14 + (1 : Int))) (IntKind.wrap .i64 (v16 + (1 : Int))) b8 h9 h10
else
qHa v0 v2 v12 v13 v14 (IntKind.wrap .i64 (v16 + (1 : Int))) b8 h9 h10
else
gd (0 ≤ v12) <|
gd (v12 < (Int.ofNat (List.length h10))) <|
if (not ((List.getD h10 (0 + (Int.toNat v12)) false) == (v13 == v14))) = true then
some (false)
else
gd (0 ≤ v12) <|
gd (v12 < (Int.ofNat (List.length h10))) <|
if (List.getD h10 (0 + (Int.toNat v12)) false) = true then
gd (0 ≤ v12) <|
gd (v12 < (Int.ofNat (List.length h9))) <|
gd (0 ≤ v12) <|
gd (v12 < (Int.ofNat (List.length v0))) <|
if (not ((ByteArray.toList (qEg (List.getD h9 (0 + (Int.toNat v12)) (qla T_api_Member)).2.1)) == (ByteArray.toList (qEg (List.getD v0 (Int.toNat v12) (qla T_api_Member)).2.1)))) = true then
some (false)
else
qgb v0 v2 (IntKind.wrap .i64 (v12 + (1 : Int))) b8 h9 h10
else
qgb v0 v2 (IntKind.wrap .i64 (v12 + (1 : Int))) b8 h9 h10) := (FnI.sem_eq _).trans (by kernel_rfl)
noncomputable def qrk (acc : List AV → Bool) : Summ Tryz.prog GT := bitloftlaw35_rebuilt_I.summ mixed acc false false
noncomputable def bitloftlaw35_DamageSurvivors_I : FnI Tryz.prog GT := { f := 3, cuts := [⟨(13, 3), [0, 5, 6, 7, 9, 11, 12], false, false, []⟩, ⟨(17, 8), [0, 5, 6, 7, 9, 11, 12, 13, 14], false, false, []⟩, ⟨(28, 3), [0, 5, 9, 17, 19, 21], false, false, []⟩], tab := [qsm (fun _ => true), qUl (fun _ => true), qKc (fun _ => true), qQl (fun _ => true), qRl (fun _ => true), qtl (fun _ => true), qKm (fun _ => true), qss (fun _ => true), qrm (fun _ => true), qVg (fun _ => true), qZo (fun _ => true), qrn (fun _ => true), qGp (fun _ => true), qrk (fun _ => true)], fm := ⟨true, [.val .bool []]⟩ }
noncomputable def qJb (a0 : List qia) (a1 : List qka) : Option (Bool) := bitloftlaw35_DamageSurvivors_I.call [(.sl T_api_Member false a0), (.sl T_api_Harm false a1)] []
noncomputable def qxa (v0 : List qia) (v5 : Bool) (v7 : List Int) (v12 : Int) (h8 : List Int) (h9 : List qfa) (h10 : List Int) : Option (Bool) := bitloftlaw35_DamageSurvivors_I.sem ⟨[.code (cIn (cIn (qca (qua (qca (qca (qca (qca (qca (qca (qca (qca (qca (qja Tryz.prog 3)))))))))))))), .inLoop (cIn (cIn (qca (qua (qca (qca (qca (qca (qca (qca (qca (qca (qca (qja Tryz.prog 3)))))))))))))), .inBlock 0, .code (qca (qca (qca (qca (qca (qca (qca (qca (qca (qca (qja Tryz.prog 3)))))))))))], ⟨[(0, (.one (.sl T_api_Member false v0))), (5, (.one (.bool v5))), (6, (.one (.ref (.int .u8) 8 0 (List.length h8) true))), (7, (.one (.sl (.int .u8) true v7))), (9, (.one (.ref qga 9 0 (List.length h9) true))), (11, (.one (.ref (.int .i64) 10 0 (List.length h10) true))), (12, (.one (.int .i64 v12)))], [(8, some (.row (.int .u8) true h8)), (9, some (.row qga true h9)), (10, some (.row (.int .i64) true h10))], 11⟩⟩
noncomputable def qBa (v0 : List qia) (v5 : Bool) (v7 : List Int) (v12 : Int) (v13 : Bool) (v14 : Int) (h8 : List Int) (h9 : List qfa) (h10 : List Int) : Option (Bool) := bitloftlaw35_DamageSurvivors_I.sem ⟨[.code (cIn (cIn (qca (qua (qca (cIn (qua (qca (cIn (cIn (qca (qua (qca (qca (qca (qca (qca (qca (qca (qca (qca (qja Tryz.prog 3)))))))))))))))))))))), .inLoop (cIn (cIn (qca (qua (qca (cIn (qua (qca (cIn (cIn (qca (qua (qca (qca (qca (qca (qca (qca (qca (qca (qca (qja Tryz.prog 3)))))))))))))))))))))), .inBlock 2, .code (qca (qca (cIn (qua (qca (cIn (cIn (qca (qua (qca (qca (qca (qca (qca (qca (qca (qca (qca (qja Tryz.prog 3))))))))))))))))))), .inBlock 1, .code (qca (qca (cIn (cIn (qca (qua (qca (qca (qca (qca (qca (qca (qca (qca (qca (qja Tryz.prog 3)))))))))))))))), .inLoop (cIn (cIn (qca (qua (qca (qca (qca (qca (qca (qca (qca (qca (qca (qja Tryz.prog 3)))))))))))))), .inBlock 0, .code (qca (qca (qca (qca (qca (qca (qca (qca (qca (qca (qja Tryz.prog 3)))))))))))], ⟨[(0, (.one (.sl T_api_Member false v0))), (5, (.one (.bool v5))), (6, (.one (.ref (.int .u8) 8 0 (List.length h8) true))), (7, (.one (.sl (.int .u8) true v7))), (9, (.one (.ref qga 9 0 (List.length h9) true))), (11, (.one (.ref (.int .i64) 10 0 (List.length h10) true))), (12, (.one (.int .i64 v12))), (13, (.one (.bool v13))), (14, (.one (.int .i64 v14)))], [(8, some (.row (.int .u8) true h8)), (9, some (.row qga true h9)), (10, some (.row (.int .i64) true h10))], 11⟩⟩
noncomputable def qOa (v0 : List qia) (v5 : Bool) (v21 : Int) (h8 : List qfa) (h9 : List qpa) (b10 : qta) : Option (Bool) := bitloftlaw35_DamageSurvivors_I.sem ⟨[.code (cIn (cIn (qca (qua (qca (qca (qca (qca (qca (qca (qca (qca (qca (qca (qca (qca (qca (qja Tryz.prog 3)))))))))))))))))), .inLoop (cIn (cIn (qca (qua (qca (qca (qca (qca (qca (qca (qca (qca (qca (qca (qca (qca (qca (qja Tryz.prog 3)))))))))))))))))), .inBlock 4, .code (qca (qca (qca (qca (qca (qca (qca (qca (qca (qca (qca (qca (qca (qca (qja Tryz.prog 3)))))))))))))))], ⟨[(0, (.one (.sl T_api_Member false v0))), (5, (.one (.bool v5))), (9, (.one (.ref qga 8 0 (List.length h8) true))), (17, (.one (.ref qva 9 0 (List.length h9) true))), (19, (.one (.ptr qsa 10 []))), (21, (.one (.int .i64 v21)))], [(8, some (.row qga true h8)), (9, some (.row qva true h9)), (10, some (.box qsa (inj true qsa b10)))], 11⟩⟩
theorem qug (a0 : List qia) (a1 : List qka) : qJb a0 a1 = (
(qZf).bind fun r1 =>
(qHf a0).bind fun r2 =>
if (not r2) = true then
some (r1)
else
(qGa a0).bind fun r3 =>
if (r3 != (0 : Int)) = true then
some (r1)
else
(qEf a1).bind fun r4 =>
if r4 = true then
some (r1)
else
(qFf a1).bind fun r5 =>
if (r5 != (0 : Int)) = true then
some (r1)
else
if (not r1) = true then
some (r1)
else
(qPe a0).bind fun r6 =>
(qpi r6 a1).bind fun r7 =>
(qNj r6 a1).bind fun r8 =>
if (r7.2 != (0 : Int)) = true then
if r1 = true then
if (r7.2 == r8.2) = true then
some (r7.2 == (16 : Int))
else
some (false)
else
some (false)
else
if (r8.2 != (0 : Int)) = true then
if r1 = true then
if (r7.2 == r8.2) = true then
some (r7.2 == (16 : Int))
else
some (false)
else
some (false)
else
(qYf r7.1).bind fun r9 =>
if r9 = true then
some (r1)
else
(qbd r7.1).bind fun r10 =>
qxa a0 r1 r7.1 (0 : Int) r6 r8.1 r10) := (FnI.call_eq (by kernel_rfl)).trans (by kernel_rfl)
theorem qcc (v0 : List qia) (v5 : Bool) (v7 : List Int) (v12 : Int) (h8 : List Int) (h9 : List qfa) (h10 : List Int) : qxa v0 v5 v7 v12 h8 h9 h10 = (
if (decide (v12 < (Int.ofNat (List.length h10)))) = true then
qBa v0 v5 v7 v12 false (0 : Int) h8 h9 h10
else
(qrf (0 : Int) v7).bind fun r11 =>
(qSd h8).bind fun r12 =>
if (r11.2 != (0 : Int)) = true then
some (false)
else
if (r12.2 != (0 : Int)) = true then
some (false)
else
if ((Int.ofNat (List.length r11.1)) != (Int.ofNat (List.length h9))) = true then
some (false)
else
qOa v0 v5 (0 : Int) h9 r11.1 r12.1) := (FnI.sem_eq _).trans (by kernel_rfl)
theorem qbc (v0 : List qia) (v5 : Bool) (v7 : List Int) (v12 : Int) (v13 : Bool) (v14 : Int) (h8 : List Int) (h9 : List qfa) (h10 : List Int) : qBa v0 v5 v7 v12 v13 v14 h8 h9 h10 = (
if (decide (v14 < (Int.ofNat (List.length h9)))) = true then
if v13 = true then
qBa v0 v5 v7 v12 true (IntKind.wrap .i64 (v14 + (1 : Int))) h8 h9 h10
else
gd (0 ≤ v14) <|
gd (v14 < (Int.ofNat (List.length h9))) <|
gd (0 ≤ v12) <|
gd (v12 < (Int.ofNat (List.length h10))) <|
qBa v0 v5 v7 v12 ((List.getD h9 (0 + (Int.toNat v14)) (qla qga)).2.1 == (List.getD h10 (0 + (Int.toNat v12)) (0 : Int))) (IntKind.wrap .i64 (v14 + (1 : Int))) h8 h9 h10
else
gd (0 ≤ v12) <|
gd (v12 < (Int.ofNat (List.length h10))) <|
(qGf (0 : Int) v7 (List.getD h10 (0 + (Int.toNat v12)) (0 : Int))).bind fun r13 =>
if (decide (r13.2 > (0 : Int))) = true then
if (not v13) = true then
some (v5)
else
qxa v0 v5 v7 (IntKind.wrap .i64 (v12 + (1 : Int))) h8 h9 h10
else
qxa v0 v5 v7 (IntKind.wrap .i64 (v12 + (1 : Int))) h8 h9 h10) := (FnI.sem_eq _).trans (by kernel_rfl)
theorem qac (v0 : List qia) (v5 : Bool) (v21 : Int) (h8 : List qfa) (h9 : List qpa) (b10 : qta) : qOa v0 v5 v21 h8 h9 b10 = (
if (decide (v21 < (Int.ofNat (List.length h8)))) = true then
gd (0 ≤ v21) <|
gd (v21 < (Int.ofNat (List.length h8))) <|
if (decide ((List.getD h8 (0 + (Int.toNat v21)) (qla qga)).1 < (0 : Int))) = true then
some (false)
else
gd (0 ≤ v21) <|
gd (v21 < (Int.ofNat (List.length h8))) <|
if (decide ((List.getD h8 (0 + (Int.toNat v21)) (qla qga)).1 ≥ (Int.ofNat (List.length b10.2.2.1)))) = true then
some (false)
else
gd (0 ≤ v21) <|
gd (v21 < (Int.ofNat (List.length h9))) <|
gd (0 ≤ v21) <|
gd (v21 < (Int.ofNat (List.length h8))) <|
if ((List.getD h9 (0 + (Int.toNat v21)) (qla qva)).1 != (List.getD h8 (0 + (Int.toNat v21)) (qla qga)).2.1) = true then
some (false)
else
gd (0 ≤ v21) <|
gd (v21 < (Int.ofNat (List.length h9))) <|
gd (0 ≤ v21) <|
gd (v21 < (Int.ofNat (List.length h8))) <|
gd (0 ≤ (List.getD h8 (0 + (Int.toNat v21)) (qla qga)).1) <|
gd ((List.getD h8 (0 + (Int.toNat v21)) (qla qga)).1 < (Int.ofNat (List.length b10.2.2.1))) <|
if (not (peq qma (List.getD h9 (0 + (Int.toNat v21)) (qla qva)).2.1 (List.getD b10.2.2.1 (Int.toNat (List.getD h8 (0 + (Int.toNat v21)) (qla qga)).1) (qla qma)))) = true then
some (false)
else
qOa v0 v5 (IntKind.wrap .i64 (v21 + (1 : Int))) h8 h9 b10
else
if v5 = true then
(qMc v0 b10 h8 h9).bind fun r14 =>
some (r14)
else
some (false)) := (FnI.sem_eq _).trans (by kernel_rfl)
end Go.Ab
