/-
  What the functions compute, as plain functions: printed by a program of this repo's own and checked here by the kernel.
-/
import Derived.Test.YtdhmnakopofmpaaGenT3b
import Derived.Test.YtdhmnakopofmpaaProg
set_option linter.unusedVariables false
set_option maxRecDepth 20000
namespace Go.Ab
open Go Go.Proofs
abbrev T_runtime_boundsError : Ty := (.pair (.int .i64) (.pair (.int .i64) (.pair .bool (.pair (.int .u8) .unit))))
abbrev D_runtime_boundsError : Type := (Int × (Int × (Bool × (Int × Unit))))
abbrev T_runtime_errorAddressString : Ty := (.pair .str (.pair (.int .u64) .unit))
abbrev D_runtime_errorAddressString : Type := (ByteArray × (Int × Unit))
abbrev T_api_Piece : Ty := (.pair (.int .i64) (.pair (.int .i64) (.pair (.int .i64) .unit)))
abbrev D_api_Piece : Type := (Int × (Int × (Int × Unit)))
abbrev T_api_Harm : Ty := (.pair (.int .u8) (.pair (.int .i64) (.pair (.int .i64) (.pair (.slice (.int .u8)) .unit))))
abbrev D_api_Harm : Type := (Int × (Int × (Int × ((List Int) × Unit))))
abbrev T_bitloftref35_cell : Ty := (.pair (.int .u8) (.pair (.int .i64) .unit))
abbrev D_bitloftref35_cell : Type := (Int × (Int × Unit))
def G_widths : List Int := [1, 1, 2, 2, 2]
def G_quarters : List Int := [1518500249, 1859775393, 2400959708, 3395469782]
def GT : GTab := []
theorem mixed : Try.prog.follows .mixedOrders = true := by kernel_rfl
noncomputable def slices_Delete_u8_S (acc : List AV → Bool) : Summ Try.prog GT := { f := 31, acc := acc, rows := true, nils := false, R := List Int, fn := slices_Delete_u8_fn, res := fun r => .one (.ref (.int .u8) 8 0 r.length true), post := fun r => [(8, .row (.int .u8) true r)], ok := fun _ _ _ h => slices_Delete_u8_ok h }
noncomputable def slices_Insert_u8_S (acc : List AV → Bool) : Summ Try.prog GT := { f := 32, acc := acc, rows := true, nils := false, R := List Int, fn := slices_Insert_u8_fn, res := fun r => .one (.ref (.int .u8) 8 0 r.length true), post := fun r => [(8, .row (.int .u8) true r)], ok := fun _ _ _ h => slices_Insert_u8_ok h }
noncomputable def slices_Delete_i64_S (acc : List AV → Bool) : Summ Try.prog GT := { f := 35, acc := acc, rows := true, nils := false, R := List Int, fn := slices_Delete_i64_fn, res := fun r => .one (.ref (.int .i64) 8 0 r.length true), post := fun r => [(8, .row (.int .i64) true r)], ok := fun _ _ _ h => slices_Delete_i64_ok h }
noncomputable def slices_Insert_i64_S (acc : List AV → Bool) : Summ Try.prog GT := { f := 36, acc := acc, rows := true, nils := false, R := List Int, fn := slices_Insert_i64_fn, res := fun r => .one (.ref (.int .i64) 8 0 r.length true), post := fun r => [(8, .row (.int .i64) true r)], ok := fun _ _ _ h => slices_Insert_i64_ok h }
/-! bitloft/bitloftref35.Great -/
noncomputable def bitloftref35_Great_I : FnI Try.prog GT := { f := 7, cuts := [⟨(2, 3), [0, 3], false, false⟩], tab := [], fm := ⟨true, [.val .bool []]⟩ }
noncomputable def bitloftref35_Great (a0 : List D_api_Harm) : Option (Bool) := bitloftref35_Great_I.call [(.sl T_api_Harm false a0)] []
noncomputable def bitloftref35_Great_c1 (v0 : List D_api_Harm) (v3 : Int) : Option (Bool) := bitloftref35_Great_I.sem ⟨[.code (cIn (cIn (cSnd (cFst (cSnd (bodyOf Try.prog 7)))))), .inLoop (cIn (cIn (cSnd (cFst (cSnd (bodyOf Try.prog 7)))))), .inBlock 0, .code (cSnd (cSnd (bodyOf Try.prog 7)))], ⟨[(0, (.one (.sl T_api_Harm false v0))), (3, (.one (.int .i64 v3)))], [], 8⟩⟩
theorem bitloftref35_Great_eq (a0 : List D_api_Harm) : bitloftref35_Great a0 = (
  bitloftref35_Great_c1 a0 (0 : Int)) := (FnI.call_eq (by kernel_rfl)).trans (by kernel_rfl)
theorem bitloftref35_Great_c1_eq (v0 : List D_api_Harm) (v3 : Int) : bitloftref35_Great_c1 v0 v3 = (
  if (decide (v3 < (Int.ofNat (List.length v0)))) = true then
    gd (0 ≤ v3) <|
    gd (v3 < (Int.ofNat (List.length v0))) <|
    if (decide ((Int.ofNat (List.length (List.getD v0 (Int.toNat v3) (pzero T_api_Harm)).2.2.2.1)) > (300 : Int))) = true then
      some (true)
    else
      bitloftref35_Great_c1 v0 (IntKind.wrap .i64 (v3 + (1 : Int)))
  else
    some (decide ((Int.ofNat (List.length v0)) > (40 : Int)))) := (FnI.sem_eq _).trans (by kernel_rfl)
noncomputable def bitloftref35_Great_S (acc : List AV → Bool) : Summ Try.prog GT := bitloftref35_Great_I.summ mixed acc false false

/-! bitloft/damage.valid -/
noncomputable def damage_valid_I : FnI Try.prog GT := { f := 25, cuts := [], tab := [], fm := ⟨true, [.val .bool []]⟩ }
noncomputable def damage_valid (a0 : D_api_Harm) : Option (Bool) := damage_valid_I.call [(.agg T_api_Harm (inj false T_api_Harm a0))] []
theorem damage_valid_eq (a0 : D_api_Harm) : damage_valid a0 = (
  if (a0.1 == (1 : Int)) = true then
    if (decide (a0.2.1 ≥ (0 : Int))) = true then
      if (decide (a0.2.2.1 ≥ (0 : Int))) = true then
        if (decide (a0.2.2.1 < (256 : Int))) = true then
          some ((Int.ofNat (List.length a0.2.2.2.1)) == (0 : Int))
        else
          some (false)
      else
        some (false)
    else
      some (false)
  else
    if (a0.1 == (2 : Int)) = true then
      if (decide (a0.2.1 ≥ (0 : Int))) = true then
        if (decide (a0.2.2.1 ≥ (0 : Int))) = true then
          some ((Int.ofNat (List.length a0.2.2.2.1)) == (0 : Int))
        else
          some (false)
      else
        some (false)
    else
      if (a0.1 == (3 : Int)) = true then
        if (decide (a0.2.1 ≥ (0 : Int))) = true then
          if (a0.2.2.1 == (0 : Int)) = true then
            some (decide ((Int.ofNat (List.length a0.2.2.2.1)) ≤ (200 : Int)))
          else
            some (false)
        else
          some (false)
      else
        if (a0.1 == (4 : Int)) = true then
          if (decide (a0.2.1 ≥ (0 : Int))) = true then
            if (a0.2.2.1 == (0 : Int)) = true then
              some ((Int.ofNat (List.length a0.2.2.2.1)) == (0 : Int))
            else
              some (false)
          else
            some (false)
        else
          some (false)) := (FnI.call_eq (by kernel_rfl)).trans (by kernel_rfl)
noncomputable def damage_valid_S (acc : List AV → Bool) : Summ Try.prog GT := damage_valid_I.summ mixed acc false false

/-! bitloft/damage.Check$1 -/
noncomputable def damage_Check_1_I : FnI Try.prog GT := { f := 24, cuts := [], tab := [damage_valid_S (fun _ => true)], fm := ⟨true, [.val .bool []]⟩ }
noncomputable def damage_Check_1 (a0 : D_api_Harm) : Option (Bool) := damage_Check_1_I.call [(.agg T_api_Harm (inj false T_api_Harm a0))] []
theorem damage_Check_1_eq (a0 : D_api_Harm) : damage_Check_1 a0 = (
  (damage_valid a0).bind fun (r1 : (Bool)) =>
  some (not r1)) := (FnI.call_eq (by kernel_rfl)).trans (by kernel_rfl)
noncomputable def damage_Check_1_S (acc : List AV → Bool) : Summ Try.prog GT := damage_Check_1_I.summ mixed acc false false

/-! slices.IndexFunc[[]bitloft/api.Harm,bitloft/api.Harm] -/
noncomputable def slices_IndexFunc_api_Harm_api_Harm_I : FnI Try.prog GT := { f := 37, cuts := [⟨(2, 3), [0, 1, 7, 8], false, false⟩], tab := [damage_Check_1_S (fun _ => true)], fm := ⟨true, [.val (.int .i64) []]⟩ }
noncomputable def slices_IndexFunc_api_Harm_api_Harm (a0 : List D_api_Harm) : Option (Int) := slices_IndexFunc_api_Harm_api_Harm_I.call [(.sl T_api_Harm false a0), (.func 24 [])] []
noncomputable def slices_IndexFunc_api_Harm_api_Harm_c1 (v0 : List D_api_Harm) (v7 : Int) (v8 : Int) : Option (Int) := slices_IndexFunc_api_Harm_api_Harm_I.sem ⟨[.code (cIn (cIn (cSnd (cFst (cSnd (bodyOf Try.prog 37)))))), .inLoop (cIn (cIn (cSnd (cFst (cSnd (bodyOf Try.prog 37)))))), .inBlock 0, .code (cSnd (cSnd (bodyOf Try.prog 37)))], ⟨[(0, (.one (.sl T_api_Harm false v0))), (1, (.one (.func 24 []))), (7, (.one (.int .i64 v7))), (8, (.one (.int .i64 v8)))], [], 8⟩⟩
theorem slices_IndexFunc_api_Harm_api_Harm_eq (a0 : List D_api_Harm) : slices_IndexFunc_api_Harm_api_Harm a0 = (
  slices_IndexFunc_api_Harm_api_Harm_c1 a0 (Int.ofNat (List.length a0)) (0 : Int)) := (FnI.call_eq (by kernel_rfl)).trans (by kernel_rfl)
theorem slices_IndexFunc_api_Harm_api_Harm_c1_eq (v0 : List D_api_Harm) (v7 : Int) (v8 : Int) : slices_IndexFunc_api_Harm_api_Harm_c1 v0 v7 v8 = (
  if (decide (v8 < v7)) = true then
    gd (0 ≤ v8) <|
    gd (v8 < (Int.ofNat (List.length v0))) <|
    (damage_Check_1 (List.getD v0 (Int.toNat v8) (pzero T_api_Harm))).bind fun (r1 : (Bool)) =>
    if r1 = true then
      some (v8)
    else
      slices_IndexFunc_api_Harm_api_Harm_c1 v0 v7 (IntKind.wrap .i64 (v8 + (1 : Int)))
  else
    some (-1 : Int)) := (FnI.sem_eq _).trans (by kernel_rfl)
noncomputable def slices_IndexFunc_api_Harm_api_Harm_S (acc : List AV → Bool) : Summ Try.prog GT := slices_IndexFunc_api_Harm_api_Harm_I.summ mixed acc false false

/-! slices.ContainsFunc[[]bitloft/api.Harm,bitloft/api.Harm] -/
noncomputable def slices_ContainsFunc_api_Harm_api_Harm_I : FnI Try.prog GT := { f := 23, cuts := [], tab := [slices_IndexFunc_api_Harm_api_Harm_S (fun _ => true)], fm := ⟨true, [.val .bool []]⟩ }
noncomputable def slices_ContainsFunc_api_Harm_api_Harm (a0 : List D_api_Harm) : Option (Bool) := slices_ContainsFunc_api_Harm_api_Harm_I.call [(.sl T_api_Harm false a0), (.func 24 [])] []
theorem slices_ContainsFunc_api_Harm_api_Harm_eq (a0 : List D_api_Harm) : slices_ContainsFunc_api_Harm_api_Harm a0 = (
  (slices_IndexFunc_api_Harm_api_Harm a0).bind fun (r1 : (Int)) =>
  some (decide (r1 ≥ (0 : Int)))) := (FnI.call_eq (by kernel_rfl)).trans (by kernel_rfl)
noncomputable def slices_ContainsFunc_api_Harm_api_Harm_S (acc : List AV → Bool) : Summ Try.prog GT := slices_ContainsFunc_api_Harm_api_Harm_I.summ mixed acc false false

/-! bitloft/damage.Check -/
noncomputable def damage_Check_I : FnI Try.prog GT := { f := 12, cuts := [], tab := [slices_ContainsFunc_api_Harm_api_Harm_S (fun _ => true)], fm := ⟨true, [.val (.int .i64) []]⟩ }
noncomputable def damage_Check (a0 : List D_api_Harm) : Option (Int) := damage_Check_I.call [(.sl T_api_Harm false a0)] []
theorem damage_Check_eq (a0 : List D_api_Harm) : damage_Check a0 = (
  if (decide ((Int.ofNat (List.length a0)) > (20 : Int))) = true then
    some (4 : Int)
  else
    (slices_ContainsFunc_api_Harm_api_Harm a0).bind fun (r1 : (Bool)) =>
    if r1 = true then
      some (8 : Int)
    else
      some (0 : Int)) := (FnI.call_eq (by kernel_rfl)).trans (by kernel_rfl)
noncomputable def damage_Check_S (acc : List AV → Bool) : Summ Try.prog GT := damage_Check_I.summ mixed acc false false

/-! slices.Clone[[]byte,byte] -/
noncomputable def slices_Clone_byte_byte_I : FnI Try.prog GT := { f := 29, cuts := [], tab := [], fm := ⟨true, [.val (.slice (.int .u8)) [.nw]]⟩ }
noncomputable def slices_Clone_byte_byte (a0 : List Int) : Option (List Int) := slices_Clone_byte_byte_I.call [(.sl (.int .u8) false a0)] []
theorem slices_Clone_byte_byte_eq (a0 : List Int) : slices_Clone_byte_byte a0 = (
  anyv (fun (r1 : Bool) => r1 = true → a0 = []) fun (r1 : Bool) =>
  if r1 = true then
    some ([])
  else
    gd ((List.length ([] ++ a0)) * 1 ≤ 140737488355328) <|
    some ([] ++ a0)) := (FnI.call_eq (by kernel_rfl)).trans (by kernel_rfl)
noncomputable def slices_Clone_byte_byte_S (acc : List AV → Bool) : Summ Try.prog GT := slices_Clone_byte_byte_I.summ mixed acc false false

/-! bitloft/damage.possible -/
noncomputable def damage_possible_I : FnI Try.prog GT := { f := 30, cuts := [], tab := [], fm := ⟨true, [.val .bool []]⟩ }
noncomputable def damage_possible (a0 : Int) (a1 : D_api_Harm) : Option (Bool) := damage_possible_I.call [(.int .i64 a0), (.agg T_api_Harm (inj false T_api_Harm a1))] []
theorem damage_possible_eq (a0 : Int) (a1 : D_api_Harm) : damage_possible a0 a1 = (
  if (a1.1 == (1 : Int)) = true then
    some (decide (a1.2.1 < a0))
  else
    if (a1.1 == (2 : Int)) = true then
      if (decide (a1.2.1 ≤ a0)) = true then
        some (decide (a1.2.2.1 ≤ (IntKind.wrap .i64 (a0 - a1.2.1))))
      else
        some (false)
    else
      if (a1.1 == (3 : Int)) = true then
        if (decide (a1.2.1 ≤ a0)) = true then
          some (decide ((IntKind.wrap .i64 (a0 + (Int.ofNat (List.length a1.2.2.2.1)))) ≤ (50000 : Int)))
        else
          some (false)
      else
        some (decide (a1.2.1 ≤ a0))) := (FnI.call_eq (by kernel_rfl)).trans (by kernel_rfl)
noncomputable def damage_possible_S (acc : List AV → Bool) : Summ Try.prog GT := damage_possible_I.summ mixed acc false false

/-! bitloft/damage.Apply$1 -/
noncomputable def damage_Apply_1_I : FnI Try.prog GT := { f := 19, cuts := [], tab := [], fm := ⟨true, [.val (.int .u8) []]⟩ }
noncomputable def damage_Apply_1 (a0 : Int) : Option (Int) := damage_Apply_1_I.call [(.int .u8 a0)] []
theorem damage_Apply_1_eq (a0 : Int) : damage_Apply_1 a0 = (
  some (a0)) := (FnI.call_eq (by kernel_rfl)).trans (by kernel_rfl)
noncomputable def damage_Apply_1_S (acc : List AV → Bool) : Summ Try.prog GT := damage_Apply_1_I.summ mixed acc false false

/-! bitloft/damage.do[byte] -/
noncomputable def damage_do_byte_I : FnI Try.prog GT := { f := 18, cuts := [⟨(3, 3), [0, 2, 15, 16, 17], false, false⟩, ⟨(15, 9), [0, 2, 9, 10, 15, 16, 17, 53, 54, 55], false, false⟩], tab := [slices_Clone_byte_byte_S (fun _ => true), damage_possible_S (fun _ => true), damage_Apply_1_S (fun _ => true), slices_Delete_u8_S (fun _ => true), slices_Insert_u8_S (fun _ => true)], fm := ⟨true, [.val (.slice (.int .u8)) [.pu], .val (.int .i64) []]⟩ }
noncomputable def damage_do_byte (a0 : List Int) (a1 : List D_api_Harm) : Option (List Int × Int) := damage_do_byte_I.call [(.sl (.int .u8) false a0), (.sl T_api_Harm false a1), (.func 19 [])] []
noncomputable def damage_do_byte_c1 (v15 : List D_api_Harm) (v16 : Int) (v17 : Int) (h8 : List Int) : Option (List Int × Int) := damage_do_byte_I.sem ⟨[.code (cIn (cIn (cSnd (cFst (cSnd (cSnd (bodyOf Try.prog 18))))))), .inLoop (cIn (cIn (cSnd (cFst (cSnd (cSnd (bodyOf Try.prog 18))))))), .inBlock 0, .code (cSnd (cSnd (cSnd (bodyOf Try.prog 18))))], ⟨[(0, (.one (.ref (.int .u8) 8 0 (List.length h8) true))), (2, (.one (.func 19 []))), (15, (.one (.sl T_api_Harm false v15))), (16, (.one (.int .i64 v16))), (17, (.one (.int .i64 v17)))], [(8, some (.row (.int .u8) true h8))], 9⟩⟩
noncomputable def damage_do_byte_c2 (v15 : List D_api_Harm) (v16 : Int) (v17 : Int) (v53 : List Int) (v54 : Int) (v55 : Int) (h8 : List Int) (b9 : D_api_Harm) (h10 : List Int) : Option (List Int × Int) := damage_do_byte_I.sem ⟨[.code (cIn (cIn (cSnd (cFst (cSnd (cThn (cSnd (cEls (cSnd (cEls (cSnd (cIn (cSnd (cSnd (cSnd (cIn (cFst (cSnd (cSnd (cIn (cIn (cSnd (cFst (cSnd (cSnd (bodyOf Try.prog 18)))))))))))))))))))))))))), .inLoop (cIn (cIn (cSnd (cFst (cSnd (cThn (cSnd (cEls (cSnd (cEls (cSnd (cIn (cSnd (cSnd (cSnd (cIn (cFst (cSnd (cSnd (cIn (cIn (cSnd (cFst (cSnd (cSnd (bodyOf Try.prog 18)))))))))))))))))))))))))), .inBlock 3, .code (cSnd (cSnd (cThn (cSnd (cEls (cSnd (cEls (cSnd (cIn (cSnd (cSnd (cSnd (cIn (cFst (cSnd (cSnd (cIn (cIn (cSnd (cFst (cSnd (cSnd (bodyOf Try.prog 18))))))))))))))))))))))), .inBlock 2, .inBlock 1, .code (cSnd (cSnd (cSnd (cIn (cIn (cSnd (cFst (cSnd (cSnd (bodyOf Try.prog 18)))))))))), .inLoop (cIn (cIn (cSnd (cFst (cSnd (cSnd (bodyOf Try.prog 18))))))), .inBlock 0, .code (cSnd (cSnd (cSnd (bodyOf Try.prog 18))))], ⟨[(0, (.one (.ref (.int .u8) 8 0 (List.length h8) true))), (2, (.one (.func 19 []))), (9, (.one (.ptr T_api_Harm 9 []))), (10, (.one (.ref (.int .u8) 10 0 (List.length h10) true))), (15, (.one (.sl T_api_Harm false v15))), (16, (.one (.int .i64 v16))), (17, (.one (.int .i64 v17))), (53, (.one (.sl (.int .u8) false v53))), (54, (.one (.int .i64 v54))), (55, (.one (.int .i64 v55)))], [(8, some (.row (.int .u8) true h8)), (9, some (.box T_api_Harm (inj false T_api_Harm b9))), (10, some (.row (.int .u8) true h10))], 11⟩⟩
noncomputable def damage_do_byte_c3 (v0o : Nat) (v0n : Nat) (v15 : List D_api_Harm) (v16 : Int) (v17 : Int) (h8 : List Int) : Option (List Int × Int) := damage_do_byte_I.sem ⟨[.code (cIn (cIn (cSnd (cFst (cSnd (cSnd (bodyOf Try.prog 18))))))), .inLoop (cIn (cIn (cSnd (cFst (cSnd (cSnd (bodyOf Try.prog 18))))))), .inBlock 0, .code (cSnd (cSnd (cSnd (bodyOf Try.prog 18))))], ⟨[(0, (.one (.ref (.int .u8) 8 v0o v0n false))), (2, (.one (.func 19 []))), (15, (.one (.sl T_api_Harm false v15))), (16, (.one (.int .i64 v16))), (17, (.one (.int .i64 v17)))], [(8, some (.row (.int .u8) true h8))], 9⟩⟩
noncomputable def damage_do_byte_c4 (v0o : Nat) (v0n : Nat) (v15 : List D_api_Harm) (v16 : Int) (v17 : Int) (v53 : List Int) (v54 : Int) (v55 : Int) (h8 : List Int) (b9 : D_api_Harm) (h10 : List Int) : Option (List Int × Int) := damage_do_byte_I.sem ⟨[.code (cIn (cIn (cSnd (cFst (cSnd (cThn (cSnd (cEls (cSnd (cEls (cSnd (cIn (cSnd (cSnd (cSnd (cIn (cFst (cSnd (cSnd (cIn (cIn (cSnd (cFst (cSnd (cSnd (bodyOf Try.prog 18)))))))))))))))))))))))))), .inLoop (cIn (cIn (cSnd (cFst (cSnd (cThn (cSnd (cEls (cSnd (cEls (cSnd (cIn (cSnd (cSnd (cSnd (cIn (cFst (cSnd (cSnd (cIn (cIn (cSnd (cFst (cSnd (cSnd (bodyOf Try.prog 18)))))))))))))))))))))))))), .inBlock 3, .code (cSnd (cSnd (cThn (cSnd (cEls (cSnd (cEls (cSnd (cIn (cSnd (cSnd (cSnd (cIn (cFst (cSnd (cSnd (cIn (cIn (cSnd (cFst (cSnd (cSnd (bodyOf Try.prog 18))))))))))))))))))))))), .inBlock 2, .inBlock 1, .code (cSnd (cSnd (cSnd (cIn (cIn (cSnd (cFst (cSnd (cSnd (bodyOf Try.prog 18)))))))))), .inLoop (cIn (cIn (cSnd (cFst (cSnd (cSnd (bodyOf Try.prog 18))))))), .inBlock 0, .code (cSnd (cSnd (cSnd (bodyOf Try.prog 18))))], ⟨[(0, (.one (.ref (.int .u8) 8 v0o v0n false))), (2, (.one (.func 19 []))), (9, (.one (.ptr T_api_Harm 9 []))), (10, (.one (.ref (.int .u8) 10 0 (List.length h10) true))), (15, (.one (.sl T_api_Harm false v15))), (16, (.one (.int .i64 v16))), (17, (.one (.int .i64 v17))), (53, (.one (.sl (.int .u8) false v53))), (54, (.one (.int .i64 v54))), (55, (.one (.int .i64 v55)))], [(8, some (.row (.int .u8) true h8)), (9, some (.box T_api_Harm (inj false T_api_Harm b9))), (10, some (.row (.int .u8) true h10))], 11⟩⟩
theorem damage_do_byte_eq (a0 : List Int) (a1 : List D_api_Harm) : damage_do_byte a0 a1 = (
  (slices_Clone_byte_byte a0).bind fun (r1 : (List Int)) =>
  damage_do_byte_c1 a1 (Int.ofNat (List.length a1)) (0 : Int) r1) := (FnI.call_eq (by kernel_rfl)).trans (by kernel_rfl)
theorem damage_do_byte_c1_eq (v15 : List D_api_Harm) (v16 : Int) (v17 : Int) (h8 : List Int) : damage_do_byte_c1 v15 v16 v17 h8 = (
  if (decide (v17 < v16)) = true then
    gd (0 ≤ v17) <|
    gd (v17 < (Int.ofNat (List.length v15))) <|
    (damage_possible (Int.ofNat (List.length h8)) (List.getD v15 (Int.toNat v17) (pzero T_api_Harm))).bind fun (r2 : (Bool)) =>
    if (not r2) = true then
      some ([], (16 : Int))
    else
      if ((List.getD v15 (Int.toNat v17) (pzero T_api_Harm)).1 == (1 : Int)) = true then
        (damage_Apply_1 (IntKind.wrap .u8 (List.getD v15 (Int.toNat v17) (pzero T_api_Harm)).2.2.1)).bind fun (r3 : (Int)) =>
        gd (0 ≤ (List.getD v15 (Int.toNat v17) (pzero T_api_Harm)).2.1) <|
        gd ((List.getD v15 (Int.toNat v17) (pzero T_api_Harm)).2.1 < (Int.ofNat (List.length h8))) <|
        damage_do_byte_c1 v15 v16 (IntKind.wrap .i64 (v17 + (1 : Int))) (List.set h8 (0 + (Int.toNat (List.getD v15 (Int.toNat v17) (pzero T_api_Harm)).2.1)) r3)
      else
        if ((List.getD v15 (Int.toNat v17) (pzero T_api_Harm)).1 == (2 : Int)) = true then
          (slices_Delete_u8 h8 (List.getD v15 (Int.toNat v17) (pzero T_api_Harm)).2.1 (IntKind.wrap .i64 ((List.getD v15 (Int.toNat v17) (pzero T_api_Harm)).2.1 + (List.getD v15 (Int.toNat v17) (pzero T_api_Harm)).2.2.1))).bind fun (r4 : (List Int)) =>
          damage_do_byte_c1 v15 v16 (IntKind.wrap .i64 (v17 + (1 : Int))) r4
        else
          if ((List.getD v15 (Int.toNat v17) (pzero T_api_Harm)).1 == (3 : Int)) = true then
            damage_do_byte_c2 v15 v16 v17 (List.getD v15 (Int.toNat v17) (pzero T_api_Harm)).2.2.2.1 (Int.ofNat (List.length (List.getD v15 (Int.toNat v17) (pzero T_api_Harm)).2.2.2.1)) (0 : Int) h8 (List.getD v15 (Int.toNat v17) (pzero T_api_Harm)) []
          else
            if ((List.getD v15 (Int.toNat v17) (pzero T_api_Harm)).1 == (4 : Int)) = true then
              gd (0 ≤ (List.getD v15 (Int.toNat v17) (pzero T_api_Harm)).2.1) <|
              gd ((List.getD v15 (Int.toNat v17) (pzero T_api_Harm)).2.1 ≤ (Int.ofNat (List.length h8))) <|
              damage_do_byte_c3 0 ((Int.toNat (List.getD v15 (Int.toNat v17) (pzero T_api_Harm)).2.1) - 0) v15 v16 (IntKind.wrap .i64 (v17 + (1 : Int))) h8
            else
              damage_do_byte_c1 v15 v16 (IntKind.wrap .i64 (v17 + (1 : Int))) h8
  else
    some (h8, (0 : Int))) := (FnI.sem_eq _).trans (by kernel_rfl)
theorem damage_do_byte_c2_eq (v15 : List D_api_Harm) (v16 : Int) (v17 : Int) (v53 : List Int) (v54 : Int) (v55 : Int) (h8 : List Int) (b9 : D_api_Harm) (h10 : List Int) : damage_do_byte_c2 v15 v16 v17 v53 v54 v55 h8 b9 h10 = (
  if (decide (v55 < v54)) = true then
    gd (0 ≤ v55) <|
    gd (v55 < (Int.ofNat (List.length v53))) <|
    (damage_Apply_1 (List.getD v53 (Int.toNat v55) (0 : Int))).bind fun (r5 : (Int)) =>
    gd ((List.length (h10 ++ [r5])) * 1 ≤ 140737488355328) <|
    damage_do_byte_c2 v15 v16 v17 v53 v54 (IntKind.wrap .i64 (v55 + (1 : Int))) h8 b9 (h10 ++ [r5])
  else
    (slices_Insert_u8 h8 b9.2.1 h10).bind fun (r6 : (List Int)) =>
    damage_do_byte_c1 v15 v16 (IntKind.wrap .i64 (v17 + (1 : Int))) r6) := (FnI.sem_eq _).trans (by kernel_rfl)
theorem damage_do_byte_c3_eq (v0o : Nat) (v0n : Nat) (v15 : List D_api_Harm) (v16 : Int) (v17 : Int) (h8 : List Int) : damage_do_byte_c3 v0o v0n v15 v16 v17 h8 = (
  if (decide (v17 < v16)) = true then
    gd (0 ≤ v17) <|
    gd (v17 < (Int.ofNat (List.length v15))) <|
    (damage_possible (Int.ofNat v0n) (List.getD v15 (Int.toNat v17) (pzero T_api_Harm))).bind fun (r7 : (Bool)) =>
    if (not r7) = true then
      some ([], (16 : Int))
    else
      if ((List.getD v15 (Int.toNat v17) (pzero T_api_Harm)).1 == (1 : Int)) = true then
        (damage_Apply_1 (IntKind.wrap .u8 (List.getD v15 (Int.toNat v17) (pzero T_api_Harm)).2.2.1)).bind fun (r8 : (Int)) =>
        gd (0 ≤ (List.getD v15 (Int.toNat v17) (pzero T_api_Harm)).2.1) <|
        gd ((List.getD v15 (Int.toNat v17) (pzero T_api_Harm)).2.1 < (Int.ofNat v0n)) <|
        damage_do_byte_c3 v0o v0n v15 v16 (IntKind.wrap .i64 (v17 + (1 : Int))) (List.set h8 (v0o + (Int.toNat (List.getD v15 (Int.toNat v17) (pzero T_api_Harm)).2.1)) r8)
      else
        if ((List.getD v15 (Int.toNat v17) (pzero T_api_Harm)).1 == (2 : Int)) = true then
          (slices_Delete_u8 (List.take v0n (List.drop v0o h8)) (List.getD v15 (Int.toNat v17) (pzero T_api_Harm)).2.1 (IntKind.wrap .i64 ((List.getD v15 (Int.toNat v17) (pzero T_api_Harm)).2.1 + (List.getD v15 (Int.toNat v17) (pzero T_api_Harm)).2.2.1))).bind fun (r9 : (List Int)) =>
          damage_do_byte_c1 v15 v16 (IntKind.wrap .i64 (v17 + (1 : Int))) r9
        else
          if ((List.getD v15 (Int.toNat v17) (pzero T_api_Harm)).1 == (3 : Int)) = true then
            damage_do_byte_c4 v0o v0n v15 v16 v17 (List.getD v15 (Int.toNat v17) (pzero T_api_Harm)).2.2.2.1 (Int.ofNat (List.length (List.getD v15 (Int.toNat v17) (pzero T_api_Harm)).2.2.2.1)) (0 : Int) h8 (List.getD v15 (Int.toNat v17) (pzero T_api_Harm)) []
          else
            if ((List.getD v15 (Int.toNat v17) (pzero T_api_Harm)).1 == (4 : Int)) = true then
              gd (0 ≤ (List.getD v15 (Int.toNat v17) (pzero T_api_Harm)).2.1) <|
              gd ((List.getD v15 (Int.toNat v17) (pzero T_api_Harm)).2.1 ≤ (Int.ofNat v0n)) <|
              damage_do_byte_c3 (v0o + 0) ((Int.toNat (List.getD v15 (Int.toNat v17) (pzero T_api_Harm)).2.1) - 0) v15 v16 (IntKind.wrap .i64 (v17 + (1 : Int))) h8
            else
              damage_do_byte_c3 v0o v0n v15 v16 (IntKind.wrap .i64 (v17 + (1 : Int))) h8
  else
    some ((List.take v0n (List.drop v0o h8)), (0 : Int))) := (FnI.sem_eq _).trans (by kernel_rfl)
theorem damage_do_byte_c4_eq (v0o : Nat) (v0n : Nat) (v15 : List D_api_Harm) (v16 : Int) (v17 : Int) (v53 : List Int) (v54 : Int) (v55 : Int) (h8 : List Int) (b9 : D_api_Harm) (h10 : List Int) : damage_do_byte_c4 v0o v0n v15 v16 v17 v53 v54 v55 h8 b9 h10 = (
  if (decide (v55 < v54)) = true then
    gd (0 ≤ v55) <|
    gd (v55 < (Int.ofNat (List.length v53))) <|
    (damage_Apply_1 (List.getD v53 (Int.toNat v55) (0 : Int))).bind fun (r10 : (Int)) =>
    gd ((List.length (h10 ++ [r10])) * 1 ≤ 140737488355328) <|
    damage_do_byte_c4 v0o v0n v15 v16 v17 v53 v54 (IntKind.wrap .i64 (v55 + (1 : Int))) h8 b9 (h10 ++ [r10])
  else
    (slices_Insert_u8 (List.take v0n (List.drop v0o h8)) b9.2.1 h10).bind fun (r11 : (List Int)) =>
    damage_do_byte_c1 v15 v16 (IntKind.wrap .i64 (v17 + (1 : Int))) r11) := (FnI.sem_eq _).trans (by kernel_rfl)
noncomputable def damage_do_byte_S (acc : List AV → Bool) : Summ Try.prog GT := damage_do_byte_I.summ mixed acc false false

/-! bitloft/damage.Apply -/
noncomputable def damage_Apply_I : FnI Try.prog GT := { f := 8, cuts := [], tab := [damage_Check_S (fun _ => true), damage_do_byte_S (fun _ => true)], fm := ⟨true, [.val (.slice (.int .u8)) [.pu], .val (.int .i64) []]⟩ }
noncomputable def damage_Apply (a0 : List Int) (a1 : List D_api_Harm) : Option (List Int × Int) := damage_Apply_I.call [(.sl (.int .u8) false a0), (.sl T_api_Harm false a1)] []
theorem damage_Apply_eq (a0 : List Int) (a1 : List D_api_Harm) : damage_Apply a0 a1 = (
  (damage_Check a1).bind fun (r1 : (Int)) =>
  if (r1 != (0 : Int)) = true then
    some ([], r1)
  else
    if (decide ((Int.ofNat (List.length a0)) > (50000 : Int))) = true then
      some ([], (4 : Int))
    else
      (damage_do_byte a0 a1).bind fun (r2 : (List Int × Int)) =>
      some (r2)) := (FnI.call_eq (by kernel_rfl)).trans (by kernel_rfl)
noncomputable def damage_Apply_S (acc : List AV → Bool) : Summ Try.prog GT := damage_Apply_I.summ mixed acc false false

/-! bitloft/bitloftref35.valid -/
noncomputable def bitloftref35_valid_I : FnI Try.prog GT := { f := 26, cuts := [], tab := [], fm := ⟨true, [.val .bool []]⟩ }
noncomputable def bitloftref35_valid (a0 : D_api_Harm) : Option (Bool) := bitloftref35_valid_I.call [(.agg T_api_Harm (inj false T_api_Harm a0))] []
theorem bitloftref35_valid_eq (a0 : D_api_Harm) : bitloftref35_valid a0 = (
  if (decide (a0.2.1 < (0 : Int))) = true then
    some (false)
  else
    if (decide ((Int.ofNat (List.length a0.2.2.2.1)) > (0 : Int))) = true then
      if (a0.1 != (3 : Int)) = true then
        some (false)
      else
        if (a0.1 == (1 : Int)) = true then
          if (decide (a0.2.2.1 ≥ (0 : Int))) = true then
            some (decide (a0.2.2.1 ≤ (255 : Int)))
          else
            some (false)
        else
          if (a0.1 == (2 : Int)) = true then
            some (decide (a0.2.2.1 ≥ (0 : Int)))
          else
            if (a0.1 == (3 : Int)) = true then
              if (a0.2.2.1 == (0 : Int)) = true then
                some (decide ((Int.ofNat (List.length a0.2.2.2.1)) ≤ (200 : Int)))
              else
                some (false)
            else
              if (a0.1 == (4 : Int)) = true then
                some (a0.2.2.1 == (0 : Int))
              else
                some (false)
    else
      if (a0.1 == (1 : Int)) = true then
        if (decide (a0.2.2.1 ≥ (0 : Int))) = true then
          some (decide (a0.2.2.1 ≤ (255 : Int)))
        else
          some (false)
      else
        if (a0.1 == (2 : Int)) = true then
          some (decide (a0.2.2.1 ≥ (0 : Int)))
        else
          if (a0.1 == (3 : Int)) = true then
            if (a0.2.2.1 == (0 : Int)) = true then
              some (decide ((Int.ofNat (List.length a0.2.2.2.1)) ≤ (200 : Int)))
            else
              some (false)
          else
            if (a0.1 == (4 : Int)) = true then
              some (a0.2.2.1 == (0 : Int))
            else
              some (false)) := (FnI.call_eq (by kernel_rfl)).trans (by kernel_rfl)
noncomputable def bitloftref35_valid_S (acc : List AV → Bool) : Summ Try.prog GT := bitloftref35_valid_I.summ mixed acc false false

/-! bitloft/bitloftref35.Check -/
noncomputable def bitloftref35_Check_I : FnI Try.prog GT := { f := 13, cuts := [⟨(4, 3), [0, 3], false, false⟩], tab := [bitloftref35_valid_S (fun _ => true)], fm := ⟨true, [.val (.int .i64) []]⟩ }
noncomputable def bitloftref35_Check (a0 : List D_api_Harm) : Option (Int) := bitloftref35_Check_I.call [(.sl T_api_Harm false a0)] []
noncomputable def bitloftref35_Check_c1 (v0 : List D_api_Harm) (v3 : Int) : Option (Int) := bitloftref35_Check_I.sem ⟨[.code (cIn (cIn (cSnd (cFst (cSnd (cSnd (bodyOf Try.prog 13))))))), .inLoop (cIn (cIn (cSnd (cFst (cSnd (cSnd (bodyOf Try.prog 13))))))), .inBlock 0, .code (cSnd (cSnd (cSnd (bodyOf Try.prog 13))))], ⟨[(0, (.one (.sl T_api_Harm false v0))), (3, (.one (.int .i64 v3)))], [], 8⟩⟩
theorem bitloftref35_Check_eq (a0 : List D_api_Harm) : bitloftref35_Check a0 = (
  if (decide ((Int.ofNat (List.length a0)) > (20 : Int))) = true then
    some (4 : Int)
  else
    bitloftref35_Check_c1 a0 (0 : Int)) := (FnI.call_eq (by kernel_rfl)).trans (by kernel_rfl)
theorem bitloftref35_Check_c1_eq (v0 : List D_api_Harm) (v3 : Int) : bitloftref35_Check_c1 v0 v3 = (
  if (decide (v3 < (Int.ofNat (List.length v0)))) = true then
    gd (0 ≤ v3) <|
    gd (v3 < (Int.ofNat (List.length v0))) <|
    (bitloftref35_valid (List.getD v0 (Int.toNat v3) (pzero T_api_Harm))).bind fun (r1 : (Bool)) =>
    if (not r1) = true then
      some (8 : Int)
    else
      bitloftref35_Check_c1 v0 (IntKind.wrap .i64 (v3 + (1 : Int)))
  else
    some (0 : Int)) := (FnI.sem_eq _).trans (by kernel_rfl)
noncomputable def bitloftref35_Check_S (acc : List AV → Bool) : Summ Try.prog GT := bitloftref35_Check_I.summ mixed acc false false

/-! bitloft/bitloftref35.done -/
noncomputable def bitloftref35_done_I : FnI Try.prog GT := { f := 33, cuts := [⟨(18, 5), [0, 3, 8, 9], false, false⟩], tab := [], fm := ⟨true, [.val (.slice T_bitloftref35_cell) [.nw], .val .bool []]⟩ }
noncomputable def bitloftref35_done (a0 : List D_bitloftref35_cell) (a1 : D_api_Harm) : Option (List D_bitloftref35_cell × Bool) := bitloftref35_done_I.call [(.sl T_bitloftref35_cell false a0), (.agg T_api_Harm (inj false T_api_Harm a1))] []
noncomputable def bitloftref35_done_c1 (v0 : List D_bitloftref35_cell) (v9 : Int) (b8 : D_api_Harm) (h9 : List D_bitloftref35_cell) : Option (List D_bitloftref35_cell × Bool) := bitloftref35_done_I.sem ⟨[.code (cIn (cIn (cSnd (cFst (cSnd (cSnd (cThn (cSnd (cEls (cSnd (cEls (cSnd (cIn (cSnd (cFst (cSnd (cSnd (bodyOf Try.prog 33)))))))))))))))))), .inLoop (cIn (cIn (cSnd (cFst (cSnd (cSnd (cThn (cSnd (cEls (cSnd (cEls (cSnd (cIn (cSnd (cFst (cSnd (cSnd (bodyOf Try.prog 33)))))))))))))))))), .inBlock 1, .code (cSnd (cSnd (cSnd (cThn (cSnd (cEls (cSnd (cEls (cSnd (cIn (cSnd (cFst (cSnd (cSnd (bodyOf Try.prog 33))))))))))))))), .inBlock 0, .code (cSnd (cSnd (cSnd (bodyOf Try.prog 33))))], ⟨[(0, (.one (.sl T_bitloftref35_cell false v0))), (3, (.one (.ptr T_api_Harm 8 []))), (8, (.one (.ref T_bitloftref35_cell 9 0 (List.length h9) true))), (9, (.one (.int .i64 v9)))], [(8, some (.box T_api_Harm (inj false T_api_Harm b8))), (9, some (.row T_bitloftref35_cell true h9))], 10⟩⟩
theorem bitloftref35_done_eq (a0 : List D_bitloftref35_cell) (a1 : D_api_Harm) : bitloftref35_done a0 a1 = (
  if (a1.1 == (1 : Int)) = true then
    if (decide (a1.2.1 ≥ (Int.ofNat (List.length a0)))) = true then
      some ([], false)
    else
      gd ((List.length ([] ++ a0)) * 16 ≤ 140737488355328) <|
      gd (0 ≤ a1.2.1) <|
      gd (a1.2.1 < (Int.ofNat (List.length ([] ++ a0)))) <|
      some ((List.set ([] ++ a0) (0 + (Int.toNat a1.2.1)) ((IntKind.wrap .u8 a1.2.2.1), ((-1 : Int), ()))), true)
  else
    if (a1.1 == (2 : Int)) = true then
      if (decide (a1.2.1 > (Int.ofNat (List.length a0)))) = true then
        some ([], false)
      else
        if (decide (a1.2.2.1 > (IntKind.wrap .i64 ((Int.ofNat (List.length a0)) - a1.2.1)))) = true then
          some ([], false)
        else
          gd (0 ≤ a1.2.1) <|
          gd (a1.2.1 ≤ (Int.ofNat (List.length a0))) <|
          gd ((List.length ([] ++ (List.take (Int.toNat a1.2.1) a0))) * 16 ≤ 140737488355328) <|
          gd (0 ≤ (IntKind.wrap .i64 (a1.2.1 + a1.2.2.1))) <|
          gd ((IntKind.wrap .i64 (a1.2.1 + a1.2.2.1)) ≤ (Int.ofNat (List.length a0))) <|
          gd ((List.length (([] ++ (List.take (Int.toNat a1.2.1) a0)) ++ (List.drop (Int.toNat (IntKind.wrap .i64 (a1.2.1 + a1.2.2.1))) a0))) * 16 ≤ 140737488355328) <|
          some ((([] ++ (List.take (Int.toNat a1.2.1) a0)) ++ (List.drop (Int.toNat (IntKind.wrap .i64 (a1.2.1 + a1.2.2.1))) a0)), true)
    else
      if (a1.1 == (3 : Int)) = true then
        if (decide (a1.2.1 > (Int.ofNat (List.length a0)))) = true then
          some ([], false)
        else
          if (decide ((IntKind.wrap .i64 ((Int.ofNat (List.length a0)) + (Int.ofNat (List.length a1.2.2.2.1)))) > (50000 : Int))) = true then
            some ([], false)
          else
            gd (0 ≤ a1.2.1) <|
            gd (a1.2.1 ≤ (Int.ofNat (List.length a0))) <|
            gd ((List.length ([] ++ (List.take (Int.toNat a1.2.1) a0))) * 16 ≤ 140737488355328) <|
            bitloftref35_done_c1 a0 (0 : Int) a1 ([] ++ (List.take (Int.toNat a1.2.1) a0))
      else
        if (decide (a1.2.1 > (Int.ofNat (List.length a0)))) = true then
          some ([], false)
        else
          gd (0 ≤ a1.2.1) <|
          gd (a1.2.1 ≤ (Int.ofNat (List.length a0))) <|
          gd ((List.length ([] ++ (List.take (Int.toNat a1.2.1) a0))) * 16 ≤ 140737488355328) <|
          some (([] ++ (List.take (Int.toNat a1.2.1) a0)), true)) := (FnI.call_eq (by kernel_rfl)).trans (by kernel_rfl)
theorem bitloftref35_done_c1_eq (v0 : List D_bitloftref35_cell) (v9 : Int) (b8 : D_api_Harm) (h9 : List D_bitloftref35_cell) : bitloftref35_done_c1 v0 v9 b8 h9 = (
  if (decide (v9 < (Int.ofNat (List.length b8.2.2.2.1)))) = true then
    gd (0 ≤ v9) <|
    gd (v9 < (Int.ofNat (List.length b8.2.2.2.1))) <|
    gd ((List.length (h9 ++ [((List.getD b8.2.2.2.1 (Int.toNat v9) (0 : Int)), ((-1 : Int), ()))])) * 16 ≤ 140737488355328) <|
    bitloftref35_done_c1 v0 (IntKind.wrap .i64 (v9 + (1 : Int))) b8 (h9 ++ [((List.getD b8.2.2.2.1 (Int.toNat v9) (0 : Int)), ((-1 : Int), ()))])
  else
    gd (0 ≤ b8.2.1) <|
    gd (b8.2.1 ≤ (Int.ofNat (List.length v0))) <|
    gd ((List.length (h9 ++ (List.drop (Int.toNat b8.2.1) v0))) * 16 ≤ 140737488355328) <|
    some ((h9 ++ (List.drop (Int.toNat b8.2.1) v0)), true)) := (FnI.sem_eq _).trans (by kernel_rfl)
noncomputable def bitloftref35_done_S (acc : List AV → Bool) : Summ Try.prog GT := bitloftref35_done_I.summ mixed acc false false

/-! bitloft/bitloftref35.all -/
noncomputable def bitloftref35_all_I : FnI Try.prog GT := { f := 20, cuts := [⟨(3, 3), [0, 1, 6, 7], false, false⟩, ⟨(7, 3), [1, 6, 8], false, false⟩], tab := [bitloftref35_done_S (fun _ => true)], fm := ⟨true, [.val (.slice T_bitloftref35_cell) [.nw], .val .bool []]⟩ }
noncomputable def bitloftref35_all (a0 : List Int) (a1 : List D_api_Harm) : Option (List D_bitloftref35_cell × Bool) := bitloftref35_all_I.call [(.sl (.int .u8) false a0), (.sl T_api_Harm false a1)] []
noncomputable def bitloftref35_all_c1 (v0 : List Int) (v1 : List D_api_Harm) (v7 : Int) (h8 : List D_bitloftref35_cell) : Option (List D_bitloftref35_cell × Bool) := bitloftref35_all_I.sem ⟨[.code (cIn (cIn (cSnd (cFst (cSnd (cSnd (bodyOf Try.prog 20))))))), .inLoop (cIn (cIn (cSnd (cFst (cSnd (cSnd (bodyOf Try.prog 20))))))), .inBlock 0, .code (cSnd (cSnd (cSnd (bodyOf Try.prog 20))))], ⟨[(0, (.one (.sl (.int .u8) false v0))), (1, (.one (.sl T_api_Harm false v1))), (6, (.one (.ref T_bitloftref35_cell 8 0 (List.length h8) true))), (7, (.one (.int .i64 v7)))], [(8, some (.row T_bitloftref35_cell true h8))], 9⟩⟩
noncomputable def bitloftref35_all_c2 (v1 : List D_api_Harm) (v8 : Int) (h8 : List D_bitloftref35_cell) : Option (List D_bitloftref35_cell × Bool) := bitloftref35_all_I.sem ⟨[.code (cIn (cIn (cSnd (cFst (cSnd (cSnd (cSnd (bodyOf Try.prog 20)))))))), .inLoop (cIn (cIn (cSnd (cFst (cSnd (cSnd (cSnd (bodyOf Try.prog 20)))))))), .inBlock 2, .code (cSnd (cSnd (cSnd (cSnd (bodyOf Try.prog 20)))))], ⟨[(1, (.one (.sl T_api_Harm false v1))), (6, (.one (.ref T_bitloftref35_cell 8 0 (List.length h8) true))), (8, (.one (.int .i64 v8)))], [(8, some (.row T_bitloftref35_cell true h8))], 9⟩⟩
theorem bitloftref35_all_eq (a0 : List Int) (a1 : List D_api_Harm) : bitloftref35_all a0 a1 = (
  bitloftref35_all_c1 a0 a1 (0 : Int) []) := (FnI.call_eq (by kernel_rfl)).trans (by kernel_rfl)
theorem bitloftref35_all_c1_eq (v0 : List Int) (v1 : List D_api_Harm) (v7 : Int) (h8 : List D_bitloftref35_cell) : bitloftref35_all_c1 v0 v1 v7 h8 = (
  if (decide (v7 < (Int.ofNat (List.length v0)))) = true then
    gd (0 ≤ v7) <|
    gd (v7 < (Int.ofNat (List.length v0))) <|
    gd ((List.length (h8 ++ [((List.getD v0 (Int.toNat v7) (0 : Int)), (v7, ()))])) * 16 ≤ 140737488355328) <|
    bitloftref35_all_c1 v0 v1 (IntKind.wrap .i64 (v7 + (1 : Int))) (h8 ++ [((List.getD v0 (Int.toNat v7) (0 : Int)), (v7, ()))])
  else
    bitloftref35_all_c2 v1 (0 : Int) h8) := (FnI.sem_eq _).trans (by kernel_rfl)
theorem bitloftref35_all_c2_eq (v1 : List D_api_Harm) (v8 : Int) (h8 : List D_bitloftref35_cell) : bitloftref35_all_c2 v1 v8 h8 = (
  if (decide (v8 < (Int.ofNat (List.length v1)))) = true then
    gd (0 ≤ v8) <|
    gd (v8 < (Int.ofNat (List.length v1))) <|
    (bitloftref35_done h8 (List.getD v1 (Int.toNat v8) (pzero T_api_Harm))).bind fun (r1 : (List D_bitloftref35_cell × Bool)) =>
    if (not r1.2) = true then
      some ([], false)
    else
      bitloftref35_all_c2 v1 (IntKind.wrap .i64 (v8 + (1 : Int))) r1.1
  else
    some (h8, true)) := (FnI.sem_eq _).trans (by kernel_rfl)
noncomputable def bitloftref35_all_S (acc : List AV → Bool) : Summ Try.prog GT := bitloftref35_all_I.summ mixed acc false false

/-! bitloft/bitloftref35.Apply -/
noncomputable def bitloftref35_Apply_I : FnI Try.prog GT := { f := 9, cuts := [⟨(10, 3), [6, 8, 9], false, false⟩], tab := [bitloftref35_Check_S (fun _ => true), bitloftref35_all_S (fun _ => true)], fm := ⟨true, [.val (.slice (.int .u8)) [.nw], .val (.int .i64) []]⟩ }
noncomputable def bitloftref35_Apply (a0 : List Int) (a1 : List D_api_Harm) : Option (List Int × Int) := bitloftref35_Apply_I.call [(.sl (.int .u8) false a0), (.sl T_api_Harm false a1)] []
noncomputable def bitloftref35_Apply_c1 (v9 : Int) (h8 : List D_bitloftref35_cell) (h9 : List Int) : Option (List Int × Int) := bitloftref35_Apply_I.sem ⟨[.code (cIn (cIn (cSnd (cFst (cSnd (cSnd (cSnd (cSnd (cSnd (cSnd (bodyOf Try.prog 9))))))))))), .inLoop (cIn (cIn (cSnd (cFst (cSnd (cSnd (cSnd (cSnd (cSnd (cSnd (bodyOf Try.prog 9))))))))))), .inBlock 0, .code (cSnd (cSnd (cSnd (cSnd (cSnd (cSnd (cSnd (bodyOf Try.prog 9))))))))], ⟨[(6, (.one (.ref T_bitloftref35_cell 8 0 (List.length h8) true))), (8, (.one (.ref (.int .u8) 9 0 (List.length h9) true))), (9, (.one (.int .i64 v9)))], [(8, some (.row T_bitloftref35_cell true h8)), (9, some (.row (.int .u8) true h9))], 10⟩⟩
theorem bitloftref35_Apply_eq (a0 : List Int) (a1 : List D_api_Harm) : bitloftref35_Apply a0 a1 = (
  (bitloftref35_Check a1).bind fun (r1 : (Int)) =>
  if (r1 != (0 : Int)) = true then
    (bitloftref35_Check a1).bind fun (r2 : (Int)) =>
    some ([], r2)
  else
    if (decide ((Int.ofNat (List.length a0)) > (50000 : Int))) = true then
      some ([], (4 : Int))
    else
      (bitloftref35_all a0 a1).bind fun (r3 : (List D_bitloftref35_cell × Bool)) =>
      if (not r3.2) = true then
        some ([], (16 : Int))
      else
        bitloftref35_Apply_c1 (0 : Int) r3.1 []) := (FnI.call_eq (by kernel_rfl)).trans (by kernel_rfl)
theorem bitloftref35_Apply_c1_eq (v9 : Int) (h8 : List D_bitloftref35_cell) (h9 : List Int) : bitloftref35_Apply_c1 v9 h8 h9 = (
  if (decide (v9 < (Int.ofNat (List.length h8)))) = true then
    gd (0 ≤ v9) <|
    gd (v9 < (Int.ofNat (List.length h8))) <|
    gd ((List.length (h9 ++ [(List.getD h8 (0 + (Int.toNat v9)) (pzero T_bitloftref35_cell)).1])) * 1 ≤ 140737488355328) <|
    bitloftref35_Apply_c1 (IntKind.wrap .i64 (v9 + (1 : Int))) h8 (h9 ++ [(List.getD h8 (0 + (Int.toNat v9)) (pzero T_bitloftref35_cell)).1])
  else
    some (h9, (0 : Int))) := (FnI.sem_eq _).trans (by kernel_rfl)
noncomputable def bitloftref35_Apply_S (acc : List AV → Bool) : Summ Try.prog GT := bitloftref35_Apply_I.summ mixed acc false false

/-! slices.Clone[[]int,int] -/
noncomputable def slices_Clone_int_int_I : FnI Try.prog GT := { f := 34, cuts := [], tab := [], fm := ⟨true, [.val (.slice (.int .i64)) [.nw]]⟩ }
noncomputable def slices_Clone_int_int (a0 : List Int) : Option (List Int) := slices_Clone_int_int_I.call [(.sl (.int .i64) false a0)] []
theorem slices_Clone_int_int_eq (a0 : List Int) : slices_Clone_int_int a0 = (
  anyv (fun (r1 : Bool) => r1 = true → a0 = []) fun (r1 : Bool) =>
  if r1 = true then
    some ([])
  else
    gd ((List.length ([] ++ a0)) * 8 ≤ 140737488355328) <|
    some ([] ++ a0)) := (FnI.call_eq (by kernel_rfl)).trans (by kernel_rfl)
noncomputable def slices_Clone_int_int_S (acc : List AV → Bool) : Summ Try.prog GT := slices_Clone_int_int_I.summ mixed acc false false

/-! bitloft/damage.Origins$1 -/
noncomputable def damage_Origins_1_I : FnI Try.prog GT := { f := 22, cuts := [], tab := [], fm := ⟨true, [.val (.int .i64) []]⟩ }
noncomputable def damage_Origins_1 (a0 : Int) : Option (Int) := damage_Origins_1_I.call [(.int .u8 a0)] []
theorem damage_Origins_1_eq (a0 : Int) : damage_Origins_1 a0 = (
  some (-1 : Int)) := (FnI.call_eq (by kernel_rfl)).trans (by kernel_rfl)
noncomputable def damage_Origins_1_S (acc : List AV → Bool) : Summ Try.prog GT := damage_Origins_1_I.summ mixed acc false false

/-! bitloft/damage.do[int] -/
noncomputable def damage_do_int_I : FnI Try.prog GT := { f := 21, cuts := [⟨(3, 3), [0, 2, 15, 16, 17], false, false⟩, ⟨(15, 9), [0, 2, 9, 10, 15, 16, 17, 53, 54, 55], false, false⟩], tab := [slices_Clone_int_int_S (fun _ => true), damage_possible_S (fun _ => true), damage_Origins_1_S (fun _ => true), slices_Delete_i64_S (fun _ => true), slices_Insert_i64_S (fun _ => true)], fm := ⟨true, [.val (.slice (.int .i64)) [.pu], .val (.int .i64) []]⟩ }
noncomputable def damage_do_int (a0 : List Int) (a1 : List D_api_Harm) : Option (List Int × Int) := damage_do_int_I.call [(.sl (.int .i64) false a0), (.sl T_api_Harm false a1), (.func 22 [])] []
noncomputable def damage_do_int_c1 (v15 : List D_api_Harm) (v16 : Int) (v17 : Int) (h8 : List Int) : Option (List Int × Int) := damage_do_int_I.sem ⟨[.code (cIn (cIn (cSnd (cFst (cSnd (cSnd (bodyOf Try.prog 21))))))), .inLoop (cIn (cIn (cSnd (cFst (cSnd (cSnd (bodyOf Try.prog 21))))))), .inBlock 0, .code (cSnd (cSnd (cSnd (bodyOf Try.prog 21))))], ⟨[(0, (.one (.ref (.int .i64) 8 0 (List.length h8) true))), (2, (.one (.func 22 []))), (15, (.one (.sl T_api_Harm false v15))), (16, (.one (.int .i64 v16))), (17, (.one (.int .i64 v17)))], [(8, some (.row (.int .i64) true h8))], 9⟩⟩
noncomputable def damage_do_int_c2 (v15 : List D_api_Harm) (v16 : Int) (v17 : Int) (v53 : List Int) (v54 : Int) (v55 : Int) (h8 : List Int) (b9 : D_api_Harm) (h10 : List Int) : Option (List Int × Int) := damage_do_int_I.sem ⟨[.code (cIn (cIn (cSnd (cFst (cSnd (cThn (cSnd (cEls (cSnd (cEls (cSnd (cIn (cSnd (cSnd (cSnd (cIn (cFst (cSnd (cSnd (cIn (cIn (cSnd (cFst (cSnd (cSnd (bodyOf Try.prog 21)))))))))))))))))))))))))), .inLoop (cIn (cIn (cSnd (cFst (cSnd (cThn (cSnd (cEls (cSnd (cEls (cSnd (cIn (cSnd (cSnd (cSnd (cIn (cFst (cSnd (cSnd (cIn (cIn (cSnd (cFst (cSnd (cSnd (bodyOf Try.prog 21)))))))))))))))))))))))))), .inBlock 3, .code (cSnd (cSnd (cThn (cSnd (cEls (cSnd (cEls (cSnd (cIn (cSnd (cSnd (cSnd (cIn (cFst (cSnd (cSnd (cIn (cIn (cSnd (cFst (cSnd (cSnd (bodyOf Try.prog 21))))))))))))))))))))))), .inBlock 2, .inBlock 1, .code (cSnd (cSnd (cSnd (cIn (cIn (cSnd (cFst (cSnd (cSnd (bodyOf Try.prog 21)))))))))), .inLoop (cIn (cIn (cSnd (cFst (cSnd (cSnd (bodyOf Try.prog 21))))))), .inBlock 0, .code (cSnd (cSnd (cSnd (bodyOf Try.prog 21))))], ⟨[(0, (.one (.ref (.int .i64) 8 0 (List.length h8) true))), (2, (.one (.func 22 []))), (9, (.one (.ptr T_api_Harm 9 []))), (10, (.one (.ref (.int .i64) 10 0 (List.length h10) true))), (15, (.one (.sl T_api_Harm false v15))), (16, (.one (.int .i64 v16))), (17, (.one (.int .i64 v17))), (53, (.one (.sl (.int .u8) false v53))), (54, (.one (.int .i64 v54))), (55, (.one (.int .i64 v55)))], [(8, some (.row (.int .i64) true h8)), (9, some (.box T_api_Harm (inj false T_api_Harm b9))), (10, some (.row (.int .i64) true h10))], 11⟩⟩
noncomputable def damage_do_int_c3 (v0o : Nat) (v0n : Nat) (v15 : List D_api_Harm) (v16 : Int) (v17 : Int) (h8 : List Int) : Option (List Int × Int) := damage_do_int_I.sem ⟨[.code (cIn (cIn (cSnd (cFst (cSnd (cSnd (bodyOf Try.prog 21))))))), .inLoop (cIn (cIn (cSnd (cFst (cSnd (cSnd (bodyOf Try.prog 21))))))), .inBlock 0, .code (cSnd (cSnd (cSnd (bodyOf Try.prog 21))))], ⟨[(0, (.one (.ref (.int .i64) 8 v0o v0n false))), (2, (.one (.func 22 []))), (15, (.one (.sl T_api_Harm false v15))), (16, (.one (.int .i64 v16))), (17, (.one (.int .i64 v17)))], [(8, some (.row (.int .i64) true h8))], 9⟩⟩
noncomputable def damage_do_int_c4 (v0o : Nat) (v0n : Nat) (v15 : List D_api_Harm) (v16 : Int) (v17 : Int) (v53 : List Int) (v54 : Int) (v55 : Int) (h8 : List Int) (b9 : D_api_Harm) (h10 : List Int) : Option (List Int × Int) := damage_do_int_I.sem ⟨[.code (cIn (cIn (cSnd (cFst (cSnd (cThn (cSnd (cEls (cSnd (cEls (cSnd (cIn (cSnd (cSnd (cSnd (cIn (cFst (cSnd (cSnd (cIn (cIn (cSnd (cFst (cSnd (cSnd (bodyOf Try.prog 21)))))))))))))))))))))))))), .inLoop (cIn (cIn (cSnd (cFst (cSnd (cThn (cSnd (cEls (cSnd (cEls (cSnd (cIn (cSnd (cSnd (cSnd (cIn (cFst (cSnd (cSnd (cIn (cIn (cSnd (cFst (cSnd (cSnd (bodyOf Try.prog 21)))))))))))))))))))))))))), .inBlock 3, .code (cSnd (cSnd (cThn (cSnd (cEls (cSnd (cEls (cSnd (cIn (cSnd (cSnd (cSnd (cIn (cFst (cSnd (cSnd (cIn (cIn (cSnd (cFst (cSnd (cSnd (bodyOf Try.prog 21))))))))))))))))))))))), .inBlock 2, .inBlock 1, .code (cSnd (cSnd (cSnd (cIn (cIn (cSnd (cFst (cSnd (cSnd (bodyOf Try.prog 21)))))))))), .inLoop (cIn (cIn (cSnd (cFst (cSnd (cSnd (bodyOf Try.prog 21))))))), .inBlock 0, .code (cSnd (cSnd (cSnd (bodyOf Try.prog 21))))], ⟨[(0, (.one (.ref (.int .i64) 8 v0o v0n false))), (2, (.one (.func 22 []))), (9, (.one (.ptr T_api_Harm 9 []))), (10, (.one (.ref (.int .i64) 10 0 (List.length h10) true))), (15, (.one (.sl T_api_Harm false v15))), (16, (.one (.int .i64 v16))), (17, (.one (.int .i64 v17))), (53, (.one (.sl (.int .u8) false v53))), (54, (.one (.int .i64 v54))), (55, (.one (.int .i64 v55)))], [(8, some (.row (.int .i64) true h8)), (9, some (.box T_api_Harm (inj false T_api_Harm b9))), (10, some (.row (.int .i64) true h10))], 11⟩⟩
theorem damage_do_int_eq (a0 : List Int) (a1 : List D_api_Harm) : damage_do_int a0 a1 = (
  (slices_Clone_int_int a0).bind fun (r1 : (List Int)) =>
  damage_do_int_c1 a1 (Int.ofNat (List.length a1)) (0 : Int) r1) := (FnI.call_eq (by kernel_rfl)).trans (by kernel_rfl)
theorem damage_do_int_c1_eq (v15 : List D_api_Harm) (v16 : Int) (v17 : Int) (h8 : List Int) : damage_do_int_c1 v15 v16 v17 h8 = (
  if (decide (v17 < v16)) = true then
    gd (0 ≤ v17) <|
    gd (v17 < (Int.ofNat (List.length v15))) <|
    (damage_possible (Int.ofNat (List.length h8)) (List.getD v15 (Int.toNat v17) (pzero T_api_Harm))).bind fun (r2 : (Bool)) =>
    if (not r2) = true then
      some ([], (16 : Int))
    else
      if ((List.getD v15 (Int.toNat v17) (pzero T_api_Harm)).1 == (1 : Int)) = true then
        (damage_Origins_1 (IntKind.wrap .u8 (List.getD v15 (Int.toNat v17) (pzero T_api_Harm)).2.2.1)).bind fun (r3 : (Int)) =>
        gd (0 ≤ (List.getD v15 (Int.toNat v17) (pzero T_api_Harm)).2.1) <|
        gd ((List.getD v15 (Int.toNat v17) (pzero T_api_Harm)).2.1 < (Int.ofNat (List.length h8))) <|
        damage_do_int_c1 v15 v16 (IntKind.wrap .i64 (v17 + (1 : Int))) (List.set h8 (0 + (Int.toNat (List.getD v15 (Int.toNat v17) (pzero T_api_Harm)).2.1)) r3)
      else
        if ((List.getD v15 (Int.toNat v17) (pzero T_api_Harm)).1 == (2 : Int)) = true then
          (slices_Delete_i64 h8 (List.getD v15 (Int.toNat v17) (pzero T_api_Harm)).2.1 (IntKind.wrap .i64 ((List.getD v15 (Int.toNat v17) (pzero T_api_Harm)).2.1 + (List.getD v15 (Int.toNat v17) (pzero T_api_Harm)).2.2.1))).bind fun (r4 : (List Int)) =>
          damage_do_int_c1 v15 v16 (IntKind.wrap .i64 (v17 + (1 : Int))) r4
        else
          if ((List.getD v15 (Int.toNat v17) (pzero T_api_Harm)).1 == (3 : Int)) = true then
            damage_do_int_c2 v15 v16 v17 (List.getD v15 (Int.toNat v17) (pzero T_api_Harm)).2.2.2.1 (Int.ofNat (List.length (List.getD v15 (Int.toNat v17) (pzero T_api_Harm)).2.2.2.1)) (0 : Int) h8 (List.getD v15 (Int.toNat v17) (pzero T_api_Harm)) []
          else
            if ((List.getD v15 (Int.toNat v17) (pzero T_api_Harm)).1 == (4 : Int)) = true then
              gd (0 ≤ (List.getD v15 (Int.toNat v17) (pzero T_api_Harm)).2.1) <|
              gd ((List.getD v15 (Int.toNat v17) (pzero T_api_Harm)).2.1 ≤ (Int.ofNat (List.length h8))) <|
              damage_do_int_c3 0 ((Int.toNat (List.getD v15 (Int.toNat v17) (pzero T_api_Harm)).2.1) - 0) v15 v16 (IntKind.wrap .i64 (v17 + (1 : Int))) h8
            else
              damage_do_int_c1 v15 v16 (IntKind.wrap .i64 (v17 + (1 : Int))) h8
  else
    some (h8, (0 : Int))) := (FnI.sem_eq _).trans (by kernel_rfl)
theorem damage_do_int_c2_eq (v15 : List D_api_Harm) (v16 : Int) (v17 : Int) (v53 : List Int) (v54 : Int) (v55 : Int) (h8 : List Int) (b9 : D_api_Harm) (h10 : List Int) : damage_do_int_c2 v15 v16 v17 v53 v54 v55 h8 b9 h10 = (
  if (decide (v55 < v54)) = true then
    gd (0 ≤ v55) <|
    gd (v55 < (Int.ofNat (List.length v53))) <|
    (damage_Origins_1 (List.getD v53 (Int.toNat v55) (0 : Int))).bind fun (r5 : (Int)) =>
    gd ((List.length (h10 ++ [r5])) * 8 ≤ 140737488355328) <|
    damage_do_int_c2 v15 v16 v17 v53 v54 (IntKind.wrap .i64 (v55 + (1 : Int))) h8 b9 (h10 ++ [r5])
  else
    (slices_Insert_i64 h8 b9.2.1 h10).bind fun (r6 : (List Int)) =>
    damage_do_int_c1 v15 v16 (IntKind.wrap .i64 (v17 + (1 : Int))) r6) := (FnI.sem_eq _).trans (by kernel_rfl)
theorem damage_do_int_c3_eq (v0o : Nat) (v0n : Nat) (v15 : List D_api_Harm) (v16 : Int) (v17 : Int) (h8 : List Int) : damage_do_int_c3 v0o v0n v15 v16 v17 h8 = (
  if (decide (v17 < v16)) = true then
    gd (0 ≤ v17) <|
    gd (v17 < (Int.ofNat (List.length v15))) <|
    (damage_possible (Int.ofNat v0n) (List.getD v15 (Int.toNat v17) (pzero T_api_Harm))).bind fun (r7 : (Bool)) =>
    if (not r7) = true then
      some ([], (16 : Int))
    else
      if ((List.getD v15 (Int.toNat v17) (pzero T_api_Harm)).1 == (1 : Int)) = true then
        (damage_Origins_1 (IntKind.wrap .u8 (List.getD v15 (Int.toNat v17) (pzero T_api_Harm)).2.2.1)).bind fun (r8 : (Int)) =>
        gd (0 ≤ (List.getD v15 (Int.toNat v17) (pzero T_api_Harm)).2.1) <|
        gd ((List.getD v15 (Int.toNat v17) (pzero T_api_Harm)).2.1 < (Int.ofNat v0n)) <|
        damage_do_int_c3 v0o v0n v15 v16 (IntKind.wrap .i64 (v17 + (1 : Int))) (List.set h8 (v0o + (Int.toNat (List.getD v15 (Int.toNat v17) (pzero T_api_Harm)).2.1)) r8)
      else
        if ((List.getD v15 (Int.toNat v17) (pzero T_api_Harm)).1 == (2 : Int)) = true then
          (slices_Delete_i64 (List.take v0n (List.drop v0o h8)) (List.getD v15 (Int.toNat v17) (pzero T_api_Harm)).2.1 (IntKind.wrap .i64 ((List.getD v15 (Int.toNat v17) (pzero T_api_Harm)).2.1 + (List.getD v15 (Int.toNat v17) (pzero T_api_Harm)).2.2.1))).bind fun (r9 : (List Int)) =>
          damage_do_int_c1 v15 v16 (IntKind.wrap .i64 (v17 + (1 : Int))) r9
        else
          if ((List.getD v15 (Int.toNat v17) (pzero T_api_Harm)).1 == (3 : Int)) = true then
            damage_do_int_c4 v0o v0n v15 v16 v17 (List.getD v15 (Int.toNat v17) (pzero T_api_Harm)).2.2.2.1 (Int.ofNat (List.length (List.getD v15 (Int.toNat v17) (pzero T_api_Harm)).2.2.2.1)) (0 : Int) h8 (List.getD v15 (Int.toNat v17) (pzero T_api_Harm)) []
          else
            if ((List.getD v15 (Int.toNat v17) (pzero T_api_Harm)).1 == (4 : Int)) = true then
              gd (0 ≤ (List.getD v15 (Int.toNat v17) (pzero T_api_Harm)).2.1) <|
              gd ((List.getD v15 (Int.toNat v17) (pzero T_api_Harm)).2.1 ≤ (Int.ofNat v0n)) <|
              damage_do_int_c3 (v0o + 0) ((Int.toNat (List.getD v15 (Int.toNat v17) (pzero T_api_Harm)).2.1) - 0) v15 v16 (IntKind.wrap .i64 (v17 + (1 : Int))) h8
            else
              damage_do_int_c3 v0o v0n v15 v16 (IntKind.wrap .i64 (v17 + (1 : Int))) h8
  else
    some ((List.take v0n (List.drop v0o h8)), (0 : Int))) := (FnI.sem_eq _).trans (by kernel_rfl)
theorem damage_do_int_c4_eq (v0o : Nat) (v0n : Nat) (v15 : List D_api_Harm) (v16 : Int) (v17 : Int) (v53 : List Int) (v54 : Int) (v55 : Int) (h8 : List Int) (b9 : D_api_Harm) (h10 : List Int) : damage_do_int_c4 v0o v0n v15 v16 v17 v53 v54 v55 h8 b9 h10 = (
  if (decide (v55 < v54)) = true then
    gd (0 ≤ v55) <|
    gd (v55 < (Int.ofNat (List.length v53))) <|
    (damage_Origins_1 (List.getD v53 (Int.toNat v55) (0 : Int))).bind fun (r10 : (Int)) =>
    gd ((List.length (h10 ++ [r10])) * 8 ≤ 140737488355328) <|
    damage_do_int_c4 v0o v0n v15 v16 v17 v53 v54 (IntKind.wrap .i64 (v55 + (1 : Int))) h8 b9 (h10 ++ [r10])
  else
    (slices_Insert_i64 (List.take v0n (List.drop v0o h8)) b9.2.1 h10).bind fun (r11 : (List Int)) =>
    damage_do_int_c1 v15 v16 (IntKind.wrap .i64 (v17 + (1 : Int))) r11) := (FnI.sem_eq _).trans (by kernel_rfl)
noncomputable def damage_do_int_S (acc : List AV → Bool) : Summ Try.prog GT := damage_do_int_I.summ mixed acc false false

/-! bitloft/damage.Origins -/
noncomputable def damage_Origins_I : FnI Try.prog GT := { f := 10, cuts := [⟨(8, 3), [1, 7, 23, 24], false, false⟩], tab := [damage_Check_S (fun _ => true), damage_do_int_S (fun _ => true)], fm := ⟨true, [.val (.slice (.int .i64)) [.pu], .val (.int .i64) []]⟩ }
noncomputable def damage_Origins (a0 : Int) (a1 : List D_api_Harm) : Option (List Int × Int) := damage_Origins_I.call [(.int .i64 a0), (.sl T_api_Harm false a1)] []
noncomputable def damage_Origins_c1 (v1 : List D_api_Harm) (v23 : Int) (v24 : Int) (h8 : List Int) : Option (List Int × Int) := damage_Origins_I.sem ⟨[.code (cIn (cIn (cSnd (cFst (cSnd (cSnd (cSnd (cSnd (bodyOf Try.prog 10))))))))), .inLoop (cIn (cIn (cSnd (cFst (cSnd (cSnd (cSnd (cSnd (bodyOf Try.prog 10))))))))), .inBlock 0, .code (cSnd (cSnd (cSnd (cSnd (cSnd (bodyOf Try.prog 10))))))], ⟨[(1, (.one (.sl T_api_Harm false v1))), (7, (.one (.ref (.int .i64) 8 0 (List.length h8) true))), (23, (.one (.int .i64 v23))), (24, (.one (.int .i64 v24)))], [(8, some (.row (.int .i64) true h8))], 9⟩⟩
theorem damage_Origins_eq (a0 : Int) (a1 : List D_api_Harm) : damage_Origins a0 a1 = (
  (damage_Check a1).bind fun (r1 : (Int)) =>
  if (r1 != (0 : Int)) = true then
    some ([], r1)
  else
    if (decide (a0 < (0 : Int))) = true then
      some ([], (2 : Int))
    else
      if (decide (a0 > (50000 : Int))) = true then
        some ([], (2 : Int))
      else
        gd (a0 = a0) <|
        gd (0 ≤ a0) <|
        gd (a0 * 8 ≤ 140737488355328) <|
        gd (a0 ≤ 9223372036854775807) <|
        damage_Origins_c1 a1 (Int.ofNat (List.length (List.replicate (Int.toNat a0) (0 : Int)))) (0 : Int) (List.replicate (Int.toNat a0) (0 : Int))) := (FnI.call_eq (by kernel_rfl)).trans (by kernel_rfl)
theorem damage_Origins_c1_eq (v1 : List D_api_Harm) (v23 : Int) (v24 : Int) (h8 : List Int) : damage_Origins_c1 v1 v23 v24 h8 = (
  if (decide (v24 < v23)) = true then
    gd (0 ≤ v24) <|
    gd (v24 < (Int.ofNat (List.length h8))) <|
    damage_Origins_c1 v1 v23 (IntKind.wrap .i64 (v24 + (1 : Int))) (List.set h8 (0 + (Int.toNat v24)) v24)
  else
    (damage_do_int h8 v1).bind fun (r2 : (List Int × Int)) =>
    some (r2)) := (FnI.sem_eq _).trans (by kernel_rfl)
noncomputable def damage_Origins_S (acc : List AV → Bool) : Summ Try.prog GT := damage_Origins_I.summ mixed acc false false

/-! bitloft/bitloftref35.Origins -/
noncomputable def bitloftref35_Origins_I : FnI Try.prog GT := { f := 11, cuts := [⟨(10, 3), [6, 8, 9], false, false⟩], tab := [bitloftref35_Check_S (fun _ => true), bitloftref35_all_S (fun _ => true)], fm := ⟨true, [.val (.slice (.int .i64)) [.nw], .val (.int .i64) []]⟩ }
noncomputable def bitloftref35_Origins (a0 : Int) (a1 : List D_api_Harm) : Option (List Int × Int) := bitloftref35_Origins_I.call [(.int .i64 a0), (.sl T_api_Harm false a1)] []
noncomputable def bitloftref35_Origins_c1 (v9 : Int) (h8 : List D_bitloftref35_cell) (h9 : List Int) : Option (List Int × Int) := bitloftref35_Origins_I.sem ⟨[.code (cIn (cIn (cSnd (cFst (cSnd (cSnd (cSnd (cSnd (cSnd (cSnd (bodyOf Try.prog 11))))))))))), .inLoop (cIn (cIn (cSnd (cFst (cSnd (cSnd (cSnd (cSnd (cSnd (cSnd (bodyOf Try.prog 11))))))))))), .inBlock 0, .code (cSnd (cSnd (cSnd (cSnd (cSnd (cSnd (cSnd (bodyOf Try.prog 11))))))))], ⟨[(6, (.one (.ref T_bitloftref35_cell 8 0 (List.length h8) true))), (8, (.one (.ref (.int .i64) 9 0 (List.length h9) true))), (9, (.one (.int .i64 v9)))], [(8, some (.row T_bitloftref35_cell true h8)), (9, some (.row (.int .i64) true h9))], 10⟩⟩
theorem bitloftref35_Origins_eq (a0 : Int) (a1 : List D_api_Harm) : bitloftref35_Origins a0 a1 = (
  (bitloftref35_Check a1).bind fun (r1 : (Int)) =>
  if (r1 != (0 : Int)) = true then
    (bitloftref35_Check a1).bind fun (r2 : (Int)) =>
    some ([], r2)
  else
    if (decide (a0 < (0 : Int))) = true then
      some ([], (2 : Int))
    else
      if (decide (a0 > (50000 : Int))) = true then
        some ([], (2 : Int))
      else
        gd (a0 = a0) <|
        gd (0 ≤ a0) <|
        gd (a0 * 1 ≤ 140737488355328) <|
        gd (a0 ≤ 9223372036854775807) <|
        (bitloftref35_all (List.replicate (Int.toNat a0) (0 : Int)) a1).bind fun (r3 : (List D_bitloftref35_cell × Bool)) =>
        if (not r3.2) = true then
          some ([], (16 : Int))
        else
          bitloftref35_Origins_c1 (0 : Int) r3.1 []) := (FnI.call_eq (by kernel_rfl)).trans (by kernel_rfl)
theorem bitloftref35_Origins_c1_eq (v9 : Int) (h8 : List D_bitloftref35_cell) (h9 : List Int) : bitloftref35_Origins_c1 v9 h8 h9 = (
  if (decide (v9 < (Int.ofNat (List.length h8)))) = true then
    gd (0 ≤ v9) <|
    gd (v9 < (Int.ofNat (List.length h8))) <|
    gd ((List.length (h9 ++ [(List.getD h8 (0 + (Int.toNat v9)) (pzero T_bitloftref35_cell)).2.1])) * 8 ≤ 140737488355328) <|
    bitloftref35_Origins_c1 (IntKind.wrap .i64 (v9 + (1 : Int))) h8 (h9 ++ [(List.getD h8 (0 + (Int.toNat v9)) (pzero T_bitloftref35_cell)).2.1])
  else
    some (h9, (0 : Int))) := (FnI.sem_eq _).trans (by kernel_rfl)
noncomputable def bitloftref35_Origins_S (acc : List AV → Bool) : Summ Try.prog GT := bitloftref35_Origins_I.summ mixed acc false false

/-! bitloft/bitloftref25.SameInts -/
noncomputable def bitloftref25_SameInts_I : FnI Try.prog GT := { f := 14, cuts := [⟨(4, 3), [0, 1, 5], false, false⟩], tab := [], fm := ⟨true, [.val .bool []]⟩ }
noncomputable def bitloftref25_SameInts (a0 : List Int) (a1 : List Int) : Option (Bool) := bitloftref25_SameInts_I.call [(.sl (.int .i64) false a0), (.sl (.int .i64) false a1)] []
noncomputable def bitloftref25_SameInts_c1 (v0 : List Int) (v1 : List Int) (v5 : Int) : Option (Bool) := bitloftref25_SameInts_I.sem ⟨[.code (cIn (cIn (cSnd (cFst (cSnd (cSnd (bodyOf Try.prog 14))))))), .inLoop (cIn (cIn (cSnd (cFst (cSnd (cSnd (bodyOf Try.prog 14))))))), .inBlock 0, .code (cSnd (cSnd (cSnd (bodyOf Try.prog 14))))], ⟨[(0, (.one (.sl (.int .i64) false v0))), (1, (.one (.sl (.int .i64) false v1))), (5, (.one (.int .i64 v5)))], [], 8⟩⟩
theorem bitloftref25_SameInts_eq (a0 : List Int) (a1 : List Int) : bitloftref25_SameInts a0 a1 = (
  if ((Int.ofNat (List.length a0)) != (Int.ofNat (List.length a1))) = true then
    some (false)
  else
    bitloftref25_SameInts_c1 a0 a1 (0 : Int)) := (FnI.call_eq (by kernel_rfl)).trans (by kernel_rfl)
theorem bitloftref25_SameInts_c1_eq (v0 : List Int) (v1 : List Int) (v5 : Int) : bitloftref25_SameInts_c1 v0 v1 v5 = (
  if (decide (v5 < (Int.ofNat (List.length v0)))) = true then
    gd (0 ≤ v5) <|
    gd (v5 < (Int.ofNat (List.length v0))) <|
    gd (0 ≤ v5) <|
    gd (v5 < (Int.ofNat (List.length v1))) <|
    if ((List.getD v0 (Int.toNat v5) (0 : Int)) != (List.getD v1 (Int.toNat v5) (0 : Int))) = true then
      some (false)
    else
      bitloftref25_SameInts_c1 v0 v1 (IntKind.wrap .i64 (v5 + (1 : Int)))
  else
    some (true)) := (FnI.sem_eq _).trans (by kernel_rfl)
noncomputable def bitloftref25_SameInts_S (acc : List AV → Bool) : Summ Try.prog GT := bitloftref25_SameInts_I.summ mixed acc false false

/-! bitloft/bitloftlaw35.DamageDoes -/
noncomputable def bitloftlaw35_DamageDoes_I : FnI Try.prog GT := { f := 3, cuts := [], tab := [bitloftref35_Great_S (fun _ => true), damage_Apply_S (fun _ => true), bitloftref35_Apply_S (fun _ => true), damage_Origins_S (fun _ => true), bitloftref35_Origins_S (fun _ => true), damage_Check_S (fun _ => true), bitloftref35_Check_S (fun _ => true), bitloftref25_SameInts_S (fun _ => true)], fm := ⟨true, [.val .bool []]⟩ }
noncomputable def bitloftlaw35_DamageDoes (a0 : List Int) (a1 : Int) (a2 : List D_api_Harm) : Option (Bool) := bitloftlaw35_DamageDoes_I.call [(.sl (.int .u8) false a0), (.int .i64 a1), (.sl T_api_Harm false a2)] []
theorem bitloftlaw35_DamageDoes_eq (a0 : List Int) (a1 : Int) (a2 : List D_api_Harm) : bitloftlaw35_DamageDoes a0 a1 a2 = (
  if (decide ((Int.ofNat (List.length a0)) > (1000 : Int))) = true then
    if (decide ((Int.ofNat (List.length a0)) ≤ (50000 : Int))) = true then
      some (true)
    else
      if (decide (a1 > (1000 : Int))) = true then
        if (decide (a1 ≤ (50000 : Int))) = true then
          some (true)
        else
          (bitloftref35_Great a2).bind fun (r1 : (Bool)) =>
          if r1 = true then
            some (true)
          else
            (damage_Apply a0 a2).bind fun (r2 : (List Int × Int)) =>
            (bitloftref35_Apply (ofStr (toStr a0)) a2).bind fun (r3 : (List Int × Int)) =>
            (damage_Origins a1 a2).bind fun (r4 : (List Int × Int)) =>
            (bitloftref35_Origins a1 a2).bind fun (r5 : (List Int × Int)) =>
            (damage_Check a2).bind fun (r6 : (Int)) =>
            (bitloftref35_Check a2).bind fun (r7 : (Int)) =>
            if (r6 == r7) = true then
              if ((ByteArray.toList (toStr r2.1)) == (ByteArray.toList (toStr r3.1))) = true then
                if (r2.2 == r3.2) = true then
                  (bitloftref25_SameInts r4.1 r5.1).bind fun (r8 : (Bool)) =>
                  if r8 = true then
                    if (r4.2 == r5.2) = true then
                      some ((ByteArray.toList (toStr a0)) == (ByteArray.toList (toStr a0)))
                    else
                      some (false)
                  else
                    some (false)
                else
                  some (false)
              else
                some (false)
            else
              some (false)
      else
        (bitloftref35_Great a2).bind fun (r9 : (Bool)) =>
        if r9 = true then
          some (true)
        else
          (damage_Apply a0 a2).bind fun (r10 : (List Int × Int)) =>
          (bitloftref35_Apply (ofStr (toStr a0)) a2).bind fun (r11 : (List Int × Int)) =>
          (damage_Origins a1 a2).bind fun (r12 : (List Int × Int)) =>
          (bitloftref35_Origins a1 a2).bind fun (r13 : (List Int × Int)) =>
          (damage_Check a2).bind fun (r14 : (Int)) =>
          (bitloftref35_Check a2).bind fun (r15 : (Int)) =>
          if (r14 == r15) = true then
            if ((ByteArray.toList (toStr r10.1)) == (ByteArray.toList (toStr r11.1))) = true then
              if (r10.2 == r11.2) = true then
                (bitloftref25_SameInts r12.1 r13.1).bind fun (r16 : (Bool)) =>
                if r16 = true then
                  if (r12.2 == r13.2) = true then
                    some ((ByteArray.toList (toStr a0)) == (ByteArray.toList (toStr a0)))
                  else
                    some (false)
                else
                  some (false)
              else
                some (false)
            else
              some (false)
          else
            some (false)
  else
    if (decide (a1 > (1000 : Int))) = true then
      if (decide (a1 ≤ (50000 : Int))) = true then
        some (true)
      else
        (bitloftref35_Great a2).bind fun (r17 : (Bool)) =>
        if r17 = true then
          some (true)
        else
          (damage_Apply a0 a2).bind fun (r18 : (List Int × Int)) =>
          (bitloftref35_Apply (ofStr (toStr a0)) a2).bind fun (r19 : (List Int × Int)) =>
          (damage_Origins a1 a2).bind fun (r20 : (List Int × Int)) =>
          (bitloftref35_Origins a1 a2).bind fun (r21 : (List Int × Int)) =>
          (damage_Check a2).bind fun (r22 : (Int)) =>
          (bitloftref35_Check a2).bind fun (r23 : (Int)) =>
          if (r22 == r23) = true then
            if ((ByteArray.toList (toStr r18.1)) == (ByteArray.toList (toStr r19.1))) = true then
              if (r18.2 == r19.2) = true then
                (bitloftref25_SameInts r20.1 r21.1).bind fun (r24 : (Bool)) =>
                if r24 = true then
                  if (r20.2 == r21.2) = true then
                    some ((ByteArray.toList (toStr a0)) == (ByteArray.toList (toStr a0)))
                  else
                    some (false)
                else
                  some (false)
              else
                some (false)
            else
              some (false)
          else
            some (false)
    else
      (bitloftref35_Great a2).bind fun (r25 : (Bool)) =>
      if r25 = true then
        some (true)
      else
        (damage_Apply a0 a2).bind fun (r26 : (List Int × Int)) =>
        (bitloftref35_Apply (ofStr (toStr a0)) a2).bind fun (r27 : (List Int × Int)) =>
        (damage_Origins a1 a2).bind fun (r28 : (List Int × Int)) =>
        (bitloftref35_Origins a1 a2).bind fun (r29 : (List Int × Int)) =>
        (damage_Check a2).bind fun (r30 : (Int)) =>
        (bitloftref35_Check a2).bind fun (r31 : (Int)) =>
        if (r30 == r31) = true then
          if ((ByteArray.toList (toStr r26.1)) == (ByteArray.toList (toStr r27.1))) = true then
            if (r26.2 == r27.2) = true then
              (bitloftref25_SameInts r28.1 r29.1).bind fun (r32 : (Bool)) =>
              if r32 = true then
                if (r28.2 == r29.2) = true then
                  some ((ByteArray.toList (toStr a0)) == (ByteArray.toList (toStr a0)))
                else
                  some (false)
              else
                some (false)
            else
              some (false)
          else
            some (false)
        else
          some (false)) := (FnI.call_eq (by kernel_rfl)).trans (by kernel_rfl)
noncomputable def bitloftlaw35_DamageDoes_S (acc : List AV → Bool) : Summ Try.prog GT := bitloftlaw35_DamageDoes_I.summ mixed acc false false

/-! slices.Index[[]int,int] -/
noncomputable def slices_Index_int_int_I : FnI Try.prog GT := { f := 38, cuts := [⟨(2, 3), [0, 1, 7, 8], false, false⟩], tab := [], fm := ⟨true, [.val (.int .i64) []]⟩ }
noncomputable def slices_Index_int_int (a0 : List Int) (a1 : Int) : Option (Int) := slices_Index_int_int_I.call [(.sl (.int .i64) false a0), (.int .i64 a1)] []
noncomputable def slices_Index_int_int_c1 (v0 : List Int) (v1 : Int) (v7 : Int) (v8 : Int) : Option (Int) := slices_Index_int_int_I.sem ⟨[.code (cIn (cIn (cSnd (cFst (cSnd (bodyOf Try.prog 38)))))), .inLoop (cIn (cIn (cSnd (cFst (cSnd (bodyOf Try.prog 38)))))), .inBlock 0, .code (cSnd (cSnd (bodyOf Try.prog 38)))], ⟨[(0, (.one (.sl (.int .i64) false v0))), (1, (.one (.int .i64 v1))), (7, (.one (.int .i64 v7))), (8, (.one (.int .i64 v8)))], [], 8⟩⟩
theorem slices_Index_int_int_eq (a0 : List Int) (a1 : Int) : slices_Index_int_int a0 a1 = (
  slices_Index_int_int_c1 a0 a1 (Int.ofNat (List.length a0)) (0 : Int)) := (FnI.call_eq (by kernel_rfl)).trans (by kernel_rfl)
theorem slices_Index_int_int_c1_eq (v0 : List Int) (v1 : Int) (v7 : Int) (v8 : Int) : slices_Index_int_int_c1 v0 v1 v7 v8 = (
  if (decide (v8 < v7)) = true then
    gd (0 ≤ v8) <|
    gd (v8 < (Int.ofNat (List.length v0))) <|
    if (v1 == (List.getD v0 (Int.toNat v8) (0 : Int))) = true then
      some (v8)
    else
      slices_Index_int_int_c1 v0 v1 v7 (IntKind.wrap .i64 (v8 + (1 : Int)))
  else
    some (-1 : Int)) := (FnI.sem_eq _).trans (by kernel_rfl)
noncomputable def slices_Index_int_int_S (acc : List AV → Bool) : Summ Try.prog GT := slices_Index_int_int_I.summ mixed acc false false

/-! bitloft/damage.left -/
noncomputable def damage_left_I : FnI Try.prog GT := { f := 28, cuts := [⟨(3, 3), [1, 5, 12, 13, 14], false, false⟩, ⟨(9, 8), [1, 5, 6, 7, 8, 9, 12, 13, 14, 40, 41, 42], false, false⟩], tab := [slices_Index_int_int_S (fun _ => true)], fm := ⟨true, [.val (.slice T_api_Piece) [.nw]]⟩ }
noncomputable def damage_left (a0 : List D_api_Piece) (a1 : List Int) : Option (List D_api_Piece) := damage_left_I.call [(.sl T_api_Piece false a0), (.sl (.int .i64) false a1)] []
noncomputable def damage_left_c1 (v1 : List Int) (v12 : List D_api_Piece) (v13 : Int) (v14 : Int) (h8 : List D_api_Piece) : Option (List D_api_Piece) := damage_left_I.sem ⟨[.code (cIn (cIn (cSnd (cFst (cSnd (cSnd (bodyOf Try.prog 28))))))), .inLoop (cIn (cIn (cSnd (cFst (cSnd (cSnd (bodyOf Try.prog 28))))))), .inBlock 0, .code (cSnd (cSnd (cSnd (bodyOf Try.prog 28))))], ⟨[(1, (.one (.sl (.int .i64) false v1))), (5, (.one (.ref T_api_Piece 8 0 (List.length h8) true))), (12, (.one (.sl T_api_Piece false v12))), (13, (.one (.int .i64 v13))), (14, (.one (.int .i64 v14)))], [(8, some (.row T_api_Piece true h8))], 9⟩⟩
noncomputable def damage_left_c2 (v1 : List Int) (v6 : Int) (v8 : Int) (v9 : Bool) (v12 : List D_api_Piece) (v13 : Int) (v14 : Int) (v40 : List Int) (v41 : Int) (v42 : Int) (h8 : List D_api_Piece) (b9 : D_api_Piece) : Option (List D_api_Piece) := damage_left_I.sem ⟨[.code (cIn (cIn (cSnd (cFst (cSnd (cSnd (cSnd (cSnd (cIn (cFst (cSnd (cSnd (cIn (cIn (cSnd (cFst (cSnd (cSnd (bodyOf Try.prog 28))))))))))))))))))), .inLoop (cIn (cIn (cSnd (cFst (cSnd (cSnd (cSnd (cSnd (cIn (cFst (cSnd (cSnd (cIn (cIn (cSnd (cFst (cSnd (cSnd (bodyOf Try.prog 28))))))))))))))))))), .inBlock 2, .code (cSnd (cSnd (cSnd (cSnd (cSnd (cIn (cFst (cSnd (cSnd (cIn (cIn (cSnd (cFst (cSnd (cSnd (bodyOf Try.prog 28)))))))))))))))), .inBlock 1, .code (cSnd (cSnd (cSnd (cIn (cIn (cSnd (cFst (cSnd (cSnd (bodyOf Try.prog 28)))))))))), .inLoop (cIn (cIn (cSnd (cFst (cSnd (cSnd (bodyOf Try.prog 28))))))), .inBlock 0, .code (cSnd (cSnd (cSnd (bodyOf Try.prog 28))))], ⟨[(1, (.one (.sl (.int .i64) false v1))), (5, (.one (.ref T_api_Piece 8 0 (List.length h8) true))), (6, (.one (.int .i64 v6))), (7, (.one (.ptr T_api_Piece 9 []))), (8, (.one (.int .i64 v8))), (9, (.one (.bool v9))), (12, (.one (.sl T_api_Piece false v12))), (13, (.one (.int .i64 v13))), (14, (.one (.int .i64 v14))), (40, (.one (.sl (.int .i64) false v40))), (41, (.one (.int .i64 v41))), (42, (.one (.int .i64 v42)))], [(8, some (.row T_api_Piece true h8)), (9, some (.box T_api_Piece (inj false T_api_Piece b9)))], 10⟩⟩
theorem damage_left_eq (a0 : List D_api_Piece) (a1 : List Int) : damage_left a0 a1 = (
  damage_left_c1 a1 a0 (Int.ofNat (List.length a0)) (0 : Int) []) := (FnI.call_eq (by kernel_rfl)).trans (by kernel_rfl)
theorem damage_left_c1_eq (v1 : List Int) (v12 : List D_api_Piece) (v13 : Int) (v14 : Int) (h8 : List D_api_Piece) : damage_left_c1 v1 v12 v13 v14 h8 = (
  if (decide (v14 < v13)) = true then
    gd (0 ≤ v14) <|
    gd (v14 < (Int.ofNat (List.length v12))) <|
    (slices_Index_int_int v1 (List.getD v12 (Int.toNat v14) (pzero T_api_Piece)).2.1).bind fun (r1 : (Int)) =>
    if (decide (r1 < (0 : Int))) = true then
      damage_left_c1 v1 v12 v13 (IntKind.wrap .i64 (v14 + (1 : Int))) h8
    else
      if (decide ((IntKind.wrap .i64 (r1 + (List.getD v12 (Int.toNat v14) (pzero T_api_Piece)).2.2.1)) > (Int.ofNat (List.length v1)))) = true then
        damage_left_c1 v1 v12 v13 (IntKind.wrap .i64 (v14 + (1 : Int))) h8
      else
        gd (0 ≤ r1) <|
        gd (r1 ≤ (IntKind.wrap .i64 (r1 + (List.getD v12 (Int.toNat v14) (pzero T_api_Piece)).2.2.1))) <|
        gd ((IntKind.wrap .i64 (r1 + (List.getD v12 (Int.toNat v14) (pzero T_api_Piece)).2.2.1)) ≤ (Int.ofNat (List.length v1))) <|
        damage_left_c2 v1 v14 r1 true v12 v13 v14 (List.take ((Int.toNat (IntKind.wrap .i64 (r1 + (List.getD v12 (Int.toNat v14) (pzero T_api_Piece)).2.2.1))) - (Int.toNat r1)) (List.drop (Int.toNat r1) v1)) (Int.ofNat (List.length (List.take ((Int.toNat (IntKind.wrap .i64 (r1 + (List.getD v12 (Int.toNat v14) (pzero T_api_Piece)).2.2.1))) - (Int.toNat r1)) (List.drop (Int.toNat r1) v1)))) (0 : Int) h8 (List.getD v12 (Int.toNat v14) (pzero T_api_Piece))
  else
    some (h8)) := (FnI.sem_eq _).trans (by kernel_rfl)
theorem damage_left_c2_eq (v1 : List Int) (v6 : Int) (v8 : Int) (v9 : Bool) (v12 : List D_api_Piece) (v13 : Int) (v14 : Int) (v40 : List Int) (v41 : Int) (v42 : Int) (h8 : List D_api_Piece) (b9 : D_api_Piece) : damage_left_c2 v1 v6 v8 v9 v12 v13 v14 v40 v41 v42 h8 b9 = (
  if (decide (v42 < v41)) = true then
    gd (0 ≤ v42) <|
    gd (v42 < (Int.ofNat (List.length v40))) <|
    if v9 = true then
      damage_left_c2 v1 v6 v8 ((List.getD v40 (Int.toNat v42) (0 : Int)) == (IntKind.wrap .i64 (b9.2.1 + v42))) v12 v13 v14 v40 v41 (IntKind.wrap .i64 (v42 + (1 : Int))) h8 b9
    else
      damage_left_c2 v1 v6 v8 false v12 v13 v14 v40 v41 (IntKind.wrap .i64 (v42 + (1 : Int))) h8 b9
  else
    if v9 = true then
      gd ((List.length (h8 ++ [(v6, (v8, (b9.2.2.1, ())))])) * 24 ≤ 140737488355328) <|
      damage_left_c1 v1 v12 v13 (IntKind.wrap .i64 (v14 + (1 : Int))) (h8 ++ [(v6, (v8, (b9.2.2.1, ())))])
    else
      damage_left_c1 v1 v12 v13 (IntKind.wrap .i64 (v14 + (1 : Int))) h8) := (FnI.sem_eq _).trans (by kernel_rfl)
noncomputable def damage_left_S (acc : List AV → Bool) : Summ Try.prog GT := damage_left_I.summ mixed acc false false

/-! bitloft/damage.Survivors -/
noncomputable def damage_Survivors_I : FnI Try.prog GT := { f := 17, cuts := [⟨(7, 3), [0, 1, 8, 24, 25, 26], false, false⟩], tab := [damage_Origins_S (fun _ => true), damage_left_S (fun _ => true)], fm := ⟨true, [.val (.slice T_api_Piece) [.nw], .val (.int .i64) []]⟩ }
noncomputable def damage_Survivors (a0 : List D_api_Piece) (a1 : Int) (a2 : List D_api_Harm) : Option (List D_api_Piece × Int) := damage_Survivors_I.call [(.sl T_api_Piece false a0), (.int .i64 a1), (.sl T_api_Harm false a2)] []
noncomputable def damage_Survivors_c1 (v0 : List D_api_Piece) (v1 : Int) (v8 : List Int) (v24 : List D_api_Piece) (v25 : Int) (v26 : Int) : Option (List D_api_Piece × Int) := damage_Survivors_I.sem ⟨[.code (cIn (cIn (cSnd (cFst (cSnd (cSnd (cSnd (cSnd (bodyOf Try.prog 17))))))))), .inLoop (cIn (cIn (cSnd (cFst (cSnd (cSnd (cSnd (cSnd (bodyOf Try.prog 17))))))))), .inBlock 0, .code (cSnd (cSnd (cSnd (cSnd (cSnd (bodyOf Try.prog 17))))))], ⟨[(0, (.one (.sl T_api_Piece false v0))), (1, (.one (.int .i64 v1))), (8, (.one (.sl (.int .i64) true v8))), (24, (.one (.sl T_api_Piece false v24))), (25, (.one (.int .i64 v25))), (26, (.one (.int .i64 v26)))], [], 8⟩⟩
theorem damage_Survivors_eq (a0 : List D_api_Piece) (a1 : Int) (a2 : List D_api_Harm) : damage_Survivors a0 a1 a2 = (
  (damage_Origins a1 a2).bind fun (r1 : (List Int × Int)) =>
  if (r1.2 != (0 : Int)) = true then
    some ([], r1.2)
  else
    if (decide ((Int.ofNat (List.length a0)) > (600 : Int))) = true then
      some ([], (4 : Int))
    else
      damage_Survivors_c1 a0 a1 r1.1 a0 (Int.ofNat (List.length a0)) (0 : Int)) := (FnI.call_eq (by kernel_rfl)).trans (by kernel_rfl)
theorem damage_Survivors_c1_eq (v0 : List D_api_Piece) (v1 : Int) (v8 : List Int) (v24 : List D_api_Piece) (v25 : Int) (v26 : Int) : damage_Survivors_c1 v0 v1 v8 v24 v25 v26 = (
  if (decide (v26 < v25)) = true then
    gd (0 ≤ v26) <|
    gd (v26 < (Int.ofNat (List.length v24))) <|
    if (decide ((List.getD v24 (Int.toNat v26) (pzero T_api_Piece)).2.1 < (0 : Int))) = true then
      some ([], (8 : Int))
    else
      if (decide ((List.getD v24 (Int.toNat v26) (pzero T_api_Piece)).2.2.1 < (1 : Int))) = true then
        some ([], (8 : Int))
      else
        if (decide ((List.getD v24 (Int.toNat v26) (pzero T_api_Piece)).2.1 > v1)) = true then
          some ([], (8 : Int))
        else
          if (decide ((List.getD v24 (Int.toNat v26) (pzero T_api_Piece)).2.2.1 > (IntKind.wrap .i64 (v1 - (List.getD v24 (Int.toNat v26) (pzero T_api_Piece)).2.1)))) = true then
            some ([], (8 : Int))
          else
            damage_Survivors_c1 v0 v1 v8 v24 v25 (IntKind.wrap .i64 (v26 + (1 : Int)))
  else
    (damage_left v0 v8).bind fun (r2 : (List D_api_Piece)) =>
    some (r2, (0 : Int))) := (FnI.sem_eq _).trans (by kernel_rfl)
noncomputable def damage_Survivors_S (acc : List AV → Bool) : Summ Try.prog GT := damage_Survivors_I.summ mixed acc false false

/-! bitloft/bitloftref29.Same -/
noncomputable def bitloftref29_Same_I : FnI Try.prog GT := { f := 27, cuts := [⟨(4, 3), [0, 1, 5], false, false⟩], tab := [], fm := ⟨true, [.val .bool []]⟩ }
noncomputable def bitloftref29_Same (a0 : List D_api_Piece) (a1 : List D_api_Piece) : Option (Bool) := bitloftref29_Same_I.call [(.sl T_api_Piece false a0), (.sl T_api_Piece false a1)] []
noncomputable def bitloftref29_Same_c1 (v0 : List D_api_Piece) (v1 : List D_api_Piece) (v5 : Int) : Option (Bool) := bitloftref29_Same_I.sem ⟨[.code (cIn (cIn (cSnd (cFst (cSnd (cSnd (bodyOf Try.prog 27))))))), .inLoop (cIn (cIn (cSnd (cFst (cSnd (cSnd (bodyOf Try.prog 27))))))), .inBlock 0, .code (cSnd (cSnd (cSnd (bodyOf Try.prog 27))))], ⟨[(0, (.one (.sl T_api_Piece false v0))), (1, (.one (.sl T_api_Piece false v1))), (5, (.one (.int .i64 v5)))], [], 8⟩⟩
theorem bitloftref29_Same_eq (a0 : List D_api_Piece) (a1 : List D_api_Piece) : bitloftref29_Same a0 a1 = (
  if ((Int.ofNat (List.length a0)) != (Int.ofNat (List.length a1))) = true then
    some (false)
  else
    bitloftref29_Same_c1 a0 a1 (0 : Int)) := (FnI.call_eq (by kernel_rfl)).trans (by kernel_rfl)
theorem bitloftref29_Same_c1_eq (v0 : List D_api_Piece) (v1 : List D_api_Piece) (v5 : Int) : bitloftref29_Same_c1 v0 v1 v5 = (
  if (decide (v5 < (Int.ofNat (List.length v0)))) = true then
    gd (0 ≤ v5) <|
    gd (v5 < (Int.ofNat (List.length v0))) <|
    gd (0 ≤ v5) <|
    gd (v5 < (Int.ofNat (List.length v1))) <|
    if (not (peq T_api_Piece (List.getD v0 (Int.toNat v5) (pzero T_api_Piece)) (List.getD v1 (Int.toNat v5) (pzero T_api_Piece)))) = true then
      some (false)
    else
      bitloftref29_Same_c1 v0 v1 (IntKind.wrap .i64 (v5 + (1 : Int)))
  else
    some (true)) := (FnI.sem_eq _).trans (by kernel_rfl)
noncomputable def bitloftref29_Same_S (acc : List AV → Bool) : Summ Try.prog GT := bitloftref29_Same_I.summ mixed acc false false

/-! bitloft/bitloftlaw35.alive -/
noncomputable def bitloftlaw35_alive_I : FnI Try.prog GT := { f := 15, cuts := [], tab := [damage_Apply_S (fun _ => true), damage_Origins_S (fun _ => true), damage_Survivors_S (fun _ => true), bitloftref25_SameInts_S (fun _ => true), bitloftref29_Same_S (fun _ => true)], fm := ⟨true, [.val .bool []]⟩ }
noncomputable def bitloftlaw35_alive : Option (Bool) := bitloftlaw35_alive_I.call [] []
theorem bitloftlaw35_alive_eq : bitloftlaw35_alive = (
  gd (0 < 1) <|
  gd (0 < 4) <|
  (damage_Apply [(97 : Int), (98 : Int), (99 : Int), (100 : Int)] [((3 : Int), ((1 : Int), ((0 : Int), ([(120 : Int)], ())))), ((2 : Int), ((2 : Int), ((1 : Int), ([], ())))), ((1 : Int), ((0 : Int), ((121 : Int), ([], ()))))]).bind fun (r1 : (List Int × Int)) =>
  (damage_Origins (4 : Int) [((3 : Int), ((1 : Int), ((0 : Int), ([(120 : Int)], ())))), ((2 : Int), ((2 : Int), ((1 : Int), ([], ())))), ((1 : Int), ((0 : Int), ((121 : Int), ([], ()))))]).bind fun (r2 : (List Int × Int)) =>
  (damage_Survivors [((0 : Int), ((2 : Int), ((2 : Int), ()))), ((0 : Int), ((1 : Int), ((2 : Int), ())))] (4 : Int) [((3 : Int), ((1 : Int), ((0 : Int), ([(120 : Int)], ())))), ((2 : Int), ((2 : Int), ((1 : Int), ([], ())))), ((1 : Int), ((0 : Int), ((121 : Int), ([], ()))))]).bind fun (r3 : (List D_api_Piece × Int)) =>
  if (r1.2 == (0 : Int)) = true then
    if ((ByteArray.toList (toStr r1.1)) == (ByteArray.toList (ByteArray.mk #[121, 120, 99, 100]))) = true then
      if (r2.2 == (0 : Int)) = true then
        (bitloftref25_SameInts r2.1 [(-1 : Int), (-1 : Int), (2 : Int), (3 : Int)]).bind fun (r4 : (Bool)) =>
        if r4 = true then
          if (r3.2 == (0 : Int)) = true then
            (bitloftref29_Same r3.1 [((0 : Int), ((2 : Int), ((2 : Int), ())))]).bind fun (r5 : (Bool)) =>
            some (r5)
          else
            some (false)
        else
          some (false)
      else
        some (false)
    else
      some (false)
  else
    some (false)) := (FnI.call_eq (by kernel_rfl)).trans (by kernel_rfl)
noncomputable def bitloftlaw35_alive_S (acc : List AV → Bool) : Summ Try.prog GT := bitloftlaw35_alive_I.summ mixed acc false false

/-! bitloft/bitloftlaw35.DamageOrigins -/
noncomputable def bitloftlaw35_DamageOrigins_I : FnI Try.prog GT := { f := 4, cuts := [⟨(12, 3), [0, 1, 5, 6, 8, 10, 11], false, false⟩], tab := [bitloftlaw35_alive_S (fun _ => true), bitloftref35_Great_S (fun _ => true), bitloftref35_Check_S (fun _ => true), damage_Apply_S (fun _ => true), damage_Origins_S (fun _ => true)], fm := ⟨true, [.val .bool []]⟩ }
noncomputable def bitloftlaw35_DamageOrigins (a0 : List Int) (a1 : List D_api_Harm) : Option (Bool) := bitloftlaw35_DamageOrigins_I.call [(.sl (.int .u8) false a0), (.sl T_api_Harm false a1)] []
noncomputable def bitloftlaw35_DamageOrigins_c1 (v0 : List Int) (v1 : List D_api_Harm) (v5 : Bool) (v6 : List Int) (v8 : List Int) (v10 : Int) (v11 : Int) : Option (Bool) := bitloftlaw35_DamageOrigins_I.sem ⟨[.code (cIn (cIn (cSnd (cFst (cSnd (cSnd (cSnd (cSnd (cSnd (cSnd (cSnd (cSnd (bodyOf Try.prog 4))))))))))))), .inLoop (cIn (cIn (cSnd (cFst (cSnd (cSnd (cSnd (cSnd (cSnd (cSnd (cSnd (cSnd (bodyOf Try.prog 4))))))))))))), .inBlock 0, .code (cSnd (cSnd (cSnd (cSnd (cSnd (cSnd (cSnd (cSnd (cSnd (bodyOf Try.prog 4))))))))))], ⟨[(0, (.one (.sl (.int .u8) false v0))), (1, (.one (.sl T_api_Harm false v1))), (5, (.one (.bool v5))), (6, (.one (.sl (.int .u8) true v6))), (8, (.one (.sl (.int .i64) true v8))), (10, (.one (.int .i64 v10))), (11, (.one (.int .i64 v11)))], [], 8⟩⟩
theorem bitloftlaw35_DamageOrigins_eq (a0 : List Int) (a1 : List D_api_Harm) : bitloftlaw35_DamageOrigins a0 a1 = (
  (bitloftlaw35_alive).bind fun (r1 : (Bool)) =>
  if (decide ((Int.ofNat (List.length a0)) > (1000 : Int))) = true then
    some (r1)
  else
    (bitloftref35_Great a1).bind fun (r2 : (Bool)) =>
    if r2 = true then
      some (r1)
    else
      (bitloftref35_Check a1).bind fun (r3 : (Int)) =>
      if (r3 != (0 : Int)) = true then
        some (r1)
      else
        if (not r1) = true then
          some (r1)
        else
          (damage_Apply a0 a1).bind fun (r4 : (List Int × Int)) =>
          (damage_Origins (Int.ofNat (List.length a0)) a1).bind fun (r5 : (List Int × Int)) =>
          if (r4.2 != (0 : Int)) = true then
            if r1 = true then
              if (r4.2 == (16 : Int)) = true then
                some (r5.2 == r4.2)
              else
                some (false)
            else
              some (false)
          else
            if (r5.2 != (0 : Int)) = true then
              some (false)
            else
              if ((Int.ofNat (List.length r5.1)) != (Int.ofNat (List.length r4.1))) = true then
                some (false)
              else
                bitloftlaw35_DamageOrigins_c1 a0 a1 r1 r4.1 r5.1 (-1 : Int) (0 : Int)) := (FnI.call_eq (by kernel_rfl)).trans (by kernel_rfl)
theorem bitloftlaw35_DamageOrigins_c1_eq (v0 : List Int) (v1 : List D_api_Harm) (v5 : Bool) (v6 : List Int) (v8 : List Int) (v10 : Int) (v11 : Int) : bitloftlaw35_DamageOrigins_c1 v0 v1 v5 v6 v8 v10 v11 = (
  if (decide (v11 < (Int.ofNat (List.length v8)))) = true then
    gd (0 ≤ v11) <|
    gd (v11 < (Int.ofNat (List.length v8))) <|
    if (decide ((List.getD v8 (Int.toNat v11) (0 : Int)) < (-1 : Int))) = true then
      some (false)
    else
      gd (0 ≤ v11) <|
      gd (v11 < (Int.ofNat (List.length v8))) <|
      if (decide ((List.getD v8 (Int.toNat v11) (0 : Int)) ≥ (Int.ofNat (List.length v0)))) = true then
        some (false)
      else
        gd (0 ≤ v11) <|
        gd (v11 < (Int.ofNat (List.length v8))) <|
        if (decide ((List.getD v8 (Int.toNat v11) (0 : Int)) ≥ (0 : Int))) = true then
          gd (0 ≤ v11) <|
          gd (v11 < (Int.ofNat (List.length v8))) <|
          if (decide ((List.getD v8 (Int.toNat v11) (0 : Int)) ≤ v10)) = true then
            some (false)
          else
            gd (0 ≤ v11) <|
            gd (v11 < (Int.ofNat (List.length v6))) <|
            gd (0 ≤ v11) <|
            gd (v11 < (Int.ofNat (List.length v8))) <|
            gd (0 ≤ (List.getD v8 (Int.toNat v11) (0 : Int))) <|
            gd ((List.getD v8 (Int.toNat v11) (0 : Int)) < (Int.ofNat (List.length v0))) <|
            if ((List.getD v6 (Int.toNat v11) (0 : Int)) != (List.getD v0 (Int.toNat (List.getD v8 (Int.toNat v11) (0 : Int))) (0 : Int))) = true then
              some (false)
            else
              gd (0 ≤ v11) <|
              gd (v11 < (Int.ofNat (List.length v8))) <|
              bitloftlaw35_DamageOrigins_c1 v0 v1 v5 v6 v8 (List.getD v8 (Int.toNat v11) (0 : Int)) (IntKind.wrap .i64 (v11 + (1 : Int)))
        else
          bitloftlaw35_DamageOrigins_c1 v0 v1 v5 v6 v8 v10 (IntKind.wrap .i64 (v11 + (1 : Int)))
  else
    if v5 = true then
      if (decide ((Int.ofNat (List.length v1)) > (0 : Int))) = true then
        some (true)
      else
        if ((ByteArray.toList (toStr v6)) == (ByteArray.toList (toStr v0))) = true then
          some (v10 == (IntKind.wrap .i64 ((Int.ofNat (List.length v0)) - (1 : Int))))
        else
          some (false)
    else
      some (false)) := (FnI.sem_eq _).trans (by kernel_rfl)
noncomputable def bitloftlaw35_DamageOrigins_S (acc : List AV → Bool) : Summ Try.prog GT := bitloftlaw35_DamageOrigins_I.summ mixed acc false false

/-! bitloft/bitloftlaw35.DamageParts -/
noncomputable def bitloftlaw35_DamageParts_I : FnI Try.prog GT := { f := 5, cuts := [], tab := [bitloftlaw35_alive_S (fun _ => true), bitloftref35_Great_S (fun _ => true), bitloftref35_Check_S (fun _ => true), damage_Apply_S (fun _ => true)], fm := ⟨true, [.val .bool []]⟩ }
noncomputable def bitloftlaw35_DamageParts (a0 : List Int) (a1 : List D_api_Harm) (a2 : Int) : Option (Bool) := bitloftlaw35_DamageParts_I.call [(.sl (.int .u8) false a0), (.sl T_api_Harm false a1), (.int .i64 a2)] []
theorem bitloftlaw35_DamageParts_eq (a0 : List Int) (a1 : List D_api_Harm) (a2 : Int) : bitloftlaw35_DamageParts a0 a1 a2 = (
  (bitloftlaw35_alive).bind fun (r1 : (Bool)) =>
  if (decide ((Int.ofNat (List.length a0)) > (1000 : Int))) = true then
    some (r1)
  else
    (bitloftref35_Great a1).bind fun (r2 : (Bool)) =>
    if r2 = true then
      some (r1)
    else
      (bitloftref35_Check a1).bind fun (r3 : (Int)) =>
      if (r3 != (0 : Int)) = true then
        some (r1)
      else
        if (decide (a2 < (0 : Int))) = true then
          some (r1)
        else
          if (decide (a2 > (Int.ofNat (List.length a1)))) = true then
            some (r1)
          else
            if (not r1) = true then
              some (r1)
            else
              (damage_Apply a0 a1).bind fun (r4 : (List Int × Int)) =>
              gd (0 ≤ a2) <|
              gd (a2 ≤ (Int.ofNat (List.length a1))) <|
              (damage_Apply a0 (List.take (Int.toNat a2) a1)).bind fun (r5 : (List Int × Int)) =>
              if (r5.2 != (0 : Int)) = true then
                if r1 = true then
                  some (r4.2 == r5.2)
                else
                  some (false)
              else
                gd (0 ≤ a2) <|
                gd (a2 ≤ (Int.ofNat (List.length a1))) <|
                (damage_Apply r5.1 (List.drop (Int.toNat a2) a1)).bind fun (r6 : (List Int × Int)) =>
                if r1 = true then
                  if (r4.2 == r6.2) = true then
                    some ((ByteArray.toList (toStr r4.1)) == (ByteArray.toList (toStr r6.1)))
                  else
                    some (false)
                else
                  some (false)) := (FnI.call_eq (by kernel_rfl)).trans (by kernel_rfl)
noncomputable def bitloftlaw35_DamageParts_S (acc : List AV → Bool) : Summ Try.prog GT := bitloftlaw35_DamageParts_I.summ mixed acc false false

/-! bitloft/bitloftref35.Range -/
noncomputable def bitloftref35_Range_I : FnI Try.prog GT := { f := 16, cuts := [], tab := [], fm := ⟨true, [.val .bool []]⟩ }
noncomputable def bitloftref35_Range (a0 : Int) (a1 : D_api_Piece) : Option (Bool) := bitloftref35_Range_I.call [(.int .i64 a0), (.agg T_api_Piece (inj false T_api_Piece a1))] []
theorem bitloftref35_Range_eq (a0 : Int) (a1 : D_api_Piece) : bitloftref35_Range a0 a1 = (
  if (decide (a1.2.1 ≥ (0 : Int))) = true then
    if (decide (a1.2.2.1 ≥ (1 : Int))) = true then
      if (decide (a1.2.2.1 ≤ a0)) = true then
        some (decide (a1.2.1 ≤ (IntKind.wrap .i64 (a0 - a1.2.2.1))))
      else
        some (false)
    else
      some (false)
  else
    some (false)) := (FnI.call_eq (by kernel_rfl)).trans (by kernel_rfl)
noncomputable def bitloftref35_Range_S (acc : List AV → Bool) : Summ Try.prog GT := bitloftref35_Range_I.summ mixed acc false false

/-! bitloft/bitloftlaw35.DamageRanges -/
noncomputable def bitloftlaw35_DamageRanges_I : FnI Try.prog GT := { f := 6, cuts := [⟨(5, 3), [0, 1, 2, 7, 8], false, false⟩, ⟨(14, 3), [0, 1, 7, 9, 11, 13], false, false⟩, ⟨(20, 7), [0, 1, 7, 9, 11, 13, 14, 15], false, false⟩], tab := [bitloftlaw35_alive_S (fun _ => true), bitloftref35_Great_S (fun _ => true), bitloftref35_Check_S (fun _ => true), bitloftref35_Range_S (fun _ => true), damage_Apply_S (fun _ => true), damage_Survivors_S (fun _ => true)], fm := ⟨true, [.val .bool []]⟩ }
noncomputable def bitloftlaw35_DamageRanges (a0 : List Int) (a1 : List D_api_Piece) (a2 : List D_api_Harm) : Option (Bool) := bitloftlaw35_DamageRanges_I.call [(.sl (.int .u8) false a0), (.sl T_api_Piece false a1), (.sl T_api_Harm false a2)] []
noncomputable def bitloftlaw35_DamageRanges_c1 (v0 : List Int) (v1 : List D_api_Piece) (v2 : List D_api_Harm) (v7 : Bool) (v8 : Int) : Option (Bool) := bitloftlaw35_DamageRanges_I.sem ⟨[.code (cIn (cIn (cSnd (cFst (cSnd (cSnd (cSnd (bodyOf Try.prog 6)))))))), .inLoop (cIn (cIn (cSnd (cFst (cSnd (cSnd (cSnd (bodyOf Try.prog 6)))))))), .inBlock 0, .code (cSnd (cSnd (cSnd (cSnd (bodyOf Try.prog 6)))))], ⟨[(0, (.one (.sl (.int .u8) false v0))), (1, (.one (.sl T_api_Piece false v1))), (2, (.one (.sl T_api_Harm false v2))), (7, (.one (.bool v7))), (8, (.one (.int .i64 v8)))], [], 8⟩⟩
noncomputable def bitloftlaw35_DamageRanges_c2 (v0 : List Int) (v1 : List D_api_Piece) (v7 : Bool) (v9 : List Int) (v13 : Int) (h8 : List D_api_Piece) : Option (Bool) := bitloftlaw35_DamageRanges_I.sem ⟨[.code (cIn (cIn (cSnd (cFst (cSnd (cSnd (cSnd (cSnd (cSnd (cSnd (cSnd (bodyOf Try.prog 6)))))))))))), .inLoop (cIn (cIn (cSnd (cFst (cSnd (cSnd (cSnd (cSnd (cSnd (cSnd (cSnd (bodyOf Try.prog 6)))))))))))), .inBlock 2, .code (cSnd (cSnd (cSnd (cSnd (cSnd (cSnd (cSnd (cSnd (bodyOf Try.prog 6)))))))))], ⟨[(0, (.one (.sl (.int .u8) false v0))), (1, (.one (.sl T_api_Piece false v1))), (7, (.one (.bool v7))), (9, (.one (.sl (.int .u8) true v9))), (11, (.one (.ref T_api_Piece 8 0 (List.length h8) true))), (13, (.one (.int .i64 v13)))], [(8, some (.row T_api_Piece true h8))], 9⟩⟩
noncomputable def bitloftlaw35_DamageRanges_c3 (v0 : List Int) (v1 : List D_api_Piece) (v7 : Bool) (v9 : List Int) (v13 : Int) (v14 : Int) (v15 : Int) (h8 : List D_api_Piece) : Option (Bool) := bitloftlaw35_DamageRanges_I.sem ⟨[.code (cIn (cIn (cSnd (cSnd (cSnd (cIn (cFst (cSnd (cIn (cIn (cSnd (cFst (cSnd (cSnd (cSnd (cSnd (cSnd (cSnd (cSnd (bodyOf Try.prog 6)))))))))))))))))))), .inLoop (cIn (cIn (cSnd (cSnd (cSnd (cIn (cFst (cSnd (cIn (cIn (cSnd (cFst (cSnd (cSnd (cSnd (cSnd (cSnd (cSnd (cSnd (bodyOf Try.prog 6)))))))))))))))))))), .inBlock 4, .inBlock 3, .code (cSnd (cSnd (cIn (cIn (cSnd (cFst (cSnd (cSnd (cSnd (cSnd (cSnd (cSnd (cSnd (bodyOf Try.prog 6)))))))))))))), .inLoop (cIn (cIn (cSnd (cFst (cSnd (cSnd (cSnd (cSnd (cSnd (cSnd (cSnd (bodyOf Try.prog 6)))))))))))), .inBlock 2, .code (cSnd (cSnd (cSnd (cSnd (cSnd (cSnd (cSnd (cSnd (bodyOf Try.prog 6)))))))))], ⟨[(0, (.one (.sl (.int .u8) false v0))), (1, (.one (.sl T_api_Piece false v1))), (7, (.one (.bool v7))), (9, (.one (.sl (.int .u8) true v9))), (11, (.one (.ref T_api_Piece 8 0 (List.length h8) true))), (13, (.one (.int .i64 v13))), (14, (.one (.int .i64 v14))), (15, (.one (.int .i64 v15)))], [(8, some (.row T_api_Piece true h8))], 9⟩⟩
theorem bitloftlaw35_DamageRanges_eq (a0 : List Int) (a1 : List D_api_Piece) (a2 : List D_api_Harm) : bitloftlaw35_DamageRanges a0 a1 a2 = (
  (bitloftlaw35_alive).bind fun (r1 : (Bool)) =>
  if (decide ((Int.ofNat (List.length a0)) > (1000 : Int))) = true then
    some (r1)
  else
    if (decide ((Int.ofNat (List.length a1)) > (50 : Int))) = true then
      some (r1)
    else
      (bitloftref35_Great a2).bind fun (r2 : (Bool)) =>
      if r2 = true then
        some (r1)
      else
        (bitloftref35_Check a2).bind fun (r3 : (Int)) =>
        if (r3 != (0 : Int)) = true then
          some (r1)
        else
          if (not r1) = true then
            some (r1)
          else
            bitloftlaw35_DamageRanges_c1 a0 a1 a2 r1 (0 : Int)) := (FnI.call_eq (by kernel_rfl)).trans (by kernel_rfl)
theorem bitloftlaw35_DamageRanges_c1_eq (v0 : List Int) (v1 : List D_api_Piece) (v2 : List D_api_Harm) (v7 : Bool) (v8 : Int) : bitloftlaw35_DamageRanges_c1 v0 v1 v2 v7 v8 = (
  if (decide (v8 < (Int.ofNat (List.length v1)))) = true then
    gd (0 ≤ v8) <|
    gd (v8 < (Int.ofNat (List.length v1))) <|
    (bitloftref35_Range (Int.ofNat (List.length v0)) (List.getD v1 (Int.toNat v8) (pzero T_api_Piece))).bind fun (r4 : (Bool)) =>
    if (not r4) = true then
      some (v7)
    else
      bitloftlaw35_DamageRanges_c1 v0 v1 v2 v7 (IntKind.wrap .i64 (v8 + (1 : Int)))
  else
    (damage_Apply v0 v2).bind fun (r5 : (List Int × Int)) =>
    (damage_Survivors v1 (Int.ofNat (List.length v0)) v2).bind fun (r6 : (List D_api_Piece × Int)) =>
    if (r5.2 != (0 : Int)) = true then
      if v7 = true then
        some (r5.2 == r6.2)
      else
        some (false)
    else
      if (r6.2 != (0 : Int)) = true then
        if v7 = true then
          some (r5.2 == r6.2)
        else
          some (false)
      else
        bitloftlaw35_DamageRanges_c2 v0 v1 v7 r5.1 (0 : Int) r6.1) := (FnI.sem_eq _).trans (by kernel_rfl)
theorem bitloftlaw35_DamageRanges_c2_eq (v0 : List Int) (v1 : List D_api_Piece) (v7 : Bool) (v9 : List Int) (v13 : Int) (h8 : List D_api_Piece) : bitloftlaw35_DamageRanges_c2 v0 v1 v7 v9 v13 h8 = (
  if (decide (v13 < (Int.ofNat (List.length h8)))) = true then
    gd (0 ≤ v13) <|
    gd (v13 < (Int.ofNat (List.length h8))) <|
    if (decide ((List.getD h8 (0 + (Int.toNat v13)) (pzero T_api_Piece)).1 < (0 : Int))) = true then
      some (false)
    else
      if (decide ((List.getD h8 (0 + (Int.toNat v13)) (pzero T_api_Piece)).1 ≥ (Int.ofNat (List.length v1)))) = true then
        some (false)
      else
        gd (0 ≤ v13) <|
        gd (v13 < (Int.ofNat (List.length h8))) <|
        gd (0 ≤ (List.getD h8 (0 + (Int.toNat v13)) (pzero T_api_Piece)).1) <|
        gd ((List.getD h8 (0 + (Int.toNat v13)) (pzero T_api_Piece)).1 < (Int.ofNat (List.length v1))) <|
        if ((List.getD h8 (0 + (Int.toNat v13)) (pzero T_api_Piece)).2.2.1 != (List.getD v1 (Int.toNat (List.getD h8 (0 + (Int.toNat v13)) (pzero T_api_Piece)).1) (pzero T_api_Piece)).2.2.1) = true then
          some (false)
        else
          gd (0 ≤ v13) <|
          gd (v13 < (Int.ofNat (List.length h8))) <|
          if (decide ((List.getD h8 (0 + (Int.toNat v13)) (pzero T_api_Piece)).2.1 < (0 : Int))) = true then
            some (false)
          else
            gd (0 ≤ v13) <|
            gd (v13 < (Int.ofNat (List.length h8))) <|
            gd (0 ≤ v13) <|
            gd (v13 < (Int.ofNat (List.length h8))) <|
            if (decide ((List.getD h8 (0 + (Int.toNat v13)) (pzero T_api_Piece)).2.1 > (IntKind.wrap .i64 ((Int.ofNat (List.length v9)) - (List.getD h8 (0 + (Int.toNat v13)) (pzero T_api_Piece)).2.2.1)))) = true then
              some (false)
            else
              gd (0 ≤ v13) <|
              gd (v13 < (Int.ofNat (List.length h8))) <|
              gd (0 ≤ v13) <|
              gd (v13 < (Int.ofNat (List.length h8))) <|
              gd (0 ≤ v13) <|
              gd (v13 < (Int.ofNat (List.length h8))) <|
              gd (0 ≤ (List.getD h8 (0 + (Int.toNat v13)) (pzero T_api_Piece)).2.1) <|
              gd ((List.getD h8 (0 + (Int.toNat v13)) (pzero T_api_Piece)).2.1 ≤ (IntKind.wrap .i64 ((List.getD h8 (0 + (Int.toNat v13)) (pzero T_api_Piece)).2.1 + (List.getD h8 (0 + (Int.toNat v13)) (pzero T_api_Piece)).2.2.1))) <|
              gd ((IntKind.wrap .i64 ((List.getD h8 (0 + (Int.toNat v13)) (pzero T_api_Piece)).2.1 + (List.getD h8 (0 + (Int.toNat v13)) (pzero T_api_Piece)).2.2.1)) ≤ (Int.ofNat (List.length v9))) <|
              gd (0 ≤ (List.getD h8 (0 + (Int.toNat v13)) (pzero T_api_Piece)).1) <|
              gd ((List.getD h8 (0 + (Int.toNat v13)) (pzero T_api_Piece)).1 < (Int.ofNat (List.length v1))) <|
              gd (0 ≤ (List.getD h8 (0 + (Int.toNat v13)) (pzero T_api_Piece)).1) <|
              gd ((List.getD h8 (0 + (Int.toNat v13)) (pzero T_api_Piece)).1 < (Int.ofNat (List.length v1))) <|
              gd (0 ≤ (List.getD h8 (0 + (Int.toNat v13)) (pzero T_api_Piece)).1) <|
              gd ((List.getD h8 (0 + (Int.toNat v13)) (pzero T_api_Piece)).1 < (Int.ofNat (List.length v1))) <|
              gd (0 ≤ (List.getD v1 (Int.toNat (List.getD h8 (0 + (Int.toNat v13)) (pzero T_api_Piece)).1) (pzero T_api_Piece)).2.1) <|
              gd ((List.getD v1 (Int.toNat (List.getD h8 (0 + (Int.toNat v13)) (pzero T_api_Piece)).1) (pzero T_api_Piece)).2.1 ≤ (IntKind.wrap .i64 ((List.getD v1 (Int.toNat (List.getD h8 (0 + (Int.toNat v13)) (pzero T_api_Piece)).1) (pzero T_api_Piece)).2.1 + (List.getD v1 (Int.toNat (List.getD h8 (0 + (Int.toNat v13)) (pzero T_api_Piece)).1) (pzero T_api_Piece)).2.2.1))) <|
              gd ((IntKind.wrap .i64 ((List.getD v1 (Int.toNat (List.getD h8 (0 + (Int.toNat v13)) (pzero T_api_Piece)).1) (pzero T_api_Piece)).2.1 + (List.getD v1 (Int.toNat (List.getD h8 (0 + (Int.toNat v13)) (pzero T_api_Piece)).1) (pzero T_api_Piece)).2.2.1)) ≤ (Int.ofNat (List.length v0))) <|
              if (not ((ByteArray.toList (toStr (List.take ((Int.toNat (IntKind.wrap .i64 ((List.getD h8 (0 + (Int.toNat v13)) (pzero T_api_Piece)).2.1 + (List.getD h8 (0 + (Int.toNat v13)) (pzero T_api_Piece)).2.2.1))) - (Int.toNat (List.getD h8 (0 + (Int.toNat v13)) (pzero T_api_Piece)).2.1)) (List.drop (Int.toNat (List.getD h8 (0 + (Int.toNat v13)) (pzero T_api_Piece)).2.1) v9)))) == (ByteArray.toList (toStr (List.take ((Int.toNat (IntKind.wrap .i64 ((List.getD v1 (Int.toNat (List.getD h8 (0 + (Int.toNat v13)) (pzero T_api_Piece)).1) (pzero T_api_Piece)).2.1 + (List.getD v1 (Int.toNat (List.getD h8 (0 + (Int.toNat v13)) (pzero T_api_Piece)).1) (pzero T_api_Piece)).2.2.1))) - (Int.toNat (List.getD v1 (Int.toNat (List.getD h8 (0 + (Int.toNat v13)) (pzero T_api_Piece)).1) (pzero T_api_Piece)).2.1)) (List.drop (Int.toNat (List.getD v1 (Int.toNat (List.getD h8 (0 + (Int.toNat v13)) (pzero T_api_Piece)).1) (pzero T_api_Piece)).2.1) v0)))))) = true then
                some (false)
              else
                bitloftlaw35_DamageRanges_c3 v0 v1 v7 v9 v13 (List.getD h8 (0 + (Int.toNat v13)) (pzero T_api_Piece)).1 (0 : Int) h8
  else
    some (v7)) := (FnI.sem_eq _).trans (by kernel_rfl)
theorem bitloftlaw35_DamageRanges_c3_eq (v0 : List Int) (v1 : List D_api_Piece) (v7 : Bool) (v9 : List Int) (v13 : Int) (v14 : Int) (v15 : Int) (h8 : List D_api_Piece) : bitloftlaw35_DamageRanges_c3 v0 v1 v7 v9 v13 v14 v15 h8 = (
  if (decide (v15 < v13)) = true then
    gd (0 ≤ v15) <|
    gd (v15 < (Int.ofNat (List.length h8))) <|
    gd (0 ≤ (List.getD h8 (0 + (Int.toNat v15)) (pzero T_api_Piece)).1) <|
    gd ((List.getD h8 (0 + (Int.toNat v15)) (pzero T_api_Piece)).1 < (Int.ofNat (List.length v1))) <|
    gd (0 ≤ v14) <|
    gd (v14 < (Int.ofNat (List.length v1))) <|
    gd (0 ≤ v15) <|
    gd (v15 < (Int.ofNat (List.length h8))) <|
    if (decide ((List.getD h8 (0 + (Int.toNat v15)) (pzero T_api_Piece)).1 ≥ v14)) = true then
      some (false)
    else
      gd (0 ≤ v15) <|
      gd (v15 < (Int.ofNat (List.length h8))) <|
      gd (0 ≤ v15) <|
      gd (v15 < (Int.ofNat (List.length h8))) <|
      gd (0 ≤ v13) <|
      gd (v13 < (Int.ofNat (List.length h8))) <|
      if (not ((decide ((IntKind.wrap .i64 ((List.getD v1 (Int.toNat (List.getD h8 (0 + (Int.toNat v15)) (pzero T_api_Piece)).1) (pzero T_api_Piece)).2.1 + (List.getD v1 (Int.toNat (List.getD h8 (0 + (Int.toNat v15)) (pzero T_api_Piece)).1) (pzero T_api_Piece)).2.2.1)) ≤ (List.getD v1 (Int.toNat v14) (pzero T_api_Piece)).2.1)) == (decide ((IntKind.wrap .i64 ((List.getD h8 (0 + (Int.toNat v15)) (pzero T_api_Piece)).2.1 + (List.getD h8 (0 + (Int.toNat v15)) (pzero T_api_Piece)).2.2.1)) ≤ (List.getD h8 (0 + (Int.toNat v13)) (pzero T_api_Piece)).2.1)))) = true then
        if (decide ((IntKind.wrap .i64 ((List.getD v1 (Int.toNat (List.getD h8 (0 + (Int.toNat v15)) (pzero T_api_Piece)).1) (pzero T_api_Piece)).2.1 + (List.getD v1 (Int.toNat (List.getD h8 (0 + (Int.toNat v15)) (pzero T_api_Piece)).1) (pzero T_api_Piece)).2.2.1)) ≤ (List.getD v1 (Int.toNat v14) (pzero T_api_Piece)).2.1)) = true then
          some (false)
        else
          bitloftlaw35_DamageRanges_c3 v0 v1 v7 v9 v13 v14 (IntKind.wrap .i64 (v15 + (1 : Int))) h8
      else
        bitloftlaw35_DamageRanges_c3 v0 v1 v7 v9 v13 v14 (IntKind.wrap .i64 (v15 + (1 : Int))) h8
  else
    bitloftlaw35_DamageRanges_c2 v0 v1 v7 v9 (IntKind.wrap .i64 (v13 + (1 : Int))) h8) := (FnI.sem_eq _).trans (by kernel_rfl)
noncomputable def bitloftlaw35_DamageRanges_S (acc : List AV → Bool) : Summ Try.prog GT := bitloftlaw35_DamageRanges_I.summ mixed acc false false
end Go.Ab
