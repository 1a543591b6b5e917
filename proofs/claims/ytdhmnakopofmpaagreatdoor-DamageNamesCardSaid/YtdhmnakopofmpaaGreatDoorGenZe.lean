/-
  What the functions compute, as plain functions: printed by a program of this repo's own and checked here by the kernel.
-/
import Derived.Test.YtdhmnakopofmpaaGreatDoorGenZd
import Derived.Test.YtdhmnakopofmpaaGreatDoorProg
set_option linter.unusedVariables false
set_option maxRecDepth 20000
namespace Go.Ab
open Go Go.Proofs
abbrev T_runtime_boundsError : Ty := (.pair (.int .i64) (.pair (.int .i64) (.pair .bool (.pair (.int .u8) .unit))))
abbrev D_runtime_boundsError : Type := (Int × (Int × (Bool × (Int × Unit))))
abbrev T_runtime_errorAddressString : Ty := (.pair .str (.pair (.int .u64) .unit))
abbrev D_runtime_errorAddressString : Type := (ByteArray × (Int × Unit))
abbrev T_api_Harm : Ty := (.pair (.int .u8) (.pair (.int .i64) (.pair (.int .i64) (.pair (.slice (.int .u8)) .unit))))
abbrev D_api_Harm : Type := (Int × (Int × (Int × ((List Int) × Unit))))
abbrev T_api_Piece : Ty := (.pair (.int .i64) (.pair (.int .i64) (.pair (.int .i64) .unit)))
abbrev D_api_Piece : Type := (Int × (Int × (Int × Unit)))
abbrev T_api_Settings : Ty := (.pair (.int .i64) (.pair (.int .i64) .unit))
abbrev D_api_Settings : Type := (Int × (Int × Unit))
abbrev T_api_Listing : Ty := (.pair T_api_Settings (.pair (.slice (.pair .str (.pair (.int .i64) (.pair (.arr 20 (.int .u8)) .unit)))) (.pair (.slice (.pair (.int .u8) (.pair (.int .i64) (.pair (.int .i64) (.pair (.int .i64) (.pair (.int .i64) (.pair (.arr 20 (.int .u8)) .unit))))))) .unit)))
abbrev D_api_Listing : Type := (D_api_Settings × ((List (ByteArray × (Int × ((List Int) × Unit)))) × ((List (Int × (Int × (Int × (Int × (Int × ((List Int) × Unit))))))) × Unit)))
abbrev T_api_BlockHead : Ty := (.pair (.int .u8) (.pair (.int .i64) (.pair (.int .i64) (.pair (.int .i64) (.pair (.int .i64) (.pair (.arr 20 (.int .u8)) .unit))))))
abbrev D_api_BlockHead : Type := (Int × (Int × (Int × (Int × (Int × ((List Int) × Unit))))))
abbrev T_api_Record : Ty := (.pair .str (.pair (.int .i64) (.pair (.arr 20 (.int .u8)) .unit)))
abbrev D_api_Record : Type := (ByteArray × (Int × ((List Int) × Unit)))
abbrev T_api_Block : Ty := (.pair T_api_BlockHead (.pair (.slice (.int .u8)) .unit))
abbrev D_api_Block : Type := (D_api_BlockHead × ((List Int) × Unit))
abbrev T_member_source : Ty := (.pair (.slice (.int .u8)) (.pair (.int .i64) .unit))
abbrev D_member_source : Type := ((List Int) × (Int × Unit))
abbrev T_member_reader : Ty := (.pair T_member_source .unit)
abbrev D_member_reader : Type := (D_member_source × Unit)
abbrev T_reflectlite_ValueError : Ty := (.pair .str (.pair (.int .u8) .unit))
abbrev D_reflectlite_ValueError : Type := (ByteArray × (Int × Unit))
abbrev T_abi_UncommonType : Ty := (.pair (.int .i32) (.pair (.int .u16) (.pair (.int .u16) (.pair (.int .u32) (.pair (.int .u32) .unit)))))
abbrev D_abi_UncommonType : Type := (Int × (Int × (Int × (Int × (Int × Unit)))))
abbrev T_abi_Method : Ty := (.pair (.int .i32) (.pair (.int .i32) (.pair (.int .i32) (.pair (.int .i32) .unit))))
abbrev D_abi_Method : Type := (Int × (Int × (Int × (Int × Unit))))
def G_widths : List Int := [1, 1, 2, 2, 2]
def G_quarters : List Int := [1518500249, 1859775393, 2400959708, 3395469782]
def GT : GTab := [(0, ⟨(.arr 5 (.int .i64)), G_widths⟩), (1, ⟨(.arr 4 (.int .u32)), G_quarters⟩), (2, ⟨.unit, ()⟩)]
theorem mixed : Tryz.prog.follows .mixedOrders = true := by kernel_rfl
noncomputable def errors_As_S (acc : List AV → Bool) : Summ Tryz.prog GT := { f := 74, acc := acc, rows := false, nils := false, R := Bool × Int, fn := errors_As_fn, res := fun r => .one (.bool r.1), post := fun r => [(0, .box (.int .i64) r.2)], ok := fun _ _ _ h => errors_As_ok rfl h }
noncomputable def slices_Delete_u8_S (acc : List AV → Bool) : Summ Tryz.prog GT := { f := 28, acc := acc, rows := true, nils := false, R := List Int, fn := slices_Delete_u8_fn, res := fun r => .one (.ref (.int .u8) 8 0 r.length true), post := fun r => [(8, .row (.int .u8) true r)], ok := fun _ _ _ h => slices_Delete_u8_ok h }
noncomputable def slices_Insert_u8_S (acc : List AV → Bool) : Summ Tryz.prog GT := { f := 29, acc := acc, rows := true, nils := false, R := List Int, fn := slices_Insert_u8_fn, res := fun r => .one (.ref (.int .u8) 8 0 r.length true), post := fun r => [(8, .row (.int .u8) true r)], ok := fun _ _ _ h => slices_Insert_u8_ok h }
noncomputable def slices_Delete_i64_S (acc : List AV → Bool) : Summ Tryz.prog GT := { f := 31, acc := acc, rows := true, nils := false, R := List Int, fn := slices_Delete_i64_fn, res := fun r => .one (.ref (.int .i64) 8 0 r.length true), post := fun r => [(8, .row (.int .i64) true r)], ok := fun _ _ _ h => slices_Delete_i64_ok h }
noncomputable def slices_Insert_i64_S (acc : List AV → Bool) : Summ Tryz.prog GT := { f := 32, acc := acc, rows := true, nils := false, R := List Int, fn := slices_Insert_i64_fn, res := fun r => .one (.ref (.int .i64) 8 0 r.length true), post := fun r => [(8, .row (.int .i64) true r)], ok := fun _ _ _ h => slices_Insert_i64_ok h }
/-! bitloft/damage.valid -/
noncomputable def damage_valid_I : FnI Tryz.prog GT := { f := 20, cuts := [], tab := [], fm := ⟨true, [.val .bool []]⟩ }
noncomputable def damage_valid (a0 : D_api_Harm) : Option (Bool) := damage_valid_I.call [(.agg T_api_Harm (inj false T_api_Harm a0))] []
theorem damage_valid_eq (a0 : D_api_Harm) : damage_valid a0 = (
  if (a0.1 == (1 : Int)) = true then
    if (decide (a0.2.1 ≥ (0 : Int))) = true then
      if (decide (a0.2.2.1 ≥ (0 : Int))) = true then
        if (decide (a0.2.2.1 < (256 : Int))) = true then
          some ((Int.ofNat (List.length a0.2.2.2.1)) == (0 : Int))
        else
          some (false)
      else
        some (false)
    else
      some (false)
  else
    if (a0.1 == (2 : Int)) = true then
      if (decide (a0.2.1 ≥ (0 : Int))) = true then
        if (decide (a0.2.2.1 ≥ (0 : Int))) = true then
          some ((Int.ofNat (List.length a0.2.2.2.1)) == (0 : Int))
        else
          some (false)
      else
        some (false)
    else
      if (a0.1 == (3 : Int)) = true then
        if (decide (a0.2.1 ≥ (0 : Int))) = true then
          if (a0.2.2.1 == (0 : Int)) = true then
            some (decide ((Int.ofNat (List.length a0.2.2.2.1)) ≤ (200 : Int)))
          else
            some (false)
        else
          some (false)
      else
        if (a0.1 == (4 : Int)) = true then
          if (decide (a0.2.1 ≥ (0 : Int))) = true then
            if (a0.2.2.1 == (0 : Int)) = true then
              some ((Int.ofNat (List.length a0.2.2.2.1)) == (0 : Int))
            else
              some (false)
          else
            some (false)
        else
          some (false)) := (FnI.call_eq (by kernel_rfl)).trans (by kernel_rfl)
noncomputable def damage_valid_S (acc : List AV → Bool) : Summ Tryz.prog GT := damage_valid_I.summ mixed acc false false

/-! bitloft/damage.Check$1 -/
noncomputable def damage_Check_1_I : FnI Tryz.prog GT := { f := 19, cuts := [], tab := [damage_valid_S (fun _ => true)], fm := ⟨true, [.val .bool []]⟩ }
noncomputable def damage_Check_1 (a0 : D_api_Harm) : Option (Bool) := damage_Check_1_I.call [(.agg T_api_Harm (inj false T_api_Harm a0))] []
theorem damage_Check_1_eq (a0 : D_api_Harm) : damage_Check_1 a0 = (
  (damage_valid a0).bind fun (r1 : (Bool)) =>
  some (not r1)) := (FnI.call_eq (by kernel_rfl)).trans (by kernel_rfl)
noncomputable def damage_Check_1_S (acc : List AV → Bool) : Summ Tryz.prog GT := damage_Check_1_I.summ mixed acc false false

/-! slices.IndexFunc[[]bitloft/api.Harm,bitloft/api.Harm] -/
noncomputable def slices_IndexFunc_api_Harm_api_Harm_I : FnI Tryz.prog GT := { f := 37, cuts := [⟨(2, 3), [0, 1, 7, 8], false, false⟩], tab := [damage_Check_1_S (fun _ => true)], fm := ⟨true, [.val (.int .i64) []]⟩ }
noncomputable def slices_IndexFunc_api_Harm_api_Harm (a0 : List D_api_Harm) : Option (Int) := slices_IndexFunc_api_Harm_api_Harm_I.call [(.sl T_api_Harm false a0), (.func 19 [])] []
noncomputable def slices_IndexFunc_api_Harm_api_Harm_c1 (v0 : List D_api_Harm) (v7 : Int) (v8 : Int) : Option (Int) := slices_IndexFunc_api_Harm_api_Harm_I.sem ⟨[.code (cIn (cIn (cSnd (cFst (cSnd (bodyOf Tryz.prog 37)))))), .inLoop (cIn (cIn (cSnd (cFst (cSnd (bodyOf Tryz.prog 37)))))), .inBlock 0, .code (cSnd (cSnd (bodyOf Tryz.prog 37)))], ⟨[(0, (.one (.sl T_api_Harm false v0))), (1, (.one (.func 19 []))), (7, (.one (.int .i64 v7))), (8, (.one (.int .i64 v8)))], [], 8⟩⟩
theorem slices_IndexFunc_api_Harm_api_Harm_eq (a0 : List D_api_Harm) : slices_IndexFunc_api_Harm_api_Harm a0 = (
  slices_IndexFunc_api_Harm_api_Harm_c1 a0 (Int.ofNat (List.length a0)) (0 : Int)) := (FnI.call_eq (by kernel_rfl)).trans (by kernel_rfl)
theorem slices_IndexFunc_api_Harm_api_Harm_c1_eq (v0 : List D_api_Harm) (v7 : Int) (v8 : Int) : slices_IndexFunc_api_Harm_api_Harm_c1 v0 v7 v8 = (
  if (decide (v8 < v7)) = true then
    gd (0 ≤ v8) <|
    gd (v8 < (Int.ofNat (List.length v0))) <|
    (damage_Check_1 (List.getD v0 (Int.toNat v8) (pzero T_api_Harm))).bind fun (r1 : (Bool)) =>
    if r1 = true then
      some (v8)
    else
      slices_IndexFunc_api_Harm_api_Harm_c1 v0 v7 (IntKind.wrap .i64 (v8 + (1 : Int)))
  else
    some (-1 : Int)) := (FnI.sem_eq _).trans (by kernel_rfl)
noncomputable def slices_IndexFunc_api_Harm_api_Harm_S (acc : List AV → Bool) : Summ Tryz.prog GT := slices_IndexFunc_api_Harm_api_Harm_I.summ mixed acc false false

/-! slices.ContainsFunc[[]bitloft/api.Harm,bitloft/api.Harm] -/
noncomputable def slices_ContainsFunc_api_Harm_api_Harm_I : FnI Tryz.prog GT := { f := 18, cuts := [], tab := [slices_IndexFunc_api_Harm_api_Harm_S (fun _ => true)], fm := ⟨true, [.val .bool []]⟩ }
noncomputable def slices_ContainsFunc_api_Harm_api_Harm (a0 : List D_api_Harm) : Option (Bool) := slices_ContainsFunc_api_Harm_api_Harm_I.call [(.sl T_api_Harm false a0), (.func 19 [])] []
theorem slices_ContainsFunc_api_Harm_api_Harm_eq (a0 : List D_api_Harm) : slices_ContainsFunc_api_Harm_api_Harm a0 = (
  (slices_IndexFunc_api_Harm_api_Harm a0).bind fun (r1 : (Int)) =>
  some (decide (r1 ≥ (0 : Int)))) := (FnI.call_eq (by kernel_rfl)).trans (by kernel_rfl)
noncomputable def slices_ContainsFunc_api_Harm_api_Harm_S (acc : List AV → Bool) : Summ Tryz.prog GT := slices_ContainsFunc_api_Harm_api_Harm_I.summ mixed acc false false

/-! bitloft/damage.Check -/
noncomputable def damage_Check_I : FnI Tryz.prog GT := { f := 8, cuts := [], tab := [slices_ContainsFunc_api_Harm_api_Harm_S (fun _ => true)], fm := ⟨true, [.val (.int .i64) []]⟩ }
noncomputable def damage_Check (a0 : List D_api_Harm) : Option (Int) := damage_Check_I.call [(.sl T_api_Harm false a0)] []
theorem damage_Check_eq (a0 : List D_api_Harm) : damage_Check a0 = (
  if (decide ((Int.ofNat (List.length a0)) > (20 : Int))) = true then
    some (4 : Int)
  else
    (slices_ContainsFunc_api_Harm_api_Harm a0).bind fun (r1 : (Bool)) =>
    if r1 = true then
      some (8 : Int)
    else
      some (0 : Int)) := (FnI.call_eq (by kernel_rfl)).trans (by kernel_rfl)
noncomputable def damage_Check_S (acc : List AV → Bool) : Summ Tryz.prog GT := damage_Check_I.summ mixed acc false false

/-! slices.Clone[[]byte,byte] -/
noncomputable def slices_Clone_byte_byte_I : FnI Tryz.prog GT := { f := 26, cuts := [], tab := [], fm := ⟨true, [.val (.slice (.int .u8)) [.nw]]⟩ }
noncomputable def slices_Clone_byte_byte (a0 : List Int) : Option (List Int) := slices_Clone_byte_byte_I.call [(.sl (.int .u8) false a0)] []
theorem slices_Clone_byte_byte_eq (a0 : List Int) : slices_Clone_byte_byte a0 = (
  anyv (fun (r1 : Bool) => r1 = true → a0 = []) fun (r1 : Bool) =>
  if r1 = true then
    some ([])
  else
    gd ((List.length ([] ++ a0)) * 1 ≤ 140737488355328) <|
    some ([] ++ a0)) := (FnI.call_eq (by kernel_rfl)).trans (by kernel_rfl)
noncomputable def slices_Clone_byte_byte_S (acc : List AV → Bool) : Summ Tryz.prog GT := slices_Clone_byte_byte_I.summ mixed acc false false

/-! bitloft/damage.possible -/
noncomputable def damage_possible_I : FnI Tryz.prog GT := { f := 27, cuts := [], tab := [], fm := ⟨true, [.val .bool []]⟩ }
noncomputable def damage_possible (a0 : Int) (a1 : D_api_Harm) : Option (Bool) := damage_possible_I.call [(.int .i64 a0), (.agg T_api_Harm (inj false T_api_Harm a1))] []
theorem damage_possible_eq (a0 : Int) (a1 : D_api_Harm) : damage_possible a0 a1 = (
  if (a1.1 == (1 : Int)) = true then
    some (decide (a1.2.1 < a0))
  else
    if (a1.1 == (2 : Int)) = true then
      if (decide (a1.2.1 ≤ a0)) = true then
        some (decide (a1.2.2.1 ≤ (IntKind.wrap .i64 (a0 - a1.2.1))))
      else
        some (false)
    else
      if (a1.1 == (3 : Int)) = true then
        if (decide (a1.2.1 ≤ a0)) = true then
          some (decide ((IntKind.wrap .i64 (a0 + (Int.ofNat (List.length a1.2.2.2.1)))) ≤ (50000 : Int)))
        else
          some (false)
      else
        some (decide (a1.2.1 ≤ a0))) := (FnI.call_eq (by kernel_rfl)).trans (by kernel_rfl)
noncomputable def damage_possible_S (acc : List AV → Bool) : Summ Tryz.prog GT := damage_possible_I.summ mixed acc false false

/-! bitloft/damage.Apply$1 -/
noncomputable def damage_Apply_1_I : FnI Tryz.prog GT := { f := 12, cuts := [], tab := [], fm := ⟨true, [.val (.int .u8) []]⟩ }
noncomputable def damage_Apply_1 (a0 : Int) : Option (Int) := damage_Apply_1_I.call [(.int .u8 a0)] []
theorem damage_Apply_1_eq (a0 : Int) : damage_Apply_1 a0 = (
  some (a0)) := (FnI.call_eq (by kernel_rfl)).trans (by kernel_rfl)
noncomputable def damage_Apply_1_S (acc : List AV → Bool) : Summ Tryz.prog GT := damage_Apply_1_I.summ mixed acc false false

/-! bitloft/damage.do[byte] -/
noncomputable def damage_do_byte_I : FnI Tryz.prog GT := { f := 11, cuts := [⟨(3, 3), [0, 2, 15, 16, 17], false, false⟩, ⟨(15, 9), [0, 2, 9, 10, 15, 16, 17, 53, 54, 55], false, false⟩], tab := [slices_Clone_byte_byte_S (fun _ => true), damage_possible_S (fun _ => true), damage_Apply_1_S (fun _ => true), slices_Delete_u8_S (fun _ => true), slices_Insert_u8_S (fun _ => true)], fm := ⟨true, [.val (.slice (.int .u8)) [.pu], .val (.int .i64) []]⟩ }
noncomputable def damage_do_byte (a0 : List Int) (a1 : List D_api_Harm) : Option (List Int × Int) := damage_do_byte_I.call [(.sl (.int .u8) false a0), (.sl T_api_Harm false a1), (.func 12 [])] []
noncomputable def damage_do_byte_c1 (v15 : List D_api_Harm) (v16 : Int) (v17 : Int) (h8 : List Int) : Option (List Int × Int) := damage_do_byte_I.sem ⟨[.code (cIn (cIn (cSnd (cFst (cSnd (cSnd (bodyOf Tryz.prog 11))))))), .inLoop (cIn (cIn (cSnd (cFst (cSnd (cSnd (bodyOf Tryz.prog 11))))))), .inBlock 0, .code (cSnd (cSnd (cSnd (bodyOf Tryz.prog 11))))], ⟨[(0, (.one (.ref (.int .u8) 8 0 (List.length h8) true))), (2, (.one (.func 12 []))), (15, (.one (.sl T_api_Harm false v15))), (16, (.one (.int .i64 v16))), (17, (.one (.int .i64 v17)))], [(8, some (.row (.int .u8) true h8))], 9⟩⟩
noncomputable def damage_do_byte_c2 (v15 : List D_api_Harm) (v16 : Int) (v17 : Int) (v53 : List Int) (v54 : Int) (v55 : Int) (h8 : List Int) (b9 : D_api_Harm) (h10 : List Int) : Option (List Int × Int) := damage_do_byte_I.sem ⟨[.code (cIn (cIn (cSnd (cFst (cSnd (cThn (cSnd (cEls (cSnd (cEls (cSnd (cIn (cSnd (cSnd (cSnd (cIn (cFst (cSnd (cSnd (cIn (cIn (cSnd (cFst (cSnd (cSnd (bodyOf Tryz.prog 11)))))))))))))))))))))))))), .inLoop (cIn (cIn (cSnd (cFst (cSnd (cThn (cSnd (cEls (cSnd (cEls (cSnd (cIn (cSnd (cSnd (cSnd (cIn (cFst (cSnd (cSnd (cIn (cIn (cSnd (cFst (cSnd (cSnd (bodyOf Tryz.prog 11)))))))))))))))))))))))))), .inBlock 3, .code (cSnd (cSnd (cThn (cSnd (cEls (cSnd (cEls (cSnd (cIn (cSnd (cSnd (cSnd (cIn (cFst (cSnd (cSnd (cIn (cIn (cSnd (cFst (cSnd (cSnd (bodyOf Tryz.prog 11))))))))))))))))))))))), .inBlock 2, .inBlock 1, .code (cSnd (cSnd (cSnd (cIn (cIn (cSnd (cFst (cSnd (cSnd (bodyOf Tryz.prog 11)))))))))), .inLoop (cIn (cIn (cSnd (cFst (cSnd (cSnd (bodyOf Tryz.prog 11))))))), .inBlock 0, .code (cSnd (cSnd (cSnd (bodyOf Tryz.prog 11))))], ⟨[(0, (.one (.ref (.int .u8) 8 0 (List.length h8) true))), (2, (.one (.func 12 []))), (9, (.one (.ptr T_api_Harm 9 []))), (10, (.one (.ref (.int .u8) 10 0 (List.length h10) true))), (15, (.one (.sl T_api_Harm false v15))), (16, (.one (.int .i64 v16))), (17, (.one (.int .i64 v17))), (53, (.one (.sl (.int .u8) false v53))), (54, (.one (.int .i64 v54))), (55, (.one (.int .i64 v55)))], [(8, some (.row (.int .u8) true h8)), (9, some (.box T_api_Harm (inj false T_api_Harm b9))), (10, some (.row (.int .u8) true h10))], 11⟩⟩
noncomputable def damage_do_byte_c3 (v0o : Nat) (v0n : Nat) (v15 : List D_api_Harm) (v16 : Int) (v17 : Int) (h8 : List Int) : Option (List Int × Int) := damage_do_byte_I.sem ⟨[.code (cIn (cIn (cSnd (cFst (cSnd (cSnd (bodyOf Tryz.prog 11))))))), .inLoop (cIn (cIn (cSnd (cFst (cSnd (cSnd (bodyOf Tryz.prog 11))))))), .inBlock 0, .code (cSnd (cSnd (cSnd (bodyOf Tryz.prog 11))))], ⟨[(0, (.one (.ref (.int .u8) 8 v0o v0n false))), (2, (.one (.func 12 []))), (15, (.one (.sl T_api_Harm false v15))), (16, (.one (.int .i64 v16))), (17, (.one (.int .i64 v17)))], [(8, some (.row (.int .u8) true h8))], 9⟩⟩
noncomputable def damage_do_byte_c4 (v0o : Nat) (v0n : Nat) (v15 : List D_api_Harm) (v16 : Int) (v17 : Int) (v53 : List Int) (v54 : Int) (v55 : Int) (h8 : List Int) (b9 : D_api_Harm) (h10 : List Int) : Option (List Int × Int) := damage_do_byte_I.sem ⟨[.code (cIn (cIn (cSnd (cFst (cSnd (cThn (cSnd (cEls (cSnd (cEls (cSnd (cIn (cSnd (cSnd (cSnd (cIn (cFst (cSnd (cSnd (cIn (cIn (cSnd (cFst (cSnd (cSnd (bodyOf Tryz.prog 11)))))))))))))))))))))))))), .inLoop (cIn (cIn (cSnd (cFst (cSnd (cThn (cSnd (cEls (cSnd (cEls (cSnd (cIn (cSnd (cSnd (cSnd (cIn (cFst (cSnd (cSnd (cIn (cIn (cSnd (cFst (cSnd (cSnd (bodyOf Tryz.prog 11)))))))))))))))))))))))))), .inBlock 3, .code (cSnd (cSnd (cThn (cSnd (cEls (cSnd (cEls (cSnd (cIn (cSnd (cSnd (cSnd (cIn (cFst (cSnd (cSnd (cIn (cIn (cSnd (cFst (cSnd (cSnd (bodyOf Tryz.prog 11))))))))))))))))))))))), .inBlock 2, .inBlock 1, .code (cSnd (cSnd (cSnd (cIn (cIn (cSnd (cFst (cSnd (cSnd (bodyOf Tryz.prog 11)))))))))), .inLoop (cIn (cIn (cSnd (cFst (cSnd (cSnd (bodyOf Tryz.prog 11))))))), .inBlock 0, .code (cSnd (cSnd (cSnd (bodyOf Tryz.prog 11))))], ⟨[(0, (.one (.ref (.int .u8) 8 v0o v0n false))), (2, (.one (.func 12 []))), (9, (.one (.ptr T_api_Harm 9 []))), (10, (.one (.ref (.int .u8) 10 0 (List.length h10) true))), (15, (.one (.sl T_api_Harm false v15))), (16, (.one (.int .i64 v16))), (17, (.one (.int .i64 v17))), (53, (.one (.sl (.int .u8) false v53))), (54, (.one (.int .i64 v54))), (55, (.one (.int .i64 v55)))], [(8, some (.row (.int .u8) true h8)), (9, some (.box T_api_Harm (inj false T_api_Harm b9))), (10, some (.row (.int .u8) true h10))], 11⟩⟩
theorem damage_do_byte_eq (a0 : List Int) (a1 : List D_api_Harm) : damage_do_byte a0 a1 = (
  (slices_Clone_byte_byte a0).bind fun (r1 : (List Int)) =>
  damage_do_byte_c1 a1 (Int.ofNat (List.length a1)) (0 : Int) r1) := (FnI.call_eq (by kernel_rfl)).trans (by kernel_rfl)
theorem damage_do_byte_c1_eq (v15 : List D_api_Harm) (v16 : Int) (v17 : Int) (h8 : List Int) : damage_do_byte_c1 v15 v16 v17 h8 = (
  if (decide (v17 < v16)) = true then
    gd (0 ≤ v17) <|
    gd (v17 < (Int.ofNat (List.length v15))) <|
    (damage_possible (Int.ofNat (List.length h8)) (List.getD v15 (Int.toNat v17) (pzero T_api_Harm))).bind fun (r2 : (Bool)) =>
    if (not r2) = true then
      some ([], (16 : Int))
    else
      if ((List.getD v15 (Int.toNat v17) (pzero T_api_Harm)).1 == (1 : Int)) = true then
        (damage_Apply_1 (IntKind.wrap .u8 (List.getD v15 (Int.toNat v17) (pzero T_api_Harm)).2.2.1)).bind fun (r3 : (Int)) =>
        gd (0 ≤ (List.getD v15 (Int.toNat v17) (pzero T_api_Harm)).2.1) <|
        gd ((List.getD v15 (Int.toNat v17) (pzero T_api_Harm)).2.1 < (Int.ofNat (List.length h8))) <|
        damage_do_byte_c1 v15 v16 (IntKind.wrap .i64 (v17 + (1 : Int))) (List.set h8 (0 + (Int.toNat (List.getD v15 (Int.toNat v17) (pzero T_api_Harm)).2.1)) r3)
      else
        if ((List.getD v15 (Int.toNat v17) (pzero T_api_Harm)).1 == (2 : Int)) = true then
          (slices_Delete_u8 h8 (List.getD v15 (Int.toNat v17) (pzero T_api_Harm)).2.1 (IntKind.wrap .i64 ((List.getD v15 (Int.toNat v17) (pzero T_api_Harm)).2.1 + (List.getD v15 (Int.toNat v17) (pzero T_api_Harm)).2.2.1))).bind fun (r4 : (List Int)) =>
          damage_do_byte_c1 v15 v16 (IntKind.wrap .i64 (v17 + (1 : Int))) r4
        else
          if ((List.getD v15 (Int.toNat v17) (pzero T_api_Harm)).1 == (3 : Int)) = true then
            damage_do_byte_c2 v15 v16 v17 (List.getD v15 (Int.toNat v17) (pzero T_api_Harm)).2.2.2.1 (Int.ofNat (List.length (List.getD v15 (Int.toNat v17) (pzero T_api_Harm)).2.2.2.1)) (0 : Int) h8 (List.getD v15 (Int.toNat v17) (pzero T_api_Harm)) []
          else
            if ((List.getD v15 (Int.toNat v17) (pzero T_api_Harm)).1 == (4 : Int)) = true then
              gd (0 ≤ (List.getD v15 (Int.toNat v17) (pzero T_api_Harm)).2.1) <|
              gd ((List.getD v15 (Int.toNat v17) (pzero T_api_Harm)).2.1 ≤ (Int.ofNat (List.length h8))) <|
              damage_do_byte_c3 0 ((Int.toNat (List.getD v15 (Int.toNat v17) (pzero T_api_Harm)).2.1) - 0) v15 v16 (IntKind.wrap .i64 (v17 + (1 : Int))) h8
            else
              damage_do_byte_c1 v15 v16 (IntKind.wrap .i64 (v17 + (1 : Int))) h8
  else
    some (h8, (0 : Int))) := (FnI.sem_eq _).trans (by kernel_rfl)
theorem damage_do_byte_c2_eq (v15 : List D_api_Harm) (v16 : Int) (v17 : Int) (v53 : List Int) (v54 : Int) (v55 : Int) (h8 : List Int) (b9 : D_api_Harm) (h10 : List Int) : damage_do_byte_c2 v15 v16 v17 v53 v54 v55 h8 b9 h10 = (
  if (decide (v55 < v54)) = true then
    gd (0 ≤ v55) <|
    gd (v55 < (Int.ofNat (List.length v53))) <|
    (damage_Apply_1 (List.getD v53 (Int.toNat v55) (0 : Int))).bind fun (r5 : (Int)) =>
    gd ((List.length (h10 ++ [r5])) * 1 ≤ 140737488355328) <|
    damage_do_byte_c2 v15 v16 v17 v53 v54 (IntKind.wrap .i64 (v55 + (1 : Int))) h8 b9 (h10 ++ [r5])
  else
    (slices_Insert_u8 h8 b9.2.1 h10).bind fun (r6 : (List Int)) =>
    damage_do_byte_c1 v15 v16 (IntKind.wrap .i64 (v17 + (1 : Int))) r6) := (FnI.sem_eq _).trans (by kernel_rfl)
theorem damage_do_byte_c3_eq (v0o : Nat) (v0n : Nat) (v15 : List D_api_Harm) (v16 : Int) (v17 : Int) (h8 : List Int) : damage_do_byte_c3 v0o v0n v15 v16 v17 h8 = (
  if (decide (v17 < v16)) = true then
    gd (0 ≤ v17) <|
    gd (v17 < (Int.ofNat (List.length v15))) <|
    (damage_possible (Int.ofNat v0n) (List.getD v15 (Int.toNat v17) (pzero T_api_Harm))).bind fun (r7 : (Bool)) =>
    if (not r7) = true then
      some ([], (16 : Int))
    else
      if ((List.getD v15 (Int.toNat v17) (pzero T_api_Harm)).1 == (1 : Int)) = true then
        (damage_Apply_1 (IntKind.wrap .u8 (List.getD v15 (Int.toNat v17) (pzero T_api_Harm)).2.2.1)).bind fun (r8 : (Int)) =>
        gd (0 ≤ (List.getD v15 (Int.toNat v17) (pzero T_api_Harm)).2.1) <|
        gd ((List.getD v15 (Int.toNat v17) (pzero T_api_Harm)).2.1 < (Int.ofNat v0n)) <|
        damage_do_byte_c3 v0o v0n v15 v16 (IntKind.wrap .i64 (v17 + (1 : Int))) (List.set h8 (v0o + (Int.toNat (List.getD v15 (Int.toNat v17) (pzero T_api_Harm)).2.1)) r8)
      else
        if ((List.getD v15 (Int.toNat v17) (pzero T_api_Harm)).1 == (2 : Int)) = true then
          (slices_Delete_u8 (List.take v0n (List.drop v0o h8)) (List.getD v15 (Int.toNat v17) (pzero T_api_Harm)).2.1 (IntKind.wrap .i64 ((List.getD v15 (Int.toNat v17) (pzero T_api_Harm)).2.1 + (List.getD v15 (Int.toNat v17) (pzero T_api_Harm)).2.2.1))).bind fun (r9 : (List Int)) =>
          damage_do_byte_c1 v15 v16 (IntKind.wrap .i64 (v17 + (1 : Int))) r9
        else
          if ((List.getD v15 (Int.toNat v17) (pzero T_api_Harm)).1 == (3 : Int)) = true then
            damage_do_byte_c4 v0o v0n v15 v16 v17 (List.getD v15 (Int.toNat v17) (pzero T_api_Harm)).2.2.2.1 (Int.ofNat (List.length (List.getD v15 (Int.toNat v17) (pzero T_api_Harm)).2.2.2.1)) (0 : Int) h8 (List.getD v15 (Int.toNat v17) (pzero T_api_Harm)) []
          else
            if ((List.getD v15 (Int.toNat v17) (pzero T_api_Harm)).1 == (4 : Int)) = true then
              gd (0 ≤ (List.getD v15 (Int.toNat v17) (pzero T_api_Harm)).2.1) <|
              gd ((List.getD v15 (Int.toNat v17) (pzero T_api_Harm)).2.1 ≤ (Int.ofNat v0n)) <|
              damage_do_byte_c3 (v0o + 0) ((Int.toNat (List.getD v15 (Int.toNat v17) (pzero T_api_Harm)).2.1) - 0) v15 v16 (IntKind.wrap .i64 (v17 + (1 : Int))) h8
            else
              damage_do_byte_c3 v0o v0n v15 v16 (IntKind.wrap .i64 (v17 + (1 : Int))) h8
  else
    some ((List.take v0n (List.drop v0o h8)), (0 : Int))) := (FnI.sem_eq _).trans (by kernel_rfl)
theorem damage_do_byte_c4_eq (v0o : Nat) (v0n : Nat) (v15 : List D_api_Harm) (v16 : Int) (v17 : Int) (v53 : List Int) (v54 : Int) (v55 : Int) (h8 : List Int) (b9 : D_api_Harm) (h10 : List Int) : damage_do_byte_c4 v0o v0n v15 v16 v17 v53 v54 v55 h8 b9 h10 = (
  if (decide (v55 < v54)) = true then
    gd (0 ≤ v55) <|
    gd (v55 < (Int.ofNat (List.length v53))) <|
    (damage_Apply_1 (List.getD v53 (Int.toNat v55) (0 : Int))).bind fun (r10 : (Int)) =>
    gd ((List.length (h10 ++ [r10])) * 1 ≤ 140737488355328) <|
    damage_do_byte_c4 v0o v0n v15 v16 v17 v53 v54 (IntKind.wrap .i64 (v55 + (1 : Int))) h8 b9 (h10 ++ [r10])
  else
    (slices_Insert_u8 (List.take v0n (List.drop v0o h8)) b9.2.1 h10).bind fun (r11 : (List Int)) =>
    damage_do_byte_c1 v15 v16 (IntKind.wrap .i64 (v17 + (1 : Int))) r11) := (FnI.sem_eq _).trans (by kernel_rfl)
noncomputable def damage_do_byte_S (acc : List AV → Bool) : Summ Tryz.prog GT := damage_do_byte_I.summ mixed acc false false

/-! bitloft/damage.Apply -/
noncomputable def damage_Apply_I : FnI Tryz.prog GT := { f := 4, cuts := [], tab := [damage_Check_S (fun _ => true), damage_do_byte_S (fun _ => true)], fm := ⟨true, [.val (.slice (.int .u8)) [.pu], .val (.int .i64) []]⟩ }
noncomputable def damage_Apply (a0 : List Int) (a1 : List D_api_Harm) : Option (List Int × Int) := damage_Apply_I.call [(.sl (.int .u8) false a0), (.sl T_api_Harm false a1)] []
theorem damage_Apply_eq (a0 : List Int) (a1 : List D_api_Harm) : damage_Apply a0 a1 = (
  (damage_Check a1).bind fun (r1 : (Int)) =>
  if (r1 != (0 : Int)) = true then
    some ([], r1)
  else
    if (decide ((Int.ofNat (List.length a0)) > (50000 : Int))) = true then
      some ([], (4 : Int))
    else
      (damage_do_byte a0 a1).bind fun (r2 : (List Int × Int)) =>
      some (r2)) := (FnI.call_eq (by kernel_rfl)).trans (by kernel_rfl)
noncomputable def damage_Apply_S (acc : List AV → Bool) : Summ Tryz.prog GT := damage_Apply_I.summ mixed acc false false

/-! slices.Clone[[]int,int] -/
noncomputable def slices_Clone_int_int_I : FnI Tryz.prog GT := { f := 30, cuts := [], tab := [], fm := ⟨true, [.val (.slice (.int .i64)) [.nw]]⟩ }
noncomputable def slices_Clone_int_int (a0 : List Int) : Option (List Int) := slices_Clone_int_int_I.call [(.sl (.int .i64) false a0)] []
theorem slices_Clone_int_int_eq (a0 : List Int) : slices_Clone_int_int a0 = (
  anyv (fun (r1 : Bool) => r1 = true → a0 = []) fun (r1 : Bool) =>
  if r1 = true then
    some ([])
  else
    gd ((List.length ([] ++ a0)) * 8 ≤ 140737488355328) <|
    some ([] ++ a0)) := (FnI.call_eq (by kernel_rfl)).trans (by kernel_rfl)
noncomputable def slices_Clone_int_int_S (acc : List AV → Bool) : Summ Tryz.prog GT := slices_Clone_int_int_I.summ mixed acc false false

/-! bitloft/damage.Origins$1 -/
noncomputable def damage_Origins_1_I : FnI Tryz.prog GT := { f := 14, cuts := [], tab := [], fm := ⟨true, [.val (.int .i64) []]⟩ }
noncomputable def damage_Origins_1 (a0 : Int) : Option (Int) := damage_Origins_1_I.call [(.int .u8 a0)] []
theorem damage_Origins_1_eq (a0 : Int) : damage_Origins_1 a0 = (
  some (-1 : Int)) := (FnI.call_eq (by kernel_rfl)).trans (by kernel_rfl)
noncomputable def damage_Origins_1_S (acc : List AV → Bool) : Summ Tryz.prog GT := damage_Origins_1_I.summ mixed acc false false

/-! bitloft/damage.do[int] -/
noncomputable def damage_do_int_I : FnI Tryz.prog GT := { f := 13, cuts := [⟨(3, 3), [0, 2, 15, 16, 17], false, false⟩, ⟨(15, 9), [0, 2, 9, 10, 15, 16, 17, 53, 54, 55], false, false⟩], tab := [slices_Clone_int_int_S (fun _ => true), damage_possible_S (fun _ => true), damage_Origins_1_S (fun _ => true), slices_Delete_i64_S (fun _ => true), slices_Insert_i64_S (fun _ => true)], fm := ⟨true, [.val (.slice (.int .i64)) [.pu], .val (.int .i64) []]⟩ }
noncomputable def damage_do_int (a0 : List Int) (a1 : List D_api_Harm) : Option (List Int × Int) := damage_do_int_I.call [(.sl (.int .i64) false a0), (.sl T_api_Harm false a1), (.func 14 [])] []
noncomputable def damage_do_int_c1 (v15 : List D_api_Harm) (v16 : Int) (v17 : Int) (h8 : List Int) : Option (List Int × Int) := damage_do_int_I.sem ⟨[.code (cIn (cIn (cSnd (cFst (cSnd (cSnd (bodyOf Tryz.prog 13))))))), .inLoop (cIn (cIn (cSnd (cFst (cSnd (cSnd (bodyOf Tryz.prog 13))))))), .inBlock 0, .code (cSnd (cSnd (cSnd (bodyOf Tryz.prog 13))))], ⟨[(0, (.one (.ref (.int .i64) 8 0 (List.length h8) true))), (2, (.one (.func 14 []))), (15, (.one (.sl T_api_Harm false v15))), (16, (.one (.int .i64 v16))), (17, (.one (.int .i64 v17)))], [(8, some (.row (.int .i64) true h8))], 9⟩⟩
noncomputable def damage_do_int_c2 (v15 : List D_api_Harm) (v16 : Int) (v17 : Int) (v53 : List Int) (v54 : Int) (v55 : Int) (h8 : List Int) (b9 : D_api_Harm) (h10 : List Int) : Option (List Int × Int) := damage_do_int_I.sem ⟨[.code (cIn (cIn (cSnd (cFst (cSnd (cThn (cSnd (cEls (cSnd (cEls (cSnd (cIn (cSnd (cSnd (cSnd (cIn (cFst (cSnd (cSnd (cIn (cIn (cSnd (cFst (cSnd (cSnd (bodyOf Tryz.prog 13)))))))))))))))))))))))))), .inLoop (cIn (cIn (cSnd (cFst (cSnd (cThn (cSnd (cEls (cSnd (cEls (cSnd (cIn (cSnd (cSnd (cSnd (cIn (cFst (cSnd (cSnd (cIn (cIn (cSnd (cFst (cSnd (cSnd (bodyOf Tryz.prog 13)))))))))))))))))))))))))), .inBlock 3, .code (cSnd (cSnd (cThn (cSnd (cEls (cSnd (cEls (cSnd (cIn (cSnd (cSnd (cSnd (cIn (cFst (cSnd (cSnd (cIn (cIn (cSnd (cFst (cSnd (cSnd (bodyOf Tryz.prog 13))))))))))))))))))))))), .inBlock 2, .inBlock 1, .code (cSnd (cSnd (cSnd (cIn (cIn (cSnd (cFst (cSnd (cSnd (bodyOf Tryz.prog 13)))))))))), .inLoop (cIn (cIn (cSnd (cFst (cSnd (cSnd (bodyOf Tryz.prog 13))))))), .inBlock 0, .code (cSnd (cSnd (cSnd (bodyOf Tryz.prog 13))))], ⟨[(0, (.one (.ref (.int .i64) 8 0 (List.length h8) true))), (2, (.one (.func 14 []))), (9, (.one (.ptr T_api_Harm 9 []))), (10, (.one (.ref (.int .i64) 10 0 (List.length h10) true))), (15, (.one (.sl T_api_Harm false v15))), (16, (.one (.int .i64 v16))), (17, (.one (.int .i64 v17))), (53, (.one (.sl (.int .u8) false v53))), (54, (.one (.int .i64 v54))), (55, (.one (.int .i64 v55)))], [(8, some (.row (.int .i64) true h8)), (9, some (.box T_api_Harm (inj false T_api_Harm b9))), (10, some (.row (.int .i64) true h10))], 11⟩⟩
noncomputable def damage_do_int_c3 (v0o : Nat) (v0n : Nat) (v15 : List D_api_Harm) (v16 : Int) (v17 : Int) (h8 : List Int) : Option (List Int × Int) := damage_do_int_I.sem ⟨[.code (cIn (cIn (cSnd (cFst (cSnd (cSnd (bodyOf Tryz.prog 13))))))), .inLoop (cIn (cIn (cSnd (cFst (cSnd (cSnd (bodyOf Tryz.prog 13))))))), .inBlock 0, .code (cSnd (cSnd (cSnd (bodyOf Tryz.prog 13))))], ⟨[(0, (.one (.ref (.int .i64) 8 v0o v0n false))), (2, (.one (.func 14 []))), (15, (.one (.sl T_api_Harm false v15))), (16, (.one (.int .i64 v16))), (17, (.one (.int .i64 v17)))], [(8, some (.row (.int .i64) true h8))], 9⟩⟩
noncomputable def damage_do_int_c4 (v0o : Nat) (v0n : Nat) (v15 : List D_api_Harm) (v16 : Int) (v17 : Int) (v53 : List Int) (v54 : Int) (v55 : Int) (h8 : List Int) (b9 : D_api_Harm) (h10 : List Int) : Option (List Int × Int) := damage_do_int_I.sem ⟨[.code (cIn (cIn (cSnd (cFst (cSnd (cThn (cSnd (cEls (cSnd (cEls (cSnd (cIn (cSnd (cSnd (cSnd (cIn (cFst (cSnd (cSnd (cIn (cIn (cSnd (cFst (cSnd (cSnd (bodyOf Tryz.prog 13)))))))))))))))))))))))))), .inLoop (cIn (cIn (cSnd (cFst (cSnd (cThn (cSnd (cEls (cSnd (cEls (cSnd (cIn (cSnd (cSnd (cSnd (cIn (cFst (cSnd (cSnd (cIn (cIn (cSnd (cFst (cSnd (cSnd (bodyOf Tryz.prog 13)))))))))))))))))))))))))), .inBlock 3, .code (cSnd (cSnd (cThn (cSnd (cEls (cSnd (cEls (cSnd (cIn (cSnd (cSnd (cSnd (cIn (cFst (cSnd (cSnd (cIn (cIn (cSnd (cFst (cSnd (cSnd (bodyOf Tryz.prog 13))))))))))))))))))))))), .inBlock 2, .inBlock 1, .code (cSnd (cSnd (cSnd (cIn (cIn (cSnd (cFst (cSnd (cSnd (bodyOf Tryz.prog 13)))))))))), .inLoop (cIn (cIn (cSnd (cFst (cSnd (cSnd (bodyOf Tryz.prog 13))))))), .inBlock 0, .code (cSnd (cSnd (cSnd (bodyOf Tryz.prog 13))))], ⟨[(0, (.one (.ref (.int .i64) 8 v0o v0n false))), (2, (.one (.func 14 []))), (9, (.one (.ptr T_api_Harm 9 []))), (10, (.one (.ref (.int .i64) 10 0 (List.length h10) true))), (15, (.one (.sl T_api_Harm false v15))), (16, (.one (.int .i64 v16))), (17, (.one (.int .i64 v17))), (53, (.one (.sl (.int .u8) false v53))), (54, (.one (.int .i64 v54))), (55, (.one (.int .i64 v55)))], [(8, some (.row (.int .i64) true h8)), (9, some (.box T_api_Harm (inj false T_api_Harm b9))), (10, some (.row (.int .i64) true h10))], 11⟩⟩
theorem damage_do_int_eq (a0 : List Int) (a1 : List D_api_Harm) : damage_do_int a0 a1 = (
  (slices_Clone_int_int a0).bind fun (r1 : (List Int)) =>
  damage_do_int_c1 a1 (Int.ofNat (List.length a1)) (0 : Int) r1) := (FnI.call_eq (by kernel_rfl)).trans (by kernel_rfl)
theorem damage_do_int_c1_eq (v15 : List D_api_Harm) (v16 : Int) (v17 : Int) (h8 : List Int) : damage_do_int_c1 v15 v16 v17 h8 = (
  if (decide (v17 < v16)) = true then
    gd (0 ≤ v17) <|
    gd (v17 < (Int.ofNat (List.length v15))) <|
    (damage_possible (Int.ofNat (List.length h8)) (List.getD v15 (Int.toNat v17) (pzero T_api_Harm))).bind fun (r2 : (Bool)) =>
    if (not r2) = true then
      some ([], (16 : Int))
    else
      if ((List.getD v15 (Int.toNat v17) (pzero T_api_Harm)).1 == (1 : Int)) = true then
        (damage_Origins_1 (IntKind.wrap .u8 (List.getD v15 (Int.toNat v17) (pzero T_api_Harm)).2.2.1)).bind fun (r3 : (Int)) =>
        gd (0 ≤ (List.getD v15 (Int.toNat v17) (pzero T_api_Harm)).2.1) <|
        gd ((List.getD v15 (Int.toNat v17) (pzero T_api_Harm)).2.1 < (Int.ofNat (List.length h8))) <|
        damage_do_int_c1 v15 v16 (IntKind.wrap .i64 (v17 + (1 : Int))) (List.set h8 (0 + (Int.toNat (List.getD v15 (Int.toNat v17) (pzero T_api_Harm)).2.1)) r3)
      else
        if ((List.getD v15 (Int.toNat v17) (pzero T_api_Harm)).1 == (2 : Int)) = true then
          (slices_Delete_i64 h8 (List.getD v15 (Int.toNat v17) (pzero T_api_Harm)).2.1 (IntKind.wrap .i64 ((List.getD v15 (Int.toNat v17) (pzero T_api_Harm)).2.1 + (List.getD v15 (Int.toNat v17) (pzero T_api_Harm)).2.2.1))).bind fun (r4 : (List Int)) =>
          damage_do_int_c1 v15 v16 (IntKind.wrap .i64 (v17 + (1 : Int))) r4
        else
          if ((List.getD v15 (Int.toNat v17) (pzero T_api_Harm)).1 == (3 : Int)) = true then
            damage_do_int_c2 v15 v16 v17 (List.getD v15 (Int.toNat v17) (pzero T_api_Harm)).2.2.2.1 (Int.ofNat (List.length (List.getD v15 (Int.toNat v17) (pzero T_api_Harm)).2.2.2.1)) (0 : Int) h8 (List.getD v15 (Int.toNat v17) (pzero T_api_Harm)) []
          else
            if ((List.getD v15 (Int.toNat v17) (pzero T_api_Harm)).1 == (4 : Int)) = true then
              gd (0 ≤ (List.getD v15 (Int.toNat v17) (pzero T_api_Harm)).2.1) <|
              gd ((List.getD v15 (Int.toNat v17) (pzero T_api_Harm)).2.1 ≤ (Int.ofNat (List.length h8))) <|
              damage_do_int_c3 0 ((Int.toNat (List.getD v15 (Int.toNat v17) (pzero T_api_Harm)).2.1) - 0) v15 v16 (IntKind.wrap .i64 (v17 + (1 : Int))) h8
            else
              damage_do_int_c1 v15 v16 (IntKind.wrap .i64 (v17 + (1 : Int))) h8
  else
    some (h8, (0 : Int))) := (FnI.sem_eq _).trans (by kernel_rfl)
theorem damage_do_int_c2_eq (v15 : List D_api_Harm) (v16 : Int) (v17 : Int) (v53 : List Int) (v54 : Int) (v55 : Int) (h8 : List Int) (b9 : D_api_Harm) (h10 : List Int) : damage_do_int_c2 v15 v16 v17 v53 v54 v55 h8 b9 h10 = (
  if (decide (v55 < v54)) = true then
    gd (0 ≤ v55) <|
    gd (v55 < (Int.ofNat (List.length v53))) <|
    (damage_Origins_1 (List.getD v53 (Int.toNat v55) (0 : Int))).bind fun (r5 : (Int)) =>
    gd ((List.length (h10 ++ [r5])) * 8 ≤ 140737488355328) <|
    damage_do_int_c2 v15 v16 v17 v53 v54 (IntKind.wrap .i64 (v55 + (1 : Int))) h8 b9 (h10 ++ [r5])
  else
    (slices_Insert_i64 h8 b9.2.1 h10).bind fun (r6 : (List Int)) =>
    damage_do_int_c1 v15 v16 (IntKind.wrap .i64 (v17 + (1 : Int))) r6) := (FnI.sem_eq _).trans (by kernel_rfl)
theorem damage_do_int_c3_eq (v0o : Nat) (v0n : Nat) (v15 : List D_api_Harm) (v16 : Int) (v17 : Int) (h8 : List Int) : damage_do_int_c3 v0o v0n v15 v16 v17 h8 = (
  if (decide (v17 < v16)) = true then
    gd (0 ≤ v17) <|
    gd (v17 < (Int.ofNat (List.length v15))) <|
    (damage_possible (Int.ofNat v0n) (List.getD v15 (Int.toNat v17) (pzero T_api_Harm))).bind fun (r7 : (Bool)) =>
    if (not r7) = true then
      some ([], (16 : Int))
    else
      if ((List.getD v15 (Int.toNat v17) (pzero T_api_Harm)).1 == (1 : Int)) = true then
        (damage_Origins_1 (IntKind.wrap .u8 (List.getD v15 (Int.toNat v17) (pzero T_api_Harm)).2.2.1)).bind fun (r8 : (Int)) =>
        gd (0 ≤ (List.getD v15 (Int.toNat v17) (pzero T_api_Harm)).2.1) <|
        gd ((List.getD v15 (Int.toNat v17) (pzero T_api_Harm)).2.1 < (Int.ofNat v0n)) <|
        damage_do_int_c3 v0o v0n v15 v16 (IntKind.wrap .i64 (v17 + (1 : Int))) (List.set h8 (v0o + (Int.toNat (List.getD v15 (Int.toNat v17) (pzero T_api_Harm)).2.1)) r8)
      else
        if ((List.getD v15 (Int.toNat v17) (pzero T_api_Harm)).1 == (2 : Int)) = true then
          (slices_Delete_i64 (List.take v0n (List.drop v0o h8)) (List.getD v15 (Int.toNat v17) (pzero T_api_Harm)).2.1 (IntKind.wrap .i64 ((List.getD v15 (Int.toNat v17) (pzero T_api_Harm)).2.1 + (List.getD v15 (Int.toNat v17) (pzero T_api_Harm)).2.2.1))).bind fun (r9 : (List Int)) =>
          damage_do_int_c1 v15 v16 (IntKind.wrap .i64 (v17 + (1 : Int))) r9
        else
          if ((List.getD v15 (Int.toNat v17) (pzero T_api_Harm)).1 == (3 : Int)) = true then
            damage_do_int_c4 v0o v0n v15 v16 v17 (List.getD v15 (Int.toNat v17) (pzero T_api_Harm)).2.2.2.1 (Int.ofNat (List.length (List.getD v15 (Int.toNat v17) (pzero T_api_Harm)).2.2.2.1)) (0 : Int) h8 (List.getD v15 (Int.toNat v17) (pzero T_api_Harm)) []
          else
            if ((List.getD v15 (Int.toNat v17) (pzero T_api_Harm)).1 == (4 : Int)) = true then
              gd (0 ≤ (List.getD v15 (Int.toNat v17) (pzero T_api_Harm)).2.1) <|
              gd ((List.getD v15 (Int.toNat v17) (pzero T_api_Harm)).2.1 ≤ (Int.ofNat v0n)) <|
              damage_do_int_c3 (v0o + 0) ((Int.toNat (List.getD v15 (Int.toNat v17) (pzero T_api_Harm)).2.1) - 0) v15 v16 (IntKind.wrap .i64 (v17 + (1 : Int))) h8
            else
              damage_do_int_c3 v0o v0n v15 v16 (IntKind.wrap .i64 (v17 + (1 : Int))) h8
  else
    some ((List.take v0n (List.drop v0o h8)), (0 : Int))) := (FnI.sem_eq _).trans (by kernel_rfl)
theorem damage_do_int_c4_eq (v0o : Nat) (v0n : Nat) (v15 : List D_api_Harm) (v16 : Int) (v17 : Int) (v53 : List Int) (v54 : Int) (v55 : Int) (h8 : List Int) (b9 : D_api_Harm) (h10 : List Int) : damage_do_int_c4 v0o v0n v15 v16 v17 v53 v54 v55 h8 b9 h10 = (
  if (decide (v55 < v54)) = true then
    gd (0 ≤ v55) <|
    gd (v55 < (Int.ofNat (List.length v53))) <|
    (damage_Origins_1 (List.getD v53 (Int.toNat v55) (0 : Int))).bind fun (r10 : (Int)) =>
    gd ((List.length (h10 ++ [r10])) * 8 ≤ 140737488355328) <|
    damage_do_int_c4 v0o v0n v15 v16 v17 v53 v54 (IntKind.wrap .i64 (v55 + (1 : Int))) h8 b9 (h10 ++ [r10])
  else
    (slices_Insert_i64 (List.take v0n (List.drop v0o h8)) b9.2.1 h10).bind fun (r11 : (List Int)) =>
    damage_do_int_c1 v15 v16 (IntKind.wrap .i64 (v17 + (1 : Int))) r11) := (FnI.sem_eq _).trans (by kernel_rfl)
noncomputable def damage_do_int_S (acc : List AV → Bool) : Summ Tryz.prog GT := damage_do_int_I.summ mixed acc false false

/-! bitloft/damage.Origins -/
noncomputable def damage_Origins_I : FnI Tryz.prog GT := { f := 5, cuts := [⟨(8, 3), [1, 7, 23, 24], false, false⟩], tab := [damage_Check_S (fun _ => true), damage_do_int_S (fun _ => true)], fm := ⟨true, [.val (.slice (.int .i64)) [.pu], .val (.int .i64) []]⟩ }
noncomputable def damage_Origins (a0 : Int) (a1 : List D_api_Harm) : Option (List Int × Int) := damage_Origins_I.call [(.int .i64 a0), (.sl T_api_Harm false a1)] []
noncomputable def damage_Origins_c1 (v1 : List D_api_Harm) (v23 : Int) (v24 : Int) (h8 : List Int) : Option (List Int × Int) := damage_Origins_I.sem ⟨[.code (cIn (cIn (cSnd (cFst (cSnd (cSnd (cSnd (cSnd (bodyOf Tryz.prog 5))))))))), .inLoop (cIn (cIn (cSnd (cFst (cSnd (cSnd (cSnd (cSnd (bodyOf Tryz.prog 5))))))))), .inBlock 0, .code (cSnd (cSnd (cSnd (cSnd (cSnd (bodyOf Tryz.prog 5))))))], ⟨[(1, (.one (.sl T_api_Harm false v1))), (7, (.one (.ref (.int .i64) 8 0 (List.length h8) true))), (23, (.one (.int .i64 v23))), (24, (.one (.int .i64 v24)))], [(8, some (.row (.int .i64) true h8))], 9⟩⟩
theorem damage_Origins_eq (a0 : Int) (a1 : List D_api_Harm) : damage_Origins a0 a1 = (
  (damage_Check a1).bind fun (r1 : (Int)) =>
  if (r1 != (0 : Int)) = true then
    some ([], r1)
  else
    if (decide (a0 < (0 : Int))) = true then
      some ([], (2 : Int))
    else
      if (decide (a0 > (50000 : Int))) = true then
        some ([], (2 : Int))
      else
        gd (a0 = a0) <|
        gd (0 ≤ a0) <|
        gd (a0 * 8 ≤ 140737488355328) <|
        gd (a0 ≤ 9223372036854775807) <|
        damage_Origins_c1 a1 (Int.ofNat (List.length (List.replicate (Int.toNat a0) (0 : Int)))) (0 : Int) (List.replicate (Int.toNat a0) (0 : Int))) := (FnI.call_eq (by kernel_rfl)).trans (by kernel_rfl)
theorem damage_Origins_c1_eq (v1 : List D_api_Harm) (v23 : Int) (v24 : Int) (h8 : List Int) : damage_Origins_c1 v1 v23 v24 h8 = (
  if (decide (v24 < v23)) = true then
    gd (0 ≤ v24) <|
    gd (v24 < (Int.ofNat (List.length h8))) <|
    damage_Origins_c1 v1 v23 (IntKind.wrap .i64 (v24 + (1 : Int))) (List.set h8 (0 + (Int.toNat v24)) v24)
  else
    (damage_do_int h8 v1).bind fun (r2 : (List Int × Int)) =>
    some (r2)) := (FnI.sem_eq _).trans (by kernel_rfl)
noncomputable def damage_Origins_S (acc : List AV → Bool) : Summ Tryz.prog GT := damage_Origins_I.summ mixed acc false false

/-! slices.Index[[]int,int] -/
noncomputable def slices_Index_int_int_I : FnI Tryz.prog GT := { f := 33, cuts := [⟨(2, 3), [0, 1, 7, 8], false, false⟩], tab := [], fm := ⟨true, [.val (.int .i64) []]⟩ }
noncomputable def slices_Index_int_int (a0 : List Int) (a1 : Int) : Option (Int) := slices_Index_int_int_I.call [(.sl (.int .i64) false a0), (.int .i64 a1)] []
noncomputable def slices_Index_int_int_c1 (v0 : List Int) (v1 : Int) (v7 : Int) (v8 : Int) : Option (Int) := slices_Index_int_int_I.sem ⟨[.code (cIn (cIn (cSnd (cFst (cSnd (bodyOf Tryz.prog 33)))))), .inLoop (cIn (cIn (cSnd (cFst (cSnd (bodyOf Tryz.prog 33)))))), .inBlock 0, .code (cSnd (cSnd (bodyOf Tryz.prog 33)))], ⟨[(0, (.one (.sl (.int .i64) false v0))), (1, (.one (.int .i64 v1))), (7, (.one (.int .i64 v7))), (8, (.one (.int .i64 v8)))], [], 8⟩⟩
theorem slices_Index_int_int_eq (a0 : List Int) (a1 : Int) : slices_Index_int_int a0 a1 = (
  slices_Index_int_int_c1 a0 a1 (Int.ofNat (List.length a0)) (0 : Int)) := (FnI.call_eq (by kernel_rfl)).trans (by kernel_rfl)
theorem slices_Index_int_int_c1_eq (v0 : List Int) (v1 : Int) (v7 : Int) (v8 : Int) : slices_Index_int_int_c1 v0 v1 v7 v8 = (
  if (decide (v8 < v7)) = true then
    gd (0 ≤ v8) <|
    gd (v8 < (Int.ofNat (List.length v0))) <|
    if (v1 == (List.getD v0 (Int.toNat v8) (0 : Int))) = true then
      some (v8)
    else
      slices_Index_int_int_c1 v0 v1 v7 (IntKind.wrap .i64 (v8 + (1 : Int)))
  else
    some (-1 : Int)) := (FnI.sem_eq _).trans (by kernel_rfl)
noncomputable def slices_Index_int_int_S (acc : List AV → Bool) : Summ Tryz.prog GT := slices_Index_int_int_I.summ mixed acc false false

/-! bitloft/damage.left -/
noncomputable def damage_left_I : FnI Tryz.prog GT := { f := 15, cuts := [⟨(3, 3), [1, 5, 12, 13, 14], false, false⟩, ⟨(9, 8), [1, 5, 6, 7, 8, 9, 12, 13, 14, 40, 41, 42], false, false⟩], tab := [slices_Index_int_int_S (fun _ => true)], fm := ⟨true, [.val (.slice T_api_Piece) [.nw]]⟩ }
noncomputable def damage_left (a0 : List D_api_Piece) (a1 : List Int) : Option (List D_api_Piece) := damage_left_I.call [(.sl T_api_Piece false a0), (.sl (.int .i64) false a1)] []
noncomputable def damage_left_c1 (v1 : List Int) (v12 : List D_api_Piece) (v13 : Int) (v14 : Int) (h8 : List D_api_Piece) : Option (List D_api_Piece) := damage_left_I.sem ⟨[.code (cIn (cIn (cSnd (cFst (cSnd (cSnd (bodyOf Tryz.prog 15))))))), .inLoop (cIn (cIn (cSnd (cFst (cSnd (cSnd (bodyOf Tryz.prog 15))))))), .inBlock 0, .code (cSnd (cSnd (cSnd (bodyOf Tryz.prog 15))))], ⟨[(1, (.one (.sl (.int .i64) false v1))), (5, (.one (.ref T_api_Piece 8 0 (List.length h8) true))), (12, (.one (.sl T_api_Piece false v12))), (13, (.one (.int .i64 v13))), (14, (.one (.int .i64 v14)))], [(8, some (.row T_api_Piece true h8))], 9⟩⟩
noncomputable def damage_left_c2 (v1 : List Int) (v6 : Int) (v8 : Int) (v9 : Bool) (v12 : List D_api_Piece) (v13 : Int) (v14 : Int) (v40 : List Int) (v41 : Int) (v42 : Int) (h8 : List D_api_Piece) (b9 : D_api_Piece) : Option (List D_api_Piece) := damage_left_I.sem ⟨[.code (cIn (cIn (cSnd (cFst (cSnd (cSnd (cSnd (cSnd (cIn (cFst (cSnd (cSnd (cIn (cIn (cSnd (cFst (cSnd (cSnd (bodyOf Tryz.prog 15))))))))))))))))))), .inLoop (cIn (cIn (cSnd (cFst (cSnd (cSnd (cSnd (cSnd (cIn (cFst (cSnd (cSnd (cIn (cIn (cSnd (cFst (cSnd (cSnd (bodyOf Tryz.prog 15))))))))))))))))))), .inBlock 2, .code (cSnd (cSnd (cSnd (cSnd (cSnd (cIn (cFst (cSnd (cSnd (cIn (cIn (cSnd (cFst (cSnd (cSnd (bodyOf Tryz.prog 15)))))))))))))))), .inBlock 1, .code (cSnd (cSnd (cSnd (cIn (cIn (cSnd (cFst (cSnd (cSnd (bodyOf Tryz.prog 15)))))))))), .inLoop (cIn (cIn (cSnd (cFst (cSnd (cSnd (bodyOf Tryz.prog 15))))))), .inBlock 0, .code (cSnd (cSnd (cSnd (bodyOf Tryz.prog 15))))], ⟨[(1, (.one (.sl (.int .i64) false v1))), (5, (.one (.ref T_api_Piece 8 0 (List.length h8) true))), (6, (.one (.int .i64 v6))), (7, (.one (.ptr T_api_Piece 9 []))), (8, (.one (.int .i64 v8))), (9, (.one (.bool v9))), (12, (.one (.sl T_api_Piece false v12))), (13, (.one (.int .i64 v13))), (14, (.one (.int .i64 v14))), (40, (.one (.sl (.int .i64) false v40))), (41, (.one (.int .i64 v41))), (42, (.one (.int .i64 v42)))], [(8, some (.row T_api_Piece true h8)), (9, some (.box T_api_Piece (inj false T_api_Piece b9)))], 10⟩⟩
theorem damage_left_eq (a0 : List D_api_Piece) (a1 : List Int) : damage_left a0 a1 = (
  damage_left_c1 a1 a0 (Int.ofNat (List.length a0)) (0 : Int) []) := (FnI.call_eq (by kernel_rfl)).trans (by kernel_rfl)
theorem damage_left_c1_eq (v1 : List Int) (v12 : List D_api_Piece) (v13 : Int) (v14 : Int) (h8 : List D_api_Piece) : damage_left_c1 v1 v12 v13 v14 h8 = (
  if (decide (v14 < v13)) = true then
    gd (0 ≤ v14) <|
    gd (v14 < (Int.ofNat (List.length v12))) <|
    (slices_Index_int_int v1 (List.getD v12 (Int.toNat v14) (pzero T_api_Piece)).2.1).bind fun (r1 : (Int)) =>
    if (decide (r1 < (0 : Int))) = true then
      damage_left_c1 v1 v12 v13 (IntKind.wrap .i64 (v14 + (1 : Int))) h8
    else
      if (decide ((IntKind.wrap .i64 (r1 + (List.getD v12 (Int.toNat v14) (pzero T_api_Piece)).2.2.1)) > (Int.ofNat (List.length v1)))) = true then
        damage_left_c1 v1 v12 v13 (IntKind.wrap .i64 (v14 + (1 : Int))) h8
      else
        gd (0 ≤ r1) <|
        gd (r1 ≤ (IntKind.wrap .i64 (r1 + (List.getD v12 (Int.toNat v14) (pzero T_api_Piece)).2.2.1))) <|
        gd ((IntKind.wrap .i64 (r1 + (List.getD v12 (Int.toNat v14) (pzero T_api_Piece)).2.2.1)) ≤ (Int.ofNat (List.length v1))) <|
        damage_left_c2 v1 v14 r1 true v12 v13 v14 (List.take ((Int.toNat (IntKind.wrap .i64 (r1 + (List.getD v12 (Int.toNat v14) (pzero T_api_Piece)).2.2.1))) - (Int.toNat r1)) (List.drop (Int.toNat r1) v1)) (Int.ofNat (List.length (List.take ((Int.toNat (IntKind.wrap .i64 (r1 + (List.getD v12 (Int.toNat v14) (pzero T_api_Piece)).2.2.1))) - (Int.toNat r1)) (List.drop (Int.toNat r1) v1)))) (0 : Int) h8 (List.getD v12 (Int.toNat v14) (pzero T_api_Piece))
  else
    some (h8)) := (FnI.sem_eq _).trans (by kernel_rfl)
theorem damage_left_c2_eq (v1 : List Int) (v6 : Int) (v8 : Int) (v9 : Bool) (v12 : List D_api_Piece) (v13 : Int) (v14 : Int) (v40 : List Int) (v41 : Int) (v42 : Int) (h8 : List D_api_Piece) (b9 : D_api_Piece) : damage_left_c2 v1 v6 v8 v9 v12 v13 v14 v40 v41 v42 h8 b9 = (
  if (decide (v42 < v41)) = true then
    gd (0 ≤ v42) <|
    gd (v42 < (Int.ofNat (List.length v40))) <|
    if v9 = true then
      damage_left_c2 v1 v6 v8 ((List.getD v40 (Int.toNat v42) (0 : Int)) == (IntKind.wrap .i64 (b9.2.1 + v42))) v12 v13 v14 v40 v41 (IntKind.wrap .i64 (v42 + (1 : Int))) h8 b9
    else
      damage_left_c2 v1 v6 v8 false v12 v13 v14 v40 v41 (IntKind.wrap .i64 (v42 + (1 : Int))) h8 b9
  else
    if v9 = true then
      gd ((List.length (h8 ++ [(v6, (v8, (b9.2.2.1, ())))])) * 24 ≤ 140737488355328) <|
      damage_left_c1 v1 v12 v13 (IntKind.wrap .i64 (v14 + (1 : Int))) (h8 ++ [(v6, (v8, (b9.2.2.1, ())))])
    else
      damage_left_c1 v1 v12 v13 (IntKind.wrap .i64 (v14 + (1 : Int))) h8) := (FnI.sem_eq _).trans (by kernel_rfl)
noncomputable def damage_left_S (acc : List AV → Bool) : Summ Tryz.prog GT := damage_left_I.summ mixed acc false false

/-! bitloft/damage.Survivors -/
noncomputable def damage_Survivors_I : FnI Tryz.prog GT := { f := 6, cuts := [⟨(7, 3), [0, 1, 8, 24, 25, 26], false, false⟩], tab := [damage_Origins_S (fun _ => true), damage_left_S (fun _ => true)], fm := ⟨true, [.val (.slice T_api_Piece) [.nw], .val (.int .i64) []]⟩ }
noncomputable def damage_Survivors (a0 : List D_api_Piece) (a1 : Int) (a2 : List D_api_Harm) : Option (List D_api_Piece × Int) := damage_Survivors_I.call [(.sl T_api_Piece false a0), (.int .i64 a1), (.sl T_api_Harm false a2)] []
noncomputable def damage_Survivors_c1 (v0 : List D_api_Piece) (v1 : Int) (v8 : List Int) (v24 : List D_api_Piece) (v25 : Int) (v26 : Int) : Option (List D_api_Piece × Int) := damage_Survivors_I.sem ⟨[.code (cIn (cIn (cSnd (cFst (cSnd (cSnd (cSnd (cSnd (bodyOf Tryz.prog 6))))))))), .inLoop (cIn (cIn (cSnd (cFst (cSnd (cSnd (cSnd (cSnd (bodyOf Tryz.prog 6))))))))), .inBlock 0, .code (cSnd (cSnd (cSnd (cSnd (cSnd (bodyOf Tryz.prog 6))))))], ⟨[(0, (.one (.sl T_api_Piece false v0))), (1, (.one (.int .i64 v1))), (8, (.one (.sl (.int .i64) true v8))), (24, (.one (.sl T_api_Piece false v24))), (25, (.one (.int .i64 v25))), (26, (.one (.int .i64 v26)))], [], 8⟩⟩
theorem damage_Survivors_eq (a0 : List D_api_Piece) (a1 : Int) (a2 : List D_api_Harm) : damage_Survivors a0 a1 a2 = (
  (damage_Origins a1 a2).bind fun (r1 : (List Int × Int)) =>
  if (r1.2 != (0 : Int)) = true then
    some ([], r1.2)
  else
    if (decide ((Int.ofNat (List.length a0)) > (600 : Int))) = true then
      some ([], (4 : Int))
    else
      damage_Survivors_c1 a0 a1 r1.1 a0 (Int.ofNat (List.length a0)) (0 : Int)) := (FnI.call_eq (by kernel_rfl)).trans (by kernel_rfl)
theorem damage_Survivors_c1_eq (v0 : List D_api_Piece) (v1 : Int) (v8 : List Int) (v24 : List D_api_Piece) (v25 : Int) (v26 : Int) : damage_Survivors_c1 v0 v1 v8 v24 v25 v26 = (
  if (decide (v26 < v25)) = true then
    gd (0 ≤ v26) <|
    gd (v26 < (Int.ofNat (List.length v24))) <|
    if (decide ((List.getD v24 (Int.toNat v26) (pzero T_api_Piece)).2.1 < (0 : Int))) = true then
      some ([], (8 : Int))
    else
      if (decide ((List.getD v24 (Int.toNat v26) (pzero T_api_Piece)).2.2.1 < (1 : Int))) = true then
        some ([], (8 : Int))
      else
        if (decide ((List.getD v24 (Int.toNat v26) (pzero T_api_Piece)).2.1 > v1)) = true then
          some ([], (8 : Int))
        else
          if (decide ((List.getD v24 (Int.toNat v26) (pzero T_api_Piece)).2.2.1 > (IntKind.wrap .i64 (v1 - (List.getD v24 (Int.toNat v26) (pzero T_api_Piece)).2.1)))) = true then
            some ([], (8 : Int))
          else
            damage_Survivors_c1 v0 v1 v8 v24 v25 (IntKind.wrap .i64 (v26 + (1 : Int)))
  else
    (damage_left v0 v8).bind fun (r2 : (List D_api_Piece)) =>
    some (r2, (0 : Int))) := (FnI.sem_eq _).trans (by kernel_rfl)
noncomputable def damage_Survivors_S (acc : List AV → Bool) : Summ Tryz.prog GT := damage_Survivors_I.summ mixed acc false false

/-! bytes.Equal -/
noncomputable def bytes_Equal_I : FnI Tryz.prog GT := { f := 72, cuts := [], tab := [], fm := ⟨true, [.val .bool []]⟩ }
noncomputable def bytes_Equal (a0 : List Int) (a1 : List Int) : Option (Bool) := bytes_Equal_I.call [(.sl (.int .u8) false a0), (.sl (.int .u8) false a1)] []
theorem bytes_Equal_eq (a0 : List Int) (a1 : List Int) : bytes_Equal a0 a1 = (
  some ((ByteArray.toList (toStr a0)) == (ByteArray.toList (toStr a1)))) := (FnI.call_eq (by kernel_rfl)).trans (by kernel_rfl)
noncomputable def bytes_Equal_S (acc : List AV → Bool) : Summ Tryz.prog GT := bytes_Equal_I.summ mixed acc false false

/-! bytes.HasPrefix -/
noncomputable def bytes_HasPrefix_I : FnI Tryz.prog GT := { f := 58, cuts := [], tab := [bytes_Equal_S (fun _ => true)], fm := ⟨true, [.val .bool []]⟩ }
noncomputable def bytes_HasPrefix (a0 : List Int) (a1 : List Int) : Option (Bool) := bytes_HasPrefix_I.call [(.sl (.int .u8) false a0), (.sl (.int .u8) false a1)] []
theorem bytes_HasPrefix_eq (a0 : List Int) (a1 : List Int) : bytes_HasPrefix a0 a1 = (
  if (decide ((Int.ofNat (List.length a0)) ≥ (Int.ofNat (List.length a1)))) = true then
    gd (0 ≤ (Int.ofNat (List.length a1))) <|
    gd ((Int.ofNat (List.length a1)) ≤ (Int.ofNat (List.length a0))) <|
    (bytes_Equal (List.take (List.length a1) a0) a1).bind fun (r1 : (Bool)) =>
    some (r1)
  else
    some (false)) := (FnI.call_eq (by kernel_rfl)).trans (by kernel_rfl)
noncomputable def bytes_HasPrefix_S (acc : List AV → Bool) : Summ Tryz.prog GT := bytes_HasPrefix_I.summ mixed acc false false

/-! bitloft/pack.Check -/
noncomputable def pack_Check_I : FnI Tryz.prog GT := { f := 49, cuts := [], tab := [], fm := ⟨true, [.val (.int .i64) []]⟩ }
noncomputable def pack_Check (a0 : D_api_Settings) : Option (Int) := pack_Check_I.call [(.agg T_api_Settings (inj false T_api_Settings a0))] []
theorem pack_Check_eq (a0 : D_api_Settings) : pack_Check a0 = (
  if (decide (a0.1 < (0 : Int))) = true then
    some (2 : Int)
  else
    if (decide (a0.1 > (7 : Int))) = true then
      some (2 : Int)
    else
      if (decide (a0.2.1 < (16 : Int))) = true then
        some (2 : Int)
      else
        if (decide (a0.2.1 > (4096 : Int))) = true then
          some (2 : Int)
        else
          some (0 : Int)) := (FnI.call_eq (by kernel_rfl)).trans (by kernel_rfl)
noncomputable def pack_Check_S (acc : List AV → Bool) : Summ Tryz.prog GT := pack_Check_I.summ mixed acc false false

/-! (*bitloft/member.source).take -/
noncomputable def member_source_take_I : FnI Tryz.prog GT := { f := 81, cuts := [], tab := [], fm := ⟨false, [.val (.slice (.int .u8)) [.pu], .err 26 .i64, .box 0 T_member_reader [.pu]]⟩ }
noncomputable def member_source_take (a1 : Int) (b0 : D_member_reader) : Option (List Int × Option Int × D_member_reader) := member_source_take_I.call [(.ptr T_member_source 0 [.fst]), (.int .i64 a1)] [(0, (.box T_member_reader (inj false T_member_reader b0)))]
theorem member_source_take_eq (a1 : Int) (b0 : D_member_reader) : member_source_take a1 b0 = (
  if (decide ((IntKind.wrap .i64 ((Int.ofNat (List.length b0.1.1)) - b0.1.2.1)) < a1)) = true then
    some ([], ((some (18 : Int)), b0))
  else
    gd (0 ≤ (IntKind.wrap .i64 ((IntKind.wrap .i64 (b0.1.2.1 + a1)) - a1))) <|
    gd ((IntKind.wrap .i64 ((IntKind.wrap .i64 (b0.1.2.1 + a1)) - a1)) ≤ (IntKind.wrap .i64 (b0.1.2.1 + a1))) <|
    gd ((IntKind.wrap .i64 (b0.1.2.1 + a1)) ≤ (Int.ofNat (List.length b0.1.1))) <|
    some ((List.take ((Int.toNat (IntKind.wrap .i64 (b0.1.2.1 + a1))) - (Int.toNat (IntKind.wrap .i64 ((IntKind.wrap .i64 (b0.1.2.1 + a1)) - a1)))) (List.drop (Int.toNat (IntKind.wrap .i64 ((IntKind.wrap .i64 (b0.1.2.1 + a1)) - a1))) b0.1.1)), (none, ((b0.1.1, ((IntKind.wrap .i64 (b0.1.2.1 + a1)), b0.1.2.2)), b0.2)))) := (FnI.call_eq (by kernel_rfl)).trans (by kernel_rfl)
noncomputable def member_source_take_S (acc : List AV → Bool) : Summ Tryz.prog GT := member_source_take_I.summ mixed acc false false

/-! (*bitloft/member.reader).record -/
noncomputable def member_reader_record_I : FnI Tryz.prog GT := { f := 73, cuts := [], tab := [member_source_take_S (fun _ => true)], fm := ⟨false, [.val T_api_Record [], .err 26 .i64, .box 0 T_member_reader [.pu]]⟩ }
noncomputable def member_reader_record (b0 : D_member_reader) : Option (D_api_Record × Option Int × D_member_reader) := member_reader_record_I.call [(.ptr T_member_reader 0 [])] [(0, (.box T_member_reader (inj false T_member_reader b0)))]
theorem member_reader_record_eq (b0 : D_member_reader) : member_reader_record b0 = (
  (member_source_take (1 : Int) b0).bind fun (r1 : (List Int × Option Int × D_member_reader)) =>
  if (not (Option.isNone r1.2.1)) = true then
    some ((ByteArray.empty, ((0 : Int), ((List.replicate 20 (0 : Int)), ()))), r1.2)
  else
    gd (0 ≤ (0 : Int)) <|
    gd ((0 : Int) < (Int.ofNat (List.length r1.1))) <|
    (member_source_take (IntKind.wrap .i64 ((IntKind.wrap .i64 (List.getD r1.1 0 (0 : Int))) + (22 : Int))) r1.2.2).bind fun (r2 : (List Int × Option Int × D_member_reader)) =>
    if (not (Option.isNone r2.2.1)) = true then
      some ((ByteArray.empty, ((0 : Int), ((List.replicate 20 (0 : Int)), ()))), r2.2)
    else
      gd (0 ≤ (0 : Int)) <|
      gd ((0 : Int) < (Int.ofNat (List.length r1.1))) <|
      gd (0 ≤ (IntKind.wrap .i64 (List.getD r1.1 0 (0 : Int)))) <|
      gd ((IntKind.wrap .i64 (List.getD r1.1 0 (0 : Int))) ≤ (Int.ofNat (List.length r2.1))) <|
      gd (0 ≤ (IntKind.wrap .i64 (List.getD r1.1 0 (0 : Int)))) <|
      gd ((IntKind.wrap .i64 (List.getD r1.1 0 (0 : Int))) < (Int.ofNat (List.length r2.1))) <|
      gd (0 ≤ (8 : Int)) <|
      gd (0 ≤ (IntKind.wrap .i64 ((IntKind.wrap .i64 (List.getD r1.1 0 (0 : Int))) + (1 : Int)))) <|
      gd ((IntKind.wrap .i64 ((IntKind.wrap .i64 (List.getD r1.1 0 (0 : Int))) + (1 : Int))) < (Int.ofNat (List.length r2.1))) <|
      gd (0 ≤ (IntKind.wrap .i64 ((IntKind.wrap .i64 (List.getD r1.1 0 (0 : Int))) + (2 : Int)))) <|
      gd ((IntKind.wrap .i64 ((IntKind.wrap .i64 (List.getD r1.1 0 (0 : Int))) + (2 : Int))) ≤ (Int.ofNat (List.length r2.1))) <|
      some (((toStr (List.take (Int.toNat (IntKind.wrap .i64 (List.getD r1.1 0 (0 : Int)))) r2.1)), ((bitsOr .i64 (IntKind.wrap .i64 ((IntKind.wrap .i64 (List.getD r2.1 (Int.toNat (IntKind.wrap .i64 (List.getD r1.1 0 (0 : Int)))) (0 : Int))) * (256 : Int))) (IntKind.wrap .i64 (List.getD r2.1 (Int.toNat (IntKind.wrap .i64 ((IntKind.wrap .i64 (List.getD r1.1 0 (0 : Int))) + (1 : Int)))) (0 : Int)))), ((splice (List.replicate 20 (0 : Int)) 0 (List.take (min (List.length (List.drop (Int.toNat (IntKind.wrap .i64 ((IntKind.wrap .i64 (List.getD r1.1 0 (0 : Int))) + (2 : Int)))) r2.1)) 20) (List.drop (Int.toNat (IntKind.wrap .i64 ((IntKind.wrap .i64 (List.getD r1.1 0 (0 : Int))) + (2 : Int)))) r2.1))), ()))), (none, r2.2.2))) := (FnI.call_eq (by kernel_rfl)).trans (by kernel_rfl)
noncomputable def member_reader_record_S (acc : List AV → Bool) : Summ Tryz.prog GT := member_reader_record_I.summ mixed acc false false

/-! bitloft/member.isName -/
noncomputable def member_isName_I : FnI Tryz.prog GT := { f := 64, cuts := [⟨(2, 3), [0, 5, 6], false, false⟩], tab := [], fm := ⟨true, [.val .bool []]⟩ }
noncomputable def member_isName (a0 : ByteArray) : Option (Bool) := member_isName_I.call [(.str a0)] []
noncomputable def member_isName_c1 (v0 : ByteArray) (v5 : Int) (v6 : Int) : Option (Bool) := member_isName_I.sem ⟨[.code (cIn (cIn (cSnd (cFst (cSnd (bodyOf Tryz.prog 64)))))), .inLoop (cIn (cIn (cSnd (cFst (cSnd (bodyOf Tryz.prog 64)))))), .inBlock 0, .code (cSnd (cSnd (bodyOf Tryz.prog 64)))], ⟨[(0, (.one (.str v0))), (5, (.one (.int .i64 v5))), (6, (.one (.int .i64 v6)))], [], 8⟩⟩
theorem member_isName_eq (a0 : ByteArray) : member_isName a0 = (
  member_isName_c1 a0 (Int.ofNat (ByteArray.size a0)) (0 : Int)) := (FnI.call_eq (by kernel_rfl)).trans (by kernel_rfl)
theorem member_isName_c1_eq (v0 : ByteArray) (v5 : Int) (v6 : Int) : member_isName_c1 v0 v5 v6 = (
  if (decide (v6 < v5)) = true then
    gd (0 ≤ v6) <|
    gd (v6 < (v0.size : Int)) <|
    if (decide ((btAt v0 (Int.toNat v6)) ≤ (32 : Int))) = true then
      some (false)
    else
      gd (0 ≤ v6) <|
      gd (v6 < (v0.size : Int)) <|
      if (decide ((btAt v0 (Int.toNat v6)) > (126 : Int))) = true then
        some (false)
      else
        member_isName_c1 v0 v5 (IntKind.wrap .i64 (v6 + (1 : Int)))
  else
    if (decide ((Int.ofNat (ByteArray.size v0)) > (0 : Int))) = true then
      some (decide ((Int.ofNat (ByteArray.size v0)) ≤ (40 : Int)))
    else
      some (false)) := (FnI.sem_eq _).trans (by kernel_rfl)
noncomputable def member_isName_S (acc : List AV → Bool) : Summ Tryz.prog GT := member_isName_I.summ mixed acc false false

/-! bitloft/sha.pad -/
noncomputable def sha_pad_I : FnI Tryz.prog GT := { f := 68, cuts := [⟨(3, 3), [0, 3, 4], false, false⟩], tab := [], fm := ⟨true, [.val (.slice (.int .u8)) [.nw]]⟩ }
noncomputable def sha_pad (a0 : Int) : Option (List Int) := sha_pad_I.call [(.int .i64 a0)] []
noncomputable def sha_pad_c1 (v0 : Int) (v4 : Int) (h8 : List Int) : Option (List Int) := sha_pad_I.sem ⟨[.code (cIn (cIn (cSnd (cFst (cSnd (cSnd (bodyOf Tryz.prog 68))))))), .inLoop (cIn (cIn (cSnd (cFst (cSnd (cSnd (bodyOf Tryz.prog 68))))))), .inBlock 0, .code (cSnd (cSnd (cSnd (bodyOf Tryz.prog 68))))], ⟨[(0, (.one (.int .i64 v0))), (3, (.one (.ref (.int .u8) 8 0 (List.length h8) true))), (4, (.one (.int .i64 v4)))], [(8, some (.row (.int .u8) true h8))], 9⟩⟩
theorem sha_pad_eq (a0 : Int) : sha_pad a0 = (
  gd ((64 : Int) ≠ 0) <|
  gd ((64 : Int) ≠ 0) <|
  gd (0 ≤ (Int.tmod (IntKind.wrap .i64 ((119 : Int) - (Int.tmod a0 (64 : Int)))) (64 : Int))) <|
  gd ((Int.tmod (IntKind.wrap .i64 ((119 : Int) - (Int.tmod a0 (64 : Int)))) (64 : Int)) * 1 ≤ 140737488355328) <|
  gd ((Int.tmod (IntKind.wrap .i64 ((119 : Int) - (Int.tmod a0 (64 : Int)))) (64 : Int)) ≤ 9223372036854775807) <|
  gd ((List.length ([(128 : Int)] ++ (List.replicate (Int.toNat (Int.tmod (IntKind.wrap .i64 ((119 : Int) - (Int.tmod a0 (64 : Int)))) (64 : Int))) (0 : Int)))) * 1 ≤ 140737488355328) <|
  sha_pad_c1 a0 (56 : Int) ([(128 : Int)] ++ (List.replicate (Int.toNat (Int.tmod (IntKind.wrap .i64 ((119 : Int) - (Int.tmod a0 (64 : Int)))) (64 : Int))) (0 : Int)))) := (FnI.call_eq (by kernel_rfl)).trans (by kernel_rfl)
theorem sha_pad_c1_eq (v0 : Int) (v4 : Int) (h8 : List Int) : sha_pad_c1 v0 v4 h8 = (
  if (decide (v4 ≥ (0 : Int))) = true then
    gd (0 ≤ v4) <|
    gd ((List.length (h8 ++ [(IntKind.wrap .u8 (shrBy .u64 (IntKind.wrap .u64 ((IntKind.wrap .u64 v0) * (8 : Int))) v4))])) * 1 ≤ 140737488355328) <|
    sha_pad_c1 v0 (IntKind.wrap .i64 (v4 - (8 : Int))) (h8 ++ [(IntKind.wrap .u8 (shrBy .u64 (IntKind.wrap .u64 ((IntKind.wrap .u64 v0) * (8 : Int))) v4))])
  else
    some (h8)) := (FnI.sem_eq _).trans (by kernel_rfl)
noncomputable def sha_pad_S (acc : List AV → Bool) : Summ Tryz.prog GT := sha_pad_I.summ mixed acc false false

/-! slices.Grow[[]byte,byte] -/
noncomputable def slices_Grow_byte_byte_I : FnI Tryz.prog GT := { f := 78, cuts := [], tab := [], fm := ⟨true, [.part (.int .u8)]⟩ }
noncomputable def slices_Grow_byte_byte (a1 : Int) : Option (List Int × Nat × Nat) := slices_Grow_byte_byte_I.call [.nil, (.int .i64 a1)] []
theorem slices_Grow_byte_byte_eq (a1 : Int) : slices_Grow_byte_byte a1 = (
  if (decide (a1 < (0 : Int))) = true then
    none
  else
    if (decide ((IntKind.wrap .i64 (a1 - (0 : Int))) > (0 : Int))) = true then
      gd (0 ≤ (0 : Int)) <|
      gd ((0 : Int) ≤ (0 : Int)) <|
      gd (0 ≤ (IntKind.wrap .i64 (a1 - (0 : Int)))) <|
      gd ((IntKind.wrap .i64 (a1 - (0 : Int))) * 1 ≤ 140737488355328) <|
      gd ((IntKind.wrap .i64 (a1 - (0 : Int))) ≤ 9223372036854775807) <|
      gd ((List.length (List.replicate (Int.toNat (IntKind.wrap .i64 (a1 - (0 : Int)))) (0 : Int))) * 1 ≤ 140737488355328) <|
      gd (0 ≤ (0 : Int)) <|
      gd ((0 : Int) ≤ (Int.ofNat (List.length (List.replicate (Int.toNat (IntKind.wrap .i64 (a1 - (0 : Int)))) (0 : Int))))) <|
      some ((List.replicate (Int.toNat (IntKind.wrap .i64 (a1 - (0 : Int)))) (0 : Int)), (0, 0))
    else
      some ([], (0, 0))) := (FnI.call_eq (by kernel_rfl)).trans (by kernel_rfl)
noncomputable def slices_Grow_byte_byte_S (acc : List AV → Bool) : Summ Tryz.prog GT := slices_Grow_byte_byte_I.summ mixed acc false true

/-! slices.Concat[[]byte,byte] -/
noncomputable def slices_Concat_byte_byte_I : FnI Tryz.prog GT := { f := 67, cuts := [⟨(3, 3), [0, 3, 9, 10, 11], false, false⟩, ⟨(11, 3), [6, 25, 26, 27], false, false⟩], tab := [slices_Grow_byte_byte_S (fun _ => true)], fm := ⟨true, [.val (.slice (.int .u8)) [.pu]]⟩ }
noncomputable def slices_Concat_byte_byte (a0 : List (List Int)) : Option (List Int) := slices_Concat_byte_byte_I.call [(.sl (.slice (.int .u8)) false a0)] []
noncomputable def slices_Concat_byte_byte_c1 (v0 : List (List Int)) (v3 : Int) (v9 : List (List Int)) (v10 : Int) (v11 : Int) : Option (List Int) := slices_Concat_byte_byte_I.sem ⟨[.code (cIn (cIn (cSnd (cFst (cSnd (cSnd (bodyOf Tryz.prog 67))))))), .inLoop (cIn (cIn (cSnd (cFst (cSnd (cSnd (bodyOf Tryz.prog 67))))))), .inBlock 0, .code (cSnd (cSnd (cSnd (bodyOf Tryz.prog 67))))], ⟨[(0, (.one (.sl (.slice (.int .u8)) false v0))), (3, (.one (.int .i64 v3))), (9, (.one (.sl (.slice (.int .u8)) false v9))), (10, (.one (.int .i64 v10))), (11, (.one (.int .i64 v11)))], [], 8⟩⟩
noncomputable def slices_Concat_byte_byte_c2 (v6o : Nat) (v6n : Nat) (v25 : List (List Int)) (v26 : Int) (v27 : Int) (h8 : List Int) : Option (List Int) := slices_Concat_byte_byte_I.sem ⟨[.code (cIn (cIn (cSnd (cFst (cSnd (cSnd (cSnd (cSnd (bodyOf Tryz.prog 67))))))))), .inLoop (cIn (cIn (cSnd (cFst (cSnd (cSnd (cSnd (cSnd (bodyOf Tryz.prog 67))))))))), .inBlock 2, .code (cSnd (cSnd (cSnd (cSnd (cSnd (bodyOf Tryz.prog 67))))))], ⟨[(6, (.one (.ref (.int .u8) 8 v6o v6n false))), (25, (.one (.sl (.slice (.int .u8)) false v25))), (26, (.one (.int .i64 v26))), (27, (.one (.int .i64 v27)))], [(8, some (.row (.int .u8) true h8))], 9⟩⟩
noncomputable def slices_Concat_byte_byte_c3 (v25 : List (List Int)) (v26 : Int) (v27 : Int) (h8 : List Int) : Option (List Int) := slices_Concat_byte_byte_I.sem ⟨[.code (cIn (cIn (cSnd (cFst (cSnd (cSnd (cSnd (cSnd (bodyOf Tryz.prog 67))))))))), .inLoop (cIn (cIn (cSnd (cFst (cSnd (cSnd (cSnd (cSnd (bodyOf Tryz.prog 67))))))))), .inBlock 2, .code (cSnd (cSnd (cSnd (cSnd (cSnd (bodyOf Tryz.prog 67))))))], ⟨[(6, (.one (.ref (.int .u8) 8 0 (List.length h8) true))), (25, (.one (.sl (.slice (.int .u8)) false v25))), (26, (.one (.int .i64 v26))), (27, (.one (.int .i64 v27)))], [(8, some (.row (.int .u8) true h8))], 9⟩⟩
theorem slices_Concat_byte_byte_eq (a0 : List (List Int)) : slices_Concat_byte_byte a0 = (
  slices_Concat_byte_byte_c1 a0 (0 : Int) a0 (Int.ofNat (List.length a0)) (0 : Int)) := (FnI.call_eq (by kernel_rfl)).trans (by kernel_rfl)
theorem slices_Concat_byte_byte_c1_eq (v0 : List (List Int)) (v3 : Int) (v9 : List (List Int)) (v10 : Int) (v11 : Int) : slices_Concat_byte_byte_c1 v0 v3 v9 v10 v11 = (
  if (decide (v11 < v10)) = true then
    gd (0 ≤ v11) <|
    gd (v11 < (Int.ofNat (List.length v9))) <|
    if (decide ((IntKind.wrap .i64 (v3 + (Int.ofNat (List.length (List.getD v9 (Int.toNat v11) []))))) < (0 : Int))) = true then
      none
    else
      slices_Concat_byte_byte_c1 v0 (IntKind.wrap .i64 (v3 + (Int.ofNat (List.length (List.getD v9 (Int.toNat v11) []))))) v9 v10 (IntKind.wrap .i64 (v11 + (1 : Int)))
  else
    (slices_Grow_byte_byte v3).bind fun (r1 : (List Int × Nat × Nat)) =>
    slices_Concat_byte_byte_c2 r1.2.1 r1.2.2 v0 (Int.ofNat (List.length v0)) (0 : Int) r1.1) := (FnI.sem_eq _).trans (by kernel_rfl)
theorem slices_Concat_byte_byte_c2_eq (v6o : Nat) (v6n : Nat) (v25 : List (List Int)) (v26 : Int) (v27 : Int) (h8 : List Int) : slices_Concat_byte_byte_c2 v6o v6n v25 v26 v27 h8 = (
  if (decide (v27 < v26)) = true then
    gd (0 ≤ v27) <|
    gd (v27 < (Int.ofNat (List.length v25))) <|
    gd ((List.length ((List.take v6n (List.drop v6o h8)) ++ (List.getD v25 (Int.toNat v27) []))) * 1 ≤ 140737488355328) <|
    slices_Concat_byte_byte_c3 v25 v26 (IntKind.wrap .i64 (v27 + (1 : Int))) ((List.take v6n (List.drop v6o h8)) ++ (List.getD v25 (Int.toNat v27) []))
  else
    some (List.take v6n (List.drop v6o h8))) := (FnI.sem_eq _).trans (by kernel_rfl)
theorem slices_Concat_byte_byte_c3_eq (v25 : List (List Int)) (v26 : Int) (v27 : Int) (h8 : List Int) : slices_Concat_byte_byte_c3 v25 v26 v27 h8 = (
  if (decide (v27 < v26)) = true then
    gd (0 ≤ v27) <|
    gd (v27 < (Int.ofNat (List.length v25))) <|
    gd ((List.length (h8 ++ (List.getD v25 (Int.toNat v27) []))) * 1 ≤ 140737488355328) <|
    slices_Concat_byte_byte_c3 v25 v26 (IntKind.wrap .i64 (v27 + (1 : Int))) (h8 ++ (List.getD v25 (Int.toNat v27) []))
  else
    some (h8)) := (FnI.sem_eq _).trans (by kernel_rfl)
noncomputable def slices_Concat_byte_byte_S (acc : List AV → Bool) : Summ Tryz.prog GT := slices_Concat_byte_byte_I.summ mixed acc false false

/-! math/bits.RotateLeft32 -/
noncomputable def math_bits_RotateLeft32_I : FnI Tryz.prog GT := { f := 79, cuts := [], tab := [], fm := ⟨true, [.val (.int .u32) []]⟩ }
noncomputable def math_bits_RotateLeft32 (a0 : Int) (a1 : Int) : Option (Int) := math_bits_RotateLeft32_I.call [(.int .u32 a0), (.int .i64 a1)] []
theorem math_bits_RotateLeft32_eq (a0 : Int) (a1 : Int) : math_bits_RotateLeft32 a0 a1 = (
  gd (0 ≤ (bitsAnd .u64 (IntKind.wrap .u64 a1) (31 : Int))) <|
  gd (0 ≤ (IntKind.wrap .u64 ((32 : Int) - (bitsAnd .u64 (IntKind.wrap .u64 a1) (31 : Int))))) <|
  some (bitsOr .u32 (IntKind.wrap .u32 (shlBy .u32 a0 (bitsAnd .u64 (IntKind.wrap .u64 a1) (31 : Int)))) (shrBy .u32 a0 (IntKind.wrap .u64 ((32 : Int) - (bitsAnd .u64 (IntKind.wrap .u64 a1) (31 : Int))))))) := (FnI.call_eq (by kernel_rfl)).trans (by kernel_rfl)
noncomputable def math_bits_RotateLeft32_S (acc : List AV → Bool) : Summ Tryz.prog GT := math_bits_RotateLeft32_I.summ mixed acc false false

/-! bitloft/sha.mix -/
noncomputable def sha_mix_I : FnI Tryz.prog GT := { f := 80, cuts := [], tab := [], fm := ⟨true, [.val (.int .u32) []]⟩ }
noncomputable def sha_mix (a0 : Int) (a1 : Int) (a2 : Int) (a3 : Int) : Option (Int) := sha_mix_I.call [(.int .i64 a0), (.int .u32 a1), (.int .u32 a2), (.int .u32 a3)] []
theorem sha_mix_eq (a0 : Int) (a1 : Int) (a2 : Int) (a3 : Int) : sha_mix a0 a1 a2 a3 = (
  if (a0 == (0 : Int)) = true then
    some (bitsXor .u32 a3 (bitsAnd .u32 a1 (bitsXor .u32 a2 a3)))
  else
    if (a0 == (2 : Int)) = true then
      some (bitsOr .u32 (bitsAnd .u32 a1 a2) (bitsAnd .u32 a3 (bitsOr .u32 a1 a2)))
    else
      some (bitsXor .u32 (bitsXor .u32 a1 a2) a3)) := (FnI.call_eq (by kernel_rfl)).trans (by kernel_rfl)
noncomputable def sha_mix_S (acc : List AV → Bool) : Summ Tryz.prog GT := sha_mix_I.summ mixed acc false false

/-! bitloft/sha.do -/
noncomputable def sha_do_I : FnI Tryz.prog GT := { f := 69, cuts := [⟨(3, 3), [2, 4, 5, 16, 17, 18], false, false⟩, ⟨(9, 3), [2, 4, 5, 8, 9, 10, 11, 12, 45], false, false⟩], tab := [math_bits_RotateLeft32_S (fun _ => true), sha_mix_S (fun _ => true)], fm := ⟨true, [.val (.arr 5 (.int .u32)) []]⟩ }
noncomputable def sha_do (a0 : (List Int)) (a1 : List Int) : Option ((List Int)) := sha_do_I.call [(.agg (.arr 5 (.int .u32)) a0), (.sl (.int .u8) false a1)] []
noncomputable def sha_do_c1 (v16 : List Int) (v17 : Int) (v18 : Int) (b8 : (List Int)) (b9 : (List Int)) (b10 : (List Int)) : Option ((List Int)) := sha_do_I.sem ⟨[.code (cIn (cIn (cSnd (cFst (cSnd (cSnd (bodyOf Tryz.prog 69))))))), .inLoop (cIn (cIn (cSnd (cFst (cSnd (cSnd (bodyOf Tryz.prog 69))))))), .inBlock 0, .code (cSnd (cSnd (cSnd (bodyOf Tryz.prog 69))))], ⟨[(2, (.one (.ptr (.arr 5 (.int .u32)) 8 []))), (4, (.one (.ptr (.arr 5 (.int .u32)) 9 []))), (5, (.one (.ptr (.arr 16 (.int .u32)) 10 []))), (16, (.one (.sl (.int .u8) false v16))), (17, (.one (.int .i64 v17))), (18, (.one (.int .i64 v18)))], [(8, some (.box (.arr 5 (.int .u32)) b8)), (9, some (.box (.arr 5 (.int .u32)) b9)), (10, some (.box (.arr 16 (.int .u32)) b10))], 11⟩⟩
noncomputable def sha_do_c2 (v8 : Int) (v9 : Int) (v10 : Int) (v11 : Int) (v12 : Int) (v45 : Int) (b8 : (List Int)) (b9 : (List Int)) (b10 : (List Int)) : Option ((List Int)) := sha_do_I.sem ⟨[.code (cIn (cIn (cSnd (cFst (cSnd (cSnd (cSnd (cSnd (bodyOf Tryz.prog 69))))))))), .inLoop (cIn (cIn (cSnd (cFst (cSnd (cSnd (cSnd (cSnd (bodyOf Tryz.prog 69))))))))), .inBlock 2, .code (cSnd (cSnd (cSnd (cSnd (cSnd (bodyOf Tryz.prog 69))))))], ⟨[(2, (.one (.ptr (.arr 5 (.int .u32)) 8 []))), (4, (.one (.ptr (.arr 5 (.int .u32)) 9 []))), (5, (.one (.ptr (.arr 16 (.int .u32)) 10 []))), (8, (.one (.int .u32 v8))), (9, (.one (.int .u32 v9))), (10, (.one (.int .u32 v10))), (11, (.one (.int .u32 v11))), (12, (.one (.int .u32 v12))), (45, (.one (.int .i64 v45)))], [(8, some (.box (.arr 5 (.int .u32)) b8)), (9, some (.box (.arr 5 (.int .u32)) b9)), (10, some (.box (.arr 16 (.int .u32)) b10))], 11⟩⟩
theorem sha_do_eq (a0 : (List Int)) (a1 : List Int) : sha_do a0 a1 = (
  gd (0 ≤ (64 : Int)) <|
  gd ((64 : Int) ≤ (Int.ofNat (List.length a1))) <|
  sha_do_c1 (List.take 64 a1) (Int.ofNat (List.length (List.take 64 a1))) (0 : Int) a0 (List.replicate 5 (0 : Int)) (List.replicate 16 (0 : Int))) := (FnI.call_eq (by kernel_rfl)).trans (by kernel_rfl)
theorem sha_do_c1_eq (v16 : List Int) (v17 : Int) (v18 : Int) (b8 : (List Int)) (b9 : (List Int)) (b10 : (List Int)) : sha_do_c1 v16 v17 v18 b8 b9 b10 = (
  if (decide (v18 < v17)) = true then
    gd (0 ≤ v18) <|
    gd (v18 < (Int.ofNat (List.length v16))) <|
    gd ((4 : Int) ≠ 0) <|
    gd ((4 : Int) ≠ 0) <|
    gd (0 ≤ (IntKind.wrap .i64 (Int.tdiv v18 (4 : Int)))) <|
    gd ((IntKind.wrap .i64 (Int.tdiv v18 (4 : Int))) < (16 : Int)) <|
    gd (0 ≤ (8 : Int)) <|
    gd (0 ≤ (IntKind.wrap .i64 (Int.tdiv v18 (4 : Int)))) <|
    gd ((IntKind.wrap .i64 (Int.tdiv v18 (4 : Int))) < (16 : Int)) <|
    sha_do_c1 v16 v17 (IntKind.wrap .i64 (v18 + (1 : Int))) b8 b9 (List.set b10 (Int.toNat (IntKind.wrap .i64 (Int.tdiv v18 (4 : Int)))) (bitsOr .u32 (IntKind.wrap .u32 ((List.getD b10 (Int.toNat (IntKind.wrap .i64 (Int.tdiv v18 (4 : Int)))) (0 : Int)) * (256 : Int))) (IntKind.wrap .u32 (List.getD v16 (Int.toNat v18) (0 : Int)))))
  else
    gd (0 ≤ (0 : Int)) <|
    gd ((0 : Int) < (5 : Int)) <|
    gd (0 ≤ (1 : Int)) <|
    gd ((1 : Int) < (5 : Int)) <|
    gd (0 ≤ (2 : Int)) <|
    gd ((2 : Int) < (5 : Int)) <|
    gd (0 ≤ (3 : Int)) <|
    gd ((3 : Int) < (5 : Int)) <|
    gd (0 ≤ (4 : Int)) <|
    gd ((4 : Int) < (5 : Int)) <|
    sha_do_c2 (List.getD b8 0 (0 : Int)) (List.getD b8 1 (0 : Int)) (List.getD b8 2 (0 : Int)) (List.getD b8 3 (0 : Int)) (List.getD b8 4 (0 : Int)) (0 : Int) b8 b9 b10) := (FnI.sem_eq _).trans (by kernel_rfl)
theorem sha_do_c2_eq (v8 : Int) (v9 : Int) (v10 : Int) (v11 : Int) (v12 : Int) (v45 : Int) (b8 : (List Int)) (b9 : (List Int)) (b10 : (List Int)) : sha_do_c2 v8 v9 v10 v11 v12 v45 b8 b9 b10 = (
  if (decide (v45 < (80 : Int))) = true then
    if (decide (v45 ≥ (16 : Int))) = true then
      gd ((16 : Int) ≠ 0) <|
      gd ((16 : Int) ≠ 0) <|
      gd (0 ≤ (Int.tmod (IntKind.wrap .i64 (v45 + (13 : Int))) (16 : Int))) <|
      gd ((Int.tmod (IntKind.wrap .i64 (v45 + (13 : Int))) (16 : Int)) < (16 : Int)) <|
      gd ((16 : Int) ≠ 0) <|
      gd (0 ≤ (Int.tmod (IntKind.wrap .i64 (v45 + (8 : Int))) (16 : Int))) <|
      gd ((Int.tmod (IntKind.wrap .i64 (v45 + (8 : Int))) (16 : Int)) < (16 : Int)) <|
      gd ((16 : Int) ≠ 0) <|
      gd (0 ≤ (Int.tmod (IntKind.wrap .i64 (v45 + (2 : Int))) (16 : Int))) <|
      gd ((Int.tmod (IntKind.wrap .i64 (v45 + (2 : Int))) (16 : Int)) < (16 : Int)) <|
      gd ((16 : Int) ≠ 0) <|
      gd (0 ≤ (Int.tmod v45 (16 : Int))) <|
      gd ((Int.tmod v45 (16 : Int)) < (16 : Int)) <|
      (math_bits_RotateLeft32 (bitsXor .u32 (bitsXor .u32 (bitsXor .u32 (List.getD b10 (Int.toNat (Int.tmod (IntKind.wrap .i64 (v45 + (13 : Int))) (16 : Int))) (0 : Int)) (List.getD b10 (Int.toNat (Int.tmod (IntKind.wrap .i64 (v45 + (8 : Int))) (16 : Int))) (0 : Int))) (List.getD b10 (Int.toNat (Int.tmod (IntKind.wrap .i64 (v45 + (2 : Int))) (16 : Int))) (0 : Int))) (List.getD b10 (Int.toNat (Int.tmod v45 (16 : Int))) (0 : Int))) (1 : Int)).bind fun (r1 : (Int)) =>
      gd (0 ≤ (Int.tmod v45 (16 : Int))) <|
      gd ((Int.tmod v45 (16 : Int)) < (16 : Int)) <|
      (math_bits_RotateLeft32 v8 (5 : Int)).bind fun (r2 : (Int)) =>
      gd ((20 : Int) ≠ 0) <|
      (sha_mix (IntKind.wrap .i64 (Int.tdiv v45 (20 : Int))) v9 v10 v11).bind fun (r3 : (Int)) =>
      gd ((20 : Int) ≠ 0) <|
      gd (0 ≤ (IntKind.wrap .i64 (Int.tdiv v45 (20 : Int)))) <|
      gd ((IntKind.wrap .i64 (Int.tdiv v45 (20 : Int))) < (4 : Int)) <|
      gd ((16 : Int) ≠ 0) <|
      gd (0 ≤ (Int.tmod v45 (16 : Int))) <|
      gd ((Int.tmod v45 (16 : Int)) < (16 : Int)) <|
      (math_bits_RotateLeft32 v9 (30 : Int)).bind fun (r4 : (Int)) =>
      sha_do_c2 (IntKind.wrap .u32 ((IntKind.wrap .u32 ((IntKind.wrap .u32 ((IntKind.wrap .u32 (r2 + r3)) + v12)) + (List.getD G_quarters (Int.toNat (IntKind.wrap .i64 (Int.tdiv v45 (20 : Int)))) (0 : Int)))) + (List.getD (List.set b10 (Int.toNat (Int.tmod v45 (16 : Int))) r1) (Int.toNat (Int.tmod v45 (16 : Int))) (0 : Int)))) v8 r4 v10 v11 (IntKind.wrap .i64 (v45 + (1 : Int))) b8 b9 (List.set b10 (Int.toNat (Int.tmod v45 (16 : Int))) r1)
    else
      (math_bits_RotateLeft32 v8 (5 : Int)).bind fun (r5 : (Int)) =>
      gd ((20 : Int) ≠ 0) <|
      (sha_mix (IntKind.wrap .i64 (Int.tdiv v45 (20 : Int))) v9 v10 v11).bind fun (r6 : (Int)) =>
      gd ((20 : Int) ≠ 0) <|
      gd (0 ≤ (IntKind.wrap .i64 (Int.tdiv v45 (20 : Int)))) <|
      gd ((IntKind.wrap .i64 (Int.tdiv v45 (20 : Int))) < (4 : Int)) <|
      gd ((16 : Int) ≠ 0) <|
      gd (0 ≤ (Int.tmod v45 (16 : Int))) <|
      gd ((Int.tmod v45 (16 : Int)) < (16 : Int)) <|
      (math_bits_RotateLeft32 v9 (30 : Int)).bind fun (r7 : (Int)) =>
      sha_do_c2 (IntKind.wrap .u32 ((IntKind.wrap .u32 ((IntKind.wrap .u32 ((IntKind.wrap .u32 (r5 + r6)) + v12)) + (List.getD G_quarters (Int.toNat (IntKind.wrap .i64 (Int.tdiv v45 (20 : Int)))) (0 : Int)))) + (List.getD b10 (Int.toNat (Int.tmod v45 (16 : Int))) (0 : Int)))) v8 r7 v10 v11 (IntKind.wrap .i64 (v45 + (1 : Int))) b8 b9 b10
  else
    gd (0 ≤ (0 : Int)) <|
    gd ((0 : Int) < (5 : Int)) <|
    gd (0 ≤ (1 : Int)) <|
    gd ((1 : Int) < (5 : Int)) <|
    gd (0 ≤ (2 : Int)) <|
    gd ((2 : Int) < (5 : Int)) <|
    gd (0 ≤ (3 : Int)) <|
    gd ((3 : Int) < (5 : Int)) <|
    gd (0 ≤ (4 : Int)) <|
    gd ((4 : Int) < (5 : Int)) <|
    some (List.set (List.set (List.set (List.set (List.set (List.replicate 5 (0 : Int)) 0 (IntKind.wrap .u32 ((List.getD b8 0 (0 : Int)) + v8))) 1 (IntKind.wrap .u32 ((List.getD b8 1 (0 : Int)) + v9))) 2 (IntKind.wrap .u32 ((List.getD b8 2 (0 : Int)) + v10))) 3 (IntKind.wrap .u32 ((List.getD b8 3 (0 : Int)) + v11))) 4 (IntKind.wrap .u32 ((List.getD b8 4 (0 : Int)) + v12)))) := (FnI.sem_eq _).trans (by kernel_rfl)
noncomputable def sha_do_S (acc : List AV → Bool) : Summ Tryz.prog GT := sha_do_I.summ mixed acc false false

/-! bitloft/sha.Sum -/
noncomputable def sha_Sum_I : FnI Tryz.prog GT := { f := 53, cuts := [⟨(5, 3), [2, 4, 5], false, false⟩, ⟨(9, 3), [2, 27, 28], false, false⟩], tab := [sha_pad_S (fun _ => true), slices_Concat_byte_byte_S (fun _ => true), sha_do_S (fun _ => true)], fm := ⟨true, [.val (.arr 20 (.int .u8)) [], .val (.int .i64) []]⟩ }
noncomputable def sha_Sum (a0 : List Int) : Option ((List Int) × Int) := sha_Sum_I.call [(.sl (.int .u8) false a0)] []
noncomputable def sha_Sum_c1 (v5 : List Int) (b8 : (List Int)) (b9 : (List Int)) : Option ((List Int) × Int) := sha_Sum_I.sem ⟨[.code (cIn (cIn (cSnd (cFst (cSnd (cSnd (cSnd (bodyOf Tryz.prog 53)))))))), .inLoop (cIn (cIn (cSnd (cFst (cSnd (cSnd (cSnd (bodyOf Tryz.prog 53)))))))), .inBlock 0, .code (cSnd (cSnd (cSnd (cSnd (bodyOf Tryz.prog 53)))))], ⟨[(2, (.one (.ptr (.arr 20 (.int .u8)) 8 []))), (4, (.one (.ptr (.arr 5 (.int .u32)) 9 []))), (5, (.one (.sl (.int .u8) true v5)))], [(8, some (.box (.arr 20 (.int .u8)) b8)), (9, some (.box (.arr 5 (.int .u32)) b9))], 10⟩⟩
noncomputable def sha_Sum_c2 (v27 : (List Int)) (v28 : Int) (b8 : (List Int)) : Option ((List Int) × Int) := sha_Sum_I.sem ⟨[.code (cIn (cIn (cSnd (cFst (cSnd (cSnd (cSnd (cSnd (bodyOf Tryz.prog 53))))))))), .inLoop (cIn (cIn (cSnd (cFst (cSnd (cSnd (cSnd (cSnd (bodyOf Tryz.prog 53))))))))), .inBlock 2, .code (cSnd (cSnd (cSnd (cSnd (cSnd (bodyOf Tryz.prog 53))))))], ⟨[(2, (.one (.ptr (.arr 20 (.int .u8)) 8 []))), (27, (.one (.agg (.arr 5 (.int .u32)) v27))), (28, (.one (.int .i64 v28)))], [(8, some (.box (.arr 20 (.int .u8)) b8))], 9⟩⟩
theorem sha_Sum_eq (a0 : List Int) : sha_Sum a0 = (
  if (decide ((Int.ofNat (List.length a0)) > (20000 : Int))) = true then
    some ((List.replicate 20 (0 : Int)), (4 : Int))
  else
    (sha_pad (Int.ofNat (List.length a0))).bind fun (r1 : (List Int)) =>
    (slices_Concat_byte_byte [a0, r1]).bind fun (r2 : (List Int)) =>
    sha_Sum_c1 r2 (List.replicate 20 (0 : Int)) (List.set (List.set (List.set (List.set (List.set (List.replicate 5 (0 : Int)) 0 (1732584193 : Int)) 1 (4023233417 : Int)) 2 (2562383102 : Int)) 3 (271733878 : Int)) 4 (3285377520 : Int))) := (FnI.call_eq (by kernel_rfl)).trans (by kernel_rfl)
theorem sha_Sum_c1_eq (v5 : List Int) (b8 : (List Int)) (b9 : (List Int)) : sha_Sum_c1 v5 b8 b9 = (
  if (decide ((Int.ofNat (List.length v5)) > (0 : Int))) = true then
    (sha_do b9 v5).bind fun (r3 : ((List Int))) =>
    gd (0 ≤ (64 : Int)) <|
    gd ((64 : Int) ≤ (Int.ofNat (List.length v5))) <|
    sha_Sum_c1 (List.drop 64 v5) b8 r3
  else
    sha_Sum_c2 b9 (0 : Int) b8) := (FnI.sem_eq _).trans (by kernel_rfl)
theorem sha_Sum_c2_eq (v27 : (List Int)) (v28 : Int) (b8 : (List Int)) : sha_Sum_c2 v27 v28 b8 = (
  if (decide (v28 < (5 : Int))) = true then
    gd (0 ≤ v28) <|
    gd (v28 < (5 : Int)) <|
    gd (0 ≤ (24 : Int)) <|
    gd (0 ≤ (16 : Int)) <|
    gd (0 ≤ (8 : Int)) <|
    gd (0 ≤ (IntKind.wrap .i64 ((4 : Int) * v28))) <|
    gd ((IntKind.wrap .i64 ((4 : Int) * v28)) < (20 : Int)) <|
    gd (0 ≤ (IntKind.wrap .i64 ((IntKind.wrap .i64 ((4 : Int) * v28)) + (1 : Int)))) <|
    gd ((IntKind.wrap .i64 ((IntKind.wrap .i64 ((4 : Int) * v28)) + (1 : Int))) < (20 : Int)) <|
    gd (0 ≤ (IntKind.wrap .i64 ((IntKind.wrap .i64 ((4 : Int) * v28)) + (2 : Int)))) <|
    gd ((IntKind.wrap .i64 ((IntKind.wrap .i64 ((4 : Int) * v28)) + (2 : Int))) < (20 : Int)) <|
    gd (0 ≤ (IntKind.wrap .i64 ((IntKind.wrap .i64 ((4 : Int) * v28)) + (3 : Int)))) <|
    gd ((IntKind.wrap .i64 ((IntKind.wrap .i64 ((4 : Int) * v28)) + (3 : Int))) < (20 : Int)) <|
    sha_Sum_c2 v27 (IntKind.wrap .i64 (v28 + (1 : Int))) (List.set (List.set (List.set (List.set b8 (Int.toNat (IntKind.wrap .i64 ((4 : Int) * v28))) (IntKind.wrap .u8 (Int.fdiv (List.getD v27 (Int.toNat v28) (0 : Int)) (16777216 : Int)))) (Int.toNat (IntKind.wrap .i64 ((IntKind.wrap .i64 ((4 : Int) * v28)) + (1 : Int)))) (IntKind.wrap .u8 (Int.fdiv (List.getD v27 (Int.toNat v28) (0 : Int)) (65536 : Int)))) (Int.toNat (IntKind.wrap .i64 ((IntKind.wrap .i64 ((4 : Int) * v28)) + (2 : Int)))) (IntKind.wrap .u8 (Int.fdiv (List.getD v27 (Int.toNat v28) (0 : Int)) (256 : Int)))) (Int.toNat (IntKind.wrap .i64 ((IntKind.wrap .i64 ((4 : Int) * v28)) + (3 : Int)))) (IntKind.wrap .u8 (List.getD v27 (Int.toNat v28) (0 : Int))))
  else
    some (b8, (0 : Int))) := (FnI.sem_eq _).trans (by kernel_rfl)
noncomputable def sha_Sum_S (acc : List AV → Bool) : Summ Tryz.prog GT := sha_Sum_I.summ mixed acc false false

/-! bitloft/member.digest -/
noncomputable def member_digest_I : FnI Tryz.prog GT := { f := 65, cuts := [], tab := [sha_Sum_S (fun _ => true)], fm := ⟨true, [.val (.arr 20 (.int .u8)) []]⟩ }
noncomputable def member_digest (a0 : List Int) : Option ((List Int)) := member_digest_I.call [(.sl (.int .u8) false a0)] []
theorem member_digest_eq (a0 : List Int) : member_digest a0 = (
  (sha_Sum a0).bind fun (r1 : ((List Int) × Int)) =>
  some (r1.1)) := (FnI.call_eq (by kernel_rfl)).trans (by kernel_rfl)
noncomputable def member_digest_S (acc : List AV → Bool) : Summ Tryz.prog GT := member_digest_I.summ mixed acc false false

/-! bitloft/member.twice -/
noncomputable def member_twice_I : FnI Tryz.prog GT := { f := 66, cuts := [⟨(3, 3), [3, 7, 8, 9], false, false⟩], tab := [], fm := ⟨true, [.val .bool []]⟩ }
noncomputable def member_twice (a0 : List ByteArray) : Option (Bool) := member_twice_I.call [(.sl .str false a0)] []
noncomputable def member_twice_c1 (v7 : List ByteArray) (v8 : Int) (v9 : Int) (m8 : List (ByteArray × Bool)) : Option (Bool) := member_twice_I.sem ⟨[.code (cIn (cIn (cSnd (cFst (cSnd (cSnd (bodyOf Tryz.prog 66))))))), .inLoop (cIn (cIn (cSnd (cFst (cSnd (cSnd (bodyOf Tryz.prog 66))))))), .inBlock 0, .code (cSnd (cSnd (cSnd (bodyOf Tryz.prog 66))))], ⟨[(3, (.one (.mapr 8))), (7, (.one (.sl .str false v7))), (8, (.one (.int .i64 v8))), (9, (.one (.int .i64 v9)))], [(8, some (.map .str .bool m8))], 9⟩⟩
theorem member_twice_eq (a0 : List ByteArray) : member_twice a0 = (
  member_twice_c1 a0 (Int.ofNat (List.length a0)) (0 : Int) []) := (FnI.call_eq (by kernel_rfl)).trans (by kernel_rfl)
theorem member_twice_c1_eq (v7 : List ByteArray) (v8 : Int) (v9 : Int) (m8 : List (ByteArray × Bool)) : member_twice_c1 v7 v8 v9 m8 = (
  if (decide (v9 < v8)) = true then
    gd (0 ≤ v9) <|
    gd (v9 < (Int.ofNat (List.length v7))) <|
    if (Option.getD (mget (peq .str) (List.getD v7 (Int.toNat v9) ByteArray.empty) m8) false) = true then
      some (true)
    else
      member_twice_c1 v7 v8 (IntKind.wrap .i64 (v9 + (1 : Int))) (mset (peq .str) (List.getD v7 (Int.toNat v9) ByteArray.empty) true m8)
  else
    some (false)) := (FnI.sem_eq _).trans (by kernel_rfl)
noncomputable def member_twice_S (acc : List AV → Bool) : Summ Tryz.prog GT := member_twice_I.summ mixed acc false false

/-! bitloft/member.Valid -/
noncomputable def member_Valid_I : FnI Tryz.prog GT := { f := 50, cuts := [⟨(6, 3), [3, 4, 10, 11, 12], false, false⟩], tab := [member_isName_S (fun _ => true), member_digest_S (fun _ => true), member_twice_S (fun _ => true)], fm := ⟨true, [.val (.int .i64) []]⟩ }
noncomputable def member_Valid (a0 : List D_api_Record) : Option (Int) := member_Valid_I.call [(.sl T_api_Record false a0)] []
noncomputable def member_Valid_c1 (v3 : Int) (v10 : List D_api_Record) (v11 : Int) (v12 : Int) (h8 : List ByteArray) : Option (Int) := member_Valid_I.sem ⟨[.code (cIn (cIn (cSnd (cFst (cSnd (cSnd (cSnd (cSnd (bodyOf Tryz.prog 50))))))))), .inLoop (cIn (cIn (cSnd (cFst (cSnd (cSnd (cSnd (cSnd (bodyOf Tryz.prog 50))))))))), .inBlock 0, .code (cSnd (cSnd (cSnd (cSnd (cSnd (bodyOf Tryz.prog 50))))))], ⟨[(3, (.one (.int .i64 v3))), (4, (.one (.ref .str 8 0 (List.length h8) true))), (10, (.one (.sl T_api_Record false v10))), (11, (.one (.int .i64 v11))), (12, (.one (.int .i64 v12)))], [(8, some (.row .str true h8))], 9⟩⟩
theorem member_Valid_eq (a0 : List D_api_Record) : member_Valid a0 = (
  if (decide ((Int.ofNat (List.length a0)) > (16 : Int))) = true then
    some (4 : Int)
  else
    member_Valid_c1 (0 : Int) a0 (Int.ofNat (List.length a0)) (0 : Int) []) := (FnI.call_eq (by kernel_rfl)).trans (by kernel_rfl)
theorem member_Valid_c1_eq (v3 : Int) (v10 : List D_api_Record) (v11 : Int) (v12 : Int) (h8 : List ByteArray) : member_Valid_c1 v3 v10 v11 v12 h8 = (
  if (decide (v12 < v11)) = true then
    gd (0 ≤ v12) <|
    gd (v12 < (Int.ofNat (List.length v10))) <|
    (member_isName (List.getD v10 (Int.toNat v12) (pzero T_api_Record)).1).bind fun (r1 : (Bool)) =>
    if (not r1) = true then
      some (8 : Int)
    else
      if (decide ((List.getD v10 (Int.toNat v12) (pzero T_api_Record)).2.1 < (0 : Int))) = true then
        some (8 : Int)
      else
        if (decide ((List.getD v10 (Int.toNat v12) (pzero T_api_Record)).2.1 > (8192 : Int))) = true then
          some (8 : Int)
        else
          if ((List.getD v10 (Int.toNat v12) (pzero T_api_Record)).2.1 == (0 : Int)) = true then
            (member_digest []).bind fun (r2 : ((List Int))) =>
            if (not (peq (.arr 20 (.int .u8)) (List.getD v10 (Int.toNat v12) (pzero T_api_Record)).2.2.1 r2)) = true then
              some (8 : Int)
            else
              gd ((List.length (h8 ++ [(List.getD v10 (Int.toNat v12) (pzero T_api_Record)).1])) * 16 ≤ 140737488355328) <|
              member_Valid_c1 (IntKind.wrap .i64 (v3 + (List.getD v10 (Int.toNat v12) (pzero T_api_Record)).2.1)) v10 v11 (IntKind.wrap .i64 (v12 + (1 : Int))) (h8 ++ [(List.getD v10 (Int.toNat v12) (pzero T_api_Record)).1])
          else
            gd ((List.length (h8 ++ [(List.getD v10 (Int.toNat v12) (pzero T_api_Record)).1])) * 16 ≤ 140737488355328) <|
            member_Valid_c1 (IntKind.wrap .i64 (v3 + (List.getD v10 (Int.toNat v12) (pzero T_api_Record)).2.1)) v10 v11 (IntKind.wrap .i64 (v12 + (1 : Int))) (h8 ++ [(List.getD v10 (Int.toNat v12) (pzero T_api_Record)).1])
  else
    if (decide (v3 > (8192 : Int))) = true then
      some (4 : Int)
    else
      (member_twice h8).bind fun (r3 : (Bool)) =>
      if r3 = true then
        some (14 : Int)
      else
        some (0 : Int)) := (FnI.sem_eq _).trans (by kernel_rfl)
noncomputable def member_Valid_S (acc : List AV → Bool) : Summ Tryz.prog GT := member_Valid_I.summ mixed acc false false

/-! bitloft/member.Read -/
noncomputable def member_Read_I : FnI Tryz.prog GT := { f := 59, cuts := [⟨(8, 3), [7, 8, 27, 28], false, false⟩], tab := [member_reader_record_S (fun _ => true), errors_As_S (fun _ => true), member_Valid_S (fun _ => true)], fm := ⟨true, [.val (.slice T_api_Record) [.nw], .val (.int .i64) [], .val (.int .i64) []]⟩ }
noncomputable def member_Read (a0 : List Int) (a1 : Int) : Option (List D_api_Record × Int × Int) := member_Read_I.call [(.sl (.int .u8) false a0), (.int .i64 a1)] []
noncomputable def member_Read_c1 (v27 : Int) (v28 : Int) (b8 : D_member_reader) (h9 : List D_api_Record) : Option (List D_api_Record × Int × Int) := member_Read_I.sem ⟨[.code (cIn (cIn (cSnd (cFst (cSnd (cSnd (cSnd (cSnd (bodyOf Tryz.prog 59))))))))), .inLoop (cIn (cIn (cSnd (cFst (cSnd (cSnd (cSnd (cSnd (bodyOf Tryz.prog 59))))))))), .inBlock 1, .code (cSnd (cSnd (cSnd (cSnd (cSnd (bodyOf Tryz.prog 59))))))], ⟨[(7, (.one (.ptr T_member_reader 8 []))), (8, (.one (.ref T_api_Record 9 0 (List.length h9) true))), (27, (.one (.int .i64 v27))), (28, (.one (.int .i64 v28)))], [(8, some (.box T_member_reader (inj false T_member_reader b8))), (9, some (.row T_api_Record true h9))], 10⟩⟩
theorem member_Read_eq (a0 : List Int) (a1 : Int) : member_Read a0 a1 = (
  if (decide (a1 < (0 : Int))) = true then
    some ([], ((0 : Int), (2 : Int)))
  else
    if (decide (a1 > (16 : Int))) = true then
      some ([], ((0 : Int), (2 : Int)))
    else
      if (decide ((Int.ofNat (List.length a0)) > (50000 : Int))) = true then
        some ([], ((0 : Int), (4 : Int)))
      else
        member_Read_c1 a1 (0 : Int) ((a0, ((0 : Int), ())), ()) []) := (FnI.call_eq (by kernel_rfl)).trans (by kernel_rfl)
theorem member_Read_c1_eq (v27 : Int) (v28 : Int) (b8 : D_member_reader) (h9 : List D_api_Record) : member_Read_c1 v27 v28 b8 h9 = (
  if (decide (v28 < v27)) = true then
    (member_reader_record b8).bind fun (r1 : (D_api_Record × Option Int × D_member_reader)) =>
    (errors_As r1.2.1 (0 : Int)).bind fun (r2 : (Bool × Int)) =>
    if r2.1 = true then
      some ([], ((0 : Int), r2.2))
    else
      gd ((List.length (h9 ++ [r1.1])) * 48 ≤ 140737488355328) <|
      member_Read_c1 v27 (IntKind.wrap .i64 (v28 + (1 : Int))) r1.2.2 (h9 ++ [r1.1])
  else
    (member_Valid h9).bind fun (r3 : (Int)) =>
    if (r3 != (0 : Int)) = true then
      some ([], ((0 : Int), (12 : Int)))
    else
      some (h9, (b8.1.2.1, (0 : Int)))) := (FnI.sem_eq _).trans (by kernel_rfl)
noncomputable def member_Read_S (acc : List AV → Bool) : Summ Tryz.prog GT := member_Read_I.summ mixed acc false false

/-! bitloft/member.Write -/
noncomputable def member_Write_I : FnI Tryz.prog GT := { f := 52, cuts := [⟨(6, 3), [5, 13, 14, 15], false, false⟩], tab := [member_Valid_S (fun _ => true)], fm := ⟨true, [.val (.slice (.int .u8)) [.nw], .val (.int .i64) []]⟩ }
noncomputable def member_Write (a0 : List D_api_Record) : Option (List Int × Int) := member_Write_I.call [(.sl T_api_Record false a0)] []
noncomputable def member_Write_c1 (v13 : List D_api_Record) (v14 : Int) (v15 : Int) (h8 : List Int) : Option (List Int × Int) := member_Write_I.sem ⟨[.code (cIn (cIn (cSnd (cFst (cSnd (cSnd (cSnd (bodyOf Tryz.prog 52)))))))), .inLoop (cIn (cIn (cSnd (cFst (cSnd (cSnd (cSnd (bodyOf Tryz.prog 52)))))))), .inBlock 0, .code (cSnd (cSnd (cSnd (cSnd (bodyOf Tryz.prog 52)))))], ⟨[(5, (.one (.ref (.int .u8) 8 0 (List.length h8) true))), (13, (.one (.sl T_api_Record false v13))), (14, (.one (.int .i64 v14))), (15, (.one (.int .i64 v15)))], [(8, some (.row (.int .u8) true h8))], 9⟩⟩
theorem member_Write_eq (a0 : List D_api_Record) : member_Write a0 = (
  (member_Valid a0).bind fun (r1 : (Int)) =>
  if (r1 != (0 : Int)) = true then
    some ([], r1)
  else
    member_Write_c1 a0 (Int.ofNat (List.length a0)) (0 : Int) []) := (FnI.call_eq (by kernel_rfl)).trans (by kernel_rfl)
theorem member_Write_c1_eq (v13 : List D_api_Record) (v14 : Int) (v15 : Int) (h8 : List Int) : member_Write_c1 v13 v14 v15 h8 = (
  if (decide (v15 < v14)) = true then
    gd (0 ≤ v15) <|
    gd (v15 < (Int.ofNat (List.length v13))) <|
    gd ((List.length (h8 ++ [(IntKind.wrap .u8 (Int.ofNat (ByteArray.size (List.getD v13 (Int.toNat v15) (pzero T_api_Record)).1)))])) * 1 ≤ 140737488355328) <|
    gd ((List.length ((h8 ++ [(IntKind.wrap .u8 (Int.ofNat (ByteArray.size (List.getD v13 (Int.toNat v15) (pzero T_api_Record)).1)))]) ++ (ofStr (List.getD v13 (Int.toNat v15) (pzero T_api_Record)).1))) * 1 ≤ 140737488355328) <|
    gd (0 ≤ (8 : Int)) <|
    gd ((List.length (((h8 ++ [(IntKind.wrap .u8 (Int.ofNat (ByteArray.size (List.getD v13 (Int.toNat v15) (pzero T_api_Record)).1)))]) ++ (ofStr (List.getD v13 (Int.toNat v15) (pzero T_api_Record)).1)) ++ [(IntKind.wrap .u8 (Int.fdiv (List.getD v13 (Int.toNat v15) (pzero T_api_Record)).2.1 (256 : Int))), (IntKind.wrap .u8 (List.getD v13 (Int.toNat v15) (pzero T_api_Record)).2.1)])) * 1 ≤ 140737488355328) <|
    gd ((List.length ((((h8 ++ [(IntKind.wrap .u8 (Int.ofNat (ByteArray.size (List.getD v13 (Int.toNat v15) (pzero T_api_Record)).1)))]) ++ (ofStr (List.getD v13 (Int.toNat v15) (pzero T_api_Record)).1)) ++ [(IntKind.wrap .u8 (Int.fdiv (List.getD v13 (Int.toNat v15) (pzero T_api_Record)).2.1 (256 : Int))), (IntKind.wrap .u8 (List.getD v13 (Int.toNat v15) (pzero T_api_Record)).2.1)]) ++ (List.take 20 (List.drop 0 (List.getD v13 (Int.toNat v15) (pzero T_api_Record)).2.2.1)))) * 1 ≤ 140737488355328) <|
    member_Write_c1 v13 v14 (IntKind.wrap .i64 (v15 + (1 : Int))) ((((h8 ++ [(IntKind.wrap .u8 (Int.ofNat (ByteArray.size (List.getD v13 (Int.toNat v15) (pzero T_api_Record)).1)))]) ++ (ofStr (List.getD v13 (Int.toNat v15) (pzero T_api_Record)).1)) ++ [(IntKind.wrap .u8 (Int.fdiv (List.getD v13 (Int.toNat v15) (pzero T_api_Record)).2.1 (256 : Int))), (IntKind.wrap .u8 (List.getD v13 (Int.toNat v15) (pzero T_api_Record)).2.1)]) ++ (List.take 20 (List.drop 0 (List.getD v13 (Int.toNat v15) (pzero T_api_Record)).2.2.1)))
  else
    some (h8, (0 : Int))) := (FnI.sem_eq _).trans (by kernel_rfl)
noncomputable def member_Write_S (acc : List AV → Bool) : Summ Tryz.prog GT := member_Write_I.summ mixed acc false false

/-! bitloft/pack.Head -/
noncomputable def pack_Head_I : FnI Tryz.prog GT := { f := 36, cuts := [], tab := [pack_Check_S (fun _ => true), member_Write_S (fun _ => true), sha_Sum_S (fun _ => true)], fm := ⟨true, [.val (.slice (.int .u8)) [.nw], .val (.int .i64) []]⟩ }
noncomputable def pack_Head (a0 : D_api_Settings) (a1 : List D_api_Record) : Option (List Int × Int) := pack_Head_I.call [(.agg T_api_Settings (inj false T_api_Settings a0)), (.sl T_api_Record false a1)] []
theorem pack_Head_eq (a0 : D_api_Settings) (a1 : List D_api_Record) : pack_Head a0 a1 = (
  (pack_Check a0).bind fun (r1 : (Int)) =>
  if (r1 != (0 : Int)) = true then
    some ([], r1)
  else
    (member_Write a1).bind fun (r2 : (List Int × Int)) =>
    if (r2.2 != (0 : Int)) = true then
      some ([], r2.2)
    else
      gd (0 ≤ (8 : Int)) <|
      gd ((List.length ([(66 : Int), (76 : Int), (70 : Int), (1 : Int), (IntKind.wrap .u8 a0.1), (IntKind.wrap .u8 (Int.fdiv a0.2.1 (256 : Int))), (IntKind.wrap .u8 a0.2.1), (IntKind.wrap .u8 (Int.ofNat (List.length a1)))] ++ r2.1)) * 1 ≤ 140737488355328) <|
      (sha_Sum ([(66 : Int), (76 : Int), (70 : Int), (1 : Int), (IntKind.wrap .u8 a0.1), (IntKind.wrap .u8 (Int.fdiv a0.2.1 (256 : Int))), (IntKind.wrap .u8 a0.2.1), (IntKind.wrap .u8 (Int.ofNat (List.length a1)))] ++ r2.1)).bind fun (r3 : ((List Int) × Int)) =>
      gd ((List.length (([(66 : Int), (76 : Int), (70 : Int), (1 : Int), (IntKind.wrap .u8 a0.1), (IntKind.wrap .u8 (Int.fdiv a0.2.1 (256 : Int))), (IntKind.wrap .u8 a0.2.1), (IntKind.wrap .u8 (Int.ofNat (List.length a1)))] ++ r2.1) ++ (List.take 20 (List.drop 0 r3.1)))) * 1 ≤ 140737488355328) <|
      some ((([(66 : Int), (76 : Int), (70 : Int), (1 : Int), (IntKind.wrap .u8 a0.1), (IntKind.wrap .u8 (Int.fdiv a0.2.1 (256 : Int))), (IntKind.wrap .u8 a0.2.1), (IntKind.wrap .u8 (Int.ofNat (List.length a1)))] ++ r2.1) ++ (List.take 20 (List.drop 0 r3.1))), (0 : Int))) := (FnI.call_eq (by kernel_rfl)).trans (by kernel_rfl)
noncomputable def pack_Head_S (acc : List AV → Bool) : Summ Tryz.prog GT := pack_Head_I.summ mixed acc false false

/-! bitloft/list.Head -/
noncomputable def list_Head_I : FnI Tryz.prog GT := { f := 45, cuts := [], tab := [bytes_HasPrefix_S (fun _ => true), pack_Check_S (fun _ => true), member_Read_S (fun _ => true), pack_Head_S (fun _ => true)], fm := ⟨true, [.val T_api_Settings [], .val (.slice T_api_Record) [.nw], .val (.int .i64) [], .val (.int .i64) []]⟩ }
noncomputable def list_Head (a0 : List Int) : Option (D_api_Settings × List D_api_Record × Int × Int) := list_Head_I.call [(.sl (.int .u8) false a0)] []
theorem list_Head_eq (a0 : List Int) : list_Head a0 = (
  if (decide ((Int.ofNat (List.length a0)) > (50000 : Int))) = true then
    some (((0 : Int), ((0 : Int), ())), ([], ((0 : Int), (4 : Int))))
  else
    if (decide ((Int.ofNat (List.length a0)) < (8 : Int))) = true then
      some (((0 : Int), ((0 : Int), ())), ([], ((0 : Int), (18 : Int))))
    else
      gd (0 ≤ (4 : Int)) <|
      gd ((4 : Int) < (Int.ofNat (List.length a0))) <|
      gd (0 ≤ (5 : Int)) <|
      gd ((5 : Int) < (Int.ofNat (List.length a0))) <|
      gd (0 ≤ (8 : Int)) <|
      gd (0 ≤ (6 : Int)) <|
      gd ((6 : Int) < (Int.ofNat (List.length a0))) <|
      (bytes_HasPrefix a0 [(66 : Int), (76 : Int), (70 : Int), (1 : Int)]).bind fun (r1 : (Bool)) =>
      if (not r1) = true then
        some (((0 : Int), ((0 : Int), ())), ([], ((0 : Int), (12 : Int))))
      else
        (pack_Check ((IntKind.wrap .i64 (List.getD a0 4 (0 : Int))), ((bitsOr .i64 (IntKind.wrap .i64 ((IntKind.wrap .i64 (List.getD a0 5 (0 : Int))) * (256 : Int))) (IntKind.wrap .i64 (List.getD a0 6 (0 : Int)))), ()))).bind fun (r2 : (Int)) =>
        if (r2 != (0 : Int)) = true then
          some (((0 : Int), ((0 : Int), ())), ([], ((0 : Int), (12 : Int))))
        else
          gd (0 ≤ (7 : Int)) <|
          gd ((7 : Int) < (Int.ofNat (List.length a0))) <|
          if (decide ((List.getD a0 7 (0 : Int)) > (16 : Int))) = true then
            some (((0 : Int), ((0 : Int), ())), ([], ((0 : Int), (12 : Int))))
          else
            gd (0 ≤ (8 : Int)) <|
            gd ((8 : Int) ≤ (Int.ofNat (List.length a0))) <|
            gd (0 ≤ (7 : Int)) <|
            gd ((7 : Int) < (Int.ofNat (List.length a0))) <|
            (member_Read (List.drop 8 a0) (IntKind.wrap .i64 (List.getD a0 7 (0 : Int)))).bind fun (r3 : (List D_api_Record × Int × Int)) =>
            if (r3.2.2 != (0 : Int)) = true then
              some (((0 : Int), ((0 : Int), ())), ([], ((0 : Int), r3.2.2)))
            else
              (pack_Head ((IntKind.wrap .i64 (List.getD a0 4 (0 : Int))), ((bitsOr .i64 (IntKind.wrap .i64 ((IntKind.wrap .i64 (List.getD a0 5 (0 : Int))) * (256 : Int))) (IntKind.wrap .i64 (List.getD a0 6 (0 : Int)))), ())) r3.1).bind fun (r4 : (List Int × Int)) =>
              if (decide ((IntKind.wrap .i64 ((IntKind.wrap .i64 ((Int.ofNat (List.length a0)) - (8 : Int))) - r3.2.1)) < (20 : Int))) = true then
                some (((0 : Int), ((0 : Int), ())), ([], ((0 : Int), (18 : Int))))
              else
                (bytes_HasPrefix a0 r4.1).bind fun (r5 : (Bool)) =>
                if (not r5) = true then
                  some (((0 : Int), ((0 : Int), ())), ([], ((0 : Int), (22 : Int))))
                else
                  some (((IntKind.wrap .i64 (List.getD a0 4 (0 : Int))), ((bitsOr .i64 (IntKind.wrap .i64 ((IntKind.wrap .i64 (List.getD a0 5 (0 : Int))) * (256 : Int))) (IntKind.wrap .i64 (List.getD a0 6 (0 : Int)))), ())), (r3.1, ((Int.ofNat (List.length r4.1)), (0 : Int))))) := (FnI.call_eq (by kernel_rfl)).trans (by kernel_rfl)
noncomputable def list_Head_S (acc : List AV → Bool) : Summ Tryz.prog GT := list_Head_I.summ mixed acc false false

/-! bitloft/split.check$1 -/
noncomputable def split_check_1_I : FnI Tryz.prog GT := { f := 87, cuts := [], tab := [], fm := ⟨true, [.val .bool []]⟩ }
noncomputable def split_check_1 (a0 : Int) : Option (Bool) := split_check_1_I.call [(.int .i64 a0)] []
theorem split_check_1_eq (a0 : Int) : split_check_1 a0 = (
  some (decide (a0 < (0 : Int)))) := (FnI.call_eq (by kernel_rfl)).trans (by kernel_rfl)
noncomputable def split_check_1_S (acc : List AV → Bool) : Summ Tryz.prog GT := split_check_1_I.summ mixed acc false false

/-! slices.IndexFunc[[]int,int] -/
noncomputable def slices_IndexFunc_int_int_I : FnI Tryz.prog GT := { f := 91, cuts := [⟨(2, 3), [0, 1, 7, 8], false, false⟩], tab := [split_check_1_S (fun _ => true)], fm := ⟨true, [.val (.int .i64) []]⟩ }
noncomputable def slices_IndexFunc_int_int (a0 : List Int) : Option (Int) := slices_IndexFunc_int_int_I.call [(.sl (.int .i64) false a0), (.func 87 [])] []
noncomputable def slices_IndexFunc_int_int_c1 (v0 : List Int) (v7 : Int) (v8 : Int) : Option (Int) := slices_IndexFunc_int_int_I.sem ⟨[.code (cIn (cIn (cSnd (cFst (cSnd (bodyOf Tryz.prog 91)))))), .inLoop (cIn (cIn (cSnd (cFst (cSnd (bodyOf Tryz.prog 91)))))), .inBlock 0, .code (cSnd (cSnd (bodyOf Tryz.prog 91)))], ⟨[(0, (.one (.sl (.int .i64) false v0))), (1, (.one (.func 87 []))), (7, (.one (.int .i64 v7))), (8, (.one (.int .i64 v8)))], [], 8⟩⟩
theorem slices_IndexFunc_int_int_eq (a0 : List Int) : slices_IndexFunc_int_int a0 = (
  slices_IndexFunc_int_int_c1 a0 (Int.ofNat (List.length a0)) (0 : Int)) := (FnI.call_eq (by kernel_rfl)).trans (by kernel_rfl)
theorem slices_IndexFunc_int_int_c1_eq (v0 : List Int) (v7 : Int) (v8 : Int) : slices_IndexFunc_int_int_c1 v0 v7 v8 = (
  if (decide (v8 < v7)) = true then
    gd (0 ≤ v8) <|
    gd (v8 < (Int.ofNat (List.length v0))) <|
    (split_check_1 (List.getD v0 (Int.toNat v8) (0 : Int))).bind fun (r1 : (Bool)) =>
    if r1 = true then
      some (v8)
    else
      slices_IndexFunc_int_int_c1 v0 v7 (IntKind.wrap .i64 (v8 + (1 : Int)))
  else
    some (-1 : Int)) := (FnI.sem_eq _).trans (by kernel_rfl)
noncomputable def slices_IndexFunc_int_int_S (acc : List AV → Bool) : Summ Tryz.prog GT := slices_IndexFunc_int_int_I.summ mixed acc false false

/-! slices.ContainsFunc[[]int,int] -/
noncomputable def slices_ContainsFunc_int_int_I : FnI Tryz.prog GT := { f := 86, cuts := [], tab := [slices_IndexFunc_int_int_S (fun _ => true)], fm := ⟨true, [.val .bool []]⟩ }
noncomputable def slices_ContainsFunc_int_int (a0 : List Int) : Option (Bool) := slices_ContainsFunc_int_int_I.call [(.sl (.int .i64) false a0), (.func 87 [])] []
theorem slices_ContainsFunc_int_int_eq (a0 : List Int) : slices_ContainsFunc_int_int a0 = (
  (slices_IndexFunc_int_int a0).bind fun (r1 : (Int)) =>
  some (decide (r1 ≥ (0 : Int)))) := (FnI.call_eq (by kernel_rfl)).trans (by kernel_rfl)
noncomputable def slices_ContainsFunc_int_int_S (acc : List AV → Bool) : Summ Tryz.prog GT := slices_ContainsFunc_int_int_I.summ mixed acc false false

/-! bitloft/split.check -/
noncomputable def split_check_I : FnI Tryz.prog GT := { f := 75, cuts := [⟨(7, 3), [3, 11, 12, 13], false, false⟩], tab := [slices_ContainsFunc_int_int_S (fun _ => true)], fm := ⟨true, [.val (.int .i64) []]⟩ }
noncomputable def split_check (a0 : List Int) : Option (Int) := split_check_I.call [(.sl (.int .i64) false a0)] []
noncomputable def split_check_c1 (v3 : Int) (v11 : List Int) (v12 : Int) (v13 : Int) : Option (Int) := split_check_I.sem ⟨[.code (cIn (cIn (cSnd (cFst (cSnd (cSnd (cSnd (cSnd (bodyOf Tryz.prog 75))))))))), .inLoop (cIn (cIn (cSnd (cFst (cSnd (cSnd (cSnd (cSnd (bodyOf Tryz.prog 75))))))))), .inBlock 0, .code (cSnd (cSnd (cSnd (cSnd (cSnd (bodyOf Tryz.prog 75))))))], ⟨[(3, (.one (.int .i64 v3))), (11, (.one (.sl (.int .i64) false v11))), (12, (.one (.int .i64 v12))), (13, (.one (.int .i64 v13)))], [], 8⟩⟩
theorem split_check_eq (a0 : List Int) : split_check a0 = (
  (slices_ContainsFunc_int_int a0).bind fun (r1 : (Bool)) =>
  if r1 = true then
    some (8 : Int)
  else
    if (decide ((Int.ofNat (List.length a0)) > (16 : Int))) = true then
      some (4 : Int)
    else
      split_check_c1 (0 : Int) a0 (Int.ofNat (List.length a0)) (0 : Int)) := (FnI.call_eq (by kernel_rfl)).trans (by kernel_rfl)
theorem split_check_c1_eq (v3 : Int) (v11 : List Int) (v12 : Int) (v13 : Int) : split_check_c1 v3 v11 v12 v13 = (
  if (decide (v13 < v12)) = true then
    gd (0 ≤ v13) <|
    gd (v13 < (Int.ofNat (List.length v11))) <|
    if (decide ((IntKind.wrap .i64 (v3 + (if (8193 : Int) < (List.getD v11 (Int.toNat v13) (0 : Int)) then (8193 : Int) else (List.getD v11 (Int.toNat v13) (0 : Int))))) > (8192 : Int))) = true then
      some (4 : Int)
    else
      split_check_c1 (IntKind.wrap .i64 (v3 + (if (8193 : Int) < (List.getD v11 (Int.toNat v13) (0 : Int)) then (8193 : Int) else (List.getD v11 (Int.toNat v13) (0 : Int))))) v11 v12 (IntKind.wrap .i64 (v13 + (1 : Int)))
  else
    some (0 : Int)) := (FnI.sem_eq _).trans (by kernel_rfl)
noncomputable def split_check_S (acc : List AV → Bool) : Summ Tryz.prog GT := split_check_I.summ mixed acc false false

/-! bitloft/split.Pieces -/
noncomputable def split_Pieces_I : FnI Tryz.prog GT := { f := 60, cuts := [⟨(8, 3), [1, 7, 22, 23, 24], false, false⟩, ⟨(11, 7), [1, 7, 8, 9, 10, 22, 23, 24], false, false⟩], tab := [split_check_S (fun _ => true)], fm := ⟨true, [.val (.slice T_api_Piece) [.nw], .val (.int .i64) []]⟩ }
noncomputable def split_Pieces (a0 : List Int) (a1 : Int) : Option (List D_api_Piece × Int) := split_Pieces_I.call [(.sl (.int .i64) false a0), (.int .i64 a1)] []
noncomputable def split_Pieces_c1 (v1 : Int) (v22 : List Int) (v23 : Int) (v24 : Int) (h8 : List D_api_Piece) : Option (List D_api_Piece × Int) := split_Pieces_I.sem ⟨[.code (cIn (cIn (cSnd (cFst (cSnd (cSnd (cSnd (cSnd (bodyOf Tryz.prog 60))))))))), .inLoop (cIn (cIn (cSnd (cFst (cSnd (cSnd (cSnd (cSnd (bodyOf Tryz.prog 60))))))))), .inBlock 0, .code (cSnd (cSnd (cSnd (cSnd (cSnd (bodyOf Tryz.prog 60))))))], ⟨[(1, (.one (.int .i64 v1))), (7, (.one (.ref T_api_Piece 8 0 (List.length h8) true))), (22, (.one (.sl (.int .i64) false v22))), (23, (.one (.int .i64 v23))), (24, (.one (.int .i64 v24)))], [(8, some (.row T_api_Piece true h8))], 9⟩⟩
noncomputable def split_Pieces_c2 (v1 : Int) (v8 : Int) (v9 : Int) (v10 : Int) (v22 : List Int) (v23 : Int) (v24 : Int) (h8 : List D_api_Piece) : Option (List D_api_Piece × Int) := split_Pieces_I.sem ⟨[.code (cIn (cIn (cSnd (cSnd (cIn (cFst (cSnd (cSnd (cIn (cIn (cSnd (cFst (cSnd (cSnd (cSnd (cSnd (bodyOf Tryz.prog 60))))))))))))))))), .inLoop (cIn (cIn (cSnd (cSnd (cIn (cFst (cSnd (cSnd (cIn (cIn (cSnd (cFst (cSnd (cSnd (cSnd (cSnd (bodyOf Tryz.prog 60))))))))))))))))), .inBlock 2, .inBlock 1, .code (cSnd (cSnd (cSnd (cIn (cIn (cSnd (cFst (cSnd (cSnd (cSnd (cSnd (bodyOf Tryz.prog 60)))))))))))), .inLoop (cIn (cIn (cSnd (cFst (cSnd (cSnd (cSnd (cSnd (bodyOf Tryz.prog 60))))))))), .inBlock 0, .code (cSnd (cSnd (cSnd (cSnd (cSnd (bodyOf Tryz.prog 60))))))], ⟨[(1, (.one (.int .i64 v1))), (7, (.one (.ref T_api_Piece 8 0 (List.length h8) true))), (8, (.one (.int .i64 v8))), (9, (.one (.int .i64 v9))), (10, (.one (.int .i64 v10))), (22, (.one (.sl (.int .i64) false v22))), (23, (.one (.int .i64 v23))), (24, (.one (.int .i64 v24)))], [(8, some (.row T_api_Piece true h8))], 9⟩⟩
theorem split_Pieces_eq (a0 : List Int) (a1 : Int) : split_Pieces a0 a1 = (
  (split_check a0).bind fun (r1 : (Int)) =>
  if (r1 != (0 : Int)) = true then
    some ([], r1)
  else
    if (decide (a1 < (16 : Int))) = true then
      some ([], (2 : Int))
    else
      if (decide (a1 > (4096 : Int))) = true then
        some ([], (2 : Int))
      else
        split_Pieces_c1 a1 a0 (Int.ofNat (List.length a0)) (0 : Int) []) := (FnI.call_eq (by kernel_rfl)).trans (by kernel_rfl)
theorem split_Pieces_c1_eq (v1 : Int) (v22 : List Int) (v23 : Int) (v24 : Int) (h8 : List D_api_Piece) : split_Pieces_c1 v1 v22 v23 v24 h8 = (
  if (decide (v24 < v23)) = true then
    gd (0 ≤ v24) <|
    gd (v24 < (Int.ofNat (List.length v22))) <|
    split_Pieces_c2 v1 v24 (List.getD v22 (Int.toNat v24) (0 : Int)) (0 : Int) v22 v23 v24 h8
  else
    some (h8, (0 : Int))) := (FnI.sem_eq _).trans (by kernel_rfl)
theorem split_Pieces_c2_eq (v1 : Int) (v8 : Int) (v9 : Int) (v10 : Int) (v22 : List Int) (v23 : Int) (v24 : Int) (h8 : List D_api_Piece) : split_Pieces_c2 v1 v8 v9 v10 v22 v23 v24 h8 = (
  if (decide (v10 < v9)) = true then
    gd ((List.length (h8 ++ [(v8, (v10, ((if v1 < (IntKind.wrap .i64 (v9 - v10)) then v1 else (IntKind.wrap .i64 (v9 - v10))), ())))])) * 24 ≤ 140737488355328) <|
    split_Pieces_c2 v1 v8 v9 (IntKind.wrap .i64 (v10 + v1)) v22 v23 v24 (h8 ++ [(v8, (v10, ((if v1 < (IntKind.wrap .i64 (v9 - v10)) then v1 else (IntKind.wrap .i64 (v9 - v10))), ())))])
  else
    split_Pieces_c1 v1 v22 v23 (IntKind.wrap .i64 (v24 + (1 : Int))) h8) := (FnI.sem_eq _).trans (by kernel_rfl)
noncomputable def split_Pieces_S (acc : List AV → Bool) : Summ Tryz.prog GT := split_Pieces_I.summ mixed acc false false

/-! bitloft/list.pieces -/
noncomputable def list_pieces_I : FnI Tryz.prog GT := { f := 46, cuts := [⟨(3, 3), [2, 5, 10, 11, 12], false, false⟩], tab := [split_Pieces_S (fun _ => true)], fm := ⟨true, [.val (.slice T_api_Piece) [.nw]]⟩ }
noncomputable def list_pieces (a0 : D_api_Settings) (a1 : List D_api_Record) : Option (List D_api_Piece) := list_pieces_I.call [(.agg T_api_Settings (inj false T_api_Settings a0)), (.sl T_api_Record false a1)] []
noncomputable def list_pieces_c1 (v10 : List D_api_Record) (v11 : Int) (v12 : Int) (b8 : D_api_Settings) (h9 : List Int) : Option (List D_api_Piece) := list_pieces_I.sem ⟨[.code (cIn (cIn (cSnd (cFst (cSnd (cSnd (bodyOf Tryz.prog 46))))))), .inLoop (cIn (cIn (cSnd (cFst (cSnd (cSnd (bodyOf Tryz.prog 46))))))), .inBlock 0, .code (cSnd (cSnd (cSnd (bodyOf Tryz.prog 46))))], ⟨[(2, (.one (.ptr T_api_Settings 8 []))), (5, (.one (.ref (.int .i64) 9 0 (List.length h9) true))), (10, (.one (.sl T_api_Record false v10))), (11, (.one (.int .i64 v11))), (12, (.one (.int .i64 v12)))], [(8, some (.box T_api_Settings (inj false T_api_Settings b8))), (9, some (.row (.int .i64) true h9))], 10⟩⟩
theorem list_pieces_eq (a0 : D_api_Settings) (a1 : List D_api_Record) : list_pieces a0 a1 = (
  list_pieces_c1 a1 (Int.ofNat (List.length a1)) (0 : Int) a0 []) := (FnI.call_eq (by kernel_rfl)).trans (by kernel_rfl)
theorem list_pieces_c1_eq (v10 : List D_api_Record) (v11 : Int) (v12 : Int) (b8 : D_api_Settings) (h9 : List Int) : list_pieces_c1 v10 v11 v12 b8 h9 = (
  if (decide (v12 < v11)) = true then
    gd (0 ≤ v12) <|
    gd (v12 < (Int.ofNat (List.length v10))) <|
    gd ((List.length (h9 ++ [(List.getD v10 (Int.toNat v12) (pzero T_api_Record)).2.1])) * 8 ≤ 140737488355328) <|
    list_pieces_c1 v10 v11 (IntKind.wrap .i64 (v12 + (1 : Int))) b8 (h9 ++ [(List.getD v10 (Int.toNat v12) (pzero T_api_Record)).2.1])
  else
    (split_Pieces h9 b8.2.1).bind fun (r1 : (List D_api_Piece × Int)) =>
    some (r1.1)) := (FnI.sem_eq _).trans (by kernel_rfl)
noncomputable def list_pieces_S (acc : List AV → Bool) : Summ Tryz.prog GT := list_pieces_I.summ mixed acc false false

/-! bitloft/header.Check -/
noncomputable def header_Check_I : FnI Tryz.prog GT := { f := 51, cuts := [], tab := [], fm := ⟨true, [.val (.int .i64) []]⟩ }
noncomputable def header_Check (a0 : D_api_BlockHead) : Option (Int) := header_Check_I.call [(.agg T_api_BlockHead (inj false T_api_BlockHead a0))] []
theorem header_Check_eq (a0 : D_api_BlockHead) : header_Check a0 = (
  if (decide (a0.2.1 < (0 : Int))) = true then
    some (8 : Int)
  else
    if (decide (a0.2.1 ≥ (16 : Int))) = true then
      if (decide (a0.2.1 ≥ (16 : Int))) = true then
        some (8 : Int)
      else
        if (a0.1 == (1 : Int)) = true then
          if (a0.2.2.2.2.1 == a0.2.2.2.1) = true then
            if (a0.2.2.2.2.1 == a0.2.2.2.1) = true then
              some (0 : Int)
            else
              some (8 : Int)
          else
            if (a0.1 == (2 : Int)) = true then
              if (decide (a0.2.2.2.2.1 > (0 : Int))) = true then
                if (decide (a0.2.2.2.2.1 < a0.2.2.2.1)) = true then
                  some (0 : Int)
                else
                  some (8 : Int)
              else
                some (8 : Int)
            else
              some (8 : Int)
        else
          if (a0.1 == (2 : Int)) = true then
            if (decide (a0.2.2.2.2.1 > (0 : Int))) = true then
              if (decide (a0.2.2.2.2.1 < a0.2.2.2.1)) = true then
                some (0 : Int)
              else
                some (8 : Int)
            else
              some (8 : Int)
          else
            some (8 : Int)
    else
      if (decide (a0.2.2.2.1 < (1 : Int))) = true then
        some (8 : Int)
      else
        if (decide (a0.2.2.2.1 > (4096 : Int))) = true then
          if (decide (a0.2.2.2.1 > (4096 : Int))) = true then
            some (8 : Int)
          else
            if (a0.1 == (1 : Int)) = true then
              if (a0.2.2.2.2.1 == a0.2.2.2.1) = true then
                if (a0.2.2.2.2.1 == a0.2.2.2.1) = true then
                  some (0 : Int)
                else
                  some (8 : Int)
              else
                if (a0.1 == (2 : Int)) = true then
                  if (decide (a0.2.2.2.2.1 > (0 : Int))) = true then
                    if (decide (a0.2.2.2.2.1 < a0.2.2.2.1)) = true then
                      some (0 : Int)
                    else
                      some (8 : Int)
                  else
                    some (8 : Int)
                else
                  some (8 : Int)
            else
              if (a0.1 == (2 : Int)) = true then
                if (decide (a0.2.2.2.2.1 > (0 : Int))) = true then
                  if (decide (a0.2.2.2.2.1 < a0.2.2.2.1)) = true then
                    some (0 : Int)
                  else
                    some (8 : Int)
                else
                  some (8 : Int)
              else
                some (8 : Int)
        else
          if (decide (a0.2.2.1 < (0 : Int))) = true then
            some (8 : Int)
          else
            if (decide (a0.2.2.1 > (IntKind.wrap .i64 ((8192 : Int) - a0.2.2.2.1)))) = true then
              some (8 : Int)
            else
              if (a0.1 == (1 : Int)) = true then
                if (a0.2.2.2.2.1 == a0.2.2.2.1) = true then
                  if (a0.2.2.2.2.1 == a0.2.2.2.1) = true then
                    some (0 : Int)
                  else
                    some (8 : Int)
                else
                  if (a0.1 == (2 : Int)) = true then
                    if (decide (a0.2.2.2.2.1 > (0 : Int))) = true then
                      if (decide (a0.2.2.2.2.1 < a0.2.2.2.1)) = true then
                        some (0 : Int)
                      else
                        some (8 : Int)
                    else
                      some (8 : Int)
                  else
                    some (8 : Int)
              else
                if (a0.1 == (2 : Int)) = true then
                  if (decide (a0.2.2.2.2.1 > (0 : Int))) = true then
                    if (decide (a0.2.2.2.2.1 < a0.2.2.2.1)) = true then
                      some (0 : Int)
                    else
                      some (8 : Int)
                  else
                    some (8 : Int)
                else
                  some (8 : Int)) := (FnI.call_eq (by kernel_rfl)).trans (by kernel_rfl)
noncomputable def header_Check_S (acc : List AV → Bool) : Summ Tryz.prog GT := header_Check_I.summ mixed acc false false

/-! bitloft/header.Parse -/
noncomputable def header_Parse_I : FnI Tryz.prog GT := { f := 61, cuts := [⟨(5, 3), [0, 2, 4, 12, 13], false, false⟩, ⟨(8, 7), [0, 2, 4, 5, 12, 13, 17, 18], false, false⟩], tab := [header_Check_S (fun _ => true)], fm := ⟨true, [.val T_api_BlockHead [], .val (.int .i64) []]⟩ }
noncomputable def header_Parse (a0 : List Int) : Option (D_api_BlockHead × Int) := header_Parse_I.call [(.sl (.int .u8) false a0)] []
noncomputable def header_Parse_c1 (v0 : List Int) (v12 : (List Int)) (v13 : Int) (b8 : D_api_BlockHead) (b9 : (List Int)) : Option (D_api_BlockHead × Int) := header_Parse_I.sem ⟨[.code (cIn (cIn (cSnd (cFst (cSnd (cSnd (cSnd (bodyOf Tryz.prog 61)))))))), .inLoop (cIn (cIn (cSnd (cFst (cSnd (cSnd (cSnd (bodyOf Tryz.prog 61)))))))), .inBlock 0, .code (cSnd (cSnd (cSnd (cSnd (bodyOf Tryz.prog 61)))))], ⟨[(0, (.one (.sl (.int .u8) false v0))), (2, (.one (.ptr T_api_BlockHead 8 []))), (4, (.one (.ptr (.arr 5 (.int .i64)) 9 []))), (12, (.one (.agg (.arr 5 (.int .i64)) v12))), (13, (.one (.int .i64 v13)))], [(8, some (.box T_api_BlockHead (inj false T_api_BlockHead b8))), (9, some (.box (.arr 5 (.int .i64)) b9))], 10⟩⟩
noncomputable def header_Parse_c2 (v0 : List Int) (v5 : Int) (v12 : (List Int)) (v13 : Int) (v17 : Int) (v18 : Int) (b8 : D_api_BlockHead) (b9 : (List Int)) : Option (D_api_BlockHead × Int) := header_Parse_I.sem ⟨[.code (cIn (cIn (cSnd (cSnd (cIn (cFst (cSnd (cSnd (cIn (cIn (cSnd (cFst (cSnd (cSnd (cSnd (bodyOf Tryz.prog 61)))))))))))))))), .inLoop (cIn (cIn (cSnd (cSnd (cIn (cFst (cSnd (cSnd (cIn (cIn (cSnd (cFst (cSnd (cSnd (cSnd (bodyOf Tryz.prog 61)))))))))))))))), .inBlock 2, .inBlock 1, .code (cSnd (cSnd (cSnd (cIn (cIn (cSnd (cFst (cSnd (cSnd (cSnd (bodyOf Tryz.prog 61))))))))))), .inLoop (cIn (cIn (cSnd (cFst (cSnd (cSnd (cSnd (bodyOf Tryz.prog 61)))))))), .inBlock 0, .code (cSnd (cSnd (cSnd (cSnd (bodyOf Tryz.prog 61)))))], ⟨[(0, (.one (.sl (.int .u8) false v0))), (2, (.one (.ptr T_api_BlockHead 8 []))), (4, (.one (.ptr (.arr 5 (.int .i64)) 9 []))), (5, (.one (.int .i64 v5))), (12, (.one (.agg (.arr 5 (.int .i64)) v12))), (13, (.one (.int .i64 v13))), (17, (.one (.int .i64 v17))), (18, (.one (.int .i64 v18)))], [(8, some (.box T_api_BlockHead (inj false T_api_BlockHead b8))), (9, some (.box (.arr 5 (.int .i64)) b9))], 10⟩⟩
theorem header_Parse_eq (a0 : List Int) : header_Parse a0 = (
  if ((Int.ofNat (List.length a0)) != (28 : Int)) = true then
    some (((0 : Int), ((0 : Int), ((0 : Int), ((0 : Int), ((0 : Int), ((List.replicate 20 (0 : Int)), ())))))), (12 : Int))
  else
    header_Parse_c1 a0 G_widths (0 : Int) ((0 : Int), ((0 : Int), ((0 : Int), ((0 : Int), ((0 : Int), ((List.replicate 20 (0 : Int)), ())))))) (List.replicate 5 (0 : Int))) := (FnI.call_eq (by kernel_rfl)).trans (by kernel_rfl)
theorem header_Parse_c1_eq (v0 : List Int) (v12 : (List Int)) (v13 : Int) (b8 : D_api_BlockHead) (b9 : (List Int)) : header_Parse_c1 v0 v12 v13 b8 b9 = (
  if (decide (v13 < (5 : Int))) = true then
    gd (0 ≤ v13) <|
    gd (v13 < (5 : Int)) <|
    header_Parse_c2 v0 v13 v12 v13 (List.getD v12 (Int.toNat v13) (0 : Int)) (0 : Int) b8 b9
  else
    gd (0 ≤ (0 : Int)) <|
    gd ((0 : Int) < (5 : Int)) <|
    gd (0 ≤ (1 : Int)) <|
    gd ((1 : Int) < (5 : Int)) <|
    gd (0 ≤ (2 : Int)) <|
    gd ((2 : Int) < (5 : Int)) <|
    gd (0 ≤ (3 : Int)) <|
    gd ((3 : Int) < (5 : Int)) <|
    gd (0 ≤ (4 : Int)) <|
    gd ((4 : Int) < (5 : Int)) <|
    (header_Check ((IntKind.wrap .u8 (List.getD b9 0 (0 : Int))), ((List.getD b9 1 (0 : Int)), ((List.getD b9 2 (0 : Int)), ((List.getD b9 3 (0 : Int)), ((List.getD b9 4 (0 : Int)), ((splice (List.replicate 20 (0 : Int)) 0 (List.take (min (List.length v0) 20) v0)), ()))))))).bind fun (r1 : (Int)) =>
    if (r1 != (0 : Int)) = true then
      some (((0 : Int), ((0 : Int), ((0 : Int), ((0 : Int), ((0 : Int), ((List.replicate 20 (0 : Int)), ())))))), (12 : Int))
    else
      some (((IntKind.wrap .u8 (List.getD b9 0 (0 : Int))), ((List.getD b9 1 (0 : Int)), ((List.getD b9 2 (0 : Int)), ((List.getD b9 3 (0 : Int)), ((List.getD b9 4 (0 : Int)), ((splice (List.replicate 20 (0 : Int)) 0 (List.take (min (List.length v0) 20) v0)), ())))))), (0 : Int))) := (FnI.sem_eq _).trans (by kernel_rfl)
theorem header_Parse_c2_eq (v0 : List Int) (v5 : Int) (v12 : (List Int)) (v13 : Int) (v17 : Int) (v18 : Int) (b8 : D_api_BlockHead) (b9 : (List Int)) : header_Parse_c2 v0 v5 v12 v13 v17 v18 b8 b9 = (
  if (decide (v18 < v17)) = true then
    gd (0 ≤ v5) <|
    gd (v5 < (5 : Int)) <|
    gd (0 ≤ (8 : Int)) <|
    gd (0 ≤ (0 : Int)) <|
    gd ((0 : Int) < (Int.ofNat (List.length v0))) <|
    gd (0 ≤ v5) <|
    gd (v5 < (5 : Int)) <|
    gd (0 ≤ (1 : Int)) <|
    gd ((1 : Int) ≤ (Int.ofNat (List.length v0))) <|
    header_Parse_c2 (List.drop 1 v0) v5 v12 v13 v17 (IntKind.wrap .i64 (v18 + (1 : Int))) b8 (List.set b9 (Int.toNat v5) (bitsOr .i64 (IntKind.wrap .i64 ((List.getD b9 (Int.toNat v5) (0 : Int)) * (256 : Int))) (IntKind.wrap .i64 (List.getD v0 0 (0 : Int)))))
  else
    header_Parse_c1 v0 v12 (IntKind.wrap .i64 (v13 + (1 : Int))) b8 b9) := (FnI.sem_eq _).trans (by kernel_rfl)
noncomputable def header_Parse_S (acc : List AV → Bool) : Summ Tryz.prog GT := header_Parse_I.summ mixed acc false false

/-! bitloft/marker.check -/
noncomputable def marker_check_I : FnI Tryz.prog GT := { f := 76, cuts := [], tab := [], fm := ⟨true, [.val (.int .i64) []]⟩ }
noncomputable def marker_check (a0 : List Int) (a1 : Int) : Option (Int) := marker_check_I.call [(.sl (.int .u8) false a0), (.int .i64 a1)] []
theorem marker_check_eq (a0 : List Int) (a1 : Int) : marker_check a0 a1 = (
  if (decide ((Int.ofNat (List.length a0)) > (50000 : Int))) = true then
    some (4 : Int)
  else
    if (decide (a1 < (0 : Int))) = true then
      some (2 : Int)
    else
      if (decide (a1 > (Int.ofNat (List.length a0)))) = true then
        some (2 : Int)
      else
        some (0 : Int)) := (FnI.call_eq (by kernel_rfl)).trans (by kernel_rfl)
noncomputable def marker_check_S (acc : List AV → Bool) : Summ Tryz.prog GT := marker_check_I.summ mixed acc false false

/-! bitloft/marker.Bytes -/
noncomputable def marker_Bytes_I : FnI Tryz.prog GT := { f := 77, cuts := [], tab := [], fm := ⟨true, [.val (.slice (.int .u8)) [.pu]]⟩ }
noncomputable def marker_Bytes : Option (List Int) := marker_Bytes_I.call [] []
theorem marker_Bytes_eq : marker_Bytes = (
  gd (0 < 13) <|
  some ([(183 : Int), (98 : Int), (105 : Int), (116 : Int), (108 : Int), (111 : Int), (102 : Int), (116 : Int), (32 : Int), (98 : Int), (108 : Int), (107 : Int), (10 : Int)])) := (FnI.call_eq (by kernel_rfl)).trans (by kernel_rfl)
noncomputable def marker_Bytes_S (acc : List AV → Bool) : Summ Tryz.prog GT := marker_Bytes_I.summ mixed acc false false

/-! bitloft/marker.At -/
noncomputable def marker_At_I : FnI Tryz.prog GT := { f := 62, cuts := [], tab := [marker_check_S (fun _ => true), marker_Bytes_S (fun _ => true), bytes_HasPrefix_S (fun _ => true)], fm := ⟨true, [.val .bool [], .val (.int .i64) []]⟩ }
noncomputable def marker_At (a0 : List Int) (a1 : Int) : Option (Bool × Int) := marker_At_I.call [(.sl (.int .u8) false a0), (.int .i64 a1)] []
theorem marker_At_eq (a0 : List Int) (a1 : Int) : marker_At a0 a1 = (
  (marker_check a0 a1).bind fun (r1 : (Int)) =>
  if (r1 != (0 : Int)) = true then
    some (false, r1)
  else
    gd (0 ≤ a1) <|
    gd (a1 ≤ (Int.ofNat (List.length a0))) <|
    (marker_Bytes).bind fun (r2 : (List Int)) =>
    (bytes_HasPrefix (List.drop (Int.toNat a1) a0) r2).bind fun (r3 : (Bool)) =>
    some (r3, (0 : Int))) := (FnI.call_eq (by kernel_rfl)).trans (by kernel_rfl)
noncomputable def marker_At_S (acc : List AV → Bool) : Summ Tryz.prog GT := marker_At_I.summ mixed acc false false

/-! bytes.Clone -/
noncomputable def bytes_Clone_I : FnI Tryz.prog GT := { f := 63, cuts := [], tab := [], fm := ⟨true, [.val (.slice (.int .u8)) [.nw]]⟩ }
noncomputable def bytes_Clone (a0 : List Int) : Option (List Int) := bytes_Clone_I.call [(.sl (.int .u8) false a0)] []
theorem bytes_Clone_eq (a0 : List Int) : bytes_Clone a0 = (
  anyv (fun (r1 : Bool) => r1 = true → a0 = []) fun (r1 : Bool) =>
  if r1 = true then
    some ([])
  else
    gd ((List.length ([] ++ a0)) * 1 ≤ 140737488355328) <|
    some ([] ++ a0)) := (FnI.call_eq (by kernel_rfl)).trans (by kernel_rfl)
noncomputable def bytes_Clone_S (acc : List AV → Bool) : Summ Tryz.prog GT := bytes_Clone_I.summ mixed acc false false

/-! bitloft/block.Read -/
noncomputable def block_Read_I : FnI Tryz.prog GT := { f := 47, cuts := [], tab := [header_Parse_S (fun _ => true), marker_At_S (fun _ => true), bytes_Clone_S (fun _ => true)], fm := ⟨true, [.val T_api_Block [], .val (.int .i64) [], .val (.int .i64) []]⟩ }
noncomputable def block_Read (a0 : List Int) : Option (D_api_Block × Int × Int) := block_Read_I.call [(.sl (.int .u8) false a0)] []
theorem block_Read_eq (a0 : List Int) : block_Read a0 = (
  if (decide ((Int.ofNat (List.length a0)) > (50000 : Int))) = true then
    some ((((0 : Int), ((0 : Int), ((0 : Int), ((0 : Int), ((0 : Int), ((List.replicate 20 (0 : Int)), ())))))), ([], ())), ((0 : Int), (4 : Int)))
  else
    if (decide ((Int.ofNat (List.length a0)) < (41 : Int))) = true then
      some ((((0 : Int), ((0 : Int), ((0 : Int), ((0 : Int), ((0 : Int), ((List.replicate 20 (0 : Int)), ())))))), ([], ())), ((0 : Int), (18 : Int)))
    else
      gd (0 ≤ (13 : Int)) <|
      gd ((13 : Int) ≤ (41 : Int)) <|
      gd ((41 : Int) ≤ (Int.ofNat (List.length a0))) <|
      (header_Parse (List.take 28 (List.drop 13 a0))).bind fun (r1 : (D_api_BlockHead × Int)) =>
      (marker_At a0 (0 : Int)).bind fun (r2 : (Bool × Int)) =>
      if (not r2.1) = true then
        some ((((0 : Int), ((0 : Int), ((0 : Int), ((0 : Int), ((0 : Int), ((List.replicate 20 (0 : Int)), ())))))), ([], ())), ((0 : Int), (12 : Int)))
      else
        if (r1.2 != (0 : Int)) = true then
          some ((((0 : Int), ((0 : Int), ((0 : Int), ((0 : Int), ((0 : Int), ((List.replicate 20 (0 : Int)), ())))))), ([], ())), ((0 : Int), (12 : Int)))
        else
          if (decide ((Int.ofNat (List.length a0)) < (IntKind.wrap .i64 ((41 : Int) + r1.1.2.2.2.2.1)))) = true then
            some ((((0 : Int), ((0 : Int), ((0 : Int), ((0 : Int), ((0 : Int), ((List.replicate 20 (0 : Int)), ())))))), ([], ())), ((0 : Int), (18 : Int)))
          else
            gd (0 ≤ (41 : Int)) <|
            gd ((41 : Int) ≤ (IntKind.wrap .i64 ((41 : Int) + r1.1.2.2.2.2.1))) <|
            gd ((IntKind.wrap .i64 ((41 : Int) + r1.1.2.2.2.2.1)) ≤ (Int.ofNat (List.length a0))) <|
            (bytes_Clone (List.take ((Int.toNat (IntKind.wrap .i64 ((41 : Int) + r1.1.2.2.2.2.1))) - 41) (List.drop 41 a0))).bind fun (r3 : (List Int)) =>
            some ((r1.1, (r3, ())), ((IntKind.wrap .i64 ((41 : Int) + r1.1.2.2.2.2.1)), (0 : Int)))) := (FnI.call_eq (by kernel_rfl)).trans (by kernel_rfl)
noncomputable def block_Read_S (acc : List AV → Bool) : Summ Tryz.prog GT := block_Read_I.summ mixed acc false false

/-! bitloft/list.is -/
noncomputable def list_is_I : FnI Tryz.prog GT := { f := 48, cuts := [], tab := [], fm := ⟨true, [.val .bool []]⟩ }
noncomputable def list_is (a0 : D_api_BlockHead) (a1 : D_api_Piece) : Option (Bool) := list_is_I.call [(.agg T_api_BlockHead (inj false T_api_BlockHead a0)), (.agg T_api_Piece (inj false T_api_Piece a1))] []
theorem list_is_eq (a0 : D_api_BlockHead) (a1 : D_api_Piece) : list_is a0 a1 = (
  some (peq T_api_Piece (a0.2.1, (a0.2.2.1, (a0.2.2.2.1, ()))) a1)) := (FnI.call_eq (by kernel_rfl)).trans (by kernel_rfl)
noncomputable def list_is_S (acc : List AV → Bool) : Summ Tryz.prog GT := list_is_I.summ mixed acc false false

/-! bitloft/list.all -/
noncomputable def list_all_I : FnI Tryz.prog GT := { f := 34, cuts := [⟨(7, 3), [0, 2, 7, 9, 10, 32, 33, 34], false, false⟩], tab := [list_Head_S (fun _ => true), list_pieces_S (fun _ => true), block_Read_S (fun _ => true), list_is_S (fun _ => true)], fm := ⟨true, [.val T_api_Listing [], .val (.slice T_api_Block) [.nw], .val (.int .i64) []]⟩ }
noncomputable def list_all (a0 : List Int) : Option (D_api_Listing × List D_api_Block × Int) := list_all_I.call [(.sl (.int .u8) false a0)] []
noncomputable def list_all_c1 (v0 : List Int) (v7 : Int) (v33 : Int) (v34 : Int) (b8a : D_api_Settings) (b8bbb : Unit) (b9a : D_api_Settings) (b9bbb : Unit) (h10 : List D_api_Block) (h11 : List D_api_Piece) (h12 : List D_api_Record) (h13 : List D_api_BlockHead) (h14 : List D_api_Record) (h15 : List D_api_BlockHead) : Option (D_api_Listing × List D_api_Block × Int) := list_all_I.sem ⟨[.code (cIn (cIn (cSnd (cFst (cSnd (cSnd (cSnd (cSnd (cSnd (bodyOf Tryz.prog 34)))))))))), .inLoop (cIn (cIn (cSnd (cFst (cSnd (cSnd (cSnd (cSnd (cSnd (bodyOf Tryz.prog 34)))))))))), .inBlock 0, .code (cSnd (cSnd (cSnd (cSnd (cSnd (cSnd (bodyOf Tryz.prog 34)))))))], ⟨[(0, (.one (.sl (.int .u8) false v0))), (2, (.one (.ptr T_api_Listing 8 []))), (7, (.one (.int .i64 v7))), (9, (.one (.ptr T_api_Listing 9 []))), (10, (.one (.ref T_api_Block 10 0 (List.length h10) true))), (32, (.one (.ref T_api_Piece 11 0 (List.length h11) true))), (33, (.one (.int .i64 v33))), (34, (.one (.int .i64 v34)))], [(8, some (.box T_api_Listing ((inj false T_api_Settings b8a), ((SV.ref 12 0 (List.length h12) true), ((SV.ref 13 0 (List.length h13) true), b8bbb))))), (9, some (.box T_api_Listing ((inj false T_api_Settings b9a), ((SV.ref 14 0 (List.length h14) true), ((SV.ref 15 0 (List.length h15) true), b9bbb))))), (10, some (.row T_api_Block true h10)), (11, some (.row T_api_Piece true h11)), (12, some (.row T_api_Record true h12)), (13, some (.row T_api_BlockHead true h13)), (14, some (.row T_api_Record true h14)), (15, some (.row T_api_BlockHead true h15))], 16⟩⟩
theorem list_all_eq (a0 : List Int) : list_all a0 = (
  (list_Head a0).bind fun (r1 : (D_api_Settings × List D_api_Record × Int × Int)) =>
  if (r1.2.2.2 != (0 : Int)) = true then
    some ((((0 : Int), ((0 : Int), ())), ([], ([], ()))), ([], r1.2.2.2))
  else
    (list_pieces r1.1 r1.2.1).bind fun (r2 : (List D_api_Piece)) =>
    list_all_c1 a0 r1.2.2.1 (Int.ofNat (List.length r2)) (0 : Int) ((0 : Int), ((0 : Int), ())) () r1.1 () [] r2 [] [] r1.2.1 []) := (FnI.call_eq (by kernel_rfl)).trans (by kernel_rfl)
theorem list_all_c1_eq (v0 : List Int) (v7 : Int) (v33 : Int) (v34 : Int) (b8a : D_api_Settings) (b8bbb : Unit) (b9a : D_api_Settings) (b9bbb : Unit) (h10 : List D_api_Block) (h11 : List D_api_Piece) (h12 : List D_api_Record) (h13 : List D_api_BlockHead) (h14 : List D_api_Record) (h15 : List D_api_BlockHead) : list_all_c1 v0 v7 v33 v34 b8a b8bbb b9a b9bbb h10 h11 h12 h13 h14 h15 = (
  if (decide (v34 < v33)) = true then
    gd (0 ≤ v34) <|
    gd (v34 < (Int.ofNat (List.length h11))) <|
    gd (0 ≤ v7) <|
    gd (v7 ≤ (Int.ofNat (List.length v0))) <|
    (block_Read (List.drop (Int.toNat v7) v0)).bind fun (r3 : (D_api_Block × Int × Int)) =>
    if (r3.2.2 != (0 : Int)) = true then
      some ((((0 : Int), ((0 : Int), ())), ([], ([], ()))), ([], r3.2.2))
    else
      (list_is r3.1.1 (List.getD h11 (0 + (Int.toNat v34)) (pzero T_api_Piece))).bind fun (r4 : (Bool)) =>
      if (not r4) = true then
        some ((((0 : Int), ((0 : Int), ())), ([], ([], ()))), ([], (32 : Int)))
      else
        gd ((List.length (h15 ++ [r3.1.1])) * 64 ≤ 140737488355328) <|
        gd ((List.length (h10 ++ [r3.1])) * 88 ≤ 140737488355328) <|
        list_all_c1 v0 (IntKind.wrap .i64 (v7 + r3.2.1)) v33 (IntKind.wrap .i64 (v34 + (1 : Int))) b8a b8bbb b9a b9bbb (h10 ++ [r3.1]) h11 h12 h13 h14 (h15 ++ [r3.1.1])
  else
    if (decide (v7 < (Int.ofNat (List.length v0)))) = true then
      some ((((0 : Int), ((0 : Int), ())), ([], ([], ()))), ([], (12 : Int)))
    else
      some ((b9a, (h14, (h15, b9bbb))), (h10, (0 : Int)))) := (FnI.sem_eq _).trans (by kernel_rfl)
noncomputable def list_all_S (acc : List AV → Bool) : Summ Tryz.prog GT := list_all_I.summ mixed acc false false

/-! bitloft/list.List -/
noncomputable def list_List_I : FnI Tryz.prog GT := { f := 16, cuts := [], tab := [list_all_S (fun _ => true)], fm := ⟨true, [.val T_api_Listing [], .val (.int .i64) []]⟩ }
noncomputable def list_List (a0 : List Int) : Option (D_api_Listing × Int) := list_List_I.call [(.sl (.int .u8) false a0)] []
theorem list_List_eq (a0 : List Int) : list_List a0 = (
  (list_all a0).bind fun (r1 : (D_api_Listing × List D_api_Block × Int)) =>
  some (r1.1, r1.2.2)) := (FnI.call_eq (by kernel_rfl)).trans (by kernel_rfl)
noncomputable def list_List_S (acc : List AV → Bool) : Summ Tryz.prog GT := list_List_I.summ mixed acc false false

/-! bitloft/list.Check -/
noncomputable def list_Check_I : FnI Tryz.prog GT := { f := 35, cuts := [⟨(7, 3), [3, 28, 29, 30], false, false⟩], tab := [pack_Check_S (fun _ => true), member_Valid_S (fun _ => true), list_pieces_S (fun _ => true), header_Check_S (fun _ => true), list_is_S (fun _ => true)], fm := ⟨true, [.val (.int .i64) []]⟩ }
noncomputable def list_Check (a0 : D_api_Listing) : Option (Int) := list_Check_I.call [(.agg T_api_Listing (inj false T_api_Listing a0))] []
noncomputable def list_Check_c1 (v28 : List D_api_BlockHead) (v29 : Int) (v30 : Int) (h8 : List D_api_Piece) : Option (Int) := list_Check_I.sem ⟨[.code (cIn (cIn (cSnd (cFst (cSnd (cSnd (cSnd (cSnd (bodyOf Tryz.prog 35))))))))), .inLoop (cIn (cIn (cSnd (cFst (cSnd (cSnd (cSnd (cSnd (bodyOf Tryz.prog 35))))))))), .inBlock 0, .code (cSnd (cSnd (cSnd (cSnd (cSnd (bodyOf Tryz.prog 35))))))], ⟨[(3, (.one (.ref T_api_Piece 8 0 (List.length h8) true))), (28, (.one (.sl T_api_BlockHead false v28))), (29, (.one (.int .i64 v29))), (30, (.one (.int .i64 v30)))], [(8, some (.row T_api_Piece true h8))], 9⟩⟩
theorem list_Check_eq (a0 : D_api_Listing) : list_Check a0 = (
  (pack_Check a0.1).bind fun (r1 : (Int)) =>
  if (r1 != (0 : Int)) = true then
    some (8 : Int)
  else
    (member_Valid a0.2.1).bind fun (r2 : (Int)) =>
    if (r2 != (0 : Int)) = true then
      some (8 : Int)
    else
      (list_pieces a0.1 a0.2.1).bind fun (r3 : (List D_api_Piece)) =>
      if ((Int.ofNat (List.length r3)) != (Int.ofNat (List.length a0.2.2.1))) = true then
        some (8 : Int)
      else
        list_Check_c1 a0.2.2.1 (Int.ofNat (List.length a0.2.2.1)) (0 : Int) r3) := (FnI.call_eq (by kernel_rfl)).trans (by kernel_rfl)
theorem list_Check_c1_eq (v28 : List D_api_BlockHead) (v29 : Int) (v30 : Int) (h8 : List D_api_Piece) : list_Check_c1 v28 v29 v30 h8 = (
  if (decide (v30 < v29)) = true then
    gd (0 ≤ v30) <|
    gd (v30 < (Int.ofNat (List.length v28))) <|
    (header_Check (List.getD v28 (Int.toNat v30) (pzero T_api_BlockHead))).bind fun (r4 : (Int)) =>
    if (r4 != (0 : Int)) = true then
      some (8 : Int)
    else
      gd (0 ≤ v30) <|
      gd (v30 < (Int.ofNat (List.length h8))) <|
      (list_is (List.getD v28 (Int.toNat v30) (pzero T_api_BlockHead)) (List.getD h8 (0 + (Int.toNat v30)) (pzero T_api_Piece))).bind fun (r5 : (Bool)) =>
      if (not r5) = true then
        some (8 : Int)
      else
        list_Check_c1 v28 v29 (IntKind.wrap .i64 (v30 + (1 : Int))) h8
  else
    some (0 : Int)) := (FnI.sem_eq _).trans (by kernel_rfl)
noncomputable def list_Check_S (acc : List AV → Bool) : Summ Tryz.prog GT := list_Check_I.summ mixed acc false false

/-! bitloft/list.Places -/
noncomputable def list_Places_I : FnI Tryz.prog GT := { f := 17, cuts := [⟨(8, 3), [7, 8, 27, 28, 29], false, false⟩], tab := [list_Check_S (fun _ => true), pack_Head_S (fun _ => true)], fm := ⟨true, [.val (.slice (.int .i64)) [.nw], .val (.int .i64) []]⟩ }
noncomputable def list_Places (a0 : D_api_Listing) : Option (List Int × Int) := list_Places_I.call [(.agg T_api_Listing (inj false T_api_Listing a0))] []
noncomputable def list_Places_c1 (v7 : Int) (v27 : List D_api_BlockHead) (v28 : Int) (v29 : Int) (h8 : List Int) : Option (List Int × Int) := list_Places_I.sem ⟨[.code (cIn (cIn (cSnd (cFst (cSnd (cSnd (cSnd (cSnd (cSnd (bodyOf Tryz.prog 17)))))))))), .inLoop (cIn (cIn (cSnd (cFst (cSnd (cSnd (cSnd (cSnd (cSnd (bodyOf Tryz.prog 17)))))))))), .inBlock 0, .code (cSnd (cSnd (cSnd (cSnd (cSnd (cSnd (bodyOf Tryz.prog 17)))))))], ⟨[(7, (.one (.int .i64 v7))), (8, (.one (.ref (.int .i64) 8 0 (List.length h8) true))), (27, (.one (.sl T_api_BlockHead false v27))), (28, (.one (.int .i64 v28))), (29, (.one (.int .i64 v29)))], [(8, some (.row (.int .i64) true h8))], 9⟩⟩
theorem list_Places_eq (a0 : D_api_Listing) : list_Places a0 = (
  (list_Check a0).bind fun (r1 : (Int)) =>
  if (r1 != (0 : Int)) = true then
    some ([], r1)
  else
    (pack_Head a0.1 a0.2.1).bind fun (r2 : (List Int × Int)) =>
    list_Places_c1 (Int.ofNat (List.length r2.1)) a0.2.2.1 (Int.ofNat (List.length a0.2.2.1)) (0 : Int) []) := (FnI.call_eq (by kernel_rfl)).trans (by kernel_rfl)
theorem list_Places_c1_eq (v7 : Int) (v27 : List D_api_BlockHead) (v28 : Int) (v29 : Int) (h8 : List Int) : list_Places_c1 v7 v27 v28 v29 h8 = (
  if (decide (v29 < v28)) = true then
    gd (0 ≤ v29) <|
    gd (v29 < (Int.ofNat (List.length v27))) <|
    gd ((List.length (h8 ++ [v7])) * 8 ≤ 140737488355328) <|
    list_Places_c1 (IntKind.wrap .i64 (v7 + (IntKind.wrap .i64 ((41 : Int) + (List.getD v27 (Int.toNat v29) (pzero T_api_BlockHead)).2.2.2.2.1)))) v27 v28 (IntKind.wrap .i64 (v29 + (1 : Int))) (h8 ++ [v7])
  else
    some (h8, (0 : Int))) := (FnI.sem_eq _).trans (by kernel_rfl)
noncomputable def list_Places_S (acc : List AV → Bool) : Summ Tryz.prog GT := list_Places_I.summ mixed acc false false

/-! bitloft/damage.Blocks -/
noncomputable def damage_Blocks_I : FnI Tryz.prog GT := { f := 7, cuts := [⟨(10, 3), [0, 1, 7, 11, 33, 34, 35], false, false⟩], tab := [damage_Check_S (fun _ => true), list_List_S (fun _ => true), list_Places_S (fun _ => true), damage_Origins_S (fun _ => true), damage_left_S (fun _ => true)], fm := ⟨true, [.val (.slice T_api_Piece) [.nw], .val (.int .i64) []]⟩ }
noncomputable def damage_Blocks (a0 : List Int) (a1 : List D_api_Harm) : Option (List D_api_Piece × Int) := damage_Blocks_I.call [(.sl (.int .u8) false a0), (.sl T_api_Harm false a1)] []
noncomputable def damage_Blocks_c1 (v0 : List Int) (v1 : List D_api_Harm) (v34 : Int) (v35 : Int) (b8 : D_api_Listing) (h9 : List D_api_Piece) (h10 : List Int) : Option (List D_api_Piece × Int) := damage_Blocks_I.sem ⟨[.code (cIn (cIn (cSnd (cFst (cSnd (cSnd (cSnd (cSnd (cSnd (cSnd (bodyOf Tryz.prog 7))))))))))), .inLoop (cIn (cIn (cSnd (cFst (cSnd (cSnd (cSnd (cSnd (cSnd (cSnd (bodyOf Tryz.prog 7))))))))))), .inBlock 0, .code (cSnd (cSnd (cSnd (cSnd (cSnd (cSnd (cSnd (bodyOf Tryz.prog 7))))))))], ⟨[(0, (.one (.sl (.int .u8) false v0))), (1, (.one (.sl T_api_Harm false v1))), (7, (.one (.ptr T_api_Listing 8 []))), (11, (.one (.ref T_api_Piece 9 0 (List.length h9) true))), (33, (.one (.ref (.int .i64) 10 0 (List.length h10) true))), (34, (.one (.int .i64 v34))), (35, (.one (.int .i64 v35)))], [(8, some (.box T_api_Listing (inj true T_api_Listing b8))), (9, some (.row T_api_Piece true h9)), (10, some (.row (.int .i64) true h10))], 11⟩⟩
theorem damage_Blocks_eq (a0 : List Int) (a1 : List D_api_Harm) : damage_Blocks a0 a1 = (
  (damage_Check a1).bind fun (r1 : (Int)) =>
  if (r1 != (0 : Int)) = true then
    some ([], r1)
  else
    (list_List a0).bind fun (r2 : (D_api_Listing × Int)) =>
    if (r2.2 != (0 : Int)) = true then
      some ([], r2.2)
    else
      (list_Places r2.1).bind fun (r3 : (List Int × Int)) =>
      damage_Blocks_c1 a0 a1 (Int.ofNat (List.length r3.1)) (0 : Int) r2.1 [] r3.1) := (FnI.call_eq (by kernel_rfl)).trans (by kernel_rfl)
theorem damage_Blocks_c1_eq (v0 : List Int) (v1 : List D_api_Harm) (v34 : Int) (v35 : Int) (b8 : D_api_Listing) (h9 : List D_api_Piece) (h10 : List Int) : damage_Blocks_c1 v0 v1 v34 v35 b8 h9 h10 = (
  if (decide (v35 < v34)) = true then
    gd (0 ≤ v35) <|
    gd (v35 < (Int.ofNat (List.length h10))) <|
    gd (0 ≤ v35) <|
    gd (v35 < (Int.ofNat (List.length b8.2.2.1))) <|
    gd ((List.length (h9 ++ [((0 : Int), ((List.getD h10 (0 + (Int.toNat v35)) (0 : Int)), ((IntKind.wrap .i64 ((41 : Int) + (List.getD b8.2.2.1 (Int.toNat v35) (pzero T_api_BlockHead)).2.2.2.2.1)), ())))])) * 24 ≤ 140737488355328) <|
    damage_Blocks_c1 v0 v1 v34 (IntKind.wrap .i64 (v35 + (1 : Int))) b8 (h9 ++ [((0 : Int), ((List.getD h10 (0 + (Int.toNat v35)) (0 : Int)), ((IntKind.wrap .i64 ((41 : Int) + (List.getD b8.2.2.1 (Int.toNat v35) (pzero T_api_BlockHead)).2.2.2.2.1)), ())))]) h10
  else
    (damage_Origins (Int.ofNat (List.length v0)) v1).bind fun (r4 : (List Int × Int)) =>
    if (r4.2 != (0 : Int)) = true then
      some ([], r4.2)
    else
      (damage_left h9 r4.1).bind fun (r5 : (List D_api_Piece)) =>
      some (r5, (0 : Int))) := (FnI.sem_eq _).trans (by kernel_rfl)
noncomputable def damage_Blocks_S (acc : List AV → Bool) : Summ Tryz.prog GT := damage_Blocks_I.summ mixed acc false false

/-! bitloft/bitloftref30.Front -/
noncomputable def bitloftref30_Front_I : FnI Tryz.prog GT := { f := 21, cuts := [], tab := [], fm := ⟨true, [.val (.slice (.int .u8)) [.nw]]⟩ }
noncomputable def bitloftref30_Front (a0 : D_api_Settings) (a1 : Int) : Option (List Int) := bitloftref30_Front_I.call [(.agg T_api_Settings (inj false T_api_Settings a0)), (.int .i64 a1)] []
theorem bitloftref30_Front_eq (a0 : D_api_Settings) (a1 : Int) : bitloftref30_Front a0 a1 = (
  gd (0 ≤ (8 : Int)) <|
  some ([(66 : Int), (76 : Int), (70 : Int), (1 : Int), (IntKind.wrap .u8 a0.1), (IntKind.wrap .u8 (Int.fdiv a0.2.1 (256 : Int))), (IntKind.wrap .u8 a0.2.1), (IntKind.wrap .u8 a1)])) := (FnI.call_eq (by kernel_rfl)).trans (by kernel_rfl)
noncomputable def bitloftref30_Front_S (acc : List AV → Bool) : Summ Tryz.prog GT := bitloftref30_Front_I.summ mixed acc false false

/-! bitloft/bitloftref28.Bytes -/
noncomputable def bitloftref28_Bytes_I : FnI Tryz.prog GT := { f := 22, cuts := [⟨(3, 3), [0, 3, 4], false, false⟩], tab := [], fm := ⟨true, [.val (.slice (.int .u8)) [.nw]]⟩ }
noncomputable def bitloftref28_Bytes (a0 : List D_api_Record) : Option (List Int) := bitloftref28_Bytes_I.call [(.sl T_api_Record false a0)] []
noncomputable def bitloftref28_Bytes_c1 (v0 : List D_api_Record) (v4 : Int) (h8 : List Int) : Option (List Int) := bitloftref28_Bytes_I.sem ⟨[.code (cIn (cIn (cSnd (cFst (cSnd (cSnd (bodyOf Tryz.prog 22))))))), .inLoop (cIn (cIn (cSnd (cFst (cSnd (cSnd (bodyOf Tryz.prog 22))))))), .inBlock 0, .code (cSnd (cSnd (cSnd (bodyOf Tryz.prog 22))))], ⟨[(0, (.one (.sl T_api_Record false v0))), (3, (.one (.ref (.int .u8) 8 0 (List.length h8) true))), (4, (.one (.int .i64 v4)))], [(8, some (.row (.int .u8) true h8))], 9⟩⟩
theorem bitloftref28_Bytes_eq (a0 : List D_api_Record) : bitloftref28_Bytes a0 = (
  bitloftref28_Bytes_c1 a0 (0 : Int) []) := (FnI.call_eq (by kernel_rfl)).trans (by kernel_rfl)
theorem bitloftref28_Bytes_c1_eq (v0 : List D_api_Record) (v4 : Int) (h8 : List Int) : bitloftref28_Bytes_c1 v0 v4 h8 = (
  if (decide (v4 < (Int.ofNat (List.length v0)))) = true then
    gd (0 ≤ v4) <|
    gd (v4 < (Int.ofNat (List.length v0))) <|
    gd ((List.length (h8 ++ [(IntKind.wrap .u8 (Int.ofNat (ByteArray.size (List.getD v0 (Int.toNat v4) (pzero T_api_Record)).1)))])) * 1 ≤ 140737488355328) <|
    gd ((List.length ((h8 ++ [(IntKind.wrap .u8 (Int.ofNat (ByteArray.size (List.getD v0 (Int.toNat v4) (pzero T_api_Record)).1)))]) ++ (ofStr (List.getD v0 (Int.toNat v4) (pzero T_api_Record)).1))) * 1 ≤ 140737488355328) <|
    gd (0 ≤ (8 : Int)) <|
    gd ((List.length (((h8 ++ [(IntKind.wrap .u8 (Int.ofNat (ByteArray.size (List.getD v0 (Int.toNat v4) (pzero T_api_Record)).1)))]) ++ (ofStr (List.getD v0 (Int.toNat v4) (pzero T_api_Record)).1)) ++ [(IntKind.wrap .u8 (Int.fdiv (List.getD v0 (Int.toNat v4) (pzero T_api_Record)).2.1 (256 : Int))), (IntKind.wrap .u8 (List.getD v0 (Int.toNat v4) (pzero T_api_Record)).2.1)])) * 1 ≤ 140737488355328) <|
    gd ((List.length ((((h8 ++ [(IntKind.wrap .u8 (Int.ofNat (ByteArray.size (List.getD v0 (Int.toNat v4) (pzero T_api_Record)).1)))]) ++ (ofStr (List.getD v0 (Int.toNat v4) (pzero T_api_Record)).1)) ++ [(IntKind.wrap .u8 (Int.fdiv (List.getD v0 (Int.toNat v4) (pzero T_api_Record)).2.1 (256 : Int))), (IntKind.wrap .u8 (List.getD v0 (Int.toNat v4) (pzero T_api_Record)).2.1)]) ++ (List.take 20 (List.drop 0 (List.getD v0 (Int.toNat v4) (pzero T_api_Record)).2.2.1)))) * 1 ≤ 140737488355328) <|
    bitloftref28_Bytes_c1 v0 (IntKind.wrap .i64 (v4 + (1 : Int))) ((((h8 ++ [(IntKind.wrap .u8 (Int.ofNat (ByteArray.size (List.getD v0 (Int.toNat v4) (pzero T_api_Record)).1)))]) ++ (ofStr (List.getD v0 (Int.toNat v4) (pzero T_api_Record)).1)) ++ [(IntKind.wrap .u8 (Int.fdiv (List.getD v0 (Int.toNat v4) (pzero T_api_Record)).2.1 (256 : Int))), (IntKind.wrap .u8 (List.getD v0 (Int.toNat v4) (pzero T_api_Record)).2.1)]) ++ (List.take 20 (List.drop 0 (List.getD v0 (Int.toNat v4) (pzero T_api_Record)).2.2.1)))
  else
    some (h8)) := (FnI.sem_eq _).trans (by kernel_rfl)
noncomputable def bitloftref28_Bytes_S (acc : List AV → Bool) : Summ Tryz.prog GT := bitloftref28_Bytes_I.summ mixed acc false false

/-! bitloft/bitloftref01.Padding -/
noncomputable def bitloftref01_Padding_I : FnI Tryz.prog GT := { f := 38, cuts := [⟨(2, 3), [0, 3], false, false⟩, ⟨(5, 3), [0, 3, 4], false, false⟩], tab := [], fm := ⟨true, [.val (.slice (.int .u8)) [.nw]]⟩ }
noncomputable def bitloftref01_Padding (a0 : Int) : Option (List Int) := bitloftref01_Padding_I.call [(.int .i64 a0)] []
noncomputable def bitloftref01_Padding_c1 (v0 : Int) (h8 : List Int) : Option (List Int) := bitloftref01_Padding_I.sem ⟨[.code (cIn (cIn (cFst (cSnd (cSnd (bodyOf Tryz.prog 38)))))), .inLoop (cIn (cIn (cFst (cSnd (cSnd (bodyOf Tryz.prog 38)))))), .inBlock 0, .code (cSnd (cSnd (cSnd (bodyOf Tryz.prog 38))))], ⟨[(0, (.one (.int .i64 v0))), (3, (.one (.ref (.int .u8) 8 0 (List.length h8) true)))], [(8, some (.row (.int .u8) true h8))], 9⟩⟩
noncomputable def bitloftref01_Padding_c2 (v0 : Int) (v4 : Int) (h8 : List Int) : Option (List Int) := bitloftref01_Padding_I.sem ⟨[.code (cIn (cIn (cSnd (cFst (cSnd (cSnd (cSnd (bodyOf Tryz.prog 38)))))))), .inLoop (cIn (cIn (cSnd (cFst (cSnd (cSnd (cSnd (bodyOf Tryz.prog 38)))))))), .inBlock 2, .code (cSnd (cSnd (cSnd (cSnd (bodyOf Tryz.prog 38)))))], ⟨[(0, (.one (.int .i64 v0))), (3, (.one (.ref (.int .u8) 8 0 (List.length h8) true))), (4, (.one (.int .i64 v4)))], [(8, some (.row (.int .u8) true h8))], 9⟩⟩
theorem bitloftref01_Padding_eq (a0 : Int) : bitloftref01_Padding a0 = (
  bitloftref01_Padding_c1 a0 [(128 : Int)]) := (FnI.call_eq (by kernel_rfl)).trans (by kernel_rfl)
theorem bitloftref01_Padding_c1_eq (v0 : Int) (h8 : List Int) : bitloftref01_Padding_c1 v0 h8 = (
  gd ((64 : Int) ≠ 0) <|
  if ((Int.tmod (IntKind.wrap .i64 ((IntKind.wrap .i64 (v0 + (Int.ofNat (List.length h8)))) + (8 : Int))) (64 : Int)) != (0 : Int)) = true then
    gd ((List.length (h8 ++ [(0 : Int)])) * 1 ≤ 140737488355328) <|
    bitloftref01_Padding_c1 v0 (h8 ++ [(0 : Int)])
  else
    bitloftref01_Padding_c2 v0 (7 : Int) h8) := (FnI.sem_eq _).trans (by kernel_rfl)
theorem bitloftref01_Padding_c2_eq (v0 : Int) (v4 : Int) (h8 : List Int) : bitloftref01_Padding_c2 v0 v4 h8 = (
  if (decide (v4 ≥ (0 : Int))) = true then
    gd (0 ≤ (IntKind.wrap .i64 ((8 : Int) * v4))) <|
    gd ((List.length (h8 ++ [(IntKind.wrap .u8 (shrBy .u64 (IntKind.wrap .u64 ((8 : Int) * (IntKind.wrap .u64 v0))) (IntKind.wrap .i64 ((8 : Int) * v4))))])) * 1 ≤ 140737488355328) <|
    bitloftref01_Padding_c2 v0 (IntKind.wrap .i64 (v4 - (1 : Int))) (h8 ++ [(IntKind.wrap .u8 (shrBy .u64 (IntKind.wrap .u64 ((8 : Int) * (IntKind.wrap .u64 v0))) (IntKind.wrap .i64 ((8 : Int) * v4))))])
  else
    some (h8)) := (FnI.sem_eq _).trans (by kernel_rfl)
noncomputable def bitloftref01_Padding_S (acc : List AV → Bool) : Summ Tryz.prog GT := bitloftref01_Padding_I.summ mixed acc false false

/-! bitloft/bitloftref01.First -/
noncomputable def bitloftref01_First_I : FnI Tryz.prog GT := { f := 39, cuts := [], tab := [], fm := ⟨true, [.val (.arr 5 (.int .u32)) []]⟩ }
noncomputable def bitloftref01_First : Option ((List Int)) := bitloftref01_First_I.call [] []
theorem bitloftref01_First_eq : bitloftref01_First = (
  some (List.set (List.set (List.set (List.set (List.set (List.replicate 5 (0 : Int)) 0 (1732584193 : Int)) 1 (4023233417 : Int)) 2 (2562383102 : Int)) 3 (271733878 : Int)) 4 (3285377520 : Int))) := (FnI.call_eq (by kernel_rfl)).trans (by kernel_rfl)
noncomputable def bitloftref01_First_S (acc : List AV → Bool) : Summ Tryz.prog GT := bitloftref01_First_I.summ mixed acc false false

/-! bitloft/bitloftref01.turn -/
noncomputable def bitloftref01_turn_I : FnI Tryz.prog GT := { f := 54, cuts := [], tab := [], fm := ⟨true, [.val (.int .u32) []]⟩ }
noncomputable def bitloftref01_turn (a0 : Int) (a1 : Int) : Option (Int) := bitloftref01_turn_I.call [(.int .u32 a0), (.int .i64 a1)] []
theorem bitloftref01_turn_eq (a0 : Int) (a1 : Int) : bitloftref01_turn a0 a1 = (
  gd (0 ≤ a1) <|
  gd (0 ≤ (IntKind.wrap .i64 ((32 : Int) - a1))) <|
  some (bitsOr .u32 (IntKind.wrap .u32 (shlBy .u32 a0 a1)) (shrBy .u32 a0 (IntKind.wrap .i64 ((32 : Int) - a1))))) := (FnI.call_eq (by kernel_rfl)).trans (by kernel_rfl)
noncomputable def bitloftref01_turn_S (acc : List AV → Bool) : Summ Tryz.prog GT := bitloftref01_turn_I.summ mixed acc false false

/-! bitloft/bitloftref01.part -/
noncomputable def bitloftref01_part_I : FnI Tryz.prog GT := { f := 55, cuts := [], tab := [], fm := ⟨true, [.val (.int .u32) [], .val (.int .u32) []]⟩ }
noncomputable def bitloftref01_part (a0 : Int) (a1 : Int) (a2 : Int) (a3 : Int) : Option (Int × Int) := bitloftref01_part_I.call [(.int .i64 a0), (.int .u32 a1), (.int .u32 a2), (.int .u32 a3)] []
theorem bitloftref01_part_eq (a0 : Int) (a1 : Int) (a2 : Int) (a3 : Int) : bitloftref01_part a0 a1 a2 a3 = (
  if (decide (a0 < (20 : Int))) = true then
    some ((bitsOr .u32 (bitsAnd .u32 a1 a2) (bitsAnd .u32 (bitsXor .u32 (4294967295 : Int) a1) a3)), (1518500249 : Int))
  else
    if (decide (a0 < (40 : Int))) = true then
      some ((bitsXor .u32 (bitsXor .u32 a1 a2) a3), (1859775393 : Int))
    else
      if (decide (a0 < (60 : Int))) = true then
        some ((bitsOr .u32 (bitsOr .u32 (bitsAnd .u32 a1 a2) (bitsAnd .u32 a1 a3)) (bitsAnd .u32 a2 a3)), (2400959708 : Int))
      else
        some ((bitsXor .u32 (bitsXor .u32 a1 a2) a3), (3395469782 : Int))) := (FnI.call_eq (by kernel_rfl)).trans (by kernel_rfl)
noncomputable def bitloftref01_part_S (acc : List AV → Bool) : Summ Tryz.prog GT := bitloftref01_part_I.summ mixed acc false false

/-! bitloft/bitloftref01.Done -/
noncomputable def bitloftref01_Done_I : FnI Tryz.prog GT := { f := 40, cuts := [⟨(3, 3), [1, 2, 4, 5, 6], false, false⟩, ⟨(7, 3), [2, 4, 5, 7], false, false⟩, ⟨(12, 3), [2, 4, 5, 8, 9], false, false⟩, ⟨(17, 3), [2, 4, 8, 12], false, false⟩], tab := [bitloftref01_turn_S (fun _ => true), bitloftref01_part_S (fun _ => true)], fm := ⟨true, [.val (.arr 5 (.int .u32)) []]⟩ }
noncomputable def bitloftref01_Done (a0 : (List Int)) (a1 : List Int) : Option ((List Int)) := bitloftref01_Done_I.call [(.agg (.arr 5 (.int .u32)) a0), (.sl (.int .u8) false a1)] []
noncomputable def bitloftref01_Done_c1 (v1 : List Int) (v6 : Int) (b8 : (List Int)) (b9 : (List Int)) (h10 : List Int) : Option ((List Int)) := bitloftref01_Done_I.sem ⟨[.code (cIn (cIn (cSnd (cFst (cSnd (cSnd (bodyOf Tryz.prog 40))))))), .inLoop (cIn (cIn (cSnd (cFst (cSnd (cSnd (bodyOf Tryz.prog 40))))))), .inBlock 0, .code (cSnd (cSnd (cSnd (bodyOf Tryz.prog 40))))], ⟨[(1, (.one (.sl (.int .u8) false v1))), (2, (.one (.ptr (.arr 5 (.int .u32)) 8 []))), (4, (.one (.ptr (.arr 5 (.int .u32)) 9 []))), (5, (.one (.ref (.int .u32) 10 0 (List.length h10) true))), (6, (.one (.int .i64 v6)))], [(8, some (.box (.arr 5 (.int .u32)) b8)), (9, some (.box (.arr 5 (.int .u32)) b9)), (10, some (.row (.int .u32) true h10))], 11⟩⟩
noncomputable def bitloftref01_Done_c2 (v7 : Int) (b8 : (List Int)) (b9 : (List Int)) (h10 : List Int) : Option ((List Int)) := bitloftref01_Done_I.sem ⟨[.code (cIn (cIn (cSnd (cFst (cSnd (cSnd (cSnd (bodyOf Tryz.prog 40)))))))), .inLoop (cIn (cIn (cSnd (cFst (cSnd (cSnd (cSnd (bodyOf Tryz.prog 40)))))))), .inBlock 2, .code (cSnd (cSnd (cSnd (cSnd (bodyOf Tryz.prog 40)))))], ⟨[(2, (.one (.ptr (.arr 5 (.int .u32)) 8 []))), (4, (.one (.ptr (.arr 5 (.int .u32)) 9 []))), (5, (.one (.ref (.int .u32) 10 0 (List.length h10) true))), (7, (.one (.int .i64 v7)))], [(8, some (.box (.arr 5 (.int .u32)) b8)), (9, some (.box (.arr 5 (.int .u32)) b9)), (10, some (.row (.int .u32) true h10))], 11⟩⟩
noncomputable def bitloftref01_Done_c3 (v9 : Int) (b8 : (List Int)) (b9 : (List Int)) (h10 : List Int) (b11 : (List Int)) : Option ((List Int)) := bitloftref01_Done_I.sem ⟨[.code (cIn (cIn (cSnd (cFst (cSnd (cSnd (cSnd (cSnd (cSnd (bodyOf Tryz.prog 40)))))))))), .inLoop (cIn (cIn (cSnd (cFst (cSnd (cSnd (cSnd (cSnd (cSnd (bodyOf Tryz.prog 40)))))))))), .inBlock 4, .code (cSnd (cSnd (cSnd (cSnd (cSnd (cSnd (bodyOf Tryz.prog 40)))))))], ⟨[(2, (.one (.ptr (.arr 5 (.int .u32)) 8 []))), (4, (.one (.ptr (.arr 5 (.int .u32)) 9 []))), (5, (.one (.ref (.int .u32) 10 0 (List.length h10) true))), (8, (.one (.ptr (.arr 5 (.int .u32)) 11 []))), (9, (.one (.int .i64 v9)))], [(8, some (.box (.arr 5 (.int .u32)) b8)), (9, some (.box (.arr 5 (.int .u32)) b9)), (10, some (.row (.int .u32) true h10)), (11, some (.box (.arr 5 (.int .u32)) b11))], 12⟩⟩
noncomputable def bitloftref01_Done_c4 (v12 : Int) (b8 : (List Int)) (b9 : (List Int)) (b10 : (List Int)) : Option ((List Int)) := bitloftref01_Done_I.sem ⟨[.code (cIn (cIn (cSnd (cFst (cSnd (cSnd (cSnd (cSnd (cSnd (cSnd (bodyOf Tryz.prog 40))))))))))), .inLoop (cIn (cIn (cSnd (cFst (cSnd (cSnd (cSnd (cSnd (cSnd (cSnd (bodyOf Tryz.prog 40))))))))))), .inBlock 6, .code (cSnd (cSnd (cSnd (cSnd (cSnd (cSnd (cSnd (bodyOf Tryz.prog 40))))))))], ⟨[(2, (.one (.ptr (.arr 5 (.int .u32)) 8 []))), (4, (.one (.ptr (.arr 5 (.int .u32)) 9 []))), (8, (.one (.ptr (.arr 5 (.int .u32)) 10 []))), (12, (.one (.int .i64 v12)))], [(8, some (.box (.arr 5 (.int .u32)) b8)), (9, some (.box (.arr 5 (.int .u32)) b9)), (10, some (.box (.arr 5 (.int .u32)) b10))], 11⟩⟩
theorem bitloftref01_Done_eq (a0 : (List Int)) (a1 : List Int) : bitloftref01_Done a0 a1 = (
  bitloftref01_Done_c1 a1 (0 : Int) a0 (List.replicate 5 (0 : Int)) []) := (FnI.call_eq (by kernel_rfl)).trans (by kernel_rfl)
theorem bitloftref01_Done_c1_eq (v1 : List Int) (v6 : Int) (b8 : (List Int)) (b9 : (List Int)) (h10 : List Int) : bitloftref01_Done_c1 v1 v6 b8 b9 h10 = (
  if (decide (v6 < (16 : Int))) = true then
    gd (0 ≤ (IntKind.wrap .i64 ((4 : Int) * v6))) <|
    gd ((IntKind.wrap .i64 ((4 : Int) * v6)) < (Int.ofNat (List.length v1))) <|
    gd (0 ≤ (IntKind.wrap .i64 ((IntKind.wrap .i64 ((4 : Int) * v6)) + (1 : Int)))) <|
    gd ((IntKind.wrap .i64 ((IntKind.wrap .i64 ((4 : Int) * v6)) + (1 : Int))) < (Int.ofNat (List.length v1))) <|
    gd (0 ≤ (IntKind.wrap .i64 ((IntKind.wrap .i64 ((4 : Int) * v6)) + (2 : Int)))) <|
    gd ((IntKind.wrap .i64 ((IntKind.wrap .i64 ((4 : Int) * v6)) + (2 : Int))) < (Int.ofNat (List.length v1))) <|
    gd (0 ≤ (IntKind.wrap .i64 ((IntKind.wrap .i64 ((4 : Int) * v6)) + (3 : Int)))) <|
    gd ((IntKind.wrap .i64 ((IntKind.wrap .i64 ((4 : Int) * v6)) + (3 : Int))) < (Int.ofNat (List.length v1))) <|
    gd ((List.length (h10 ++ [(IntKind.wrap .u32 ((IntKind.wrap .u32 ((IntKind.wrap .u32 ((IntKind.wrap .u32 ((IntKind.wrap .u32 ((IntKind.wrap .u32 ((IntKind.wrap .u32 (List.getD v1 (Int.toNat (IntKind.wrap .i64 ((4 : Int) * v6))) (0 : Int))) * (256 : Int))) + (IntKind.wrap .u32 (List.getD v1 (Int.toNat (IntKind.wrap .i64 ((IntKind.wrap .i64 ((4 : Int) * v6)) + (1 : Int)))) (0 : Int))))) * (256 : Int))) + (IntKind.wrap .u32 (List.getD v1 (Int.toNat (IntKind.wrap .i64 ((IntKind.wrap .i64 ((4 : Int) * v6)) + (2 : Int)))) (0 : Int))))) * (256 : Int))) + (IntKind.wrap .u32 (List.getD v1 (Int.toNat (IntKind.wrap .i64 ((IntKind.wrap .i64 ((4 : Int) * v6)) + (3 : Int)))) (0 : Int)))))])) * 4 ≤ 140737488355328) <|
    bitloftref01_Done_c1 v1 (IntKind.wrap .i64 (v6 + (1 : Int))) b8 b9 (h10 ++ [(IntKind.wrap .u32 ((IntKind.wrap .u32 ((IntKind.wrap .u32 ((IntKind.wrap .u32 ((IntKind.wrap .u32 ((IntKind.wrap .u32 ((IntKind.wrap .u32 (List.getD v1 (Int.toNat (IntKind.wrap .i64 ((4 : Int) * v6))) (0 : Int))) * (256 : Int))) + (IntKind.wrap .u32 (List.getD v1 (Int.toNat (IntKind.wrap .i64 ((IntKind.wrap .i64 ((4 : Int) * v6)) + (1 : Int)))) (0 : Int))))) * (256 : Int))) + (IntKind.wrap .u32 (List.getD v1 (Int.toNat (IntKind.wrap .i64 ((IntKind.wrap .i64 ((4 : Int) * v6)) + (2 : Int)))) (0 : Int))))) * (256 : Int))) + (IntKind.wrap .u32 (List.getD v1 (Int.toNat (IntKind.wrap .i64 ((IntKind.wrap .i64 ((4 : Int) * v6)) + (3 : Int)))) (0 : Int)))))])
  else
    bitloftref01_Done_c2 (16 : Int) b8 b9 h10) := (FnI.sem_eq _).trans (by kernel_rfl)
theorem bitloftref01_Done_c2_eq (v7 : Int) (b8 : (List Int)) (b9 : (List Int)) (h10 : List Int) : bitloftref01_Done_c2 v7 b8 b9 h10 = (
  if (decide (v7 < (80 : Int))) = true then
    gd (0 ≤ (IntKind.wrap .i64 (v7 - (3 : Int)))) <|
    gd ((IntKind.wrap .i64 (v7 - (3 : Int))) < (Int.ofNat (List.length h10))) <|
    gd (0 ≤ (IntKind.wrap .i64 (v7 - (8 : Int)))) <|
    gd ((IntKind.wrap .i64 (v7 - (8 : Int))) < (Int.ofNat (List.length h10))) <|
    gd (0 ≤ (IntKind.wrap .i64 (v7 - (14 : Int)))) <|
    gd ((IntKind.wrap .i64 (v7 - (14 : Int))) < (Int.ofNat (List.length h10))) <|
    gd (0 ≤ (IntKind.wrap .i64 (v7 - (16 : Int)))) <|
    gd ((IntKind.wrap .i64 (v7 - (16 : Int))) < (Int.ofNat (List.length h10))) <|
    (bitloftref01_turn (bitsXor .u32 (bitsXor .u32 (bitsXor .u32 (List.getD h10 (0 + (Int.toNat (IntKind.wrap .i64 (v7 - (3 : Int))))) (0 : Int)) (List.getD h10 (0 + (Int.toNat (IntKind.wrap .i64 (v7 - (8 : Int))))) (0 : Int))) (List.getD h10 (0 + (Int.toNat (IntKind.wrap .i64 (v7 - (14 : Int))))) (0 : Int))) (List.getD h10 (0 + (Int.toNat (IntKind.wrap .i64 (v7 - (16 : Int))))) (0 : Int))) (1 : Int)).bind fun (r1 : (Int)) =>
    gd ((List.length (h10 ++ [r1])) * 4 ≤ 140737488355328) <|
    bitloftref01_Done_c2 (IntKind.wrap .i64 (v7 + (1 : Int))) b8 b9 (h10 ++ [r1])
  else
    bitloftref01_Done_c3 (0 : Int) b8 b9 h10 b8) := (FnI.sem_eq _).trans (by kernel_rfl)
theorem bitloftref01_Done_c3_eq (v9 : Int) (b8 : (List Int)) (b9 : (List Int)) (h10 : List Int) (b11 : (List Int)) : bitloftref01_Done_c3 v9 b8 b9 h10 b11 = (
  if (decide (v9 < (80 : Int))) = true then
    gd (0 ≤ (1 : Int)) <|
    gd ((1 : Int) < (5 : Int)) <|
    gd (0 ≤ (2 : Int)) <|
    gd ((2 : Int) < (5 : Int)) <|
    gd (0 ≤ (3 : Int)) <|
    gd ((3 : Int) < (5 : Int)) <|
    (bitloftref01_part v9 (List.getD b11 1 (0 : Int)) (List.getD b11 2 (0 : Int)) (List.getD b11 3 (0 : Int))).bind fun (r2 : (Int × Int)) =>
    gd (0 ≤ (0 : Int)) <|
    gd ((0 : Int) < (5 : Int)) <|
    (bitloftref01_turn (List.getD b11 0 (0 : Int)) (5 : Int)).bind fun (r3 : (Int)) =>
    gd (0 ≤ (4 : Int)) <|
    gd ((4 : Int) < (5 : Int)) <|
    gd (0 ≤ v9) <|
    gd (v9 < (Int.ofNat (List.length h10))) <|
    gd (0 ≤ (0 : Int)) <|
    gd ((0 : Int) < (5 : Int)) <|
    gd (0 ≤ (1 : Int)) <|
    gd ((1 : Int) < (5 : Int)) <|
    (bitloftref01_turn (List.getD b11 1 (0 : Int)) (30 : Int)).bind fun (r4 : (Int)) =>
    gd (0 ≤ (2 : Int)) <|
    gd ((2 : Int) < (5 : Int)) <|
    gd (0 ≤ (3 : Int)) <|
    gd ((3 : Int) < (5 : Int)) <|
    bitloftref01_Done_c3 (IntKind.wrap .i64 (v9 + (1 : Int))) b8 b9 h10 (List.set (List.set (List.set (List.set (List.set (List.replicate 5 (0 : Int)) 0 (IntKind.wrap .u32 ((IntKind.wrap .u32 ((IntKind.wrap .u32 ((IntKind.wrap .u32 (r3 + r2.1)) + (List.getD b11 4 (0 : Int)))) + r2.2)) + (List.getD h10 (0 + (Int.toNat v9)) (0 : Int))))) 1 (List.getD b11 0 (0 : Int))) 2 r4) 3 (List.getD b11 2 (0 : Int))) 4 (List.getD b11 3 (0 : Int)))
  else
    bitloftref01_Done_c4 (0 : Int) b8 b9 b11) := (FnI.sem_eq _).trans (by kernel_rfl)
theorem bitloftref01_Done_c4_eq (v12 : Int) (b8 : (List Int)) (b9 : (List Int)) (b10 : (List Int)) : bitloftref01_Done_c4 v12 b8 b9 b10 = (
  if (decide (v12 < (5 : Int))) = true then
    gd (0 ≤ v12) <|
    gd (v12 < (5 : Int)) <|
    gd (0 ≤ v12) <|
    gd (v12 < (5 : Int)) <|
    gd (0 ≤ v12) <|
    gd (v12 < (5 : Int)) <|
    bitloftref01_Done_c4 (IntKind.wrap .i64 (v12 + (1 : Int))) (List.set b8 (Int.toNat v12) (IntKind.wrap .u32 ((List.getD b8 (Int.toNat v12) (0 : Int)) + (List.getD b10 (Int.toNat v12) (0 : Int))))) b9 b10
  else
    some (b8)) := (FnI.sem_eq _).trans (by kernel_rfl)
noncomputable def bitloftref01_Done_S (acc : List AV → Bool) : Summ Tryz.prog GT := bitloftref01_Done_I.summ mixed acc false false

/-! bitloft/bitloftref01.Of -/
noncomputable def bitloftref01_Of_I : FnI Tryz.prog GT := { f := 23, cuts := [⟨(4, 3), [2, 3, 4, 5], false, false⟩, ⟨(9, 3), [2, 4, 6, 7], false, false⟩], tab := [bitloftref01_Padding_S (fun _ => true), bitloftref01_First_S (fun _ => true), bitloftref01_Done_S (fun _ => true)], fm := ⟨true, [.val (.arr 20 (.int .u8)) []]⟩ }
noncomputable def bitloftref01_Of (a0 : List Int) : Option ((List Int)) := bitloftref01_Of_I.call [(.sl (.int .u8) false a0)] []
noncomputable def bitloftref01_Of_c1 (v5 : Int) (b8 : (List Int)) (h9 : List Int) (b10 : (List Int)) : Option ((List Int)) := bitloftref01_Of_I.sem ⟨[.code (cIn (cIn (cSnd (cFst (cSnd (cSnd (cSnd (bodyOf Tryz.prog 23)))))))), .inLoop (cIn (cIn (cSnd (cFst (cSnd (cSnd (cSnd (bodyOf Tryz.prog 23)))))))), .inBlock 0, .code (cSnd (cSnd (cSnd (cSnd (bodyOf Tryz.prog 23)))))], ⟨[(2, (.one (.ptr (.arr 20 (.int .u8)) 8 []))), (3, (.one (.ref (.int .u8) 9 0 (List.length h9) true))), (4, (.one (.ptr (.arr 5 (.int .u32)) 10 []))), (5, (.one (.int .i64 v5)))], [(8, some (.box (.arr 20 (.int .u8)) b8)), (9, some (.row (.int .u8) true h9)), (10, some (.box (.arr 5 (.int .u32)) b10))], 11⟩⟩
noncomputable def bitloftref01_Of_c2 (v7 : Int) (b8 : (List Int)) (b9 : (List Int)) (b10 : (List Int)) : Option ((List Int)) := bitloftref01_Of_I.sem ⟨[.code (cIn (cIn (cSnd (cFst (cSnd (cSnd (cSnd (cSnd (cSnd (bodyOf Tryz.prog 23)))))))))), .inLoop (cIn (cIn (cSnd (cFst (cSnd (cSnd (cSnd (cSnd (cSnd (bodyOf Tryz.prog 23)))))))))), .inBlock 2, .code (cSnd (cSnd (cSnd (cSnd (cSnd (cSnd (bodyOf Tryz.prog 23)))))))], ⟨[(2, (.one (.ptr (.arr 20 (.int .u8)) 8 []))), (4, (.one (.ptr (.arr 5 (.int .u32)) 9 []))), (6, (.one (.ptr (.arr 20 (.int .u8)) 10 []))), (7, (.one (.int .i64 v7)))], [(8, some (.box (.arr 20 (.int .u8)) b8)), (9, some (.box (.arr 5 (.int .u32)) b9)), (10, some (.box (.arr 20 (.int .u8)) b10))], 11⟩⟩
theorem bitloftref01_Of_eq (a0 : List Int) : bitloftref01_Of a0 = (
  gd ((List.length ([] ++ a0)) * 1 ≤ 140737488355328) <|
  (bitloftref01_Padding (Int.ofNat (List.length a0))).bind fun (r1 : (List Int)) =>
  gd ((List.length (([] ++ a0) ++ r1)) * 1 ≤ 140737488355328) <|
  (bitloftref01_First).bind fun (r2 : ((List Int))) =>
  bitloftref01_Of_c1 (0 : Int) (List.replicate 20 (0 : Int)) (([] ++ a0) ++ r1) r2) := (FnI.call_eq (by kernel_rfl)).trans (by kernel_rfl)
theorem bitloftref01_Of_c1_eq (v5 : Int) (b8 : (List Int)) (h9 : List Int) (b10 : (List Int)) : bitloftref01_Of_c1 v5 b8 h9 b10 = (
  if (decide (v5 < (Int.ofNat (List.length h9)))) = true then
    gd (0 ≤ v5) <|
    gd (v5 ≤ (IntKind.wrap .i64 (v5 + (64 : Int)))) <|
    gd ((IntKind.wrap .i64 (v5 + (64 : Int))) ≤ (Int.ofNat (List.length h9))) <|
    (bitloftref01_Done b10 (List.take ((Int.toNat (IntKind.wrap .i64 (v5 + (64 : Int)))) - (Int.toNat v5)) (List.drop (0 + (Int.toNat v5)) h9))).bind fun (r3 : ((List Int))) =>
    bitloftref01_Of_c1 (IntKind.wrap .i64 (v5 + (64 : Int))) b8 h9 r3
  else
    bitloftref01_Of_c2 (0 : Int) b8 b10 (List.replicate 20 (0 : Int))) := (FnI.sem_eq _).trans (by kernel_rfl)
theorem bitloftref01_Of_c2_eq (v7 : Int) (b8 : (List Int)) (b9 : (List Int)) (b10 : (List Int)) : bitloftref01_Of_c2 v7 b8 b9 b10 = (
  if (decide (v7 < (20 : Int))) = true then
    gd ((4 : Int) ≠ 0) <|
    gd (0 ≤ (IntKind.wrap .i64 (Int.tdiv v7 (4 : Int)))) <|
    gd ((IntKind.wrap .i64 (Int.tdiv v7 (4 : Int))) < (5 : Int)) <|
    gd ((4 : Int) ≠ 0) <|
    gd (0 ≤ (IntKind.wrap .i64 ((24 : Int) - (IntKind.wrap .i64 ((8 : Int) * (Int.tmod v7 (4 : Int))))))) <|
    gd (0 ≤ v7) <|
    gd (v7 < (20 : Int)) <|
    bitloftref01_Of_c2 (IntKind.wrap .i64 (v7 + (1 : Int))) b8 b9 (List.set b10 (Int.toNat v7) (IntKind.wrap .u8 (shrBy .u32 (List.getD b9 (Int.toNat (IntKind.wrap .i64 (Int.tdiv v7 (4 : Int)))) (0 : Int)) (IntKind.wrap .i64 ((24 : Int) - (IntKind.wrap .i64 ((8 : Int) * (Int.tmod v7 (4 : Int)))))))))
  else
    some (b10)) := (FnI.sem_eq _).trans (by kernel_rfl)
noncomputable def bitloftref01_Of_S (acc : List AV → Bool) : Summ Tryz.prog GT := bitloftref01_Of_I.summ mixed acc false false

/-! bitloft/bitloftref30.Bytes -/
noncomputable def bitloftref30_Bytes_I : FnI Tryz.prog GT := { f := 9, cuts := [], tab := [bitloftref30_Front_S (fun _ => true), bitloftref28_Bytes_S (fun _ => true), bitloftref01_Of_S (fun _ => true)], fm := ⟨true, [.val (.slice (.int .u8)) [.nw]]⟩ }
noncomputable def bitloftref30_Bytes (a0 : D_api_Settings) (a1 : List D_api_Record) : Option (List Int) := bitloftref30_Bytes_I.call [(.agg T_api_Settings (inj false T_api_Settings a0)), (.sl T_api_Record false a1)] []
theorem bitloftref30_Bytes_eq (a0 : D_api_Settings) (a1 : List D_api_Record) : bitloftref30_Bytes a0 a1 = (
  (bitloftref30_Front a0 (Int.ofNat (List.length a1))).bind fun (r1 : (List Int)) =>
  (bitloftref28_Bytes a1).bind fun (r2 : (List Int)) =>
  gd ((List.length (r1 ++ r2)) * 1 ≤ 140737488355328) <|
  (bitloftref01_Of (r1 ++ r2)).bind fun (r3 : ((List Int))) =>
  gd ((List.length ((r1 ++ r2) ++ (List.take 20 (List.drop 0 r3)))) * 1 ≤ 140737488355328) <|
  some ((r1 ++ r2) ++ (List.take 20 (List.drop 0 r3)))) := (FnI.call_eq (by kernel_rfl)).trans (by kernel_rfl)
noncomputable def bitloftref30_Bytes_S (acc : List AV → Bool) : Summ Tryz.prog GT := bitloftref30_Bytes_I.summ mixed acc false false

/-! bitloft/bitloftref25.SameInts -/
noncomputable def bitloftref25_SameInts_I : FnI Tryz.prog GT := { f := 24, cuts := [⟨(4, 3), [0, 1, 5], false, false⟩], tab := [], fm := ⟨true, [.val .bool []]⟩ }
noncomputable def bitloftref25_SameInts (a0 : List Int) (a1 : List Int) : Option (Bool) := bitloftref25_SameInts_I.call [(.sl (.int .i64) false a0), (.sl (.int .i64) false a1)] []
noncomputable def bitloftref25_SameInts_c1 (v0 : List Int) (v1 : List Int) (v5 : Int) : Option (Bool) := bitloftref25_SameInts_I.sem ⟨[.code (cIn (cIn (cSnd (cFst (cSnd (cSnd (bodyOf Tryz.prog 24))))))), .inLoop (cIn (cIn (cSnd (cFst (cSnd (cSnd (bodyOf Tryz.prog 24))))))), .inBlock 0, .code (cSnd (cSnd (cSnd (bodyOf Tryz.prog 24))))], ⟨[(0, (.one (.sl (.int .i64) false v0))), (1, (.one (.sl (.int .i64) false v1))), (5, (.one (.int .i64 v5)))], [], 8⟩⟩
theorem bitloftref25_SameInts_eq (a0 : List Int) (a1 : List Int) : bitloftref25_SameInts a0 a1 = (
  if ((Int.ofNat (List.length a0)) != (Int.ofNat (List.length a1))) = true then
    some (false)
  else
    bitloftref25_SameInts_c1 a0 a1 (0 : Int)) := (FnI.call_eq (by kernel_rfl)).trans (by kernel_rfl)
theorem bitloftref25_SameInts_c1_eq (v0 : List Int) (v1 : List Int) (v5 : Int) : bitloftref25_SameInts_c1 v0 v1 v5 = (
  if (decide (v5 < (Int.ofNat (List.length v0)))) = true then
    gd (0 ≤ v5) <|
    gd (v5 < (Int.ofNat (List.length v0))) <|
    gd (0 ≤ v5) <|
    gd (v5 < (Int.ofNat (List.length v1))) <|
    if ((List.getD v0 (Int.toNat v5) (0 : Int)) != (List.getD v1 (Int.toNat v5) (0 : Int))) = true then
      some (false)
    else
      bitloftref25_SameInts_c1 v0 v1 (IntKind.wrap .i64 (v5 + (1 : Int)))
  else
    some (true)) := (FnI.sem_eq _).trans (by kernel_rfl)
noncomputable def bitloftref25_SameInts_S (acc : List AV → Bool) : Summ Tryz.prog GT := bitloftref25_SameInts_I.summ mixed acc false false

/-! bitloft/bitloftref29.Same -/
noncomputable def bitloftref29_Same_I : FnI Tryz.prog GT := { f := 25, cuts := [⟨(4, 3), [0, 1, 5], false, false⟩], tab := [], fm := ⟨true, [.val .bool []]⟩ }
noncomputable def bitloftref29_Same (a0 : List D_api_Piece) (a1 : List D_api_Piece) : Option (Bool) := bitloftref29_Same_I.call [(.sl T_api_Piece false a0), (.sl T_api_Piece false a1)] []
noncomputable def bitloftref29_Same_c1 (v0 : List D_api_Piece) (v1 : List D_api_Piece) (v5 : Int) : Option (Bool) := bitloftref29_Same_I.sem ⟨[.code (cIn (cIn (cSnd (cFst (cSnd (cSnd (bodyOf Tryz.prog 25))))))), .inLoop (cIn (cIn (cSnd (cFst (cSnd (cSnd (bodyOf Tryz.prog 25))))))), .inBlock 0, .code (cSnd (cSnd (cSnd (bodyOf Tryz.prog 25))))], ⟨[(0, (.one (.sl T_api_Piece false v0))), (1, (.one (.sl T_api_Piece false v1))), (5, (.one (.int .i64 v5)))], [], 8⟩⟩
theorem bitloftref29_Same_eq (a0 : List D_api_Piece) (a1 : List D_api_Piece) : bitloftref29_Same a0 a1 = (
  if ((Int.ofNat (List.length a0)) != (Int.ofNat (List.length a1))) = true then
    some (false)
  else
    bitloftref29_Same_c1 a0 a1 (0 : Int)) := (FnI.call_eq (by kernel_rfl)).trans (by kernel_rfl)
theorem bitloftref29_Same_c1_eq (v0 : List D_api_Piece) (v1 : List D_api_Piece) (v5 : Int) : bitloftref29_Same_c1 v0 v1 v5 = (
  if (decide (v5 < (Int.ofNat (List.length v0)))) = true then
    gd (0 ≤ v5) <|
    gd (v5 < (Int.ofNat (List.length v0))) <|
    gd (0 ≤ v5) <|
    gd (v5 < (Int.ofNat (List.length v1))) <|
    if (not (peq T_api_Piece (List.getD v0 (Int.toNat v5) (pzero T_api_Piece)) (List.getD v1 (Int.toNat v5) (pzero T_api_Piece)))) = true then
      some (false)
    else
      bitloftref29_Same_c1 v0 v1 (IntKind.wrap .i64 (v5 + (1 : Int)))
  else
    some (true)) := (FnI.sem_eq _).trans (by kernel_rfl)
noncomputable def bitloftref29_Same_S (acc : List AV → Bool) : Summ Tryz.prog GT := bitloftref29_Same_I.summ mixed acc false false

/-! bitloft/bitloftlaw35.alive -/
noncomputable def bitloftlaw35_alive_I : FnI Tryz.prog GT := { f := 10, cuts := [], tab := [damage_Apply_S (fun _ => true), damage_Origins_S (fun _ => true), damage_Survivors_S (fun _ => true), bitloftref25_SameInts_S (fun _ => true), bitloftref29_Same_S (fun _ => true)], fm := ⟨true, [.val .bool []]⟩ }
noncomputable def bitloftlaw35_alive : Option (Bool) := bitloftlaw35_alive_I.call [] []
theorem bitloftlaw35_alive_eq : bitloftlaw35_alive = (
  gd (0 < 1) <|
  gd (0 < 4) <|
  (damage_Apply [(97 : Int), (98 : Int), (99 : Int), (100 : Int)] [((3 : Int), ((1 : Int), ((0 : Int), ([(120 : Int)], ())))), ((2 : Int), ((2 : Int), ((1 : Int), ([], ())))), ((1 : Int), ((0 : Int), ((121 : Int), ([], ()))))]).bind fun (r1 : (List Int × Int)) =>
  (damage_Origins (4 : Int) [((3 : Int), ((1 : Int), ((0 : Int), ([(120 : Int)], ())))), ((2 : Int), ((2 : Int), ((1 : Int), ([], ())))), ((1 : Int), ((0 : Int), ((121 : Int), ([], ()))))]).bind fun (r2 : (List Int × Int)) =>
  (damage_Survivors [((0 : Int), ((2 : Int), ((2 : Int), ()))), ((0 : Int), ((1 : Int), ((2 : Int), ())))] (4 : Int) [((3 : Int), ((1 : Int), ((0 : Int), ([(120 : Int)], ())))), ((2 : Int), ((2 : Int), ((1 : Int), ([], ())))), ((1 : Int), ((0 : Int), ((121 : Int), ([], ()))))]).bind fun (r3 : (List D_api_Piece × Int)) =>
  if (r1.2 == (0 : Int)) = true then
    if ((ByteArray.toList (toStr r1.1)) == (ByteArray.toList (ByteArray.mk #[121, 120, 99, 100]))) = true then
      if (r2.2 == (0 : Int)) = true then
        (bitloftref25_SameInts r2.1 [(-1 : Int), (-1 : Int), (2 : Int), (3 : Int)]).bind fun (r4 : (Bool)) =>
        if r4 = true then
          if (r3.2 == (0 : Int)) = true then
            (bitloftref29_Same r3.1 [((0 : Int), ((2 : Int), ((2 : Int), ())))]).bind fun (r5 : (Bool)) =>
            some (r5)
          else
            some (false)
        else
          some (false)
      else
        some (false)
    else
      some (false)
  else
    some (false)) := (FnI.call_eq (by kernel_rfl)).trans (by kernel_rfl)
noncomputable def bitloftlaw35_alive_S (acc : List AV → Bool) : Summ Tryz.prog GT := bitloftlaw35_alive_I.summ mixed acc false false

/-! bitloft/bitloftlaw35.DamageNames -/
noncomputable def bitloftlaw35_DamageNames_I : FnI Tryz.prog GT := { f := 3, cuts := [⟨(3, 3), [1, 2], false, false⟩, ⟨(14, 3), [11, 12, 13], false, false⟩], tab := [damage_Apply_S (fun _ => true), damage_Origins_S (fun _ => true), damage_Survivors_S (fun _ => true), damage_Blocks_S (fun _ => true), damage_Check_S (fun _ => true), bitloftref30_Bytes_S (fun _ => true), bitloftlaw35_alive_S (fun _ => true)], fm := ⟨true, [.val .bool []]⟩ }
noncomputable def bitloftlaw35_DamageNames : Option (Bool) := bitloftlaw35_DamageNames_I.call [] []
noncomputable def bitloftlaw35_DamageNames_c1 (v2 : Int) (h8 : List D_api_Harm) : Option (Bool) := bitloftlaw35_DamageNames_I.sem ⟨[.code (cIn (cIn (cSnd (cFst (cSnd (cSnd (bodyOf Tryz.prog 3))))))), .inLoop (cIn (cIn (cSnd (cFst (cSnd (cSnd (bodyOf Tryz.prog 3))))))), .inBlock 0, .code (cSnd (cSnd (cSnd (bodyOf Tryz.prog 3))))], ⟨[(1, (.one (.ref T_api_Harm 8 0 (List.length h8) true))), (2, (.one (.int .i64 v2)))], [(8, some (.row T_api_Harm true h8))], 9⟩⟩
noncomputable def bitloftlaw35_DamageNames_c2 (v11 : Int) (v13 : Int) (h8 : List D_api_Harm) : Option (Bool) := bitloftlaw35_DamageNames_I.sem ⟨[.code (cIn (cIn (cSnd (cFst (cSnd (cSnd (cSnd (cSnd (cSnd (bodyOf Tryz.prog 3)))))))))), .inLoop (cIn (cIn (cSnd (cFst (cSnd (cSnd (cSnd (cSnd (cSnd (bodyOf Tryz.prog 3)))))))))), .inBlock 2, .code (cSnd (cSnd (cSnd (cSnd (cSnd (cSnd (bodyOf Tryz.prog 3)))))))], ⟨[(11, (.one (.int .i64 v11))), (12, (.one (.ref T_api_Harm 8 0 (List.length h8) true))), (13, (.one (.int .i64 v13)))], [(8, some (.row T_api_Harm true h8))], 9⟩⟩
theorem bitloftlaw35_DamageNames_eq : bitloftlaw35_DamageNames = (
  gd ((201 : Int) = (201 : Int)) <|
  gd (0 ≤ (201 : Int)) <|
  gd ((201 : Int) * 1 ≤ 140737488355328) <|
  gd ((201 : Int) ≤ 9223372036854775807) <|
  bitloftlaw35_DamageNames_c1 (0 : Int) [((0 : Int), ((0 : Int), ((0 : Int), ([], ())))), ((5 : Int), ((0 : Int), ((0 : Int), ([], ())))), ((1 : Int), ((-1 : Int), ((0 : Int), ([], ())))), ((1 : Int), ((0 : Int), ((256 : Int), ([], ())))), ((1 : Int), ((0 : Int), ((-1 : Int), ([], ())))), ((2 : Int), ((0 : Int), ((-1 : Int), ([], ())))), ((3 : Int), ((0 : Int), ((1 : Int), ([], ())))), ((3 : Int), ((0 : Int), ((0 : Int), ((List.replicate 201 (0 : Int)), ())))), ((4 : Int), ((0 : Int), ((1 : Int), ([], ())))), ((2 : Int), ((0 : Int), ((0 : Int), ([(1 : Int)], ())))), ((4 : Int), ((0 : Int), ((0 : Int), ([(1 : Int)], ()))))]) := (FnI.call_eq (by kernel_rfl)).trans (by kernel_rfl)
theorem bitloftlaw35_DamageNames_c1_eq (v2 : Int) (h8 : List D_api_Harm) : bitloftlaw35_DamageNames_c1 v2 h8 = (
  if (decide (v2 < (Int.ofNat (List.length h8)))) = true then
    gd ((50001 : Int) = (50001 : Int)) <|
    gd (0 ≤ (50001 : Int)) <|
    gd ((50001 : Int) * 1 ≤ 140737488355328) <|
    gd ((50001 : Int) ≤ 9223372036854775807) <|
    gd (0 ≤ v2) <|
    gd (v2 ≤ (IntKind.wrap .i64 (v2 + (1 : Int)))) <|
    gd ((IntKind.wrap .i64 (v2 + (1 : Int))) ≤ (Int.ofNat (List.length h8))) <|
    (damage_Apply (List.replicate 50001 (0 : Int)) (List.take ((Int.toNat (IntKind.wrap .i64 (v2 + (1 : Int)))) - (Int.toNat v2)) (List.drop (0 + (Int.toNat v2)) h8))).bind fun (r1 : (List Int × Int)) =>
    gd (0 ≤ v2) <|
    gd (v2 ≤ (IntKind.wrap .i64 (v2 + (1 : Int)))) <|
    gd ((IntKind.wrap .i64 (v2 + (1 : Int))) ≤ (Int.ofNat (List.length h8))) <|
    (damage_Origins (-1 : Int) (List.take ((Int.toNat (IntKind.wrap .i64 (v2 + (1 : Int)))) - (Int.toNat v2)) (List.drop (0 + (Int.toNat v2)) h8))).bind fun (r2 : (List Int × Int)) =>
    gd (0 ≤ v2) <|
    gd (v2 ≤ (IntKind.wrap .i64 (v2 + (1 : Int)))) <|
    gd ((IntKind.wrap .i64 (v2 + (1 : Int))) ≤ (Int.ofNat (List.length h8))) <|
    (damage_Survivors [] (-1 : Int) (List.take ((Int.toNat (IntKind.wrap .i64 (v2 + (1 : Int)))) - (Int.toNat v2)) (List.drop (0 + (Int.toNat v2)) h8))).bind fun (r3 : (List D_api_Piece × Int)) =>
    gd (0 ≤ v2) <|
    gd (v2 ≤ (IntKind.wrap .i64 (v2 + (1 : Int)))) <|
    gd ((IntKind.wrap .i64 (v2 + (1 : Int))) ≤ (Int.ofNat (List.length h8))) <|
    (damage_Blocks [] (List.take ((Int.toNat (IntKind.wrap .i64 (v2 + (1 : Int)))) - (Int.toNat v2)) (List.drop (0 + (Int.toNat v2)) h8))).bind fun (r4 : (List D_api_Piece × Int)) =>
    gd (0 ≤ v2) <|
    gd (v2 ≤ (IntKind.wrap .i64 (v2 + (1 : Int)))) <|
    gd ((IntKind.wrap .i64 (v2 + (1 : Int))) ≤ (Int.ofNat (List.length h8))) <|
    (damage_Check (List.take ((Int.toNat (IntKind.wrap .i64 (v2 + (1 : Int)))) - (Int.toNat v2)) (List.drop (0 + (Int.toNat v2)) h8))).bind fun (r5 : (Int)) =>
    if (r5 != (8 : Int)) = true then
      some (false)
    else
      if (r1.2 != (8 : Int)) = true then
        some (false)
      else
        if (r2.2 != (8 : Int)) = true then
          some (false)
        else
          if (r3.2 != (8 : Int)) = true then
            some (false)
          else
            if (r4.2 != (8 : Int)) = true then
              some (false)
            else
              bitloftlaw35_DamageNames_c1 (IntKind.wrap .i64 (v2 + (1 : Int))) h8
  else
    bitloftlaw35_DamageNames_c2 (9223372036854775807 : Int) (0 : Int) [((1 : Int), ((4 : Int), ((0 : Int), ([], ())))), ((2 : Int), ((4 : Int), ((1 : Int), ([], ())))), ((2 : Int), ((5 : Int), ((0 : Int), ([], ())))), ((2 : Int), ((2 : Int), ((9223372036854775807 : Int), ([], ())))), ((2 : Int), ((9223372036854775807 : Int), ((9223372036854775807 : Int), ([], ())))), ((3 : Int), ((5 : Int), ((0 : Int), ([], ())))), ((4 : Int), ((5 : Int), ((0 : Int), ([], ()))))]) := (FnI.sem_eq _).trans (by kernel_rfl)
theorem bitloftlaw35_DamageNames_c2_eq (v11 : Int) (v13 : Int) (h8 : List D_api_Harm) : bitloftlaw35_DamageNames_c2 v11 v13 h8 = (
  if (decide (v13 < (Int.ofNat (List.length h8)))) = true then
    gd ((4 : Int) = (4 : Int)) <|
    gd (0 ≤ (4 : Int)) <|
    gd ((4 : Int) * 1 ≤ 140737488355328) <|
    gd ((4 : Int) ≤ 9223372036854775807) <|
    gd (0 ≤ v13) <|
    gd (v13 ≤ (IntKind.wrap .i64 (v13 + (1 : Int)))) <|
    gd ((IntKind.wrap .i64 (v13 + (1 : Int))) ≤ (Int.ofNat (List.length h8))) <|
    (damage_Apply (List.replicate 4 (0 : Int)) (List.take ((Int.toNat (IntKind.wrap .i64 (v13 + (1 : Int)))) - (Int.toNat v13)) (List.drop (0 + (Int.toNat v13)) h8))).bind fun (r6 : (List Int × Int)) =>
    gd (0 ≤ v13) <|
    gd (v13 ≤ (IntKind.wrap .i64 (v13 + (1 : Int)))) <|
    gd ((IntKind.wrap .i64 (v13 + (1 : Int))) ≤ (Int.ofNat (List.length h8))) <|
    (damage_Origins (4 : Int) (List.take ((Int.toNat (IntKind.wrap .i64 (v13 + (1 : Int)))) - (Int.toNat v13)) (List.drop (0 + (Int.toNat v13)) h8))).bind fun (r7 : (List Int × Int)) =>
    gd ((601 : Int) = (601 : Int)) <|
    gd (0 ≤ (601 : Int)) <|
    gd ((601 : Int) * 24 ≤ 140737488355328) <|
    gd ((601 : Int) ≤ 9223372036854775807) <|
    gd (0 ≤ v13) <|
    gd (v13 ≤ (IntKind.wrap .i64 (v13 + (1 : Int)))) <|
    gd ((IntKind.wrap .i64 (v13 + (1 : Int))) ≤ (Int.ofNat (List.length h8))) <|
    (damage_Survivors (List.replicate 601 (pzero T_api_Piece)) (4 : Int) (List.take ((Int.toNat (IntKind.wrap .i64 (v13 + (1 : Int)))) - (Int.toNat v13)) (List.drop (0 + (Int.toNat v13)) h8))).bind fun (r8 : (List D_api_Piece × Int)) =>
    if (r6.2 != (16 : Int)) = true then
      some (false)
    else
      if (r7.2 != (16 : Int)) = true then
        some (false)
      else
        if (r8.2 != (16 : Int)) = true then
          some (false)
        else
          bitloftlaw35_DamageNames_c2 v11 (IntKind.wrap .i64 (v13 + (1 : Int))) h8
  else
    gd (0 < 1) <|
    gd (0 < 4) <|
    (damage_Apply [(97 : Int), (98 : Int), (99 : Int), (100 : Int)] [((3 : Int), ((4 : Int), ((0 : Int), ([(122 : Int)], ())))), ((4 : Int), ((5 : Int), ((0 : Int), ([], ())))), ((2 : Int), ((5 : Int), ((0 : Int), ([], ()))))]).bind fun (r9 : (List Int × Int)) =>
    gd ((50001 : Int) = (50001 : Int)) <|
    gd (0 ≤ (50001 : Int)) <|
    gd ((50001 : Int) * 1 ≤ 140737488355328) <|
    gd ((50001 : Int) ≤ 9223372036854775807) <|
    (damage_Apply (List.replicate 50001 (0 : Int)) []).bind fun (r10 : (List Int × Int)) =>
    (damage_Origins (50001 : Int) []).bind fun (r11 : (List Int × Int)) =>
    gd (0 ≤ (1 : Int)) <|
    gd ((1 : Int) ≤ (3 : Int)) <|
    (damage_Origins (50000 : Int) (List.take 1 (List.drop 0 [((3 : Int), ((4 : Int), ((0 : Int), ([(122 : Int)], ())))), ((4 : Int), ((5 : Int), ((0 : Int), ([], ())))), ((2 : Int), ((5 : Int), ((0 : Int), ([], ()))))]))).bind fun (r12 : (List Int × Int)) =>
    gd ((601 : Int) = (601 : Int)) <|
    gd (0 ≤ (601 : Int)) <|
    gd ((601 : Int) * 24 ≤ 140737488355328) <|
    gd ((601 : Int) ≤ 9223372036854775807) <|
    (damage_Survivors (List.replicate 601 (pzero T_api_Piece)) (4 : Int) []).bind fun (r13 : (List D_api_Piece × Int)) =>
    (damage_Survivors [((0 : Int), ((3 : Int), ((2 : Int), ())))] (4 : Int) []).bind fun (r14 : (List D_api_Piece × Int)) =>
    (damage_Survivors [((0 : Int), ((3 : Int), ((0 : Int), ())))] (4 : Int) []).bind fun (r15 : (List D_api_Piece × Int)) =>
    (damage_Survivors [((0 : Int), (v11, (v11, ())))] (4 : Int) []).bind fun (r16 : (List D_api_Piece × Int)) =>
    (damage_Blocks [] []).bind fun (r17 : (List D_api_Piece × Int)) =>
    gd ((50001 : Int) = (50001 : Int)) <|
    gd (0 ≤ (50001 : Int)) <|
    gd ((50001 : Int) * 1 ≤ 140737488355328) <|
    gd ((50001 : Int) ≤ 9223372036854775807) <|
    (damage_Blocks (List.replicate 50001 (0 : Int)) []).bind fun (r18 : (List D_api_Piece × Int)) =>
    (bitloftref30_Bytes ((0 : Int), ((16 : Int), ())) []).bind fun (r19 : (List Int)) =>
    gd (0 ≤ (4 : Int)) <|
    gd ((4 : Int) ≤ (5 : Int)) <|
    gd ((5 : Int) ≤ (Int.ofNat (List.length h8))) <|
    (damage_Blocks r19 (List.take 1 (List.drop 4 h8))).bind fun (r20 : (List D_api_Piece × Int)) =>
    (bitloftref30_Bytes ((0 : Int), ((16 : Int), ())) []).bind fun (r21 : (List Int)) =>
    (damage_Blocks r21 []).bind fun (r22 : (List D_api_Piece × Int)) =>
    gd (0 < 4) <|
    (damage_Apply [(97 : Int), (98 : Int), (99 : Int), (100 : Int)] []).bind fun (r23 : (List Int × Int)) =>
    gd ((21 : Int) = (21 : Int)) <|
    gd (0 ≤ (21 : Int)) <|
    gd ((21 : Int) * 48 ≤ 140737488355328) <|
    gd ((21 : Int) ≤ 9223372036854775807) <|
    (damage_Check (List.replicate 21 (pzero T_api_Harm))).bind fun (r24 : (Int)) =>
    (bitloftlaw35_alive).bind fun (r25 : (Bool)) =>
    if r25 = true then
      if (r9.2 == (0 : Int)) = true then
        if ((ByteArray.toList (toStr r9.1)) == (ByteArray.toList (ByteArray.mk #[97, 98, 99, 100, 122]))) = true then
          if (r10.2 == (4 : Int)) = true then
            if (r11.2 == (2 : Int)) = true then
              if (r12.2 == (16 : Int)) = true then
                if (r13.2 == (4 : Int)) = true then
                  if (r14.2 == (8 : Int)) = true then
                    if (r15.2 == (8 : Int)) = true then
                      if (r16.2 == (8 : Int)) = true then
                        if (r17.2 == (18 : Int)) = true then
                          if (r18.2 == (4 : Int)) = true then
                            if (r20.2 == (16 : Int)) = true then
                              if (r22.2 == (0 : Int)) = true then
                                if ((Int.ofNat (List.length r22.1)) == (0 : Int)) = true then
                                  if (r23.2 == (0 : Int)) = true then
                                    if ((ByteArray.toList (toStr r23.1)) == (ByteArray.toList (ByteArray.mk #[97, 98, 99, 100]))) = true then
                                      some (r24 == (4 : Int))
                                    else
                                      some (false)
                                  else
                                    some (false)
                                else
                                  some (false)
                              else
                                some (false)
                            else
                              some (false)
                          else
                            some (false)
                        else
                          some (false)
                      else
                        some (false)
                    else
                      some (false)
                  else
                    some (false)
                else
                  some (false)
              else
                some (false)
            else
              some (false)
          else
            some (false)
        else
          some (false)
      else
        some (false)
    else
      some (false)) := (FnI.sem_eq _).trans (by kernel_rfl)
noncomputable def bitloftlaw35_DamageNames_S (acc : List AV → Bool) : Summ Tryz.prog GT := bitloftlaw35_DamageNames_I.summ mixed acc false false
end Go.Ab
