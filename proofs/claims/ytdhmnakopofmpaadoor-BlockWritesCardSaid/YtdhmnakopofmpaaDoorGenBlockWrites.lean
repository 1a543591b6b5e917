/-
  What the functions compute, as plain functions: printed by a program of this repo's own and checked here by the kernel.
-/
import Derived.Test.YtdhmnakopofmpaaDoorFwC
import Derived.Test.YtdhmnakopofmpaaDoorProg
set_option linter.unusedVariables false
set_option maxRecDepth 20000
namespace Go.Ab
open Go Go.Proofs
abbrev T_runtime_boundsError : Ty := (.pair (.int .i64) (.pair (.int .i64) (.pair .bool (.pair (.int .u8) .unit))))
abbrev D_runtime_boundsError : Type := (Int × (Int × (Bool × (Int × Unit))))
abbrev T_runtime_errorAddressString : Ty := (.pair .str (.pair (.int .u64) .unit))
abbrev D_runtime_errorAddressString : Type := (ByteArray × (Int × Unit))
abbrev T_api_BlockHead : Ty := (.pair (.int .u8) (.pair (.int .i64) (.pair (.int .i64) (.pair (.int .i64) (.pair (.int .i64) (.pair (.arr 20 (.int .u8)) .unit))))))
abbrev D_api_BlockHead : Type := (Int × (Int × (Int × (Int × (Int × ((List Int) × Unit))))))
abbrev T_api_Block : Ty := (.pair T_api_BlockHead (.pair (.slice (.int .u8)) .unit))
abbrev D_api_Block : Type := (D_api_BlockHead × ((List Int) × Unit))
abbrev T_api_Settings : Ty := (.pair (.int .i64) (.pair (.int .i64) .unit))
abbrev D_api_Settings : Type := (Int × (Int × Unit))
abbrev T_api_Record : Ty := (.pair .str (.pair (.int .i64) (.pair (.arr 20 (.int .u8)) .unit)))
abbrev D_api_Record : Type := (ByteArray × (Int × ((List Int) × Unit)))
abbrev T_api_Listing : Ty := (.pair T_api_Settings (.pair (.slice T_api_Record) (.pair (.slice T_api_BlockHead) .unit)))
abbrev D_api_Listing : Type := (D_api_Settings × ((List D_api_Record) × ((List D_api_BlockHead) × Unit)))
abbrev T_api_Piece : Ty := (.pair (.int .i64) T_api_Settings)
abbrev D_api_Piece : Type := (Int × D_api_Settings)
abbrev T_bound_rule : Ty := (.pair .fn .unit)
abbrev D_bound_rule : Type := ((Option Nat) × Unit)
abbrev T_api_Found : Ty := (.pair (.int .i64) T_api_Block)
abbrev D_api_Found : Type := (Int × D_api_Block)
abbrev T_api_Part : Ty := (.pair T_api_Piece (.pair (.slice (.int .u8)) .unit))
abbrev D_api_Part : Type := (D_api_Piece × ((List Int) × Unit))
abbrev T_api_Member : Ty := (.pair .str (.pair (.slice (.int .u8)) .unit))
abbrev D_api_Member : Type := (ByteArray × ((List Int) × Unit))
abbrev T_member_source : Ty := (.pair (.slice (.int .u8)) (.pair (.int .i64) .unit))
abbrev D_member_source : Type := ((List Int) × (Int × Unit))
abbrev T_member_reader : Ty := (.pair T_member_source .unit)
abbrev D_member_reader : Type := (D_member_source × Unit)
abbrev T_reflectlite_ValueError : Ty := (.pair .str (.pair (.int .u8) .unit))
abbrev D_reflectlite_ValueError : Type := (ByteArray × (Int × Unit))
abbrev T_abi_UncommonType : Ty := (.pair (.int .i32) (.pair (.int .u16) (.pair (.int .u16) (.pair (.int .u32) (.pair (.int .u32) .unit)))))
abbrev D_abi_UncommonType : Type := (Int × (Int × (Int × (Int × (Int × Unit)))))
abbrev T_abi_Method : Ty := (.pair (.int .i32) (.pair (.int .i32) (.pair (.int .i32) (.pair (.int .i32) .unit))))
abbrev D_abi_Method : Type := (Int × (Int × (Int × (Int × Unit))))
def G_widths : List Int := [1, 1, 2, 2, 2]
def G_quarters : List Int := [1518500249, 1859775393, 2400959708, 3395469782]
def GT : GTab := [(0, ⟨(.arr 5 (.int .i64)), G_widths⟩)]
theorem mixed : Tryd.prog.follows .mixedOrders = true := by kernel_rfl
def mnz : List Nat := [118]
theorem mnz_ok : ∀ f ∈ mnz, IsMNZ Tryd.prog f := by
  intro f hf
  obtain rfl : f = 118 := by simpa [mnz] using hf
  exact ⟨_, #[3], 26, 5, Tryd.func118, by kernel_rfl, by kernel_rfl, by kernel_rfl, by kernel_rfl, by kernel_rfl⟩
/-! bitloft/header.Check -/
noncomputable def header_Check_I : FnI Tryd.prog GT := { f := 80, cuts := [], tab := [], fm := ⟨true, [.val (.int .i64) []]⟩ }
noncomputable def header_Check (a0 : D_api_BlockHead) : Option (Int) := header_Check_I.call [(.agg T_api_BlockHead (inj false T_api_BlockHead a0))] []
theorem header_Check_eq (a0 : D_api_BlockHead) : header_Check a0 = (
  if (decide (a0.2.1 < (0 : Int))) = true then
    some (8 : Int)
  else
    if (decide (a0.2.1 ≥ (16 : Int))) = true then
      if (decide (a0.2.1 ≥ (16 : Int))) = true then
        some (8 : Int)
      else
        if (a0.1 == (1 : Int)) = true then
          if (a0.2.2.2.2.1 == a0.2.2.2.1) = true then
            if (a0.2.2.2.2.1 == a0.2.2.2.1) = true then
              some (0 : Int)
            else
              some (8 : Int)
          else
            if (a0.1 == (2 : Int)) = true then
              if (decide (a0.2.2.2.2.1 > (0 : Int))) = true then
                if (decide (a0.2.2.2.2.1 < a0.2.2.2.1)) = true then
                  some (0 : Int)
                else
                  some (8 : Int)
              else
                some (8 : Int)
            else
              some (8 : Int)
        else
          if (a0.1 == (2 : Int)) = true then
            if (decide (a0.2.2.2.2.1 > (0 : Int))) = true then
              if (decide (a0.2.2.2.2.1 < a0.2.2.2.1)) = true then
                some (0 : Int)
              else
                some (8 : Int)
            else
              some (8 : Int)
          else
            some (8 : Int)
    else
      if (decide (a0.2.2.2.1 < (1 : Int))) = true then
        some (8 : Int)
      else
        if (decide (a0.2.2.2.1 > (4096 : Int))) = true then
          if (decide (a0.2.2.2.1 > (4096 : Int))) = true then
            some (8 : Int)
          else
            if (a0.1 == (1 : Int)) = true then
              if (a0.2.2.2.2.1 == a0.2.2.2.1) = true then
                if (a0.2.2.2.2.1 == a0.2.2.2.1) = true then
                  some (0 : Int)
                else
                  some (8 : Int)
              else
                if (a0.1 == (2 : Int)) = true then
                  if (decide (a0.2.2.2.2.1 > (0 : Int))) = true then
                    if (decide (a0.2.2.2.2.1 < a0.2.2.2.1)) = true then
                      some (0 : Int)
                    else
                      some (8 : Int)
                  else
                    some (8 : Int)
                else
                  some (8 : Int)
            else
              if (a0.1 == (2 : Int)) = true then
                if (decide (a0.2.2.2.2.1 > (0 : Int))) = true then
                  if (decide (a0.2.2.2.2.1 < a0.2.2.2.1)) = true then
                    some (0 : Int)
                  else
                    some (8 : Int)
                else
                  some (8 : Int)
              else
                some (8 : Int)
        else
          if (decide (a0.2.2.1 < (0 : Int))) = true then
            some (8 : Int)
          else
            if (decide (a0.2.2.1 > (IntKind.wrap .i64 ((8192 : Int) - a0.2.2.2.1)))) = true then
              some (8 : Int)
            else
              if (a0.1 == (1 : Int)) = true then
                if (a0.2.2.2.2.1 == a0.2.2.2.1) = true then
                  if (a0.2.2.2.2.1 == a0.2.2.2.1) = true then
                    some (0 : Int)
                  else
                    some (8 : Int)
                else
                  if (a0.1 == (2 : Int)) = true then
                    if (decide (a0.2.2.2.2.1 > (0 : Int))) = true then
                      if (decide (a0.2.2.2.2.1 < a0.2.2.2.1)) = true then
                        some (0 : Int)
                      else
                        some (8 : Int)
                    else
                      some (8 : Int)
                  else
                    some (8 : Int)
              else
                if (a0.1 == (2 : Int)) = true then
                  if (decide (a0.2.2.2.2.1 > (0 : Int))) = true then
                    if (decide (a0.2.2.2.2.1 < a0.2.2.2.1)) = true then
                      some (0 : Int)
                    else
                      some (8 : Int)
                  else
                    some (8 : Int)
                else
                  some (8 : Int)) := (FnI.call_eq (by kernel_rfl)).trans (by kernel_rfl)
noncomputable def header_Check_S (acc : List AV → Bool) : Summ Tryd.prog GT := header_Check_I.summ mixed acc false false

/-! bitloft/block.Check -/
noncomputable def block_Check_I : FnI Tryd.prog GT := { f := 20, cuts := [], tab := [header_Check_S (fun _ => true)], fm := ⟨true, [.val (.int .i64) []]⟩ }
noncomputable def block_Check (a0 : D_api_Block) : Option (Int) := block_Check_I.call [(.agg T_api_Block (inj false T_api_Block a0))] []
theorem block_Check_eq (a0 : D_api_Block) : block_Check a0 = (
  (header_Check a0.1).bind fun (r1 : (Int)) =>
  if (r1 != (0 : Int)) = true then
    some (8 : Int)
  else
    if ((Int.ofNat (List.length a0.2.1)) != a0.1.2.2.2.2.1) = true then
      some (8 : Int)
    else
      some (0 : Int)) := (FnI.call_eq (by kernel_rfl)).trans (by kernel_rfl)
noncomputable def block_Check_S (acc : List AV → Bool) : Summ Tryd.prog GT := block_Check_I.summ mixed acc false false

/-! bitloft/header.front -/
noncomputable def header_front_I : FnI Tryd.prog GT := { f := 117, cuts := [⟨(3, 3), [3, 18, 19], false⟩, ⟨(6, 7), [3, 4, 5, 18, 19, 25, 26], false⟩], tab := [], fm := ⟨true, [.val (.slice (.int .u8)) [.nw]]⟩ }
noncomputable def header_front (a0 : D_api_BlockHead) : Option (List Int) := header_front_I.call [(.agg T_api_BlockHead (inj false T_api_BlockHead a0))] []
noncomputable def header_front_c1 (v18 : (List Int)) (v19 : Int) (h8 : List Int) : Option (List Int) := header_front_I.sem ⟨[.code (cIn (cIn (cSnd (cFst (cSnd (cSnd (bodyOf Tryd.prog 117))))))), .inLoop (cIn (cIn (cSnd (cFst (cSnd (cSnd (bodyOf Tryd.prog 117))))))), .inBlock 0, .code (cSnd (cSnd (cSnd (bodyOf Tryd.prog 117))))], ⟨[(3, (.one (.ref (.int .u8) 8 0 (List.length h8) true))), (18, (.one (.agg (.arr 5 (.int .i64)) v18))), (19, (.one (.int .i64 v19)))], [(8, some (.row (.int .u8) true h8))], 9⟩⟩
noncomputable def header_front_c2 (v4 : Int) (v5 : Int) (v18 : (List Int)) (v19 : Int) (v25 : Int) (v26 : Int) (h8 : List Int) : Option (List Int) := header_front_I.sem ⟨[.code (cIn (cIn (cSnd (cSnd (cIn (cFst (cSnd (cSnd (cIn (cIn (cSnd (cFst (cSnd (cSnd (bodyOf Tryd.prog 117))))))))))))))), .inLoop (cIn (cIn (cSnd (cSnd (cIn (cFst (cSnd (cSnd (cIn (cIn (cSnd (cFst (cSnd (cSnd (bodyOf Tryd.prog 117))))))))))))))), .inBlock 2, .inBlock 1, .code (cSnd (cSnd (cSnd (cIn (cIn (cSnd (cFst (cSnd (cSnd (bodyOf Tryd.prog 117)))))))))), .inLoop (cIn (cIn (cSnd (cFst (cSnd (cSnd (bodyOf Tryd.prog 117))))))), .inBlock 0, .code (cSnd (cSnd (cSnd (bodyOf Tryd.prog 117))))], ⟨[(3, (.one (.ref (.int .u8) 8 0 (List.length h8) true))), (4, (.one (.int .i64 v4))), (5, (.one (.int .i64 v5))), (18, (.one (.agg (.arr 5 (.int .i64)) v18))), (19, (.one (.int .i64 v19))), (25, (.one (.int .i64 v25))), (26, (.one (.int .i64 v26)))], [(8, some (.row (.int .u8) true h8))], 9⟩⟩
theorem header_front_eq (a0 : D_api_BlockHead) : header_front a0 = (
  header_front_c1 (List.set (List.set (List.set (List.set (List.set (List.replicate 5 (0 : Int)) 0 (IntKind.wrap .i64 a0.1)) 1 a0.2.1) 2 a0.2.2.1) 3 a0.2.2.2.1) 4 a0.2.2.2.2.1) (0 : Int) []) := (FnI.call_eq (by kernel_rfl)).trans (by kernel_rfl)
theorem header_front_c1_eq (v18 : (List Int)) (v19 : Int) (h8 : List Int) : header_front_c1 v18 v19 h8 = (
  if (decide (v19 < (5 : Int))) = true then
    gd (0 ≤ v19) <|
    gd (v19 < (5 : Int)) <|
    gd (0 ≤ v19) <|
    gd (v19 < (5 : Int)) <|
    header_front_c2 v19 (List.getD v18 (Int.toNat v19) (0 : Int)) v18 v19 (List.getD G_widths (Int.toNat v19) (0 : Int)) (0 : Int) h8
  else
    some (h8)) := (FnI.sem_eq _).trans (by kernel_rfl)
theorem header_front_c2_eq (v4 : Int) (v5 : Int) (v18 : (List Int)) (v19 : Int) (v25 : Int) (v26 : Int) (h8 : List Int) : header_front_c2 v4 v5 v18 v19 v25 v26 h8 = (
  if (decide (v26 < v25)) = true then
    gd (0 ≤ v4) <|
    gd (v4 < (5 : Int)) <|
    gd (0 ≤ (IntKind.wrap .i64 ((8 : Int) * (IntKind.wrap .i64 ((IntKind.wrap .i64 ((List.getD G_widths (Int.toNat v4) (0 : Int)) - (1 : Int))) - v26))))) <|
    gd ((List.length (h8 ++ [(IntKind.wrap .u8 (shrBy .i64 v5 (IntKind.wrap .i64 ((8 : Int) * (IntKind.wrap .i64 ((IntKind.wrap .i64 ((List.getD G_widths (Int.toNat v4) (0 : Int)) - (1 : Int))) - v26))))))])) * 1 ≤ 140737488355328) <|
    header_front_c2 v4 v5 v18 v19 v25 (IntKind.wrap .i64 (v26 + (1 : Int))) (h8 ++ [(IntKind.wrap .u8 (shrBy .i64 v5 (IntKind.wrap .i64 ((8 : Int) * (IntKind.wrap .i64 ((IntKind.wrap .i64 ((List.getD G_widths (Int.toNat v4) (0 : Int)) - (1 : Int))) - v26))))))])
  else
    header_front_c1 v18 (IntKind.wrap .i64 (v19 + (1 : Int))) h8) := (FnI.sem_eq _).trans (by kernel_rfl)
noncomputable def header_front_S (acc : List AV → Bool) : Summ Tryd.prog GT := header_front_I.summ mixed acc false false

/-! bitloft/header.Encode -/
noncomputable def header_Encode_I : FnI Tryd.prog GT := { f := 72, cuts := [], tab := [header_Check_S (fun _ => true), header_front_S (fun _ => true)], fm := ⟨true, [.val (.slice (.int .u8)) [.nw], .val (.int .i64) []]⟩ }
noncomputable def header_Encode (a0 : D_api_BlockHead) : Option (List Int × Int) := header_Encode_I.call [(.agg T_api_BlockHead (inj false T_api_BlockHead a0))] []
theorem header_Encode_eq (a0 : D_api_BlockHead) : header_Encode a0 = (
  (header_Check a0).bind fun (r1 : (Int)) =>
  if (r1 != (0 : Int)) = true then
    some ([], r1)
  else
    (header_front a0).bind fun (r2 : (List Int)) =>
    gd ((List.length (r2 ++ (List.take 20 (List.drop 0 a0.2.2.2.2.2.1)))) * 1 ≤ 140737488355328) <|
    some ((r2 ++ (List.take 20 (List.drop 0 a0.2.2.2.2.2.1))), (0 : Int))) := (FnI.call_eq (by kernel_rfl)).trans (by kernel_rfl)
noncomputable def header_Encode_S (acc : List AV → Bool) : Summ Tryd.prog GT := header_Encode_I.summ mixed acc false false

/-! bitloft/marker.Bytes -/
noncomputable def marker_Bytes_I : FnI Tryd.prog GT := { f := 74, cuts := [], tab := [], fm := ⟨true, [.val (.slice (.int .u8)) [.nw]]⟩ }
noncomputable def marker_Bytes : Option (List Int) := marker_Bytes_I.call [] []
theorem marker_Bytes_eq : marker_Bytes = (
  gd (0 < 13) <|
  some ([(183 : Int), (98 : Int), (105 : Int), (116 : Int), (108 : Int), (111 : Int), (102 : Int), (116 : Int), (32 : Int), (98 : Int), (108 : Int), (107 : Int), (10 : Int)])) := (FnI.call_eq (by kernel_rfl)).trans (by kernel_rfl)
noncomputable def marker_Bytes_S (acc : List AV → Bool) : Summ Tryd.prog GT := marker_Bytes_I.summ mixed acc false false

/-! bytes.Join -/
noncomputable def bytes_Join_I : FnI Tryd.prog GT := { f := 73, cuts := [⟨(11, 3), [0, 1, 5, 42, 43, 44], false⟩, ⟨(20, 3), [1, 8, 9, 70, 71, 72], false⟩], tab := [], fm := ⟨true, [.val (.slice (.int .u8)) [.pu]]⟩, mnz := mnz, mnzOk := mnz_ok }
noncomputable def bytes_Join (a0 : List (List Int)) (a1 : List Int) : Option (List Int) := bytes_Join_I.call [(.sl (.slice (.int .u8)) false a0), (.sl (.int .u8) false a1)] []
noncomputable def bytes_Join_c1 (v0 : List (List Int)) (v1 : List Int) (v5 : Int) (v42 : List (List Int)) (v43 : Int) (v44 : Int) : Option (List Int) := bytes_Join_I.sem ⟨[.code (cIn (cIn (cSnd (cFst (cSnd (cSnd (cSnd (cSnd (cSnd (bodyOf Tryd.prog 73)))))))))), .inLoop (cIn (cIn (cSnd (cFst (cSnd (cSnd (cSnd (cSnd (cSnd (bodyOf Tryd.prog 73)))))))))), .inBlock 0, .code (cSnd (cSnd (cSnd (cSnd (cSnd (cSnd (bodyOf Tryd.prog 73)))))))], ⟨[(0, (.one (.sl (.slice (.int .u8)) false v0))), (1, (.one (.sl (.int .u8) false v1))), (5, (.one (.int .i64 v5))), (42, (.one (.sl (.slice (.int .u8)) false v42))), (43, (.one (.int .i64 v43))), (44, (.one (.int .i64 v44)))], [], 8⟩⟩
noncomputable def bytes_Join_c2 (v1 : List Int) (v8o : Nat) (v8n : Nat) (v9 : Int) (v70 : List (List Int)) (v71 : Int) (v72 : Int) (h8 : List Int) : Option (List Int) := bytes_Join_I.sem ⟨[.code (cIn (cIn (cSnd (cFst (cSnd (cSnd (cSnd (cSnd (cSnd (cSnd (cSnd (cSnd (bodyOf Tryd.prog 73))))))))))))), .inLoop (cIn (cIn (cSnd (cFst (cSnd (cSnd (cSnd (cSnd (cSnd (cSnd (cSnd (cSnd (bodyOf Tryd.prog 73))))))))))))), .inBlock 2, .code (cSnd (cSnd (cSnd (cSnd (cSnd (cSnd (cSnd (cSnd (cSnd (bodyOf Tryd.prog 73))))))))))], ⟨[(1, (.one (.sl (.int .u8) false v1))), (8, (.one (.ref (.int .u8) 8 v8o v8n false))), (9, (.one (.int .i64 v9))), (70, (.one (.sl (.slice (.int .u8)) false v70))), (71, (.one (.int .i64 v71))), (72, (.one (.int .i64 v72)))], [(8, some (.row (.int .u8) true h8))], 9⟩⟩
theorem bytes_Join_eq (a0 : List (List Int)) (a1 : List Int) : bytes_Join a0 a1 = (
  if ((Int.ofNat (List.length a0)) == (0 : Int)) = true then
    some ([])
  else
    if ((Int.ofNat (List.length a0)) == (1 : Int)) = true then
      gd (0 ≤ (0 : Int)) <|
      gd ((0 : Int) < (Int.ofNat (List.length a0))) <|
      gd ((List.length (List.getD a0 0 [])) * 1 ≤ 140737488355328) <|
      some (List.getD a0 0 [])
    else
      if (decide ((Int.ofNat (List.length a1)) > (0 : Int))) = true then
        gd ((IntKind.wrap .i64 ((Int.ofNat (List.length a0)) - (1 : Int))) ≠ 0) <|
        if (decide ((Int.ofNat (List.length a1)) ≥ (IntKind.wrap .i64 (Int.tdiv (9223372036854775807 : Int) (IntKind.wrap .i64 ((Int.ofNat (List.length a0)) - (1 : Int))))))) = true then
          none
        else
          bytes_Join_c1 a0 a1 (IntKind.wrap .i64 ((0 : Int) + (IntKind.wrap .i64 ((Int.ofNat (List.length a1)) * (IntKind.wrap .i64 ((Int.ofNat (List.length a0)) - (1 : Int))))))) a0 (Int.ofNat (List.length a0)) (0 : Int)
      else
        bytes_Join_c1 a0 a1 (0 : Int) a0 (Int.ofNat (List.length a0)) (0 : Int)) := (FnI.call_eq (by kernel_rfl)).trans (by kernel_rfl)
theorem bytes_Join_c1_eq (v0 : List (List Int)) (v1 : List Int) (v5 : Int) (v42 : List (List Int)) (v43 : Int) (v44 : Int) : bytes_Join_c1 v0 v1 v5 v42 v43 v44 = (
  if (decide (v44 < v43)) = true then
    gd (0 ≤ v44) <|
    gd (v44 < (Int.ofNat (List.length v42))) <|
    if (decide ((Int.ofNat (List.length (List.getD v42 (Int.toNat v44) []))) > (IntKind.wrap .i64 ((9223372036854775807 : Int) - v5)))) = true then
      none
    else
      bytes_Join_c1 v0 v1 (IntKind.wrap .i64 (v5 + (Int.ofNat (List.length (List.getD v42 (Int.toNat v44) []))))) v42 v43 (IntKind.wrap .i64 (v44 + (1 : Int)))
  else
    gd (0 ≤ v5) <|
    gd (v5 ≤ 140737488355328) <|
    anyv (fun (r1 : List Int) => (List.length r1) = (Int.toNat v5)) fun (r1 : List Int) =>
    gd (0 ≤ v5) <|
    gd (v5 ≤ v5) <|
    gd (v5 ≤ (Int.ofNat (List.length r1))) <|
    gd (0 ≤ (0 : Int)) <|
    gd ((0 : Int) < (Int.ofNat (List.length v0))) <|
    gd (0 ≤ (1 : Int)) <|
    gd ((1 : Int) ≤ (Int.ofNat (List.length v0))) <|
    bytes_Join_c2 v1 0 ((Int.toNat v5) - 0) (Int.ofNat (min (List.length (List.getD v0 0 [])) ((Int.toNat v5) - 0))) (List.drop 1 v0) (Int.ofNat (List.length (List.drop 1 v0))) (0 : Int) (splice r1 0 (List.take (min (List.length (List.getD v0 0 [])) ((Int.toNat v5) - 0)) (List.getD v0 0 [])))) := (FnI.sem_eq _).trans (by kernel_rfl)
theorem bytes_Join_c2_eq (v1 : List Int) (v8o : Nat) (v8n : Nat) (v9 : Int) (v70 : List (List Int)) (v71 : Int) (v72 : Int) (h8 : List Int) : bytes_Join_c2 v1 v8o v8n v9 v70 v71 v72 h8 = (
  if (decide (v72 < v71)) = true then
    gd (0 ≤ v72) <|
    gd (v72 < (Int.ofNat (List.length v70))) <|
    gd (0 ≤ v9) <|
    gd (v9 ≤ (Int.ofNat v8n)) <|
    gd (0 ≤ (IntKind.wrap .i64 (v9 + (Int.ofNat (min (List.length v1) (v8n - (Int.toNat v9))))))) <|
    gd ((IntKind.wrap .i64 (v9 + (Int.ofNat (min (List.length v1) (v8n - (Int.toNat v9)))))) ≤ (Int.ofNat v8n)) <|
    bytes_Join_c2 v1 v8o v8n (IntKind.wrap .i64 ((IntKind.wrap .i64 (v9 + (Int.ofNat (min (List.length v1) (v8n - (Int.toNat v9)))))) + (Int.ofNat (min (List.length (List.getD v70 (Int.toNat v72) [])) (v8n - (Int.toNat (IntKind.wrap .i64 (v9 + (Int.ofNat (min (List.length v1) (v8n - (Int.toNat v9)))))))))))) v70 v71 (IntKind.wrap .i64 (v72 + (1 : Int))) (splice (splice h8 (v8o + (Int.toNat v9)) (List.take (min (List.length v1) (v8n - (Int.toNat v9))) v1)) (v8o + (Int.toNat (IntKind.wrap .i64 (v9 + (Int.ofNat (min (List.length v1) (v8n - (Int.toNat v9)))))))) (List.take (min (List.length (List.getD v70 (Int.toNat v72) [])) (v8n - (Int.toNat (IntKind.wrap .i64 (v9 + (Int.ofNat (min (List.length v1) (v8n - (Int.toNat v9))))))))) (List.getD v70 (Int.toNat v72) [])))
  else
    some (List.take v8n (List.drop v8o h8))) := (FnI.sem_eq _).trans (by kernel_rfl)
noncomputable def bytes_Join_S (acc : List AV → Bool) : Summ Tryd.prog GT := bytes_Join_I.summ mixed acc false false

/-! bitloft/block.Write -/
noncomputable def block_Write_I : FnI Tryd.prog GT := { f := 16, cuts := [], tab := [block_Check_S (fun _ => true), header_Encode_S (fun _ => true), marker_Bytes_S (fun _ => true), bytes_Join_S (fun _ => true)], fm := ⟨true, [.val (.slice (.int .u8)) [.pu], .val (.int .i64) []]⟩ }
noncomputable def block_Write (a0 : D_api_Block) : Option (List Int × Int) := block_Write_I.call [(.agg T_api_Block (inj false T_api_Block a0))] []
theorem block_Write_eq (a0 : D_api_Block) : block_Write a0 = (
  (block_Check a0).bind fun (r1 : (Int)) =>
  if (r1 != (0 : Int)) = true then
    some ([], r1)
  else
    (header_Encode a0.1).bind fun (r2 : (List Int × Int)) =>
    (marker_Bytes).bind fun (r3 : (List Int)) =>
    (bytes_Join [r3, r2.1, a0.2.1] []).bind fun (r4 : (List Int)) =>
    some (r4, (0 : Int))) := (FnI.call_eq (by kernel_rfl)).trans (by kernel_rfl)
noncomputable def block_Write_S (acc : List AV → Bool) : Summ Tryd.prog GT := block_Write_I.summ mixed acc false false

/-! bitloft/bitloftref26.Check -/
noncomputable def bitloftref26_Check_I : FnI Tryd.prog GT := { f := 81, cuts := [], tab := [], fm := ⟨true, [.val (.int .i64) []]⟩ }
noncomputable def bitloftref26_Check (a0 : D_api_BlockHead) : Option (Int) := bitloftref26_Check_I.call [(.agg T_api_BlockHead (inj false T_api_BlockHead a0))] []
theorem bitloftref26_Check_eq (a0 : D_api_BlockHead) : bitloftref26_Check a0 = (
  if (decide (a0.2.1 < (0 : Int))) = true then
    some (8 : Int)
  else
    if (decide (a0.2.1 ≥ (16 : Int))) = true then
      some (8 : Int)
    else
      if (decide (a0.2.2.2.1 < (1 : Int))) = true then
        some (8 : Int)
      else
        if (decide (a0.2.2.2.1 > (4096 : Int))) = true then
          some (8 : Int)
        else
          if (decide (a0.2.2.1 < (0 : Int))) = true then
            some (8 : Int)
          else
            if (decide (a0.2.2.1 > (IntKind.wrap .i64 ((8192 : Int) - a0.2.2.2.1)))) = true then
              some (8 : Int)
            else
              if (a0.1 == (1 : Int)) = true then
                if (a0.1 == (2 : Int)) = true then
                  if (decide (a0.2.2.2.2.1 ≥ (1 : Int))) = true then
                    if (not (a0.2.2.2.2.1 == a0.2.2.2.1)) = true then
                      if (not (decide (a0.2.2.2.2.1 < a0.2.2.2.1))) = true then
                        some (8 : Int)
                      else
                        some (0 : Int)
                    else
                      some (0 : Int)
                  else
                    if (not (a0.2.2.2.2.1 == a0.2.2.2.1)) = true then
                      some (8 : Int)
                    else
                      some (0 : Int)
                else
                  if (not (a0.2.2.2.2.1 == a0.2.2.2.1)) = true then
                    some (8 : Int)
                  else
                    some (0 : Int)
              else
                if (a0.1 == (2 : Int)) = true then
                  if (decide (a0.2.2.2.2.1 ≥ (1 : Int))) = true then
                    if (not (decide (a0.2.2.2.2.1 < a0.2.2.2.1))) = true then
                      some (8 : Int)
                    else
                      some (0 : Int)
                  else
                    some (8 : Int)
                else
                  some (8 : Int)) := (FnI.call_eq (by kernel_rfl)).trans (by kernel_rfl)
noncomputable def bitloftref26_Check_S (acc : List AV → Bool) : Summ Tryd.prog GT := bitloftref26_Check_I.summ mixed acc false false

/-! bitloft/bitloftref27.Check -/
noncomputable def bitloftref27_Check_I : FnI Tryd.prog GT := { f := 21, cuts := [], tab := [bitloftref26_Check_S (fun _ => true)], fm := ⟨true, [.val (.int .i64) []]⟩ }
noncomputable def bitloftref27_Check (a0 : D_api_Block) : Option (Int) := bitloftref27_Check_I.call [(.agg T_api_Block (inj false T_api_Block a0))] []
theorem bitloftref27_Check_eq (a0 : D_api_Block) : bitloftref27_Check a0 = (
  (bitloftref26_Check a0.1).bind fun (r1 : (Int)) =>
  if (r1 != (0 : Int)) = true then
    some (8 : Int)
  else
    if ((Int.ofNat (List.length a0.2.1)) != a0.1.2.2.2.2.1) = true then
      some (8 : Int)
    else
      some (0 : Int)) := (FnI.call_eq (by kernel_rfl)).trans (by kernel_rfl)
noncomputable def bitloftref27_Check_S (acc : List AV → Bool) : Summ Tryd.prog GT := bitloftref27_Check_I.summ mixed acc false false

/-! bitloft/bitloftref25.Bytes -/
noncomputable def bitloftref25_Bytes_I : FnI Tryd.prog GT := { f := 119, cuts := [], tab := [], fm := ⟨true, [.val (.slice (.int .u8)) [.nw]]⟩ }
noncomputable def bitloftref25_Bytes : Option (List Int) := bitloftref25_Bytes_I.call [] []
theorem bitloftref25_Bytes_eq : bitloftref25_Bytes = (
  some ([(183 : Int), (98 : Int), (105 : Int), (116 : Int), (108 : Int), (111 : Int), (102 : Int), (116 : Int), (32 : Int), (98 : Int), (108 : Int), (107 : Int), (10 : Int)])) := (FnI.call_eq (by kernel_rfl)).trans (by kernel_rfl)
noncomputable def bitloftref25_Bytes_S (acc : List AV → Bool) : Summ Tryd.prog GT := bitloftref25_Bytes_I.summ mixed acc false false

/-! bitloft/bitloftref26.two -/
noncomputable def bitloftref26_two_I : FnI Tryd.prog GT := { f := 164, cuts := [], tab := [], fm := ⟨true, [.val (.slice (.int .u8)) [.nw]]⟩ }
noncomputable def bitloftref26_two (a0 : Int) : Option (List Int) := bitloftref26_two_I.call [(.int .i64 a0)] []
theorem bitloftref26_two_eq (a0 : Int) : bitloftref26_two a0 = (
  gd (0 ≤ (8 : Int)) <|
  some ([(IntKind.wrap .u8 (Int.fdiv a0 (256 : Int))), (IntKind.wrap .u8 a0)])) := (FnI.call_eq (by kernel_rfl)).trans (by kernel_rfl)
noncomputable def bitloftref26_two_S (acc : List AV → Bool) : Summ Tryd.prog GT := bitloftref26_two_I.summ mixed acc false false

/-! bitloft/bitloftref26.Front -/
noncomputable def bitloftref26_Front_I : FnI Tryd.prog GT := { f := 150, cuts := [], tab := [bitloftref26_two_S (fun _ => true)], fm := ⟨true, [.val (.slice (.int .u8)) [.nw]]⟩ }
noncomputable def bitloftref26_Front (a0 : D_api_BlockHead) : Option (List Int) := bitloftref26_Front_I.call [(.agg T_api_BlockHead (inj false T_api_BlockHead a0))] []
theorem bitloftref26_Front_eq (a0 : D_api_BlockHead) : bitloftref26_Front a0 = (
  (bitloftref26_two a0.2.2.1).bind fun (r1 : (List Int)) =>
  gd ((List.length ([a0.1, (IntKind.wrap .u8 a0.2.1)] ++ r1)) * 1 ≤ 140737488355328) <|
  (bitloftref26_two a0.2.2.2.1).bind fun (r2 : (List Int)) =>
  gd ((List.length (([a0.1, (IntKind.wrap .u8 a0.2.1)] ++ r1) ++ r2)) * 1 ≤ 140737488355328) <|
  (bitloftref26_two a0.2.2.2.2.1).bind fun (r3 : (List Int)) =>
  gd ((List.length ((([a0.1, (IntKind.wrap .u8 a0.2.1)] ++ r1) ++ r2) ++ r3)) * 1 ≤ 140737488355328) <|
  some ((([a0.1, (IntKind.wrap .u8 a0.2.1)] ++ r1) ++ r2) ++ r3)) := (FnI.call_eq (by kernel_rfl)).trans (by kernel_rfl)
noncomputable def bitloftref26_Front_S (acc : List AV → Bool) : Summ Tryd.prog GT := bitloftref26_Front_I.summ mixed acc false false

/-! bitloft/bitloftref26.Bytes -/
noncomputable def bitloftref26_Bytes_I : FnI Tryd.prog GT := { f := 120, cuts := [], tab := [bitloftref26_Front_S (fun _ => true)], fm := ⟨true, [.val (.slice (.int .u8)) [.nw]]⟩ }
noncomputable def bitloftref26_Bytes (a0 : D_api_BlockHead) : Option (List Int) := bitloftref26_Bytes_I.call [(.agg T_api_BlockHead (inj false T_api_BlockHead a0))] []
theorem bitloftref26_Bytes_eq (a0 : D_api_BlockHead) : bitloftref26_Bytes a0 = (
  (bitloftref26_Front a0).bind fun (r1 : (List Int)) =>
  gd ((List.length (r1 ++ (List.take 20 (List.drop 0 a0.2.2.2.2.2.1)))) * 1 ≤ 140737488355328) <|
  some (r1 ++ (List.take 20 (List.drop 0 a0.2.2.2.2.2.1)))) := (FnI.call_eq (by kernel_rfl)).trans (by kernel_rfl)
noncomputable def bitloftref26_Bytes_S (acc : List AV → Bool) : Summ Tryd.prog GT := bitloftref26_Bytes_I.summ mixed acc false false

/-! bitloft/bitloftref27.Bytes -/
noncomputable def bitloftref27_Bytes_I : FnI Tryd.prog GT := { f := 75, cuts := [], tab := [bitloftref25_Bytes_S (fun _ => true), bitloftref26_Bytes_S (fun _ => true)], fm := ⟨true, [.val (.slice (.int .u8)) [.nw]]⟩ }
noncomputable def bitloftref27_Bytes (a0 : D_api_Block) : Option (List Int) := bitloftref27_Bytes_I.call [(.agg T_api_Block (inj false T_api_Block a0))] []
theorem bitloftref27_Bytes_eq (a0 : D_api_Block) : bitloftref27_Bytes a0 = (
  (bitloftref25_Bytes).bind fun (r1 : (List Int)) =>
  (bitloftref26_Bytes a0.1).bind fun (r2 : (List Int)) =>
  gd ((List.length (r1 ++ r2)) * 1 ≤ 140737488355328) <|
  gd ((List.length ((r1 ++ r2) ++ a0.2.1)) * 1 ≤ 140737488355328) <|
  some ((r1 ++ r2) ++ a0.2.1)) := (FnI.call_eq (by kernel_rfl)).trans (by kernel_rfl)
noncomputable def bitloftref27_Bytes_S (acc : List AV → Bool) : Summ Tryd.prog GT := bitloftref27_Bytes_I.summ mixed acc false false

/-! bitloft/bitloftref27.Write -/
noncomputable def bitloftref27_Write_I : FnI Tryd.prog GT := { f := 17, cuts := [], tab := [bitloftref27_Check_S (fun _ => true), bitloftref27_Bytes_S (fun _ => true)], fm := ⟨true, [.val (.slice (.int .u8)) [.nw], .val (.int .i64) []]⟩ }
noncomputable def bitloftref27_Write (a0 : D_api_Block) : Option (List Int × Int) := bitloftref27_Write_I.call [(.agg T_api_Block (inj false T_api_Block a0))] []
theorem bitloftref27_Write_eq (a0 : D_api_Block) : bitloftref27_Write a0 = (
  (bitloftref27_Check a0).bind fun (r1 : (Int)) =>
  if (r1 != (0 : Int)) = true then
    (bitloftref27_Check a0).bind fun (r2 : (Int)) =>
    some ([], r2)
  else
    (bitloftref27_Bytes a0).bind fun (r3 : (List Int)) =>
    some (r3, (0 : Int))) := (FnI.call_eq (by kernel_rfl)).trans (by kernel_rfl)
noncomputable def bitloftref27_Write_S (acc : List AV → Bool) : Summ Tryd.prog GT := bitloftref27_Write_I.summ mixed acc false false

/-! bitloft/header.Parse -/
noncomputable def header_Parse_I : FnI Tryd.prog GT := { f := 76, cuts := [⟨(5, 3), [0, 2, 4, 12, 13], false⟩, ⟨(8, 7), [0, 2, 4, 5, 12, 13, 17, 18], false⟩], tab := [header_Check_S (fun _ => true)], fm := ⟨true, [.val T_api_BlockHead [], .val (.int .i64) []]⟩ }
noncomputable def header_Parse (a0 : List Int) : Option (D_api_BlockHead × Int) := header_Parse_I.call [(.sl (.int .u8) false a0)] []
noncomputable def header_Parse_c1 (v0 : List Int) (v12 : (List Int)) (v13 : Int) (b8 : D_api_BlockHead) (b9 : (List Int)) : Option (D_api_BlockHead × Int) := header_Parse_I.sem ⟨[.code (cIn (cIn (cSnd (cFst (cSnd (cSnd (cSnd (bodyOf Tryd.prog 76)))))))), .inLoop (cIn (cIn (cSnd (cFst (cSnd (cSnd (cSnd (bodyOf Tryd.prog 76)))))))), .inBlock 0, .code (cSnd (cSnd (cSnd (cSnd (bodyOf Tryd.prog 76)))))], ⟨[(0, (.one (.sl (.int .u8) false v0))), (2, (.one (.ptr T_api_BlockHead 8 []))), (4, (.one (.ptr (.arr 5 (.int .i64)) 9 []))), (12, (.one (.agg (.arr 5 (.int .i64)) v12))), (13, (.one (.int .i64 v13)))], [(8, some (.box T_api_BlockHead (inj false T_api_BlockHead b8))), (9, some (.box (.arr 5 (.int .i64)) b9))], 10⟩⟩
noncomputable def header_Parse_c2 (v0 : List Int) (v5 : Int) (v12 : (List Int)) (v13 : Int) (v17 : Int) (v18 : Int) (b8 : D_api_BlockHead) (b9 : (List Int)) : Option (D_api_BlockHead × Int) := header_Parse_I.sem ⟨[.code (cIn (cIn (cSnd (cSnd (cIn (cFst (cSnd (cSnd (cIn (cIn (cSnd (cFst (cSnd (cSnd (cSnd (bodyOf Tryd.prog 76)))))))))))))))), .inLoop (cIn (cIn (cSnd (cSnd (cIn (cFst (cSnd (cSnd (cIn (cIn (cSnd (cFst (cSnd (cSnd (cSnd (bodyOf Tryd.prog 76)))))))))))))))), .inBlock 2, .inBlock 1, .code (cSnd (cSnd (cSnd (cIn (cIn (cSnd (cFst (cSnd (cSnd (cSnd (bodyOf Tryd.prog 76))))))))))), .inLoop (cIn (cIn (cSnd (cFst (cSnd (cSnd (cSnd (bodyOf Tryd.prog 76)))))))), .inBlock 0, .code (cSnd (cSnd (cSnd (cSnd (bodyOf Tryd.prog 76)))))], ⟨[(0, (.one (.sl (.int .u8) false v0))), (2, (.one (.ptr T_api_BlockHead 8 []))), (4, (.one (.ptr (.arr 5 (.int .i64)) 9 []))), (5, (.one (.int .i64 v5))), (12, (.one (.agg (.arr 5 (.int .i64)) v12))), (13, (.one (.int .i64 v13))), (17, (.one (.int .i64 v17))), (18, (.one (.int .i64 v18)))], [(8, some (.box T_api_BlockHead (inj false T_api_BlockHead b8))), (9, some (.box (.arr 5 (.int .i64)) b9))], 10⟩⟩
theorem header_Parse_eq (a0 : List Int) : header_Parse a0 = (
  if ((Int.ofNat (List.length a0)) != (28 : Int)) = true then
    some (((0 : Int), ((0 : Int), ((0 : Int), ((0 : Int), ((0 : Int), ((List.replicate 20 (0 : Int)), ())))))), (12 : Int))
  else
    header_Parse_c1 a0 G_widths (0 : Int) ((0 : Int), ((0 : Int), ((0 : Int), ((0 : Int), ((0 : Int), ((List.replicate 20 (0 : Int)), ())))))) (List.replicate 5 (0 : Int))) := (FnI.call_eq (by kernel_rfl)).trans (by kernel_rfl)
theorem header_Parse_c1_eq (v0 : List Int) (v12 : (List Int)) (v13 : Int) (b8 : D_api_BlockHead) (b9 : (List Int)) : header_Parse_c1 v0 v12 v13 b8 b9 = (
  if (decide (v13 < (5 : Int))) = true then
    gd (0 ≤ v13) <|
    gd (v13 < (5 : Int)) <|
    header_Parse_c2 v0 v13 v12 v13 (List.getD v12 (Int.toNat v13) (0 : Int)) (0 : Int) b8 b9
  else
    gd (0 ≤ (0 : Int)) <|
    gd ((0 : Int) < (5 : Int)) <|
    gd (0 ≤ (1 : Int)) <|
    gd ((1 : Int) < (5 : Int)) <|
    gd (0 ≤ (2 : Int)) <|
    gd ((2 : Int) < (5 : Int)) <|
    gd (0 ≤ (3 : Int)) <|
    gd ((3 : Int) < (5 : Int)) <|
    gd (0 ≤ (4 : Int)) <|
    gd ((4 : Int) < (5 : Int)) <|
    (header_Check ((IntKind.wrap .u8 (List.getD b9 0 (0 : Int))), ((List.getD b9 1 (0 : Int)), ((List.getD b9 2 (0 : Int)), ((List.getD b9 3 (0 : Int)), ((List.getD b9 4 (0 : Int)), ((splice (List.replicate 20 (0 : Int)) 0 (List.take (min (List.length v0) 20) v0)), ()))))))).bind fun (r1 : (Int)) =>
    if (r1 != (0 : Int)) = true then
      some (((0 : Int), ((0 : Int), ((0 : Int), ((0 : Int), ((0 : Int), ((List.replicate 20 (0 : Int)), ())))))), (12 : Int))
    else
      some (((IntKind.wrap .u8 (List.getD b9 0 (0 : Int))), ((List.getD b9 1 (0 : Int)), ((List.getD b9 2 (0 : Int)), ((List.getD b9 3 (0 : Int)), ((List.getD b9 4 (0 : Int)), ((splice (List.replicate 20 (0 : Int)) 0 (List.take (min (List.length v0) 20) v0)), ())))))), (0 : Int))) := (FnI.sem_eq _).trans (by kernel_rfl)
theorem header_Parse_c2_eq (v0 : List Int) (v5 : Int) (v12 : (List Int)) (v13 : Int) (v17 : Int) (v18 : Int) (b8 : D_api_BlockHead) (b9 : (List Int)) : header_Parse_c2 v0 v5 v12 v13 v17 v18 b8 b9 = (
  if (decide (v18 < v17)) = true then
    gd (0 ≤ v5) <|
    gd (v5 < (5 : Int)) <|
    gd (0 ≤ (8 : Int)) <|
    gd (0 ≤ (0 : Int)) <|
    gd ((0 : Int) < (Int.ofNat (List.length v0))) <|
    gd (0 ≤ v5) <|
    gd (v5 < (5 : Int)) <|
    gd (0 ≤ (1 : Int)) <|
    gd ((1 : Int) ≤ (Int.ofNat (List.length v0))) <|
    header_Parse_c2 (List.drop 1 v0) v5 v12 v13 v17 (IntKind.wrap .i64 (v18 + (1 : Int))) b8 (List.set b9 (Int.toNat v5) (bitsOr .i64 (IntKind.wrap .i64 ((List.getD b9 (Int.toNat v5) (0 : Int)) * (256 : Int))) (IntKind.wrap .i64 (List.getD v0 0 (0 : Int)))))
  else
    header_Parse_c1 v0 v12 (IntKind.wrap .i64 (v13 + (1 : Int))) b8 b9) := (FnI.sem_eq _).trans (by kernel_rfl)
noncomputable def header_Parse_S (acc : List AV → Bool) : Summ Tryd.prog GT := header_Parse_I.summ mixed acc false false

/-! bitloft/marker.check -/
noncomputable def marker_check_I : FnI Tryd.prog GT := { f := 121, cuts := [], tab := [], fm := ⟨true, [.val (.int .i64) []]⟩ }
noncomputable def marker_check (a0 : List Int) (a1 : Int) : Option (Int) := marker_check_I.call [(.sl (.int .u8) false a0), (.int .i64 a1)] []
theorem marker_check_eq (a0 : List Int) (a1 : Int) : marker_check a0 a1 = (
  if (decide ((Int.ofNat (List.length a0)) > (50000 : Int))) = true then
    some (4 : Int)
  else
    if (decide (a1 < (0 : Int))) = true then
      some (2 : Int)
    else
      if (decide (a1 > (Int.ofNat (List.length a0)))) = true then
        some (2 : Int)
      else
        some (0 : Int)) := (FnI.call_eq (by kernel_rfl)).trans (by kernel_rfl)
noncomputable def marker_check_S (acc : List AV → Bool) : Summ Tryd.prog GT := marker_check_I.summ mixed acc false false

/-! bytes.Equal -/
noncomputable def bytes_Equal_I : FnI Tryd.prog GT := { f := 144, cuts := [], tab := [], fm := ⟨true, [.val .bool []]⟩ }
noncomputable def bytes_Equal (a0 : List Int) (a1 : List Int) : Option (Bool) := bytes_Equal_I.call [(.sl (.int .u8) false a0), (.sl (.int .u8) false a1)] []
theorem bytes_Equal_eq (a0 : List Int) (a1 : List Int) : bytes_Equal a0 a1 = (
  some ((ByteArray.toList (toStr a0)) == (ByteArray.toList (toStr a1)))) := (FnI.call_eq (by kernel_rfl)).trans (by kernel_rfl)
noncomputable def bytes_Equal_S (acc : List AV → Bool) : Summ Tryd.prog GT := bytes_Equal_I.summ mixed acc false false

/-! bytes.HasPrefix -/
noncomputable def bytes_HasPrefix_I : FnI Tryd.prog GT := { f := 109, cuts := [], tab := [bytes_Equal_S (fun _ => true)], fm := ⟨true, [.val .bool []]⟩ }
noncomputable def bytes_HasPrefix (a0 : List Int) (a1 : List Int) : Option (Bool) := bytes_HasPrefix_I.call [(.sl (.int .u8) false a0), (.sl (.int .u8) false a1)] []
theorem bytes_HasPrefix_eq (a0 : List Int) (a1 : List Int) : bytes_HasPrefix a0 a1 = (
  if (decide ((Int.ofNat (List.length a0)) ≥ (Int.ofNat (List.length a1)))) = true then
    gd (0 ≤ (Int.ofNat (List.length a1))) <|
    gd ((Int.ofNat (List.length a1)) ≤ (Int.ofNat (List.length a0))) <|
    (bytes_Equal (List.take (List.length a1) a0) a1).bind fun (r1 : (Bool)) =>
    some (r1)
  else
    some (false)) := (FnI.call_eq (by kernel_rfl)).trans (by kernel_rfl)
noncomputable def bytes_HasPrefix_S (acc : List AV → Bool) : Summ Tryd.prog GT := bytes_HasPrefix_I.summ mixed acc false false

/-! bitloft/marker.At -/
noncomputable def marker_At_I : FnI Tryd.prog GT := { f := 77, cuts := [], tab := [marker_check_S (fun _ => true), marker_Bytes_S (fun _ => true), bytes_HasPrefix_S (fun _ => true)], fm := ⟨true, [.val .bool [], .val (.int .i64) []]⟩ }
noncomputable def marker_At (a0 : List Int) (a1 : Int) : Option (Bool × Int) := marker_At_I.call [(.sl (.int .u8) false a0), (.int .i64 a1)] []
theorem marker_At_eq (a0 : List Int) (a1 : Int) : marker_At a0 a1 = (
  (marker_check a0 a1).bind fun (r1 : (Int)) =>
  if (r1 != (0 : Int)) = true then
    some (false, r1)
  else
    gd (0 ≤ a1) <|
    gd (a1 ≤ (Int.ofNat (List.length a0))) <|
    (marker_Bytes).bind fun (r2 : (List Int)) =>
    (bytes_HasPrefix (List.drop (Int.toNat a1) a0) r2).bind fun (r3 : (Bool)) =>
    some (r3, (0 : Int))) := (FnI.call_eq (by kernel_rfl)).trans (by kernel_rfl)
noncomputable def marker_At_S (acc : List AV → Bool) : Summ Tryd.prog GT := marker_At_I.summ mixed acc false false

/-! bytes.Clone -/
noncomputable def bytes_Clone_I : FnI Tryd.prog GT := { f := 78, cuts := [], tab := [], fm := ⟨true, [.val (.slice (.int .u8)) [.nw]]⟩ }
noncomputable def bytes_Clone (a0 : List Int) : Option (List Int) := bytes_Clone_I.call [(.sl (.int .u8) false a0)] []
theorem bytes_Clone_eq (a0 : List Int) : bytes_Clone a0 = (
  anyv (fun (r1 : Bool) => r1 = true → a0 = []) fun (r1 : Bool) =>
  if r1 = true then
    some ([])
  else
    gd ((List.length ([] ++ a0)) * 1 ≤ 140737488355328) <|
    some ([] ++ a0)) := (FnI.call_eq (by kernel_rfl)).trans (by kernel_rfl)
noncomputable def bytes_Clone_S (acc : List AV → Bool) : Summ Tryd.prog GT := bytes_Clone_I.summ mixed acc false false

/-! bitloft/block.Read -/
noncomputable def block_Read_I : FnI Tryd.prog GT := { f := 18, cuts := [], tab := [header_Parse_S (fun _ => true), marker_At_S (fun _ => true), bytes_Clone_S (fun _ => true)], fm := ⟨true, [.val T_api_Block [], .val (.int .i64) [], .val (.int .i64) []]⟩ }
noncomputable def block_Read (a0 : List Int) : Option (D_api_Block × Int × Int) := block_Read_I.call [(.sl (.int .u8) false a0)] []
theorem block_Read_eq (a0 : List Int) : block_Read a0 = (
  if (decide ((Int.ofNat (List.length a0)) > (50000 : Int))) = true then
    some ((((0 : Int), ((0 : Int), ((0 : Int), ((0 : Int), ((0 : Int), ((List.replicate 20 (0 : Int)), ())))))), ([], ())), ((0 : Int), (4 : Int)))
  else
    if (decide ((Int.ofNat (List.length a0)) < (41 : Int))) = true then
      some ((((0 : Int), ((0 : Int), ((0 : Int), ((0 : Int), ((0 : Int), ((List.replicate 20 (0 : Int)), ())))))), ([], ())), ((0 : Int), (18 : Int)))
    else
      gd (0 ≤ (13 : Int)) <|
      gd ((13 : Int) ≤ (41 : Int)) <|
      gd ((41 : Int) ≤ (Int.ofNat (List.length a0))) <|
      (header_Parse (List.take 28 (List.drop 13 a0))).bind fun (r1 : (D_api_BlockHead × Int)) =>
      (marker_At a0 (0 : Int)).bind fun (r2 : (Bool × Int)) =>
      if (not r2.1) = true then
        some ((((0 : Int), ((0 : Int), ((0 : Int), ((0 : Int), ((0 : Int), ((List.replicate 20 (0 : Int)), ())))))), ([], ())), ((0 : Int), (12 : Int)))
      else
        if (r1.2 != (0 : Int)) = true then
          some ((((0 : Int), ((0 : Int), ((0 : Int), ((0 : Int), ((0 : Int), ((List.replicate 20 (0 : Int)), ())))))), ([], ())), ((0 : Int), (12 : Int)))
        else
          if (decide ((Int.ofNat (List.length a0)) < (IntKind.wrap .i64 ((41 : Int) + r1.1.2.2.2.2.1)))) = true then
            some ((((0 : Int), ((0 : Int), ((0 : Int), ((0 : Int), ((0 : Int), ((List.replicate 20 (0 : Int)), ())))))), ([], ())), ((0 : Int), (18 : Int)))
          else
            gd (0 ≤ (41 : Int)) <|
            gd ((41 : Int) ≤ (IntKind.wrap .i64 ((41 : Int) + r1.1.2.2.2.2.1))) <|
            gd ((IntKind.wrap .i64 ((41 : Int) + r1.1.2.2.2.2.1)) ≤ (Int.ofNat (List.length a0))) <|
            (bytes_Clone (List.take ((Int.toNat (IntKind.wrap .i64 ((41 : Int) + r1.1.2.2.2.2.1))) - 41) (List.drop 41 a0))).bind fun (r3 : (List Int)) =>
            some ((r1.1, (r3, ())), ((IntKind.wrap .i64 ((41 : Int) + r1.1.2.2.2.2.1)), (0 : Int)))) := (FnI.call_eq (by kernel_rfl)).trans (by kernel_rfl)
noncomputable def block_Read_S (acc : List AV → Bool) : Summ Tryd.prog GT := block_Read_I.summ mixed acc false false

/-! bitloft/bitloftref26.Parse -/
noncomputable def bitloftref26_Parse_I : FnI Tryd.prog GT := { f := 122, cuts := [⟨(5, 3), [0, 2, 4, 5], false⟩], tab := [bitloftref26_Check_S (fun _ => true)], fm := ⟨true, [.val T_api_BlockHead [], .val (.int .i64) []]⟩ }
noncomputable def bitloftref26_Parse (a0 : List Int) : Option (D_api_BlockHead × Int) := bitloftref26_Parse_I.call [(.sl (.int .u8) false a0)] []
noncomputable def bitloftref26_Parse_c1 (v0 : List Int) (v5 : Int) (b8 : D_api_BlockHead) (b9 : D_api_BlockHead) : Option (D_api_BlockHead × Int) := bitloftref26_Parse_I.sem ⟨[.code (cIn (cIn (cSnd (cFst (cSnd (cSnd (cSnd (bodyOf Tryd.prog 122)))))))), .inLoop (cIn (cIn (cSnd (cFst (cSnd (cSnd (cSnd (bodyOf Tryd.prog 122)))))))), .inBlock 0, .code (cSnd (cSnd (cSnd (cSnd (bodyOf Tryd.prog 122)))))], ⟨[(0, (.one (.sl (.int .u8) false v0))), (2, (.one (.ptr T_api_BlockHead 8 []))), (4, (.one (.ptr T_api_BlockHead 9 []))), (5, (.one (.int .i64 v5)))], [(8, some (.box T_api_BlockHead (inj false T_api_BlockHead b8))), (9, some (.box T_api_BlockHead (inj false T_api_BlockHead b9)))], 10⟩⟩
theorem bitloftref26_Parse_eq (a0 : List Int) : bitloftref26_Parse a0 = (
  if ((Int.ofNat (List.length a0)) != (28 : Int)) = true then
    some (((0 : Int), ((0 : Int), ((0 : Int), ((0 : Int), ((0 : Int), ((List.replicate 20 (0 : Int)), ())))))), (12 : Int))
  else
    gd (0 ≤ (0 : Int)) <|
    gd ((0 : Int) < (Int.ofNat (List.length a0))) <|
    gd (0 ≤ (1 : Int)) <|
    gd ((1 : Int) < (Int.ofNat (List.length a0))) <|
    gd (0 ≤ (2 : Int)) <|
    gd ((2 : Int) < (Int.ofNat (List.length a0))) <|
    gd (0 ≤ (8 : Int)) <|
    gd (0 ≤ (3 : Int)) <|
    gd ((3 : Int) < (Int.ofNat (List.length a0))) <|
    gd (0 ≤ (4 : Int)) <|
    gd ((4 : Int) < (Int.ofNat (List.length a0))) <|
    gd (0 ≤ (8 : Int)) <|
    gd (0 ≤ (5 : Int)) <|
    gd ((5 : Int) < (Int.ofNat (List.length a0))) <|
    gd (0 ≤ (6 : Int)) <|
    gd ((6 : Int) < (Int.ofNat (List.length a0))) <|
    gd (0 ≤ (8 : Int)) <|
    gd (0 ≤ (7 : Int)) <|
    gd ((7 : Int) < (Int.ofNat (List.length a0))) <|
    bitloftref26_Parse_c1 a0 (0 : Int) ((0 : Int), ((0 : Int), ((0 : Int), ((0 : Int), ((0 : Int), ((List.replicate 20 (0 : Int)), ())))))) ((List.getD a0 0 (0 : Int)), ((IntKind.wrap .i64 (List.getD a0 1 (0 : Int))), ((IntKind.wrap .i64 ((IntKind.wrap .i64 ((IntKind.wrap .i64 (List.getD a0 2 (0 : Int))) * (256 : Int))) + (IntKind.wrap .i64 (List.getD a0 3 (0 : Int))))), ((IntKind.wrap .i64 ((IntKind.wrap .i64 ((IntKind.wrap .i64 (List.getD a0 4 (0 : Int))) * (256 : Int))) + (IntKind.wrap .i64 (List.getD a0 5 (0 : Int))))), ((IntKind.wrap .i64 ((IntKind.wrap .i64 ((IntKind.wrap .i64 (List.getD a0 6 (0 : Int))) * (256 : Int))) + (IntKind.wrap .i64 (List.getD a0 7 (0 : Int))))), ((List.replicate 20 (0 : Int)), ()))))))) := (FnI.call_eq (by kernel_rfl)).trans (by kernel_rfl)
theorem bitloftref26_Parse_c1_eq (v0 : List Int) (v5 : Int) (b8 : D_api_BlockHead) (b9 : D_api_BlockHead) : bitloftref26_Parse_c1 v0 v5 b8 b9 = (
  if (decide (v5 < (20 : Int))) = true then
    gd (0 ≤ (IntKind.wrap .i64 ((8 : Int) + v5))) <|
    gd ((IntKind.wrap .i64 ((8 : Int) + v5)) < (Int.ofNat (List.length v0))) <|
    gd (0 ≤ v5) <|
    gd (v5 < (20 : Int)) <|
    bitloftref26_Parse_c1 v0 (IntKind.wrap .i64 (v5 + (1 : Int))) b8 (b9.1, (b9.2.1, (b9.2.2.1, (b9.2.2.2.1, (b9.2.2.2.2.1, ((List.set b9.2.2.2.2.2.1 (Int.toNat v5) (List.getD v0 (Int.toNat (IntKind.wrap .i64 ((8 : Int) + v5))) (0 : Int))), b9.2.2.2.2.2.2))))))
  else
    (bitloftref26_Check b9).bind fun (r1 : (Int)) =>
    if (r1 != (0 : Int)) = true then
      some (((0 : Int), ((0 : Int), ((0 : Int), ((0 : Int), ((0 : Int), ((List.replicate 20 (0 : Int)), ())))))), (12 : Int))
    else
      some (b9, (0 : Int))) := (FnI.sem_eq _).trans (by kernel_rfl)
noncomputable def bitloftref26_Parse_S (acc : List AV → Bool) : Summ Tryd.prog GT := bitloftref26_Parse_I.summ mixed acc false false

/-! bitloft/bitloftref25.Stands -/
noncomputable def bitloftref25_Stands_I : FnI Tryd.prog GT := { f := 123, cuts := [⟨(5, 3), [0, 1, 5, 6], false⟩], tab := [bitloftref25_Bytes_S (fun _ => true)], fm := ⟨true, [.val .bool []]⟩ }
noncomputable def bitloftref25_Stands (a0 : List Int) (a1 : Int) : Option (Bool) := bitloftref25_Stands_I.call [(.sl (.int .u8) false a0), (.int .i64 a1)] []
noncomputable def bitloftref25_Stands_c1 (v0 : List Int) (v1 : Int) (v6 : Int) (h8 : List Int) : Option (Bool) := bitloftref25_Stands_I.sem ⟨[.code (cIn (cIn (cSnd (cFst (cSnd (cSnd (cSnd (bodyOf Tryd.prog 123)))))))), .inLoop (cIn (cIn (cSnd (cFst (cSnd (cSnd (cSnd (bodyOf Tryd.prog 123)))))))), .inBlock 0, .code (cSnd (cSnd (cSnd (cSnd (bodyOf Tryd.prog 123)))))], ⟨[(0, (.one (.sl (.int .u8) false v0))), (1, (.one (.int .i64 v1))), (5, (.one (.ref (.int .u8) 8 0 (List.length h8) true))), (6, (.one (.int .i64 v6)))], [(8, some (.row (.int .u8) true h8))], 9⟩⟩
theorem bitloftref25_Stands_eq (a0 : List Int) (a1 : Int) : bitloftref25_Stands a0 a1 = (
  (bitloftref25_Bytes).bind fun (r1 : (List Int)) =>
  if (decide (a1 < (0 : Int))) = true then
    some (false)
  else
    if (decide (a1 > (Int.ofNat (List.length a0)))) = true then
      some (false)
    else
      if (decide ((IntKind.wrap .i64 ((Int.ofNat (List.length a0)) - a1)) < (13 : Int))) = true then
        some (false)
      else
        bitloftref25_Stands_c1 a0 a1 (0 : Int) r1) := (FnI.call_eq (by kernel_rfl)).trans (by kernel_rfl)
theorem bitloftref25_Stands_c1_eq (v0 : List Int) (v1 : Int) (v6 : Int) (h8 : List Int) : bitloftref25_Stands_c1 v0 v1 v6 h8 = (
  if (decide (v6 < (13 : Int))) = true then
    gd (0 ≤ (IntKind.wrap .i64 (v1 + v6))) <|
    gd ((IntKind.wrap .i64 (v1 + v6)) < (Int.ofNat (List.length v0))) <|
    gd (0 ≤ v6) <|
    gd (v6 < (Int.ofNat (List.length h8))) <|
    if ((List.getD v0 (Int.toNat (IntKind.wrap .i64 (v1 + v6))) (0 : Int)) != (List.getD h8 (0 + (Int.toNat v6)) (0 : Int))) = true then
      some (false)
    else
      bitloftref25_Stands_c1 v0 v1 (IntKind.wrap .i64 (v6 + (1 : Int))) h8
  else
    some (true)) := (FnI.sem_eq _).trans (by kernel_rfl)
noncomputable def bitloftref25_Stands_S (acc : List AV → Bool) : Summ Tryd.prog GT := bitloftref25_Stands_I.summ mixed acc false false

/-! bitloft/bitloftref27.Begins -/
noncomputable def bitloftref27_Begins_I : FnI Tryd.prog GT := { f := 79, cuts := [], tab := [bitloftref26_Parse_S (fun _ => true), bitloftref25_Stands_S (fun _ => true)], fm := ⟨true, [.val T_api_Block [], .val (.int .i64) [], .val (.int .i64) []]⟩ }
noncomputable def bitloftref27_Begins (a0 : List Int) : Option (D_api_Block × Int × Int) := bitloftref27_Begins_I.call [(.sl (.int .u8) false a0)] []
theorem bitloftref27_Begins_eq (a0 : List Int) : bitloftref27_Begins a0 = (
  if (decide ((Int.ofNat (List.length a0)) < (41 : Int))) = true then
    some ((((0 : Int), ((0 : Int), ((0 : Int), ((0 : Int), ((0 : Int), ((List.replicate 20 (0 : Int)), ())))))), ([], ())), ((0 : Int), (18 : Int)))
  else
    gd (0 ≤ (13 : Int)) <|
    gd ((13 : Int) ≤ (41 : Int)) <|
    gd ((41 : Int) ≤ (Int.ofNat (List.length a0))) <|
    (bitloftref26_Parse (List.take 28 (List.drop 13 a0))).bind fun (r1 : (D_api_BlockHead × Int)) =>
    (bitloftref25_Stands a0 (0 : Int)).bind fun (r2 : (Bool)) =>
    if (not r2) = true then
      some ((((0 : Int), ((0 : Int), ((0 : Int), ((0 : Int), ((0 : Int), ((List.replicate 20 (0 : Int)), ())))))), ([], ())), ((0 : Int), (12 : Int)))
    else
      if (r1.2 != (0 : Int)) = true then
        some ((((0 : Int), ((0 : Int), ((0 : Int), ((0 : Int), ((0 : Int), ((List.replicate 20 (0 : Int)), ())))))), ([], ())), ((0 : Int), (12 : Int)))
      else
        if (decide ((IntKind.wrap .i64 ((Int.ofNat (List.length a0)) - (41 : Int))) < r1.1.2.2.2.2.1)) = true then
          some ((((0 : Int), ((0 : Int), ((0 : Int), ((0 : Int), ((0 : Int), ((List.replicate 20 (0 : Int)), ())))))), ([], ())), ((0 : Int), (18 : Int)))
        else
          gd (0 ≤ (41 : Int)) <|
          gd ((41 : Int) ≤ (IntKind.wrap .i64 ((41 : Int) + r1.1.2.2.2.2.1))) <|
          gd ((IntKind.wrap .i64 ((41 : Int) + r1.1.2.2.2.2.1)) ≤ (Int.ofNat (List.length a0))) <|
          gd ((List.length ([] ++ (List.take ((Int.toNat (IntKind.wrap .i64 ((41 : Int) + r1.1.2.2.2.2.1))) - 41) (List.drop 41 a0)))) * 1 ≤ 140737488355328) <|
          some ((r1.1, (([] ++ (List.take ((Int.toNat (IntKind.wrap .i64 ((41 : Int) + r1.1.2.2.2.2.1))) - 41) (List.drop 41 a0))), ())), ((IntKind.wrap .i64 ((41 : Int) + r1.1.2.2.2.2.1)), (0 : Int)))) := (FnI.call_eq (by kernel_rfl)).trans (by kernel_rfl)
noncomputable def bitloftref27_Begins_S (acc : List AV → Bool) : Summ Tryd.prog GT := bitloftref27_Begins_I.summ mixed acc false false

/-! bitloft/bitloftref27.Read -/
noncomputable def bitloftref27_Read_I : FnI Tryd.prog GT := { f := 19, cuts := [], tab := [bitloftref27_Begins_S (fun _ => true)], fm := ⟨true, [.val T_api_Block [], .val (.int .i64) [], .val (.int .i64) []]⟩ }
noncomputable def bitloftref27_Read (a0 : List Int) : Option (D_api_Block × Int × Int) := bitloftref27_Read_I.call [(.sl (.int .u8) false a0)] []
theorem bitloftref27_Read_eq (a0 : List Int) : bitloftref27_Read a0 = (
  if (decide ((Int.ofNat (List.length a0)) > (50000 : Int))) = true then
    some ((((0 : Int), ((0 : Int), ((0 : Int), ((0 : Int), ((0 : Int), ((List.replicate 20 (0 : Int)), ())))))), ([], ())), ((0 : Int), (4 : Int)))
  else
    (bitloftref27_Begins a0).bind fun (r1 : (D_api_Block × Int × Int)) =>
    some (r1)) := (FnI.call_eq (by kernel_rfl)).trans (by kernel_rfl)
noncomputable def bitloftref27_Read_S (acc : List AV → Bool) : Summ Tryd.prog GT := bitloftref27_Read_I.summ mixed acc false false

/-! bitloft/bitloftref27.Same -/
noncomputable def bitloftref27_Same_I : FnI Tryd.prog GT := { f := 22, cuts := [], tab := [], fm := ⟨true, [.val .bool []]⟩ }
noncomputable def bitloftref27_Same (a0 : D_api_Block) (a1 : D_api_Block) : Option (Bool) := bitloftref27_Same_I.call [(.agg T_api_Block (inj false T_api_Block a0)), (.agg T_api_Block (inj false T_api_Block a1))] []
theorem bitloftref27_Same_eq (a0 : D_api_Block) (a1 : D_api_Block) : bitloftref27_Same a0 a1 = (
  if (peq T_api_BlockHead a0.1 a1.1) = true then
    some ((ByteArray.toList (toStr a0.2.1)) == (ByteArray.toList (toStr a1.2.1)))
  else
    some (false)) := (FnI.call_eq (by kernel_rfl)).trans (by kernel_rfl)
noncomputable def bitloftref27_Same_S (acc : List AV → Bool) : Summ Tryd.prog GT := bitloftref27_Same_I.summ mixed acc false false

/-! bitloft/bitloftlaw27.BlockWrites -/
noncomputable def bitloftlaw27_BlockWrites_I : FnI Tryd.prog GT := { f := 3, cuts := [], tab := [block_Write_S (fun _ => true), bitloftref27_Write_S (fun _ => true), block_Read_S (fun _ => true), bitloftref27_Read_S (fun _ => true), block_Check_S (fun _ => true), bitloftref27_Check_S (fun _ => true), bitloftref27_Same_S (fun _ => true)], fm := ⟨true, [.val .bool []]⟩ }
noncomputable def bitloftlaw27_BlockWrites (a0 : D_api_Block) (a1 : List Int) : Option (Bool) := bitloftlaw27_BlockWrites_I.call [(.agg T_api_Block (inj false T_api_Block a0)), (.sl (.int .u8) false a1)] []
theorem bitloftlaw27_BlockWrites_eq (a0 : D_api_Block) (a1 : List Int) : bitloftlaw27_BlockWrites a0 a1 = (
  if (decide ((Int.ofNat (List.length a0.2.1)) > (5000 : Int))) = true then
    some (true)
  else
    if (decide ((Int.ofNat (List.length a1)) > (5000 : Int))) = true then
      if (decide ((Int.ofNat (List.length a1)) ≤ (50000 : Int))) = true then
        some (true)
      else
        (block_Write a0).bind fun (r1 : (List Int × Int)) =>
        (bitloftref27_Write a0).bind fun (r2 : (List Int × Int)) =>
        (block_Read a1).bind fun (r3 : (D_api_Block × Int × Int)) =>
        (bitloftref27_Read (ofStr (toStr a1))).bind fun (r4 : (D_api_Block × Int × Int)) =>
        (block_Check a0).bind fun (r5 : (Int)) =>
        (bitloftref27_Check a0).bind fun (r6 : (Int)) =>
        if (r5 == r6) = true then
          if ((ByteArray.toList (toStr r1.1)) == (ByteArray.toList (toStr r2.1))) = true then
            if (r1.2 == r2.2) = true then
              (bitloftref27_Same r3.1 r4.1).bind fun (r7 : (Bool)) =>
              if r7 = true then
                if (r3.2.1 == r4.2.1) = true then
                  if (r3.2.2 == r4.2.2) = true then
                    some ((ByteArray.toList (toStr a1)) == (ByteArray.toList (toStr a1)))
                  else
                    some (false)
                else
                  some (false)
              else
                some (false)
            else
              some (false)
          else
            some (false)
        else
          some (false)
    else
      (block_Write a0).bind fun (r8 : (List Int × Int)) =>
      (bitloftref27_Write a0).bind fun (r9 : (List Int × Int)) =>
      (block_Read a1).bind fun (r10 : (D_api_Block × Int × Int)) =>
      (bitloftref27_Read (ofStr (toStr a1))).bind fun (r11 : (D_api_Block × Int × Int)) =>
      (block_Check a0).bind fun (r12 : (Int)) =>
      (bitloftref27_Check a0).bind fun (r13 : (Int)) =>
      if (r12 == r13) = true then
        if ((ByteArray.toList (toStr r8.1)) == (ByteArray.toList (toStr r9.1))) = true then
          if (r8.2 == r9.2) = true then
            (bitloftref27_Same r10.1 r11.1).bind fun (r14 : (Bool)) =>
            if r14 = true then
              if (r10.2.1 == r11.2.1) = true then
                if (r10.2.2 == r11.2.2) = true then
                  some ((ByteArray.toList (toStr a1)) == (ByteArray.toList (toStr a1)))
                else
                  some (false)
              else
                some (false)
            else
              some (false)
          else
            some (false)
        else
          some (false)
      else
        some (false)) := (FnI.call_eq (by kernel_rfl)).trans (by kernel_rfl)
noncomputable def bitloftlaw27_BlockWrites_S (acc : List AV → Bool) : Summ Tryd.prog GT := bitloftlaw27_BlockWrites_I.summ mixed acc false false
end Go.Ab
