/-
  What the functions compute, as plain functions: printed by a program of this repo's own and checked here by the kernel.
-/
import Derived.Test.YtdhmnakopofmpaaDoorGenF5c
set_option linter.unusedVariables false
set_option maxRecDepth 20000
namespace Go.Ab
open Go Go.Proofs
/-! bitloft/list.is -/
noncomputable def list_is_I : FnI Tryd.prog GT := { f := 106, cuts := [], tab := [], fm := ⟨true, [.val .bool []]⟩ }
noncomputable def list_is (a0 : D_api_BlockHead) (a1 : D_api_Piece) : Option (Bool) := list_is_I.call [(.agg T_api_BlockHead (inj false T_api_BlockHead a0)), (.agg T_api_Piece (inj false T_api_Piece a1))] []
theorem list_is_eq (a0 : D_api_BlockHead) (a1 : D_api_Piece) : list_is a0 a1 = (
  some (peq T_api_Piece (a0.2.1, (a0.2.2.1, (a0.2.2.2.1, ()))) a1)) := (FnI.call_eq (by kernel_rfl)).trans (by kernel_rfl)
noncomputable def list_is_S (acc : List AV → Bool) : Summ Tryd.prog GT := list_is_I.summ mixed acc false false

/-! bitloft/list.Check -/
noncomputable def list_Check_I : FnI Tryd.prog GT := { f := 56, cuts := [⟨(7, 3), [3, 28, 29, 30], false⟩], tab := [pack_Check_S (fun _ => true), member_Valid_S (fun _ => true), list_pieces_S (fun _ => true), header_Check_S (fun _ => true), list_is_S (fun _ => true)], fm := ⟨true, [.val (.int .i64) []]⟩ }
noncomputable def list_Check (a0 : D_api_Listing) : Option (Int) := list_Check_I.call [(.agg T_api_Listing (inj false T_api_Listing a0))] []
noncomputable def list_Check_c1 (v28 : List D_api_BlockHead) (v29 : Int) (v30 : Int) (h8 : List D_api_Piece) : Option (Int) := list_Check_I.sem ⟨[.code (cIn (cIn (cSnd (cFst (cSnd (cSnd (cSnd (cSnd (bodyOf Tryd.prog 56))))))))), .inLoop (cIn (cIn (cSnd (cFst (cSnd (cSnd (cSnd (cSnd (bodyOf Tryd.prog 56))))))))), .inBlock 0, .code (cSnd (cSnd (cSnd (cSnd (cSnd (bodyOf Tryd.prog 56))))))], ⟨[(3, (.one (.ref T_api_Piece 8 0 (List.length h8) true))), (28, (.one (.sl T_api_BlockHead false v28))), (29, (.one (.int .i64 v29))), (30, (.one (.int .i64 v30)))], [(8, some (.row T_api_Piece true h8))], 9⟩⟩
theorem list_Check_eq (a0 : D_api_Listing) : list_Check a0 = (
  (pack_Check a0.1).bind fun (r1 : (Int)) =>
  if (r1 != (0 : Int)) = true then
    some (8 : Int)
  else
    (member_Valid a0.2.1).bind fun (r2 : (Int)) =>
    if (r2 != (0 : Int)) = true then
      some (8 : Int)
    else
      (list_pieces a0.1 a0.2.1).bind fun (r3 : (List D_api_Piece)) =>
      if ((Int.ofNat (List.length r3)) != (Int.ofNat (List.length a0.2.2.1))) = true then
        some (8 : Int)
      else
        list_Check_c1 a0.2.2.1 (Int.ofNat (List.length a0.2.2.1)) (0 : Int) r3) := (FnI.call_eq (by kernel_rfl)).trans (by kernel_rfl)
theorem list_Check_c1_eq (v28 : List D_api_BlockHead) (v29 : Int) (v30 : Int) (h8 : List D_api_Piece) : list_Check_c1 v28 v29 v30 h8 = (
  if (decide (v30 < v29)) = true then
    gd (0 ≤ v30) <|
    gd (v30 < (Int.ofNat (List.length v28))) <|
    (header_Check (List.getD v28 (Int.toNat v30) (pzero T_api_BlockHead))).bind fun (r4 : (Int)) =>
    if (r4 != (0 : Int)) = true then
      some (8 : Int)
    else
      gd (0 ≤ v30) <|
      gd (v30 < (Int.ofNat (List.length h8))) <|
      (list_is (List.getD v28 (Int.toNat v30) (pzero T_api_BlockHead)) (List.getD h8 (0 + (Int.toNat v30)) (pzero T_api_Piece))).bind fun (r5 : (Bool)) =>
      if (not r5) = true then
        some (8 : Int)
      else
        list_Check_c1 v28 v29 (IntKind.wrap .i64 (v30 + (1 : Int))) h8
  else
    some (0 : Int)) := (FnI.sem_eq _).trans (by kernel_rfl)
noncomputable def list_Check_S (acc : List AV → Bool) : Summ Tryd.prog GT := list_Check_I.summ mixed acc false false

/-! bitloft/bound.Saved -/
noncomputable def bound_Saved_I : FnI Tryd.prog GT := { f := 59, cuts := [⟨(6, 3), [5, 14, 15, 16], false⟩], tab := [list_Check_S (fun _ => true)], fm := ⟨true, [.val (.int .i64) [], .val (.int .i64) []]⟩ }
noncomputable def bound_Saved (a0 : D_api_Listing) : Option (Int × Int) := bound_Saved_I.call [(.agg T_api_Listing (inj false T_api_Listing a0))] []
noncomputable def bound_Saved_c1 (v5 : Int) (v14 : List D_api_BlockHead) (v15 : Int) (v16 : Int) : Option (Int × Int) := bound_Saved_I.sem ⟨[.code (cIn (cIn (cSnd (cFst (cSnd (cSnd (cSnd (bodyOf Tryd.prog 59)))))))), .inLoop (cIn (cIn (cSnd (cFst (cSnd (cSnd (cSnd (bodyOf Tryd.prog 59)))))))), .inBlock 0, .code (cSnd (cSnd (cSnd (cSnd (bodyOf Tryd.prog 59)))))], ⟨[(5, (.one (.int .i64 v5))), (14, (.one (.sl T_api_BlockHead false v14))), (15, (.one (.int .i64 v15))), (16, (.one (.int .i64 v16)))], [], 8⟩⟩
theorem bound_Saved_eq (a0 : D_api_Listing) : bound_Saved a0 = (
  (list_Check a0).bind fun (r1 : (Int)) =>
  if (r1 != (0 : Int)) = true then
    some ((0 : Int), r1)
  else
    bound_Saved_c1 (0 : Int) a0.2.2.1 (Int.ofNat (List.length a0.2.2.1)) (0 : Int)) := (FnI.call_eq (by kernel_rfl)).trans (by kernel_rfl)
theorem bound_Saved_c1_eq (v5 : Int) (v14 : List D_api_BlockHead) (v15 : Int) (v16 : Int) : bound_Saved_c1 v5 v14 v15 v16 = (
  if (decide (v16 < v15)) = true then
    gd (0 ≤ v16) <|
    gd (v16 < (Int.ofNat (List.length v14))) <|
    bound_Saved_c1 (IntKind.wrap .i64 (v5 + (IntKind.wrap .i64 ((List.getD v14 (Int.toNat v16) (pzero T_api_BlockHead)).2.2.2.1 - (List.getD v14 (Int.toNat v16) (pzero T_api_BlockHead)).2.2.2.2.1)))) v14 v15 (IntKind.wrap .i64 (v16 + (1 : Int)))
  else
    some (v5, (0 : Int))) := (FnI.sem_eq _).trans (by kernel_rfl)
noncomputable def bound_Saved_S (acc : List AV → Bool) : Summ Tryd.prog GT := bound_Saved_I.summ mixed acc false false

/-! bitloft/bitloftref31.Pieces -/
noncomputable def bitloftref31_Pieces_I : FnI Tryd.prog GT := { f := 107, cuts := [⟨(3, 3), [1, 2, 5, 6], false⟩], tab := [bitloftref29_Pieces_S (fun _ => true)], fm := ⟨true, [.val (.slice T_api_Piece) [.nw]]⟩ }
noncomputable def bitloftref31_Pieces (a0 : D_api_Settings) (a1 : List D_api_Record) : Option (List D_api_Piece) := bitloftref31_Pieces_I.call [(.agg T_api_Settings (inj false T_api_Settings a0)), (.sl T_api_Record false a1)] []
noncomputable def bitloftref31_Pieces_c1 (v1 : List D_api_Record) (v6 : Int) (b8 : D_api_Settings) (h9 : List Int) : Option (List D_api_Piece) := bitloftref31_Pieces_I.sem ⟨[.code (cIn (cIn (cSnd (cFst (cSnd (cSnd (bodyOf Tryd.prog 107))))))), .inLoop (cIn (cIn (cSnd (cFst (cSnd (cSnd (bodyOf Tryd.prog 107))))))), .inBlock 0, .code (cSnd (cSnd (cSnd (bodyOf Tryd.prog 107))))], ⟨[(1, (.one (.sl T_api_Record false v1))), (2, (.one (.ptr T_api_Settings 8 []))), (5, (.one (.ref (.int .i64) 9 0 (List.length h9) true))), (6, (.one (.int .i64 v6)))], [(8, some (.box T_api_Settings (inj false T_api_Settings b8))), (9, some (.row (.int .i64) true h9))], 10⟩⟩
theorem bitloftref31_Pieces_eq (a0 : D_api_Settings) (a1 : List D_api_Record) : bitloftref31_Pieces a0 a1 = (
  bitloftref31_Pieces_c1 a1 (0 : Int) a0 []) := (FnI.call_eq (by kernel_rfl)).trans (by kernel_rfl)
theorem bitloftref31_Pieces_c1_eq (v1 : List D_api_Record) (v6 : Int) (b8 : D_api_Settings) (h9 : List Int) : bitloftref31_Pieces_c1 v1 v6 b8 h9 = (
  if (decide (v6 < (Int.ofNat (List.length v1)))) = true then
    gd (0 ≤ v6) <|
    gd (v6 < (Int.ofNat (List.length v1))) <|
    gd ((List.length (h9 ++ [(List.getD v1 (Int.toNat v6) (pzero T_api_Record)).2.1])) * 8 ≤ 140737488355328) <|
    bitloftref31_Pieces_c1 v1 (IntKind.wrap .i64 (v6 + (1 : Int))) b8 (h9 ++ [(List.getD v1 (Int.toNat v6) (pzero T_api_Record)).2.1])
  else
    (bitloftref29_Pieces h9 b8.2.1).bind fun (r1 : (List D_api_Piece × Int)) =>
    some (r1.1)) := (FnI.sem_eq _).trans (by kernel_rfl)
noncomputable def bitloftref31_Pieces_S (acc : List AV → Bool) : Summ Tryd.prog GT := bitloftref31_Pieces_I.summ mixed acc false false

/-! bitloft/bitloftref26.Check -/
noncomputable def bitloftref26_Check_I : FnI Tryd.prog GT := { f := 81, cuts := [], tab := [], fm := ⟨true, [.val (.int .i64) []]⟩ }
noncomputable def bitloftref26_Check (a0 : D_api_BlockHead) : Option (Int) := bitloftref26_Check_I.call [(.agg T_api_BlockHead (inj false T_api_BlockHead a0))] []
theorem bitloftref26_Check_eq (a0 : D_api_BlockHead) : bitloftref26_Check a0 = (
  if (decide (a0.2.1 < (0 : Int))) = true then
    some (8 : Int)
  else
    if (decide (a0.2.1 ≥ (16 : Int))) = true then
      some (8 : Int)
    else
      if (decide (a0.2.2.2.1 < (1 : Int))) = true then
        some (8 : Int)
      else
        if (decide (a0.2.2.2.1 > (4096 : Int))) = true then
          some (8 : Int)
        else
          if (decide (a0.2.2.1 < (0 : Int))) = true then
            some (8 : Int)
          else
            if (decide (a0.2.2.1 > (IntKind.wrap .i64 ((8192 : Int) - a0.2.2.2.1)))) = true then
              some (8 : Int)
            else
              if (a0.1 == (1 : Int)) = true then
                if (a0.1 == (2 : Int)) = true then
                  if (decide (a0.2.2.2.2.1 ≥ (1 : Int))) = true then
                    if (not (a0.2.2.2.2.1 == a0.2.2.2.1)) = true then
                      if (not (decide (a0.2.2.2.2.1 < a0.2.2.2.1))) = true then
                        some (8 : Int)
                      else
                        some (0 : Int)
                    else
                      some (0 : Int)
                  else
                    if (not (a0.2.2.2.2.1 == a0.2.2.2.1)) = true then
                      some (8 : Int)
                    else
                      some (0 : Int)
                else
                  if (not (a0.2.2.2.2.1 == a0.2.2.2.1)) = true then
                    some (8 : Int)
                  else
                    some (0 : Int)
              else
                if (a0.1 == (2 : Int)) = true then
                  if (decide (a0.2.2.2.2.1 ≥ (1 : Int))) = true then
                    if (not (decide (a0.2.2.2.2.1 < a0.2.2.2.1))) = true then
                      some (8 : Int)
                    else
                      some (0 : Int)
                  else
                    some (8 : Int)
                else
                  some (8 : Int)) := (FnI.call_eq (by kernel_rfl)).trans (by kernel_rfl)
noncomputable def bitloftref26_Check_S (acc : List AV → Bool) : Summ Tryd.prog GT := bitloftref26_Check_I.summ mixed acc false false

/-! bitloft/bitloftref31.Is -/
noncomputable def bitloftref31_Is_I : FnI Tryd.prog GT := { f := 108, cuts := [], tab := [], fm := ⟨true, [.val .bool []]⟩ }
noncomputable def bitloftref31_Is (a0 : D_api_BlockHead) (a1 : D_api_Piece) : Option (Bool) := bitloftref31_Is_I.call [(.agg T_api_BlockHead (inj false T_api_BlockHead a0)), (.agg T_api_Piece (inj false T_api_Piece a1))] []
theorem bitloftref31_Is_eq (a0 : D_api_BlockHead) (a1 : D_api_Piece) : bitloftref31_Is a0 a1 = (
  if (a0.2.1 == a1.1) = true then
    if (a0.2.2.1 == a1.2.1) = true then
      some (a0.2.2.2.1 == a1.2.2.1)
    else
      some (false)
  else
    some (false)) := (FnI.call_eq (by kernel_rfl)).trans (by kernel_rfl)
noncomputable def bitloftref31_Is_S (acc : List AV → Bool) : Summ Tryd.prog GT := bitloftref31_Is_I.summ mixed acc false false

/-! bitloft/bitloftref31.Check -/
noncomputable def bitloftref31_Check_I : FnI Tryd.prog GT := { f := 57, cuts := [⟨(7, 3), [1, 3, 4], false⟩], tab := [bitloftref30_Check_S (fun _ => true), bitloftref28_Valid_S (fun _ => true), bitloftref31_Pieces_S (fun _ => true), bitloftref26_Check_S (fun _ => true), bitloftref31_Is_S (fun _ => true)], fm := ⟨true, [.val (.int .i64) []]⟩ }
noncomputable def bitloftref31_Check (a0 : D_api_Listing) : Option (Int) := bitloftref31_Check_I.call [(.agg T_api_Listing (inj false T_api_Listing a0))] []
noncomputable def bitloftref31_Check_c1 (v4 : Int) (b8 : D_api_Listing) (h9 : List D_api_Piece) : Option (Int) := bitloftref31_Check_I.sem ⟨[.code (cIn (cIn (cSnd (cFst (cSnd (cSnd (cSnd (cSnd (bodyOf Tryd.prog 57))))))))), .inLoop (cIn (cIn (cSnd (cFst (cSnd (cSnd (cSnd (cSnd (bodyOf Tryd.prog 57))))))))), .inBlock 0, .code (cSnd (cSnd (cSnd (cSnd (cSnd (bodyOf Tryd.prog 57))))))], ⟨[(1, (.one (.ptr T_api_Listing 8 []))), (3, (.one (.ref T_api_Piece 9 0 (List.length h9) true))), (4, (.one (.int .i64 v4)))], [(8, some (.box T_api_Listing (inj false T_api_Listing b8))), (9, some (.row T_api_Piece true h9))], 10⟩⟩
theorem bitloftref31_Check_eq (a0 : D_api_Listing) : bitloftref31_Check a0 = (
  (bitloftref30_Check a0.1).bind fun (r1 : (Int)) =>
  if (r1 != (0 : Int)) = true then
    some (8 : Int)
  else
    (bitloftref28_Valid a0.2.1).bind fun (r2 : (Int)) =>
    if (r2 != (0 : Int)) = true then
      some (8 : Int)
    else
      (bitloftref31_Pieces a0.1 a0.2.1).bind fun (r3 : (List D_api_Piece)) =>
      if ((Int.ofNat (List.length r3)) != (Int.ofNat (List.length a0.2.2.1))) = true then
        some (8 : Int)
      else
        bitloftref31_Check_c1 (0 : Int) a0 r3) := (FnI.call_eq (by kernel_rfl)).trans (by kernel_rfl)
theorem bitloftref31_Check_c1_eq (v4 : Int) (b8 : D_api_Listing) (h9 : List D_api_Piece) : bitloftref31_Check_c1 v4 b8 h9 = (
  if (decide (v4 < (Int.ofNat (List.length h9)))) = true then
    gd (0 ≤ v4) <|
    gd (v4 < (Int.ofNat (List.length b8.2.2.1))) <|
    (bitloftref26_Check (List.getD b8.2.2.1 (Int.toNat v4) (pzero T_api_BlockHead))).bind fun (r4 : (Int)) =>
    if (r4 != (0 : Int)) = true then
      some (8 : Int)
    else
      gd (0 ≤ v4) <|
      gd (v4 < (Int.ofNat (List.length b8.2.2.1))) <|
      gd (0 ≤ v4) <|
      gd (v4 < (Int.ofNat (List.length h9))) <|
      (bitloftref31_Is (List.getD b8.2.2.1 (Int.toNat v4) (pzero T_api_BlockHead)) (List.getD h9 (0 + (Int.toNat v4)) (pzero T_api_Piece))).bind fun (r5 : (Bool)) =>
      if (not r5) = true then
        some (8 : Int)
      else
        bitloftref31_Check_c1 (IntKind.wrap .i64 (v4 + (1 : Int))) b8 h9
  else
    some (0 : Int)) := (FnI.sem_eq _).trans (by kernel_rfl)
noncomputable def bitloftref31_Check_S (acc : List AV → Bool) : Summ Tryd.prog GT := bitloftref31_Check_I.summ mixed acc false false

/-! bitloft/bitloftref36.Saved -/
noncomputable def bitloftref36_Saved_I : FnI Tryd.prog GT := { f := 60, cuts := [⟨(6, 3), [1, 5, 6], false⟩], tab := [bitloftref31_Check_S (fun _ => true)], fm := ⟨true, [.val (.int .i64) [], .val (.int .i64) []]⟩ }
noncomputable def bitloftref36_Saved (a0 : D_api_Listing) : Option (Int × Int) := bitloftref36_Saved_I.call [(.agg T_api_Listing (inj false T_api_Listing a0))] []
noncomputable def bitloftref36_Saved_c1 (v5 : Int) (v6 : Int) (b8 : D_api_Listing) : Option (Int × Int) := bitloftref36_Saved_I.sem ⟨[.code (cIn (cIn (cSnd (cFst (cSnd (cSnd (cSnd (bodyOf Tryd.prog 60)))))))), .inLoop (cIn (cIn (cSnd (cFst (cSnd (cSnd (cSnd (bodyOf Tryd.prog 60)))))))), .inBlock 0, .code (cSnd (cSnd (cSnd (cSnd (bodyOf Tryd.prog 60)))))], ⟨[(1, (.one (.ptr T_api_Listing 8 []))), (5, (.one (.int .i64 v5))), (6, (.one (.int .i64 v6)))], [(8, some (.box T_api_Listing (inj false T_api_Listing b8)))], 9⟩⟩
theorem bitloftref36_Saved_eq (a0 : D_api_Listing) : bitloftref36_Saved a0 = (
  (bitloftref31_Check a0).bind fun (r1 : (Int)) =>
  if (r1 != (0 : Int)) = true then
    some ((0 : Int), r1)
  else
    bitloftref36_Saved_c1 (0 : Int) (0 : Int) a0) := (FnI.call_eq (by kernel_rfl)).trans (by kernel_rfl)
theorem bitloftref36_Saved_c1_eq (v5 : Int) (v6 : Int) (b8 : D_api_Listing) : bitloftref36_Saved_c1 v5 v6 b8 = (
  if (decide (v6 < (Int.ofNat (List.length b8.2.2.1)))) = true then
    gd (0 ≤ v6) <|
    gd (v6 < (Int.ofNat (List.length b8.2.2.1))) <|
    gd (0 ≤ v6) <|
    gd (v6 < (Int.ofNat (List.length b8.2.2.1))) <|
    bitloftref36_Saved_c1 (IntKind.wrap .i64 (v5 + (IntKind.wrap .i64 ((List.getD b8.2.2.1 (Int.toNat v6) (pzero T_api_BlockHead)).2.2.2.1 - (List.getD b8.2.2.1 (Int.toNat v6) (pzero T_api_BlockHead)).2.2.2.2.1)))) (IntKind.wrap .i64 (v6 + (1 : Int))) b8
  else
    some (v5, (0 : Int))) := (FnI.sem_eq _).trans (by kernel_rfl)
noncomputable def bitloftref36_Saved_S (acc : List AV → Bool) : Summ Tryd.prog GT := bitloftref36_Saved_I.summ mixed acc false false

/-! bitloft/bitloftlaw36.BoundRooms -/
noncomputable def bitloftlaw36_BoundRooms_I : FnI Tryd.prog GT := { f := 10, cuts := [], tab := [bitloftref31_Great_S (fun _ => true), bound_Room_S (fun _ => true), bitloftref36_Room_S (fun _ => true), bound_Saved_S (fun _ => true), bitloftref36_Saved_S (fun _ => true)], fm := ⟨true, [.val .bool []]⟩ }
noncomputable def bitloftlaw36_BoundRooms (a0 : D_api_Settings) (a1 : ByteArray) (a2 : Int) (a3 : D_api_Listing) : Option (Bool) := bitloftlaw36_BoundRooms_I.call [(.agg T_api_Settings (inj false T_api_Settings a0)), (.str a1), (.int .i64 a2), (.agg T_api_Listing (inj false T_api_Listing a3))] []
theorem bitloftlaw36_BoundRooms_eq (a0 : D_api_Settings) (a1 : ByteArray) (a2 : Int) (a3 : D_api_Listing) : bitloftlaw36_BoundRooms a0 a1 a2 a3 = (
  if (decide ((Int.ofNat (ByteArray.size a1)) > (100 : Int))) = true then
    some (true)
  else
    (bitloftref31_Great a3).bind fun (r1 : (Bool)) =>
    if r1 = true then
      some (true)
    else
      (bound_Room a0 a1 a2).bind fun (r2 : (Int × Int)) =>
      (bitloftref36_Room a0 a1 a2).bind fun (r3 : (Int × Int)) =>
      (bound_Saved a3).bind fun (r4 : (Int × Int)) =>
      (bitloftref36_Saved a3).bind fun (r5 : (Int × Int)) =>
      if (r2.1 == r3.1) = true then
        if (r2.2 == r3.2) = true then
          if (r4.1 == r5.1) = true then
            some (r4.2 == r5.2)
          else
            some (false)
        else
          some (false)
      else
        some (false)) := (FnI.call_eq (by kernel_rfl)).trans (by kernel_rfl)
noncomputable def bitloftlaw36_BoundRooms_S (acc : List AV → Bool) : Summ Tryd.prog GT := bitloftlaw36_BoundRooms_I.summ mixed acc false false

/-! bitloft/list.Places -/
noncomputable def list_Places_I : FnI Tryd.prog GT := { f := 54, cuts := [⟨(8, 3), [7, 8, 27, 28, 29], false⟩], tab := [list_Check_S (fun _ => true), pack_Head_S (fun _ => true)], fm := ⟨true, [.val (.slice (.int .i64)) [.nw], .val (.int .i64) []]⟩ }
noncomputable def list_Places (a0 : D_api_Listing) : Option (List Int × Int) := list_Places_I.call [(.agg T_api_Listing (inj false T_api_Listing a0))] []
noncomputable def list_Places_c1 (v7 : Int) (v27 : List D_api_BlockHead) (v28 : Int) (v29 : Int) (h8 : List Int) : Option (List Int × Int) := list_Places_I.sem ⟨[.code (cIn (cIn (cSnd (cFst (cSnd (cSnd (cSnd (cSnd (cSnd (bodyOf Tryd.prog 54)))))))))), .inLoop (cIn (cIn (cSnd (cFst (cSnd (cSnd (cSnd (cSnd (cSnd (bodyOf Tryd.prog 54)))))))))), .inBlock 0, .code (cSnd (cSnd (cSnd (cSnd (cSnd (cSnd (bodyOf Tryd.prog 54)))))))], ⟨[(7, (.one (.int .i64 v7))), (8, (.one (.ref (.int .i64) 8 0 (List.length h8) true))), (27, (.one (.sl T_api_BlockHead false v27))), (28, (.one (.int .i64 v28))), (29, (.one (.int .i64 v29)))], [(8, some (.row (.int .i64) true h8))], 9⟩⟩
theorem list_Places_eq (a0 : D_api_Listing) : list_Places a0 = (
  (list_Check a0).bind fun (r1 : (Int)) =>
  if (r1 != (0 : Int)) = true then
    some ([], r1)
  else
    (pack_Head a0.1 a0.2.1).bind fun (r2 : (List Int × Int)) =>
    list_Places_c1 (Int.ofNat (List.length r2.1)) a0.2.2.1 (Int.ofNat (List.length a0.2.2.1)) (0 : Int) []) := (FnI.call_eq (by kernel_rfl)).trans (by kernel_rfl)
theorem list_Places_c1_eq (v7 : Int) (v27 : List D_api_BlockHead) (v28 : Int) (v29 : Int) (h8 : List Int) : list_Places_c1 v7 v27 v28 v29 h8 = (
  if (decide (v29 < v28)) = true then
    gd (0 ≤ v29) <|
    gd (v29 < (Int.ofNat (List.length v27))) <|
    gd ((List.length (h8 ++ [v7])) * 8 ≤ 140737488355328) <|
    list_Places_c1 (IntKind.wrap .i64 (v7 + (IntKind.wrap .i64 ((41 : Int) + (List.getD v27 (Int.toNat v29) (pzero T_api_BlockHead)).2.2.2.2.1)))) v27 v28 (IntKind.wrap .i64 (v29 + (1 : Int))) (h8 ++ [v7])
  else
    some (h8, (0 : Int))) := (FnI.sem_eq _).trans (by kernel_rfl)
noncomputable def list_Places_S (acc : List AV → Bool) : Summ Tryd.prog GT := list_Places_I.summ mixed acc false false

/-! bitloft/bitloftref31.Places -/
noncomputable def bitloftref31_Places_I : FnI Tryd.prog GT := { f := 55, cuts := [⟨(6, 3), [1, 4, 5, 6], false⟩], tab := [bitloftref31_Check_S (fun _ => true), bitloftref30_Bytes_S (fun _ => true)], fm := ⟨true, [.val (.slice (.int .i64)) [.nw], .val (.int .i64) []]⟩ }
noncomputable def bitloftref31_Places (a0 : D_api_Listing) : Option (List Int × Int) := bitloftref31_Places_I.call [(.agg T_api_Listing (inj false T_api_Listing a0))] []
noncomputable def bitloftref31_Places_c1 (v4 : Int) (v6 : Int) (b8 : D_api_Listing) (h9 : List Int) : Option (List Int × Int) := bitloftref31_Places_I.sem ⟨[.code (cIn (cIn (cSnd (cFst (cSnd (cSnd (cSnd (cSnd (bodyOf Tryd.prog 55))))))))), .inLoop (cIn (cIn (cSnd (cFst (cSnd (cSnd (cSnd (cSnd (bodyOf Tryd.prog 55))))))))), .inBlock 0, .code (cSnd (cSnd (cSnd (cSnd (cSnd (bodyOf Tryd.prog 55))))))], ⟨[(1, (.one (.ptr T_api_Listing 8 []))), (4, (.one (.int .i64 v4))), (5, (.one (.ref (.int .i64) 9 0 (List.length h9) true))), (6, (.one (.int .i64 v6)))], [(8, some (.box T_api_Listing (inj false T_api_Listing b8))), (9, some (.row (.int .i64) true h9))], 10⟩⟩
theorem bitloftref31_Places_eq (a0 : D_api_Listing) : bitloftref31_Places a0 = (
  (bitloftref31_Check a0).bind fun (r1 : (Int)) =>
  if (r1 != (0 : Int)) = true then
    (bitloftref31_Check a0).bind fun (r2 : (Int)) =>
    some ([], r2)
  else
    (bitloftref30_Bytes a0.1 a0.2.1).bind fun (r3 : (List Int)) =>
    bitloftref31_Places_c1 (Int.ofNat (List.length r3)) (0 : Int) a0 []) := (FnI.call_eq (by kernel_rfl)).trans (by kernel_rfl)
theorem bitloftref31_Places_c1_eq (v4 : Int) (v6 : Int) (b8 : D_api_Listing) (h9 : List Int) : bitloftref31_Places_c1 v4 v6 b8 h9 = (
  if (decide (v6 < (Int.ofNat (List.length b8.2.2.1)))) = true then
    gd ((List.length (h9 ++ [v4])) * 8 ≤ 140737488355328) <|
    gd (0 ≤ v6) <|
    gd (v6 < (Int.ofNat (List.length b8.2.2.1))) <|
    bitloftref31_Places_c1 (IntKind.wrap .i64 (v4 + (IntKind.wrap .i64 ((41 : Int) + (List.getD b8.2.2.1 (Int.toNat v6) (pzero T_api_BlockHead)).2.2.2.2.1)))) (IntKind.wrap .i64 (v6 + (1 : Int))) b8 (h9 ++ [v4])
  else
    some (h9, (0 : Int))) := (FnI.sem_eq _).trans (by kernel_rfl)
noncomputable def bitloftref31_Places_S (acc : List AV → Bool) : Summ Tryd.prog GT := bitloftref31_Places_I.summ mixed acc false false

/-! bitloft/bitloftlaw31.ListPlaces -/
noncomputable def bitloftlaw31_ListPlaces_I : FnI Tryd.prog GT := { f := 9, cuts := [⟨(8, 3), [3, 5, 7], false⟩], tab := [bitloftref31_Great_S (fun _ => true), list_Places_S (fun _ => true), bitloftref31_Places_S (fun _ => true), list_Check_S (fun _ => true), bitloftref31_Check_S (fun _ => true)], fm := ⟨true, [.val .bool []]⟩ }
noncomputable def bitloftlaw31_ListPlaces (a0 : D_api_Listing) : Option (Bool) := bitloftlaw31_ListPlaces_I.call [(.agg T_api_Listing (inj false T_api_Listing a0))] []
noncomputable def bitloftlaw31_ListPlaces_c1 (v7 : Int) (h8 : List Int) (h9 : List Int) : Option (Bool) := bitloftlaw31_ListPlaces_I.sem ⟨[.code (cIn (cIn (cSnd (cFst (cSnd (cSnd (cSnd (cSnd (cSnd (bodyOf Tryd.prog 9)))))))))), .inLoop (cIn (cIn (cSnd (cFst (cSnd (cSnd (cSnd (cSnd (cSnd (bodyOf Tryd.prog 9)))))))))), .inBlock 0, .code (cSnd (cSnd (cSnd (cSnd (cSnd (cSnd (bodyOf Tryd.prog 9)))))))], ⟨[(3, (.one (.ref (.int .i64) 8 0 (List.length h8) true))), (5, (.one (.ref (.int .i64) 9 0 (List.length h9) true))), (7, (.one (.int .i64 v7)))], [(8, some (.row (.int .i64) true h8)), (9, some (.row (.int .i64) true h9))], 10⟩⟩
theorem bitloftlaw31_ListPlaces_eq (a0 : D_api_Listing) : bitloftlaw31_ListPlaces a0 = (
  (bitloftref31_Great a0).bind fun (r1 : (Bool)) =>
  if r1 = true then
    some (true)
  else
    (list_Places a0).bind fun (r2 : (List Int × Int)) =>
    (bitloftref31_Places a0).bind fun (r3 : (List Int × Int)) =>
    if ((Int.ofNat (List.length r2.1)) != (Int.ofNat (List.length r3.1))) = true then
      some (false)
    else
      if (r2.2 != r3.2) = true then
        some (false)
      else
        (list_Check a0).bind fun (r4 : (Int)) =>
        (bitloftref31_Check a0).bind fun (r5 : (Int)) =>
        if (r4 != r5) = true then
          some (false)
        else
          bitloftlaw31_ListPlaces_c1 (0 : Int) r2.1 r3.1) := (FnI.call_eq (by kernel_rfl)).trans (by kernel_rfl)
theorem bitloftlaw31_ListPlaces_c1_eq (v7 : Int) (h8 : List Int) (h9 : List Int) : bitloftlaw31_ListPlaces_c1 v7 h8 h9 = (
  if (decide (v7 < (Int.ofNat (List.length h8)))) = true then
    gd (0 ≤ v7) <|
    gd (v7 < (Int.ofNat (List.length h8))) <|
    gd (0 ≤ v7) <|
    gd (v7 < (Int.ofNat (List.length h9))) <|
    if ((List.getD h8 (0 + (Int.toNat v7)) (0 : Int)) != (List.getD h9 (0 + (Int.toNat v7)) (0 : Int))) = true then
      some (false)
    else
      bitloftlaw31_ListPlaces_c1 (IntKind.wrap .i64 (v7 + (1 : Int))) h8 h9
  else
    some (true)) := (FnI.sem_eq _).trans (by kernel_rfl)
noncomputable def bitloftlaw31_ListPlaces_S (acc : List AV → Bool) : Summ Tryd.prog GT := bitloftlaw31_ListPlaces_I.summ mixed acc false false

/-! bytes.Equal -/
noncomputable def bytes_Equal_I : FnI Tryd.prog GT := { f := 144, cuts := [], tab := [], fm := ⟨true, [.val .bool []]⟩ }
noncomputable def bytes_Equal (a0 : List Int) (a1 : List Int) : Option (Bool) := bytes_Equal_I.call [(.sl (.int .u8) false a0), (.sl (.int .u8) false a1)] []
theorem bytes_Equal_eq (a0 : List Int) (a1 : List Int) : bytes_Equal a0 a1 = (
  some ((ByteArray.toList (toStr a0)) == (ByteArray.toList (toStr a1)))) := (FnI.call_eq (by kernel_rfl)).trans (by kernel_rfl)
noncomputable def bytes_Equal_S (acc : List AV → Bool) : Summ Tryd.prog GT := bytes_Equal_I.summ mixed acc false false

/-! bytes.HasPrefix -/
noncomputable def bytes_HasPrefix_I : FnI Tryd.prog GT := { f := 109, cuts := [], tab := [bytes_Equal_S (fun _ => true)], fm := ⟨true, [.val .bool []]⟩ }
noncomputable def bytes_HasPrefix (a0 : List Int) (a1 : List Int) : Option (Bool) := bytes_HasPrefix_I.call [(.sl (.int .u8) false a0), (.sl (.int .u8) false a1)] []
theorem bytes_HasPrefix_eq (a0 : List Int) (a1 : List Int) : bytes_HasPrefix a0 a1 = (
  if (decide ((Int.ofNat (List.length a0)) ≥ (Int.ofNat (List.length a1)))) = true then
    gd (0 ≤ (Int.ofNat (List.length a1))) <|
    gd ((Int.ofNat (List.length a1)) ≤ (Int.ofNat (List.length a0))) <|
    (bytes_Equal (List.take (List.length a1) a0) a1).bind fun (r1 : (Bool)) =>
    some (r1)
  else
    some (false)) := (FnI.call_eq (by kernel_rfl)).trans (by kernel_rfl)
noncomputable def bytes_HasPrefix_S (acc : List AV → Bool) : Summ Tryd.prog GT := bytes_HasPrefix_I.summ mixed acc false false

/-! (*bitloft/member.source).take -/
noncomputable def member_source_take_I : FnI Tryd.prog GT := { f := 159, cuts := [], tab := [], fm := ⟨false, [.val (.slice (.int .u8)) [.pu], .err 29 .i64, .box 0 T_member_reader [.pu]]⟩ }
noncomputable def member_source_take (a1 : Int) (b0 : D_member_reader) : Option (List Int × Option Int × D_member_reader) := member_source_take_I.call [(.ptr T_member_source 0 [.fst]), (.int .i64 a1)] [(0, (.box T_member_reader (inj false T_member_reader b0)))]
theorem member_source_take_eq (a1 : Int) (b0 : D_member_reader) : member_source_take a1 b0 = (
  if (decide ((IntKind.wrap .i64 ((Int.ofNat (List.length b0.1.1)) - b0.1.2.1)) < a1)) = true then
    some ([], ((some (18 : Int)), b0))
  else
    gd (0 ≤ (IntKind.wrap .i64 ((IntKind.wrap .i64 (b0.1.2.1 + a1)) - a1))) <|
    gd ((IntKind.wrap .i64 ((IntKind.wrap .i64 (b0.1.2.1 + a1)) - a1)) ≤ (IntKind.wrap .i64 (b0.1.2.1 + a1))) <|
    gd ((IntKind.wrap .i64 (b0.1.2.1 + a1)) ≤ (Int.ofNat (List.length b0.1.1))) <|
    some ((List.take ((Int.toNat (IntKind.wrap .i64 (b0.1.2.1 + a1))) - (Int.toNat (IntKind.wrap .i64 ((IntKind.wrap .i64 (b0.1.2.1 + a1)) - a1)))) (List.drop (Int.toNat (IntKind.wrap .i64 ((IntKind.wrap .i64 (b0.1.2.1 + a1)) - a1))) b0.1.1)), (none, ((b0.1.1, ((IntKind.wrap .i64 (b0.1.2.1 + a1)), b0.1.2.2)), b0.2)))) := (FnI.call_eq (by kernel_rfl)).trans (by kernel_rfl)
noncomputable def member_source_take_S (acc : List AV → Bool) : Summ Tryd.prog GT := member_source_take_I.summ mixed acc false false

/-! (*bitloft/member.reader).record -/
noncomputable def member_reader_record_I : FnI Tryd.prog GT := { f := 145, cuts := [], tab := [member_source_take_S (fun _ => true)], fm := ⟨false, [.val T_api_Record [], .err 29 .i64, .box 0 T_member_reader [.pu]]⟩ }
noncomputable def member_reader_record (b0 : D_member_reader) : Option (D_api_Record × Option Int × D_member_reader) := member_reader_record_I.call [(.ptr T_member_reader 0 [])] [(0, (.box T_member_reader (inj false T_member_reader b0)))]
theorem member_reader_record_eq (b0 : D_member_reader) : member_reader_record b0 = (
  (member_source_take (1 : Int) b0).bind fun (r1 : (List Int × Option Int × D_member_reader)) =>
  if (not (Option.isNone r1.2.1)) = true then
    some ((ByteArray.empty, ((0 : Int), ((List.replicate 20 (0 : Int)), ()))), r1.2)
  else
    gd (0 ≤ (0 : Int)) <|
    gd ((0 : Int) < (Int.ofNat (List.length r1.1))) <|
    (member_source_take (IntKind.wrap .i64 ((IntKind.wrap .i64 (List.getD r1.1 0 (0 : Int))) + (22 : Int))) r1.2.2).bind fun (r2 : (List Int × Option Int × D_member_reader)) =>
    if (not (Option.isNone r2.2.1)) = true then
      some ((ByteArray.empty, ((0 : Int), ((List.replicate 20 (0 : Int)), ()))), r2.2)
    else
      gd (0 ≤ (0 : Int)) <|
      gd ((0 : Int) < (Int.ofNat (List.length r1.1))) <|
      gd (0 ≤ (IntKind.wrap .i64 (List.getD r1.1 0 (0 : Int)))) <|
      gd ((IntKind.wrap .i64 (List.getD r1.1 0 (0 : Int))) ≤ (Int.ofNat (List.length r2.1))) <|
      gd (0 ≤ (IntKind.wrap .i64 (List.getD r1.1 0 (0 : Int)))) <|
      gd ((IntKind.wrap .i64 (List.getD r1.1 0 (0 : Int))) < (Int.ofNat (List.length r2.1))) <|
      gd (0 ≤ (8 : Int)) <|
      gd (0 ≤ (IntKind.wrap .i64 ((IntKind.wrap .i64 (List.getD r1.1 0 (0 : Int))) + (1 : Int)))) <|
      gd ((IntKind.wrap .i64 ((IntKind.wrap .i64 (List.getD r1.1 0 (0 : Int))) + (1 : Int))) < (Int.ofNat (List.length r2.1))) <|
      gd (0 ≤ (IntKind.wrap .i64 ((IntKind.wrap .i64 (List.getD r1.1 0 (0 : Int))) + (2 : Int)))) <|
      gd ((IntKind.wrap .i64 ((IntKind.wrap .i64 (List.getD r1.1 0 (0 : Int))) + (2 : Int))) ≤ (Int.ofNat (List.length r2.1))) <|
      some (((toStr (List.take (Int.toNat (IntKind.wrap .i64 (List.getD r1.1 0 (0 : Int)))) r2.1)), ((bitsOr .i64 (IntKind.wrap .i64 ((IntKind.wrap .i64 (List.getD r2.1 (Int.toNat (IntKind.wrap .i64 (List.getD r1.1 0 (0 : Int)))) (0 : Int))) * (256 : Int))) (IntKind.wrap .i64 (List.getD r2.1 (Int.toNat (IntKind.wrap .i64 ((IntKind.wrap .i64 (List.getD r1.1 0 (0 : Int))) + (1 : Int)))) (0 : Int)))), ((splice (List.replicate 20 (0 : Int)) 0 (List.take (min (List.length (List.drop (Int.toNat (IntKind.wrap .i64 ((IntKind.wrap .i64 (List.getD r1.1 0 (0 : Int))) + (2 : Int)))) r2.1)) 20) (List.drop (Int.toNat (IntKind.wrap .i64 ((IntKind.wrap .i64 (List.getD r1.1 0 (0 : Int))) + (2 : Int)))) r2.1))), ()))), (none, r2.2.2))) := (FnI.call_eq (by kernel_rfl)).trans (by kernel_rfl)
noncomputable def member_reader_record_S (acc : List AV → Bool) : Summ Tryd.prog GT := member_reader_record_I.summ mixed acc false false

/-! bitloft/member.Read -/
noncomputable def member_Read_I : FnI Tryd.prog GT := { f := 110, cuts := [⟨(8, 3), [7, 8, 27, 28], false⟩], tab := [member_reader_record_S (fun _ => true), errors_As_S (fun _ => true), member_Valid_S (fun _ => true)], fm := ⟨true, [.val (.slice T_api_Record) [.nw], .val (.int .i64) [], .val (.int .i64) []]⟩ }
noncomputable def member_Read (a0 : List Int) (a1 : Int) : Option (List D_api_Record × Int × Int) := member_Read_I.call [(.sl (.int .u8) false a0), (.int .i64 a1)] []
noncomputable def member_Read_c1 (v27 : Int) (v28 : Int) (b8 : D_member_reader) (h9 : List D_api_Record) : Option (List D_api_Record × Int × Int) := member_Read_I.sem ⟨[.code (cIn (cIn (cSnd (cFst (cSnd (cSnd (cSnd (cSnd (bodyOf Tryd.prog 110))))))))), .inLoop (cIn (cIn (cSnd (cFst (cSnd (cSnd (cSnd (cSnd (bodyOf Tryd.prog 110))))))))), .inBlock 1, .code (cSnd (cSnd (cSnd (cSnd (cSnd (bodyOf Tryd.prog 110))))))], ⟨[(7, (.one (.ptr T_member_reader 8 []))), (8, (.one (.ref T_api_Record 9 0 (List.length h9) true))), (27, (.one (.int .i64 v27))), (28, (.one (.int .i64 v28)))], [(8, some (.box T_member_reader (inj false T_member_reader b8))), (9, some (.row T_api_Record true h9))], 10⟩⟩
theorem member_Read_eq (a0 : List Int) (a1 : Int) : member_Read a0 a1 = (
  if (decide (a1 < (0 : Int))) = true then
    some ([], ((0 : Int), (2 : Int)))
  else
    if (decide (a1 > (16 : Int))) = true then
      some ([], ((0 : Int), (2 : Int)))
    else
      if (decide ((Int.ofNat (List.length a0)) > (50000 : Int))) = true then
        some ([], ((0 : Int), (4 : Int)))
      else
        member_Read_c1 a1 (0 : Int) ((a0, ((0 : Int), ())), ()) []) := (FnI.call_eq (by kernel_rfl)).trans (by kernel_rfl)
theorem member_Read_c1_eq (v27 : Int) (v28 : Int) (b8 : D_member_reader) (h9 : List D_api_Record) : member_Read_c1 v27 v28 b8 h9 = (
  if (decide (v28 < v27)) = true then
    (member_reader_record b8).bind fun (r1 : (D_api_Record × Option Int × D_member_reader)) =>
    (errors_As r1.2.1 (0 : Int)).bind fun (r2 : (Bool × Int)) =>
    if r2.1 = true then
      some ([], ((0 : Int), r2.2))
    else
      gd ((List.length (h9 ++ [r1.1])) * 48 ≤ 140737488355328) <|
      member_Read_c1 v27 (IntKind.wrap .i64 (v28 + (1 : Int))) r1.2.2 (h9 ++ [r1.1])
  else
    (member_Valid h9).bind fun (r3 : (Int)) =>
    if (r3 != (0 : Int)) = true then
      some ([], ((0 : Int), (12 : Int)))
    else
      some (h9, (b8.1.2.1, (0 : Int)))) := (FnI.sem_eq _).trans (by kernel_rfl)
noncomputable def member_Read_S (acc : List AV → Bool) : Summ Tryd.prog GT := member_Read_I.summ mixed acc false false

/-! bitloft/list.Head -/
noncomputable def list_Head_I : FnI Tryd.prog GT := { f := 63, cuts := [], tab := [bytes_HasPrefix_S (fun _ => true), pack_Check_S (fun _ => true), member_Read_S (fun _ => true), pack_Head_S (fun _ => true)], fm := ⟨true, [.val T_api_Settings [], .val (.slice T_api_Record) [.nw], .val (.int .i64) [], .val (.int .i64) []]⟩ }
noncomputable def list_Head (a0 : List Int) : Option (D_api_Settings × List D_api_Record × Int × Int) := list_Head_I.call [(.sl (.int .u8) false a0)] []
theorem list_Head_eq (a0 : List Int) : list_Head a0 = (
  if (decide ((Int.ofNat (List.length a0)) > (50000 : Int))) = true then
    some (((0 : Int), ((0 : Int), ())), ([], ((0 : Int), (4 : Int))))
  else
    if (decide ((Int.ofNat (List.length a0)) < (8 : Int))) = true then
      some (((0 : Int), ((0 : Int), ())), ([], ((0 : Int), (18 : Int))))
    else
      gd (0 ≤ (4 : Int)) <|
      gd ((4 : Int) < (Int.ofNat (List.length a0))) <|
      gd (0 ≤ (5 : Int)) <|
      gd ((5 : Int) < (Int.ofNat (List.length a0))) <|
      gd (0 ≤ (8 : Int)) <|
      gd (0 ≤ (6 : Int)) <|
      gd ((6 : Int) < (Int.ofNat (List.length a0))) <|
      (bytes_HasPrefix a0 [(66 : Int), (76 : Int), (70 : Int), (1 : Int)]).bind fun (r1 : (Bool)) =>
      if (not r1) = true then
        some (((0 : Int), ((0 : Int), ())), ([], ((0 : Int), (12 : Int))))
      else
        (pack_Check ((IntKind.wrap .i64 (List.getD a0 4 (0 : Int))), ((bitsOr .i64 (IntKind.wrap .i64 ((IntKind.wrap .i64 (List.getD a0 5 (0 : Int))) * (256 : Int))) (IntKind.wrap .i64 (List.getD a0 6 (0 : Int)))), ()))).bind fun (r2 : (Int)) =>
        if (r2 != (0 : Int)) = true then
          some (((0 : Int), ((0 : Int), ())), ([], ((0 : Int), (12 : Int))))
        else
          gd (0 ≤ (7 : Int)) <|
          gd ((7 : Int) < (Int.ofNat (List.length a0))) <|
          if (decide ((List.getD a0 7 (0 : Int)) > (16 : Int))) = true then
            some (((0 : Int), ((0 : Int), ())), ([], ((0 : Int), (12 : Int))))
          else
            gd (0 ≤ (8 : Int)) <|
            gd ((8 : Int) ≤ (Int.ofNat (List.length a0))) <|
            gd (0 ≤ (7 : Int)) <|
            gd ((7 : Int) < (Int.ofNat (List.length a0))) <|
            (member_Read (List.drop 8 a0) (IntKind.wrap .i64 (List.getD a0 7 (0 : Int)))).bind fun (r3 : (List D_api_Record × Int × Int)) =>
            if (r3.2.2 != (0 : Int)) = true then
              some (((0 : Int), ((0 : Int), ())), ([], ((0 : Int), r3.2.2)))
            else
              (pack_Head ((IntKind.wrap .i64 (List.getD a0 4 (0 : Int))), ((bitsOr .i64 (IntKind.wrap .i64 ((IntKind.wrap .i64 (List.getD a0 5 (0 : Int))) * (256 : Int))) (IntKind.wrap .i64 (List.getD a0 6 (0 : Int)))), ())) r3.1).bind fun (r4 : (List Int × Int)) =>
              if (decide ((IntKind.wrap .i64 ((IntKind.wrap .i64 ((Int.ofNat (List.length a0)) - (8 : Int))) - r3.2.1)) < (20 : Int))) = true then
                some (((0 : Int), ((0 : Int), ())), ([], ((0 : Int), (18 : Int))))
              else
                (bytes_HasPrefix a0 r4.1).bind fun (r5 : (Bool)) =>
                if (not r5) = true then
                  some (((0 : Int), ((0 : Int), ())), ([], ((0 : Int), (22 : Int))))
                else
                  some (((IntKind.wrap .i64 (List.getD a0 4 (0 : Int))), ((bitsOr .i64 (IntKind.wrap .i64 ((IntKind.wrap .i64 (List.getD a0 5 (0 : Int))) * (256 : Int))) (IntKind.wrap .i64 (List.getD a0 6 (0 : Int)))), ())), (r3.1, ((Int.ofNat (List.length r4.1)), (0 : Int))))) := (FnI.call_eq (by kernel_rfl)).trans (by kernel_rfl)
noncomputable def list_Head_S (acc : List AV → Bool) : Summ Tryd.prog GT := list_Head_I.summ mixed acc false false

/-! bitloft/bitloftref28.Read -/
noncomputable def bitloftref28_Read_I : FnI Tryd.prog GT := { f := 111, cuts := [⟨(8, 3), [0, 1, 7, 8, 9], false⟩, ⟨(15, 8), [0, 1, 7, 8, 9, 10, 11, 12], false⟩], tab := [bitloftref28_Valid_S (fun _ => true)], fm := ⟨true, [.val (.slice T_api_Record) [.nw], .val (.int .i64) [], .val (.int .i64) []]⟩ }
noncomputable def bitloftref28_Read (a0 : List Int) (a1 : Int) : Option (List D_api_Record × Int × Int) := bitloftref28_Read_I.call [(.sl (.int .u8) false a0), (.int .i64 a1)] []
noncomputable def bitloftref28_Read_c1 (v0 : List Int) (v1 : Int) (v8 : Int) (v9 : Int) (h8 : List D_api_Record) : Option (List D_api_Record × Int × Int) := bitloftref28_Read_I.sem ⟨[.code (cIn (cIn (cSnd (cFst (cSnd (cSnd (cSnd (cSnd (cSnd (bodyOf Tryd.prog 111)))))))))), .inLoop (cIn (cIn (cSnd (cFst (cSnd (cSnd (cSnd (cSnd (cSnd (bodyOf Tryd.prog 111)))))))))), .inBlock 0, .code (cSnd (cSnd (cSnd (cSnd (cSnd (cSnd (bodyOf Tryd.prog 111)))))))], ⟨[(0, (.one (.sl (.int .u8) false v0))), (1, (.one (.int .i64 v1))), (7, (.one (.ref T_api_Record 8 0 (List.length h8) true))), (8, (.one (.int .i64 v8))), (9, (.one (.int .i64 v9)))], [(8, some (.row T_api_Record true h8))], 9⟩⟩
noncomputable def bitloftref28_Read_c2 (v0 : List Int) (v1 : Int) (v8 : Int) (v9 : Int) (v10 : Int) (v12 : Int) (h8 : List D_api_Record) (b9 : D_api_Record) : Option (List D_api_Record × Int × Int) := bitloftref28_Read_I.sem ⟨[.code (cIn (cIn (cSnd (cFst (cSnd (cSnd (cSnd (cIn (cFst (cSnd (cIn (cIn (cSnd (cFst (cSnd (cSnd (cSnd (cSnd (cSnd (bodyOf Tryd.prog 111)))))))))))))))))))), .inLoop (cIn (cIn (cSnd (cFst (cSnd (cSnd (cSnd (cIn (cFst (cSnd (cIn (cIn (cSnd (cFst (cSnd (cSnd (cSnd (cSnd (cSnd (bodyOf Tryd.prog 111)))))))))))))))))))), .inBlock 2, .code (cSnd (cSnd (cSnd (cSnd (cIn (cFst (cSnd (cIn (cIn (cSnd (cFst (cSnd (cSnd (cSnd (cSnd (cSnd (bodyOf Tryd.prog 111))))))))))))))))), .inBlock 1, .code (cSnd (cSnd (cIn (cIn (cSnd (cFst (cSnd (cSnd (cSnd (cSnd (cSnd (bodyOf Tryd.prog 111)))))))))))), .inLoop (cIn (cIn (cSnd (cFst (cSnd (cSnd (cSnd (cSnd (cSnd (bodyOf Tryd.prog 111)))))))))), .inBlock 0, .code (cSnd (cSnd (cSnd (cSnd (cSnd (cSnd (bodyOf Tryd.prog 111)))))))], ⟨[(0, (.one (.sl (.int .u8) false v0))), (1, (.one (.int .i64 v1))), (7, (.one (.ref T_api_Record 8 0 (List.length h8) true))), (8, (.one (.int .i64 v8))), (9, (.one (.int .i64 v9))), (10, (.one (.int .i64 v10))), (11, (.one (.ptr T_api_Record 9 []))), (12, (.one (.int .i64 v12)))], [(8, some (.row T_api_Record true h8)), (9, some (.box T_api_Record (inj false T_api_Record b9)))], 10⟩⟩
theorem bitloftref28_Read_eq (a0 : List Int) (a1 : Int) : bitloftref28_Read a0 a1 = (
  if (decide (a1 < (0 : Int))) = true then
    some ([], ((0 : Int), (2 : Int)))
  else
    if (decide (a1 > (16 : Int))) = true then
      some ([], ((0 : Int), (2 : Int)))
    else
      if (decide ((Int.ofNat (List.length a0)) > (50000 : Int))) = true then
        some ([], ((0 : Int), (4 : Int)))
      else
        bitloftref28_Read_c1 a0 a1 (0 : Int) (0 : Int) []) := (FnI.call_eq (by kernel_rfl)).trans (by kernel_rfl)
theorem bitloftref28_Read_c1_eq (v0 : List Int) (v1 : Int) (v8 : Int) (v9 : Int) (h8 : List D_api_Record) : bitloftref28_Read_c1 v0 v1 v8 v9 h8 = (
  if (decide (v9 < v1)) = true then
    if (decide (v8 ≥ (Int.ofNat (List.length v0)))) = true then
      some ([], ((0 : Int), (18 : Int)))
    else
      gd (0 ≤ v8) <|
      gd (v8 < (Int.ofNat (List.length v0))) <|
      if (decide ((IntKind.wrap .i64 ((IntKind.wrap .i64 ((Int.ofNat (List.length v0)) - v8)) - (1 : Int))) < (IntKind.wrap .i64 ((IntKind.wrap .i64 (List.getD v0 (Int.toNat v8) (0 : Int))) + (22 : Int))))) = true then
        some ([], ((0 : Int), (18 : Int)))
      else
        gd (0 ≤ v8) <|
        gd (v8 < (Int.ofNat (List.length v0))) <|
        gd (0 ≤ (IntKind.wrap .i64 (v8 + (1 : Int)))) <|
        gd ((IntKind.wrap .i64 (v8 + (1 : Int))) ≤ (IntKind.wrap .i64 ((IntKind.wrap .i64 (v8 + (1 : Int))) + (IntKind.wrap .i64 (List.getD v0 (Int.toNat v8) (0 : Int)))))) <|
        gd ((IntKind.wrap .i64 ((IntKind.wrap .i64 (v8 + (1 : Int))) + (IntKind.wrap .i64 (List.getD v0 (Int.toNat v8) (0 : Int))))) ≤ (Int.ofNat (List.length v0))) <|
        gd (0 ≤ (IntKind.wrap .i64 ((IntKind.wrap .i64 (v8 + (1 : Int))) + (IntKind.wrap .i64 (List.getD v0 (Int.toNat v8) (0 : Int)))))) <|
        gd ((IntKind.wrap .i64 ((IntKind.wrap .i64 (v8 + (1 : Int))) + (IntKind.wrap .i64 (List.getD v0 (Int.toNat v8) (0 : Int))))) < (Int.ofNat (List.length v0))) <|
        gd (0 ≤ (8 : Int)) <|
        gd (0 ≤ (IntKind.wrap .i64 ((IntKind.wrap .i64 (v8 + (2 : Int))) + (IntKind.wrap .i64 (List.getD v0 (Int.toNat v8) (0 : Int)))))) <|
        gd ((IntKind.wrap .i64 ((IntKind.wrap .i64 (v8 + (2 : Int))) + (IntKind.wrap .i64 (List.getD v0 (Int.toNat v8) (0 : Int))))) < (Int.ofNat (List.length v0))) <|
        bitloftref28_Read_c2 v0 v1 v8 v9 (IntKind.wrap .i64 (List.getD v0 (Int.toNat v8) (0 : Int))) (0 : Int) h8 ((toStr (List.take ((Int.toNat (IntKind.wrap .i64 ((IntKind.wrap .i64 (v8 + (1 : Int))) + (IntKind.wrap .i64 (List.getD v0 (Int.toNat v8) (0 : Int)))))) - (Int.toNat (IntKind.wrap .i64 (v8 + (1 : Int))))) (List.drop (Int.toNat (IntKind.wrap .i64 (v8 + (1 : Int)))) v0))), ((IntKind.wrap .i64 ((IntKind.wrap .i64 ((IntKind.wrap .i64 (List.getD v0 (Int.toNat (IntKind.wrap .i64 ((IntKind.wrap .i64 (v8 + (1 : Int))) + (IntKind.wrap .i64 (List.getD v0 (Int.toNat v8) (0 : Int)))))) (0 : Int))) * (256 : Int))) + (IntKind.wrap .i64 (List.getD v0 (Int.toNat (IntKind.wrap .i64 ((IntKind.wrap .i64 (v8 + (2 : Int))) + (IntKind.wrap .i64 (List.getD v0 (Int.toNat v8) (0 : Int)))))) (0 : Int))))), ((List.replicate 20 (0 : Int)), ())))
  else
    (bitloftref28_Valid h8).bind fun (r1 : (Int)) =>
    if (r1 != (0 : Int)) = true then
      some ([], ((0 : Int), (12 : Int)))
    else
      some (h8, (v8, (0 : Int)))) := (FnI.sem_eq _).trans (by kernel_rfl)
theorem bitloftref28_Read_c2_eq (v0 : List Int) (v1 : Int) (v8 : Int) (v9 : Int) (v10 : Int) (v12 : Int) (h8 : List D_api_Record) (b9 : D_api_Record) : bitloftref28_Read_c2 v0 v1 v8 v9 v10 v12 h8 b9 = (
  if (decide (v12 < (20 : Int))) = true then
    gd (0 ≤ (IntKind.wrap .i64 ((IntKind.wrap .i64 ((IntKind.wrap .i64 (v8 + (3 : Int))) + v10)) + v12))) <|
    gd ((IntKind.wrap .i64 ((IntKind.wrap .i64 ((IntKind.wrap .i64 (v8 + (3 : Int))) + v10)) + v12)) < (Int.ofNat (List.length v0))) <|
    gd (0 ≤ v12) <|
    gd (v12 < (20 : Int)) <|
    bitloftref28_Read_c2 v0 v1 v8 v9 v10 (IntKind.wrap .i64 (v12 + (1 : Int))) h8 (b9.1, (b9.2.1, ((List.set b9.2.2.1 (Int.toNat v12) (List.getD v0 (Int.toNat (IntKind.wrap .i64 ((IntKind.wrap .i64 ((IntKind.wrap .i64 (v8 + (3 : Int))) + v10)) + v12))) (0 : Int))), b9.2.2.2)))
  else
    gd ((List.length (h8 ++ [b9])) * 48 ≤ 140737488355328) <|
    bitloftref28_Read_c1 v0 v1 (IntKind.wrap .i64 (v8 + (IntKind.wrap .i64 (v10 + (23 : Int))))) (IntKind.wrap .i64 (v9 + (1 : Int))) (h8 ++ [b9])) := (FnI.sem_eq _).trans (by kernel_rfl)
noncomputable def bitloftref28_Read_S (acc : List AV → Bool) : Summ Tryd.prog GT := bitloftref28_Read_I.summ mixed acc false false

/-! bitloft/bitloftref31.Head -/
noncomputable def bitloftref31_Head_I : FnI Tryd.prog GT := { f := 64, cuts := [], tab := [bitloftref30_Check_S (fun _ => true), bitloftref28_Read_S (fun _ => true), bitloftref01_Of_S (fun _ => true)], fm := ⟨true, [.val T_api_Settings [], .val (.slice T_api_Record) [.nw], .val (.int .i64) [], .val (.int .i64) []]⟩ }
noncomputable def bitloftref31_Head (a0 : List Int) : Option (D_api_Settings × List D_api_Record × Int × Int) := bitloftref31_Head_I.call [(.sl (.int .u8) false a0)] []
theorem bitloftref31_Head_eq (a0 : List Int) : bitloftref31_Head a0 = (
  if (decide ((Int.ofNat (List.length a0)) > (50000 : Int))) = true then
    some (((0 : Int), ((0 : Int), ())), ([], ((0 : Int), (4 : Int))))
  else
    if (decide ((Int.ofNat (List.length a0)) < (8 : Int))) = true then
      some (((0 : Int), ((0 : Int), ())), ([], ((0 : Int), (18 : Int))))
    else
      gd (0 ≤ (4 : Int)) <|
      gd ((4 : Int) < (Int.ofNat (List.length a0))) <|
      gd (0 ≤ (5 : Int)) <|
      gd ((5 : Int) < (Int.ofNat (List.length a0))) <|
      gd (0 ≤ (8 : Int)) <|
      gd (0 ≤ (6 : Int)) <|
      gd ((6 : Int) < (Int.ofNat (List.length a0))) <|
      gd (0 ≤ (4 : Int)) <|
      gd ((4 : Int) ≤ (Int.ofNat (List.length a0))) <|
      if (not ((ByteArray.toList (toStr (List.take 4 a0))) == (ByteArray.toList (ByteArray.mk #[66, 76, 70, 1])))) = true then
        some (((0 : Int), ((0 : Int), ())), ([], ((0 : Int), (12 : Int))))
      else
        (bitloftref30_Check ((IntKind.wrap .i64 (List.getD a0 4 (0 : Int))), ((IntKind.wrap .i64 ((IntKind.wrap .i64 ((IntKind.wrap .i64 (List.getD a0 5 (0 : Int))) * (256 : Int))) + (IntKind.wrap .i64 (List.getD a0 6 (0 : Int))))), ()))).bind fun (r1 : (Int)) =>
        if (r1 != (0 : Int)) = true then
          some (((0 : Int), ((0 : Int), ())), ([], ((0 : Int), (12 : Int))))
        else
          gd (0 ≤ (7 : Int)) <|
          gd ((7 : Int) < (Int.ofNat (List.length a0))) <|
          if (decide ((List.getD a0 7 (0 : Int)) > (16 : Int))) = true then
            some (((0 : Int), ((0 : Int), ())), ([], ((0 : Int), (12 : Int))))
          else
            gd (0 ≤ (8 : Int)) <|
            gd ((8 : Int) ≤ (Int.ofNat (List.length a0))) <|
            gd (0 ≤ (7 : Int)) <|
            gd ((7 : Int) < (Int.ofNat (List.length a0))) <|
            (bitloftref28_Read (List.drop 8 a0) (IntKind.wrap .i64 (List.getD a0 7 (0 : Int)))).bind fun (r2 : (List D_api_Record × Int × Int)) =>
            if (r2.2.2 != (0 : Int)) = true then
              some (((0 : Int), ((0 : Int), ())), ([], ((0 : Int), r2.2.2)))
            else
              if (decide ((IntKind.wrap .i64 ((IntKind.wrap .i64 ((Int.ofNat (List.length a0)) - (8 : Int))) - r2.2.1)) < (20 : Int))) = true then
                some (((0 : Int), ((0 : Int), ())), ([], ((0 : Int), (18 : Int))))
              else
                gd (0 ≤ (IntKind.wrap .i64 ((8 : Int) + r2.2.1))) <|
                gd ((IntKind.wrap .i64 ((8 : Int) + r2.2.1)) ≤ (Int.ofNat (List.length a0))) <|
                (bitloftref01_Of (List.take (Int.toNat (IntKind.wrap .i64 ((8 : Int) + r2.2.1))) a0)).bind fun (r3 : ((List Int))) =>
                gd (0 ≤ (IntKind.wrap .i64 ((8 : Int) + r2.2.1))) <|
                gd ((IntKind.wrap .i64 ((8 : Int) + r2.2.1)) ≤ (IntKind.wrap .i64 ((28 : Int) + r2.2.1))) <|
                gd ((IntKind.wrap .i64 ((28 : Int) + r2.2.1)) ≤ (Int.ofNat (List.length a0))) <|
                if (not ((ByteArray.toList (toStr (List.take 20 (List.drop 0 r3)))) == (ByteArray.toList (toStr (List.take ((Int.toNat (IntKind.wrap .i64 ((28 : Int) + r2.2.1))) - (Int.toNat (IntKind.wrap .i64 ((8 : Int) + r2.2.1)))) (List.drop (Int.toNat (IntKind.wrap .i64 ((8 : Int) + r2.2.1))) a0)))))) = true then
                  some (((0 : Int), ((0 : Int), ())), ([], ((0 : Int), (22 : Int))))
                else
                  some (((IntKind.wrap .i64 (List.getD a0 4 (0 : Int))), ((IntKind.wrap .i64 ((IntKind.wrap .i64 ((IntKind.wrap .i64 (List.getD a0 5 (0 : Int))) * (256 : Int))) + (IntKind.wrap .i64 (List.getD a0 6 (0 : Int))))), ())), (r2.1, ((IntKind.wrap .i64 ((28 : Int) + r2.2.1)), (0 : Int))))) := (FnI.call_eq (by kernel_rfl)).trans (by kernel_rfl)
noncomputable def bitloftref31_Head_S (acc : List AV → Bool) : Summ Tryd.prog GT := bitloftref31_Head_I.summ mixed acc false false

/-! bitloft/header.Parse -/
noncomputable def header_Parse_I : FnI Tryd.prog GT := { f := 76, cuts := [⟨(5, 3), [0, 2, 4, 12, 13], false⟩, ⟨(8, 7), [0, 2, 4, 5, 12, 13, 17, 18], false⟩], tab := [header_Check_S (fun _ => true)], fm := ⟨true, [.val T_api_BlockHead [], .val (.int .i64) []]⟩ }
noncomputable def header_Parse (a0 : List Int) : Option (D_api_BlockHead × Int) := header_Parse_I.call [(.sl (.int .u8) false a0)] []
noncomputable def header_Parse_c1 (v0 : List Int) (v12 : (List Int)) (v13 : Int) (b8 : D_api_BlockHead) (b9 : (List Int)) : Option (D_api_BlockHead × Int) := header_Parse_I.sem ⟨[.code (cIn (cIn (cSnd (cFst (cSnd (cSnd (cSnd (bodyOf Tryd.prog 76)))))))), .inLoop (cIn (cIn (cSnd (cFst (cSnd (cSnd (cSnd (bodyOf Tryd.prog 76)))))))), .inBlock 0, .code (cSnd (cSnd (cSnd (cSnd (bodyOf Tryd.prog 76)))))], ⟨[(0, (.one (.sl (.int .u8) false v0))), (2, (.one (.ptr T_api_BlockHead 8 []))), (4, (.one (.ptr (.arr 5 (.int .i64)) 9 []))), (12, (.one (.agg (.arr 5 (.int .i64)) v12))), (13, (.one (.int .i64 v13)))], [(8, some (.box T_api_BlockHead (inj false T_api_BlockHead b8))), (9, some (.box (.arr 5 (.int .i64)) b9))], 10⟩⟩
noncomputable def header_Parse_c2 (v0 : List Int) (v5 : Int) (v12 : (List Int)) (v13 : Int) (v17 : Int) (v18 : Int) (b8 : D_api_BlockHead) (b9 : (List Int)) : Option (D_api_BlockHead × Int) := header_Parse_I.sem ⟨[.code (cIn (cIn (cSnd (cSnd (cIn (cFst (cSnd (cSnd (cIn (cIn (cSnd (cFst (cSnd (cSnd (cSnd (bodyOf Tryd.prog 76)))))))))))))))), .inLoop (cIn (cIn (cSnd (cSnd (cIn (cFst (cSnd (cSnd (cIn (cIn (cSnd (cFst (cSnd (cSnd (cSnd (bodyOf Tryd.prog 76)))))))))))))))), .inBlock 2, .inBlock 1, .code (cSnd (cSnd (cSnd (cIn (cIn (cSnd (cFst (cSnd (cSnd (cSnd (bodyOf Tryd.prog 76))))))))))), .inLoop (cIn (cIn (cSnd (cFst (cSnd (cSnd (cSnd (bodyOf Tryd.prog 76)))))))), .inBlock 0, .code (cSnd (cSnd (cSnd (cSnd (bodyOf Tryd.prog 76)))))], ⟨[(0, (.one (.sl (.int .u8) false v0))), (2, (.one (.ptr T_api_BlockHead 8 []))), (4, (.one (.ptr (.arr 5 (.int .i64)) 9 []))), (5, (.one (.int .i64 v5))), (12, (.one (.agg (.arr 5 (.int .i64)) v12))), (13, (.one (.int .i64 v13))), (17, (.one (.int .i64 v17))), (18, (.one (.int .i64 v18)))], [(8, some (.box T_api_BlockHead (inj false T_api_BlockHead b8))), (9, some (.box (.arr 5 (.int .i64)) b9))], 10⟩⟩
theorem header_Parse_eq (a0 : List Int) : header_Parse a0 = (
  if ((Int.ofNat (List.length a0)) != (28 : Int)) = true then
    some (((0 : Int), ((0 : Int), ((0 : Int), ((0 : Int), ((0 : Int), ((List.replicate 20 (0 : Int)), ())))))), (12 : Int))
  else
    header_Parse_c1 a0 G_widths (0 : Int) ((0 : Int), ((0 : Int), ((0 : Int), ((0 : Int), ((0 : Int), ((List.replicate 20 (0 : Int)), ())))))) (List.replicate 5 (0 : Int))) := (FnI.call_eq (by kernel_rfl)).trans (by kernel_rfl)
theorem header_Parse_c1_eq (v0 : List Int) (v12 : (List Int)) (v13 : Int) (b8 : D_api_BlockHead) (b9 : (List Int)) : header_Parse_c1 v0 v12 v13 b8 b9 = (
  if (decide (v13 < (5 : Int))) = true then
    gd (0 ≤ v13) <|
    gd (v13 < (5 : Int)) <|
    header_Parse_c2 v0 v13 v12 v13 (List.getD v12 (Int.toNat v13) (0 : Int)) (0 : Int) b8 b9
  else
    gd (0 ≤ (0 : Int)) <|
    gd ((0 : Int) < (5 : Int)) <|
    gd (0 ≤ (1 : Int)) <|
    gd ((1 : Int) < (5 : Int)) <|
    gd (0 ≤ (2 : Int)) <|
    gd ((2 : Int) < (5 : Int)) <|
    gd (0 ≤ (3 : Int)) <|
    gd ((3 : Int) < (5 : Int)) <|
    gd (0 ≤ (4 : Int)) <|
    gd ((4 : Int) < (5 : Int)) <|
    (header_Check ((IntKind.wrap .u8 (List.getD b9 0 (0 : Int))), ((List.getD b9 1 (0 : Int)), ((List.getD b9 2 (0 : Int)), ((List.getD b9 3 (0 : Int)), ((List.getD b9 4 (0 : Int)), ((splice (List.replicate 20 (0 : Int)) 0 (List.take (min (List.length v0) 20) v0)), ()))))))).bind fun (r1 : (Int)) =>
    if (r1 != (0 : Int)) = true then
      some (((0 : Int), ((0 : Int), ((0 : Int), ((0 : Int), ((0 : Int), ((List.replicate 20 (0 : Int)), ())))))), (12 : Int))
    else
      some (((IntKind.wrap .u8 (List.getD b9 0 (0 : Int))), ((List.getD b9 1 (0 : Int)), ((List.getD b9 2 (0 : Int)), ((List.getD b9 3 (0 : Int)), ((List.getD b9 4 (0 : Int)), ((splice (List.replicate 20 (0 : Int)) 0 (List.take (min (List.length v0) 20) v0)), ())))))), (0 : Int))) := (FnI.sem_eq _).trans (by kernel_rfl)
theorem header_Parse_c2_eq (v0 : List Int) (v5 : Int) (v12 : (List Int)) (v13 : Int) (v17 : Int) (v18 : Int) (b8 : D_api_BlockHead) (b9 : (List Int)) : header_Parse_c2 v0 v5 v12 v13 v17 v18 b8 b9 = (
  if (decide (v18 < v17)) = true then
    gd (0 ≤ v5) <|
    gd (v5 < (5 : Int)) <|
    gd (0 ≤ (8 : Int)) <|
    gd (0 ≤ (0 : Int)) <|
    gd ((0 : Int) < (Int.ofNat (List.length v0))) <|
    gd (0 ≤ v5) <|
    gd (v5 < (5 : Int)) <|
    gd (0 ≤ (1 : Int)) <|
    gd ((1 : Int) ≤ (Int.ofNat (List.length v0))) <|
    header_Parse_c2 (List.drop 1 v0) v5 v12 v13 v17 (IntKind.wrap .i64 (v18 + (1 : Int))) b8 (List.set b9 (Int.toNat v5) (bitsOr .i64 (IntKind.wrap .i64 ((List.getD b9 (Int.toNat v5) (0 : Int)) * (256 : Int))) (IntKind.wrap .i64 (List.getD v0 0 (0 : Int)))))
  else
    header_Parse_c1 v0 v12 (IntKind.wrap .i64 (v13 + (1 : Int))) b8 b9) := (FnI.sem_eq _).trans (by kernel_rfl)
noncomputable def header_Parse_S (acc : List AV → Bool) : Summ Tryd.prog GT := header_Parse_I.summ mixed acc false false

/-! bitloft/marker.check -/
noncomputable def marker_check_I : FnI Tryd.prog GT := { f := 121, cuts := [], tab := [], fm := ⟨true, [.val (.int .i64) []]⟩ }
noncomputable def marker_check (a0 : List Int) (a1 : Int) : Option (Int) := marker_check_I.call [(.sl (.int .u8) false a0), (.int .i64 a1)] []
theorem marker_check_eq (a0 : List Int) (a1 : Int) : marker_check a0 a1 = (
  if (decide ((Int.ofNat (List.length a0)) > (50000 : Int))) = true then
    some (4 : Int)
  else
    if (decide (a1 < (0 : Int))) = true then
      some (2 : Int)
    else
      if (decide (a1 > (Int.ofNat (List.length a0)))) = true then
        some (2 : Int)
      else
        some (0 : Int)) := (FnI.call_eq (by kernel_rfl)).trans (by kernel_rfl)
noncomputable def marker_check_S (acc : List AV → Bool) : Summ Tryd.prog GT := marker_check_I.summ mixed acc false false

/-! bitloft/marker.Bytes -/
noncomputable def marker_Bytes_I : FnI Tryd.prog GT := { f := 74, cuts := [], tab := [], fm := ⟨true, [.val (.slice (.int .u8)) [.nw]]⟩ }
noncomputable def marker_Bytes : Option (List Int) := marker_Bytes_I.call [] []
theorem marker_Bytes_eq : marker_Bytes = (
  gd (0 < 13) <|
  some ([(183 : Int), (98 : Int), (105 : Int), (116 : Int), (108 : Int), (111 : Int), (102 : Int), (116 : Int), (32 : Int), (98 : Int), (108 : Int), (107 : Int), (10 : Int)])) := (FnI.call_eq (by kernel_rfl)).trans (by kernel_rfl)
noncomputable def marker_Bytes_S (acc : List AV → Bool) : Summ Tryd.prog GT := marker_Bytes_I.summ mixed acc false false

/-! bitloft/marker.At -/
noncomputable def marker_At_I : FnI Tryd.prog GT := { f := 77, cuts := [], tab := [marker_check_S (fun _ => true), marker_Bytes_S (fun _ => true), bytes_HasPrefix_S (fun _ => true)], fm := ⟨true, [.val .bool [], .val (.int .i64) []]⟩ }
noncomputable def marker_At (a0 : List Int) (a1 : Int) : Option (Bool × Int) := marker_At_I.call [(.sl (.int .u8) false a0), (.int .i64 a1)] []
theorem marker_At_eq (a0 : List Int) (a1 : Int) : marker_At a0 a1 = (
  (marker_check a0 a1).bind fun (r1 : (Int)) =>
  if (r1 != (0 : Int)) = true then
    some (false, r1)
  else
    gd (0 ≤ a1) <|
    gd (a1 ≤ (Int.ofNat (List.length a0))) <|
    (marker_Bytes).bind fun (r2 : (List Int)) =>
    (bytes_HasPrefix (List.drop (Int.toNat a1) a0) r2).bind fun (r3 : (Bool)) =>
    some (r3, (0 : Int))) := (FnI.call_eq (by kernel_rfl)).trans (by kernel_rfl)
noncomputable def marker_At_S (acc : List AV → Bool) : Summ Tryd.prog GT := marker_At_I.summ mixed acc false false

/-! bytes.Clone -/
noncomputable def bytes_Clone_I : FnI Tryd.prog GT := { f := 78, cuts := [], tab := [], fm := ⟨true, [.val (.slice (.int .u8)) [.nw]]⟩ }
noncomputable def bytes_Clone (a0 : List Int) : Option (List Int) := bytes_Clone_I.call [(.sl (.int .u8) false a0)] []
theorem bytes_Clone_eq (a0 : List Int) : bytes_Clone a0 = (
  anyv (fun (r1 : Bool) => r1 = true → a0 = []) fun (r1 : Bool) =>
  if r1 = true then
    some ([])
  else
    gd ((List.length ([] ++ a0)) * 1 ≤ 140737488355328) <|
    some ([] ++ a0)) := (FnI.call_eq (by kernel_rfl)).trans (by kernel_rfl)
noncomputable def bytes_Clone_S (acc : List AV → Bool) : Summ Tryd.prog GT := bytes_Clone_I.summ mixed acc false false

/-! bitloft/block.Read -/
noncomputable def block_Read_I : FnI Tryd.prog GT := { f := 18, cuts := [], tab := [header_Parse_S (fun _ => true), marker_At_S (fun _ => true), bytes_Clone_S (fun _ => true)], fm := ⟨true, [.val T_api_Block [], .val (.int .i64) [], .val (.int .i64) []]⟩ }
noncomputable def block_Read (a0 : List Int) : Option (D_api_Block × Int × Int) := block_Read_I.call [(.sl (.int .u8) false a0)] []
theorem block_Read_eq (a0 : List Int) : block_Read a0 = (
  if (decide ((Int.ofNat (List.length a0)) > (50000 : Int))) = true then
    some ((((0 : Int), ((0 : Int), ((0 : Int), ((0 : Int), ((0 : Int), ((List.replicate 20 (0 : Int)), ())))))), ([], ())), ((0 : Int), (4 : Int)))
  else
    if (decide ((Int.ofNat (List.length a0)) < (41 : Int))) = true then
      some ((((0 : Int), ((0 : Int), ((0 : Int), ((0 : Int), ((0 : Int), ((List.replicate 20 (0 : Int)), ())))))), ([], ())), ((0 : Int), (18 : Int)))
    else
      gd (0 ≤ (13 : Int)) <|
      gd ((13 : Int) ≤ (41 : Int)) <|
      gd ((41 : Int) ≤ (Int.ofNat (List.length a0))) <|
      (header_Parse (List.take 28 (List.drop 13 a0))).bind fun (r1 : (D_api_BlockHead × Int)) =>
      (marker_At a0 (0 : Int)).bind fun (r2 : (Bool × Int)) =>
      if (not r2.1) = true then
        some ((((0 : Int), ((0 : Int), ((0 : Int), ((0 : Int), ((0 : Int), ((List.replicate 20 (0 : Int)), ())))))), ([], ())), ((0 : Int), (12 : Int)))
      else
        if (r1.2 != (0 : Int)) = true then
          some ((((0 : Int), ((0 : Int), ((0 : Int), ((0 : Int), ((0 : Int), ((List.replicate 20 (0 : Int)), ())))))), ([], ())), ((0 : Int), (12 : Int)))
        else
          if (decide ((Int.ofNat (List.length a0)) < (IntKind.wrap .i64 ((41 : Int) + r1.1.2.2.2.2.1)))) = true then
            some ((((0 : Int), ((0 : Int), ((0 : Int), ((0 : Int), ((0 : Int), ((List.replicate 20 (0 : Int)), ())))))), ([], ())), ((0 : Int), (18 : Int)))
          else
            gd (0 ≤ (41 : Int)) <|
            gd ((41 : Int) ≤ (IntKind.wrap .i64 ((41 : Int) + r1.1.2.2.2.2.1))) <|
            gd ((IntKind.wrap .i64 ((41 : Int) + r1.1.2.2.2.2.1)) ≤ (Int.ofNat (List.length a0))) <|
            (bytes_Clone (List.take ((Int.toNat (IntKind.wrap .i64 ((41 : Int) + r1.1.2.2.2.2.1))) - 41) (List.drop 41 a0))).bind fun (r3 : (List Int)) =>
            some ((r1.1, (r3, ())), ((IntKind.wrap .i64 ((41 : Int) + r1.1.2.2.2.2.1)), (0 : Int)))) := (FnI.call_eq (by kernel_rfl)).trans (by kernel_rfl)
noncomputable def block_Read_S (acc : List AV → Bool) : Summ Tryd.prog GT := block_Read_I.summ mixed acc false false

/-! bitloft/list.all -/
noncomputable def list_all_I : FnI Tryd.prog GT := { f := 112, cuts := [⟨(7, 3), [0, 2, 7, 9, 10, 32, 33, 34], false⟩], tab := [list_Head_S (fun _ => true), list_pieces_S (fun _ => true), block_Read_S (fun _ => true), list_is_S (fun _ => true)], fm := ⟨true, [.val T_api_Listing [], .val (.slice T_api_Block) [.nw], .val (.int .i64) []]⟩ }
noncomputable def list_all (a0 : List Int) : Option (D_api_Listing × List D_api_Block × Int) := list_all_I.call [(.sl (.int .u8) false a0)] []
noncomputable def list_all_c1 (v0 : List Int) (v7 : Int) (v33 : Int) (v34 : Int) (b8a : D_api_Settings) (b8bbb : Unit) (b9a : D_api_Settings) (b9bbb : Unit) (h10 : List D_api_Block) (h11 : List D_api_Piece) (h12 : List D_api_Record) (h13 : List D_api_BlockHead) (h14 : List D_api_Record) (h15 : List D_api_BlockHead) : Option (D_api_Listing × List D_api_Block × Int) := list_all_I.sem ⟨[.code (cIn (cIn (cSnd (cFst (cSnd (cSnd (cSnd (cSnd (cSnd (bodyOf Tryd.prog 112)))))))))), .inLoop (cIn (cIn (cSnd (cFst (cSnd (cSnd (cSnd (cSnd (cSnd (bodyOf Tryd.prog 112)))))))))), .inBlock 0, .code (cSnd (cSnd (cSnd (cSnd (cSnd (cSnd (bodyOf Tryd.prog 112)))))))], ⟨[(0, (.one (.sl (.int .u8) false v0))), (2, (.one (.ptr T_api_Listing 8 []))), (7, (.one (.int .i64 v7))), (9, (.one (.ptr T_api_Listing 9 []))), (10, (.one (.ref T_api_Block 10 0 (List.length h10) true))), (32, (.one (.ref T_api_Piece 11 0 (List.length h11) true))), (33, (.one (.int .i64 v33))), (34, (.one (.int .i64 v34)))], [(8, some (.box T_api_Listing ((inj false T_api_Settings b8a), ((SV.ref 12 0 (List.length h12) true), ((SV.ref 13 0 (List.length h13) true), b8bbb))))), (9, some (.box T_api_Listing ((inj false T_api_Settings b9a), ((SV.ref 14 0 (List.length h14) true), ((SV.ref 15 0 (List.length h15) true), b9bbb))))), (10, some (.row T_api_Block true h10)), (11, some (.row T_api_Piece true h11)), (12, some (.row T_api_Record true h12)), (13, some (.row T_api_BlockHead true h13)), (14, some (.row T_api_Record true h14)), (15, some (.row T_api_BlockHead true h15))], 16⟩⟩
theorem list_all_eq (a0 : List Int) : list_all a0 = (
  (list_Head a0).bind fun (r1 : (D_api_Settings × List D_api_Record × Int × Int)) =>
  if (r1.2.2.2 != (0 : Int)) = true then
    some ((((0 : Int), ((0 : Int), ())), ([], ([], ()))), ([], r1.2.2.2))
  else
    (list_pieces r1.1 r1.2.1).bind fun (r2 : (List D_api_Piece)) =>
    list_all_c1 a0 r1.2.2.1 (Int.ofNat (List.length r2)) (0 : Int) ((0 : Int), ((0 : Int), ())) () r1.1 () [] r2 [] [] r1.2.1 []) := (FnI.call_eq (by kernel_rfl)).trans (by kernel_rfl)
theorem list_all_c1_eq (v0 : List Int) (v7 : Int) (v33 : Int) (v34 : Int) (b8a : D_api_Settings) (b8bbb : Unit) (b9a : D_api_Settings) (b9bbb : Unit) (h10 : List D_api_Block) (h11 : List D_api_Piece) (h12 : List D_api_Record) (h13 : List D_api_BlockHead) (h14 : List D_api_Record) (h15 : List D_api_BlockHead) : list_all_c1 v0 v7 v33 v34 b8a b8bbb b9a b9bbb h10 h11 h12 h13 h14 h15 = (
  if (decide (v34 < v33)) = true then
    gd (0 ≤ v34) <|
    gd (v34 < (Int.ofNat (List.length h11))) <|
    gd (0 ≤ v7) <|
    gd (v7 ≤ (Int.ofNat (List.length v0))) <|
    (block_Read (List.drop (Int.toNat v7) v0)).bind fun (r3 : (D_api_Block × Int × Int)) =>
    if (r3.2.2 != (0 : Int)) = true then
      some ((((0 : Int), ((0 : Int), ())), ([], ([], ()))), ([], r3.2.2))
    else
      (list_is r3.1.1 (List.getD h11 (0 + (Int.toNat v34)) (pzero T_api_Piece))).bind fun (r4 : (Bool)) =>
      if (not r4) = true then
        some ((((0 : Int), ((0 : Int), ())), ([], ([], ()))), ([], (32 : Int)))
      else
        gd ((List.length (h15 ++ [r3.1.1])) * 64 ≤ 140737488355328) <|
        gd ((List.length (h10 ++ [r3.1])) * 88 ≤ 140737488355328) <|
        list_all_c1 v0 (IntKind.wrap .i64 (v7 + r3.2.1)) v33 (IntKind.wrap .i64 (v34 + (1 : Int))) b8a b8bbb b9a b9bbb (h10 ++ [r3.1]) h11 h12 h13 h14 (h15 ++ [r3.1.1])
  else
    if (decide (v7 < (Int.ofNat (List.length v0)))) = true then
      some ((((0 : Int), ((0 : Int), ())), ([], ([], ()))), ([], (12 : Int)))
    else
      some ((b9a, (h14, (h15, b9bbb))), (h10, (0 : Int)))) := (FnI.sem_eq _).trans (by kernel_rfl)
noncomputable def list_all_S (acc : List AV → Bool) : Summ Tryd.prog GT := list_all_I.summ mixed acc false false

/-! bitloft/list.List -/
noncomputable def list_List_I : FnI Tryd.prog GT := { f := 65, cuts := [], tab := [list_all_S (fun _ => true)], fm := ⟨true, [.val T_api_Listing [], .val (.int .i64) []]⟩ }
noncomputable def list_List (a0 : List Int) : Option (D_api_Listing × Int) := list_List_I.call [(.sl (.int .u8) false a0)] []
theorem list_List_eq (a0 : List Int) : list_List a0 = (
  (list_all a0).bind fun (r1 : (D_api_Listing × List D_api_Block × Int)) =>
  some (r1.1, r1.2.2)) := (FnI.call_eq (by kernel_rfl)).trans (by kernel_rfl)
noncomputable def list_List_S (acc : List AV → Bool) : Summ Tryd.prog GT := list_List_I.summ mixed acc false false

/-! bitloft/bitloftref26.Parse -/
noncomputable def bitloftref26_Parse_I : FnI Tryd.prog GT := { f := 122, cuts := [⟨(5, 3), [0, 2, 4, 5], false⟩], tab := [bitloftref26_Check_S (fun _ => true)], fm := ⟨true, [.val T_api_BlockHead [], .val (.int .i64) []]⟩ }
noncomputable def bitloftref26_Parse (a0 : List Int) : Option (D_api_BlockHead × Int) := bitloftref26_Parse_I.call [(.sl (.int .u8) false a0)] []
noncomputable def bitloftref26_Parse_c1 (v0 : List Int) (v5 : Int) (b8 : D_api_BlockHead) (b9 : D_api_BlockHead) : Option (D_api_BlockHead × Int) := bitloftref26_Parse_I.sem ⟨[.code (cIn (cIn (cSnd (cFst (cSnd (cSnd (cSnd (bodyOf Tryd.prog 122)))))))), .inLoop (cIn (cIn (cSnd (cFst (cSnd (cSnd (cSnd (bodyOf Tryd.prog 122)))))))), .inBlock 0, .code (cSnd (cSnd (cSnd (cSnd (bodyOf Tryd.prog 122)))))], ⟨[(0, (.one (.sl (.int .u8) false v0))), (2, (.one (.ptr T_api_BlockHead 8 []))), (4, (.one (.ptr T_api_BlockHead 9 []))), (5, (.one (.int .i64 v5)))], [(8, some (.box T_api_BlockHead (inj false T_api_BlockHead b8))), (9, some (.box T_api_BlockHead (inj false T_api_BlockHead b9)))], 10⟩⟩
theorem bitloftref26_Parse_eq (a0 : List Int) : bitloftref26_Parse a0 = (
  if ((Int.ofNat (List.length a0)) != (28 : Int)) = true then
    some (((0 : Int), ((0 : Int), ((0 : Int), ((0 : Int), ((0 : Int), ((List.replicate 20 (0 : Int)), ())))))), (12 : Int))
  else
    gd (0 ≤ (0 : Int)) <|
    gd ((0 : Int) < (Int.ofNat (List.length a0))) <|
    gd (0 ≤ (1 : Int)) <|
    gd ((1 : Int) < (Int.ofNat (List.length a0))) <|
    gd (0 ≤ (2 : Int)) <|
    gd ((2 : Int) < (Int.ofNat (List.length a0))) <|
    gd (0 ≤ (8 : Int)) <|
    gd (0 ≤ (3 : Int)) <|
    gd ((3 : Int) < (Int.ofNat (List.length a0))) <|
    gd (0 ≤ (4 : Int)) <|
    gd ((4 : Int) < (Int.ofNat (List.length a0))) <|
    gd (0 ≤ (8 : Int)) <|
    gd (0 ≤ (5 : Int)) <|
    gd ((5 : Int) < (Int.ofNat (List.length a0))) <|
    gd (0 ≤ (6 : Int)) <|
    gd ((6 : Int) < (Int.ofNat (List.length a0))) <|
    gd (0 ≤ (8 : Int)) <|
    gd (0 ≤ (7 : Int)) <|
    gd ((7 : Int) < (Int.ofNat (List.length a0))) <|
    bitloftref26_Parse_c1 a0 (0 : Int) ((0 : Int), ((0 : Int), ((0 : Int), ((0 : Int), ((0 : Int), ((List.replicate 20 (0 : Int)), ())))))) ((List.getD a0 0 (0 : Int)), ((IntKind.wrap .i64 (List.getD a0 1 (0 : Int))), ((IntKind.wrap .i64 ((IntKind.wrap .i64 ((IntKind.wrap .i64 (List.getD a0 2 (0 : Int))) * (256 : Int))) + (IntKind.wrap .i64 (List.getD a0 3 (0 : Int))))), ((IntKind.wrap .i64 ((IntKind.wrap .i64 ((IntKind.wrap .i64 (List.getD a0 4 (0 : Int))) * (256 : Int))) + (IntKind.wrap .i64 (List.getD a0 5 (0 : Int))))), ((IntKind.wrap .i64 ((IntKind.wrap .i64 ((IntKind.wrap .i64 (List.getD a0 6 (0 : Int))) * (256 : Int))) + (IntKind.wrap .i64 (List.getD a0 7 (0 : Int))))), ((List.replicate 20 (0 : Int)), ()))))))) := (FnI.call_eq (by kernel_rfl)).trans (by kernel_rfl)
theorem bitloftref26_Parse_c1_eq (v0 : List Int) (v5 : Int) (b8 : D_api_BlockHead) (b9 : D_api_BlockHead) : bitloftref26_Parse_c1 v0 v5 b8 b9 = (
  if (decide (v5 < (20 : Int))) = true then
    gd (0 ≤ (IntKind.wrap .i64 ((8 : Int) + v5))) <|
    gd ((IntKind.wrap .i64 ((8 : Int) + v5)) < (Int.ofNat (List.length v0))) <|
    gd (0 ≤ v5) <|
    gd (v5 < (20 : Int)) <|
    bitloftref26_Parse_c1 v0 (IntKind.wrap .i64 (v5 + (1 : Int))) b8 (b9.1, (b9.2.1, (b9.2.2.1, (b9.2.2.2.1, (b9.2.2.2.2.1, ((List.set b9.2.2.2.2.2.1 (Int.toNat v5) (List.getD v0 (Int.toNat (IntKind.wrap .i64 ((8 : Int) + v5))) (0 : Int))), b9.2.2.2.2.2.2))))))
  else
    (bitloftref26_Check b9).bind fun (r1 : (Int)) =>
    if (r1 != (0 : Int)) = true then
      some (((0 : Int), ((0 : Int), ((0 : Int), ((0 : Int), ((0 : Int), ((List.replicate 20 (0 : Int)), ())))))), (12 : Int))
    else
      some (b9, (0 : Int))) := (FnI.sem_eq _).trans (by kernel_rfl)
noncomputable def bitloftref26_Parse_S (acc : List AV → Bool) : Summ Tryd.prog GT := bitloftref26_Parse_I.summ mixed acc false false

/-! bitloft/bitloftref25.Bytes -/
noncomputable def bitloftref25_Bytes_I : FnI Tryd.prog GT := { f := 119, cuts := [], tab := [], fm := ⟨true, [.val (.slice (.int .u8)) [.nw]]⟩ }
noncomputable def bitloftref25_Bytes : Option (List Int) := bitloftref25_Bytes_I.call [] []
theorem bitloftref25_Bytes_eq : bitloftref25_Bytes = (
  some ([(183 : Int), (98 : Int), (105 : Int), (116 : Int), (108 : Int), (111 : Int), (102 : Int), (116 : Int), (32 : Int), (98 : Int), (108 : Int), (107 : Int), (10 : Int)])) := (FnI.call_eq (by kernel_rfl)).trans (by kernel_rfl)
noncomputable def bitloftref25_Bytes_S (acc : List AV → Bool) : Summ Tryd.prog GT := bitloftref25_Bytes_I.summ mixed acc false false

/-! bitloft/bitloftref25.Stands -/
noncomputable def bitloftref25_Stands_I : FnI Tryd.prog GT := { f := 123, cuts := [⟨(5, 3), [0, 1, 5, 6], false⟩], tab := [bitloftref25_Bytes_S (fun _ => true)], fm := ⟨true, [.val .bool []]⟩ }
noncomputable def bitloftref25_Stands (a0 : List Int) (a1 : Int) : Option (Bool) := bitloftref25_Stands_I.call [(.sl (.int .u8) false a0), (.int .i64 a1)] []
noncomputable def bitloftref25_Stands_c1 (v0 : List Int) (v1 : Int) (v6 : Int) (h8 : List Int) : Option (Bool) := bitloftref25_Stands_I.sem ⟨[.code (cIn (cIn (cSnd (cFst (cSnd (cSnd (cSnd (bodyOf Tryd.prog 123)))))))), .inLoop (cIn (cIn (cSnd (cFst (cSnd (cSnd (cSnd (bodyOf Tryd.prog 123)))))))), .inBlock 0, .code (cSnd (cSnd (cSnd (cSnd (bodyOf Tryd.prog 123)))))], ⟨[(0, (.one (.sl (.int .u8) false v0))), (1, (.one (.int .i64 v1))), (5, (.one (.ref (.int .u8) 8 0 (List.length h8) true))), (6, (.one (.int .i64 v6)))], [(8, some (.row (.int .u8) true h8))], 9⟩⟩
theorem bitloftref25_Stands_eq (a0 : List Int) (a1 : Int) : bitloftref25_Stands a0 a1 = (
  (bitloftref25_Bytes).bind fun (r1 : (List Int)) =>
  if (decide (a1 < (0 : Int))) = true then
    some (false)
  else
    if (decide (a1 > (Int.ofNat (List.length a0)))) = true then
      some (false)
    else
      if (decide ((IntKind.wrap .i64 ((Int.ofNat (List.length a0)) - a1)) < (13 : Int))) = true then
        some (false)
      else
        bitloftref25_Stands_c1 a0 a1 (0 : Int) r1) := (FnI.call_eq (by kernel_rfl)).trans (by kernel_rfl)
theorem bitloftref25_Stands_c1_eq (v0 : List Int) (v1 : Int) (v6 : Int) (h8 : List Int) : bitloftref25_Stands_c1 v0 v1 v6 h8 = (
  if (decide (v6 < (13 : Int))) = true then
    gd (0 ≤ (IntKind.wrap .i64 (v1 + v6))) <|
    gd ((IntKind.wrap .i64 (v1 + v6)) < (Int.ofNat (List.length v0))) <|
    gd (0 ≤ v6) <|
    gd (v6 < (Int.ofNat (List.length h8))) <|
    if ((List.getD v0 (Int.toNat (IntKind.wrap .i64 (v1 + v6))) (0 : Int)) != (List.getD h8 (0 + (Int.toNat v6)) (0 : Int))) = true then
      some (false)
    else
      bitloftref25_Stands_c1 v0 v1 (IntKind.wrap .i64 (v6 + (1 : Int))) h8
  else
    some (true)) := (FnI.sem_eq _).trans (by kernel_rfl)
noncomputable def bitloftref25_Stands_S (acc : List AV → Bool) : Summ Tryd.prog GT := bitloftref25_Stands_I.summ mixed acc false false

/-! bitloft/bitloftref27.Begins -/
noncomputable def bitloftref27_Begins_I : FnI Tryd.prog GT := { f := 79, cuts := [], tab := [bitloftref26_Parse_S (fun _ => true), bitloftref25_Stands_S (fun _ => true)], fm := ⟨true, [.val T_api_Block [], .val (.int .i64) [], .val (.int .i64) []]⟩ }
noncomputable def bitloftref27_Begins (a0 : List Int) : Option (D_api_Block × Int × Int) := bitloftref27_Begins_I.call [(.sl (.int .u8) false a0)] []
theorem bitloftref27_Begins_eq (a0 : List Int) : bitloftref27_Begins a0 = (
  if (decide ((Int.ofNat (List.length a0)) < (41 : Int))) = true then
    some ((((0 : Int), ((0 : Int), ((0 : Int), ((0 : Int), ((0 : Int), ((List.replicate 20 (0 : Int)), ())))))), ([], ())), ((0 : Int), (18 : Int)))
  else
    gd (0 ≤ (13 : Int)) <|
    gd ((13 : Int) ≤ (41 : Int)) <|
    gd ((41 : Int) ≤ (Int.ofNat (List.length a0))) <|
    (bitloftref26_Parse (List.take 28 (List.drop 13 a0))).bind fun (r1 : (D_api_BlockHead × Int)) =>
    (bitloftref25_Stands a0 (0 : Int)).bind fun (r2 : (Bool)) =>
    if (not r2) = true then
      some ((((0 : Int), ((0 : Int), ((0 : Int), ((0 : Int), ((0 : Int), ((List.replicate 20 (0 : Int)), ())))))), ([], ())), ((0 : Int), (12 : Int)))
    else
      if (r1.2 != (0 : Int)) = true then
        some ((((0 : Int), ((0 : Int), ((0 : Int), ((0 : Int), ((0 : Int), ((List.replicate 20 (0 : Int)), ())))))), ([], ())), ((0 : Int), (12 : Int)))
      else
        if (decide ((IntKind.wrap .i64 ((Int.ofNat (List.length a0)) - (41 : Int))) < r1.1.2.2.2.2.1)) = true then
          some ((((0 : Int), ((0 : Int), ((0 : Int), ((0 : Int), ((0 : Int), ((List.replicate 20 (0 : Int)), ())))))), ([], ())), ((0 : Int), (18 : Int)))
        else
          gd (0 ≤ (41 : Int)) <|
          gd ((41 : Int) ≤ (IntKind.wrap .i64 ((41 : Int) + r1.1.2.2.2.2.1))) <|
          gd ((IntKind.wrap .i64 ((41 : Int) + r1.1.2.2.2.2.1)) ≤ (Int.ofNat (List.length a0))) <|
          gd ((List.length ([] ++ (List.take ((Int.toNat (IntKind.wrap .i64 ((41 : Int) + r1.1.2.2.2.2.1))) - 41) (List.drop 41 a0)))) * 1 ≤ 140737488355328) <|
          some ((r1.1, (([] ++ (List.take ((Int.toNat (IntKind.wrap .i64 ((41 : Int) + r1.1.2.2.2.2.1))) - 41) (List.drop 41 a0))), ())), ((IntKind.wrap .i64 ((41 : Int) + r1.1.2.2.2.2.1)), (0 : Int)))) := (FnI.call_eq (by kernel_rfl)).trans (by kernel_rfl)
noncomputable def bitloftref27_Begins_S (acc : List AV → Bool) : Summ Tryd.prog GT := bitloftref27_Begins_I.summ mixed acc false false

/-! bitloft/bitloftref27.Read -/
noncomputable def bitloftref27_Read_I : FnI Tryd.prog GT := { f := 19, cuts := [], tab := [bitloftref27_Begins_S (fun _ => true)], fm := ⟨true, [.val T_api_Block [], .val (.int .i64) [], .val (.int .i64) []]⟩ }
noncomputable def bitloftref27_Read (a0 : List Int) : Option (D_api_Block × Int × Int) := bitloftref27_Read_I.call [(.sl (.int .u8) false a0)] []
theorem bitloftref27_Read_eq (a0 : List Int) : bitloftref27_Read a0 = (
  if (decide ((Int.ofNat (List.length a0)) > (50000 : Int))) = true then
    some ((((0 : Int), ((0 : Int), ((0 : Int), ((0 : Int), ((0 : Int), ((List.replicate 20 (0 : Int)), ())))))), ([], ())), ((0 : Int), (4 : Int)))
  else
    (bitloftref27_Begins a0).bind fun (r1 : (D_api_Block × Int × Int)) =>
    some (r1)) := (FnI.call_eq (by kernel_rfl)).trans (by kernel_rfl)
noncomputable def bitloftref27_Read_S (acc : List AV → Bool) : Summ Tryd.prog GT := bitloftref27_Read_I.summ mixed acc false false

/-! bitloft/bitloftref31.Blocks -/
noncomputable def bitloftref31_Blocks_I : FnI Tryd.prog GT := { f := 113, cuts := [⟨(8, 3), [0, 2, 7, 9, 10, 11, 12], false⟩], tab := [bitloftref31_Head_S (fun _ => true), bitloftref31_Pieces_S (fun _ => true), bitloftref27_Read_S (fun _ => true), bitloftref31_Is_S (fun _ => true)], fm := ⟨true, [.val T_api_Listing [], .val (.slice T_api_Block) [.nw], .val (.int .i64) []]⟩ }
noncomputable def bitloftref31_Blocks (a0 : List Int) : Option (D_api_Listing × List D_api_Block × Int) := bitloftref31_Blocks_I.call [(.sl (.int .u8) false a0)] []
noncomputable def bitloftref31_Blocks_c1 (v0 : List Int) (v7 : Int) (v12 : Int) (b8a : D_api_Settings) (b8bbb : Unit) (b9a : D_api_Settings) (b9bbb : Unit) (h10 : List D_api_Block) (h11 : List D_api_Piece) (h12 : List D_api_Record) (h13 : List D_api_BlockHead) (h14 : List D_api_Record) (h15 : List D_api_BlockHead) : Option (D_api_Listing × List D_api_Block × Int) := bitloftref31_Blocks_I.sem ⟨[.code (cIn (cIn (cSnd (cFst (cSnd (cSnd (cSnd (cSnd (cSnd (cSnd (bodyOf Tryd.prog 113))))))))))), .inLoop (cIn (cIn (cSnd (cFst (cSnd (cSnd (cSnd (cSnd (cSnd (cSnd (bodyOf Tryd.prog 113))))))))))), .inBlock 0, .code (cSnd (cSnd (cSnd (cSnd (cSnd (cSnd (cSnd (bodyOf Tryd.prog 113))))))))], ⟨[(0, (.one (.sl (.int .u8) false v0))), (2, (.one (.ptr T_api_Listing 8 []))), (7, (.one (.int .i64 v7))), (9, (.one (.ptr T_api_Listing 9 []))), (10, (.one (.ref T_api_Block 10 0 (List.length h10) true))), (11, (.one (.ref T_api_Piece 11 0 (List.length h11) true))), (12, (.one (.int .i64 v12)))], [(8, some (.box T_api_Listing ((inj false T_api_Settings b8a), ((SV.ref 12 0 (List.length h12) true), ((SV.ref 13 0 (List.length h13) true), b8bbb))))), (9, some (.box T_api_Listing ((inj false T_api_Settings b9a), ((SV.ref 14 0 (List.length h14) true), ((SV.ref 15 0 (List.length h15) true), b9bbb))))), (10, some (.row T_api_Block true h10)), (11, some (.row T_api_Piece true h11)), (12, some (.row T_api_Record true h12)), (13, some (.row T_api_BlockHead true h13)), (14, some (.row T_api_Record true h14)), (15, some (.row T_api_BlockHead true h15))], 16⟩⟩
theorem bitloftref31_Blocks_eq (a0 : List Int) : bitloftref31_Blocks a0 = (
  (bitloftref31_Head a0).bind fun (r1 : (D_api_Settings × List D_api_Record × Int × Int)) =>
  if (r1.2.2.2 != (0 : Int)) = true then
    some ((((0 : Int), ((0 : Int), ())), ([], ([], ()))), ([], r1.2.2.2))
  else
    (bitloftref31_Pieces r1.1 r1.2.1).bind fun (r2 : (List D_api_Piece)) =>
    bitloftref31_Blocks_c1 a0 r1.2.2.1 (0 : Int) ((0 : Int), ((0 : Int), ())) () r1.1 () [] r2 [] [] r1.2.1 []) := (FnI.call_eq (by kernel_rfl)).trans (by kernel_rfl)
theorem bitloftref31_Blocks_c1_eq (v0 : List Int) (v7 : Int) (v12 : Int) (b8a : D_api_Settings) (b8bbb : Unit) (b9a : D_api_Settings) (b9bbb : Unit) (h10 : List D_api_Block) (h11 : List D_api_Piece) (h12 : List D_api_Record) (h13 : List D_api_BlockHead) (h14 : List D_api_Record) (h15 : List D_api_BlockHead) : bitloftref31_Blocks_c1 v0 v7 v12 b8a b8bbb b9a b9bbb h10 h11 h12 h13 h14 h15 = (
  if (decide (v12 < (Int.ofNat (List.length h11)))) = true then
    gd (0 ≤ v7) <|
    gd (v7 ≤ (Int.ofNat (List.length v0))) <|
    (bitloftref27_Read (List.drop (Int.toNat v7) v0)).bind fun (r3 : (D_api_Block × Int × Int)) =>
    if (r3.2.2 != (0 : Int)) = true then
      some ((((0 : Int), ((0 : Int), ())), ([], ([], ()))), ([], r3.2.2))
    else
      gd (0 ≤ v12) <|
      gd (v12 < (Int.ofNat (List.length h11))) <|
      (bitloftref31_Is r3.1.1 (List.getD h11 (0 + (Int.toNat v12)) (pzero T_api_Piece))).bind fun (r4 : (Bool)) =>
      if (not r4) = true then
        some ((((0 : Int), ((0 : Int), ())), ([], ([], ()))), ([], (32 : Int)))
      else
        gd ((List.length (h15 ++ [r3.1.1])) * 64 ≤ 140737488355328) <|
        gd ((List.length (h10 ++ [r3.1])) * 88 ≤ 140737488355328) <|
        bitloftref31_Blocks_c1 v0 (IntKind.wrap .i64 (v7 + r3.2.1)) (IntKind.wrap .i64 (v12 + (1 : Int))) b8a b8bbb b9a b9bbb (h10 ++ [r3.1]) h11 h12 h13 h14 (h15 ++ [r3.1.1])
  else
    if (v7 != (Int.ofNat (List.length v0))) = true then
      some ((((0 : Int), ((0 : Int), ())), ([], ([], ()))), ([], (12 : Int)))
    else
      some ((b9a, (h14, (h15, b9bbb))), (h10, (0 : Int)))) := (FnI.sem_eq _).trans (by kernel_rfl)
noncomputable def bitloftref31_Blocks_S (acc : List AV → Bool) : Summ Tryd.prog GT := bitloftref31_Blocks_I.summ mixed acc false false

/-! bitloft/bitloftref31.List -/
noncomputable def bitloftref31_List_I : FnI Tryd.prog GT := { f := 66, cuts := [], tab := [bitloftref31_Blocks_S (fun _ => true)], fm := ⟨true, [.val T_api_Listing [], .val (.int .i64) []]⟩ }
noncomputable def bitloftref31_List (a0 : List Int) : Option (D_api_Listing × Int) := bitloftref31_List_I.call [(.sl (.int .u8) false a0)] []
theorem bitloftref31_List_eq (a0 : List Int) : bitloftref31_List a0 = (
  (bitloftref31_Blocks a0).bind fun (r1 : (D_api_Listing × List D_api_Block × Int)) =>
  some (r1.1, r1.2.2)) := (FnI.call_eq (by kernel_rfl)).trans (by kernel_rfl)
noncomputable def bitloftref31_List_S (acc : List AV → Bool) : Summ Tryd.prog GT := bitloftref31_List_I.summ mixed acc false false

/-! bitloft/list.Block -/
noncomputable def list_Block_I : FnI Tryd.prog GT := { f := 67, cuts := [], tab := [list_all_S (fun _ => true)], fm := ⟨true, [.val T_api_Block [], .val (.int .i64) []]⟩ }
noncomputable def list_Block (a0 : List Int) (a1 : Int) : Option (D_api_Block × Int) := list_Block_I.call [(.sl (.int .u8) false a0), (.int .i64 a1)] []
theorem list_Block_eq (a0 : List Int) (a1 : Int) : list_Block a0 a1 = (
  (list_all a0).bind fun (r1 : (D_api_Listing × List D_api_Block × Int)) =>
  if (r1.2.2 != (0 : Int)) = true then
    some ((((0 : Int), ((0 : Int), ((0 : Int), ((0 : Int), ((0 : Int), ((List.replicate 20 (0 : Int)), ())))))), ([], ())), r1.2.2)
  else
    if (decide (a1 < (0 : Int))) = true then
      some ((((0 : Int), ((0 : Int), ((0 : Int), ((0 : Int), ((0 : Int), ((List.replicate 20 (0 : Int)), ())))))), ([], ())), (2 : Int))
    else
      if (decide (a1 ≥ (Int.ofNat (List.length r1.2.1)))) = true then
        some ((((0 : Int), ((0 : Int), ((0 : Int), ((0 : Int), ((0 : Int), ((List.replicate 20 (0 : Int)), ())))))), ([], ())), (2 : Int))
      else
        gd (0 ≤ a1) <|
        gd (a1 < (Int.ofNat (List.length r1.2.1))) <|
        some ((List.getD r1.2.1 (0 + (Int.toNat a1)) (pzero T_api_Block)), (0 : Int))) := (FnI.call_eq (by kernel_rfl)).trans (by kernel_rfl)
noncomputable def list_Block_S (acc : List AV → Bool) : Summ Tryd.prog GT := list_Block_I.summ mixed acc false false

/-! bitloft/bitloftref31.Block -/
noncomputable def bitloftref31_Block_I : FnI Tryd.prog GT := { f := 68, cuts := [], tab := [bitloftref31_Blocks_S (fun _ => true)], fm := ⟨true, [.val T_api_Block [], .val (.int .i64) []]⟩ }
noncomputable def bitloftref31_Block (a0 : List Int) (a1 : Int) : Option (D_api_Block × Int) := bitloftref31_Block_I.call [(.sl (.int .u8) false a0), (.int .i64 a1)] []
theorem bitloftref31_Block_eq (a0 : List Int) (a1 : Int) : bitloftref31_Block a0 a1 = (
  (bitloftref31_Blocks a0).bind fun (r1 : (D_api_Listing × List D_api_Block × Int)) =>
  if (r1.2.2 != (0 : Int)) = true then
    some ((((0 : Int), ((0 : Int), ((0 : Int), ((0 : Int), ((0 : Int), ((List.replicate 20 (0 : Int)), ())))))), ([], ())), r1.2.2)
  else
    if (decide (a1 < (0 : Int))) = true then
      some ((((0 : Int), ((0 : Int), ((0 : Int), ((0 : Int), ((0 : Int), ((List.replicate 20 (0 : Int)), ())))))), ([], ())), (2 : Int))
    else
      if (decide (a1 ≥ (Int.ofNat (List.length r1.2.1)))) = true then
        some ((((0 : Int), ((0 : Int), ((0 : Int), ((0 : Int), ((0 : Int), ((List.replicate 20 (0 : Int)), ())))))), ([], ())), (2 : Int))
      else
        gd (0 ≤ a1) <|
        gd (a1 < (Int.ofNat (List.length r1.2.1))) <|
        some ((List.getD r1.2.1 (0 + (Int.toNat a1)) (pzero T_api_Block)), (0 : Int))) := (FnI.call_eq (by kernel_rfl)).trans (by kernel_rfl)
noncomputable def bitloftref31_Block_S (acc : List AV → Bool) : Summ Tryd.prog GT := bitloftref31_Block_I.summ mixed acc false false

/-! bitloft/bitloftref31.Same -/
noncomputable def bitloftref31_Same_I : FnI Tryd.prog GT := { f := 69, cuts := [⟨(4, 3), [2, 3, 5], false⟩], tab := [bitloftref28_Same_S (fun _ => true)], fm := ⟨true, [.val .bool []]⟩ }
noncomputable def bitloftref31_Same (a0 : D_api_Listing) (a1 : D_api_Listing) : Option (Bool) := bitloftref31_Same_I.call [(.agg T_api_Listing (inj false T_api_Listing a0)), (.agg T_api_Listing (inj false T_api_Listing a1))] []
noncomputable def bitloftref31_Same_c1 (v5 : Int) (b8 : D_api_Listing) (b9 : D_api_Listing) : Option (Bool) := bitloftref31_Same_I.sem ⟨[.code (cIn (cIn (cSnd (cFst (cSnd (cSnd (bodyOf Tryd.prog 69))))))), .inLoop (cIn (cIn (cSnd (cFst (cSnd (cSnd (bodyOf Tryd.prog 69))))))), .inBlock 0, .code (cSnd (cSnd (cSnd (bodyOf Tryd.prog 69))))], ⟨[(2, (.one (.ptr T_api_Listing 8 []))), (3, (.one (.ptr T_api_Listing 9 []))), (5, (.one (.int .i64 v5)))], [(8, some (.box T_api_Listing (inj false T_api_Listing b8))), (9, some (.box T_api_Listing (inj false T_api_Listing b9)))], 10⟩⟩
theorem bitloftref31_Same_eq (a0 : D_api_Listing) (a1 : D_api_Listing) : bitloftref31_Same a0 a1 = (
  if (not (peq T_api_Settings a0.1 a1.1)) = true then
    some (false)
  else
    (bitloftref28_Same a0.2.1 a1.2.1).bind fun (r1 : (Bool)) =>
    if (not r1) = true then
      some (false)
    else
      if ((Int.ofNat (List.length a0.2.2.1)) != (Int.ofNat (List.length a1.2.2.1))) = true then
        some (false)
      else
        bitloftref31_Same_c1 (0 : Int) a0 a1) := (FnI.call_eq (by kernel_rfl)).trans (by kernel_rfl)
theorem bitloftref31_Same_c1_eq (v5 : Int) (b8 : D_api_Listing) (b9 : D_api_Listing) : bitloftref31_Same_c1 v5 b8 b9 = (
  if (decide (v5 < (Int.ofNat (List.length b8.2.2.1)))) = true then
    gd (0 ≤ v5) <|
    gd (v5 < (Int.ofNat (List.length b8.2.2.1))) <|
    gd (0 ≤ v5) <|
    gd (v5 < (Int.ofNat (List.length b9.2.2.1))) <|
    if (not (peq T_api_BlockHead (List.getD b8.2.2.1 (Int.toNat v5) (pzero T_api_BlockHead)) (List.getD b9.2.2.1 (Int.toNat v5) (pzero T_api_BlockHead)))) = true then
      some (false)
    else
      bitloftref31_Same_c1 (IntKind.wrap .i64 (v5 + (1 : Int))) b8 b9
  else
    some (true)) := (FnI.sem_eq _).trans (by kernel_rfl)
noncomputable def bitloftref31_Same_S (acc : List AV → Bool) : Summ Tryd.prog GT := bitloftref31_Same_I.summ mixed acc false false

/-! bitloft/bitloftref27.Same -/
noncomputable def bitloftref27_Same_I : FnI Tryd.prog GT := { f := 22, cuts := [], tab := [], fm := ⟨true, [.val .bool []]⟩ }
noncomputable def bitloftref27_Same (a0 : D_api_Block) (a1 : D_api_Block) : Option (Bool) := bitloftref27_Same_I.call [(.agg T_api_Block (inj false T_api_Block a0)), (.agg T_api_Block (inj false T_api_Block a1))] []
theorem bitloftref27_Same_eq (a0 : D_api_Block) (a1 : D_api_Block) : bitloftref27_Same a0 a1 = (
  if (peq T_api_BlockHead a0.1 a1.1) = true then
    some ((ByteArray.toList (toStr a0.2.1)) == (ByteArray.toList (toStr a1.2.1)))
  else
    some (false)) := (FnI.call_eq (by kernel_rfl)).trans (by kernel_rfl)
noncomputable def bitloftref27_Same_S (acc : List AV → Bool) : Summ Tryd.prog GT := bitloftref27_Same_I.summ mixed acc false false

/-! bitloft/bitloftlaw31.ListReads -/
noncomputable def bitloftlaw31_ListReads_I : FnI Tryd.prog GT := { f := 12, cuts := [], tab := [list_Head_S (fun _ => true), bitloftref31_Head_S (fun _ => true), list_List_S (fun _ => true), bitloftref31_List_S (fun _ => true), list_Block_S (fun _ => true), bitloftref31_Block_S (fun _ => true), bitloftref28_Same_S (fun _ => true), bitloftref31_Same_S (fun _ => true), bitloftref27_Same_S (fun _ => true)], fm := ⟨true, [.val .bool []]⟩ }
noncomputable def bitloftlaw31_ListReads (a0 : List Int) (a1 : Int) : Option (Bool) := bitloftlaw31_ListReads_I.call [(.sl (.int .u8) false a0), (.int .i64 a1)] []
theorem bitloftlaw31_ListReads_eq (a0 : List Int) (a1 : Int) : bitloftlaw31_ListReads a0 a1 = (
  if (decide ((Int.ofNat (List.length a0)) > (3000 : Int))) = true then
    if (decide ((Int.ofNat (List.length a0)) ≤ (50000 : Int))) = true then
      some (true)
    else
      (list_Head a0).bind fun (r1 : (D_api_Settings × List D_api_Record × Int × Int)) =>
      (bitloftref31_Head (ofStr (toStr a0))).bind fun (r2 : (D_api_Settings × List D_api_Record × Int × Int)) =>
      (list_List a0).bind fun (r3 : (D_api_Listing × Int)) =>
      (bitloftref31_List (ofStr (toStr a0))).bind fun (r4 : (D_api_Listing × Int)) =>
      (list_Block a0 a1).bind fun (r5 : (D_api_Block × Int)) =>
      (bitloftref31_Block (ofStr (toStr a0)) a1).bind fun (r6 : (D_api_Block × Int)) =>
      if (peq T_api_Settings r1.1 r2.1) = true then
        (bitloftref28_Same r1.2.1 r2.2.1).bind fun (r7 : (Bool)) =>
        if r7 = true then
          if (r1.2.2.1 == r2.2.2.1) = true then
            if (r1.2.2.2 == r2.2.2.2) = true then
              (bitloftref31_Same r3.1 r4.1).bind fun (r8 : (Bool)) =>
              if r8 = true then
                if (r3.2 == r4.2) = true then
                  (bitloftref27_Same r5.1 r6.1).bind fun (r9 : (Bool)) =>
                  if r9 = true then
                    if (r5.2 == r6.2) = true then
                      some ((ByteArray.toList (toStr a0)) == (ByteArray.toList (toStr a0)))
                    else
                      some (false)
                  else
                    some (false)
                else
                  some (false)
              else
                some (false)
            else
              some (false)
          else
            some (false)
        else
          some (false)
      else
        some (false)
  else
    (list_Head a0).bind fun (r10 : (D_api_Settings × List D_api_Record × Int × Int)) =>
    (bitloftref31_Head (ofStr (toStr a0))).bind fun (r11 : (D_api_Settings × List D_api_Record × Int × Int)) =>
    (list_List a0).bind fun (r12 : (D_api_Listing × Int)) =>
    (bitloftref31_List (ofStr (toStr a0))).bind fun (r13 : (D_api_Listing × Int)) =>
    (list_Block a0 a1).bind fun (r14 : (D_api_Block × Int)) =>
    (bitloftref31_Block (ofStr (toStr a0)) a1).bind fun (r15 : (D_api_Block × Int)) =>
    if (peq T_api_Settings r10.1 r11.1) = true then
      (bitloftref28_Same r10.2.1 r11.2.1).bind fun (r16 : (Bool)) =>
      if r16 = true then
        if (r10.2.2.1 == r11.2.2.1) = true then
          if (r10.2.2.2 == r11.2.2.2) = true then
            (bitloftref31_Same r12.1 r13.1).bind fun (r17 : (Bool)) =>
            if r17 = true then
              if (r12.2 == r13.2) = true then
                (bitloftref27_Same r14.1 r15.1).bind fun (r18 : (Bool)) =>
                if r18 = true then
                  if (r14.2 == r15.2) = true then
                    some ((ByteArray.toList (toStr a0)) == (ByteArray.toList (toStr a0)))
                  else
                    some (false)
                else
                  some (false)
              else
                some (false)
            else
              some (false)
          else
            some (false)
        else
          some (false)
      else
        some (false)
    else
      some (false)) := (FnI.call_eq (by kernel_rfl)).trans (by kernel_rfl)
noncomputable def bitloftlaw31_ListReads_S (acc : List AV → Bool) : Summ Tryd.prog GT := bitloftlaw31_ListReads_I.summ mixed acc false false

/-! bitloft/bitloftref31.Same -/
noncomputable def bitloftref31_Same_v2_I : FnI Tryd.prog GT := { f := 69, cuts := [⟨(4, 3), [2, 3, 5], false⟩], tab := [bitloftref28_Same_S (fun _ => true)], fm := ⟨true, [.val .bool []]⟩ }
noncomputable def bitloftref31_Same_v2 (a0 : D_api_Listing) (a1a : D_api_Settings) (a1bbb : Unit) : Option (Bool) := bitloftref31_Same_v2_I.call [(.agg T_api_Listing (inj false T_api_Listing a0)), (.agg T_api_Listing ((inj false T_api_Settings a1a), (SV.nil, (SV.nil, a1bbb))))] []
noncomputable def bitloftref31_Same_v2_c1 (v5 : Int) (b8 : D_api_Listing) (b9a : D_api_Settings) (b9bbb : Unit) (h10 : List D_api_Record) (h11 : List D_api_BlockHead) : Option (Bool) := bitloftref31_Same_v2_I.sem ⟨[.code (cIn (cIn (cSnd (cFst (cSnd (cSnd (bodyOf Tryd.prog 69))))))), .inLoop (cIn (cIn (cSnd (cFst (cSnd (cSnd (bodyOf Tryd.prog 69))))))), .inBlock 0, .code (cSnd (cSnd (cSnd (bodyOf Tryd.prog 69))))], ⟨[(2, (.one (.ptr T_api_Listing 8 []))), (3, (.one (.ptr T_api_Listing 9 []))), (5, (.one (.int .i64 v5)))], [(8, some (.box T_api_Listing (inj false T_api_Listing b8))), (9, some (.box T_api_Listing ((inj false T_api_Settings b9a), ((SV.ref 10 0 (List.length h10) true), ((SV.ref 11 0 (List.length h11) true), b9bbb))))), (10, some (.row T_api_Record true h10)), (11, some (.row T_api_BlockHead true h11))], 12⟩⟩
theorem bitloftref31_Same_v2_eq (a0 : D_api_Listing) (a1a : D_api_Settings) (a1bbb : Unit) : bitloftref31_Same_v2 a0 a1a a1bbb = (
  if (not (peq T_api_Settings a0.1 a1a)) = true then
    some (false)
  else
    (bitloftref28_Same a0.2.1 []).bind fun (r1 : (Bool)) =>
    if (not r1) = true then
      some (false)
    else
      if ((Int.ofNat (List.length a0.2.2.1)) != (0 : Int)) = true then
        some (false)
      else
        bitloftref31_Same_v2_c1 (0 : Int) a0 a1a a1bbb [] []) := (FnI.call_eq (by kernel_rfl)).trans (by kernel_rfl)
theorem bitloftref31_Same_v2_c1_eq (v5 : Int) (b8 : D_api_Listing) (b9a : D_api_Settings) (b9bbb : Unit) (h10 : List D_api_Record) (h11 : List D_api_BlockHead) : bitloftref31_Same_v2_c1 v5 b8 b9a b9bbb h10 h11 = (
  if (decide (v5 < (Int.ofNat (List.length b8.2.2.1)))) = true then
    gd (0 ≤ v5) <|
    gd (v5 < (Int.ofNat (List.length b8.2.2.1))) <|
    gd (0 ≤ v5) <|
    gd (v5 < (Int.ofNat (List.length h11))) <|
    if (not (peq T_api_BlockHead (List.getD b8.2.2.1 (Int.toNat v5) (pzero T_api_BlockHead)) (List.getD h11 (0 + (Int.toNat v5)) (pzero T_api_BlockHead)))) = true then
      some (false)
    else
      bitloftref31_Same_v2_c1 (IntKind.wrap .i64 (v5 + (1 : Int))) b8 b9a b9bbb h10 h11
  else
    some (true)) := (FnI.sem_eq _).trans (by kernel_rfl)
noncomputable def bitloftref31_Same_v2_S (acc : List AV → Bool) : Summ Tryd.prog GT := bitloftref31_Same_v2_I.summ mixed acc false false

/-! bitloft/bitloftlaw31.alive -/
noncomputable def bitloftlaw31_alive_I : FnI Tryd.prog GT := { f := 70, cuts := [], tab := [bitloftref30_Bytes_S (fun _ => true), list_List_S (fun _ => true), list_Places_S (fun _ => true), bitloftref31_Same_v2_S (fun _ => true)], fm := ⟨true, [.val .bool []]⟩ }
noncomputable def bitloftlaw31_alive : Option (Bool) := bitloftlaw31_alive_I.call [] []
theorem bitloftlaw31_alive_eq : bitloftlaw31_alive = (
  (bitloftref30_Bytes ((2 : Int), ((16 : Int), ())) []).bind fun (r1 : (List Int)) =>
  (list_List r1).bind fun (r2 : (D_api_Listing × Int)) =>
  (list_Places r2.1).bind fun (r3 : (List Int × Int)) =>
  gd ((List.length ([] ++ r1)) * 1 ≤ 140737488355328) <|
  gd ((List.length (([] ++ r1) ++ [(0 : Int)])) * 1 ≤ 140737488355328) <|
  (list_List (([] ++ r1) ++ [(0 : Int)])).bind fun (r4 : (D_api_Listing × Int)) =>
  gd (0 ≤ (27 : Int)) <|
  gd ((27 : Int) ≤ (Int.ofNat (List.length r1))) <|
  (list_List (List.take 27 (List.drop 0 r1))).bind fun (r5 : (D_api_Listing × Int)) =>
  gd ((List.length ([] ++ r1)) * 1 ≤ 140737488355328) <|
  gd (0 ≤ (4 : Int)) <|
  gd ((4 : Int) < (Int.ofNat (List.length ([] ++ r1)))) <|
  (list_List (List.set ([] ++ r1) 4 (3 : Int))).bind fun (r6 : (D_api_Listing × Int)) =>
  if (r2.2 == (0 : Int)) = true then
    (bitloftref31_Same_v2 r2.1 ((2 : Int), ((16 : Int), ())) ()).bind fun (r7 : (Bool)) =>
    if r7 = true then
      if (r3.2 == (0 : Int)) = true then
        if ((Int.ofNat (List.length r3.1)) == (0 : Int)) = true then
          if (r4.2 == (12 : Int)) = true then
            if (r5.2 == (18 : Int)) = true then
              some (r6.2 == (22 : Int))
            else
              some (false)
          else
            some (false)
        else
          some (false)
      else
        some (false)
    else
      some (false)
  else
    some (false)) := (FnI.call_eq (by kernel_rfl)).trans (by kernel_rfl)
noncomputable def bitloftlaw31_alive_S (acc : List AV → Bool) : Summ Tryd.prog GT := bitloftlaw31_alive_I.summ mixed acc false false

/-! bitloft/bitloftlaw31.ListEnds -/
noncomputable def bitloftlaw31_ListEnds_I : FnI Tryd.prog GT := { f := 13, cuts := [], tab := [bitloftlaw31_alive_S (fun _ => true), list_List_S (fun _ => true)], fm := ⟨true, [.val .bool []]⟩ }
noncomputable def bitloftlaw31_ListEnds (a0 : List Int) (a1 : Int) (a2 : List Int) : Option (Bool) := bitloftlaw31_ListEnds_I.call [(.sl (.int .u8) false a0), (.int .i64 a1), (.sl (.int .u8) false a2)] []
theorem bitloftlaw31_ListEnds_eq (a0 : List Int) (a1 : Int) (a2 : List Int) : bitloftlaw31_ListEnds a0 a1 a2 = (
  (bitloftlaw31_alive).bind fun (r1 : (Bool)) =>
  if (decide ((Int.ofNat (List.length a0)) > (3000 : Int))) = true then
    some (r1)
  else
    if (decide ((Int.ofNat (List.length a2)) > (100 : Int))) = true then
      some (r1)
    else
      if (not r1) = true then
        some (r1)
      else
        (list_List a0).bind fun (r2 : (D_api_Listing × Int)) =>
        if (r2.2 != (0 : Int)) = true then
          some (r1)
        else
          if (decide (a1 ≥ (0 : Int))) = true then
            if (decide (a1 < (Int.ofNat (List.length a0)))) = true then
              gd (0 ≤ a1) <|
              gd (a1 ≤ (Int.ofNat (List.length a0))) <|
              (list_List (List.take (Int.toNat a1) a0)).bind fun (r3 : (D_api_Listing × Int)) =>
              if (r3.2 == (0 : Int)) = true then
                some (false)
              else
                gd ((List.length ([] ++ a0)) * 1 ≤ 140737488355328) <|
                gd ((List.length (([] ++ a0) ++ a2)) * 1 ≤ 140737488355328) <|
                (list_List (([] ++ a0) ++ a2)).bind fun (r4 : (D_api_Listing × Int)) =>
                if r1 = true then
                  some ((r4.2 == (0 : Int)) == ((Int.ofNat (List.length a2)) == (0 : Int)))
                else
                  some (false)
            else
              gd ((List.length ([] ++ a0)) * 1 ≤ 140737488355328) <|
              gd ((List.length (([] ++ a0) ++ a2)) * 1 ≤ 140737488355328) <|
              (list_List (([] ++ a0) ++ a2)).bind fun (r5 : (D_api_Listing × Int)) =>
              if r1 = true then
                some ((r5.2 == (0 : Int)) == ((Int.ofNat (List.length a2)) == (0 : Int)))
              else
                some (false)
          else
            gd ((List.length ([] ++ a0)) * 1 ≤ 140737488355328) <|
            gd ((List.length (([] ++ a0) ++ a2)) * 1 ≤ 140737488355328) <|
            (list_List (([] ++ a0) ++ a2)).bind fun (r6 : (D_api_Listing × Int)) =>
            if r1 = true then
              some ((r6.2 == (0 : Int)) == ((Int.ofNat (List.length a2)) == (0 : Int)))
            else
              some (false)) := (FnI.call_eq (by kernel_rfl)).trans (by kernel_rfl)
noncomputable def bitloftlaw31_ListEnds_S (acc : List AV → Bool) : Summ Tryd.prog GT := bitloftlaw31_ListEnds_I.summ mixed acc false false

/-! bitloft/bitloftlaw31.ListStands -/
noncomputable def bitloftlaw31_ListStands_I : FnI Tryd.prog GT := { f := 15, cuts := [⟨(13, 3), [0, 3, 4, 6, 12, 13], false⟩], tab := [bitloftlaw31_alive_S (fun _ => true), list_List_S (fun _ => true), list_Places_S (fun _ => true), list_Head_S (fun _ => true), list_Check_S (fun _ => true), bitloftref31_Check_S (fun _ => true), block_Read_S (fun _ => true), list_Block_S (fun _ => true), bitloftref27_Same_S (fun _ => true)], fm := ⟨true, [.val .bool []]⟩ }
noncomputable def bitloftlaw31_ListStands (a0 : List Int) : Option (Bool) := bitloftlaw31_ListStands_I.call [(.sl (.int .u8) false a0)] []
noncomputable def bitloftlaw31_ListStands_c1 (v0 : List Int) (v3 : Bool) (v12 : Int) (v13 : Int) (b8 : D_api_Listing) (h9 : List Int) : Option (Bool) := bitloftlaw31_ListStands_I.sem ⟨[.code (cIn (cIn (cSnd (cFst (cSnd (cSnd (cSnd (cSnd (cSnd (cSnd (cSnd (cSnd (cSnd (bodyOf Tryd.prog 15)))))))))))))), .inLoop (cIn (cIn (cSnd (cFst (cSnd (cSnd (cSnd (cSnd (cSnd (cSnd (cSnd (cSnd (cSnd (bodyOf Tryd.prog 15)))))))))))))), .inBlock 0, .code (cSnd (cSnd (cSnd (cSnd (cSnd (cSnd (cSnd (cSnd (cSnd (cSnd (bodyOf Tryd.prog 15)))))))))))], ⟨[(0, (.one (.sl (.int .u8) false v0))), (3, (.one (.bool v3))), (4, (.one (.ptr T_api_Listing 8 []))), (6, (.one (.ref (.int .i64) 9 0 (List.length h9) true))), (12, (.one (.int .i64 v12))), (13, (.one (.int .i64 v13)))], [(8, some (.box T_api_Listing (inj true T_api_Listing b8))), (9, some (.row (.int .i64) true h9))], 10⟩⟩
theorem bitloftlaw31_ListStands_eq (a0 : List Int) : bitloftlaw31_ListStands a0 = (
  (bitloftlaw31_alive).bind fun (r1 : (Bool)) =>
  if (decide ((Int.ofNat (List.length a0)) > (3000 : Int))) = true then
    some (r1)
  else
    if (not r1) = true then
      some (r1)
    else
      (list_List a0).bind fun (r2 : (D_api_Listing × Int)) =>
      if (r2.2 != (0 : Int)) = true then
        if r1 = true then
          if ((Int.ofNat (List.length r2.1.2.1)) == (0 : Int)) = true then
            some ((Int.ofNat (List.length r2.1.2.2.1)) == (0 : Int))
          else
            some (false)
        else
          some (false)
      else
        (list_Places r2.1).bind fun (r3 : (List Int × Int)) =>
        (list_Head a0).bind fun (r4 : (D_api_Settings × List D_api_Record × Int × Int)) =>
        (list_Check r2.1).bind fun (r5 : (Int)) =>
        if (r5 != (0 : Int)) = true then
          some (false)
        else
          (bitloftref31_Check r2.1).bind fun (r6 : (Int)) =>
          if (r6 != (0 : Int)) = true then
            some (false)
          else
            if (r3.2 != (0 : Int)) = true then
              some (false)
            else
              if (r4.2.2.2 != (0 : Int)) = true then
                some (false)
              else
                if ((Int.ofNat (List.length r3.1)) != (Int.ofNat (List.length r2.1.2.2.1))) = true then
                  some (false)
                else
                  bitloftlaw31_ListStands_c1 a0 r1 r4.2.2.1 (0 : Int) r2.1 r3.1) := (FnI.call_eq (by kernel_rfl)).trans (by kernel_rfl)
theorem bitloftlaw31_ListStands_c1_eq (v0 : List Int) (v3 : Bool) (v12 : Int) (v13 : Int) (b8 : D_api_Listing) (h9 : List Int) : bitloftlaw31_ListStands_c1 v0 v3 v12 v13 b8 h9 = (
  if (decide (v13 < (Int.ofNat (List.length h9)))) = true then
    gd (0 ≤ v13) <|
    gd (v13 < (Int.ofNat (List.length h9))) <|
    if ((List.getD h9 (0 + (Int.toNat v13)) (0 : Int)) != v12) = true then
      some (false)
    else
      if (decide (v12 < (0 : Int))) = true then
        some (false)
      else
        if (decide (v12 > (Int.ofNat (List.length v0)))) = true then
          some (false)
        else
          gd (0 ≤ v12) <|
          gd (v12 ≤ (Int.ofNat (List.length v0))) <|
          (block_Read (List.drop (Int.toNat v12) v0)).bind fun (r7 : (D_api_Block × Int × Int)) =>
          (list_Block v0 v13).bind fun (r8 : (D_api_Block × Int)) =>
          if (r7.2.2 != (0 : Int)) = true then
            some (false)
          else
            gd (0 ≤ v13) <|
            gd (v13 < (Int.ofNat (List.length b8.2.2.1))) <|
            if (not (peq T_api_BlockHead r7.1.1 (List.getD b8.2.2.1 (Int.toNat v13) (pzero T_api_BlockHead)))) = true then
              some (false)
            else
              if (r8.2 != (0 : Int)) = true then
                some (false)
              else
                (bitloftref27_Same r7.1 r8.1).bind fun (r9 : (Bool)) =>
                if (not r9) = true then
                  some (false)
                else
                  bitloftlaw31_ListStands_c1 v0 v3 (IntKind.wrap .i64 (v12 + r7.2.1)) (IntKind.wrap .i64 (v13 + (1 : Int))) b8 h9
  else
    if v3 = true then
      some (v12 == (Int.ofNat (List.length v0)))
    else
      some (false)) := (FnI.sem_eq _).trans (by kernel_rfl)
noncomputable def bitloftlaw31_ListStands_S (acc : List AV → Bool) : Summ Tryd.prog GT := bitloftlaw31_ListStands_I.summ mixed acc false false

/-! bitloft/bitloftref34.Great -/
noncomputable def bitloftref34_Great_I : FnI Tryd.prog GT := { f := 39, cuts := [⟨(2, 3), [0, 3], false⟩], tab := [], fm := ⟨true, [.val .bool []]⟩ }
noncomputable def bitloftref34_Great (a0 : List D_api_Found) : Option (Bool) := bitloftref34_Great_I.call [(.sl T_api_Found false a0)] []
noncomputable def bitloftref34_Great_c1 (v0 : List D_api_Found) (v3 : Int) : Option (Bool) := bitloftref34_Great_I.sem ⟨[.code (cIn (cIn (cSnd (cFst (cSnd (bodyOf Tryd.prog 39)))))), .inLoop (cIn (cIn (cSnd (cFst (cSnd (bodyOf Tryd.prog 39)))))), .inBlock 0, .code (cSnd (cSnd (bodyOf Tryd.prog 39)))], ⟨[(0, (.one (.sl T_api_Found false v0))), (3, (.one (.int .i64 v3)))], [], 8⟩⟩
theorem bitloftref34_Great_eq (a0 : List D_api_Found) : bitloftref34_Great a0 = (
  bitloftref34_Great_c1 a0 (0 : Int)) := (FnI.call_eq (by kernel_rfl)).trans (by kernel_rfl)
theorem bitloftref34_Great_c1_eq (v0 : List D_api_Found) (v3 : Int) : bitloftref34_Great_c1 v0 v3 = (
  if (decide (v3 < (Int.ofNat (List.length v0)))) = true then
    if (decide (v3 ≤ (30 : Int))) = true then
      gd (0 ≤ v3) <|
      gd (v3 < (Int.ofNat (List.length v0))) <|
      if (decide ((Int.ofNat (List.length (List.getD v0 (Int.toNat v3) (pzero T_api_Found)).2.2.1)) > (5000 : Int))) = true then
        some (true)
      else
        bitloftref34_Great_c1 v0 (IntKind.wrap .i64 (v3 + (1 : Int)))
    else
      if (decide ((Int.ofNat (List.length v0)) > (30 : Int))) = true then
        if (decide ((Int.ofNat (List.length v0)) ≤ (600 : Int))) = true then
          some (true)
        else
          some (decide ((Int.ofNat (List.length v0)) > (620 : Int)))
      else
        some (decide ((Int.ofNat (List.length v0)) > (620 : Int)))
  else
    if (decide ((Int.ofNat (List.length v0)) > (30 : Int))) = true then
      if (decide ((Int.ofNat (List.length v0)) ≤ (600 : Int))) = true then
        some (true)
      else
        some (decide ((Int.ofNat (List.length v0)) > (620 : Int)))
    else
      some (decide ((Int.ofNat (List.length v0)) > (620 : Int)))) := (FnI.sem_eq _).trans (by kernel_rfl)
noncomputable def bitloftref34_Great_S (acc : List AV → Bool) : Summ Tryd.prog GT := bitloftref34_Great_I.summ mixed acc false false

/-! bitloft/header.front -/
noncomputable def header_front_I : FnI Tryd.prog GT := { f := 117, cuts := [⟨(3, 3), [3, 18, 19], false⟩, ⟨(6, 7), [3, 4, 5, 18, 19, 25, 26], false⟩], tab := [], fm := ⟨true, [.val (.slice (.int .u8)) [.nw]]⟩ }
noncomputable def header_front (a0 : D_api_BlockHead) : Option (List Int) := header_front_I.call [(.agg T_api_BlockHead (inj false T_api_BlockHead a0))] []
noncomputable def header_front_c1 (v18 : (List Int)) (v19 : Int) (h8 : List Int) : Option (List Int) := header_front_I.sem ⟨[.code (cIn (cIn (cSnd (cFst (cSnd (cSnd (bodyOf Tryd.prog 117))))))), .inLoop (cIn (cIn (cSnd (cFst (cSnd (cSnd (bodyOf Tryd.prog 117))))))), .inBlock 0, .code (cSnd (cSnd (cSnd (bodyOf Tryd.prog 117))))], ⟨[(3, (.one (.ref (.int .u8) 8 0 (List.length h8) true))), (18, (.one (.agg (.arr 5 (.int .i64)) v18))), (19, (.one (.int .i64 v19)))], [(8, some (.row (.int .u8) true h8))], 9⟩⟩
noncomputable def header_front_c2 (v4 : Int) (v5 : Int) (v18 : (List Int)) (v19 : Int) (v25 : Int) (v26 : Int) (h8 : List Int) : Option (List Int) := header_front_I.sem ⟨[.code (cIn (cIn (cSnd (cSnd (cIn (cFst (cSnd (cSnd (cIn (cIn (cSnd (cFst (cSnd (cSnd (bodyOf Tryd.prog 117))))))))))))))), .inLoop (cIn (cIn (cSnd (cSnd (cIn (cFst (cSnd (cSnd (cIn (cIn (cSnd (cFst (cSnd (cSnd (bodyOf Tryd.prog 117))))))))))))))), .inBlock 2, .inBlock 1, .code (cSnd (cSnd (cSnd (cIn (cIn (cSnd (cFst (cSnd (cSnd (bodyOf Tryd.prog 117)))))))))), .inLoop (cIn (cIn (cSnd (cFst (cSnd (cSnd (bodyOf Tryd.prog 117))))))), .inBlock 0, .code (cSnd (cSnd (cSnd (bodyOf Tryd.prog 117))))], ⟨[(3, (.one (.ref (.int .u8) 8 0 (List.length h8) true))), (4, (.one (.int .i64 v4))), (5, (.one (.int .i64 v5))), (18, (.one (.agg (.arr 5 (.int .i64)) v18))), (19, (.one (.int .i64 v19))), (25, (.one (.int .i64 v25))), (26, (.one (.int .i64 v26)))], [(8, some (.row (.int .u8) true h8))], 9⟩⟩
theorem header_front_eq (a0 : D_api_BlockHead) : header_front a0 = (
  header_front_c1 (List.set (List.set (List.set (List.set (List.set (List.replicate 5 (0 : Int)) 0 (IntKind.wrap .i64 a0.1)) 1 a0.2.1) 2 a0.2.2.1) 3 a0.2.2.2.1) 4 a0.2.2.2.2.1) (0 : Int) []) := (FnI.call_eq (by kernel_rfl)).trans (by kernel_rfl)
theorem header_front_c1_eq (v18 : (List Int)) (v19 : Int) (h8 : List Int) : header_front_c1 v18 v19 h8 = (
  if (decide (v19 < (5 : Int))) = true then
    gd (0 ≤ v19) <|
    gd (v19 < (5 : Int)) <|
    gd (0 ≤ v19) <|
    gd (v19 < (5 : Int)) <|
    header_front_c2 v19 (List.getD v18 (Int.toNat v19) (0 : Int)) v18 v19 (List.getD G_widths (Int.toNat v19) (0 : Int)) (0 : Int) h8
  else
    some (h8)) := (FnI.sem_eq _).trans (by kernel_rfl)
theorem header_front_c2_eq (v4 : Int) (v5 : Int) (v18 : (List Int)) (v19 : Int) (v25 : Int) (v26 : Int) (h8 : List Int) : header_front_c2 v4 v5 v18 v19 v25 v26 h8 = (
  if (decide (v26 < v25)) = true then
    gd (0 ≤ v4) <|
    gd (v4 < (5 : Int)) <|
    gd (0 ≤ (IntKind.wrap .i64 ((8 : Int) * (IntKind.wrap .i64 ((IntKind.wrap .i64 ((List.getD G_widths (Int.toNat v4) (0 : Int)) - (1 : Int))) - v26))))) <|
    gd ((List.length (h8 ++ [(IntKind.wrap .u8 (shrBy .i64 v5 (IntKind.wrap .i64 ((8 : Int) * (IntKind.wrap .i64 ((IntKind.wrap .i64 ((List.getD G_widths (Int.toNat v4) (0 : Int)) - (1 : Int))) - v26))))))])) * 1 ≤ 140737488355328) <|
    header_front_c2 v4 v5 v18 v19 v25 (IntKind.wrap .i64 (v26 + (1 : Int))) (h8 ++ [(IntKind.wrap .u8 (shrBy .i64 v5 (IntKind.wrap .i64 ((8 : Int) * (IntKind.wrap .i64 ((IntKind.wrap .i64 ((List.getD G_widths (Int.toNat v4) (0 : Int)) - (1 : Int))) - v26))))))])
  else
    header_front_c1 v18 (IntKind.wrap .i64 (v19 + (1 : Int))) h8) := (FnI.sem_eq _).trans (by kernel_rfl)
noncomputable def header_front_S (acc : List AV → Bool) : Summ Tryd.prog GT := header_front_I.summ mixed acc false false

/-! bitloft/header.digest -/
noncomputable def header_digest_I : FnI Tryd.prog GT := { f := 154, cuts := [], tab := [header_front_S (fun _ => true), sha_Sum_S (fun _ => true)], fm := ⟨true, [.val (.arr 20 (.int .u8)) []]⟩ }
noncomputable def header_digest (a0 : D_api_BlockHead) (a1 : List Int) : Option ((List Int)) := header_digest_I.call [(.agg T_api_BlockHead (inj false T_api_BlockHead a0)), (.sl (.int .u8) false a1)] []
theorem header_digest_eq (a0 : D_api_BlockHead) (a1 : List Int) : header_digest a0 a1 = (
  (header_front a0).bind fun (r1 : (List Int)) =>
  gd ((List.length (r1 ++ a1)) * 1 ≤ 140737488355328) <|
  (sha_Sum (r1 ++ a1)).bind fun (r2 : ((List Int) × Int)) =>
  some (r2.1)) := (FnI.call_eq (by kernel_rfl)).trans (by kernel_rfl)
noncomputable def header_digest_S (acc : List AV → Bool) : Summ Tryd.prog GT := header_digest_I.summ mixed acc false false

/-! bitloft/header.Right -/
noncomputable def header_Right_I : FnI Tryd.prog GT := { f := 134, cuts := [], tab := [header_Check_S (fun _ => true), header_digest_S (fun _ => true)], fm := ⟨true, [.val .bool [], .val (.int .i64) []]⟩ }
noncomputable def header_Right (a0 : D_api_BlockHead) (a1 : List Int) : Option (Bool × Int) := header_Right_I.call [(.agg T_api_BlockHead (inj false T_api_BlockHead a0)), (.sl (.int .u8) false a1)] []
theorem header_Right_eq (a0 : D_api_BlockHead) (a1 : List Int) : header_Right a0 a1 = (
  (header_Check a0).bind fun (r1 : (Int)) =>
  if (r1 != (0 : Int)) = true then
    some (false, r1)
  else
    if ((Int.ofNat (List.length a1)) == a0.2.2.2.1) = true then
      (header_digest a0 a1).bind fun (r2 : ((List Int))) =>
      some ((peq (.arr 20 (.int .u8)) r2 a0.2.2.2.2.2.1), (0 : Int))
    else
      some (false, (0 : Int))) := (FnI.call_eq (by kernel_rfl)).trans (by kernel_rfl)
noncomputable def header_Right_S (acc : List AV → Bool) : Summ Tryd.prog GT := header_Right_I.summ mixed acc false false

/-! bitloft/salvage.check -/
noncomputable def salvage_check_I : FnI Tryd.prog GT := { f := 94, cuts := [⟨(7, 3), [18, 19, 20], false⟩], tab := [member_Valid_S (fun _ => true), header_Right_S (fun _ => true)], fm := ⟨true, [.val (.int .i64) []]⟩ }
noncomputable def salvage_check (a0 : List D_api_Record) (a1 : List D_api_Found) : Option (Int) := salvage_check_I.call [(.sl T_api_Record false a0), (.sl T_api_Found false a1)] []
noncomputable def salvage_check_c1 (v18 : List D_api_Found) (v19 : Int) (v20 : Int) : Option (Int) := salvage_check_I.sem ⟨[.code (cIn (cIn (cSnd (cFst (cSnd (cSnd (cSnd (bodyOf Tryd.prog 94)))))))), .inLoop (cIn (cIn (cSnd (cFst (cSnd (cSnd (cSnd (bodyOf Tryd.prog 94)))))))), .inBlock 0, .code (cSnd (cSnd (cSnd (cSnd (bodyOf Tryd.prog 94)))))], ⟨[(18, (.one (.sl T_api_Found false v18))), (19, (.one (.int .i64 v19))), (20, (.one (.int .i64 v20)))], [], 8⟩⟩
theorem salvage_check_eq (a0 : List D_api_Record) (a1 : List D_api_Found) : salvage_check a0 a1 = (
  (member_Valid a0).bind fun (r1 : (Int)) =>
  if (r1 != (0 : Int)) = true then
    some (r1)
  else
    if (decide ((Int.ofNat (List.length a1)) > (600 : Int))) = true then
      some (4 : Int)
    else
      salvage_check_c1 a1 (Int.ofNat (List.length a1)) (0 : Int)) := (FnI.call_eq (by kernel_rfl)).trans (by kernel_rfl)
theorem salvage_check_c1_eq (v18 : List D_api_Found) (v19 : Int) (v20 : Int) : salvage_check_c1 v18 v19 v20 = (
  if (decide (v20 < v19)) = true then
    gd (0 ≤ v20) <|
    gd (v20 < (Int.ofNat (List.length v18))) <|
    (header_Right (List.getD v18 (Int.toNat v20) (pzero T_api_Found)).2.1 (List.getD v18 (Int.toNat v20) (pzero T_api_Found)).2.2.1).bind fun (r2 : (Bool × Int)) =>
    if (not r2.1) = true then
      some (8 : Int)
    else
      if (decide ((List.getD v18 (Int.toNat v20) (pzero T_api_Found)).1 < (0 : Int))) = true then
        some (8 : Int)
      else
        salvage_check_c1 v18 v19 (IntKind.wrap .i64 (v20 + (1 : Int)))
  else
    some (0 : Int)) := (FnI.sem_eq _).trans (by kernel_rfl)
noncomputable def salvage_check_S (acc : List AV → Bool) : Summ Tryd.prog GT := salvage_check_I.summ mixed acc false false

/-! bitloft/salvage.Parts -/
noncomputable def salvage_Parts_I : FnI Tryd.prog GT := { f := 40, cuts := [], tab := [salvage_check_S (fun _ => true)], fm := ⟨true, [.val (.slice T_api_Part) [.nw], .val (.int .i64) []]⟩ }
noncomputable def salvage_Parts (a0 : List D_api_Record) (a1 : List D_api_Found) : Option (List D_api_Part × Int) := salvage_Parts_I.call [(.sl T_api_Record false a0), (.sl T_api_Found false a1)] []
theorem salvage_Parts_eq (a0 : List D_api_Record) (a1 : List D_api_Found) : salvage_Parts a0 a1 = (
  (salvage_check a0 a1).bind fun (r1 : (Int)) =>
  if (r1 != (0 : Int)) = true then
    some ([], r1)
  else
    none) := (FnI.call_eq (by kernel_rfl)).trans (by kernel_rfl)
noncomputable def salvage_Parts_S (acc : List AV → Bool) : Summ Tryd.prog GT := salvage_Parts_I.summ mixed acc false false

/-! bitloft/bitloftref26.two -/
noncomputable def bitloftref26_two_I : FnI Tryd.prog GT := { f := 164, cuts := [], tab := [], fm := ⟨true, [.val (.slice (.int .u8)) [.nw]]⟩ }
noncomputable def bitloftref26_two (a0 : Int) : Option (List Int) := bitloftref26_two_I.call [(.int .i64 a0)] []
theorem bitloftref26_two_eq (a0 : Int) : bitloftref26_two a0 = (
  gd (0 ≤ (8 : Int)) <|
  some ([(IntKind.wrap .u8 (Int.fdiv a0 (256 : Int))), (IntKind.wrap .u8 a0)])) := (FnI.call_eq (by kernel_rfl)).trans (by kernel_rfl)
noncomputable def bitloftref26_two_S (acc : List AV → Bool) : Summ Tryd.prog GT := bitloftref26_two_I.summ mixed acc false false

/-! bitloft/bitloftref26.Front -/
noncomputable def bitloftref26_Front_I : FnI Tryd.prog GT := { f := 150, cuts := [], tab := [bitloftref26_two_S (fun _ => true)], fm := ⟨true, [.val (.slice (.int .u8)) [.nw]]⟩ }
noncomputable def bitloftref26_Front (a0 : D_api_BlockHead) : Option (List Int) := bitloftref26_Front_I.call [(.agg T_api_BlockHead (inj false T_api_BlockHead a0))] []
theorem bitloftref26_Front_eq (a0 : D_api_BlockHead) : bitloftref26_Front a0 = (
  (bitloftref26_two a0.2.2.1).bind fun (r1 : (List Int)) =>
  gd ((List.length ([a0.1, (IntKind.wrap .u8 a0.2.1)] ++ r1)) * 1 ≤ 140737488355328) <|
  (bitloftref26_two a0.2.2.2.1).bind fun (r2 : (List Int)) =>
  gd ((List.length (([a0.1, (IntKind.wrap .u8 a0.2.1)] ++ r1) ++ r2)) * 1 ≤ 140737488355328) <|
  (bitloftref26_two a0.2.2.2.2.1).bind fun (r3 : (List Int)) =>
  gd ((List.length ((([a0.1, (IntKind.wrap .u8 a0.2.1)] ++ r1) ++ r2) ++ r3)) * 1 ≤ 140737488355328) <|
  some ((([a0.1, (IntKind.wrap .u8 a0.2.1)] ++ r1) ++ r2) ++ r3)) := (FnI.call_eq (by kernel_rfl)).trans (by kernel_rfl)
noncomputable def bitloftref26_Front_S (acc : List AV → Bool) : Summ Tryd.prog GT := bitloftref26_Front_I.summ mixed acc false false

/-! bitloft/bitloftref26.Of -/
noncomputable def bitloftref26_Of_I : FnI Tryd.prog GT := { f := 149, cuts := [], tab := [bitloftref26_Front_S (fun _ => true), bitloftref01_Of_S (fun _ => true)], fm := ⟨true, [.val (.arr 20 (.int .u8)) []]⟩ }
noncomputable def bitloftref26_Of (a0 : D_api_BlockHead) (a1 : List Int) : Option ((List Int)) := bitloftref26_Of_I.call [(.agg T_api_BlockHead (inj false T_api_BlockHead a0)), (.sl (.int .u8) false a1)] []
theorem bitloftref26_Of_eq (a0 : D_api_BlockHead) (a1 : List Int) : bitloftref26_Of a0 a1 = (
  (bitloftref26_Front a0).bind fun (r1 : (List Int)) =>
  gd ((List.length (r1 ++ a1)) * 1 ≤ 140737488355328) <|
  (bitloftref01_Of (r1 ++ a1)).bind fun (r2 : ((List Int))) =>
  some (r2)) := (FnI.call_eq (by kernel_rfl)).trans (by kernel_rfl)
noncomputable def bitloftref26_Of_S (acc : List AV → Bool) : Summ Tryd.prog GT := bitloftref26_Of_I.summ mixed acc false false

/-! bitloft/bitloftref26.Right -/
noncomputable def bitloftref26_Right_I : FnI Tryd.prog GT := { f := 155, cuts := [], tab := [bitloftref26_Check_S (fun _ => true), bitloftref26_Of_S (fun _ => true)], fm := ⟨true, [.val .bool [], .val (.int .i64) []]⟩ }
noncomputable def bitloftref26_Right (a0 : D_api_BlockHead) (a1 : List Int) : Option (Bool × Int) := bitloftref26_Right_I.call [(.agg T_api_BlockHead (inj false T_api_BlockHead a0)), (.sl (.int .u8) false a1)] []
theorem bitloftref26_Right_eq (a0 : D_api_BlockHead) (a1 : List Int) : bitloftref26_Right a0 a1 = (
  (bitloftref26_Check a0).bind fun (r1 : (Int)) =>
  if (r1 != (0 : Int)) = true then
    (bitloftref26_Check a0).bind fun (r2 : (Int)) =>
    some (false, r2)
  else
    if ((Int.ofNat (List.length a1)) == a0.2.2.2.1) = true then
      (bitloftref26_Of a0 a1).bind fun (r3 : ((List Int))) =>
      some ((peq (.arr 20 (.int .u8)) r3 a0.2.2.2.2.2.1), (0 : Int))
    else
      some (false, (0 : Int))) := (FnI.call_eq (by kernel_rfl)).trans (by kernel_rfl)
noncomputable def bitloftref26_Right_S (acc : List AV → Bool) : Summ Tryd.prog GT := bitloftref26_Right_I.summ mixed acc false false

/-! bitloft/bitloftref34.valid -/
noncomputable def bitloftref34_valid_I : FnI Tryd.prog GT := { f := 135, cuts := [], tab := [bitloftref26_Right_S (fun _ => true)], fm := ⟨true, [.val .bool []]⟩ }
noncomputable def bitloftref34_valid (a0 : D_api_Found) : Option (Bool) := bitloftref34_valid_I.call [(.agg T_api_Found (inj false T_api_Found a0))] []
theorem bitloftref34_valid_eq (a0 : D_api_Found) : bitloftref34_valid a0 = (
  (bitloftref26_Right a0.2.1 a0.2.2.1).bind fun (r1 : (Bool × Int)) =>
  if (decide (a0.1 ≥ (0 : Int))) = true then
    if (r1.2 == (0 : Int)) = true then
      some (r1.1)
    else
      some (false)
  else
    some (false)) := (FnI.call_eq (by kernel_rfl)).trans (by kernel_rfl)
noncomputable def bitloftref34_valid_S (acc : List AV → Bool) : Summ Tryd.prog GT := bitloftref34_valid_I.summ mixed acc false false

/-! bitloft/bitloftref34.Asked -/
noncomputable def bitloftref34_Asked_I : FnI Tryd.prog GT := { f := 96, cuts := [⟨(6, 3), [1, 5], false⟩], tab := [bitloftref28_Valid_S (fun _ => true), bitloftref34_valid_S (fun _ => true)], fm := ⟨true, [.val (.int .i64) []]⟩ }
noncomputable def bitloftref34_Asked (a0 : List D_api_Record) (a1 : List D_api_Found) : Option (Int) := bitloftref34_Asked_I.call [(.sl T_api_Record false a0), (.sl T_api_Found false a1)] []
noncomputable def bitloftref34_Asked_c1 (v1 : List D_api_Found) (v5 : Int) : Option (Int) := bitloftref34_Asked_I.sem ⟨[.code (cIn (cIn (cSnd (cFst (cSnd (cSnd (cSnd (bodyOf Tryd.prog 96)))))))), .inLoop (cIn (cIn (cSnd (cFst (cSnd (cSnd (cSnd (bodyOf Tryd.prog 96)))))))), .inBlock 0, .code (cSnd (cSnd (cSnd (cSnd (bodyOf Tryd.prog 96)))))], ⟨[(1, (.one (.sl T_api_Found false v1))), (5, (.one (.int .i64 v5)))], [], 8⟩⟩
theorem bitloftref34_Asked_eq (a0 : List D_api_Record) (a1 : List D_api_Found) : bitloftref34_Asked a0 a1 = (
  (bitloftref28_Valid a0).bind fun (r1 : (Int)) =>
  if (r1 != (0 : Int)) = true then
    (bitloftref28_Valid a0).bind fun (r2 : (Int)) =>
    some (r2)
  else
    if (decide ((Int.ofNat (List.length a1)) > (600 : Int))) = true then
      some (4 : Int)
    else
      bitloftref34_Asked_c1 a1 (0 : Int)) := (FnI.call_eq (by kernel_rfl)).trans (by kernel_rfl)
theorem bitloftref34_Asked_c1_eq (v1 : List D_api_Found) (v5 : Int) : bitloftref34_Asked_c1 v1 v5 = (
  if (decide (v5 < (Int.ofNat (List.length v1)))) = true then
    gd (0 ≤ v5) <|
    gd (v5 < (Int.ofNat (List.length v1))) <|
    (bitloftref34_valid (List.getD v1 (Int.toNat v5) (pzero T_api_Found))).bind fun (r3 : (Bool)) =>
    if (not r3) = true then
      some (8 : Int)
    else
      bitloftref34_Asked_c1 v1 (IntKind.wrap .i64 (v5 + (1 : Int)))
  else
    some (0 : Int)) := (FnI.sem_eq _).trans (by kernel_rfl)
noncomputable def bitloftref34_Asked_S (acc : List AV → Bool) : Summ Tryd.prog GT := bitloftref34_Asked_I.summ mixed acc false false

/-! bitloft/bitloftref34.Part -/
noncomputable def bitloftref34_Part_I : FnI Tryd.prog GT := { f := 97, cuts := [], tab := [], fm := ⟨true, [.val T_api_Part []]⟩ }
noncomputable def bitloftref34_Part (a0 : D_api_Found) : Option (D_api_Part) := bitloftref34_Part_I.call [(.agg T_api_Found (inj false T_api_Found a0))] []
theorem bitloftref34_Part_eq (a0 : D_api_Found) : bitloftref34_Part a0 = (
  gd ((List.length ([] ++ a0.2.2.1)) * 1 ≤ 140737488355328) <|
  some ((a0.2.1.2.1, (a0.2.1.2.2.1, (a0.2.1.2.2.2.1, ()))), (([] ++ a0.2.2.1), ()))) := (FnI.call_eq (by kernel_rfl)).trans (by kernel_rfl)
noncomputable def bitloftref34_Part_S (acc : List AV → Bool) : Summ Tryd.prog GT := bitloftref34_Part_I.summ mixed acc false false

/-! bitloft/bitloftref34.sizes -/
noncomputable def bitloftref34_sizes_I : FnI Tryd.prog GT := { f := 99, cuts := [⟨(3, 3), [0, 3, 4], false⟩], tab := [], fm := ⟨true, [.val (.slice (.int .i64)) [.nw]]⟩ }
noncomputable def bitloftref34_sizes (a0 : List D_api_Record) : Option (List Int) := bitloftref34_sizes_I.call [(.sl T_api_Record false a0)] []
noncomputable def bitloftref34_sizes_c1 (v0 : List D_api_Record) (v4 : Int) (h8 : List Int) : Option (List Int) := bitloftref34_sizes_I.sem ⟨[.code (cIn (cIn (cSnd (cFst (cSnd (cSnd (bodyOf Tryd.prog 99))))))), .inLoop (cIn (cIn (cSnd (cFst (cSnd (cSnd (bodyOf Tryd.prog 99))))))), .inBlock 0, .code (cSnd (cSnd (cSnd (bodyOf Tryd.prog 99))))], ⟨[(0, (.one (.sl T_api_Record false v0))), (3, (.one (.ref (.int .i64) 8 0 (List.length h8) true))), (4, (.one (.int .i64 v4)))], [(8, some (.row (.int .i64) true h8))], 9⟩⟩
theorem bitloftref34_sizes_eq (a0 : List D_api_Record) : bitloftref34_sizes a0 = (
  bitloftref34_sizes_c1 a0 (0 : Int) []) := (FnI.call_eq (by kernel_rfl)).trans (by kernel_rfl)
theorem bitloftref34_sizes_c1_eq (v0 : List D_api_Record) (v4 : Int) (h8 : List Int) : bitloftref34_sizes_c1 v0 v4 h8 = (
  if (decide (v4 < (Int.ofNat (List.length v0)))) = true then
    gd (0 ≤ v4) <|
    gd (v4 < (Int.ofNat (List.length v0))) <|
    gd ((List.length (h8 ++ [(List.getD v0 (Int.toNat v4) (pzero T_api_Record)).2.1])) * 8 ≤ 140737488355328) <|
    bitloftref34_sizes_c1 v0 (IntKind.wrap .i64 (v4 + (1 : Int))) (h8 ++ [(List.getD v0 (Int.toNat v4) (pzero T_api_Record)).2.1])
  else
    some (h8)) := (FnI.sem_eq _).trans (by kernel_rfl)
noncomputable def bitloftref34_sizes_S (acc : List AV → Bool) : Summ Tryd.prog GT := bitloftref34_sizes_I.summ mixed acc false false

/-! bitloft/bitloftref29.Within -/
noncomputable def bitloftref29_Within_I : FnI Tryd.prog GT := { f := 98, cuts := [], tab := [], fm := ⟨true, [.val .bool []]⟩ }
noncomputable def bitloftref29_Within (a0 : List Int) (a1 : D_api_Piece) : Option (Bool) := bitloftref29_Within_I.call [(.sl (.int .i64) false a0), (.agg T_api_Piece (inj false T_api_Piece a1))] []
theorem bitloftref29_Within_eq (a0 : List Int) (a1 : D_api_Piece) : bitloftref29_Within a0 a1 = (
  if (decide (a1.1 ≥ (0 : Int))) = true then
    if (decide (a1.1 < (Int.ofNat (List.length a0)))) = true then
      if (decide (a1.2.1 ≥ (0 : Int))) = true then
        if (decide (a1.2.2.1 ≥ (1 : Int))) = true then
          gd (0 ≤ a1.1) <|
          gd (a1.1 < (Int.ofNat (List.length a0))) <|
          if (decide (a1.2.2.1 ≤ (List.getD a0 (Int.toNat a1.1) (0 : Int)))) = true then
            gd (0 ≤ a1.1) <|
            gd (a1.1 < (Int.ofNat (List.length a0))) <|
            some (decide (a1.2.1 ≤ (IntKind.wrap .i64 ((List.getD a0 (Int.toNat a1.1) (0 : Int)) - a1.2.2.1))))
          else
            some (false)
        else
          some (false)
      else
        some (false)
    else
      some (false)
  else
    some (false)) := (FnI.call_eq (by kernel_rfl)).trans (by kernel_rfl)
noncomputable def bitloftref29_Within_S (acc : List AV → Bool) : Summ Tryd.prog GT := bitloftref29_Within_I.summ mixed acc false false

/-! bitloft/bitloftref34.agrees -/
noncomputable def bitloftref34_agrees_I : FnI Tryd.prog GT := { f := 100, cuts := [⟨(2, 3), [0, 3, 5], false⟩, ⟨(5, 7), [0, 3, 5, 6], false⟩], tab := [], fm := ⟨true, [.val .bool []]⟩ }
noncomputable def bitloftref34_agrees (a0 : List D_api_Part) (a1 : D_api_Part) : Option (Bool) := bitloftref34_agrees_I.call [(.sl T_api_Part false a0), (.agg T_api_Part (inj false T_api_Part a1))] []
noncomputable def bitloftref34_agrees_c1 (v0 : List D_api_Part) (v5 : Int) (b8 : D_api_Part) : Option (Bool) := bitloftref34_agrees_I.sem ⟨[.code (cIn (cIn (cSnd (cFst (cSnd (bodyOf Tryd.prog 100)))))), .inLoop (cIn (cIn (cSnd (cFst (cSnd (bodyOf Tryd.prog 100)))))), .inBlock 0, .code (cSnd (cSnd (bodyOf Tryd.prog 100)))], ⟨[(0, (.one (.sl T_api_Part false v0))), (3, (.one (.ptr T_api_Part 8 []))), (5, (.one (.int .i64 v5)))], [(8, some (.box T_api_Part (inj false T_api_Part b8)))], 9⟩⟩
noncomputable def bitloftref34_agrees_c2 (v0 : List D_api_Part) (v5 : Int) (v6 : Int) (b8 : D_api_Part) : Option (Bool) := bitloftref34_agrees_I.sem ⟨[.code (cIn (cIn (cSnd (cIn (cFst (cSnd (cIn (cIn (cSnd (cFst (cSnd (bodyOf Tryd.prog 100)))))))))))), .inLoop (cIn (cIn (cSnd (cIn (cFst (cSnd (cIn (cIn (cSnd (cFst (cSnd (bodyOf Tryd.prog 100)))))))))))), .inBlock 2, .inBlock 1, .code (cSnd (cSnd (cIn (cIn (cSnd (cFst (cSnd (bodyOf Tryd.prog 100)))))))), .inLoop (cIn (cIn (cSnd (cFst (cSnd (bodyOf Tryd.prog 100)))))), .inBlock 0, .code (cSnd (cSnd (bodyOf Tryd.prog 100)))], ⟨[(0, (.one (.sl T_api_Part false v0))), (3, (.one (.ptr T_api_Part 8 []))), (5, (.one (.int .i64 v5))), (6, (.one (.int .i64 v6)))], [(8, some (.box T_api_Part (inj false T_api_Part b8)))], 9⟩⟩
theorem bitloftref34_agrees_eq (a0 : List D_api_Part) (a1 : D_api_Part) : bitloftref34_agrees a0 a1 = (
  bitloftref34_agrees_c1 a0 (0 : Int) a1) := (FnI.call_eq (by kernel_rfl)).trans (by kernel_rfl)
theorem bitloftref34_agrees_c1_eq (v0 : List D_api_Part) (v5 : Int) (b8 : D_api_Part) : bitloftref34_agrees_c1 v0 v5 b8 = (
  if (decide (v5 < (Int.ofNat (List.length v0)))) = true then
    bitloftref34_agrees_c2 v0 v5 (0 : Int) b8
  else
    some (true)) := (FnI.sem_eq _).trans (by kernel_rfl)
theorem bitloftref34_agrees_c2_eq (v0 : List D_api_Part) (v5 : Int) (v6 : Int) (b8 : D_api_Part) : bitloftref34_agrees_c2 v0 v5 v6 b8 = (
  if (decide (v6 < (Int.ofNat (List.length b8.2.1)))) = true then
    gd (0 ≤ v5) <|
    gd (v5 < (Int.ofNat (List.length v0))) <|
    if ((List.getD v0 (Int.toNat v5) (pzero T_api_Part)).1.1 == b8.1.1) = true then
      gd (0 ≤ v5) <|
      gd (v5 < (Int.ofNat (List.length v0))) <|
      if (decide ((IntKind.wrap .i64 ((IntKind.wrap .i64 (b8.1.2.1 + v6)) - (List.getD v0 (Int.toNat v5) (pzero T_api_Part)).1.2.1)) ≥ (0 : Int))) = true then
        gd (0 ≤ v5) <|
        gd (v5 < (Int.ofNat (List.length v0))) <|
        if (decide ((IntKind.wrap .i64 ((IntKind.wrap .i64 (b8.1.2.1 + v6)) - (List.getD v0 (Int.toNat v5) (pzero T_api_Part)).1.2.1)) < (Int.ofNat (List.length (List.getD v0 (Int.toNat v5) (pzero T_api_Part)).2.1)))) = true then
          gd (0 ≤ v5) <|
          gd (v5 < (Int.ofNat (List.length v0))) <|
          gd (0 ≤ (IntKind.wrap .i64 ((IntKind.wrap .i64 (b8.1.2.1 + v6)) - (List.getD v0 (Int.toNat v5) (pzero T_api_Part)).1.2.1))) <|
          gd ((IntKind.wrap .i64 ((IntKind.wrap .i64 (b8.1.2.1 + v6)) - (List.getD v0 (Int.toNat v5) (pzero T_api_Part)).1.2.1)) < (Int.ofNat (List.length (List.getD v0 (Int.toNat v5) (pzero T_api_Part)).2.1))) <|
          gd (0 ≤ v6) <|
          gd (v6 < (Int.ofNat (List.length b8.2.1))) <|
          if ((List.getD (List.getD v0 (Int.toNat v5) (pzero T_api_Part)).2.1 (Int.toNat (IntKind.wrap .i64 ((IntKind.wrap .i64 (b8.1.2.1 + v6)) - (List.getD v0 (Int.toNat v5) (pzero T_api_Part)).1.2.1))) (0 : Int)) != (List.getD b8.2.1 (Int.toNat v6) (0 : Int))) = true then
            some (false)
          else
            bitloftref34_agrees_c2 v0 v5 (IntKind.wrap .i64 (v6 + (1 : Int))) b8
        else
          bitloftref34_agrees_c2 v0 v5 (IntKind.wrap .i64 (v6 + (1 : Int))) b8
      else
        bitloftref34_agrees_c2 v0 v5 (IntKind.wrap .i64 (v6 + (1 : Int))) b8
    else
      bitloftref34_agrees_c1 v0 (IntKind.wrap .i64 (v5 + (1 : Int))) b8
  else
    bitloftref34_agrees_c1 v0 (IntKind.wrap .i64 (v5 + (1 : Int))) b8) := (FnI.sem_eq _).trans (by kernel_rfl)
noncomputable def bitloftref34_agrees_S (acc : List AV → Bool) : Summ Tryd.prog GT := bitloftref34_agrees_I.summ mixed acc false false

/-! bitloft/bitloftref34.Parts -/
noncomputable def bitloftref34_Parts_I : FnI Tryd.prog GT := { f := 41, cuts := [⟨(6, 3), [0, 1, 7, 8], false⟩], tab := [bitloftref34_Asked_S (fun _ => true), bitloftref34_Part_S (fun _ => true), bitloftref34_sizes_S (fun _ => true), bitloftref29_Within_S (fun _ => true), bitloftref34_agrees_S (fun _ => true)], fm := ⟨true, [.val (.slice T_api_Part) [.nw], .val (.int .i64) []]⟩ }
noncomputable def bitloftref34_Parts (a0 : List D_api_Record) (a1 : List D_api_Found) : Option (List D_api_Part × Int) := bitloftref34_Parts_I.call [(.sl T_api_Record false a0), (.sl T_api_Found false a1)] []
noncomputable def bitloftref34_Parts_c1 (v0 : List D_api_Record) (v1 : List D_api_Found) (v8 : Int) (h8 : List D_api_Part) : Option (List D_api_Part × Int) := bitloftref34_Parts_I.sem ⟨[.code (cIn (cIn (cSnd (cFst (cSnd (cSnd (cSnd (bodyOf Tryd.prog 41)))))))), .inLoop (cIn (cIn (cSnd (cFst (cSnd (cSnd (cSnd (bodyOf Tryd.prog 41)))))))), .inBlock 0, .code (cSnd (cSnd (cSnd (cSnd (bodyOf Tryd.prog 41)))))], ⟨[(0, (.one (.sl T_api_Record false v0))), (1, (.one (.sl T_api_Found false v1))), (7, (.one (.ref T_api_Part 8 0 (List.length h8) true))), (8, (.one (.int .i64 v8)))], [(8, some (.row T_api_Part true h8))], 9⟩⟩
theorem bitloftref34_Parts_eq (a0 : List D_api_Record) (a1 : List D_api_Found) : bitloftref34_Parts a0 a1 = (
  (bitloftref34_Asked a0 a1).bind fun (r1 : (Int)) =>
  if (r1 != (0 : Int)) = true then
    some ([], r1)
  else
    bitloftref34_Parts_c1 a0 a1 (0 : Int) []) := (FnI.call_eq (by kernel_rfl)).trans (by kernel_rfl)
theorem bitloftref34_Parts_c1_eq (v0 : List D_api_Record) (v1 : List D_api_Found) (v8 : Int) (h8 : List D_api_Part) : bitloftref34_Parts_c1 v0 v1 v8 h8 = (
  if (decide (v8 < (Int.ofNat (List.length v1)))) = true then
    gd (0 ≤ v8) <|
    gd (v8 < (Int.ofNat (List.length v1))) <|
    (bitloftref34_Part (List.getD v1 (Int.toNat v8) (pzero T_api_Found))).bind fun (r2 : (D_api_Part)) =>
    (bitloftref34_sizes v0).bind fun (r3 : (List Int)) =>
    (bitloftref29_Within r3 r2.1).bind fun (r4 : (Bool)) =>
    if r4 = true then
      (bitloftref34_agrees h8 r2).bind fun (r5 : (Bool)) =>
      if r5 = true then
        gd ((List.length (h8 ++ [r2])) * 48 ≤ 140737488355328) <|
        bitloftref34_Parts_c1 v0 v1 (IntKind.wrap .i64 (v8 + (1 : Int))) (h8 ++ [r2])
      else
        bitloftref34_Parts_c1 v0 v1 (IntKind.wrap .i64 (v8 + (1 : Int))) h8
    else
      bitloftref34_Parts_c1 v0 v1 (IntKind.wrap .i64 (v8 + (1 : Int))) h8
  else
    some (h8, (0 : Int))) := (FnI.sem_eq _).trans (by kernel_rfl)
noncomputable def bitloftref34_Parts_S (acc : List AV → Bool) : Summ Tryd.prog GT := bitloftref34_Parts_I.summ mixed acc false false

/-! bitloft/salvage.Rebuild -/
noncomputable def salvage_Rebuild_I : FnI Tryd.prog GT := { f := 42, cuts := [⟨(8, 3), [7, 9, 10, 11, 30, 31, 32], false⟩, ⟨(13, 8), [7, 9, 10, 11, 12, 13, 14, 30, 31, 32, 41, 42, 43], false⟩, ⟨(18, 12), [7, 9, 10, 11, 12, 13, 14, 16, 30, 31, 32, 41, 42, 43, 62, 63], false⟩], tab := [salvage_Parts_S (fun _ => true), sha_Sum_S (fun _ => true)], fm := ⟨true, [.val (.slice T_api_Member) [.nw], .val (.slice .bool) [.nw], .val (.int .i64) []]⟩ }
noncomputable def salvage_Rebuild (a0 : List D_api_Record) (a1 : List D_api_Found) : Option (List D_api_Member × List Bool × Int) := salvage_Rebuild_I.call [(.sl T_api_Record false a0), (.sl T_api_Found false a1)] []
noncomputable def salvage_Rebuild_c1 (v30 : List D_api_Record) (v31 : Int) (v32 : Int) (h8 : List D_api_Part) (h9 : List D_api_Member) (h10 : List Bool) (m11 : List (Int × Bool)) : Option (List D_api_Member × List Bool × Int) := salvage_Rebuild_I.sem ⟨[.code (cIn (cIn (cSnd (cFst (cSnd (cSnd (cSnd (cSnd (cSnd (cSnd (bodyOf Tryd.prog 42))))))))))), .inLoop (cIn (cIn (cSnd (cFst (cSnd (cSnd (cSnd (cSnd (cSnd (cSnd (bodyOf Tryd.prog 42))))))))))), .inBlock 0, .code (cSnd (cSnd (cSnd (cSnd (cSnd (cSnd (cSnd (bodyOf Tryd.prog 42))))))))], ⟨[(7, (.one (.ref T_api_Part 8 0 (List.length h8) true))), (9, (.one (.ref T_api_Member 9 0 (List.length h9) true))), (10, (.one (.ref .bool 10 0 (List.length h10) true))), (11, (.one (.mapr 11))), (30, (.one (.sl T_api_Record false v30))), (31, (.one (.int .i64 v31))), (32, (.one (.int .i64 v32)))], [(8, some (.row T_api_Part true h8)), (9, some (.row T_api_Member true h9)), (10, some (.row .bool true h10)), (11, some (.map (.int .i64) .bool m11))], 12⟩⟩
noncomputable def salvage_Rebuild_c2 (v12 : Int) (v30 : List D_api_Record) (v31 : Int) (v32 : Int) (v42 : Int) (v43 : Int) (h8 : List D_api_Part) (h9 : List D_api_Member) (h10 : List Bool) (m11 : List (Int × Bool)) (b12 : D_api_Record) (h13 : List Int) : Option (List D_api_Member × List Bool × Int) := salvage_Rebuild_I.sem ⟨[.code (cIn (cIn (cSnd (cFst (cSnd (cSnd (cSnd (cIn (cFst (cSnd (cSnd (cIn (cIn (cSnd (cFst (cSnd (cSnd (cSnd (cSnd (cSnd (cSnd (bodyOf Tryd.prog 42)))))))))))))))))))))), .inLoop (cIn (cIn (cSnd (cFst (cSnd (cSnd (cSnd (cIn (cFst (cSnd (cSnd (cIn (cIn (cSnd (cFst (cSnd (cSnd (cSnd (cSnd (cSnd (cSnd (bodyOf Tryd.prog 42)))))))))))))))))))))), .inBlock 2, .code (cSnd (cSnd (cSnd (cSnd (cIn (cFst (cSnd (cSnd (cIn (cIn (cSnd (cFst (cSnd (cSnd (cSnd (cSnd (cSnd (cSnd (bodyOf Tryd.prog 42))))))))))))))))))), .inBlock 1, .code (cSnd (cSnd (cSnd (cIn (cIn (cSnd (cFst (cSnd (cSnd (cSnd (cSnd (cSnd (cSnd (bodyOf Tryd.prog 42)))))))))))))), .inLoop (cIn (cIn (cSnd (cFst (cSnd (cSnd (cSnd (cSnd (cSnd (cSnd (bodyOf Tryd.prog 42))))))))))), .inBlock 0, .code (cSnd (cSnd (cSnd (cSnd (cSnd (cSnd (cSnd (bodyOf Tryd.prog 42))))))))], ⟨[(7, (.one (.ref T_api_Part 8 0 (List.length h8) true))), (9, (.one (.ref T_api_Member 9 0 (List.length h9) true))), (10, (.one (.ref .bool 10 0 (List.length h10) true))), (11, (.one (.mapr 11))), (12, (.one (.int .i64 v12))), (13, (.one (.ptr T_api_Record 12 []))), (14, (.one (.ref (.int .u8) 13 0 (List.length h13) true))), (30, (.one (.sl T_api_Record false v30))), (31, (.one (.int .i64 v31))), (32, (.one (.int .i64 v32))), (41, (.one (.ref T_api_Part 8 0 (List.length h8) true))), (42, (.one (.int .i64 v42))), (43, (.one (.int .i64 v43)))], [(8, some (.row T_api_Part true h8)), (9, some (.row T_api_Member true h9)), (10, some (.row .bool true h10)), (11, some (.map (.int .i64) .bool m11)), (12, some (.box T_api_Record (inj false T_api_Record b12))), (13, some (.row (.int .u8) true h13))], 14⟩⟩
noncomputable def salvage_Rebuild_c3 (v12 : Int) (v30 : List D_api_Record) (v31 : Int) (v32 : Int) (v42 : Int) (v43 : Int) (v62 : Int) (v63 : Int) (h8 : List D_api_Part) (h9 : List D_api_Member) (h10 : List Bool) (m11 : List (Int × Bool)) (b12 : D_api_Record) (h13 : List Int) (b14 : D_api_Part) : Option (List D_api_Member × List Bool × Int) := salvage_Rebuild_I.sem ⟨[.code (cIn (cIn (cSnd (cSnd (cSnd (cSnd (cIn (cFst (cSnd (cSnd (cIn (cIn (cSnd (cFst (cSnd (cSnd (cSnd (cIn (cFst (cSnd (cSnd (cIn (cIn (cSnd (cFst (cSnd (cSnd (cSnd (cSnd (cSnd (cSnd (bodyOf Tryd.prog 42)))))))))))))))))))))))))))))))), .inLoop (cIn (cIn (cSnd (cSnd (cSnd (cSnd (cIn (cFst (cSnd (cSnd (cIn (cIn (cSnd (cFst (cSnd (cSnd (cSnd (cIn (cFst (cSnd (cSnd (cIn (cIn (cSnd (cFst (cSnd (cSnd (cSnd (cSnd (cSnd (cSnd (bodyOf Tryd.prog 42)))))))))))))))))))))))))))))))), .inBlock 4, .inBlock 3, .code (cSnd (cSnd (cSnd (cIn (cIn (cSnd (cFst (cSnd (cSnd (cSnd (cIn (cFst (cSnd (cSnd (cIn (cIn (cSnd (cFst (cSnd (cSnd (cSnd (cSnd (cSnd (cSnd (bodyOf Tryd.prog 42))))))))))))))))))))))))), .inLoop (cIn (cIn (cSnd (cFst (cSnd (cSnd (cSnd (cIn (cFst (cSnd (cSnd (cIn (cIn (cSnd (cFst (cSnd (cSnd (cSnd (cSnd (cSnd (cSnd (bodyOf Tryd.prog 42)))))))))))))))))))))), .inBlock 2, .code (cSnd (cSnd (cSnd (cSnd (cIn (cFst (cSnd (cSnd (cIn (cIn (cSnd (cFst (cSnd (cSnd (cSnd (cSnd (cSnd (cSnd (bodyOf Tryd.prog 42))))))))))))))))))), .inBlock 1, .code (cSnd (cSnd (cSnd (cIn (cIn (cSnd (cFst (cSnd (cSnd (cSnd (cSnd (cSnd (cSnd (bodyOf Tryd.prog 42)))))))))))))), .inLoop (cIn (cIn (cSnd (cFst (cSnd (cSnd (cSnd (cSnd (cSnd (cSnd (bodyOf Tryd.prog 42))))))))))), .inBlock 0, .code (cSnd (cSnd (cSnd (cSnd (cSnd (cSnd (cSnd (bodyOf Tryd.prog 42))))))))], ⟨[(7, (.one (.ref T_api_Part 8 0 (List.length h8) true))), (9, (.one (.ref T_api_Member 9 0 (List.length h9) true))), (10, (.one (.ref .bool 10 0 (List.length h10) true))), (11, (.one (.mapr 11))), (12, (.one (.int .i64 v12))), (13, (.one (.ptr T_api_Record 12 []))), (14, (.one (.ref (.int .u8) 13 0 (List.length h13) true))), (16, (.one (.ptr T_api_Part 14 []))), (30, (.one (.sl T_api_Record false v30))), (31, (.one (.int .i64 v31))), (32, (.one (.int .i64 v32))), (41, (.one (.ref T_api_Part 8 0 (List.length h8) true))), (42, (.one (.int .i64 v42))), (43, (.one (.int .i64 v43))), (62, (.one (.int .i64 v62))), (63, (.one (.int .i64 v63)))], [(8, some (.row T_api_Part true h8)), (9, some (.row T_api_Member true h9)), (10, some (.row .bool true h10)), (11, some (.map (.int .i64) .bool m11)), (12, some (.box T_api_Record (inj false T_api_Record b12))), (13, some (.row (.int .u8) true h13)), (14, some (.box T_api_Part (inj true T_api_Part b14)))], 15⟩⟩
theorem salvage_Rebuild_eq (a0 : List D_api_Record) (a1 : List D_api_Found) : salvage_Rebuild a0 a1 = (
  (salvage_Parts a0 a1).bind fun (r1 : (List D_api_Part × Int)) =>
  if (r1.2 != (0 : Int)) = true then
    some ([], ([], r1.2))
  else
    salvage_Rebuild_c1 a0 (Int.ofNat (List.length a0)) (0 : Int) r1.1 [] [] []) := (FnI.call_eq (by kernel_rfl)).trans (by kernel_rfl)
theorem salvage_Rebuild_c1_eq (v30 : List D_api_Record) (v31 : Int) (v32 : Int) (h8 : List D_api_Part) (h9 : List D_api_Member) (h10 : List Bool) (m11 : List (Int × Bool)) : salvage_Rebuild_c1 v30 v31 v32 h8 h9 h10 m11 = (
  if (decide (v32 < v31)) = true then
    gd (0 ≤ v32) <|
    gd (v32 < (Int.ofNat (List.length v30))) <|
    gd ((List.getD v30 (Int.toNat v32) (pzero T_api_Record)).2.1 = (List.getD v30 (Int.toNat v32) (pzero T_api_Record)).2.1) <|
    gd (0 ≤ (List.getD v30 (Int.toNat v32) (pzero T_api_Record)).2.1) <|
    gd ((List.getD v30 (Int.toNat v32) (pzero T_api_Record)).2.1 * 1 ≤ 140737488355328) <|
    gd ((List.getD v30 (Int.toNat v32) (pzero T_api_Record)).2.1 ≤ 9223372036854775807) <|
    salvage_Rebuild_c2 v32 v30 v31 v32 (Int.ofNat (List.length h8)) (0 : Int) h8 h9 h10 [] (List.getD v30 (Int.toNat v32) (pzero T_api_Record)) (List.replicate (Int.toNat (List.getD v30 (Int.toNat v32) (pzero T_api_Record)).2.1) (0 : Int))
  else
    some (h9, (h10, (0 : Int)))) := (FnI.sem_eq _).trans (by kernel_rfl)
theorem salvage_Rebuild_c2_eq (v12 : Int) (v30 : List D_api_Record) (v31 : Int) (v32 : Int) (v42 : Int) (v43 : Int) (h8 : List D_api_Part) (h9 : List D_api_Member) (h10 : List Bool) (m11 : List (Int × Bool)) (b12 : D_api_Record) (h13 : List Int) : salvage_Rebuild_c2 v12 v30 v31 v32 v42 v43 h8 h9 h10 m11 b12 h13 = (
  if (decide (v43 < v42)) = true then
    gd (0 ≤ v43) <|
    gd (v43 < (Int.ofNat (List.length h8))) <|
    if ((List.getD h8 (0 + (Int.toNat v43)) (pzero T_api_Part)).1.1 != v12) = true then
      salvage_Rebuild_c2 v12 v30 v31 v32 v42 (IntKind.wrap .i64 (v43 + (1 : Int))) h8 h9 h10 m11 b12 h13
    else
      gd (0 ≤ (List.getD h8 (0 + (Int.toNat v43)) (pzero T_api_Part)).1.2.1) <|
      gd ((List.getD h8 (0 + (Int.toNat v43)) (pzero T_api_Part)).1.2.1 ≤ (Int.ofNat (List.length h13))) <|
      salvage_Rebuild_c3 v12 v30 v31 v32 v42 v43 (Int.ofNat (List.length (List.getD h8 (0 + (Int.toNat v43)) (pzero T_api_Part)).2.1)) (0 : Int) h8 h9 h10 m11 b12 (splice h13 (0 + (Int.toNat (List.getD h8 (0 + (Int.toNat v43)) (pzero T_api_Part)).1.2.1)) (List.take (min (List.length (List.getD h8 (0 + (Int.toNat v43)) (pzero T_api_Part)).2.1) ((List.length h13) - (Int.toNat (List.getD h8 (0 + (Int.toNat v43)) (pzero T_api_Part)).1.2.1))) (List.getD h8 (0 + (Int.toNat v43)) (pzero T_api_Part)).2.1)) (List.getD h8 (0 + (Int.toNat v43)) (pzero T_api_Part))
  else
    (sha_Sum h13).bind fun (r2 : ((List Int) × Int)) =>
    gd ((List.length (h9 ++ [(b12.1, (h13, ()))])) * 40 ≤ 140737488355328) <|
    if ((Int.ofNat (List.length m11)) == b12.2.1) = true then
      gd ((List.length (h10 ++ [(peq (.arr 20 (.int .u8)) r2.1 b12.2.2.1)])) * 1 ≤ 140737488355328) <|
      salvage_Rebuild_c1 v30 v31 (IntKind.wrap .i64 (v32 + (1 : Int))) h8 (h9 ++ [(b12.1, (h13, ()))]) (h10 ++ [(peq (.arr 20 (.int .u8)) r2.1 b12.2.2.1)]) m11
    else
      gd ((List.length (h10 ++ [false])) * 1 ≤ 140737488355328) <|
      salvage_Rebuild_c1 v30 v31 (IntKind.wrap .i64 (v32 + (1 : Int))) h8 (h9 ++ [(b12.1, (h13, ()))]) (h10 ++ [false]) m11) := (FnI.sem_eq _).trans (by kernel_rfl)
theorem salvage_Rebuild_c3_eq (v12 : Int) (v30 : List D_api_Record) (v31 : Int) (v32 : Int) (v42 : Int) (v43 : Int) (v62 : Int) (v63 : Int) (h8 : List D_api_Part) (h9 : List D_api_Member) (h10 : List Bool) (m11 : List (Int × Bool)) (b12 : D_api_Record) (h13 : List Int) (b14 : D_api_Part) : salvage_Rebuild_c3 v12 v30 v31 v32 v42 v43 v62 v63 h8 h9 h10 m11 b12 h13 b14 = (
  if (decide (v63 < v62)) = true then
    salvage_Rebuild_c3 v12 v30 v31 v32 v42 v43 v62 (IntKind.wrap .i64 (v63 + (1 : Int))) h8 h9 h10 (mset (peq (.int .i64)) (IntKind.wrap .i64 (b14.1.2.1 + v63)) true m11) b12 h13 b14
  else
    salvage_Rebuild_c2 v12 v30 v31 v32 v42 (IntKind.wrap .i64 (v43 + (1 : Int))) h8 h9 h10 m11 b12 h13) := (FnI.sem_eq _).trans (by kernel_rfl)
noncomputable def salvage_Rebuild_S (acc : List AV → Bool) : Summ Tryd.prog GT := salvage_Rebuild_I.summ mixed acc false false

/-! bitloft/bitloftref34.Rebuild -/
noncomputable def bitloftref34_Rebuild_I : FnI Tryd.prog GT := { f := 43, cuts := [⟨(7, 3), [0, 7, 9, 10, 11], false⟩, ⟨(11, 8), [0, 7, 9, 10, 11, 12, 13, 14], false⟩, ⟨(14, 12), [0, 7, 9, 10, 11, 12, 13, 14, 15], false⟩, ⟨(19, 8), [0, 7, 9, 10, 11, 12, 13, 16, 17], false⟩], tab := [bitloftref34_Parts_S (fun _ => true), bitloftref01_Of_S (fun _ => true)], fm := ⟨true, [.val (.slice T_api_Member) [.nw], .val (.slice .bool) [.nw], .val (.int .i64) []]⟩ }
noncomputable def bitloftref34_Rebuild (a0 : List D_api_Record) (a1 : List D_api_Found) : Option (List D_api_Member × List Bool × Int) := bitloftref34_Rebuild_I.call [(.sl T_api_Record false a0), (.sl T_api_Found false a1)] []
noncomputable def bitloftref34_Rebuild_c1 (v0 : List D_api_Record) (v11 : Int) (h8 : List D_api_Part) (h9 : List D_api_Member) (h10 : List Bool) : Option (List D_api_Member × List Bool × Int) := bitloftref34_Rebuild_I.sem ⟨[.code (cIn (cIn (cSnd (cFst (cSnd (cSnd (cSnd (cSnd (cSnd (bodyOf Tryd.prog 43)))))))))), .inLoop (cIn (cIn (cSnd (cFst (cSnd (cSnd (cSnd (cSnd (cSnd (bodyOf Tryd.prog 43)))))))))), .inBlock 0, .code (cSnd (cSnd (cSnd (cSnd (cSnd (cSnd (bodyOf Tryd.prog 43)))))))], ⟨[(0, (.one (.sl T_api_Record false v0))), (7, (.one (.ref T_api_Part 8 0 (List.length h8) true))), (9, (.one (.ref T_api_Member 9 0 (List.length h9) true))), (10, (.one (.ref .bool 10 0 (List.length h10) true))), (11, (.one (.int .i64 v11)))], [(8, some (.row T_api_Part true h8)), (9, some (.row T_api_Member true h9)), (10, some (.row .bool true h10))], 11⟩⟩
noncomputable def bitloftref34_Rebuild_c2 (v0 : List D_api_Record) (v11 : Int) (v14 : Int) (h8 : List D_api_Part) (h9 : List D_api_Member) (h10 : List Bool) (h11 : List Int) (h12 : List Bool) : Option (List D_api_Member × List Bool × Int) := bitloftref34_Rebuild_I.sem ⟨[.code (cIn (cIn (cSnd (cFst (cSnd (cIn (cFst (cSnd (cIn (cIn (cSnd (cFst (cSnd (cSnd (cSnd (cSnd (cSnd (bodyOf Tryd.prog 43)))))))))))))))))), .inLoop (cIn (cIn (cSnd (cFst (cSnd (cIn (cFst (cSnd (cIn (cIn (cSnd (cFst (cSnd (cSnd (cSnd (cSnd (cSnd (bodyOf Tryd.prog 43)))))))))))))))))), .inBlock 2, .code (cSnd (cSnd (cIn (cFst (cSnd (cIn (cIn (cSnd (cFst (cSnd (cSnd (cSnd (cSnd (cSnd (bodyOf Tryd.prog 43))))))))))))))), .inBlock 1, .code (cSnd (cSnd (cIn (cIn (cSnd (cFst (cSnd (cSnd (cSnd (cSnd (cSnd (bodyOf Tryd.prog 43)))))))))))), .inLoop (cIn (cIn (cSnd (cFst (cSnd (cSnd (cSnd (cSnd (cSnd (bodyOf Tryd.prog 43)))))))))), .inBlock 0, .code (cSnd (cSnd (cSnd (cSnd (cSnd (cSnd (bodyOf Tryd.prog 43)))))))], ⟨[(0, (.one (.sl T_api_Record false v0))), (7, (.one (.ref T_api_Part 8 0 (List.length h8) true))), (9, (.one (.ref T_api_Member 9 0 (List.length h9) true))), (10, (.one (.ref .bool 10 0 (List.length h10) true))), (11, (.one (.int .i64 v11))), (12, (.one (.ref (.int .u8) 11 0 (List.length h11) true))), (13, (.one (.ref .bool 12 0 (List.length h12) true))), (14, (.one (.int .i64 v14)))], [(8, some (.row T_api_Part true h8)), (9, some (.row T_api_Member true h9)), (10, some (.row .bool true h10)), (11, some (.row (.int .u8) true h11)), (12, some (.row .bool true h12))], 13⟩⟩
noncomputable def bitloftref34_Rebuild_c3 (v0 : List D_api_Record) (v11 : Int) (v14 : Int) (v15 : Int) (h8 : List D_api_Part) (h9 : List D_api_Member) (h10 : List Bool) (h11 : List Int) (h12 : List Bool) : Option (List D_api_Member × List Bool × Int) := bitloftref34_Rebuild_I.sem ⟨[.code (cIn (cIn (cSnd (cIn (cFst (cSnd (cIn (cIn (cSnd (cFst (cSnd (cIn (cFst (cSnd (cIn (cIn (cSnd (cFst (cSnd (cSnd (cSnd (cSnd (cSnd (bodyOf Tryd.prog 43)))))))))))))))))))))))), .inLoop (cIn (cIn (cSnd (cIn (cFst (cSnd (cIn (cIn (cSnd (cFst (cSnd (cIn (cFst (cSnd (cIn (cIn (cSnd (cFst (cSnd (cSnd (cSnd (cSnd (cSnd (bodyOf Tryd.prog 43)))))))))))))))))))))))), .inBlock 4, .inBlock 3, .code (cSnd (cSnd (cIn (cIn (cSnd (cFst (cSnd (cIn (cFst (cSnd (cIn (cIn (cSnd (cFst (cSnd (cSnd (cSnd (cSnd (cSnd (bodyOf Tryd.prog 43)))))))))))))))))))), .inLoop (cIn (cIn (cSnd (cFst (cSnd (cIn (cFst (cSnd (cIn (cIn (cSnd (cFst (cSnd (cSnd (cSnd (cSnd (cSnd (bodyOf Tryd.prog 43)))))))))))))))))), .inBlock 2, .code (cSnd (cSnd (cIn (cFst (cSnd (cIn (cIn (cSnd (cFst (cSnd (cSnd (cSnd (cSnd (cSnd (bodyOf Tryd.prog 43))))))))))))))), .inBlock 1, .code (cSnd (cSnd (cIn (cIn (cSnd (cFst (cSnd (cSnd (cSnd (cSnd (cSnd (bodyOf Tryd.prog 43)))))))))))), .inLoop (cIn (cIn (cSnd (cFst (cSnd (cSnd (cSnd (cSnd (cSnd (bodyOf Tryd.prog 43)))))))))), .inBlock 0, .code (cSnd (cSnd (cSnd (cSnd (cSnd (cSnd (bodyOf Tryd.prog 43)))))))], ⟨[(0, (.one (.sl T_api_Record false v0))), (7, (.one (.ref T_api_Part 8 0 (List.length h8) true))), (9, (.one (.ref T_api_Member 9 0 (List.length h9) true))), (10, (.one (.ref .bool 10 0 (List.length h10) true))), (11, (.one (.int .i64 v11))), (12, (.one (.ref (.int .u8) 11 0 (List.length h11) true))), (13, (.one (.ref .bool 12 0 (List.length h12) true))), (14, (.one (.int .i64 v14))), (15, (.one (.int .i64 v15)))], [(8, some (.row T_api_Part true h8)), (9, some (.row T_api_Member true h9)), (10, some (.row .bool true h10)), (11, some (.row (.int .u8) true h11)), (12, some (.row .bool true h12))], 13⟩⟩
noncomputable def bitloftref34_Rebuild_c4 (v0 : List D_api_Record) (v11 : Int) (v16 : Bool) (v17 : Int) (h8 : List D_api_Part) (h9 : List D_api_Member) (h10 : List Bool) (h11 : List Int) (h12 : List Bool) : Option (List D_api_Member × List Bool × Int) := bitloftref34_Rebuild_I.sem ⟨[.code (cIn (cIn (cSnd (cFst (cSnd (cSnd (cSnd (cIn (cFst (cSnd (cIn (cIn (cSnd (cFst (cSnd (cSnd (cSnd (cSnd (cSnd (bodyOf Tryd.prog 43)))))))))))))))))))), .inLoop (cIn (cIn (cSnd (cFst (cSnd (cSnd (cSnd (cIn (cFst (cSnd (cIn (cIn (cSnd (cFst (cSnd (cSnd (cSnd (cSnd (cSnd (bodyOf Tryd.prog 43)))))))))))))))))))), .inBlock 6, .code (cSnd (cSnd (cSnd (cSnd (cIn (cFst (cSnd (cIn (cIn (cSnd (cFst (cSnd (cSnd (cSnd (cSnd (cSnd (bodyOf Tryd.prog 43))))))))))))))))), .inBlock 1, .code (cSnd (cSnd (cIn (cIn (cSnd (cFst (cSnd (cSnd (cSnd (cSnd (cSnd (bodyOf Tryd.prog 43)))))))))))), .inLoop (cIn (cIn (cSnd (cFst (cSnd (cSnd (cSnd (cSnd (cSnd (bodyOf Tryd.prog 43)))))))))), .inBlock 0, .code (cSnd (cSnd (cSnd (cSnd (cSnd (cSnd (bodyOf Tryd.prog 43)))))))], ⟨[(0, (.one (.sl T_api_Record false v0))), (7, (.one (.ref T_api_Part 8 0 (List.length h8) true))), (9, (.one (.ref T_api_Member 9 0 (List.length h9) true))), (10, (.one (.ref .bool 10 0 (List.length h10) true))), (11, (.one (.int .i64 v11))), (12, (.one (.ref (.int .u8) 11 0 (List.length h11) true))), (13, (.one (.ref .bool 12 0 (List.length h12) true))), (16, (.one (.bool v16))), (17, (.one (.int .i64 v17)))], [(8, some (.row T_api_Part true h8)), (9, some (.row T_api_Member true h9)), (10, some (.row .bool true h10)), (11, some (.row (.int .u8) true h11)), (12, some (.row .bool true h12))], 13⟩⟩
theorem bitloftref34_Rebuild_eq (a0 : List D_api_Record) (a1 : List D_api_Found) : bitloftref34_Rebuild a0 a1 = (
  (bitloftref34_Parts a0 a1).bind fun (r1 : (List D_api_Part × Int)) =>
  if (r1.2 != (0 : Int)) = true then
    some ([], ([], r1.2))
  else
    bitloftref34_Rebuild_c1 a0 (0 : Int) r1.1 [] []) := (FnI.call_eq (by kernel_rfl)).trans (by kernel_rfl)
theorem bitloftref34_Rebuild_c1_eq (v0 : List D_api_Record) (v11 : Int) (h8 : List D_api_Part) (h9 : List D_api_Member) (h10 : List Bool) : bitloftref34_Rebuild_c1 v0 v11 h8 h9 h10 = (
  if (decide (v11 < (Int.ofNat (List.length v0)))) = true then
    gd (0 ≤ v11) <|
    gd (v11 < (Int.ofNat (List.length v0))) <|
    gd ((List.getD v0 (Int.toNat v11) (pzero T_api_Record)).2.1 = (List.getD v0 (Int.toNat v11) (pzero T_api_Record)).2.1) <|
    gd (0 ≤ (List.getD v0 (Int.toNat v11) (pzero T_api_Record)).2.1) <|
    gd ((List.getD v0 (Int.toNat v11) (pzero T_api_Record)).2.1 * 1 ≤ 140737488355328) <|
    gd ((List.getD v0 (Int.toNat v11) (pzero T_api_Record)).2.1 ≤ 9223372036854775807) <|
    gd (0 ≤ v11) <|
    gd (v11 < (Int.ofNat (List.length v0))) <|
    gd ((List.getD v0 (Int.toNat v11) (pzero T_api_Record)).2.1 = (List.getD v0 (Int.toNat v11) (pzero T_api_Record)).2.1) <|
    gd (0 ≤ (List.getD v0 (Int.toNat v11) (pzero T_api_Record)).2.1) <|
    gd ((List.getD v0 (Int.toNat v11) (pzero T_api_Record)).2.1 * 1 ≤ 140737488355328) <|
    gd ((List.getD v0 (Int.toNat v11) (pzero T_api_Record)).2.1 ≤ 9223372036854775807) <|
    bitloftref34_Rebuild_c2 v0 v11 (0 : Int) h8 h9 h10 (List.replicate (Int.toNat (List.getD v0 (Int.toNat v11) (pzero T_api_Record)).2.1) (0 : Int)) (List.replicate (Int.toNat (List.getD v0 (Int.toNat v11) (pzero T_api_Record)).2.1) false)
  else
    some (h9, (h10, (0 : Int)))) := (FnI.sem_eq _).trans (by kernel_rfl)
theorem bitloftref34_Rebuild_c2_eq (v0 : List D_api_Record) (v11 : Int) (v14 : Int) (h8 : List D_api_Part) (h9 : List D_api_Member) (h10 : List Bool) (h11 : List Int) (h12 : List Bool) : bitloftref34_Rebuild_c2 v0 v11 v14 h8 h9 h10 h11 h12 = (
  if (decide (v14 < (Int.ofNat (List.length h8)))) = true then
    bitloftref34_Rebuild_c3 v0 v11 v14 (0 : Int) h8 h9 h10 h11 h12
  else
    (bitloftref01_Of h11).bind fun (r2 : ((List Int))) =>
    gd (0 ≤ v11) <|
    gd (v11 < (Int.ofNat (List.length v0))) <|
    bitloftref34_Rebuild_c4 v0 v11 (peq (.arr 20 (.int .u8)) r2 (List.getD v0 (Int.toNat v11) (pzero T_api_Record)).2.2.1) (0 : Int) h8 h9 h10 h11 h12) := (FnI.sem_eq _).trans (by kernel_rfl)
theorem bitloftref34_Rebuild_c3_eq (v0 : List D_api_Record) (v11 : Int) (v14 : Int) (v15 : Int) (h8 : List D_api_Part) (h9 : List D_api_Member) (h10 : List Bool) (h11 : List Int) (h12 : List Bool) : bitloftref34_Rebuild_c3 v0 v11 v14 v15 h8 h9 h10 h11 h12 = (
  gd (0 ≤ v14) <|
  gd (v14 < (Int.ofNat (List.length h8))) <|
  if (decide (v15 < (Int.ofNat (List.length (List.getD h8 (0 + (Int.toNat v14)) (pzero T_api_Part)).2.1)))) = true then
    gd (0 ≤ v14) <|
    gd (v14 < (Int.ofNat (List.length h8))) <|
    if ((List.getD h8 (0 + (Int.toNat v14)) (pzero T_api_Part)).1.1 == v11) = true then
      gd (0 ≤ v14) <|
      gd (v14 < (Int.ofNat (List.length h8))) <|
      gd (0 ≤ v14) <|
      gd (v14 < (Int.ofNat (List.length h8))) <|
      gd (0 ≤ v14) <|
      gd (v14 < (Int.ofNat (List.length h8))) <|
      gd (0 ≤ v15) <|
      gd (v15 < (Int.ofNat (List.length (List.getD h8 (0 + (Int.toNat v14)) (pzero T_api_Part)).2.1))) <|
      gd (0 ≤ (IntKind.wrap .i64 ((List.getD h8 (0 + (Int.toNat v14)) (pzero T_api_Part)).1.2.1 + v15))) <|
      gd ((IntKind.wrap .i64 ((List.getD h8 (0 + (Int.toNat v14)) (pzero T_api_Part)).1.2.1 + v15)) < (Int.ofNat (List.length h11))) <|
      gd (0 ≤ (IntKind.wrap .i64 ((List.getD h8 (0 + (Int.toNat v14)) (pzero T_api_Part)).1.2.1 + v15))) <|
      gd ((IntKind.wrap .i64 ((List.getD h8 (0 + (Int.toNat v14)) (pzero T_api_Part)).1.2.1 + v15)) < (Int.ofNat (List.length h12))) <|
      bitloftref34_Rebuild_c3 v0 v11 v14 (IntKind.wrap .i64 (v15 + (1 : Int))) h8 h9 h10 (List.set h11 (0 + (Int.toNat (IntKind.wrap .i64 ((List.getD h8 (0 + (Int.toNat v14)) (pzero T_api_Part)).1.2.1 + v15)))) (List.getD (List.getD h8 (0 + (Int.toNat v14)) (pzero T_api_Part)).2.1 (Int.toNat v15) (0 : Int))) (List.set h12 (0 + (Int.toNat (IntKind.wrap .i64 ((List.getD h8 (0 + (Int.toNat v14)) (pzero T_api_Part)).1.2.1 + v15)))) true)
    else
      bitloftref34_Rebuild_c2 v0 v11 (IntKind.wrap .i64 (v14 + (1 : Int))) h8 h9 h10 h11 h12
  else
    bitloftref34_Rebuild_c2 v0 v11 (IntKind.wrap .i64 (v14 + (1 : Int))) h8 h9 h10 h11 h12) := (FnI.sem_eq _).trans (by kernel_rfl)
theorem bitloftref34_Rebuild_c4_eq (v0 : List D_api_Record) (v11 : Int) (v16 : Bool) (v17 : Int) (h8 : List D_api_Part) (h9 : List D_api_Member) (h10 : List Bool) (h11 : List Int) (h12 : List Bool) : bitloftref34_Rebuild_c4 v0 v11 v16 v17 h8 h9 h10 h11 h12 = (
  if (decide (v17 < (Int.ofNat (List.length h12)))) = true then
    if v16 = true then
      gd (0 ≤ v17) <|
      gd (v17 < (Int.ofNat (List.length h12))) <|
      bitloftref34_Rebuild_c4 v0 v11 (List.getD h12 (0 + (Int.toNat v17)) false) (IntKind.wrap .i64 (v17 + (1 : Int))) h8 h9 h10 h11 h12
    else
      bitloftref34_Rebuild_c4 v0 v11 false (IntKind.wrap .i64 (v17 + (1 : Int))) h8 h9 h10 h11 h12
  else
    gd (0 ≤ v11) <|
    gd (v11 < (Int.ofNat (List.length v0))) <|
    gd ((List.length (h9 ++ [((List.getD v0 (Int.toNat v11) (pzero T_api_Record)).1, (h11, ()))])) * 40 ≤ 140737488355328) <|
    gd ((List.length (h10 ++ [v16])) * 1 ≤ 140737488355328) <|
    bitloftref34_Rebuild_c1 v0 (IntKind.wrap .i64 (v11 + (1 : Int))) h8 (h9 ++ [((List.getD v0 (Int.toNat v11) (pzero T_api_Record)).1, (h11, ()))]) (h10 ++ [v16])) := (FnI.sem_eq _).trans (by kernel_rfl)
noncomputable def bitloftref34_Rebuild_S (acc : List AV → Bool) : Summ Tryd.prog GT := bitloftref34_Rebuild_I.summ mixed acc false false

/-! bitloft/bitloftref29.SameParts -/
noncomputable def bitloftref29_SameParts_I : FnI Tryd.prog GT := { f := 44, cuts := [⟨(4, 3), [0, 1, 5], false⟩], tab := [], fm := ⟨true, [.val .bool []]⟩ }
noncomputable def bitloftref29_SameParts (a0 : List D_api_Part) (a1 : List D_api_Part) : Option (Bool) := bitloftref29_SameParts_I.call [(.sl T_api_Part false a0), (.sl T_api_Part false a1)] []
noncomputable def bitloftref29_SameParts_c1 (v0 : List D_api_Part) (v1 : List D_api_Part) (v5 : Int) : Option (Bool) := bitloftref29_SameParts_I.sem ⟨[.code (cIn (cIn (cSnd (cFst (cSnd (cSnd (bodyOf Tryd.prog 44))))))), .inLoop (cIn (cIn (cSnd (cFst (cSnd (cSnd (bodyOf Tryd.prog 44))))))), .inBlock 0, .code (cSnd (cSnd (cSnd (bodyOf Tryd.prog 44))))], ⟨[(0, (.one (.sl T_api_Part false v0))), (1, (.one (.sl T_api_Part false v1))), (5, (.one (.int .i64 v5)))], [], 8⟩⟩
theorem bitloftref29_SameParts_eq (a0 : List D_api_Part) (a1 : List D_api_Part) : bitloftref29_SameParts a0 a1 = (
  if ((Int.ofNat (List.length a0)) != (Int.ofNat (List.length a1))) = true then
    some (false)
  else
    bitloftref29_SameParts_c1 a0 a1 (0 : Int)) := (FnI.call_eq (by kernel_rfl)).trans (by kernel_rfl)
theorem bitloftref29_SameParts_c1_eq (v0 : List D_api_Part) (v1 : List D_api_Part) (v5 : Int) : bitloftref29_SameParts_c1 v0 v1 v5 = (
  if (decide (v5 < (Int.ofNat (List.length v0)))) = true then
    gd (0 ≤ v5) <|
    gd (v5 < (Int.ofNat (List.length v0))) <|
    gd (0 ≤ v5) <|
    gd (v5 < (Int.ofNat (List.length v1))) <|
    if (not (peq T_api_Piece (List.getD v0 (Int.toNat v5) (pzero T_api_Part)).1 (List.getD v1 (Int.toNat v5) (pzero T_api_Part)).1)) = true then
      some (false)
    else
      gd (0 ≤ v5) <|
      gd (v5 < (Int.ofNat (List.length v0))) <|
      gd (0 ≤ v5) <|
      gd (v5 < (Int.ofNat (List.length v1))) <|
      if (not ((ByteArray.toList (toStr (List.getD v0 (Int.toNat v5) (pzero T_api_Part)).2.1)) == (ByteArray.toList (toStr (List.getD v1 (Int.toNat v5) (pzero T_api_Part)).2.1)))) = true then
        some (false)
      else
        bitloftref29_SameParts_c1 v0 v1 (IntKind.wrap .i64 (v5 + (1 : Int)))
  else
    some (true)) := (FnI.sem_eq _).trans (by kernel_rfl)
noncomputable def bitloftref29_SameParts_S (acc : List AV → Bool) : Summ Tryd.prog GT := bitloftref29_SameParts_I.summ mixed acc false false

/-! bitloft/bitloftref28.SameMembers -/
noncomputable def bitloftref28_SameMembers_I : FnI Tryd.prog GT := { f := 45, cuts := [⟨(4, 3), [0, 1, 5], false⟩], tab := [], fm := ⟨true, [.val .bool []]⟩ }
noncomputable def bitloftref28_SameMembers (a0 : List D_api_Member) (a1 : List D_api_Member) : Option (Bool) := bitloftref28_SameMembers_I.call [(.sl T_api_Member false a0), (.sl T_api_Member false a1)] []
noncomputable def bitloftref28_SameMembers_c1 (v0 : List D_api_Member) (v1 : List D_api_Member) (v5 : Int) : Option (Bool) := bitloftref28_SameMembers_I.sem ⟨[.code (cIn (cIn (cSnd (cFst (cSnd (cSnd (bodyOf Tryd.prog 45))))))), .inLoop (cIn (cIn (cSnd (cFst (cSnd (cSnd (bodyOf Tryd.prog 45))))))), .inBlock 0, .code (cSnd (cSnd (cSnd (bodyOf Tryd.prog 45))))], ⟨[(0, (.one (.sl T_api_Member false v0))), (1, (.one (.sl T_api_Member false v1))), (5, (.one (.int .i64 v5)))], [], 8⟩⟩
theorem bitloftref28_SameMembers_eq (a0 : List D_api_Member) (a1 : List D_api_Member) : bitloftref28_SameMembers a0 a1 = (
  if ((Int.ofNat (List.length a0)) != (Int.ofNat (List.length a1))) = true then
    some (false)
  else
    bitloftref28_SameMembers_c1 a0 a1 (0 : Int)) := (FnI.call_eq (by kernel_rfl)).trans (by kernel_rfl)
theorem bitloftref28_SameMembers_c1_eq (v0 : List D_api_Member) (v1 : List D_api_Member) (v5 : Int) : bitloftref28_SameMembers_c1 v0 v1 v5 = (
  if (decide (v5 < (Int.ofNat (List.length v0)))) = true then
    gd (0 ≤ v5) <|
    gd (v5 < (Int.ofNat (List.length v0))) <|
    gd (0 ≤ v5) <|
    gd (v5 < (Int.ofNat (List.length v1))) <|
    if (not ((ByteArray.toList (List.getD v0 (Int.toNat v5) (pzero T_api_Member)).1) == (ByteArray.toList (List.getD v1 (Int.toNat v5) (pzero T_api_Member)).1))) = true then
      some (false)
    else
      gd (0 ≤ v5) <|
      gd (v5 < (Int.ofNat (List.length v0))) <|
      gd (0 ≤ v5) <|
      gd (v5 < (Int.ofNat (List.length v1))) <|
      if (not ((ByteArray.toList (toStr (List.getD v0 (Int.toNat v5) (pzero T_api_Member)).2.1)) == (ByteArray.toList (toStr (List.getD v1 (Int.toNat v5) (pzero T_api_Member)).2.1)))) = true then
        some (false)
      else
        bitloftref28_SameMembers_c1 v0 v1 (IntKind.wrap .i64 (v5 + (1 : Int)))
  else
    some (true)) := (FnI.sem_eq _).trans (by kernel_rfl)
noncomputable def bitloftref28_SameMembers_S (acc : List AV → Bool) : Summ Tryd.prog GT := bitloftref28_SameMembers_I.summ mixed acc false false

/-! bitloft/bitloftref33.SameBools -/
noncomputable def bitloftref33_SameBools_I : FnI Tryd.prog GT := { f := 46, cuts := [⟨(4, 3), [0, 1, 5], false⟩], tab := [], fm := ⟨true, [.val .bool []]⟩ }
noncomputable def bitloftref33_SameBools (a0 : List Bool) (a1 : List Bool) : Option (Bool) := bitloftref33_SameBools_I.call [(.sl .bool false a0), (.sl .bool false a1)] []
noncomputable def bitloftref33_SameBools_c1 (v0 : List Bool) (v1 : List Bool) (v5 : Int) : Option (Bool) := bitloftref33_SameBools_I.sem ⟨[.code (cIn (cIn (cSnd (cFst (cSnd (cSnd (bodyOf Tryd.prog 46))))))), .inLoop (cIn (cIn (cSnd (cFst (cSnd (cSnd (bodyOf Tryd.prog 46))))))), .inBlock 0, .code (cSnd (cSnd (cSnd (bodyOf Tryd.prog 46))))], ⟨[(0, (.one (.sl .bool false v0))), (1, (.one (.sl .bool false v1))), (5, (.one (.int .i64 v5)))], [], 8⟩⟩
theorem bitloftref33_SameBools_eq (a0 : List Bool) (a1 : List Bool) : bitloftref33_SameBools a0 a1 = (
  if ((Int.ofNat (List.length a0)) != (Int.ofNat (List.length a1))) = true then
    some (false)
  else
    bitloftref33_SameBools_c1 a0 a1 (0 : Int)) := (FnI.call_eq (by kernel_rfl)).trans (by kernel_rfl)
theorem bitloftref33_SameBools_c1_eq (v0 : List Bool) (v1 : List Bool) (v5 : Int) : bitloftref33_SameBools_c1 v0 v1 v5 = (
  if (decide (v5 < (Int.ofNat (List.length v0)))) = true then
    gd (0 ≤ v5) <|
    gd (v5 < (Int.ofNat (List.length v0))) <|
    gd (0 ≤ v5) <|
    gd (v5 < (Int.ofNat (List.length v1))) <|
    if (not ((List.getD v0 (Int.toNat v5) false) == (List.getD v1 (Int.toNat v5) false))) = true then
      some (false)
    else
      bitloftref33_SameBools_c1 v0 v1 (IntKind.wrap .i64 (v5 + (1 : Int)))
  else
    some (true)) := (FnI.sem_eq _).trans (by kernel_rfl)
noncomputable def bitloftref33_SameBools_S (acc : List AV → Bool) : Summ Tryd.prog GT := bitloftref33_SameBools_I.summ mixed acc false false

/-! bitloft/bitloftlaw34.SalvageBuilds -/
noncomputable def bitloftlaw34_SalvageBuilds_I : FnI Tryd.prog GT := { f := 6, cuts := [], tab := [bitloftref28_GreatRecords_S (fun _ => true), bitloftref34_Great_S (fun _ => true), salvage_Parts_S (fun _ => true), bitloftref34_Parts_S (fun _ => true), salvage_Rebuild_S (fun _ => true), bitloftref34_Rebuild_S (fun _ => true), bitloftref29_SameParts_S (fun _ => true), bitloftref28_SameMembers_S (fun _ => true), bitloftref33_SameBools_S (fun _ => true)], fm := ⟨true, [.val .bool []]⟩ }
noncomputable def bitloftlaw34_SalvageBuilds (a0 : List D_api_Record) (a1 : List D_api_Found) : Option (Bool) := bitloftlaw34_SalvageBuilds_I.call [(.sl T_api_Record false a0), (.sl T_api_Found false a1)] []
theorem bitloftlaw34_SalvageBuilds_eq (a0 : List D_api_Record) (a1 : List D_api_Found) : bitloftlaw34_SalvageBuilds a0 a1 = (
  (bitloftref28_GreatRecords a0).bind fun (r1 : (Bool)) =>
  if r1 = true then
    some (true)
  else
    (bitloftref34_Great a1).bind fun (r2 : (Bool)) =>
    if r2 = true then
      some (true)
    else
      (salvage_Parts a0 a1).bind fun (r3 : (List D_api_Part × Int)) =>
      (bitloftref34_Parts a0 a1).bind fun (r4 : (List D_api_Part × Int)) =>
      (salvage_Rebuild a0 a1).bind fun (r5 : (List D_api_Member × List Bool × Int)) =>
      (bitloftref34_Rebuild a0 a1).bind fun (r6 : (List D_api_Member × List Bool × Int)) =>
      (bitloftref29_SameParts r3.1 r4.1).bind fun (r7 : (Bool)) =>
      if r7 = true then
        if (r3.2 == r4.2) = true then
          (bitloftref28_SameMembers r5.1 r6.1).bind fun (r8 : (Bool)) =>
          if r8 = true then
            (bitloftref33_SameBools r5.2.1 r6.2.1).bind fun (r9 : (Bool)) =>
            if r9 = true then
              some (r5.2.2 == r6.2.2)
            else
              some (false)
          else
            some (false)
        else
          some (false)
      else
        some (false)) := (FnI.call_eq (by kernel_rfl)).trans (by kernel_rfl)
noncomputable def bitloftlaw34_SalvageBuilds_S (acc : List AV → Bool) : Summ Tryd.prog GT := bitloftlaw34_SalvageBuilds_I.summ mixed acc false false
end Go.Ab
