/-
  Plain laws of the printed functions.
-/
import Derived.Test.YtbgokmkefnepcaaGreatDoorPureQ
/-
  Chapter 27: limits and errors.
-/
set_option linter.unusedVariables false
set_option linter.unusedSimpArgs false
set_option maxRecDepth 10000
namespace Go.Ab
open Go
attribute [local irreducible] IntKind.wrap
theorem peqL_true {xs ys : List Int} : peqL (peq (.int .u8)) xs ys = true → xs = ys := by
  intro h
  induction xs generalizing ys with
  | nil => cases ys with
    | nil => rfl
    | cons y ys => exact absurd h (by simp [peqL])
  | cons x xs ih => cases ys with
    | nil => exact absurd h (by simp [peqL])
    | cons y ys =>
      rw [peqL, Bool.and_eq_true] at h
      have h1 : x = y := by have := h.1; rw [peq] at this; exact of_decide_eq_true this
      rw [h1, ih h.2]
theorem peqL_eqv (xs ys : List Int) : peqL (peq (.int .u8)) xs ys = decide (xs = ys) := by
  by_cases h : xs = ys
  · subst h
    rw [decide_eq_true rfl]
    exact peqL_same (fun x => by rw [peq]; exact decide_eq_true rfl) _
  · rw [decide_eq_false h]
    cases hq : peqL (peq (.int .u8)) xs ys with
    | false => rfl
    | true => exact absurd (peqL_true hq) h
/-- Right: the sum is that of the front and the raw bytes. -/
theorem header_Right_T {h : D_api_BlockHead} (ok : hOK h) (hm : 0 ≤ h.1 ∧ h.1 < 256) {z : List Int} (hb : Bts z) (hl : (z.length : Int) = h.2.2.2.1) : header_Right h z = some (decide (shaB (fr8 h ++ z) = h.2.2.2.2.2.1), 0) := by
  have hz : z.length ≤ 4096 := by unfold hOK at ok; omega
  have hc : hC h = 0 := if_pos ok
  rw [header_Right_eq]
  refine Tot.eq (Tot.be (header_Check_spec h) (Tot.ifne_neg hc (Tot.ifeq_pos hl (Tot.be (header_digest_spec h hm z hb (by omega)) (Tot.so ?_)))))
  rw [peq, peqL_eqv]
/-- What Raw gives of a stored block. -/
theorem Raw_stored {l : Int} {b : D_api_Block} (hl : 0 ≤ l ∧ l ≤ 7) (h1 : b.1.1 = 1) (hc : bC b = 0) (hb : Bts b.2.1) : block_Raw l b = some (if shaB (fr8 b.1 ++ b.2.1) = b.1.2.2.2.2.2.1 then (b.2.1, 0) else ([], 22)) := by
  have ok : hOK b.1 ∧ (b.2.1.length : Int) = b.1.2.2.2.2.1 := by
    unfold bC at hc; split at hc
    · assumption
    · cases hc
  have hlen : b.1.2.2.2.2.1 = b.1.2.2.2.1 := by
    rcases ok.1.2.2.2.2.2.2 with h | h
    · exact h.2
    · omega
  have hz : b.2.1.length ≤ 4096 := by have := ok.1.2.2.2.1; omega
  rw [block_Raw_eq]
  refine Tot.eq (Tot.be (block_Check_spec b) (Tot.ifne_neg hc (Tot.be (isLevel_spec l) ?_)))
  rw [decide_eq_true hl]
  refine Tot.ifn (fun k => absurd k (by decide)) (fun _ => Tot.be (bytes_Clone_T _ (by omega)) (Tot.ifeq_neg (by omega) (Tot.be (header_Right_T ok.1 (by omega) hb (by omega)) ?_)))
  by_cases hs : shaB (fr8 b.1 ++ b.2.1) = b.1.2.2.2.2.2.1
  · rw [if_pos hs, decide_eq_true hs]
    exact Tot.ifn (fun k => absurd k (by decide)) (fun _ => Tot.so rfl)
  · rw [if_neg hs, decide_eq_false hs]
    exact Tot.ifn (fun _ => Tot.so rfl) (fun k => absurd k (by decide))
theorem Raw_bad {l : Int} {b : D_api_Block} (hc : bC b ≠ 0) : block_Raw l b = some ([], 8) := by
  have h8 : bC b = 8 := by unfold bC at hc ⊢; split <;> simp_all
  rw [block_Raw_eq]
  refine Tot.eq (Tot.be (block_Check_spec b) (Tot.ifne_pos hc (Tot.so (by rw [h8]))))
theorem Raw_level {l : Int} {b : D_api_Block} (hc : bC b = 0) (hl : ¬ (0 ≤ l ∧ l ≤ 7)) : block_Raw l b = some ([], 2) := by
  rw [block_Raw_eq]
  refine Tot.eq (Tot.be (block_Check_spec b) (Tot.ifne_neg hc (Tot.be (isLevel_spec l) ?_)))
  rw [decide_eq_false hl]
  exact Tot.ifn (fun _ => Tot.so rfl) (fun k => absurd k (by decide))
def abc : List Int := [97, 98, 99]
theorem abc_bts : Bts abc := by
  intro x hx
  simp only [abc, List.mem_cons, List.not_mem_nil, or_false] at hx
  omega
def abcS : List Int := shaB ([1, 15, 31, 253, 0, 3, 0, 3] ++ abc)
def abcH : D_api_BlockHead := (1, (15, (8189, (3, (3, (abcS, ()))))))
theorem abc_stored : storedB 15 8189 abc = (abcH, (abc, ())) := rfl
theorem abc_ok : hOK abcH := by unfold hOK; simp only [abcH]; decide
theorem abc_bC : bC (abcH, (abc, ())) = 0 := if_pos ⟨abc_ok, rfl⟩
theorem abc_bytes : bB (abcH, (abc, ())) = mark ++ ([1, 15, 31, 253, 0, 3, 0, 3] ++ abcS) ++ abc := rfl
theorem abc_allB : Bts (bB (abcH, (abc, ()))) := by
  rw [abc_bytes]
  refine Bts.append (Bts.append mark_bts (Bts.append ?_ (shaB_bts _))) abc_bts
  intro x hx
  simp only [List.mem_cons, List.not_mem_nil, or_false] at hx
  omega
theorem abc_len : (bB (abcH, (abc, ()))).length = 44 := by
  rw [abc_bytes]
  simp only [List.length_append, mark_len, abcS, shaB_len]
  rfl
theorem zeros_bts (n : Nat) : Bts (List.replicate n 0) := fun x hx => by rw [List.eq_of_mem_replicate hx]; omega
set_option maxHeartbeats 1000000 in
theorem bitloftlaw27_BlockNames_true : bitloftlaw27_BlockNames = some true := by
  have hm : mOK 15 8189 abc := by decide
  have r1 : block_Make 8 0 0 [97, 98, 99] = some (zB, 2) := Make_bad (by decide)
  have r2 : block_Make (-1) 0 0 [97, 98, 99] = some (zB, 2) := Make_bad (by decide)
  have r3 : block_Make 0 16 0 [97, 98, 99] = some (zB, 2) := Make_bad (by decide)
  have r4 : block_Make 0 0 8190 [97, 98, 99] = some (zB, 2) := Make_bad (by decide)
  have r5 : block_Make 0 0 0 [] = some (zB, 2) := Make_bad (by decide)
  have r6 : block_Make 0 0 0 (List.replicate 4097 0) = some (zB, 2) := Make_bad (fun h => by have := h.2.2.2.2.1; rw [List.length_replicate] at this; exact absurd this (by decide))
  have r7 : block_Make 0 15 8189 [97, 98, 99] = some ((abcH, (abc, ())), 0) := Make_short (by decide) hm abc_bts (by decide)
  have c8 : bC (abcH, ([97, 98], ())) ≠ 0 := by
    have : bC (abcH, ([97, 98], ())) = 8 := if_neg (fun h => absurd h.2 (by decide))
    omega
  have r8 : block_Raw 9 (abcH, ([97, 98], ())) = some ([], 8) := Raw_bad c8
  have r9 : block_Raw 9 (abcH, (abc, ())) = some ([], 2) := Raw_level abc_bC (by decide)
  have hS20 : abcS.length = 20 := shaB_len _
  have hS0 := Bts.getD (shaB_bts ([1, 15, 31, 253, 0, 3, 0, 3] ++ abc)) 0
  have r10 : block_Raw 0 ((1, (15, (8189, (3, (3, ((abcS.set 0 (IntKind.wrap .u8 (abcS.getD 0 0 + 1))), ())))))), (abc, ())) = some ([], 22) := by
    rw [Raw_stored (by decide) rfl (if_pos ⟨by unfold hOK; decide, rfl⟩) abc_bts]
    refine congrArg some (if_neg (fun h => ?_))
    have h' : abcS = abcS.set 0 (IntKind.wrap .u8 (abcS.getD 0 0 + 1)) := h
    have h2 : abcS.getD 0 0 = IntKind.wrap .u8 (abcS.getD 0 0 + 1) := by
      have e : (abcS.set 0 (IntKind.wrap .u8 (abcS.getD 0 0 + 1))).getD 0 0 = IntKind.wrap .u8 (abcS.getD 0 0 + 1) := getD_setK _ _ _ _ (by omega)
      rw [← h'] at e
      exact e
    rw [wu8] at h2
    omega
  have r11 : block_Write ((1, (15, (8189, (0, (3, (abcS, ())))))), (abc, ())) = some (([], (0, 0)), 8) := by
    rw [block_Write_spec _ ⟨⟨by decide, by decide⟩, hS20⟩]
    have : bC ((1, (15, (8189, (0, (3, (abcS, ())))))), (abc, ())) = 8 := if_neg (fun h => by have := h.1.2.2.1; exact absurd this (by decide))
    rw [this]
    rfl
  have r12 : block_Raw 7 (abcH, (abc, ())) = some (abc, 0) := by
    rw [Raw_stored (by decide) rfl abc_bC abc_bts]
    exact congrArg some (if_pos rfl)
  have r13 : block_Write (abcH, (abc, ())) = some ((bB (abcH, (abc, ())), (0, 44)), 0) := by
    have := stored_Write hm
    rw [abc_stored, abc_len] at this
    exact this
  have r14 : block_Read (List.replicate 50001 0) = some ((zH, ([], ())), (0, 4)) := by
    rw [block_Read_spec _ (zeros_bts _)]
    exact congrArg some (if_pos (by rw [List.length_replicate]; decide))
  have t40 : ((bB (abcH, (abc, ()))).take 40).length = 40 := by rw [List.length_take, abc_len]; rfl
  have r15 : block_Read ((bB (abcH, (abc, ()))).take 40) = some ((zH, ([], ())), (0, 18)) := by
    rw [block_Read_spec _ (abc_allB.take _)]
    unfold rdK
    rw [if_neg (by rw [t40]; decide), if_pos (by rw [t40]; decide)]
  have d1 : ((bB (abcH, (abc, ()))).drop 1).length = 43 := by rw [List.length_drop, abc_len]
  have r16 : block_Read ((bB (abcH, (abc, ()))).drop 1) = some ((zH, ([], ())), (0, 12)) := by
    rw [block_Read_spec _ (abc_allB.drop _)]
    unfold rdK
    rw [if_neg (by rw [d1]; decide), if_neg (by rw [d1]; decide), if_pos (Or.inl ?_)]
    rw [abc_bytes]
    intro h
    have : (List.take 13 (List.drop 1 (mark ++ ([1, 15, 31, 253, 0, 3, 0, 3] ++ abcS) ++ abc))).getD 0 0 = mark.getD 0 0 := by rw [h]
    exact absurd this (by show ¬ ((98 : Int) = 183); decide)
  have t43 : ((bB (abcH, (abc, ()))).take 43).length = 43 := by rw [List.length_take, abc_len]; rfl
  have m43 : ((bB (abcH, (abc, ()))).take 43).take 13 = mark := by
    rw [List.take_take, abc_bytes, List.append_assoc, List.take_append_of_le_length (by rw [mark_len]; decide)]
    rfl
  have p43 : pH ((((bB (abcH, (abc, ()))).take 43).drop 13).take 28) = abcH := by
    have e : (((bB (abcH, (abc, ()))).take 43).drop 13).take 28 = [1, 15, 31, 253, 0, 3, 0, 3] ++ abcS := by
      rw [List.drop_take, List.take_take, abc_bytes, List.append_assoc, List.drop_append_of_le_length (by rw [mark_len]; decide)]
      have e1 : List.drop 13 mark = [] := rfl
      rw [e1, List.nil_append]
      have e2 : min 28 (43 - 13) = ([1, 15, 31, 253, 0, 3, 0, 3] ++ abcS).length := by rw [List.length_append, hS20]; rfl
      rw [e2, List.take_append_of_le_length (Nat.le_refl _), List.take_length]
    rw [e]
    rfl
  have r17 : block_Read ((bB (abcH, (abc, ()))).take 43) = some ((zH, ([], ())), (0, 18)) := by
    rw [block_Read_spec _ (abc_allB.take _)]
    unfold rdK
    rw [p43, if_neg (by rw [t43]; decide), if_neg (by rw [t43]; decide), if_neg (fun h => h.elim (fun h => h m43) (fun h => h abc_ok)), if_pos (by rw [t43]; decide)]
  have r18 : block_Read (List.replicate 41 0) = some ((zH, ([], ())), (0, 12)) := by
    rw [block_Read_spec _ (zeros_bts _)]
    unfold rdK
    rw [if_neg (by decide), if_neg (by decide), if_pos (Or.inl (by decide))]
  have r19 : block_Read (mark ++ List.replicate 28 0) = some ((zH, ([], ())), (0, 12)) := by
    rw [block_Read_spec _ (Bts.append mark_bts (zeros_bts _))]
    unfold rdK
    rw [if_neg (by decide), if_neg (by decide), if_pos (Or.inr (by decide))]
  have tk13 : ([] ++ List.take 13 (List.drop (0 + 0) (bB (abcH, (abc, ()))))) = mark := by
    rw [List.nil_append, List.drop_zero, abc_bytes, List.append_assoc, List.take_append_of_le_length (by rw [mark_len]; decide)]
    rfl
  have dr1 : List.take (44 - 1) (List.drop (0 + 1) (bB (abcH, (abc, ())))) = (bB (abcH, (abc, ()))).drop 1 := by
    rw [List.take_of_length_le (by rw [d1]; decide)]
  have rc : block_Check (abcH, ([97, 98], ())) = some 8 := by
    rw [block_Check_spec]
    exact congrArg some (if_neg (fun h => absurd h.2 (by decide)))
  rw [bitloftlaw27_BlockNames_eq]
  refine Tot.eq (Tot.g (by decide) (Tot.be r1 (Tot.be r2 (Tot.be r3 (Tot.be r4 (Tot.be r5 (Tot.g (by decide) (Tot.g (by decide) (Tot.g (by decide) (Tot.g (by decide) (Tot.be r6 (Tot.be r7 ?_))))))))))))
  refine Tot.g (by decide) (Tot.g (by decide) (Tot.g (by decide) (Tot.g (by decide) (Tot.g (by decide) (Tot.g (by decide) (Tot.be r8 (Tot.be r9 (Tot.be r10 (Tot.be r11 (Tot.be r12 (Tot.be r13 ?_)))))))))))
  refine Tot.ifne_neg rfl (Tot.ifne_neg rfl (Tot.ifne_neg rfl (Tot.g (by decide) (Tot.g (by decide) (Tot.g (by decide) (Tot.g (by decide) (Tot.be r14 ?_)))))))
  refine Tot.g (by decide) (Tot.g (by decide) (Tot.be r15 (Tot.g (by decide) (Tot.g (by decide) ?_))))
  simp only
  rw [dr1, tk13]
  refine Tot.be r16 (Tot.g (by decide) (Tot.g (by decide) (Tot.be r17 (Tot.g (by decide) (Tot.g (by decide) (Tot.g (by decide) (Tot.g (by decide) (Tot.be r18 ?_))))))))
  refine Tot.g (by decide) (Tot.g (by decide) (Tot.g (by decide) (Tot.g (by decide) (Tot.g (by decide) (Tot.g (by decide) (Tot.g (by decide) (Tot.be r19 (Tot.be alive_true ?_))))))))
  refine Tot.ift_ (Tot.ifeq_pos rfl (Tot.ifeq_pos rfl (Tot.ifeq_pos rfl (Tot.ifeq_pos rfl (Tot.ifeq_pos rfl (Tot.ifeq_pos rfl (Tot.ifeq_pos rfl (Tot.ifeq_pos rfl (Tot.ifeq_pos rfl (Tot.ifeq_pos rfl (Tot.ifeq_pos rfl ?_)))))))))))
  refine Tot.it (fun _ => ?_) (fun k => absurd ?_ k)
  · exact Tot.be rc (Tot.ifeq_pos rfl (Tot.ifeq_pos rfl (Tot.ifeq_pos rfl (Tot.ifeq_pos rfl (Tot.ifeq_pos rfl (Tot.ifeq_pos rfl (Tot.so rfl)))))))
  · rw [beq_iff_eq]
    rfl
end Go.Ab

/-
  Chapter 27: blocks that are changed.
-/
set_option linter.unusedVariables false
set_option linter.unusedSimpArgs false
set_option maxRecDepth 10000
namespace Go.Ab
open Go
attribute [local irreducible] IntKind.wrap
theorem Tot.ifT {α : Type} {i : Decidable True} {x y : Option α} {Q : α → Prop} (h : Tot x Q) : Tot (@ite _ True i x y) Q := Tot.it (fun _ => h) (fun k => absurd trivial k)
theorem xorU8 {x y : Int} (hx : 0 ≤ x ∧ x < 256) (hy : 0 ≤ y ∧ y < 256) (h0 : y ≠ 0) : bitsXor .u8 x y ≠ x := by
  intro h
  have e : bitsXor .u8 x y = ((BitVec.ofInt 8 x ^^^ BitVec.ofInt 8 y).toNat : Int) := by
    show IntKind.wrap .u8 ((BitVec.ofInt 8 x ^^^ BitVec.ofInt 8 y).toNat : Int) = _
    rw [wu8]
    have := (BitVec.ofInt 8 x ^^^ BitVec.ofInt 8 y).isLt
    omega
  rw [e, BitVec.toNat_xor, ofInt_small 8 x hx.1 (by omega), ofInt_small 8 y hy.1 (by omega)] at h
  have h1 : x.toNat ^^^ y.toNat = x.toNat := by omega
  have h2 : x.toNat ^^^ (x.toNat ^^^ y.toNat) = y.toNat := by rw [← Nat.xor_assoc, Nat.xor_self, Nat.zero_xor]
  rw [h1, Nat.xor_self] at h2
  omega
theorem xorU8_byte (x y : Int) : 0 ≤ bitsXor .u8 x y ∧ bitsXor .u8 x y < 256 := by
  have := wr_u8 ((BitVec.ofInt 8 x ^^^ BitVec.ofInt 8 y).toNat : Int)
  exact this
theorem ref26_Of_spec (h : D_api_BlockHead) (hm : 0 ≤ h.1 ∧ h.1 < 256) {z : List Int} (hl : z.length ≤ 100000) : bitloftref26_Of h z = some (shaB (fr8 h ++ z)) := by
  have hL : (fr8 h ++ z).length = z.length + 8 := by rw [List.length_append, fr8_len]; omega
  rw [bitloftref26_Of_eq]
  exact Tot.eq (Tot.be (ref26_Front_spec h hm) (Tot.g (by rw [hL]; omega) (Tot.be (Of_spec _ (by rw [hL]; omega)) (Tot.so rfl))))
theorem Made_spec {a1 a2 : Int} {z : List Int} (hl : z.length ≤ 5000) : bitloftref27_Made a1 a2 z (List.replicate z.length 0) = some (storedB a1 a2 z) := by
  rw [bitloftref27_Made_eq]
  simp only [Int.ofNat_eq_natCast, List.length_replicate]
  refine Tot.eq (Tot.g (by rw [List.nil_append]; omega) (Tot.ifd_neg (by omega) (Tot.be (ref26_Of_spec _ ⟨by show (0:Int) ≤ 1; decide, by show (1:Int) < 256; decide⟩ (by omega)) (Tot.so rfl))))
theorem May_spec (a1 a2 : Int) (z : List Int) : bitloftref27_May 0 a1 a2 z = some (decide (mOK a1 a2 z)) := by
  rw [bitloftref27_May_eq, bitloftref27_Level_eq]
  refine Tot.eq (Tot.be (v := true) (Tot.eq (Tot.ifd_pos (by decide) (Tot.so (by decide)))) (Tot.ift_ (Tot.be (ref26_Check_spec _) (Tot.so ?_))))
  simp only [Int.ofNat_eq_natCast]
  by_cases h : mOK a1 a2 z
  · have : hC (1, (a1, (a2, ((z.length : Int), ((z.length : Int), (List.replicate 20 0, ())))))) = 0 := if_pos (mOK_stored h _)
    rw [this, decide_eq_true h]
    rfl
  · have : hC (1, (a1, (a2, ((z.length : Int), ((z.length : Int), (List.replicate 20 0, ())))))) = 8 := if_neg (fun k => h (hOK_mOK k))
    rw [this, decide_eq_false h]
    rfl
theorem Same_true {a b : D_api_Block} (h : bitloftref27_Same a b = some true) (ha : Bts a.2.1) (hb : Bts b.2.1) : fr8 a.1 = fr8 b.1 ∧ a.1.2.2.2.2.2.1 = b.1.2.2.2.2.2.1 ∧ a.2.1 = b.2.1 := by
  rw [bitloftref27_Same_eq] at h
  by_cases hp : peq T_api_BlockHead a.1 b.1 = true
  · rw [if_pos hp, eqStr ha hb, Option.some.injEq, decide_eq_true_eq] at h
    simp only [peq, Bool.and_eq_true, decide_eq_true_eq] at hp
    obtain ⟨p1, p2, p3, p4, p5, p6, _⟩ := hp
    refine ⟨?_, peqL_true p6, h⟩
    unfold fr8
    rw [p1, p2, p3, p4, p5]
  · rw [if_neg hp] at h
    cases h
theorem Same_some (a b : D_api_Block) : ∃ r, bitloftref27_Same a b = some r := by
  rw [bitloftref27_Same_eq]
  by_cases hp : peq T_api_BlockHead a.1 b.1 = true
  · rw [if_pos hp]; exact ⟨_, rfl⟩
  · rw [if_neg hp]; exact ⟨_, rfl⟩
theorem stored_bytes (a1 a2 : Int) (z : List Int) : bB (storedB a1 a2 z) = mark ++ (fr8 (storedB a1 a2 z).1 ++ (storedB a1 a2 z).1.2.2.2.2.2.1) ++ z := rfl
theorem drop_set_far {l : List Int} {j n : Nat} (x : Int) (h : j < n) : (l.set j x).drop n = l.drop n := by rw [List.drop_set, if_pos h]
theorem take_set_far {l : List Int} {j n : Nat} (x : Int) (h : n ≤ j) : (l.set j x).take n = l.take n := by rw [List.take_set, List.set_eq_of_length_le (by rw [List.length_take]; omega)]
set_option maxHeartbeats 1000000 in
theorem bitloftlaw27_BlockChanged_true (x0 : pden (.int .i64)) (z0 : wfP (.int .i64) x0) (x1 : pden (.int .i64)) (z1 : wfP (.int .i64) x1) (x2 : pden (.slice (.int .u8))) (z2 : wfP (.slice (.int .u8)) x2) (x3 : pden (.int .i64)) (z3 : wfP (.int .i64) x3) (x4 : pden (.int .u8)) (z4 : wfP (.int .u8) x4) :
    bitloftlaw27_BlockChanged x0 x1 x2 x3 x4 = some true := by
  have key : ∀ (a0 a1 : Int) (z : List Int) (a3 a4 : Int), Bts z → (0 ≤ a4 ∧ a4 < 256) → bitloftlaw27_BlockChanged a0 a1 z a3 a4 = some true := by
    intro a0 a1 z a3 a4 hz hy
    rw [bitloftlaw27_BlockChanged_eq]
    simp only [Int.ofNat_eq_natCast]
    refine Tot.eq (Tot.be alive_true (Tot.ifd (fun _ => Tot.so rfl) (fun h60 => Tot.be (May_spec a0 a1 z) ?_)))
    by_cases hm : mOK a0 a1 z
    rotate_left
    · rw [decide_eq_false hm]
      exact Tot.ifn (fun _ => Tot.so rfl) (fun k => absurd k (by decide))
    rw [decide_eq_true hm]
    refine Tot.ifn (fun k => absurd k (by decide)) (fun _ => Tot.ifeq (fun _ => Tot.so rfl) (fun h0 => Tot.ifn (fun k => absurd k (by decide)) (fun _ => ?_)))
    refine Tot.g trivial (Tot.g (by omega) (Tot.g (by omega) (Tot.g (by omega) (Tot.be (Made_spec (by omega)) (Tot.be (stored_Write hm) ?_)))))
    have hS20 : (storedB a0 a1 z).1.2.2.2.2.2.1.length = 20 := shaB_len _
    have hSB : Bts (storedB a0 a1 z).1.2.2.2.2.2.1 := shaB_bts _
    have hwb := stored_bytes a0 a1 z
    have hwl : (bB (storedB a0 a1 z)).length = z.length + 41 := by
      rw [hwb]; simp only [List.length_append, mark_len, fr8_len, hS20]; omega
    have hwB : Bts (bB (storedB a0 a1 z)) := by
      rw [hwb]; exact Bts.append (Bts.append mark_bts (Bts.append (fr8_bts _) hSB)) hz
    have hw21 : ((bB (storedB a0 a1 z)).drop 21).take 20 = (storedB a0 a1 z).1.2.2.2.2.2.1 := by
      have e : bB (storedB a0 a1 z) = (mark ++ fr8 (storedB a0 a1 z).1) ++ ((storedB a0 a1 z).1.2.2.2.2.2.1 ++ z) := by rw [hwb]; simp only [List.append_assoc]
      have e2 : (mark ++ fr8 (storedB a0 a1 z).1).length = 21 := rfl
      rw [e, List.drop_append_of_le_length (by omega), List.drop_of_length_le (by omega), List.nil_append, List.take_append_of_le_length (by omega), List.take_of_length_le (by omega)]
    have hw41 : (bB (storedB a0 a1 z)).drop 41 = z := by
      have e2 : (mark ++ (fr8 (storedB a0 a1 z).1 ++ (storedB a0 a1 z).1.2.2.2.2.2.1)).length = 41 := by simp only [List.length_append, mark_len, fr8_len, hS20]
      rw [hwb, List.drop_append_of_le_length (by omega), List.drop_of_length_le (by omega), List.nil_append]
    have hw13 : ((bB (storedB a0 a1 z)).drop 13).take 8 = fr8 (storedB a0 a1 z).1 := by
      have e : bB (storedB a0 a1 z) = mark ++ (fr8 (storedB a0 a1 z).1 ++ ((storedB a0 a1 z).1.2.2.2.2.2.1 ++ z)) := by rw [hwb]; simp only [List.append_assoc]
      rw [e, List.drop_append_of_le_length (by rw [mark_len]; omega), List.drop_of_length_le (by rw [mark_len]; omega), List.nil_append, List.take_append_of_le_length (by rw [fr8_len]; omega), List.take_of_length_le (by rw [fr8_len]; omega)]
    have hsum : (storedB a0 a1 z).1.2.2.2.2.2.1 = shaB (fr8 (storedB a0 a1 z).1 ++ z) := rfl
    simp only
    rw [hwl, w64 (x := (z.length : Int) + 41) (by omega) (by omega), Nat.zero_add, List.drop_zero]
    refine Tot.ifne_neg rfl (Tot.ifne_neg (by omega) (Tot.ifd (fun _ => Tot.so rfl) (fun h13 => Tot.ifd (fun _ => Tot.so rfl) (fun hlt => Tot.g (by omega) (Tot.g (by omega) (Tot.g (by omega) (Tot.g (by omega) ?_)))))))
    generalize hjd : a3.toNat = j
    have hj : 13 ≤ j ∧ j < z.length + 41 := by omega
    generalize hwd : bB (storedB a0 a1 z) = w at *
    have hx := Bts.getD hwB j
    have hne := xorU8 hx hy h0
    have hv := xorU8_byte (w.getD j 0) a4
    generalize bitsXor .u8 (w.getD j 0) a4 = v at *
    have hw'l : (w.set j v).length = z.length + 41 := by rw [List.length_set, hwl]
    have hw'B : Bts (w.set j v) := set_all hwB hv j
    rw [List.take_of_length_le (by omega)]
    generalize hw'd : w.set j v = w' at *
    refine Tot.be (block_Read_spec w' hw'B) ?_
    unfold rdK
    rw [if_neg (show ¬ w'.length > 50000 by omega), if_neg (show ¬ w'.length < 41 by omega)]
    by_cases h2 : w'.take 13 ≠ mark ∨ ¬ hOK (pH ((w'.drop 13).take 28))
    · rw [if_pos h2]
      exact Tot.ifne_pos (by decide) (Tot.ifT (Tot.ifeq_pos rfl (Tot.so rfl)))
    rw [if_neg h2]
    have hmk : w'.take 13 = mark := Classical.byContradiction fun h => h2 (Or.inl h)
    have ok : hOK (pH ((w'.drop 13).take 28)) := Classical.byContradiction fun h => h2 (Or.inr h)
    have hxl : ((w'.drop 13).take 28).length = 28 := by rw [List.length_take, List.length_drop]; omega
    have hxb : Bts ((w'.drop 13).take 28) := (hw'B.drop _).take _
    have hbp := hB_pH hxl hxb
    have hby := pH_byte hxb
    have hs' : (pH ((w'.drop 13).take 28)).2.2.2.2.2.1 = (w'.drop 21).take 20 := by
      show ((w'.drop 13).take 28).drop 8 = _
      rw [List.drop_take, List.drop_drop]
    have hf' : fr8 (pH ((w'.drop 13).take 28)) = (w'.drop 13).take 8 := by
      have h8 : (hB (pH ((w'.drop 13).take 28))).take 8 = fr8 (pH ((w'.drop 13).take 28)) := by
        unfold hB
        rw [List.take_append_of_le_length (by rw [fr8_len]; omega), List.take_of_length_le (by rw [fr8_len]; omega)]
      rw [hbp, List.take_take] at h8
      rw [← h8]
      rfl
    have hlen := hOK_len ok
    generalize hq : pH ((w'.drop 13).take 28) = h at *
    by_cases h3 : (w'.length : Int) < 41 + h.2.2.2.2.1
    · rw [if_pos h3]
      exact Tot.ifne_pos (by decide) (Tot.ifT (Tot.ifeq_neg (by decide) (Tot.so rfl)))
    rw [if_neg h3]
    have hrl : (((w'.drop 41).take h.2.2.2.2.1.toNat).length : Int) = h.2.2.2.2.1 := by rw [List.length_take, List.length_drop]; omega
    have hrB : Bts ((w'.drop 41).take h.2.2.2.2.1.toNat) := (hw'B.drop _).take _
    have hc : bC (h, ((w'.drop 41).take h.2.2.2.2.1.toNat, ())) = 0 := if_pos ⟨ok, hrl⟩
    have hbb : bB (h, ((w'.drop 41).take h.2.2.2.2.1.toNat, ())) = w'.take (41 + h.2.2.2.2.1).toNat := by
      show mark ++ hB h ++ (w'.drop 41).take h.2.2.2.2.1.toNat = _
      rw [hbp, ← hmk]
      have e : (41 + h.2.2.2.2.1).toNat = 13 + (28 + h.2.2.2.2.1.toNat) := by omega
      rw [e, List.take_add, List.take_add, List.drop_drop, List.append_assoc]
    refine Tot.ifne_neg rfl (Tot.ifd_neg (by simp only; omega) (Tot.be (ref27_Check_spec _) (Tot.ifne_neg hc ?_)))
    obtain ⟨sm, hsm⟩ := Same_some (h, ((w'.drop 41).take h.2.2.2.2.1.toNat, ())) (storedB a0 a1 z)
    refine Tot.be hsm ?_
    cases sm with
    | true =>
      exfalso
      obtain ⟨s1, s2, s3⟩ := Same_true hsm hrB hz
      have e1 : bB (h, ((w'.drop 41).take h.2.2.2.2.1.toNat, ())) = w := by
        rw [← hwd]
        show mark ++ (fr8 h ++ h.2.2.2.2.2.1) ++ (w'.drop 41).take h.2.2.2.2.1.toNat = mark ++ (fr8 (storedB a0 a1 z).1 ++ (storedB a0 a1 z).1.2.2.2.2.2.1) ++ z
        have s1' : fr8 h = fr8 (storedB a0 a1 z).1 := s1
        have s2' : h.2.2.2.2.2.1 = (storedB a0 a1 z).1.2.2.2.2.2.1 := s2
        have s3' : (w'.drop 41).take h.2.2.2.2.1.toNat = z := s3
        rw [s1', s2', s3']
      rw [hbb] at e1
      have e2 : (w'.take (41 + h.2.2.2.2.1).toNat).length = w.length := by rw [e1]
      rw [List.length_take, hw'l, hwl] at e2
      rw [List.take_of_length_le (by omega)] at e1
      have e3 : w'.getD j 0 = v := by rw [← hw'd]; exact getD_setK _ _ _ _ (by omega)
      rw [e1] at e3
      exact hne e3.symm
    | false =>
      refine Tot.iff_ (Tot.ifne (fun _ => Tot.so rfl) (fun h1 => ?_))
      have h1' : h.1 = 1 := h1
      refine Tot.be (Raw_stored (by decide) h1' hc hrB) ?_
      by_cases hs : shaB (fr8 h ++ (w'.drop 41).take h.2.2.2.2.1.toNat) = h.2.2.2.2.2.1
      rotate_left
      · rw [if_neg hs]
        exact Tot.ifeq_pos rfl (Tot.so rfl)
      · rw [if_pos hs]
        refine Tot.ifeq_neg (by show ¬((0:Int) = 22); decide) (Tot.ifT <| Tot.ifeq_pos rfl (Tot.be (ref26_Of_spec h hby (z := (w'.drop 41).take h.2.2.2.2.1.toNat) (by have := hlen.2; omega)) ?_))
        have hfin : h.2.2.2.2.2.1 = (storedB a0 a1 z).1.2.2.2.2.2.1 := by
          by_cases hin : 21 ≤ j ∧ j < 41
          · have f1 : fr8 h = fr8 (storedB a0 a1 z).1 := by
              rw [hf', ← hw13, ← hw'd, List.drop_set, if_neg (by omega), take_set_far _ (by omega)]
            have f2 : w'.drop 41 = z := by rw [← hw'd, drop_set_far _ hin.2, hw41]
            have f3 : h.2.2.2.2.1 = (z.length : Int) := by
              have g6 : (fr8 h).getD 6 0 = (fr8 (storedB a0 a1 z).1).getD 6 0 := by rw [f1]
              have g7 : (fr8 h).getD 7 0 = (fr8 (storedB a0 a1 z).1).getD 7 0 := by rw [f1]
              have g6' : h.2.2.2.2.1 / 256 % 256 = (z.length : Int) / 256 % 256 := g6
              have g7' : h.2.2.2.2.1 % 256 = (z.length : Int) % 256 := g7
              omega
            rw [← hs, f1, f2, f3, Int.toNat_natCast, List.take_length, ← hsum]
          · rw [hs', ← hw21, ← hw'd]
            by_cases hj2 : j < 21
            · rw [drop_set_far _ hj2]
            · rw [List.drop_set, if_neg (by omega), take_set_far _ (by omega)]
        have p1 : peq (.arr 20 (.int .u8)) (shaB (fr8 h ++ (w'.drop 41).take h.2.2.2.2.1.toNat)) (storedB a0 a1 z).1.2.2.2.2.2.1 = true := by
          rw [peq, peqL_eqv, hs, hfin]; exact decide_eq_true rfl
        have p2 : peq (.arr 20 (.int .u8)) h.2.2.2.2.2.1 (storedB a0 a1 z).1.2.2.2.2.2.1 = true := by
          rw [peq, peqL_eqv, hfin]; exact decide_eq_true rfl
        exact Tot.it (fun _ => Tot.so p2) (fun k => absurd p1 k)
  exact key x0 x1 x2 x3 x4 (Bts.of_wf z2.2) (wf_u8 z4)
end Go.Ab
