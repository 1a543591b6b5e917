/-
  An abstract machine over the model's code and its soundness; what the functions compute, as plain functions (printed by a program of this repo's own, checked here by the kernel); plain laws of them: part 5. Helper text, no statement of the claim stands here.
-/
import Derived.Test.YtlaioapnemghaaaGreatDoorTxtVd
import Derived.Lib.IndexMore
/-
  What the law leans on, of several chains of plain texts.
-/
set_option linter.unusedVariables false
set_option linter.unusedSimpArgs false
set_option maxHeartbeats 1000000
set_option maxRecDepth 10000
namespace Go.Ab
open Go
attribute [local irreducible] IntKind.wrap
def U32 (x : Int) : Prop := 0 ≤ x ∧ x < 4294967296
theorem bv_toInt (v : BitVec 32) : IntKind.wrap .u32 (v.toNat : Int) = v.toNat := by
  have := v.isLt
  rw [wu32]; omega
theorem bv_of (v : BitVec 32) : BitVec.ofInt 32 (v.toNat : Int) = v := by
  apply BitVec.eq_of_toNat_eq
  rw [BitVec.toNat_ofInt]
  have := v.isLt
  omega
theorem bX (x y : Int) : bitsXor .u32 x y = ((BitVec.ofInt 32 x ^^^ BitVec.ofInt 32 y).toNat : Int) := bv_toInt _
theorem bO (x y : Int) : bitsOr .u32 x y = ((BitVec.ofInt 32 x ||| BitVec.ofInt 32 y).toNat : Int) := bv_toInt _
theorem bA (x y : Int) : bitsAnd .u32 x y = ((BitVec.ofInt 32 x &&& BitVec.ofInt 32 y).toNat : Int) := bv_toInt _
theorem w_u (x : Int) : U32 (IntKind.wrap .u32 x) := by rw [wu32]; unfold U32; omega
theorem ch_eq (b c d : Int) : bitsXor .u32 d (bitsAnd .u32 b (bitsXor .u32 c d)) = bitsOr .u32 (bitsAnd .u32 b c) (bitsAnd .u32 (bitsXor .u32 4294967295 b) d) := by
  simp only [bX, bO, bA, bv_of]
  congr 2
  have h1 : BitVec.ofInt 32 4294967295 = BitVec.allOnes 32 := by decide
  rw [h1]
  ext i hi
  simp only [BitVec.getElem_xor, BitVec.getElem_and, BitVec.getElem_or, BitVec.getElem_allOnes]
  cases (BitVec.ofInt 32 b)[i] <;> cases (BitVec.ofInt 32 c)[i] <;> cases (BitVec.ofInt 32 d)[i] <;> rfl
theorem maj_eq (b c d : Int) : bitsOr .u32 (bitsAnd .u32 b c) (bitsAnd .u32 d (bitsOr .u32 b c)) = bitsOr .u32 (bitsOr .u32 (bitsAnd .u32 b c) (bitsAnd .u32 b d)) (bitsAnd .u32 c d) := by
  simp only [bX, bO, bA, bv_of]
  congr 2
  ext i hi
  simp only [BitVec.getElem_xor, BitVec.getElem_and, BitVec.getElem_or]
  cases (BitVec.ofInt 32 b)[i] <;> cases (BitVec.ofInt 32 c)[i] <;> cases (BitVec.ofInt 32 d)[i] <;> rfl
def rot (a : Int) (s : Int) : Int := bitsOr .u32 (IntKind.wrap .u32 (shlBy .u32 a s)) (shrBy .u32 a (32 - s))
theorem or_byte {x b : Int} (hx : U32 x) (hb : 0 ≤ b ∧ b < 256) : bitsOr .u32 (IntKind.wrap .u32 (x * 256)) (IntKind.wrap .u32 b) = IntKind.wrap .u32 (IntKind.wrap .u32 (x * 256) + IntKind.wrap .u32 b) := by
  rw [bO]
  simp only [wu32]
  have h1 : b % 4294967296 = b := by omega
  rw [h1]
  obtain ⟨n, rfl⟩ := Int.eq_ofNat_of_zero_le hb.1
  obtain ⟨q, hq⟩ : ∃ q : Nat, (x * 256) % 4294967296 = ((2 ^ 8 * q : Nat) : Int) ∧ 2 ^ 8 * q < 4294967296 := by
    refine ⟨(x % 16777216).toNat, ?_, ?_⟩ <;> simp <;> omega
  have hn : n < 2 ^ 8 := by omega
  rw [hq.1]
  have e : ∀ m : Nat, m < 4294967296 → (BitVec.ofInt 32 (m : Int)).toNat = m := fun m hm => by
    rw [BitVec.toNat_ofInt]; omega
  rw [BitVec.toNat_or, e _ hq.2, e n (by omega), ← Nat.two_pow_add_eq_or_of_lt hn]
  have := hq.2
  omega
theorem rotl_spec (a : Int) : math_bits_RotateLeft32 a 1 = some (rot a 1) ∧ math_bits_RotateLeft32 a 5 = some (rot a 5) ∧ math_bits_RotateLeft32 a 30 = some (rot a 30) := by
  have h1 : bitsAnd .u64 (IntKind.wrap .u64 1) 31 = 1 := by kernel_rfl
  have h5 : bitsAnd .u64 (IntKind.wrap .u64 5) 31 = 5 := by kernel_rfl
  have h30 : bitsAnd .u64 (IntKind.wrap .u64 30) 31 = 30 := by kernel_rfl
  have w1 : IntKind.wrap .u64 ((32 : Int) - 1) = 32 - 1 := by kernel_rfl
  have w5 : IntKind.wrap .u64 ((32 : Int) - 5) = 32 - 5 := by kernel_rfl
  have w30 : IntKind.wrap .u64 ((32 : Int) - 30) = 32 - 30 := by kernel_rfl
  refine ⟨?_, ?_, ?_⟩ <;> rw [math_bits_RotateLeft32_eq]
  · rw [h1, w1, gd_pos (by omega), gd_pos (by omega)]; rfl
  · rw [h5, w5, gd_pos (by omega), gd_pos (by omega)]; rfl
  · rw [h30, w30, gd_pos (by omega), gd_pos (by omega)]; rfl
theorem turn_spec (a s : Int) (h : 0 ≤ s ∧ s ≤ 32) : bitloftref01_turn a s = some (rot a s) := by
  rw [bitloftref01_turn_eq, w64 (by omega) (by omega), gd_pos (by omega), gd_pos (by omega)]; rfl
def bitl (n : Int) : Int := IntKind.wrap .u64 (IntKind.wrap .u64 n * 8)
def tailB (n : Int) : Nat → List Int
  | 0 => []
  | k + 1 => IntKind.wrap .u8 (shrBy .u64 (bitl n) (8 * (k : Int))) :: tailB n k
def padB (n : Int) : List Int := [128] ++ List.replicate ((119 - n % 64) % 64).toNat 0 ++ tailB n 8
theorem tailB_len (n : Int) : ∀ k, (tailB n k).length = k
  | 0 => rfl
  | k + 1 => by simp [tailB, tailB_len n k]
theorem w8_b (x : Int) : 0 ≤ IntKind.wrap .u8 x ∧ IntKind.wrap .u8 x < 256 := by rw [wu8]; omega
theorem tailB_bts (n : Int) : ∀ k, Bts (tailB n k)
  | 0 => Bts.nil
  | k + 1 => Bts.cons (w8_b _) (tailB_bts n k)
theorem padB_bts (n : Int) : Bts (padB n) := by
  refine Bts.append (Bts.append (Bts.cons (by omega) Bts.nil) (fun x hx => ?_)) (tailB_bts n 8)
  have := (List.mem_replicate.1 hx).2; omega
theorem padB_len (n : Int) (h : 0 ≤ n) : ((n + (padB n).length) % 64 = 0 ∧ (padB n).length ≤ 72) := by
  simp only [padB, List.length_append, List.length_cons, List.length_nil, List.length_replicate, tailB_len]
  omega
theorem sha_pad_c1_spec (n : Int) : ∀ (k : Nat) (h : List Int), k ≤ 8 → h.length + k ≤ 1000 → sha_pad_c1 n (8 * (k : Int) - 8) h = some (h ++ tailB n k)
  | 0, h, hk, hl => by
    rw [sha_pad_c1_eq, if_neg (by simp)]
    simp [tailB]
  | k + 1, h, hk, hl => by
    have e : 8 * ((k + 1 : Nat) : Int) - 8 = 8 * (k : Int) := by omega
    rw [e, sha_pad_c1_eq, if_pos (by simp; omega), gd_pos (by omega), gd_pos (by simp; omega), w64 (by omega) (by omega), sha_pad_c1_spec n k _ (by omega) (by simp; omega)]
    simp [tailB, bitl]
theorem sha_pad_spec (n : Int) (h : 0 ≤ n) : sha_pad n = some (padB n) := by
  rw [sha_pad_eq, gd_pos (by omega), gd_pos (by omega), tmod_nn h, w64 (by omega) (by omega), tmod_nn (by omega), gd_pos (by omega), gd_pos (by omega), gd_pos (by omega), gd_pos (by simp; omega)]
  have := sha_pad_c1_spec n 8 ([128] ++ List.replicate ((119 - n % 64) % 64).toNat 0) (by omega) (by simp; omega)
  exact this
theorem pad_c2_spec (n : Int) : ∀ (k : Nat) (h : List Int), k ≤ 8 → h.length + k ≤ 1000 → bitloftref01_Padding_c2 n ((k : Int) - 1) h = some (h ++ tailB n k)
  | 0, h, hk, hl => by
    rw [bitloftref01_Padding_c2_eq, if_neg (by simp)]
    simp [tailB]
  | k + 1, h, hk, hl => by
    have e : ((k + 1 : Nat) : Int) - 1 = (k : Int) := by omega
    rw [e, bitloftref01_Padding_c2_eq, if_pos (by simp), w64 (x := 8 * (k : Int)) (by omega) (by omega), gd_pos (by omega), gd_pos (by simp; omega), w64 (x := (k : Int) - 1) (by omega) (by omega), pad_c2_spec n k _ (by omega) (by simp; omega)]
    have e2 : (8 : Int) * IntKind.wrap .u64 n = IntKind.wrap .u64 n * 8 := Int.mul_comm _ _
    simp [tailB, bitl, e2]
theorem pad_c1_spec (n : Int) (hn : 0 ≤ n ∧ n ≤ 1000000000) : ∀ (j : Nat) (h : List Int), j < 64 → h.length + j ≤ 200 → (n + h.length + 8 + j) % 64 = 0 → bitloftref01_Padding_c1 n h = some (h ++ List.replicate j 0 ++ tailB n 8)
  | 0, h, hj, hl, hm => by
    rw [bitloftref01_Padding_c1_eq, gd_pos (by omega)]
    have hl' : Int.ofNat h.length = (h.length : Int) := rfl
    rw [hl', w64 (x := n + (h.length : Int)) (by omega) (by omega), w64 (by omega) (by omega), tmod_nn (by omega), if_neg (by simp; omega)]
    have := pad_c2_spec n 8 h (by omega) (by omega)
    simpa using this
  | j + 1, h, hj, hl, hm => by
    rw [bitloftref01_Padding_c1_eq, gd_pos (by omega)]
    have hl' : Int.ofNat h.length = (h.length : Int) := rfl
    rw [hl', w64 (x := n + (h.length : Int)) (by omega) (by omega), w64 (by omega) (by omega), tmod_nn (by omega), if_pos (by simp; omega), gd_pos (by simp; omega), pad_c1_spec n hn j (h ++ [0]) (by omega) (by simp; omega) (by simp; omega)]
    simp [List.replicate_succ]
theorem padding_spec (n : Int) (hn : 0 ≤ n ∧ n ≤ 1000000000) : bitloftref01_Padding n = some (padB n) := by
  rw [bitloftref01_Padding_eq, pad_c1_spec n hn ((119 - n % 64) % 64).toNat [128] (by omega) (by simp; omega) (by simp; omega)]
  rfl
theorem concat_two (a b : List Int) (h : a.length + b.length ≤ 1000000) : slices_Concat_byte_byte [a, b] = some (a ++ b) := by
  have ha : Int.ofNat a.length = (a.length : Int) := rfl
  have hb : Int.ofNat b.length = (b.length : Int) := rfl
  rw [slices_Concat_byte_byte_eq]
  rw [slices_Concat_byte_byte_c1_eq, if_pos (by simp), gd_pos (by omega), gd_pos (by simp)]
  simp only [List.getD_cons_zero, Int.toNat_zero, ha]
  rw [w64 (x := 0 + (a.length : Int)) (by omega) (by omega), if_neg (by simp), w64 (x := 0 + 1) (by omega) (by omega)]
  rw [slices_Concat_byte_byte_c1_eq, if_pos (by simp), gd_pos (by omega), gd_pos (by simp)]
  simp only [show (0 + 1 : Int).toNat = 1 from rfl, List.getD_cons_succ, List.getD_cons_zero, hb]
  rw [w64 (x := 0 + (a.length : Int) + (b.length : Int)) (by omega) (by omega), if_neg (by simp <;> omega), w64 (x := 0 + 1 + 1) (by omega) (by omega)]
  rw [slices_Concat_byte_byte_c1_eq, if_neg (by simp)]
  have hg : ∃ r, slices_Grow_byte_byte (0 + (a.length : Int) + (b.length : Int)) = some (r, 0, 0) := by
    rw [slices_Grow_byte_byte_eq, if_neg (by simp; omega), w64 (by omega) (by omega)]
    by_cases hz : (0 + (a.length : Int) + (b.length : Int)) - 0 > 0
    · rw [if_pos (by simpa using hz), gd_pos (by omega), gd_pos (by omega), gd_pos (by omega), gd_pos (by omega), gd_pos (by omega), gd_pos (by simp; omega), gd_pos (by omega), gd_pos (by simp; omega)]
      exact ⟨_, rfl⟩
    · rw [if_neg (by simpa using hz)]; exact ⟨_, rfl⟩
  obtain ⟨r, hr⟩ := hg
  rw [hr]
  simp only [Option.bind_some]
  rw [slices_Concat_byte_byte_c2_eq, if_pos (by simp), gd_pos (by omega), gd_pos (by simp), gd_pos (by simp; omega), w64 (by omega) (by omega)]
  simp only [List.getD_cons_zero, Int.toNat_zero, List.take_zero, List.nil_append]
  rw [slices_Concat_byte_byte_c3_eq, if_pos (by simp), gd_pos (by omega), gd_pos (by simp), gd_pos (by simp; omega), w64 (by omega) (by omega)]
  rw [slices_Concat_byte_byte_c3_eq, if_neg (by simp)]
  rfl
def bt (x b : Int) : Int := IntKind.wrap .u32 (IntKind.wrap .u32 (x * 256) + IntKind.wrap .u32 b)
theorem bt_u (x b : Int) : U32 (bt x b) := w_u _
def wordB (b : List Int) (t : Nat) : Int := bt (bt (bt (IntKind.wrap .u32 (b.getD (4 * t) 0)) (b.getD (4 * t + 1) 0)) (b.getD (4 * t + 2) 0)) (b.getD (4 * t + 3) 0)
def wordsB (b : List Int) (t : Nat) : Nat → List Int
  | 0 => []
  | k + 1 => wordB b t :: wordsB b (t + 1) k
theorem wordsB_len (b : List Int) : ∀ (k t : Nat), (wordsB b t k).length = k
  | 0, t => rfl
  | k + 1, t => by simp [wordsB, wordsB_len b k]
theorem done_c1 (b : List Int) (hb : b.length = 64) (x y : List Int) : ∀ (k t : Nat) (h : List Int), t + k = 16 → h.length = t → bitloftref01_Done_c1 b (t : Int) x y h = bitloftref01_Done_c2 16 x y (h ++ wordsB b t k)
  | 0, t, h, e, hl => by
    rw [bitloftref01_Done_c1_eq, if_neg (by simp; omega)]
    simp [wordsB]
  | k + 1, t, h, e, hl => by
    have hb' : Int.ofNat b.length = 64 := by rw [hb]; rfl
    have e0 : ((4 : Int) * (t : Int)).toNat = 4 * t := by omega
    have e1 : ((4 : Int) * (t : Int) + 1).toNat = 4 * t + 1 := by omega
    have e2 : ((4 : Int) * (t : Int) + 2).toNat = 4 * t + 2 := by omega
    have e3 : ((4 : Int) * (t : Int) + 3).toNat = 4 * t + 3 := by omega
    rw [bitloftref01_Done_c1_eq, if_pos (by simp; omega), hb']
    simp only [w64 (x := 4 * (t : Int)) (by omega) (by omega), w64 (x := 4 * (t : Int) + 1) (by omega) (by omega), w64 (x := 4 * (t : Int) + 2) (by omega) (by omega), w64 (x := 4 * (t : Int) + 3) (by omega) (by omega), w64 (x := (t : Int) + 1) (by omega) (by omega), e0, e1, e2, e3]
    rw [gd_pos (by omega), gd_pos (by omega), gd_pos (by omega), gd_pos (by omega), gd_pos (by omega), gd_pos (by omega), gd_pos (by omega), gd_pos (by omega), gd_pos (by simp; omega)]
    have ih := done_c1 b hb x y k (t + 1) (h ++ [wordB b t]) (by omega) (by simp; omega)
    have ec : ((t + 1 : Nat) : Int) = (t : Int) + 1 := by omega
    rw [ec] at ih
    simp only [List.append_assoc, List.singleton_append] at ih
    exact ih
theorem set_mid (W : List Int) (x v : Int) (R : List Int) : (W ++ x :: R).set W.length v = W ++ v :: R := by
  induction W with
  | nil => rfl
  | cons a W ih => simp [ih]
theorem get_mid (W : List Int) (x : Int) (R : List Int) : (W ++ x :: R).getD W.length 0 = x := by
  induction W with
  | nil => rfl
  | cons a W ih => simp
theorem bts_get {b : List Int} (h : Bts b) (i : Nat) : 0 ≤ b.getD i 0 ∧ b.getD i 0 < 256 := by
  rw [List.getD_eq_getElem?_getD]
  cases hi : b[i]? with
  | none => simp
  | some x => exact h x (List.mem_of_getElem? hi)
theorem do_byte (b : List Int) (hb : b.length = 64) (hB : Bts b) (x y W R : List Int) (i t : Nat) (v : Int) (hv : U32 v) (hi : i < 64) (ht : i / 4 = t) (hW : W.length = t) :
    sha_do_c1 b 64 (i : Int) x y (W ++ v :: R) = sha_do_c1 b 64 ((i : Int) + 1) x y (W ++ bt v (b.getD i 0) :: R) := by
  have hb' : Int.ofNat b.length = 64 := by rw [hb]; rfl
  have e : (IntKind.wrap .i64 (Int.tdiv (i : Int) 4)) = (t : Int) := by
    rw [tdiv_nn (by omega), w64 (by omega) (by omega)]; omega
  rw [sha_do_c1_eq, if_pos (by simp; omega), hb', e]
  rw [gd_pos (by omega), gd_pos (by omega), gd_pos (by omega), gd_pos (by omega), gd_pos (by omega), gd_pos (by omega), gd_pos (by omega), gd_pos (by omega), gd_pos (by omega)]
  have et : ((t : Int)).toNat = W.length := by omega
  have ei : ((i : Int)).toNat = i := by omega
  rw [et, ei, get_mid, set_mid, or_byte hv (bts_get hB i), w64 (x := (i : Int) + 1) (by omega) (by omega)]
  rfl
theorem do_c1 (b : List Int) (hb : b.length = 64) (hB : Bts b) (x y : List Int) : ∀ (k t : Nat) (W : List Int), t + k = 16 → W.length = t →
    sha_do_c1 b 64 (4 * (t : Int)) x y (W ++ List.replicate k 0) = sha_do_c1 b 64 64 x y (W ++ wordsB b t k)
  | 0, t, W, e, hl => by
    have : 4 * (t : Int) = 64 := by omega
    rw [this]; rfl
  | k + 1, t, W, e, hl => by
    have c : ∀ j : Nat, ((4 * t + j : Nat) : Int) = 4 * (t : Int) + (j : Int) := fun j => by omega
    have s0 := do_byte b hb hB x y W (List.replicate k 0) (4 * t) t 0 (by unfold U32; omega) (by omega) (by omega) hl
    have s1 := do_byte b hb hB x y W (List.replicate k 0) (4 * t + 1) t (bt 0 (b.getD (4 * t) 0)) (bt_u _ _) (by omega) (by omega) hl
    have s2 := do_byte b hb hB x y W (List.replicate k 0) (4 * t + 2) t (bt (bt 0 (b.getD (4 * t) 0)) (b.getD (4 * t + 1) 0)) (bt_u _ _) (by omega) (by omega) hl
    have s3 := do_byte b hb hB x y W (List.replicate k 0) (4 * t + 3) t (bt (bt (bt 0 (b.getD (4 * t) 0)) (b.getD (4 * t + 1) 0)) (b.getD (4 * t + 2) 0)) (bt_u _ _) (by omega) (by omega) hl
    rw [show ((4 * t : Nat) : Int) = 4 * (t : Int) by omega] at s0
    rw [show ((4 * t + 1 : Nat) : Int) = 4 * (t : Int) + 1 by omega] at s1
    rw [show ((4 * t + 2 : Nat) : Int) = 4 * (t : Int) + 1 + 1 by omega] at s2
    rw [show ((4 * t + 3 : Nat) : Int) = 4 * (t : Int) + 1 + 1 + 1 by omega] at s3
    have h0 : bt 0 (b.getD (4 * t) 0) = IntKind.wrap .u32 (b.getD (4 * t) 0) := by
      have := bts_get hB (4 * t)
      simp only [bt, wu32]; omega
    rw [List.replicate_succ, s0, s1, s2, s3, h0]
    have ih := do_c1 b hb hB x y k (t + 1) (W ++ [wordB b t]) (by omega) (by simp; omega)
    rw [show 4 * ((t + 1 : Nat) : Int) = 4 * (t : Int) + 1 + 1 + 1 + 1 by omega] at ih
    simp only [List.append_assoc, List.singleton_append] at ih
    exact ih
def nextW (a b c d : Int) : Int := rot (bitsXor .u32 (bitsXor .u32 (bitsXor .u32 a b) c) d) 1
def sch : Nat → List Int → List Int
  | 0, h => h
  | k + 1, h => sch k (h ++ [nextW (h.getD (h.length - 3) 0) (h.getD (h.length - 8) 0) (h.getD (h.length - 14) 0) (h.getD (h.length - 16) 0)])
theorem sch_len : ∀ (k : Nat) (h : List Int), (sch k h).length = h.length + k
  | 0, h => rfl
  | k + 1, h => by rw [sch, sch_len k]; simp; omega
theorem getD_left {h r : List Int} {t : Nat} (ht : t < h.length) : (h ++ r).getD t 0 = h.getD t 0 := by
  simp [List.getD_eq_getElem?_getD, List.getElem?_append_left ht]
theorem sch_pre : ∀ (k : Nat) (h : List Int) (t : Nat), t < h.length → (sch k h).getD t 0 = h.getD t 0
  | 0, h, t, ht => rfl
  | k + 1, h, t, ht => by
    rw [sch, sch_pre k _ t (by simp; omega), getD_left ht]
theorem sch_at : ∀ (k : Nat) (h : List Int) (t : Nat), 16 ≤ h.length → h.length ≤ t → t < h.length + k →
    (sch k h).getD t 0 = nextW ((sch k h).getD (t - 3) 0) ((sch k h).getD (t - 8) 0) ((sch k h).getD (t - 14) 0) ((sch k h).getD (t - 16) 0)
  | 0, h, t, h1, h2, h3 => by omega
  | k + 1, h, t, h1, h2, h3 => by
    by_cases he : t = h.length
    · subst he
      rw [sch]
      rw [sch_pre k _ h.length (by simp), sch_pre k _ (h.length - 3) (by simp; omega), sch_pre k _ (h.length - 8) (by simp; omega), sch_pre k _ (h.length - 14) (by simp; omega), sch_pre k _ (h.length - 16) (by simp; omega)]
      rw [get_mid, getD_left (by omega), getD_left (by omega), getD_left (by omega), getD_left (by omega)]
    · rw [sch]
      exact sch_at k _ t (by simp; omega) (by simp; omega) (by simp; omega)
theorem done_c2 (x y : List Int) : ∀ (k t : Nat) (h : List Int), t + k = 80 → 16 ≤ t → h.length = t → bitloftref01_Done_c2 (t : Int) x y h = bitloftref01_Done_c3 0 x y (sch k h) x
  | 0, t, h, e, h1, hl => by
    rw [bitloftref01_Done_c2_eq, if_neg (by simp; omega)]; rfl
  | k + 1, t, h, e, h1, hl => by
    have hl' : Int.ofNat h.length = (t : Int) := by rw [hl]; rfl
    rw [bitloftref01_Done_c2_eq, if_pos (by simp; omega), hl']
    simp only [w64 (x := (t : Int) - 3) (by omega) (by omega), w64 (x := (t : Int) - 8) (by omega) (by omega), w64 (x := (t : Int) - 14) (by omega) (by omega), w64 (x := (t : Int) - 16) (by omega) (by omega), w64 (x := (t : Int) + 1) (by omega) (by omega)]
    rw [gd_pos (by omega), gd_pos (by omega), gd_pos (by omega), gd_pos (by omega), gd_pos (by omega), gd_pos (by omega), gd_pos (by omega), gd_pos (by omega)]
    rw [show 0 + ((t : Int) - 3).toNat = h.length - 3 by omega, show 0 + ((t : Int) - 8).toNat = h.length - 8 by omega, show 0 + ((t : Int) - 14).toNat = h.length - 14 by omega, show 0 + ((t : Int) - 16).toNat = h.length - 16 by omega]
    rw [turn_spec _ 1 (by omega)]
    simp only [Option.bind_some]
    rw [gd_pos (by simp; omega)]
    have ih := done_c2 x y k (t + 1) (h ++ [nextW (h.getD (h.length - 3) 0) (h.getD (h.length - 8) 0) (h.getD (h.length - 14) 0) (h.getD (h.length - 16) 0)]) (by omega) (by omega) (by simp; omega)
    rw [show ((t + 1 : Nat) : Int) = (t : Int) + 1 by omega] at ih
    exact ih
def ff (t : Nat) (b c d : Int) : Int × Int :=
  if t < 20 then (bitsOr .u32 (bitsAnd .u32 b c) (bitsAnd .u32 (bitsXor .u32 4294967295 b) d), 1518500249)
  else if t < 40 then (bitsXor .u32 (bitsXor .u32 b c) d, 1859775393)
  else if t < 60 then (bitsOr .u32 (bitsOr .u32 (bitsAnd .u32 b c) (bitsAnd .u32 b d)) (bitsAnd .u32 c d), 2400959708)
  else (bitsXor .u32 (bitsXor .u32 b c) d, 3395469782)
theorem part_spec (t : Nat) (b c d : Int) : bitloftref01_part (t : Int) b c d = some (ff t b c d) := by
  rw [bitloftref01_part_eq]
  unfold ff
  by_cases h1 : t < 20
  · rw [if_pos (by simp; omega), if_pos h1]
  · rw [if_neg (by simp; omega), if_neg h1]
    by_cases h2 : t < 40
    · rw [if_pos (by simp; omega), if_pos h2]
    · rw [if_neg (by simp; omega), if_neg h2]
      by_cases h3 : t < 60
      · rw [if_pos (by simp; omega), if_pos h3]
      · rw [if_neg (by simp; omega), if_neg h3]
theorem mix_spec (t : Nat) (b c d : Int) (ht : t < 80) : sha_mix (IntKind.wrap .i64 (Int.tdiv (t : Int) 20)) b c d = some (ff t b c d).1 ∧ G_quarters.getD (IntKind.wrap .i64 (Int.tdiv (t : Int) 20)).toNat 0 = (ff t b c d).2 ∧ 0 ≤ IntKind.wrap .i64 (Int.tdiv (t : Int) 20) ∧ IntKind.wrap .i64 (Int.tdiv (t : Int) 20) < 4 := by
  have e : IntKind.wrap .i64 (Int.tdiv (t : Int) 20) = ((t / 20 : Nat) : Int) := by
    rw [tdiv_nn (by omega), w64 (by omega) (by omega)]; omega
  rw [e, sha_mix_eq]
  unfold ff
  by_cases h1 : t < 20
  · have : t / 20 = 0 := by omega
    rw [this, if_pos (by simp), if_pos h1, ch_eq]
    exact ⟨rfl, rfl, by omega, by omega⟩
  · rw [if_neg h1]
    by_cases h2 : t < 40
    · have : t / 20 = 1 := by omega
      rw [this, if_neg (by simp), if_neg (by simp), if_pos h2]
      exact ⟨rfl, rfl, by omega, by omega⟩
    · rw [if_neg h2]
      by_cases h3 : t < 60
      · have : t / 20 = 2 := by omega
        rw [this, if_neg (by simp), if_pos (by simp), if_pos h3, maj_eq]
        exact ⟨rfl, rfl, by omega, by omega⟩
      · have : t / 20 = 3 := by omega
        rw [this, if_neg (by simp), if_neg (by simp), if_neg h3]
        exact ⟨rfl, rfl, by omega, by omega⟩
structure S5 where
  a : Int
  b : Int
  c : Int
  d : Int
  e : Int
def S5.l (s : S5) : List Int := [s.a, s.b, s.c, s.d, s.e]
def rd (t : Nat) (w : Int) (s : S5) : S5 :=
  ⟨IntKind.wrap .u32 (IntKind.wrap .u32 (IntKind.wrap .u32 (IntKind.wrap .u32 (rot s.a 5 + (ff t s.b s.c s.d).1) + s.e) + (ff t s.b s.c s.d).2) + w), s.a, rot s.b 30, s.c, s.d⟩
def rnds (W : List Int) : Nat → Nat → S5 → S5
  | 0, _, s => s
  | k + 1, t, s => rnds W k (t + 1) (rd t (W.getD t 0) s)
theorem done_c3 (x y W : List Int) (hW : W.length = 80) : ∀ (k t : Nat) (s : S5), t + k = 80 → bitloftref01_Done_c3 (t : Int) x y W s.l = bitloftref01_Done_c4 0 x y (rnds W k t s).l
  | 0, t, s, e => by
    rw [bitloftref01_Done_c3_eq, if_neg (by simp; omega)]; rfl
  | k + 1, t, s, e => by
    have hl' : Int.ofNat W.length = 80 := by rw [hW]; rfl
    have g0 : s.l.getD 0 0 = s.a := rfl
    have g1 : s.l.getD 1 0 = s.b := rfl
    have g2 : s.l.getD 2 0 = s.c := rfl
    have g3 : s.l.getD 3 0 = s.d := rfl
    have g4 : s.l.getD 4 0 = s.e := rfl
    rw [bitloftref01_Done_c3_eq, if_pos (by simp; omega), hl']
    simp only [g0, g1, g2, g3, g4, part_spec, turn_spec _ 5 (by omega), turn_spec _ 30 (by omega), Option.bind_some, w64 (x := (t : Int) + 1) (by omega) (by omega), show 0 + ((t : Int)).toNat = t by omega]
    repeat rw [gd_pos (by omega)]
    have ih := done_c3 x y W hW k (t + 1) (rd t (W.getD t 0) s) (by omega)
    rw [show ((t + 1 : Nat) : Int) = (t : Int) + 1 by omega] at ih
    exact ih
def addF (x : List Int) (s : S5) : List Int := [IntKind.wrap .u32 (x.getD 0 0 + s.a), IntKind.wrap .u32 (x.getD 1 0 + s.b), IntKind.wrap .u32 (x.getD 2 0 + s.c), IntKind.wrap .u32 (x.getD 3 0 + s.d), IntKind.wrap .u32 (x.getD 4 0 + s.e)]
theorem done_c4 (y : List Int) (x s : S5) : bitloftref01_Done_c4 0 x.l y s.l = some (addF x.l s) := by
  have g : ∀ s : S5, s.l.getD 0 0 = s.a ∧ s.l.getD 1 0 = s.b ∧ s.l.getD 2 0 = s.c ∧ s.l.getD 3 0 = s.d ∧ s.l.getD 4 0 = s.e := fun s => ⟨rfl, rfl, rfl, rfl, rfl⟩
  have n1 : IntKind.wrap .i64 (0 + 1) = 1 := by kernel_rfl
  have n2 : IntKind.wrap .i64 (1 + 1) = 2 := by kernel_rfl
  have n3 : IntKind.wrap .i64 (2 + 1) = 3 := by kernel_rfl
  have n4 : IntKind.wrap .i64 (3 + 1) = 4 := by kernel_rfl
  have n5 : IntKind.wrap .i64 (4 + 1) = 5 := by kernel_rfl
  rw [bitloftref01_Done_c4_eq, if_pos (by simp), n1]
  repeat rw [gd_pos (by omega)]
  rw [bitloftref01_Done_c4_eq, if_pos (by simp), n2]
  repeat rw [gd_pos (by omega)]
  rw [bitloftref01_Done_c4_eq, if_pos (by simp), n3]
  repeat rw [gd_pos (by omega)]
  rw [bitloftref01_Done_c4_eq, if_pos (by simp), n4]
  repeat rw [gd_pos (by omega)]
  rw [bitloftref01_Done_c4_eq, if_pos (by simp), n5]
  repeat rw [gd_pos (by omega)]
  rw [bitloftref01_Done_c4_eq, if_neg (by simp)]
  rfl
def blk (x : S5) (b : List Int) : S5 :=
  let s := rnds (sch 64 (wordsB b 0 16)) 80 0 x
  ⟨IntKind.wrap .u32 (x.a + s.a), IntKind.wrap .u32 (x.b + s.b), IntKind.wrap .u32 (x.c + s.c), IntKind.wrap .u32 (x.d + s.d), IntKind.wrap .u32 (x.e + s.e)⟩
theorem Done_spec (x : S5) (b : List Int) (hb : b.length = 64) : bitloftref01_Done x.l b = some (blk x b).l := by
  have h1 := done_c1 b hb x.l (List.replicate 5 0) 16 0 [] rfl rfl
  have h2 := done_c2 x.l (List.replicate 5 0) 64 16 (wordsB b 0 16) rfl (by omega) (wordsB_len b 16 0)
  have h3 := done_c3 x.l (List.replicate 5 0) (sch 64 (wordsB b 0 16)) (by rw [sch_len, wordsB_len]) 80 0 x rfl
  rw [bitloftref01_Done_eq]
  refine h1.trans ?_
  rw [List.nil_append]
  refine Eq.trans h2 (Eq.trans h3 ?_)
  rw [done_c4]; rfl
def Ring (W : List Int) (t : Nat) (r : List Int) : Prop := r.length = 16 ∧ ∀ i, i < max t 16 → max t 16 ≤ i + 16 → r.getD (i % 16) 0 = W.getD i 0
theorem getD_set {r : List Int} {i j : Nat} {v : Int} (hi : i < r.length) : (r.set i v).getD j 0 = if i = j then v else r.getD j 0 := by
  simp only [List.getD_eq_getElem?_getD, List.getElem?_set]
  by_cases h : i = j
  · subst h; simp [hi]
  · simp [h]
theorem do_c2 (x y W : List Int) (hW : ∀ t, 16 ≤ t → t < 80 → W.getD t 0 = nextW (W.getD (t - 3) 0) (W.getD (t - 8) 0) (W.getD (t - 14) 0) (W.getD (t - 16) 0)) :
    ∀ (k t : Nat) (s : S5) (r : List Int), t + k = 80 → Ring W t r → sha_do_c2 s.a s.b s.c s.d s.e (t : Int) x y r = some (addF x (rnds W k t s))
  | 0, t, s, r, e, hr => by
    rw [sha_do_c2_eq, if_neg (by simp; omega)]
    repeat rw [gd_pos (by omega)]
    rfl
  | k + 1, t, s, r, e, hr => by
    obtain ⟨m1, m2, m3, m4⟩ := mix_spec t s.b s.c s.d (by omega)
    obtain ⟨r1, r5, r30⟩ := rotl_spec s.a
    obtain ⟨_, _, q30⟩ := rotl_spec s.b
    have et : (Int.tmod (t : Int) 16) = ((t % 16 : Nat) : Int) := by rw [tmod_nn (by omega)]; omega
    have ett : (((t % 16 : Nat) : Int)).toNat = t % 16 := by omega
    rw [sha_do_c2_eq, if_pos (by simp; omega)]
    by_cases h16 : 16 ≤ t
    · have e13 : (Int.tmod (IntKind.wrap .i64 ((t : Int) + 13)) 16) = (((t - 3) % 16 : Nat) : Int) := by rw [w64 (by omega) (by omega), tmod_nn (by omega)]; omega
      have e8 : (Int.tmod (IntKind.wrap .i64 ((t : Int) + 8)) 16) = (((t - 8) % 16 : Nat) : Int) := by rw [w64 (by omega) (by omega), tmod_nn (by omega)]; omega
      have e2 : (Int.tmod (IntKind.wrap .i64 ((t : Int) + 2)) 16) = (((t - 14) % 16 : Nat) : Int) := by rw [w64 (by omega) (by omega), tmod_nn (by omega)]; omega
      have e0 : t % 16 = (t - 16) % 16 := by omega
      have v13 := hr.2 (t - 3) (by omega) (by omega)
      have v8 := hr.2 (t - 8) (by omega) (by omega)
      have v2 := hr.2 (t - 14) (by omega) (by omega)
      have v0 := hr.2 (t - 16) (by omega) (by omega)
      rw [← e0] at v0
      have hn : rot (bitsXor .u32 (bitsXor .u32 (bitsXor .u32 (r.getD ((t - 3) % 16) 0) (r.getD ((t - 8) % 16) 0)) (r.getD ((t - 14) % 16) 0)) (r.getD (t % 16) 0)) 1 = W.getD t 0 := by
        rw [v13, v8, v2, v0, hW t h16 (by omega)]; rfl
      rw [if_pos (by simp; omega)]
      simp only [et, e13, e8, e2, (rotl_spec _).1, r5, q30, m1, m2, Option.bind_some, w64 (x := (t : Int) + 1) (by omega) (by omega), Int.toNat_natCast, hn]
      repeat rw [gd_pos (by omega)]
      have hr' : Ring W (t + 1) (r.set (t % 16) (W.getD t 0)) := by
        refine ⟨by simp [hr.1], fun i h1 h2 => ?_⟩
        rw [getD_set (by rw [hr.1]; omega)]
        by_cases hi : i = t
        · subst hi; rw [if_pos rfl]
        · rw [if_neg (by omega)]
          exact hr.2 i (by omega) (by omega)
      have hg : (r.set (t % 16) (W.getD t 0)).getD (t % 16) 0 = W.getD t 0 := by
        rw [getD_set (by rw [hr.1]; omega), if_pos rfl]
      have ih := do_c2 x y W hW k (t + 1) (rd t (W.getD t 0) s) _ (by omega) hr'
      rw [show ((t + 1 : Nat) : Int) = (t : Int) + 1 by omega] at ih
      rw [hg]
      exact ih
    · have v0 := hr.2 t (by omega) (by omega)
      rw [if_neg (by simp; omega)]
      simp only [et, r5, q30, m1, m2, Option.bind_some, w64 (x := (t : Int) + 1) (by omega) (by omega), Int.toNat_natCast, v0]
      repeat rw [gd_pos (by omega)]
      have hr' : Ring W (t + 1) r := ⟨hr.1, fun i h1 h2 => hr.2 i (by omega) (by omega)⟩
      have ih := do_c2 x y W hW k (t + 1) (rd t (W.getD t 0) s) _ (by omega) hr'
      rw [show ((t + 1 : Nat) : Int) = (t : Int) + 1 by omega] at ih
      exact ih
theorem do_spec (x : S5) (b : List Int) (hb : 64 ≤ b.length) (hB : Bts b) : sha_do x.l b = some (blk x (b.take 64)).l := by
  have hl : (b.take 64).length = 64 := by simp; omega
  have hl' : Int.ofNat (b.take 64).length = 64 := by rw [hl]; rfl
  rw [sha_do_eq, gd_pos (by omega), gd_pos (by simp; omega), hl']
  have h1 := do_c1 (b.take 64) hl (hB.take 64) x.l (List.replicate 5 0) 16 0 [] rfl rfl
  refine Eq.trans h1 ?_
  rw [List.nil_append, sha_do_c1_eq, if_neg (by simp)]
  repeat rw [gd_pos (by omega)]
  have hW : ∀ t, 16 ≤ t → t < 80 → _ := fun t h1 h2 => sch_at 64 (wordsB (b.take 64) 0 16) t (by rw [wordsB_len]; omega) (by rw [wordsB_len]; exact h1) (by rw [wordsB_len]; omega)
  have h2 := do_c2 x.l (List.replicate 5 0) (sch 64 (wordsB (b.take 64) 0 16)) hW 80 0 x (wordsB (b.take 64) 0 16) rfl ⟨wordsB_len _ _ _, fun i h1 h2 => by
    have hi : i < 16 := by omega
    rw [sch_pre 64 _ i (by rw [wordsB_len]; exact hi), Nat.mod_eq_of_lt hi]⟩
  refine Eq.trans h2 ?_
  rfl
def outAt (l : List Int) (i : Nat) : Int := IntKind.wrap .u8 (shrBy .u32 (l.getD (i / 4) 0) (24 - 8 * ((i % 4 : Nat) : Int)))
def outs (l : List Int) (t : Nat) : Nat → List Int
  | 0 => []
  | k + 1 => outAt l t :: outs l (t + 1) k
theorem outs_len (l : List Int) : ∀ (k t : Nat), (outs l t k).length = k
  | 0, t => rfl
  | k + 1, t => by simp [outs, outs_len l k]
theorem outs_bts (l : List Int) : ∀ (k t : Nat), Bts (outs l t k)
  | 0, t => Bts.nil
  | k + 1, t => Bts.cons (w8_b _) (outs_bts l k _)
theorem of_c2 (x l : List Int) : ∀ (k t : Nat) (P : List Int), t + k = 20 → P.length = t → bitloftref01_Of_c2 (t : Int) x l (P ++ List.replicate k 0) = some (P ++ outs l t k)
  | 0, t, P, e, hl => by
    rw [bitloftref01_Of_c2_eq, if_neg (by simp; omega)]; rfl
  | k + 1, t, P, e, hl => by
    have e1 : IntKind.wrap .i64 (Int.tdiv (t : Int) 4) = ((t / 4 : Nat) : Int) := by
      rw [tdiv_nn (by omega), w64 (by omega) (by omega)]; omega
    have e2 : IntKind.wrap .i64 (8 * (Int.tmod (t : Int) 4)) = 8 * ((t % 4 : Nat) : Int) := by
      rw [tmod_nn (by omega), w64 (by omega) (by omega)]; omega
    have e3 : IntKind.wrap .i64 (24 - 8 * ((t % 4 : Nat) : Int)) = 24 - 8 * ((t % 4 : Nat) : Int) := w64 (by omega) (by omega)
    rw [bitloftref01_Of_c2_eq, if_pos (by simp; omega), e1, e2, e3, w64 (x := (t : Int) + 1) (by omega) (by omega)]
    repeat rw [gd_pos (by omega)]
    rw [show ((t : Int)).toNat = P.length by omega, show (((t / 4 : Nat) : Int)).toNat = t / 4 by omega, List.replicate_succ, set_mid]
    have ih := of_c2 x l k (t + 1) (P ++ [outAt l t]) (by omega) (by simp; omega)
    rw [show ((t + 1 : Nat) : Int) = (t : Int) + 1 by omega] at ih
    simp only [List.append_assoc, List.singleton_append] at ih
    exact ih
theorem sum_c2 (l : List Int) : ∀ (k t : Nat) (P : List Int), t + k = 5 → P.length = 4 * t → sha_Sum_c2 l (t : Int) (P ++ List.replicate (4 * k) 0) = some (P ++ outs l (4 * t) (4 * k), 0)
  | 0, t, P, e, hl => by
    rw [sha_Sum_c2_eq, if_neg (by simp; omega)]; rfl
  | k + 1, t, P, e, hl => by
    rw [sha_Sum_c2_eq, if_pos (by simp; omega)]
    simp only [w64 (x := 4 * (t : Int)) (by omega) (by omega), w64 (x := 4 * (t : Int) + 1) (by omega) (by omega), w64 (x := 4 * (t : Int) + 2) (by omega) (by omega), w64 (x := 4 * (t : Int) + 3) (by omega) (by omega), w64 (x := (t : Int) + 1) (by omega) (by omega)]
    repeat rw [gd_pos (by omega)]
    rw [show ((t : Int)).toNat = t by omega, show (4 * (t : Int)).toNat = P.length by omega]
    have s0 : IntKind.wrap .u8 (Int.fdiv (l.getD t 0) 16777216) = outAt l (4 * t) := by
      unfold outAt shrBy
      rw [show 4 * t / 4 = t by omega, show 4 * t % 4 = 0 by omega]; rfl
    have s1 : IntKind.wrap .u8 (Int.fdiv (l.getD t 0) 65536) = outAt l (4 * t + 1) := by
      unfold outAt shrBy
      rw [show (4 * t + 1) / 4 = t by omega, show (4 * t + 1) % 4 = 1 by omega]; rfl
    have s2 : IntKind.wrap .u8 (Int.fdiv (l.getD t 0) 256) = outAt l (4 * t + 2) := by
      unfold outAt shrBy
      rw [show (4 * t + 2) / 4 = t by omega, show (4 * t + 2) % 4 = 2 by omega]; rfl
    have s3 : IntKind.wrap .u8 (l.getD t 0) = outAt l (4 * t + 3) := by
      unfold outAt shrBy
      rw [show (4 * t + 3) / 4 = t by omega, show (4 * t + 3) % 4 = 3 by omega]
      have : (2 : Int) ^ (min ((24 : Int) - 8 * ((3 : Nat) : Int)).toNat (IntKind.bits .u32)) = 1 := rfl
      rw [this, Int.fdiv_one]
    rw [s0, s1, s2, s3, show 4 * (k + 1) = 4 * k + 1 + 1 + 1 + 1 by omega, List.replicate_succ, List.replicate_succ, List.replicate_succ, List.replicate_succ, set_mid]
    have a1 := set_mid (P ++ [outAt l (4 * t)]) 0 (outAt l (4 * t + 1)) (0 :: 0 :: List.replicate (4 * k) 0)
    have a2 := set_mid (P ++ [outAt l (4 * t), outAt l (4 * t + 1)]) 0 (outAt l (4 * t + 2)) (0 :: List.replicate (4 * k) 0)
    have a3 := set_mid (P ++ [outAt l (4 * t), outAt l (4 * t + 1), outAt l (4 * t + 2)]) 0 (outAt l (4 * t + 3)) (List.replicate (4 * k) 0)
    simp only [List.append_assoc, List.cons_append, List.nil_append, List.length_append, List.length_cons, List.length_nil] at a1 a2 a3
    rw [show (4 * (t : Int) + 1).toNat = P.length + (0 + 1) by omega, a1, show (4 * (t : Int) + 2).toNat = P.length + (0 + 1 + 1) by omega, a2, show (4 * (t : Int) + 3).toNat = P.length + (0 + 1 + 1 + 1) by omega, a3]
    have ih := sum_c2 l k (t + 1) (P ++ [outAt l (4 * t), outAt l (4 * t + 1), outAt l (4 * t + 2), outAt l (4 * t + 3)]) (by omega) (by simp; omega)
    rw [show ((t + 1 : Nat) : Int) = (t : Int) + 1 by omega] at ih
    simp only [List.append_assoc, List.cons_append, List.nil_append] at ih
    exact ih
def blks : Nat → S5 → List Int → S5
  | 0, x, _ => x
  | k + 1, x, m => blks k (blk x (m.take 64)) (m.drop 64)
theorem sum_c1 : ∀ (k : Nat) (x : S5) (m : List Int), m.length = 64 * k → Bts m → sha_Sum_c1 m (List.replicate 20 0) x.l = some (outs (blks k x m).l 0 20, 0)
  | 0, x, m, hl, hB => by
    obtain rfl : m = [] := List.eq_nil_of_length_eq_zero (by omega)
    rw [sha_Sum_c1_eq, if_neg (by simp)]
    exact sum_c2 x.l 5 0 [] rfl rfl
  | k + 1, x, m, hl, hB => by
    rw [sha_Sum_c1_eq, if_pos (by rw [decide_eq_true_eq]; have : Int.ofNat m.length = (m.length : Int) := rfl; omega), do_spec x m (by omega) hB]
    simp only [Option.bind_some]
    rw [gd_pos (by omega), gd_pos (by simp; omega)]
    exact sum_c1 k _ (m.drop 64) (by simp; omega) (hB.drop 64)
theorem of_c1 (x0 m : List Int) (K : Nat) (hm : m.length = 64 * K) (hK : K ≤ 100000) : ∀ (k t : Nat) (x : S5), t + k = K → bitloftref01_Of_c1 (64 * (t : Int)) x0 m x.l = some (outs (blks k x (m.drop (64 * t))).l 0 20)
  | 0, t, x, e => by
    have hl : Int.ofNat m.length = (64 * K : Nat) := by rw [hm]; rfl
    rw [bitloftref01_Of_c1_eq, hl, if_neg (by simp; omega)]
    exact of_c2 x0 x.l 20 0 [] rfl rfl
  | k + 1, t, x, e => by
    have hl : Int.ofNat m.length = (64 * K : Nat) := by rw [hm]; rfl
    rw [bitloftref01_Of_c1_eq, hl, if_pos (by simp; omega), w64 (by omega) (by omega)]
    repeat rw [gd_pos (by omega)]
    rw [show (64 * (t : Int) + 64).toNat - (64 * (t : Int)).toNat = 64 by omega, show 0 + (64 * (t : Int)).toNat = 64 * t by omega, Done_spec x _ (by simp; omega)]
    simp only [Option.bind_some]
    have ih := of_c1 x0 m K hm hK k (t + 1) (blk x ((m.drop (64 * t)).take 64)) (by omega)
    rw [show 64 * ((t + 1 : Nat) : Int) = 64 * (t : Int) + 64 by omega] at ih
    rw [ih]
    simp only [blks, List.drop_drop]
    rw [show 64 * (t + 1) = 64 * t + 64 by omega]
def iv : S5 := ⟨1732584193, 4023233417, 2562383102, 271733878, 3285377520⟩
def shaB (a : List Int) : List Int := outs (blks ((a ++ padB a.length).length / 64) iv (a ++ padB a.length)).l 0 20
theorem shaB_len (a : List Int) : (shaB a).length = 20 := outs_len _ _ _
theorem shaB_bts (a : List Int) : Bts (shaB a) := outs_bts _ _ _
theorem Of_spec (a : List Int) (h : a.length ≤ 1000000) : bitloftref01_Of a = some (shaB a) := by
  have hp := padB_len (a.length : Int) (by omega)
  have ha : Int.ofNat a.length = (a.length : Int) := rfl
  rw [bitloftref01_Of_eq, gd_pos (by simp; omega), ha, padding_spec _ ⟨by omega, by omega⟩]
  simp only [Option.bind_some, bitloftref01_First_eq, List.nil_append]
  rw [gd_pos (by simp; omega)]
  have hm : (a ++ padB a.length).length = 64 * ((a ++ padB a.length).length / 64) := by
    simp only [List.length_append]; omega
  exact of_c1 (List.replicate 20 0) (a ++ padB a.length) _ hm (by simp only [List.length_append]; omega) _ 0 iv (by omega)
theorem Sum_spec (a : List Int) (hB : Bts a) : sha_Sum a = some (if a.length ≤ 20000 then (shaB a, 0) else (List.replicate 20 0, 4)) := by
  have ha : Int.ofNat a.length = (a.length : Int) := rfl
  rw [sha_Sum_eq, ha]
  by_cases h : a.length ≤ 20000
  · have hp := padB_len (a.length : Int) (by omega)
    rw [if_neg (by simp; omega), if_pos h, sha_pad_spec _ (by omega)]
    simp only [Option.bind_some]
    rw [concat_two _ _ (by omega)]
    simp only [Option.bind_some]
    have hm : (a ++ padB a.length).length = 64 * ((a ++ padB a.length).length / 64) := by
      simp only [List.length_append]; omega
    exact sum_c1 _ iv (a ++ padB a.length) hm (hB.append (padB_bts _))
  · rw [if_pos (by simp; omega), if_neg h]
def Tot {α : Type} (x : Option α) (P : α → Prop) : Prop := ∃ r, x = some r ∧ P r
theorem Tot.so {α : Type} {r : α} {P : α → Prop} (h : P r) : Tot (some r) P := ⟨r, rfl, h⟩
theorem Tot.of_eq {α : Type} {x : Option α} {r : α} {P : α → Prop} (e : x = some r) (h : P r) : Tot x P := ⟨r, e, h⟩
theorem Tot.b {α β : Type} {x : Option α} {f : α → Option β} {P : α → Prop} {Q : β → Prop} (h : Tot x P) (k : ∀ r, P r → Tot (f r) Q) : Tot (x.bind f) Q := by
  obtain ⟨r, e, p⟩ := h; obtain ⟨s, e', q⟩ := k r p; exact ⟨s, by rw [e, Option.bind_some, e'], q⟩
theorem Tot.be {α β : Type} {x : Option α} {f : α → Option β} {v : α} {Q : β → Prop} (h : x = some v) (k : Tot (f v) Q) : Tot (x.bind f) Q := by
  subst h; exact k
theorem Tot.g {α : Type} {p : Prop} {x : Option α} {Q : α → Prop} (h : p) (k : Tot x Q) : Tot (gd p x) Q := by rw [gd_pos h]; exact k
theorem Tot.it {α : Type} {c : Prop} {i : Decidable c} {x y : Option α} {Q : α → Prop} (h1 : c → Tot x Q) (h2 : ¬c → Tot y Q) : Tot (@ite _ c i x y) Q := by
  by_cases h : c
  · rw [if_pos h]; exact h1 h
  · rw [if_neg h]; exact h2 h
theorem Tot.ifd {α : Type} {p : Prop} {d : Decidable p} {i : Decidable (@decide p d = true)} {x y : Option α} {Q : α → Prop} (h1 : p → Tot x Q) (h2 : ¬p → Tot y Q) : Tot (@ite _ (@decide p d = true) i x y) Q :=
  Tot.it (fun h => h1 (of_decide_eq_true h)) (fun h => h2 (fun hp => h (decide_eq_true hp)))
theorem Tot.ifd_pos {α : Type} {p : Prop} {d : Decidable p} {i : Decidable (@decide p d = true)} {x y : Option α} {Q : α → Prop} (h : p) (h1 : Tot x Q) : Tot (@ite _ (@decide p d = true) i x y) Q :=
  Tot.ifd (fun _ => h1) (fun k => absurd h k)
theorem Tot.ifd_neg {α : Type} {p : Prop} {d : Decidable p} {i : Decidable (@decide p d = true)} {x y : Option α} {Q : α → Prop} (h : ¬p) (h1 : Tot y Q) : Tot (@ite _ (@decide p d = true) i x y) Q :=
  Tot.ifd (fun k => absurd k h) (fun _ => h1)
theorem Tot.ifne {α : Type} {a b : Int} {i : Decidable ((a != b) = true)} {x y : Option α} {Q : α → Prop} (h1 : a ≠ b → Tot x Q) (h2 : a = b → Tot y Q) : Tot (@ite _ ((a != b) = true) i x y) Q :=
  Tot.it (fun h => h1 (by simpa using h)) (fun h => h2 (by simpa using h))
theorem Tot.ifne_neg {α : Type} {a b : Int} {i : Decidable ((a != b) = true)} {x y : Option α} {Q : α → Prop} (h : a = b) (h1 : Tot y Q) : Tot (@ite _ ((a != b) = true) i x y) Q :=
  Tot.ifne (fun k => absurd h k) (fun _ => h1)
theorem Tot.ifeq {α : Type} {a b : Int} {i : Decidable ((a == b) = true)} {x y : Option α} {Q : α → Prop} (h1 : a = b → Tot x Q) (h2 : a ≠ b → Tot y Q) : Tot (@ite _ ((a == b) = true) i x y) Q :=
  Tot.it (fun h => h1 (by simpa using h)) (fun h => h2 (by simpa using h))
theorem Tot.ifeq_pos {α : Type} {a b : Int} {i : Decidable ((a == b) = true)} {x y : Option α} {Q : α → Prop} (h : a = b) (h1 : Tot x Q) : Tot (@ite _ ((a == b) = true) i x y) Q :=
  Tot.ifeq (fun _ => h1) (fun k => absurd h k)
theorem Tot.ifeq_neg {α : Type} {a b : Int} {i : Decidable ((a == b) = true)} {x y : Option α} {Q : α → Prop} (h : a ≠ b) (h1 : Tot y Q) : Tot (@ite _ ((a == b) = true) i x y) Q :=
  Tot.ifeq (fun k => absurd k h) (fun _ => h1)
theorem Tot.ifn {α : Type} {b : Bool} {i : Decidable ((not b) = true)} {x y : Option α} {Q : α → Prop} (h1 : b = false → Tot x Q) (h2 : b = true → Tot y Q) : Tot (@ite _ ((not b) = true) i x y) Q :=
  Tot.it (fun h => h1 (by simpa using h)) (fun h => h2 (by simpa using h))
theorem Tot.eq {α : Type} {x : Option α} {v : α} (h : Tot x fun r => r = v) : x = some v := by obtain ⟨r, e, p⟩ := h; rw [e, p]
theorem clone_any {α : Type} (l : List α) (s : Nat) (hs : s ≤ 64) (hl : l.length ≤ 1048576) :
    (anyv (fun (r1 : Bool) => r1 = true → l = []) fun (r1 : Bool) =>
      if r1 = true then some ([]) else gd ((List.length ([] ++ l)) * s ≤ 140737488355328) <| some ([] ++ l)) = some l := by
  refine anyv_eq false (by simp) (fun r hr => ?_)
  by_cases h : r = true
  · rw [if_pos h, hr h]
  · rw [if_neg h, gd_pos (by
      rw [List.nil_append]
      exact Nat.le_trans (Nat.mul_le_mul hl hs) (by decide)), List.nil_append]
theorem bytes_Clone_T (l : List Int) (h : l.length ≤ 1048576) : bytes_Clone l = some l := by rw [bytes_Clone_eq]; exact clone_any l 1 (by decide) h
theorem getD_all {α : Type} {P : α → Prop} {l : List α} {d : α} (h : ∀ x ∈ l, P x) (i : Nat) (hi : i < l.length) : P (l.getD i d) := by
  rw [List.getD_eq_getElem?_getD, List.getElem?_eq_getElem hi]; exact h _ (List.getElem_mem hi)
theorem getD_all' {α : Type} {P : α → Prop} {l : List α} {d : α} (h : ∀ x ∈ l, P x) (hd : P d) (i : Nat) : P (l.getD i d) := by
  by_cases hi : i < l.length
  · exact getD_all h i hi
  · rw [List.getD_eq_getElem?_getD, List.getElem?_eq_none (by omega)]; exact hd
theorem peqL_same {α : Type} {eq : α → α → Bool} (h : ∀ x, eq x x = true) : ∀ l : List α, peqL eq l l = true
  | [] => rfl
  | x :: l => by rw [peqL, h, peqL_same h l]; rfl
def hOK (h : D_api_BlockHead) : Prop := 0 ≤ h.2.1 ∧ h.2.1 < 16 ∧ 1 ≤ h.2.2.2.1 ∧ h.2.2.2.1 ≤ 4096 ∧ 0 ≤ h.2.2.1 ∧ h.2.2.1 + h.2.2.2.1 ≤ 8192 ∧ ((h.1 = 1 ∧ h.2.2.2.2.1 = h.2.2.2.1) ∨ (h.1 = 2 ∧ 0 < h.2.2.2.2.1 ∧ h.2.2.2.2.1 < h.2.2.2.1))
instance (h : D_api_BlockHead) : Decidable (hOK h) := by unfold hOK; infer_instance
def hC (h : D_api_BlockHead) : Int := if hOK h then 0 else 8
theorem header_Check_spec (h : D_api_BlockHead) : header_Check h = some (hC h) := by
  rw [header_Check_eq]
  obtain ⟨m, mem, off, raw, len, sum, u⟩ := h
  simp only [hC, decide_eq_true_eq, beq_iff_eq]
  by_cases hr : 1 ≤ raw ∧ raw ≤ 4096
  · rw [w64 (by omega) (by omega)]
    by_cases ok : hOK (m, mem, off, raw, len, sum, u)
    · rw [if_pos ok]; simp only [hOK] at ok
      rw [if_neg (by omega), if_neg (by omega), if_neg (by omega), if_neg (by omega), if_neg (by omega), if_neg (by omega)]
      rcases ok.2.2.2.2.2.2 with ⟨h1, h2⟩ | ⟨h1, h2, h3⟩
      · rw [if_pos h1, if_pos h2, if_pos h2]
      · rw [if_neg (by omega), if_pos h1, if_pos h2, if_pos h3]
    · rw [if_neg ok]; simp only [hOK] at ok
      by_cases h1 : mem < 0
      · rw [if_pos h1]
      by_cases h2 : mem ≥ 16
      · rw [if_neg h1, if_pos h2, if_pos h2]
      by_cases h3 : off < 0
      · rw [if_neg h1, if_neg h2, if_neg (by omega), if_neg (by omega), if_pos h3]
      by_cases h4 : off > 8192 - raw
      · rw [if_neg h1, if_neg h2, if_neg (by omega), if_neg (by omega), if_neg h3, if_pos h4]
      rw [if_neg h1, if_neg h2, if_neg (by omega), if_neg (by omega), if_neg h3, if_neg h4]
      by_cases h5 : m = 1
      · rw [if_pos h5, if_neg (by omega), if_neg (by omega)]
      by_cases h6 : m = 2
      · rw [if_neg h5, if_pos h6]
        by_cases h7 : len > 0
        · rw [if_pos h7, if_neg (by omega)]
        · rw [if_neg h7]
      · rw [if_neg h5, if_neg h6]
  · rw [if_neg (show ¬ hOK (m, mem, off, raw, len, sum, u) from fun ok => hr (by simp only [hOK] at ok; omega))]
    by_cases h1 : mem < 0
    · rw [if_pos h1]
    by_cases h2 : mem ≥ 16
    · rw [if_neg h1, if_pos h2, if_pos h2]
    by_cases h3 : raw < 1
    · rw [if_neg h1, if_neg h2, if_pos h3]
    · rw [if_neg h1, if_neg h2, if_neg h3, if_pos (by omega), if_pos (by omega)]
def bC (b : D_api_Block) : Int := if hOK b.1 ∧ (b.2.1.length : Int) = b.1.2.2.2.2.1 then 0 else 8
theorem hC_ne (h : D_api_BlockHead) : (hC h != 0) = true ↔ ¬ hOK h := by
  unfold hC; split <;> simp_all
theorem block_Check_spec (b : D_api_Block) : block_Check b = some (bC b) := by
  rw [block_Check_eq, header_Check_spec]
  simp only [Option.bind_some, hC_ne]
  simp only [bC, bne_iff_ne, ne_eq, Int.ofNat_eq_natCast]
  by_cases h1 : hOK b.1 <;> by_cases h2 : (b.2.1.length : Int) = b.1.2.2.2.2.1 <;> simp [h1, h2]
def fr8 (h : D_api_BlockHead) : List Int := [h.1 % 256, h.2.1 % 256, (h.2.2.1 / 256) % 256, h.2.2.1 % 256, (h.2.2.2.1 / 256) % 256, h.2.2.2.1 % 256, (h.2.2.2.2.1 / 256) % 256, h.2.2.2.2.1 % 256]
theorem shr0 (a : Int) : shrBy .i64 a 0 = a := by rw [shr_i64 _ _ (by omega) (by omega)]; simp
theorem shr8 (a : Int) : shrBy .i64 a 8 = a / 256 := by rw [shr_i64 _ _ (by omega) (by omega)]; rfl
theorem wlit (n : Int) (h : -9223372036854775808 ≤ n ∧ n ≤ 9223372036854775807) : IntKind.wrap .i64 n = n := w64 h.1 h.2
theorem front_one (v18 : List Int) (v19 : Int) (h8 : List Int) (v : Int) (h0 : 0 ≤ v19) (h4 : v19 < 5) (hw : G_widths.getD v19.toNat 0 = 1) (hv : v18.getD v19.toNat 0 = v) (hl : h8.length ≤ 100) :
    header_front_c1 v18 v19 h8 = header_front_c1 v18 (v19 + 1) (h8 ++ [v % 256]) := by
  rw [header_front_c1_eq, if_pos (by simpa using h4), gd_pos h0, gd_pos h4, gd_pos h0, gd_pos h4, hw, hv]
  rw [header_front_c2_eq, if_pos (by decide), gd_pos h0, gd_pos h4, hw]
  rw [wlit ((1:Int) - 1) (by omega), wlit ((1:Int) - 1 - 0) (by omega), wlit ((8:Int) * (1 - 1 - 0)) (by omega), wlit ((0:Int)+1) (by omega)]
  rw [gd_pos (by omega), gd_pos (by simp; omega)]
  rw [header_front_c2_eq, if_neg (by decide), w64 (x := v19 + 1) (by omega) (by omega), wu8]
  rw [show (8 * (1 - 1 - 0) : Int) = 0 by decide, shr0]
theorem front_two (v18 : List Int) (v19 : Int) (h8 : List Int) (v : Int) (h0 : 0 ≤ v19) (h4 : v19 < 5) (hw : G_widths.getD v19.toNat 0 = 2) (hv : v18.getD v19.toNat 0 = v) (hl : h8.length ≤ 100) :
    header_front_c1 v18 v19 h8 = header_front_c1 v18 (v19 + 1) (h8 ++ [(v / 256) % 256, v % 256]) := by
  rw [header_front_c1_eq, if_pos (by simpa using h4), gd_pos h0, gd_pos h4, gd_pos h0, gd_pos h4, hw, hv]
  rw [header_front_c2_eq, if_pos (by decide), gd_pos h0, gd_pos h4, hw]
  rw [wlit ((2:Int) - 1) (by omega), wlit ((2:Int) - 1 - 0) (by omega), wlit ((8:Int) * (2 - 1 - 0)) (by omega), wlit ((0:Int)+1) (by omega)]
  rw [gd_pos (by omega), gd_pos (by simp; omega)]
  rw [header_front_c2_eq, if_pos (by decide), gd_pos h0, gd_pos h4, hw]
  rw [wlit ((2:Int) - 1) (by omega), wlit ((2:Int) - 1 - (0 + 1)) (by omega), wlit ((8:Int) * (2 - 1 - (0 + 1))) (by omega), wlit ((0:Int)+1+1) (by omega)]
  rw [gd_pos (by omega), gd_pos (by simp; omega)]
  rw [header_front_c2_eq, if_neg (by decide), w64 (x := v19 + 1) (by omega) (by omega), wu8, wu8]
  rw [show (8 * (2 - 1 - 0) : Int) = 8 by decide, show (8 * (2 - 1 - (0 + 1)) : Int) = 0 by decide, shr0, shr8]
  simp
theorem header_front_spec (h : D_api_BlockHead) (hm : 0 ≤ h.1 ∧ h.1 < 256) : header_front h = some (fr8 h) := by
  rw [header_front_eq, w64 (by omega) (by omega)]
  simp only [List.replicate, List.set_cons_zero, List.set_cons_succ]
  rw [front_one _ 0 _ h.1 (by decide) (by decide) (by decide) rfl (by decide)]
  rw [front_one _ (0+1) _ h.2.1 (by decide) (by decide) (by decide) rfl (by simp)]
  rw [front_two _ (0+1+1) _ h.2.2.1 (by decide) (by decide) (by decide) rfl (by simp)]
  rw [front_two _ (0+1+1+1) _ h.2.2.2.1 (by decide) (by decide) (by decide) rfl (by simp)]
  rw [front_two _ (0+1+1+1+1) _ h.2.2.2.2.1 (by decide) (by decide) (by decide) rfl (by simp)]
  rw [header_front_c1_eq, if_neg (by decide)]
  simp [fr8]
theorem ref26_Front_spec (h : D_api_BlockHead) (hm : 0 ≤ h.1 ∧ h.1 < 256) : bitloftref26_Front h = some (fr8 h) := by
  rw [bitloftref26_Front_eq]
  simp only [bitloftref26_two_eq, wu8, fdiv_pos _ (show (0:Int) < 256 by decide)]
  rw [gd_pos (by decide)]
  simp only [Option.bind_some]
  rw [gd_pos (by simp), gd_pos (by decide)]
  simp only [Option.bind_some]
  rw [gd_pos (by simp), gd_pos (by decide)]
  simp only [Option.bind_some]
  rw [gd_pos (by simp)]
  simp only [fr8, List.cons_append, List.nil_append]
  rw [Int.emod_eq_of_lt hm.1 hm.2]
def mark : List Int := [183, 98, 105, 116, 108, 111, 102, 116, 32, 98, 108, 107, 10]
theorem marker_Bytes_spec : marker_Bytes = some mark := by rw [marker_Bytes_eq, gd_pos (by decide)]; rfl
theorem ref25_Bytes_spec : bitloftref25_Bytes = some mark := by rw [bitloftref25_Bytes_eq]; rfl
def hB (h : D_api_BlockHead) : List Int := fr8 h ++ h.2.2.2.2.2.1
theorem fr8_len (h : D_api_BlockHead) : (fr8 h).length = 8 := rfl
def bB (b : D_api_Block) : List Int := mark ++ hB b.1 ++ b.2.1
def bWf (b : D_api_Block) : Prop := (0 ≤ b.1.1 ∧ b.1.1 < 256) ∧ b.1.2.2.2.2.2.1.length = 20
theorem or_shift (a b : Nat) (ha : a < 4294967296) (hb : b < 256) : bitsOr .i64 ((a : Int) * 256) (b : Int) = (a : Int) * 256 + b := by
  unfold bitsOr
  have h1 : BitVec.ofInt 64 ((a : Int) * 256) = BitVec.ofNat 64 (a * 256) := by
    rw [show (a : Int) * 256 = ((a * 256 : Nat) : Int) by omega]; exact BitVec.ofInt_natCast _ _
  have h2 : BitVec.ofInt 64 (b : Int) = BitVec.ofNat 64 b := BitVec.ofInt_natCast _ _
  show IntKind.wrap .i64 ((BitVec.ofInt 64 ((a : Int) * 256) ||| BitVec.ofInt 64 (b : Int)).toNat : Int) = _
  rw [h1, h2, BitVec.toNat_or, BitVec.toNat_ofNat, BitVec.toNat_ofNat, Nat.mod_eq_of_lt (by omega), Nat.mod_eq_of_lt (by omega)]
  have h3 := Nat.two_pow_add_eq_or_of_lt (i := 8) (b := b) (by omega) a
  rw [show a * 256 = 2 ^ 8 * a by omega, ← h3, w64 (by omega) (by omega)]
  omega
theorem or_byteK {x y : Int} (hx : 0 ≤ x ∧ x < 4294967296) (hy : 0 ≤ y ∧ y < 256) : bitsOr .i64 (x * 256) y = x * 256 + y := by
  obtain ⟨a, rfl⟩ := Int.eq_ofNat_of_zero_le hx.1
  obtain ⟨b, rfl⟩ := Int.eq_ofNat_of_zero_le hy.1
  exact or_shift a b (by omega) (by omega)
theorem getD_setK {α : Type} (xs : List α) (i : Nat) (x d : α) (h : i < xs.length) : (xs.set i x).getD i d = x := by
  simp [List.getD, h]
theorem Bts.getD {xs : List Int} (h : Bts xs) (i : Nat) : 0 ≤ xs.getD i 0 ∧ xs.getD i 0 < 256 := by
  by_cases hi : i < xs.length
  · simp only [List.getD_eq_getElem?_getD, List.getElem?_eq_getElem hi, Option.getD_some]; exact h _ (List.getElem_mem hi)
  · simp [List.getD_eq_getElem?_getD, List.getElem?_eq_none (by omega : xs.length ≤ i)]
theorem parse_step (v0 : List Int) (v5 v17 v18 : Int) (b8 : D_api_BlockHead) (b9 : List Int) (h0 : 0 ≤ v5) (h5 : v5 < 5) (hlt : v18 < v17) (h18 : 0 ≤ v18) (h17 : v17 ≤ 2) (hb : Bts v0) (hl : 0 < v0.length) (hx : 0 ≤ b9.getD v5.toNat 0 ∧ b9.getD v5.toNat 0 < 256) :
    header_Parse_c2 v0 v5 G_widths v5 v17 v18 b8 b9 = header_Parse_c2 (v0.drop 1) v5 G_widths v5 v17 (v18 + 1) b8 (b9.set v5.toNat (b9.getD v5.toNat 0 * 256 + v0.getD 0 0)) := by
  have hy := hb.getD 0
  rw [header_Parse_c2_eq, if_pos (by simpa using hlt)]
  rw [gd_pos h0, gd_pos h5, gd_pos (by decide), gd_pos (by decide), gd_pos (by simp only [Int.ofNat_eq_natCast]; omega), gd_pos h0, gd_pos h5, gd_pos (by decide), gd_pos (by simp only [Int.ofNat_eq_natCast]; omega)]
  rw [w64 (x := v18 + 1) (by omega) (by omega), w64 (x := b9.getD v5.toNat 0 * 256) (by omega) (by omega), w64 (x := v0.getD 0 0) (by omega) (by omega), or_byteK ⟨hx.1, by omega⟩ hy]
theorem parse_one (v0 : List Int) (v5 : Int) (b8 : D_api_BlockHead) (b9 : List Int) (h0 : 0 ≤ v5) (h5 : v5 < 5) (hw : G_widths.getD v5.toNat 0 = 1) (hb : Bts v0) (hl : 0 < v0.length) (hx : b9.getD v5.toNat 0 = 0) (hn : b9.length = 5) :
    header_Parse_c1 v0 G_widths v5 b8 b9 = header_Parse_c1 (v0.drop 1) G_widths (v5 + 1) b8 (b9.set v5.toNat (v0.getD 0 0)) := by
  rw [header_Parse_c1_eq, if_pos (by simpa using h5), gd_pos h0, gd_pos h5, hw, parse_step v0 v5 1 0 b8 b9 h0 h5 (by decide) (by decide) (by decide) hb hl (by rw [hx]; decide)]
  rw [header_Parse_c2_eq, if_neg (by decide), w64 (x := v5 + 1) (by omega) (by omega), hx, Int.zero_mul, Int.zero_add]
theorem parse_two (v0 : List Int) (v5 : Int) (b8 : D_api_BlockHead) (b9 : List Int) (h0 : 0 ≤ v5) (h5 : v5 < 5) (hw : G_widths.getD v5.toNat 0 = 2) (hb : Bts v0) (hl : 1 < v0.length) (hx : b9.getD v5.toNat 0 = 0) (hn : b9.length = 5) :
    header_Parse_c1 v0 G_widths v5 b8 b9 = header_Parse_c1 (v0.drop 2) G_widths (v5 + 1) b8 (b9.set v5.toNat (v0.getD 0 0 * 256 + v0.getD 1 0)) := by
  have hy := hb.getD 0
  have hi : v5.toNat < b9.length := by omega
  have hg : (v0.drop 1).getD 0 0 = v0.getD 1 0 := by simp [List.getD_eq_getElem?_getD]
  rw [header_Parse_c1_eq, if_pos (by simpa using h5), gd_pos h0, gd_pos h5, hw, parse_step v0 v5 2 0 b8 b9 h0 h5 (by decide) (by decide) (by decide) hb (by omega) (by rw [hx]; decide)]
  rw [hx, Int.zero_mul, Int.zero_add (v0.getD 0 0)]
  rw [parse_step (v0.drop 1) v5 2 (0 + 1) b8 _ h0 h5 (by decide) (by decide) (by decide) (hb.drop 1) (by simp; omega) (by rw [getD_setK _ _ _ _ hi]; exact hy)]
  rw [header_Parse_c2_eq, if_neg (by decide), w64 (x := v5 + 1) (by omega) (by omega), getD_setK _ _ _ _ hi, List.set_set, List.drop_drop, hg]
def zH : D_api_BlockHead := (0, (0, (0, (0, (0, (List.replicate 20 0, ()))))))
def pH (a : List Int) : D_api_BlockHead := (a.getD 0 0, (a.getD 1 0, (a.getD 2 0 * 256 + a.getD 3 0, (a.getD 4 0 * 256 + a.getD 5 0, (a.getD 6 0 * 256 + a.getD 7 0, (a.drop 8, ()))))))
def pP (a : List Int) : D_api_BlockHead × Int := if a.length = 28 ∧ hOK (pH a) then (pH a, 0) else (zH, 12)
theorem drop_getD (a : List Int) (k i : Nat) : (a.drop k).getD i 0 = a.getD (k + i) 0 := by simp [List.getD_eq_getElem?_getD]
theorem header_Parse_spec (a : List Int) (hb : Bts a) : header_Parse a = some (pP a) := by
  rw [header_Parse_eq]
  by_cases hl : a.length = 28
  · rw [if_neg (by simp [hl])]
    have hrep : (List.replicate 5 (0:Int)) = [0,0,0,0,0] := rfl
    rw [hrep]
    rw [parse_one a 0 _ _ (by decide) (by decide) (by decide) hb (by omega) (by decide) (by decide)]
    rw [parse_one (a.drop 1) (0+1) _ _ (by decide) (by decide) (by decide) (hb.drop 1) (by simp; omega) (by simp) (by simp)]
    rw [parse_two _ (0+1+1) _ _ (by decide) (by decide) (by decide) ((hb.drop 1).drop 1) (by simp; omega) (by simp) (by simp)]
    rw [parse_two _ (0+1+1+1) _ _ (by decide) (by decide) (by decide) (((hb.drop 1).drop 1).drop 2) (by simp; omega) (by simp) (by simp)]
    rw [parse_two _ (0+1+1+1+1) _ _ (by decide) (by decide) (by decide) ((((hb.drop 1).drop 1).drop 2).drop 2) (by simp; omega) (by simp) (by simp)]
    rw [header_Parse_c1_eq, if_neg (by decide)]
    iterate 10 rw [gd_pos (by decide)]
    simp only [List.drop_drop, drop_getD]
    have h0 := hb.getD 0
    have hsp : splice (List.replicate 20 (0:Int)) 0 (List.take (min (List.drop (1 + 1 + 2 + 2 + 2) a).length 20) (List.drop (1 + 1 + 2 + 2 + 2) a)) = a.drop 8 := by
      have hln : (a.drop 8).length = 20 := by simp [hl]
      show splice (List.replicate 20 (0:Int)) 0 (List.take (min (a.drop 8).length 20) (a.drop 8)) = a.drop 8
      rw [hln, List.take_of_length_le (by omega)]
      unfold splice
      simp [hl]
    rw [hsp]
    have e0 : (([0,0,0,0,0] : List Int).set (Int.toNat 0) (a.getD 0 0) |>.set (Int.toNat (0+1)) (a.getD (1+0) 0) |>.set (Int.toNat (0+1+1)) (a.getD (1+1+0) 0 * 256 + a.getD (1+1+1) 0) |>.set (Int.toNat (0+1+1+1)) (a.getD (1+1+2+0) 0 * 256 + a.getD (1+1+2+1) 0) |>.set (Int.toNat (0+1+1+1+1)) (a.getD (1+1+2+2+0) 0 * 256 + a.getD (1+1+2+2+1) 0)) = [a.getD 0 0, a.getD 1 0, a.getD 2 0 * 256 + a.getD 3 0, a.getD 4 0 * 256 + a.getD 5 0, a.getD 6 0 * 256 + a.getD 7 0] := rfl
    rw [e0]
    simp only [List.getD_cons_zero, List.getD_cons_succ, wu8, Int.emod_eq_of_lt h0.1 h0.2]
    rw [header_Check_spec]
    show (some (hC (pH a))).bind _ = _
    simp only [Option.bind_some, hC_ne]
    unfold pP
    by_cases ok : hOK (pH a)
    · rw [if_neg (by simpa using ok), if_pos ⟨hl, ok⟩]; rfl
    · rw [if_pos ok, if_neg (fun h => ok h.2)]; rfl
  · rw [if_pos (by simp; omega)]
    unfold pP
    rw [if_neg (fun h => hl h.1)]; rfl
theorem mark_bts : Bts mark := by
  intro x hx
  simp [mark] at hx
  omega
theorem mark_len : mark.length = 13 := rfl
theorem marker_At_spec (a : List Int) (hb : Bts a) (h1 : 41 ≤ a.length) (h2 : a.length ≤ 50000) : marker_At a 0 = some (decide (a.take 13 = mark), 0) := by
  rw [marker_At_eq, marker_check_eq, if_neg (by simp; omega), if_neg (by decide), if_neg (by simp)]
  simp only [Option.bind_some]
  rw [if_neg (by decide), gd_pos (by decide), gd_pos (by simp), marker_Bytes_spec]
  simp only [Option.bind_some]
  rw [bytes_HasPrefix_eq, if_pos (by simp [mark_len]; omega), gd_pos (by simp), gd_pos (by simp [mark_len]; omega), bytes_Equal_eq]
  simp only [Option.bind_some]
  rw [eqStr ((hb.drop _).take _) mark_bts]
  rfl
def rdK (a : List Int) : D_api_Block × Int × Int :=
  if a.length > 50000 then ((zH, ([], ())), (0, 4)) else if a.length < 41 then ((zH, ([], ())), (0, 18))
  else if a.take 13 ≠ mark ∨ ¬ hOK (pH ((a.drop 13).take 28)) then ((zH, ([], ())), (0, 12))
  else if (a.length : Int) < 41 + (pH ((a.drop 13).take 28)).2.2.2.2.1 then ((zH, ([], ())), (0, 18))
  else ((pH ((a.drop 13).take 28), ((a.drop 41).take (pH ((a.drop 13).take 28)).2.2.2.2.1.toNat, ())), (41 + (pH ((a.drop 13).take 28)).2.2.2.2.1, 0))
theorem hOK_len {h : D_api_BlockHead} (ok : hOK h) : 1 ≤ h.2.2.2.2.1 ∧ h.2.2.2.2.1 ≤ 4096 := by unfold hOK at ok; omega
theorem pP_eq (a : List Int) (h : 41 ≤ a.length) : pP ((a.drop 13).take 28) = if hOK (pH ((a.drop 13).take 28)) then (pH ((a.drop 13).take 28), 0) else (zH, 12) := by
  have hl : ((a.drop 13).take 28).length = 28 := by simp; omega
  unfold pP
  simp only [hl, true_and]
theorem block_Read_spec (a : List Int) (hb : Bts a) : block_Read a = some (rdK a) := by
  rw [block_Read_eq]
  unfold rdK
  by_cases h1 : a.length > 50000
  · rw [if_pos (by simp; omega), if_pos h1]; rfl
  rw [if_neg (by simp; omega), if_neg h1]
  by_cases h2 : a.length < 41
  · rw [if_pos (by simp; omega), if_pos h2]; rfl
  rw [if_neg (by simp; omega), if_neg h2, gd_pos (by decide), gd_pos (by decide), gd_pos (by simp only [Int.ofNat_eq_natCast]; omega), header_Parse_spec _ ((hb.drop _).take _), pP_eq a (by omega), marker_At_spec a hb (by omega) (by omega)]
  simp only [Option.bind_some]
  by_cases h3 : a.take 13 = mark
  · by_cases ok : hOK (pH ((a.drop 13).take 28))
    · have hlen := hOK_len ok
      rw [if_pos ok, if_neg (by simp [h3]), if_neg (by simp), if_neg (show ¬ (a.take 13 ≠ mark ∨ ¬ hOK (pH ((a.drop 13).take 28))) from fun h => h.elim (fun h => h h3) (fun h => h ok))]
      generalize pH ((a.drop 13).take 28) = h at ok hlen ⊢
      simp only
      rw [w64 (x := 41 + h.2.2.2.2.1) (by omega) (by omega)]
      by_cases h4 : (a.length : Int) < 41 + h.2.2.2.2.1
      · rw [if_pos (by simpa using h4), if_pos h4]; rfl
      · rw [if_neg (by simpa using h4), if_neg h4, gd_pos (by decide), gd_pos (by omega), gd_pos (by simp only [Int.ofNat_eq_natCast]; omega), bytes_Clone_T _ (by simp; omega)]
        have e : Int.toNat (41 + h.2.2.2.2.1) - 41 = h.2.2.2.2.1.toNat := by omega
        simp only [Option.bind_some, e]
    · rw [if_neg ok, if_neg (by simp [h3]), if_pos (by simp), if_pos (show (a.take 13 ≠ mark ∨ ¬ hOK (pH ((a.drop 13).take 28))) from .inr ok)]; rfl
  · rw [if_pos (by simp [h3]), if_pos (show (a.take 13 ≠ mark ∨ ¬ hOK (pH ((a.drop 13).take 28))) from .inl h3)]; rfl
theorem fr8_bts (h : D_api_BlockHead) : Bts (fr8 h) := by
  intro x hx
  simp only [fr8, List.mem_cons, List.not_mem_nil, or_false] at hx
  omega
theorem header_digest_spec (h : D_api_BlockHead) (hm : 0 ≤ h.1 ∧ h.1 < 256) (raw : List Int) (hb : Bts raw) (hl : raw.length ≤ 19000) : header_digest h raw = some (shaB (fr8 h ++ raw)) := by
  rw [header_digest_eq, header_front_spec h hm, Option.bind_some]
  have hL : (fr8 h ++ raw).length = raw.length + 8 := by rw [List.length_append, fr8_len]; omega
  rw [gd_pos (by rw [hL]; omega), Sum_spec _ (Bts.append (fr8_bts h) hb), if_pos (by rw [hL]; omega), Option.bind_some]
def sealed (m a1 a2 raw len : Int) (z : List Int) : D_api_BlockHead := (m, (a1, (a2, (raw, (len, (shaB (fr8 (m, (a1, (a2, (raw, (len, (List.replicate 20 0, ())))))) ++ z), ()))))))
def storedB (a1 a2 : Int) (z : List Int) : D_api_Block := (sealed 1 a1 a2 z.length z.length z, (z, ()))
def mOK (a1 a2 : Int) (z : List Int) : Prop := 0 ≤ a1 ∧ a1 < 16 ∧ 1 ≤ z.length ∧ z.length ≤ 4096 ∧ 0 ≤ a2 ∧ a2 + z.length ≤ 8192
instance (a1 a2 : Int) (z : List Int) : Decidable (mOK a1 a2 z) := by unfold mOK; infer_instance
theorem mOK_stored {a1 a2 : Int} {z : List Int} (h : mOK a1 a2 z) (s : List Int) : hOK (1, (a1, (a2, ((z.length : Int), ((z.length : Int), (s, ())))))) := by
  unfold mOK at h
  exact ⟨h.1, h.2.1, by simp only; omega, by simp only; omega, h.2.2.2.2.1, h.2.2.2.2.2, Or.inl ⟨rfl, rfl⟩⟩
theorem isLevel_spec (l : Int) : block_isLevel l = some (decide (0 ≤ l ∧ l ≤ 7)) := by
  rw [block_isLevel_eq]
  by_cases h : 0 ≤ l
  · rw [if_pos (by simpa using h)]
    exact congrArg some (by simp [h])
  · rw [if_neg (by simpa using h)]
    exact congrArg some (by simp [h])
theorem stored_bC {a1 a2 : Int} {z : List Int} (hm : mOK a1 a2 z) : bC (storedB a1 a2 z) = 0 := if_pos ⟨mOK_stored hm _, rfl⟩
theorem stored_bWf (a1 a2 : Int) (z : List Int) : bWf (storedB a1 a2 z) := ⟨⟨by show (0:Int) ≤ 1; decide, by show (1:Int) < 256; decide⟩, shaB_len _⟩
theorem peqL_true {xs ys : List Int} : peqL (peq (.int .u8)) xs ys = true → xs = ys := by
  intro h
  induction xs generalizing ys with
  | nil => cases ys with
    | nil => rfl
    | cons y ys => exact absurd h (by simp [peqL])
  | cons x xs ih => cases ys with
    | nil => exact absurd h (by simp [peqL])
    | cons y ys =>
      rw [peqL, Bool.and_eq_true] at h
      have h1 : x = y := by have := h.1; rw [peq] at this; exact of_decide_eq_true this
      rw [h1, ih h.2]
theorem peqL_eqv (xs ys : List Int) : peqL (peq (.int .u8)) xs ys = decide (xs = ys) := by
  by_cases h : xs = ys
  · subst h
    rw [decide_eq_true rfl]
    exact peqL_same (fun x => by rw [peq]; exact decide_eq_true rfl) _
  · rw [decide_eq_false h]
    cases hq : peqL (peq (.int .u8)) xs ys with
    | false => rfl
    | true => exact absurd (peqL_true hq) h
theorem header_Right_T {h : D_api_BlockHead} (ok : hOK h) (hm : 0 ≤ h.1 ∧ h.1 < 256) {z : List Int} (hb : Bts z) (hl : (z.length : Int) = h.2.2.2.1) : header_Right h z = some (decide (shaB (fr8 h ++ z) = h.2.2.2.2.2.1), 0) := by
  have hz : z.length ≤ 4096 := by unfold hOK at ok; omega
  have hc : hC h = 0 := if_pos ok
  rw [header_Right_eq]
  refine Tot.eq (Tot.be (header_Check_spec h) (Tot.ifne_neg hc (Tot.ifeq_pos hl (Tot.be (header_digest_spec h hm z hb (by omega)) (Tot.so ?_)))))
  rw [peq, peqL_eqv]
theorem Raw_stored {l : Int} {b : D_api_Block} (hl : 0 ≤ l ∧ l ≤ 7) (h1 : b.1.1 = 1) (hc : bC b = 0) (hb : Bts b.2.1) : block_Raw l b = some (if shaB (fr8 b.1 ++ b.2.1) = b.1.2.2.2.2.2.1 then (b.2.1, 0) else ([], 22)) := by
  have ok : hOK b.1 ∧ (b.2.1.length : Int) = b.1.2.2.2.2.1 := by
    unfold bC at hc; split at hc
    · assumption
    · cases hc
  have hlen : b.1.2.2.2.2.1 = b.1.2.2.2.1 := by
    rcases ok.1.2.2.2.2.2.2 with h | h
    · exact h.2
    · omega
  have hz : b.2.1.length ≤ 4096 := by have := ok.1.2.2.2.1; omega
  rw [block_Raw_eq]
  refine Tot.eq (Tot.be (block_Check_spec b) (Tot.ifne_neg hc (Tot.be (isLevel_spec l) ?_)))
  rw [decide_eq_true hl]
  refine Tot.ifn (fun k => absurd k (by decide)) (fun _ => Tot.be (bytes_Clone_T _ (by omega)) (Tot.ifeq_neg (by omega) (Tot.be (header_Right_T ok.1 (by omega) hb (by omega)) ?_)))
  by_cases hs : shaB (fr8 b.1 ++ b.2.1) = b.1.2.2.2.2.2.1
  · rw [if_pos hs, decide_eq_true hs]
    exact Tot.ifn (fun k => absurd k (by decide)) (fun _ => Tot.so rfl)
  · rw [if_neg hs, decide_eq_false hs]
    exact Tot.ifn (fun _ => Tot.so rfl) (fun k => absurd k (by decide))
theorem ref26_Of_spec (h : D_api_BlockHead) (hm : 0 ≤ h.1 ∧ h.1 < 256) {z : List Int} (hl : z.length ≤ 100000) : bitloftref26_Of h z = some (shaB (fr8 h ++ z)) := by
  have hL : (fr8 h ++ z).length = z.length + 8 := by rw [List.length_append, fr8_len]; omega
  rw [bitloftref26_Of_eq]
  exact Tot.eq (Tot.be (ref26_Front_spec h hm) (Tot.g (by rw [hL]; omega) (Tot.be (Of_spec _ (by rw [hL]; omega)) (Tot.so rfl))))
instance (h : D_api_BlockHead) : Decidable (hOK h) := by unfold hOK; infer_instance
instance (a1 a2 : Int) (z : List Int) : Decidable (mOK a1 a2 z) := by unfold mOK; infer_instance
theorem ref26_Bytes_spec (h : D_api_BlockHead) (hm : 0 ≤ h.1 ∧ h.1 < 256) (hs : h.2.2.2.2.2.1.length = 20) : bitloftref26_Bytes h = some (hB h) := by
  rw [bitloftref26_Bytes_eq, ref26_Front_spec h hm]
  simp only [Option.bind_some]
  rw [gd_pos (by simp [fr8_len]; omega)]
  simp only [hB, List.drop_zero]
  rw [List.take_of_length_le (by omega)]
theorem bytesOf_inj {xs ys : List Int} (hx : Bts xs) (hy : Bts ys) (h : Lib.bytesOf xs = Lib.bytesOf ys) : xs = ys := by
  induction xs generalizing ys with
  | nil => cases ys with
    | nil => rfl
    | cons y ys => simp [Lib.bytesOf] at h
  | cons x xs ih => cases ys with
    | nil => simp [Lib.bytesOf] at h
    | cons y ys =>
      simp only [Lib.bytesOf, List.map_cons, List.cons.injEq] at h
      have h1 := hx x List.mem_cons_self
      have h2 := hy y List.mem_cons_self
      have e := congrArg UInt8.toNat h.1
      simp only [UInt8.toNat_ofNat'] at e
      have : x = y := by omega
      rw [this, ih (fun z hz => hx z (List.mem_cons_of_mem _ hz)) (fun z hz => hy z (List.mem_cons_of_mem _ hz)) h.2]
theorem occ_iff {s t : List Int} (hs : Bts s) (ht : Bts t) (j : Nat) : Lib.occAt (Lib.bytesOf s) (Lib.bytesOf t) j = true ↔ (s.drop j).take t.length = t := by
  unfold Lib.occAt
  rw [List.isPrefixOf_iff_prefix, List.prefix_iff_eq_take]
  have e1 : (Lib.bytesOf t).length = t.length := List.length_map ..
  have e2 : List.take t.length (List.drop j (Lib.bytesOf s)) = Lib.bytesOf ((s.drop j).take t.length) := by
    unfold Lib.bytesOf
    rw [List.map_take, List.map_drop]
  rw [e1, e2]
  constructor
  · intro h
    exact (bytesOf_inj ht ((hs.drop _).take _) h).symm
  · intro h
    rw [h]
def hd13 (s : List Int) : Prop := s.take 13 = mark
instance (s : List Int) : Decidable (hd13 s) := by unfold hd13; infer_instance
theorem hd13_len {s : List Int} (h : hd13 s) : 13 ≤ s.length := by
  have := congrArg List.length h
  rw [List.length_take, mark_len] at this
  omega
theorem Find_spec {b : List Int} (hb : Bts b) (hl : b.length ≤ 50000) {k : Nat} (hk : k ≤ b.length) :
    (marker_Find b k = some (0, 6) ∧ ∀ j, ¬ hd13 ((b.drop k).drop j)) ∨ ∃ i : Nat, marker_Find b k = some (((k + i : Nat) : Int), 0) ∧ k + i ≤ b.length ∧ hd13 ((b.drop k).drop i) ∧ ∀ j, j < i → ¬ hd13 ((b.drop k).drop j) := by
  have hI : bytes_Index (b.drop k) mark = some (ixB (b.drop k) mark) := by
    unfold bytes_Index
    exact Tot.eq (Tot.g (by rw [List.length_drop]; omega) (Tot.g (by rw [mark_len]; decide) (Tot.g (by rw [mark_len]; decide) (Tot.g ⟨hb.drop k, mark_bts⟩ (Tot.so rfl)))))
  have hF : marker_Find b k = some (if ixB (b.drop k) mark < 0 then (0, 6) else (IntKind.wrap .i64 ((k : Int) + ixB (b.drop k) mark), 0)) := by
    have hchk : marker_check b k = some 0 := by
      rw [marker_check_eq]
      simp only [Int.ofNat_eq_natCast]
      exact Tot.eq (Tot.ifd_neg (by omega) (Tot.ifd_neg (by omega) (Tot.ifd_neg (by omega) (Tot.so rfl))))
    rw [marker_Find_eq]
    simp only [Int.ofNat_eq_natCast]
    have e : (k : Int).toNat = k := Int.toNat_natCast k
    refine Tot.eq (Tot.be hchk (Tot.ifne_neg rfl (Tot.g (by omega) (Tot.g (by omega) (Tot.be marker_Bytes_spec ?_)))))
    rw [e]
    refine Tot.be hI ?_
    exact Tot.ifd (fun h => Tot.so (by rw [if_pos h])) (fun h => Tot.so (by rw [if_neg h]))
  have hocc := fun j => occ_iff (hb.drop k) mark_bts j
  rcases Lib.index_spec (Lib.bytesOf (b.drop k)) (Lib.bytesOf mark) with ⟨h1, h2⟩ | ⟨i, h1, h2, h3, h4⟩
  · left
    have hx : ixB (b.drop k) mark = -1 := h1
    rw [hF, hx, if_pos (by decide)]
    refine ⟨rfl, fun j hj => ?_⟩
    have hlj := hd13_len hj
    have e1 : (Lib.bytesOf (b.drop k)).length = (b.drop k).length := List.length_map ..
    rw [List.length_drop] at hlj
    have := h2 j (by omega)
    rw [(hocc j).2 (by rw [mark_len]; exact hj)] at this
    cases this
  · right
    have hx : ixB (b.drop k) mark = i := h1
    have e1 : (Lib.bytesOf (b.drop k)).length = (b.drop k).length := List.length_map ..
    rw [e1, List.length_drop] at h2
    refine ⟨i, ?_, by omega, ?_, fun j hj hh => ?_⟩
    · rw [hF, hx, if_neg (by omega), w64 (by omega) (by omega)]
      exact congrArg some (Prod.ext (by simp only; omega) rfl)
    · have := (hocc i).1 h3
      rw [mark_len] at this
      exact this
    · have := h4 j hj
      rw [(hocc j).2 (by rw [mark_len]; exact hh)] at this
      cases this
theorem rdK_ok {s : List Int} (h : (rdK s).2.2 = 0) : 41 ≤ s.length ∧ s.length ≤ 50000 ∧ hd13 s ∧ hOK (rdK s).1.1 ∧ (rdK s).2.1 = 41 + (rdK s).1.1.2.2.2.2.1 ∧ (rdK s).2.1 ≤ s.length ∧ (rdK s).1.2.1 = (s.drop 41).take (rdK s).1.1.2.2.2.2.1.toNat ∧ (rdK s).1.1 = pH ((s.drop 13).take 28) := by
  unfold rdK at h ⊢
  by_cases h1 : s.length > 50000
  · rw [if_pos h1] at h; exact absurd h (by decide)
  rw [if_neg h1] at h ⊢
  by_cases h2 : s.length < 41
  · rw [if_pos h2] at h; exact absurd h (by decide)
  rw [if_neg h2] at h ⊢
  by_cases h3 : s.take 13 ≠ mark ∨ ¬ hOK (pH ((s.drop 13).take 28))
  · rw [if_pos h3] at h; exact absurd h (by decide)
  rw [if_neg h3] at h ⊢
  by_cases h4 : (s.length : Int) < 41 + (pH ((s.drop 13).take 28)).2.2.2.2.1
  · rw [if_pos h4] at h; exact absurd h (by decide)
  rw [if_neg h4]
  exact ⟨by omega, by omega, Classical.byContradiction fun k => h3 (Or.inl k), Classical.byContradiction fun k => h3 (Or.inr k), rfl, by simp only; omega, rfl, rfl⟩
theorem pH_hB {h : D_api_BlockHead} (ok : hOK h) (hs : h.2.2.2.2.2.1.length = 20) : pH (hB h) = h := by
  obtain ⟨m, mem, off, raw, len, sum, u⟩ := h
  have e : pH (hB (m, mem, off, raw, len, sum, u)) = (m % 256, (mem % 256, (off / 256 % 256 * 256 + off % 256, (raw / 256 % 256 * 256 + raw % 256, (len / 256 % 256 * 256 + len % 256, (sum, ())))))) := rfl
  rw [e]
  unfold hOK at ok
  simp only at ok
  have e1 : m % 256 = m := by omega
  have e2 : mem % 256 = mem := by omega
  have e3 : off / 256 % 256 * 256 + off % 256 = off := by omega
  have e4 : raw / 256 % 256 * 256 + raw % 256 = raw := by omega
  have e5 : len / 256 % 256 * 256 + len % 256 = len := by omega
  rw [e1, e2, e3, e4, e5]
theorem rd_bB {b : D_api_Block} {more : List Int} (hc : bC b = 0) (hw : bWf b) (hl : more.length ≤ 40000) : rdK (bB b ++ more) = (b, (b.1.2.2.2.2.1 + 41, 0)) := by
  have ok : hOK b.1 ∧ (b.2.1.length : Int) = b.1.2.2.2.2.1 := by
    unfold bC at hc; split at hc
    · assumption
    · cases hc
  have hlen := hOK_len ok.1
  have hhl : (hB b.1).length = 28 := by unfold hB; rw [List.length_append, fr8_len, hw.2]
  have hL : (bB b ++ more).length = 41 + b.2.1.length + more.length := by
    unfold bB; simp only [List.length_append, mark_len, hhl]
  have hw13 : (bB b ++ more).take 13 = mark := by
    unfold bB
    rw [List.append_assoc, List.append_assoc, List.take_append_of_le_length (by rw [mark_len]; omega)]
    rfl
  have hd13 : ((bB b ++ more).drop 13).take 28 = hB b.1 := by
    unfold bB
    rw [List.append_assoc, List.append_assoc, List.drop_append_of_le_length (by rw [mark_len]; omega), List.drop_of_length_le (by rw [mark_len]; omega), List.nil_append, List.take_append_of_le_length (by omega), List.take_of_length_le (by omega)]
  have hd41 : (bB b ++ more).drop 41 = b.2.1 ++ more := by
    have e : bB b ++ more = (mark ++ hB b.1) ++ (b.2.1 ++ more) := by unfold bB; simp only [List.append_assoc]
    have e2 : (mark ++ hB b.1).length = 41 := by rw [List.length_append, mark_len, hhl]
    rw [e, List.drop_append_of_le_length (by omega), List.drop_of_length_le (by omega), List.nil_append]
  unfold rdK
  rw [hd13, pH_hB ok.1 hw.2, if_neg (show ¬ (bB b ++ more).length > 50000 by omega), if_neg (show ¬ (bB b ++ more).length < 41 by omega), if_neg (fun h => h.elim (fun h => h hw13) (fun h => h ok.1)), if_neg (by omega), hd41]
  have e : b.1.2.2.2.2.1.toNat = b.2.1.length := by omega
  rw [e, List.take_append_of_le_length (Nat.le_refl _), List.take_length, Int.add_comm]
theorem b7 : Bts [7] := Bts.cons (by decide) Bts.nil
theorem eqBA (a b : ByteArray) : (ByteArray.toList a == ByteArray.toList b) = decide (a = b) := by
  rw [Bool.eq_iff_iff, beq_iff_eq, decide_eq_true_eq]
  exact ⟨fun h => toList_inj h, fun h => by rw [h]⟩
theorem ofStr_len (s : ByteArray) : (ofStr s).length = s.size := by
  unfold ofStr
  rw [List.length_map, Array.length_toList]; rfl
def okC (x : Int) : Bool := decide (33 ≤ x) && decide (x ≤ 126)
def nmOK (s : ByteArray) : Bool := (ofStr s).all okC && decide (1 ≤ s.size) && decide (s.size ≤ 40)
theorem drop_at {xs : List Int} {i : Nat} (h : i < xs.length) : xs.drop i = xs.getD i 0 :: xs.drop (i + 1) := by
  rw [List.drop_eq_getElem_cons h, List.getD_eq_getElem?_getD, List.getElem?_eq_getElem h]; rfl
theorem isName_c1 (s : ByteArray) (hs : s.size ≤ 9223372036854775807) : ∀ (k i : Nat), i + k = s.size → member_isName_c1 s (s.size : Int) (i : Int) = some (((ofStr s).drop i).all okC && decide (1 ≤ s.size) && decide (s.size ≤ 40))
  | 0, i, e => by
    have hd : (ofStr s).drop i = [] := List.drop_eq_nil_of_le (by rw [ofStr_len]; omega)
    rw [member_isName_c1_eq, if_neg (by simp; omega), hd]
    have hl : Int.ofNat s.size = (s.size : Int) := rfl
    rw [hl]
    by_cases h : 1 ≤ s.size
    · rw [if_pos (by simp; omega)]
      simp [h]; omega
    · rw [if_neg (by rw [decide_eq_true_eq]; omega)]
      simp [h]
  | k + 1, i, e => by
    have hi : i < (ofStr s).length := by rw [ofStr_len]; omega
    have hb : btAt s ((i : Int)).toNat = (ofStr s).getD i 0 := by rw [Int.toNat_natCast]; rfl
    rw [member_isName_c1_eq, if_pos (by simp; omega), gd_pos (by omega), gd_pos (by omega), hb, drop_at hi, w64 (by omega) (by omega)]
    have ih := isName_c1 s hs k (i + 1) (by omega)
    rw [show ((i + 1 : Nat) : Int) = (i : Int) + 1 by omega] at ih
    by_cases h1 : (ofStr s).getD i 0 ≤ 32
    · rw [if_pos (by simpa using h1)]
      have : okC ((ofStr s).getD i 0) = false := by simp only [okC, Bool.and_eq_false_iff, decide_eq_false_iff_not]; left; omega
      simp only [List.all_cons, this, Bool.false_and]
    · rw [if_neg (by simpa using h1), gd_pos (by omega), gd_pos (by omega)]
      by_cases h2 : (ofStr s).getD i 0 > 126
      · rw [if_pos (by simpa using h2)]
        have : okC ((ofStr s).getD i 0) = false := by simp only [okC, Bool.and_eq_false_iff, decide_eq_false_iff_not]; right; omega
        simp only [List.all_cons, this, Bool.false_and]
      · rw [if_neg (by simpa using h2), ih]
        have : okC ((ofStr s).getD i 0) = true := by simp only [okC, Bool.and_eq_true, decide_eq_true_eq]; omega
        simp only [List.all_cons, this, Bool.true_and]
theorem member_isName_spec (s : ByteArray) (hs : s.size ≤ 9223372036854775807) : member_isName s = some (nmOK s) := by
  rw [member_isName_eq]
  exact isName_c1 s hs s.size 0 (by omega)
theorem Name_c1 (s : ByteArray) (hs : s.size ≤ 9223372036854775807) : ∀ (k i : Nat), i + k = s.size → bitloftref28_Name_c1 s (i : Int) = some (((ofStr s).drop i).all okC)
  | 0, i, e => by
    have hd : (ofStr s).drop i = [] := List.drop_eq_nil_of_le (by rw [ofStr_len]; omega)
    rw [bitloftref28_Name_c1_eq, if_neg (by simp; omega), hd]
    rfl
  | k + 1, i, e => by
    have hi : i < (ofStr s).length := by rw [ofStr_len]; omega
    have hb : btAt s ((i : Int)).toNat = (ofStr s).getD i 0 := by rw [Int.toNat_natCast]; rfl
    rw [bitloftref28_Name_c1_eq, if_pos (by simp; omega), gd_pos (by omega), gd_pos (by omega), hb, drop_at hi, w64 (by omega) (by omega)]
    have ih := Name_c1 s hs k (i + 1) (by omega)
    rw [show ((i + 1 : Nat) : Int) = (i : Int) + 1 by omega] at ih
    by_cases h1 : (ofStr s).getD i 0 < 33
    · rw [if_pos (by simpa using h1)]
      have : okC ((ofStr s).getD i 0) = false := by simp only [okC, Bool.and_eq_false_iff, decide_eq_false_iff_not]; left; omega
      simp only [List.all_cons, this, Bool.false_and]
    · rw [if_neg (by simpa using h1), gd_pos (by omega), gd_pos (by omega)]
      by_cases h2 : (ofStr s).getD i 0 > 126
      · rw [if_pos (by simpa using h2)]
        have : okC ((ofStr s).getD i 0) = false := by simp only [okC, Bool.and_eq_false_iff, decide_eq_false_iff_not]; right; omega
        simp only [List.all_cons, this, Bool.false_and]
      · rw [if_neg (by simpa using h2), ih]
        have : okC ((ofStr s).getD i 0) = true := by simp only [okC, Bool.and_eq_true, decide_eq_true_eq]; omega
        simp only [List.all_cons, this, Bool.true_and]
theorem ref28_Name_spec (s : ByteArray) (hs : s.size ≤ 9223372036854775807) : bitloftref28_Name s = some (nmOK s) := by
  have hl : Int.ofNat s.size = (s.size : Int) := rfl
  rw [bitloftref28_Name_eq, hl]
  unfold nmOK
  by_cases h1 : s.size < 1
  · rw [if_pos (by simp; omega)]
    have : ¬ 1 ≤ s.size := by omega
    simp [this]
  · rw [if_neg (by simp; omega)]
    by_cases h2 : s.size > 40
    · rw [if_pos (by simp; omega)]
      have : ¬ s.size ≤ 40 := by omega
      simp [this]
    · rw [if_neg (by simp; omega)]
      have := Name_c1 s hs s.size 0 (by omega)
      refine this.trans ?_
      have h3 : 1 ≤ s.size := by omega
      have h4 : s.size ≤ 40 := by omega
      simp [h3, h4]
theorem mget_mset {α β : Type} {eq : α → α → Bool} (h : ∀ a b, eq a b = true ↔ a = b) (x y : α) (v : β) : ∀ m : List (α × β), mget eq x (mset eq y v m) = if eq x y then some v else mget eq x m
  | [] => by simp [mset, mget]
  | e :: r => by
    simp only [mset]
    by_cases hy : eq y e.1 = true
    · have := (h _ _).1 hy
      simp only [hy, if_true, mget]
      by_cases hx : eq x y = true
      · simp [hx]
      · have : eq x e.1 = false := by rw [← this]; simpa using hx
        simp [hx, this]
    · simp only [hy, Bool.false_eq_true, if_false, mget, mget_mset h x y v r]
      by_cases hx : eq x y = true
      · have e1 := (h _ _).1 hx
        subst e1
        simp [hx, hy]
      · simp [hx]
theorem peq_str (a b : ByteArray) : peq .str a b = decide (a = b) := eqBA a b
def memB (x : ByteArray) (xs : List ByteArray) : Bool := xs.any fun y => decide (x = y)
theorem memB_append (x y : ByteArray) (xs : List ByteArray) : memB x (xs ++ [y]) = (memB x xs || decide (x = y)) := by simp [memB]
def dupF (seen : List ByteArray) : List ByteArray → Bool
  | [] => false
  | x :: r => memB x seen || dupF (seen ++ [x]) r
theorem dropS_at {xs : List ByteArray} {i : Nat} (h : i < xs.length) : xs.drop i = xs.getD i ByteArray.empty :: xs.drop (i + 1) ∧ xs.take (i + 1) = xs.take i ++ [xs.getD i ByteArray.empty] := by
  have e : xs.getD i ByteArray.empty = xs[i] := by rw [List.getD_eq_getElem?_getD, List.getElem?_eq_getElem h]; rfl
  rw [e]
  exact ⟨List.drop_eq_getElem_cons h, by rw [List.take_add_one, List.getElem?_eq_getElem h]; rfl⟩
theorem twice_c1 (xs : List ByteArray) (hx : xs.length ≤ 9223372036854775807) : ∀ (k i : Nat) (m : List (ByteArray × Bool)), i + k = xs.length → (∀ x, Option.getD (mget (peq .str) x m) false = memB x (xs.take i)) → member_twice_c1 xs (xs.length : Int) (i : Int) m = some (dupF (xs.take i) (xs.drop i))
  | 0, i, m, e, hm => by
    rw [member_twice_c1_eq, if_neg (by simp; omega), List.drop_eq_nil_of_le (by omega)]; rfl
  | k + 1, i, m, e, hm => by
    have hl : Int.ofNat xs.length = (xs.length : Int) := rfl
    obtain ⟨d1, d2⟩ := dropS_at (xs := xs) (i := i) (by omega)
    rw [member_twice_c1_eq, if_pos (by simp; omega), gd_pos (by omega), gd_pos (by rw [hl]; omega), Int.toNat_natCast, hm, d1, dupF]
    by_cases h : memB (xs.getD i ByteArray.empty) (xs.take i) = true
    · rw [if_pos h, h]; rfl
    · rw [if_neg h, w64 (by omega) (by omega)]
      have ih := twice_c1 xs hx k (i + 1) (mset (peq .str) (xs.getD i ByteArray.empty) true m) (by omega) (fun x => by
        rw [mget_mset (fun a b => by rw [peq_str]; simp), d2, peq_str, memB_append, ← hm]
        by_cases hx : x = xs.getD i ByteArray.empty
        · rw [if_pos (by simp [hx])]; simp [hx]
        · rw [decide_eq_false hx, if_neg (by simp), Bool.or_false])
      rw [show ((i + 1 : Nat) : Int) = (i : Int) + 1 by omega] at ih
      rw [ih, d2, Bool.eq_false_iff.2 h]; rfl
theorem member_twice_spec (xs : List ByteArray) (hx : xs.length ≤ 9223372036854775807) : member_twice xs = some (dupF [] xs) := by
  rw [member_twice_eq]
  exact twice_c1 xs hx xs.length 0 [] (by omega) (fun x => by simp [mget, memB])
def badR (r : D_api_Record) : Bool := !nmOK r.1 || decide (r.2.1 < 0) || decide (r.2.1 > 8192) || (r.2.1 == 0 && !peq (.arr 20 (.int .u8)) r.2.2.1 (shaB []))
def vld (acc : Int) (nm : List ByteArray) : List D_api_Record → Int
  | [] => if acc > 8192 then 4 else if dupF [] nm then 14 else 0
  | r :: rest => if badR r then 8 else vld (acc + r.2.1) (nm ++ [r.1]) rest
def valid (rs : List D_api_Record) : Int := if rs.length > 16 then 4 else vld 0 [] rs
def RecsOK (rs : List D_api_Record) : Prop := rs.length ≤ 9223372036854775807 ∧ ∀ r ∈ rs, r.1.size ≤ 9223372036854775807
theorem dropR_at {α : Type} {xs : List α} {i : Nat} (d : α) (h : i < xs.length) : xs.drop i = xs.getD i d :: xs.drop (i + 1) ∧ xs.take (i + 1) = xs.take i ++ [xs.getD i d] ∧ xs.getD i d ∈ xs := by
  have e : xs.getD i d = xs[i] := by rw [List.getD_eq_getElem?_getD, List.getElem?_eq_getElem h]; rfl
  rw [e]
  exact ⟨List.drop_eq_getElem_cons h, by rw [List.take_add_one, List.getElem?_eq_getElem h]; rfl, List.getElem_mem h⟩
theorem digest_nil : member_digest [] = some (shaB []) := by
  rw [member_digest_eq, Sum_spec [] Bts.nil]; rfl
theorem Valid_c1 (rs : List D_api_Record) (hR : RecsOK rs) (hn : rs.length ≤ 16) : ∀ (k i : Nat) (acc : Int) (nm : List ByteArray), i + k = rs.length → nm.length = i → 0 ≤ acc → acc ≤ 8192 * i → member_Valid_c1 acc rs (rs.length : Int) (i : Int) nm = some (vld acc nm (rs.drop i))
  | 0, i, acc, nm, e, hl, a0, a1 => by
    rw [member_Valid_c1_eq, if_neg (by simp; omega), List.drop_eq_nil_of_le (by omega), vld]
    by_cases h : acc > 8192
    · rw [if_pos (by simpa using h), if_pos h]
    · rw [if_neg (by simpa using h), if_neg h, member_twice_spec _ (by omega)]
      simp only [Option.bind_some]
      by_cases h : dupF [] nm = true
      · rw [if_pos h, if_pos h]
      · rw [if_neg h, if_neg h]
  | k + 1, i, acc, nm, e, hl, a0, a1 => by
    have hl' : Int.ofNat rs.length = (rs.length : Int) := rfl
    obtain ⟨d1, d2, d3⟩ := dropR_at (pzero T_api_Record : D_api_Record) (xs := rs) (i := i) (by omega)
    rw [member_Valid_c1_eq, if_pos (by simp; omega), gd_pos (by omega), gd_pos (by rw [hl']; omega), Int.toNat_natCast, d1, vld]
    generalize hr : (List.getD rs i (pzero T_api_Record) : D_api_Record) = r at d3 ⊢
    rw [member_isName_spec _ (hR.2 r d3)]
    simp only [Option.bind_some, digest_nil]
    by_cases h1 : nmOK r.1 = true
    · rw [if_neg (by simp [h1])]
      by_cases h2 : r.2.1 < 0
      · rw [if_pos (by simpa using h2), if_pos (by simp [badR, h2])]
      · rw [if_neg (by simpa using h2)]
        by_cases h3 : r.2.1 > 8192
        · rw [if_pos (by simpa using h3), if_pos (by simp [badR, h3])]
        · rw [if_neg (by simpa using h3)]
          have ih := Valid_c1 rs hR hn k (i + 1) (acc + r.2.1) (nm ++ [r.1]) (by omega) (by simp; omega) (by omega) (by omega)
          rw [show ((i + 1 : Nat) : Int) = (i : Int) + 1 by omega] at ih
          rw [w64 (x := (i : Int) + 1) (by omega) (by omega), w64 (x := acc + r.2.1) (by omega) (by omega), ih]
          by_cases h4 : r.2.1 = 0
          · rw [if_pos (by simp [h4])]
            by_cases h5 : peq (.arr 20 (.int .u8)) r.2.2.1 (shaB []) = true
            · rw [if_neg (by simp [h5]), gd_pos (by simp; omega), if_neg (by simp [badR, h1, h4, h5])]
            · rw [if_pos (by simpa using h5), if_pos (by simp [badR, h4, h5])]
          · rw [if_neg (by simpa using h4), gd_pos (by simp; omega), if_neg (by simp [badR, h1, h4]; omega)]
    · rw [if_pos (by simpa using h1), if_pos (by simp [badR, h1])]
theorem member_Valid_spec (rs : List D_api_Record) (hR : RecsOK rs) : member_Valid rs = some (valid rs) := by
  have hl : Int.ofNat rs.length = (rs.length : Int) := rfl
  rw [member_Valid_eq, hl, valid]
  by_cases h : rs.length > 16
  · rw [if_pos (by simp; omega), if_pos h]
  · rw [if_neg (by simp; omega), if_neg h]
    exact Valid_c1 rs hR (by omega) rs.length 0 0 [] (by omega) rfl (by omega) (by omega)
def names (rs : List D_api_Record) : List ByteArray := rs.map (·.1)
theorem memB_drop {x : ByteArray} {xs : List ByteArray} {j i : Nat} (h : j < i) (hi : i ≤ xs.length) : memB x ((xs.take i).drop j) = (decide (x = xs.getD j ByteArray.empty) || memB x ((xs.take i).drop (j + 1))) := by
  have hl : j < (xs.take i).length := by rw [List.length_take]; omega
  have e : xs.getD j ByteArray.empty = (xs.take i)[j] := by
    rw [List.getD_eq_getElem?_getD, List.getElem_take, List.getElem?_eq_getElem (by omega)]; rfl
  rw [List.drop_eq_getElem_cons hl, e]
  simp [memB]
def tot : List D_api_Record → Int
  | [] => 0
  | r :: rest => r.2.1 + tot rest
structure RecsV (rs : List D_api_Record) : Prop where
  len : rs.length ≤ 16
  each : ∀ r ∈ rs, 0 ≤ r.2.1 ∧ r.2.1 ≤ 8192 ∧ r.1.size ≤ 40
  tot : tot rs ≤ 8192
theorem vld_zero : ∀ (rs : List D_api_Record) (acc : Int) (nm : List ByteArray), vld acc nm rs = 0 → (∀ r ∈ rs, 0 ≤ r.2.1 ∧ r.2.1 ≤ 8192 ∧ r.1.size ≤ 40) ∧ acc + tot rs ≤ 8192
  | [], acc, nm, h => by
    simp only [vld] at h
    by_cases h1 : acc > 8192
    · rw [if_pos h1] at h; omega
    · exact ⟨fun r hr => (by cases hr), by simp only [tot]; omega⟩
  | r :: rest, acc, nm, h => by
    simp only [vld] at h
    by_cases hb : badR r = true
    · rw [if_pos hb] at h; omega
    · rw [if_neg hb] at h
      obtain ⟨h1, h2⟩ := vld_zero rest _ _ h
      simp only [badR, nmOK, Bool.or_eq_true, Bool.not_eq_true', Bool.and_eq_false_iff, decide_eq_true_eq, decide_eq_false_iff_not, not_or] at hb
      refine ⟨fun q hq => ?_, by simp only [tot]; omega⟩
      rcases List.mem_cons.1 hq with rfl | hq
      · have := hb.1.1.1.2
        exact ⟨by omega, by omega, by omega⟩
      · exact h1 q hq
theorem valid_zero {rs : List D_api_Record} (h : valid rs = 0) : RecsV rs := by
  unfold valid at h
  split at h
  · omega
  · obtain ⟨h1, h2⟩ := vld_zero rs 0 [] h
    exact ⟨by omega, h1, by omega⟩
instance (h : D_api_BlockHead) : Decidable (hOK h) := by unfold hOK; infer_instance
def isP (h : D_api_BlockHead) (p : D_api_Piece) : Prop := h.2.1 = p.1 ∧ h.2.2.1 = p.2.1 ∧ h.2.2.2.1 = p.2.2.1
instance (h : D_api_BlockHead) (p : D_api_Piece) : Decidable (isP h p) := by unfold isP; infer_instance
open Classical
open Classical
abbrev iEq : Int → Int → Bool := peq (.int .i64)
theorem iEq_iff (a b : Int) : iEq a b = true ↔ a = b := by simp [peq]
def Rt (m : List (Int × Bool)) (t : List Bool) : Prop := (∀ x : Int, (mget iEq x m).isSome = true ↔ 0 ≤ x ∧ x < (t.length : Int) ∧ t.getD x.toNat false = true) ∧ m.length = t.countP id
theorem mset_len {α β : Type} {eq : α → α → Bool} (h : ∀ a b, eq a b = true ↔ a = b) (x : α) (v : β) : ∀ m : List (α × β), (mset eq x v m).length = m.length + if (mget eq x m).isSome then 0 else 1
  | [] => by simp [mset, mget]
  | e :: r => by
    have ih := mset_len h x v r
    by_cases hx : eq x e.1 = true
    · have h1 : mset eq x v (e :: r) = (x, v) :: r := if_pos hx
      have h2 : mget eq x (e :: r) = some e.2 := if_pos hx
      rw [h1, h2]; simp
    · have h1 : mset eq x v (e :: r) = e :: mset eq x v r := if_neg hx
      have h2 : mget eq x (e :: r) = mget eq x r := if_neg hx
      rw [h1, h2]
      simp only [List.length_cons, ih]; omega
theorem count_set : ∀ (t : List Bool) (i : Nat), i < t.length → (t.set i true).countP id = t.countP id + if t.getD i false then 0 else 1
  | [], i, h => by simp at h
  | b :: t, 0, h => by cases b <;> simp
  | b :: t, i + 1, h => by
    have := count_set t i (by simpa using h)
    simp only [List.set_cons_succ, List.countP_cons, List.getD_cons_succ, this]; omega
theorem Rt.set {m : List (Int × Bool)} {t : List Bool} (h : Rt m t) {i : Nat} (hi : i < t.length) : Rt (mset iEq (i : Int) true m) (t.set i true) := by
  refine ⟨fun x => ?_, ?_⟩
  · rw [mget_mset iEq_iff, List.length_set]
    by_cases hx : x = (i : Int)
    · rw [if_pos ((iEq_iff _ _).2 hx), hx, Int.toNat_natCast, List.getD_eq_getElem?_getD, List.getElem?_set_self hi]
      simp; omega
    · rw [if_neg (fun k => hx ((iEq_iff _ _).1 k)), h.1 x]
      constructor
      · rintro ⟨a, b, c⟩
        refine ⟨a, b, ?_⟩
        rw [List.getD_eq_getElem?_getD, List.getElem?_set_ne (by omega), ← List.getD_eq_getElem?_getD]; exact c
      · rintro ⟨a, b, c⟩
        refine ⟨a, b, ?_⟩
        rw [List.getD_eq_getElem?_getD, List.getElem?_set_ne (by omega), ← List.getD_eq_getElem?_getD] at c; exact c
  · rw [mset_len iEq_iff, count_set t i hi, h.2]
    congr 1
    have := h.1 (i : Int)
    rw [Int.toNat_natCast] at this
    by_cases hs : t.getD i false = true
    · rw [if_pos (this.2 ⟨by omega, by omega, hs⟩), if_pos hs]
    · rw [if_neg (fun k => hs (this.1 k).2.2), if_neg hs]
theorem Rt.nil (n : Nat) : Rt [] (List.replicate n false) := by
  refine ⟨fun x => ?_, by simp [List.countP_replicate]⟩
  simp only [mget, Option.isSome_none, Bool.false_eq_true, false_iff, not_and, List.length_replicate]
  intro _ _
  rw [List.getD_eq_getElem?_getD, List.getElem?_replicate]
  split <;> simp
open Classical
theorem sum_refl (a : List Int) : peq (.arr 20 (.int .u8)) a a = true := by
  simp only [peq]
  exact peqL_same (fun y => by simp) _
def chk (a : D_api_Settings) : Int := if 0 ≤ a.1 ∧ a.1 ≤ 7 ∧ 16 ≤ a.2.1 ∧ a.2.1 ≤ 4096 then 0 else 2
theorem pack_Check_spec (a : D_api_Settings) : pack_Check a = some (chk a) := by
  rw [pack_Check_eq, chk]
  by_cases h1 : a.1 < 0
  · rw [if_pos (by simpa using h1), if_neg (by omega)]
  · rw [if_neg (by simpa using h1)]
    by_cases h2 : a.1 > 7
    · rw [if_pos (by simpa using h2), if_neg (by omega)]
    · rw [if_neg (by simpa using h2)]
      by_cases h3 : a.2.1 < 16
      · rw [if_pos (by simpa using h3), if_neg (by omega)]
      · rw [if_neg (by simpa using h3)]
        by_cases h4 : a.2.1 > 4096
        · rw [if_pos (by simpa using h4), if_neg (by omega)]
        · rw [if_neg (by simpa using h4), if_pos (by omega)]
def ask (a : D_api_Settings) (rs : List D_api_Record) : Int := if chk a ≠ 0 then chk a else valid rs
theorem tot_nn : ∀ (rs : List D_api_Record), (∀ r ∈ rs, 0 ≤ r.2.1 ∧ r.2.1 ≤ 8192 ∧ r.1.size ≤ 40) → 0 ≤ tot rs
  | [], _ => by simp [tot]
  | r :: rest, h => by
    have h1 := h r (by simp)
    have h2 := tot_nn rest (fun q hq => h q (by simp [hq]))
    simp only [tot]; omega
def pcs (i n s : Int) : Nat → Int → List D_api_Piece
  | 0, _ => []
  | k + 1, off => if off < n then (i, (off, ((if s < n - off then s else n - off), ()))) :: pcs i n s k (off + s) else []
theorem pcs_len (i n s : Int) (hs : 1 ≤ s) : ∀ (k : Nat) (off : Int), 0 ≤ n → off ≤ n → ((pcs i n s k off).length : Int) ≤ n - off
  | 0, off, _, h => by simp [pcs]; omega
  | k + 1, off, hn, h => by
    simp only [pcs]
    by_cases h1 : off < n
    · rw [if_pos h1]
      by_cases h2 : off + s ≤ n
      · have := pcs_len i n s hs k (off + s) hn h2
        simp only [List.length_cons]; omega
      · have : pcs i n s k (off + s) = [] := by
          cases k with
          | zero => rfl
          | succ k => simp only [pcs]; rw [if_neg (by omega)]
        rw [this]; simp; omega
    · rw [if_neg h1]; simp; omega
def ap (s : Int) : Int → List D_api_Record → List D_api_Piece
  | _, [] => []
  | i, r :: rest => pcs i r.2.1 s 8200 0 ++ ap s (i + 1) rest
def szs (rs : List D_api_Record) : List Int := rs.map (·.2.1)
theorem szs_get (rs : List D_api_Record) (i : Nat) (h : i < rs.length) : (szs rs).getD i 0 = (rs.getD i (pzero T_api_Record)).2.1 := by
  unfold szs
  simp only [List.getD_eq_getElem?_getD, List.getElem?_map, List.getElem?_eq_getElem h, Option.map_some, Option.getD_some]
theorem szs_len (rs : List D_api_Record) : (szs rs).length = rs.length := by simp [szs]
theorem Pieces_c2 (s i n : Int) (xs : List Int) (v23 v24 : Int) (hs : 16 ≤ s ∧ s ≤ 4096) (hn : 0 ≤ n ∧ n ≤ 8192) (k : Nat) : ∀ (off : Int) (h : List D_api_Piece), n - off ≤ k → 0 ≤ off → off ≤ 13000 → (h.length : Int) + (k : Int) ≤ 1000000 →
    split_Pieces_c2 s i n off xs v23 v24 h = split_Pieces_c1 s xs v23 (IntKind.wrap .i64 (v24 + 1)) (h ++ pcs i n s k off) := by
  induction k with
  | zero =>
    intro off h e h0 h1 hl
    have hc : ¬ off < n := by omega
    rw [split_Pieces_c2_eq, if_neg (by simpa using hc)]
    simp only [pcs, List.append_nil]
  | succ k ih =>
    intro off h e h0 h1 hl
    rw [split_Pieces_c2_eq]
    by_cases hc : off < n
    · rw [if_pos (by simpa using hc), gd_pos (by simp; omega), w64 (x := n - off) (by omega) (by omega), w64 (x := off + s) (by omega) (by omega)]
      rw [ih (off + s) _ (by omega) (by omega) (by omega) (by simp; omega)]
      simp only [pcs, if_pos hc, List.append_assoc, List.singleton_append]
    · rw [if_neg (by simpa using hc)]
      simp only [pcs, if_neg hc, List.append_nil]
theorem Pieces_c1 (s : Int) (rs : List D_api_Record) (hs : 16 ≤ s ∧ s ≤ 4096) (hR : RecsV rs) : ∀ (k i : Nat) (h : List D_api_Piece), i + k = rs.length → (h.length : Int) ≤ 8192 * i →
    split_Pieces_c1 s (szs rs) (rs.length : Int) (i : Int) h = some (h ++ ap s i (rs.drop i), 0)
  | 0, i, h, e, hl => by
    rw [split_Pieces_c1_eq, if_neg (by simp; omega), List.drop_eq_nil_of_le (by omega)]
    simp [ap]
  | k + 1, i, h, e, hl => by
    have hlen := hR.len
    obtain ⟨d1, d2, d3⟩ := dropR_at (pzero T_api_Record : D_api_Record) (xs := rs) (i := i) (by omega)
    have hl' : Int.ofNat (szs rs).length = (rs.length : Int) := by rw [szs_len]; rfl
    have hv := hR.each _ d3
    rw [split_Pieces_c1_eq, if_pos (by simp; omega), gd_pos (by omega), gd_pos (by rw [hl']; omega), Int.toNat_natCast, szs_get rs i (by omega)]
    rw [Pieces_c2 s i _ (szs rs) _ _ hs ⟨hv.1, hv.2.1⟩ 8200 0 h (by omega) (by omega) (by omega) (by omega), w64 (by omega) (by omega)]
    have hp := pcs_len (i : Int) (rs.getD i (pzero T_api_Record)).2.1 s (by omega) 8200 0 hv.1 hv.1
    have ih := Pieces_c1 s rs hs hR k (i + 1) (h ++ pcs (i : Int) (rs.getD i (pzero T_api_Record)).2.1 s 8200 0) (by omega) (by rw [List.length_append]; omega)
    rw [show ((i + 1 : Nat) : Int) = (i : Int) + 1 by omega] at ih
    rw [ih, d1, ap, List.append_assoc]
theorem Index_c1 (xs : List Int) (hx : ∀ x ∈ xs, 0 ≤ x) (hl : xs.length ≤ 1000) : ∀ (k i : Nat), i + k = xs.length → slices_IndexFunc_int_int_c1 xs (xs.length : Int) (i : Int) = some (-1)
  | 0, i, e => by rw [slices_IndexFunc_int_int_c1_eq, if_neg (by simp; omega)]
  | k + 1, i, e => by
    have hl' : Int.ofNat xs.length = (xs.length : Int) := rfl
    obtain ⟨d1, d2, d3⟩ := dropR_at (0 : Int) (xs := xs) (i := i) (by omega)
    have := hx _ d3
    have ih := Index_c1 xs hx hl k (i + 1) (by omega)
    rw [show ((i + 1 : Nat) : Int) = (i : Int) + 1 by omega] at ih
    rw [slices_IndexFunc_int_int_c1_eq, if_pos (by simp; omega), gd_pos (by omega), gd_pos (by rw [hl']; omega), Int.toNat_natCast, split_check_1_eq]
    simp only [Option.bind_some]
    rw [if_neg (by simp only [decide_eq_true_eq]; omega), w64 (by omega) (by omega), ih]
theorem check_c1 (rs : List D_api_Record) (hR : RecsV rs) : ∀ (k i : Nat) (acc : Int), i + k = rs.length → 0 ≤ acc → acc + tot (rs.drop i) ≤ 8192 → split_check_c1 acc (szs rs) (rs.length : Int) (i : Int) = some 0
  | 0, i, acc, e, h0, h1 => by rw [split_check_c1_eq, if_neg (by simp; omega)]
  | k + 1, i, acc, e, h0, h1 => by
    have hlen := hR.len
    have hl' : Int.ofNat (szs rs).length = (rs.length : Int) := by rw [szs_len]; rfl
    obtain ⟨d1, d2, d3⟩ := dropR_at (pzero T_api_Record : D_api_Record) (xs := rs) (i := i) (by omega)
    have hv := hR.each _ d3
    have ht := tot_nn (rs.drop (i + 1)) (fun r hr => hR.each r (List.mem_of_mem_drop hr))
    rw [d1, tot] at h1
    rw [split_check_c1_eq, if_pos (by simp; omega), gd_pos (by omega), gd_pos (by rw [hl']; omega), Int.toNat_natCast, szs_get rs i (by omega)]
    rw [if_neg (show ¬ (8193 : Int) < (rs.getD i (pzero T_api_Record)).2.1 by omega), w64 (by omega) (by omega), if_neg (by simp only [decide_eq_true_eq]; omega), w64 (by omega) (by omega)]
    have ih := check_c1 rs hR k (i + 1) (acc + (rs.getD i (pzero T_api_Record)).2.1) (by omega) (by omega) (by omega)
    rw [show ((i + 1 : Nat) : Int) = (i : Int) + 1 by omega] at ih
    exact ih
theorem Pieces_spec (s : Int) (rs : List D_api_Record) (hs : 16 ≤ s ∧ s ≤ 4096) (hR : RecsV rs) : split_Pieces (szs rs) s = some (ap s 0 rs, 0) := by
  have hlen := hR.len
  have hl' : Int.ofNat (szs rs).length = (rs.length : Int) := by rw [szs_len]; rfl
  have hc : split_check (szs rs) = some 0 := by
    have hi := Index_c1 (szs rs) (fun x hx => by
      obtain ⟨r, hr, rfl⟩ := List.mem_map.1 hx
      exact (hR.each r hr).1) (by rw [szs_len]; omega) (szs rs).length 0 (by omega)
    have hi' : slices_IndexFunc_int_int (szs rs) = some (-1) := by rw [slices_IndexFunc_int_int_eq]; exact hi
    rw [split_check_eq, slices_ContainsFunc_int_int_eq, hi']
    simp only [Option.bind_some]
    rw [if_neg (by simp), hl', if_neg (by simp; omega)]
    exact check_c1 rs hR rs.length 0 0 (by omega) (by omega) (by have := hR.tot; simp; omega)
  rw [split_Pieces_eq, hc]
  simp only [Option.bind_some]
  rw [if_neg (by simp), if_neg (by simp; omega), if_neg (by simp; omega), hl']
  exact Pieces_c1 s rs hs hR rs.length 0 [] (by omega) (by simp)
theorem pcs_cnt (i n s : Int) : ∀ (k : Nat) (off : Int), (pcs i n s k off).length = (pcs 0 n s k off).length
  | 0, off => rfl
  | k + 1, off => by
    simp only [pcs]
    by_cases h : off < n
    · rw [if_pos h, if_pos h]; simp only [List.length_cons, pcs_cnt i n s k]
    · rw [if_neg h, if_neg h]
def pcn (s : Int) (r : D_api_Record) : Int := ((pcs 0 r.2.1 s 8200 0).length : Int)
def lens (s : Int) (rs : List D_api_Record) : List Int := rs.map (pcn s)
def sumI : List Int → Int
  | [] => 0
  | x :: r => x + sumI r
theorem ap_len (s : Int) : ∀ (rs : List D_api_Record) (i : Int), ((ap s i rs).length : Int) = sumI (lens s rs)
  | [], i => rfl
  | r :: rest, i => by
    have := ap_len s rest (i + 1)
    simp only [ap, List.length_append, lens, List.map_cons, sumI, pcs_cnt i, pcn] at this ⊢
    omega
theorem lens_b (s : Int) (hs : 16 ≤ s) (rs : List D_api_Record) (hR : RecsV rs) : ∀ x ∈ lens s rs, 0 ≤ x ∧ x ≤ 9000 := by
  intro x hx
  obtain ⟨r, hr, rfl⟩ := List.mem_map.1 hx
  have hv := hR.each r hr
  have := pcs_len 0 r.2.1 s (by omega) 8200 0 hv.1 hv.1
  unfold pcn
  omega
theorem ap_small (s : Int) (hs : 16 ≤ s) (rs : List D_api_Record) (hR : RecsV rs) : ((ap s 0 rs).length : Int) ≤ 100000 := by
  have h1 := ap_len s rs 0
  have h2 : ∀ xs : List Int, (∀ x ∈ xs, 0 ≤ x ∧ x ≤ 9000) → sumI xs ≤ 9000 * (xs.length : Int) := by
    intro xs
    induction xs with
    | nil => intro _; simp [sumI]
    | cons x xs ih =>
      intro h
      have := h x (by simp)
      have := ih (fun y hy => h y (by simp [hy]))
      simp only [sumI, List.length_cons]; omega
  have h3 := h2 (lens s rs) (lens_b s hs rs hR)
  have h4 := hR.tot
  have h5 : ∀ rs : List D_api_Record, (∀ r ∈ rs, 0 ≤ r.2.1 ∧ r.2.1 ≤ 8192 ∧ r.1.size ≤ 40) → sumI (lens s rs) ≤ tot rs := by
    intro rs
    induction rs with
    | nil => intro _; simp [lens, sumI, tot]
    | cons r rs ih =>
      intro h
      have hv := h r (by simp)
      have := ih (fun y hy => h y (by simp [hy]))
      have hp := pcs_len 0 r.2.1 s (by omega) 8200 0 hv.1 hv.1
      simp only [lens, List.map_cons, sumI, tot, pcn] at this ⊢
      omega
  have := h5 rs hR.each
  omega
def hsum : List D_api_Record → Int
  | [] => 0
  | r :: rest => 23 + (r.1.size : Int) + hsum rest
theorem hsum_b : ∀ (rs : List D_api_Record), (∀ r ∈ rs, 0 ≤ r.2.1 ∧ r.2.1 ≤ 8192 ∧ r.1.size ≤ 40) → 0 ≤ hsum rs ∧ hsum rs ≤ 100 * (rs.length : Int)
  | [], _ => by simp [hsum]
  | r :: rest, h => by
    have h1 := h r (by simp)
    have h2 := hsum_b rest (fun q hq => h q (by simp [hq]))
    simp only [hsum, List.length_cons]; omega
def recB (r : D_api_Record) : List Int := (([IntKind.wrap .u8 (r.1.size : Int)] ++ ofStr r.1) ++ [IntKind.wrap .u8 (Int.fdiv r.2.1 256), IntKind.wrap .u8 r.2.1]) ++ List.take 20 (List.drop 0 r.2.2.1)
def recsB : List D_api_Record → List Int
  | [] => []
  | r :: rest => recB r ++ recsB rest
def frontB (a : D_api_Settings) (n : Int) : List Int := [66, 76, 70, 1, IntKind.wrap .u8 a.1, IntKind.wrap .u8 (Int.fdiv a.2.1 256), IntKind.wrap .u8 a.2.1, IntKind.wrap .u8 n]
def bodyB (a : D_api_Settings) (rs : List D_api_Record) : List Int := frontB a rs.length ++ recsB rs
def headB (a : D_api_Settings) (rs : List D_api_Record) : List Int := bodyB a rs ++ shaB (bodyB a rs)
def SumsOK (rs : List D_api_Record) : Prop := ∀ r ∈ rs, r.2.2.1.length = 20 ∧ Bts r.2.2.1
theorem ofStr_bts (s : ByteArray) : Bts (ofStr s) := by
  intro x hx
  obtain ⟨b, _, rfl⟩ := List.mem_map.1 hx
  have := b.toNat_lt
  omega
theorem recB_len (r : D_api_Record) (h : r.2.2.1.length = 20) : (recB r).length = 23 + r.1.size := by
  simp only [recB, List.length_append, List.length_cons, List.length_nil, ofStr_len, List.length_take, List.drop_zero, h]
  omega
theorem recB_bts (r : D_api_Record) (h : Bts r.2.2.1) : Bts (recB r) :=
  Bts.append (Bts.append (Bts.append (Bts.cons (w8_b _) Bts.nil) (ofStr_bts _)) (Bts.cons (w8_b _) (Bts.cons (w8_b _) Bts.nil))) ((h.drop 0).take 20)
theorem recsB_len : ∀ (rs : List D_api_Record), SumsOK rs → ((recsB rs).length : Int) = hsum rs
  | [], _ => rfl
  | r :: rest, h => by
    have h1 := recB_len r (h r (by simp)).1
    have h2 := recsB_len rest (fun q hq => h q (by simp [hq]))
    simp only [recsB, hsum, List.length_append]
    omega
theorem recsB_bts : ∀ (rs : List D_api_Record), SumsOK rs → Bts (recsB rs)
  | [], _ => Bts.nil
  | r :: rest, h => (recB_bts r (h r (by simp)).2).append (recsB_bts rest (fun q hq => h q (by simp [hq])))
theorem frontB_bts (a : D_api_Settings) (n : Int) : Bts (frontB a n) := by
  unfold frontB
  repeat first | exact Bts.nil | refine Bts.cons (w8_b _) ?_ | refine Bts.cons (by omega) ?_
theorem bodyB_bts (a : D_api_Settings) (rs : List D_api_Record) (h : SumsOK rs) : Bts (bodyB a rs) := (frontB_bts _ _).append (recsB_bts rs h)
theorem headB_bts (a : D_api_Settings) (rs : List D_api_Record) (h : SumsOK rs) : Bts (headB a rs) := (bodyB_bts a rs h).append (shaB_bts _)
theorem headB_len (a : D_api_Settings) (rs : List D_api_Record) (h : SumsOK rs) : ((headB a rs).length : Int) = 28 + hsum rs := by
  have := recsB_len rs h
  simp only [headB, bodyB, List.length_append, shaB_len]
  have : (frontB a rs.length).length = 8 := rfl
  omega
theorem Write_c1 (rs : List D_api_Record) (hR : RecsV rs) (hS : SumsOK rs) : ∀ (k i : Nat) (h : List Int), i + k = rs.length → (h.length : Int) ≤ 100 * i → member_Write_c1 rs (rs.length : Int) (i : Int) h = some (h ++ recsB (rs.drop i), 0)
  | 0, i, h, e, hl => by
    rw [member_Write_c1_eq, if_neg (by simp; omega), List.drop_eq_nil_of_le (by omega)]; simp [recsB]
  | k + 1, i, h, e, hl => by
    have hlen := hR.len
    have hl' : Int.ofNat rs.length = (rs.length : Int) := rfl
    obtain ⟨d1, d2, d3⟩ := dropR_at (pzero T_api_Record : D_api_Record) (xs := rs) (i := i) (by omega)
    have hv := hR.each _ d3
    have hs := hS _ d3
    have hb := recB_len _ hs.1
    rw [member_Write_c1_eq, if_pos (by simp; omega), gd_pos (by omega), gd_pos (by rw [hl']; omega), Int.toNat_natCast]
    generalize (rs.getD i (pzero T_api_Record) : D_api_Record) = r at *
    have e1 : (((h ++ [IntKind.wrap .u8 (Int.ofNat r.1.size)]) ++ ofStr r.1) ++ [IntKind.wrap .u8 (Int.fdiv r.2.1 256), IntKind.wrap .u8 r.2.1]) ++ List.take 20 (List.drop 0 r.2.2.1) = h ++ recB r := by
      simp only [recB, List.append_assoc]; rfl
    have ho := ofStr_len r.1
    rw [gd_pos (by simp only [List.length_append, List.length_cons, List.length_nil]; omega), gd_pos (by simp only [List.length_append, List.length_cons, List.length_nil]; omega), gd_pos (by omega), gd_pos (by simp only [List.length_append, List.length_cons, List.length_nil]; omega), e1, gd_pos (by rw [List.length_append]; omega), w64 (by omega) (by omega)]
    have ih := Write_c1 rs hR hS k (i + 1) (h ++ recB r) (by omega) (by rw [List.length_append]; omega)
    rw [show ((i + 1 : Nat) : Int) = (i : Int) + 1 by omega] at ih
    rw [ih, d1, recsB, List.append_assoc]
theorem member_Write_spec (rs : List D_api_Record) (hR : RecsOK rs) (hS : SumsOK rs) : member_Write rs = some (if valid rs ≠ 0 then ([], valid rs) else (recsB rs, 0)) := by
  rw [member_Write_eq, member_Valid_spec rs hR]
  simp only [Option.bind_some]
  by_cases h : valid rs = 0
  · rw [if_neg (by simp [h]), if_neg (by simp [h])]
    exact Write_c1 rs (valid_zero h) hS rs.length 0 [] (by omega) (by simp)
  · rw [if_pos (by simpa using h), if_pos h]
theorem pack_Head_spec (a : D_api_Settings) (rs : List D_api_Record) (hR : RecsOK rs) (hS : SumsOK rs) : pack_Head a rs = some (if ask a rs ≠ 0 then ([], ask a rs) else (headB a rs, 0)) := by
  rw [pack_Head_eq, pack_Check_spec, member_Write_spec rs hR hS]
  simp only [Option.bind_some]
  by_cases h : chk a = 0
  · rw [if_neg (by simp [h])]
    have ha : ask a rs = valid rs := by unfold ask; rw [if_neg (by simp [h])]
    by_cases hv : valid rs = 0
    · rw [if_neg (show ¬ valid rs ≠ 0 by simp [hv]), if_neg (by simp), if_neg (by rw [ha]; simp [hv])]
      have hV := valid_zero hv
      have hlen := hV.len
      have hb := hsum_b rs hV.each
      have hr := recsB_len rs hS
      have hbl : (bodyB a rs).length = 8 + (recsB rs).length := by simp only [bodyB, List.length_append]; rfl
      have e1 : [(66 : Int), 76, 70, 1, IntKind.wrap .u8 a.1, IntKind.wrap .u8 (Int.fdiv a.2.1 256), IntKind.wrap .u8 a.2.1, IntKind.wrap .u8 (Int.ofNat rs.length)] ++ recsB rs = bodyB a rs := rfl
      simp only
      rw [gd_pos (by omega), e1, gd_pos (by omega), Sum_spec _ (bodyB_bts a rs hS), if_pos (by omega)]
      simp only [Option.bind_some]
      have e2 : List.take 20 (List.drop 0 (shaB (bodyB a rs))) = shaB (bodyB a rs) := by
        rw [List.drop_zero, List.take_of_length_le (by rw [shaB_len]; omega)]
      rw [e2, gd_pos (by rw [List.length_append, shaB_len]; omega)]
      rfl
    · rw [if_pos hv, if_pos (by simpa using hv), if_pos (by rw [ha]; exact hv), ha]
  · have ha : ask a rs = chk a := by unfold ask; rw [if_pos h]
    rw [if_pos (by simpa using h), if_pos (by rw [ha]; exact h), ha]
theorem Bytes_c1 (rs : List D_api_Record) (hR : RecsV rs) (hS : SumsOK rs) : ∀ (k i : Nat) (h : List Int), i + k = rs.length → (h.length : Int) ≤ 100 * i → bitloftref28_Bytes_c1 rs (i : Int) h = some (h ++ recsB (rs.drop i))
  | 0, i, h, e, hl => by
    have hl' : Int.ofNat rs.length = (rs.length : Int) := rfl
    rw [bitloftref28_Bytes_c1_eq, if_neg (by simp; omega), List.drop_eq_nil_of_le (by omega)]; simp [recsB]
  | k + 1, i, h, e, hl => by
    have hlen := hR.len
    have hl' : Int.ofNat rs.length = (rs.length : Int) := rfl
    obtain ⟨d1, d2, d3⟩ := dropR_at (pzero T_api_Record : D_api_Record) (xs := rs) (i := i) (by omega)
    have hv := hR.each _ d3
    have hs := hS _ d3
    have hb := recB_len _ hs.1
    rw [bitloftref28_Bytes_c1_eq, if_pos (by simp; omega), gd_pos (by omega), gd_pos (by rw [hl']; omega), Int.toNat_natCast]
    generalize (rs.getD i (pzero T_api_Record) : D_api_Record) = r at *
    have e1 : (((h ++ [IntKind.wrap .u8 (Int.ofNat r.1.size)]) ++ ofStr r.1) ++ [IntKind.wrap .u8 (Int.fdiv r.2.1 256), IntKind.wrap .u8 r.2.1]) ++ List.take 20 (List.drop 0 r.2.2.1) = h ++ recB r := by
      simp only [recB, List.append_assoc]; rfl
    have ho := ofStr_len r.1
    rw [gd_pos (by simp only [List.length_append, List.length_cons, List.length_nil]; omega), gd_pos (by simp only [List.length_append, List.length_cons, List.length_nil]; omega), gd_pos (by omega), gd_pos (by simp only [List.length_append, List.length_cons, List.length_nil]; omega), e1, gd_pos (by rw [List.length_append]; omega), w64 (by omega) (by omega)]
    have ih := Bytes_c1 rs hR hS k (i + 1) (h ++ recB r) (by omega) (by rw [List.length_append]; omega)
    rw [show ((i + 1 : Nat) : Int) = (i : Int) + 1 by omega] at ih
    rw [ih, d1, recsB, List.append_assoc]
theorem rBytes_spec (a : D_api_Settings) (rs : List D_api_Record) (hR : RecsV rs) (hS : SumsOK rs) : bitloftref30_Bytes a rs = some (headB a rs) := by
  have hb := hsum_b rs hR.each
  have hlen := hR.len
  have hr := recsB_len rs hS
  have hbl : (bodyB a rs).length = 8 + (recsB rs).length := by simp only [bodyB, List.length_append]; rfl
  have h1 : bitloftref28_Bytes rs = some (recsB rs) := by
    rw [bitloftref28_Bytes_eq]; exact Bytes_c1 rs hR hS rs.length 0 [] (by omega) (by simp)
  rw [bitloftref30_Bytes_eq, bitloftref30_Front_eq, gd_pos (by omega), h1]
  simp only [Option.bind_some]
  have e1 : [(66 : Int), 76, 70, 1, IntKind.wrap .u8 a.1, IntKind.wrap .u8 (Int.fdiv a.2.1 256), IntKind.wrap .u8 a.2.1, IntKind.wrap .u8 (Int.ofNat rs.length)] ++ recsB rs = bodyB a rs := rfl
  rw [e1, gd_pos (by omega), Of_spec _ (by omega)]
  simp only [Option.bind_some]
  have e2 : List.take 20 (List.drop 0 (shaB (bodyB a rs))) = shaB (bodyB a rs) := by
    rw [List.drop_zero, List.take_of_length_le (by rw [shaB_len]; omega)]
  rw [e2, gd_pos (by rw [List.length_append, shaB_len]; omega)]
  rfl
instance (h : D_api_BlockHead) : Decidable (hOK h) := by unfold hOK; infer_instance
theorem list_pieces_s1 (a : D_api_Settings) (rs : List D_api_Record) (hs : 16 ≤ a.2.1 ∧ a.2.1 ≤ 4096) (hR : RecsV rs) : ∀ (k i : Nat), i + k = rs.length → list_pieces_c1 rs (rs.length : Int) (i : Int) a (szs (rs.take i)) = some (ap a.2.1 0 rs)
  | 0, i, e => by
    rw [list_pieces_c1_eq, if_neg (by simp; omega), List.take_of_length_le (by omega), Pieces_spec _ rs hs hR]; rfl
  | k + 1, i, e => by
    have hlen := hR.len
    have hl' : Int.ofNat rs.length = (rs.length : Int) := rfl
    obtain ⟨d1, d2, d3⟩ := dropR_at (pzero T_api_Record : D_api_Record) (xs := rs) (i := i) (by omega)
    have hz : szs (List.take i rs) ++ [(List.getD rs i (pzero T_api_Record)).2.1] = szs (List.take (i + 1) rs) := by rw [d2]; simp [szs]
    have ih := list_pieces_s1 a rs hs hR k (i + 1) (by omega)
    rw [show ((i + 1 : Nat) : Int) = (i : Int) + 1 by omega] at ih
    rw [list_pieces_c1_eq, if_pos (by simp; omega), gd_pos (by omega), gd_pos (by rw [hl']; omega), Int.toNat_natCast, hz, gd_pos (by rw [szs_len, List.length_take]; omega), w64 (by omega) (by omega), ih]
theorem list_pieces_spec (a : D_api_Settings) (rs : List D_api_Record) (hs : 16 ≤ a.2.1 ∧ a.2.1 ≤ 4096) (hR : RecsV rs) : list_pieces a rs = some (ap a.2.1 0 rs) := by
  rw [list_pieces_eq]; exact list_pieces_s1 a rs hs hR rs.length 0 (by omega)
theorem chk_zero' {a : D_api_Settings} (h : chk a = 0) : 16 ≤ a.2.1 ∧ a.2.1 ≤ 4096 := by
  unfold chk at h
  split at h <;> omega
instance (h : D_api_BlockHead) (p : D_api_Piece) : Decidable (isP h p) := by unfold isP; infer_instance
theorem list_is_spec (h : D_api_BlockHead) (p : D_api_Piece) : list_is h p = some (decide (isP h p)) := by
  rw [list_is_eq]
  congr 1
  simp only [peq, Bool.and_true]
  rw [Bool.eq_iff_iff, decide_eq_true_eq]
  simp only [Bool.and_eq_true, decide_eq_true_eq]
  exact Iff.rfl
def ckL : List D_api_BlockHead → List D_api_Piece → Int
  | h :: hs, p :: ps => if hOK h ∧ isP h p then ckL hs ps else 8
  | _, _ => 0
def lck (l : D_api_Listing) : Int :=
  if chk l.1 ≠ 0 then 8 else if valid l.2.1 ≠ 0 then 8 else if (ap l.1.2.1 0 l.2.1).length ≠ l.2.2.1.length then 8 else ckL l.2.2.1 (ap l.1.2.1 0 l.2.1)
theorem lCheck_c1 (hs : List D_api_BlockHead) (ps : List D_api_Piece) (hl : hs.length = ps.length) (hb : hs.length ≤ 1000000) : ∀ (k i : Nat), i + k = hs.length → list_Check_c1 hs (hs.length : Int) (i : Int) ps = some (ckL (hs.drop i) (ps.drop i))
  | 0, i, e => by
    rw [list_Check_c1_eq, if_neg (by simp; omega), List.drop_eq_nil_of_le (by omega)]; rfl
  | k + 1, i, e => by
    have hl' : Int.ofNat hs.length = (hs.length : Int) := rfl
    have hl2 : Int.ofNat ps.length = (ps.length : Int) := rfl
    obtain ⟨d1, d2, d3⟩ := dropR_at (pzero T_api_BlockHead : D_api_BlockHead) (xs := hs) (i := i) (by omega)
    obtain ⟨p1, p2, p3⟩ := dropR_at (pzero T_api_Piece : D_api_Piece) (xs := ps) (i := i) (by omega)
    have ih := lCheck_c1 hs ps hl hb k (i + 1) (by omega)
    rw [show ((i + 1 : Nat) : Int) = (i : Int) + 1 by omega] at ih
    rw [list_Check_c1_eq, if_pos (by simp; omega), gd_pos (by omega), gd_pos (by rw [hl']; omega), Int.toNat_natCast, Nat.zero_add, header_Check_spec]
    simp only [Option.bind_some, hC_ne]
    rw [d1, p1, ckL]
    generalize hs.getD i (pzero T_api_BlockHead) = h0
    generalize ps.getD i (pzero T_api_Piece) = p0
    by_cases h1 : hOK h0
    · rw [if_neg (by simpa using h1), gd_pos (by omega), gd_pos (by rw [hl2]; omega), list_is_spec]
      simp only [Option.bind_some]
      by_cases h2 : isP h0 p0
      · rw [if_neg (by simp [h2]), if_pos ⟨h1, h2⟩, w64 (by omega) (by omega), ih]
      · rw [if_pos (by simp [h2]), if_neg (fun h => h2 h.2)]
    · rw [if_pos h1, if_neg (fun h => h1 h.1)]
theorem list_Check_spec (l : D_api_Listing) (hR : RecsOK l.2.1) : list_Check l = some (lck l) := by
  rw [list_Check_eq, pack_Check_spec, member_Valid_spec _ hR]
  simp only [Option.bind_some, lck]
  by_cases hc : chk l.1 = 0
  · rw [if_neg (by simp [hc]), if_neg (show ¬ chk l.1 ≠ 0 by simp [hc])]
    by_cases hv : valid l.2.1 = 0
    · have h16 := chk_zero' hc
      have hV := valid_zero hv
      rw [if_neg (by simp [hv]), if_neg (show ¬ valid l.2.1 ≠ 0 by simp [hv]), list_pieces_spec l.1 l.2.1 h16 hV]
      simp only [Option.bind_some]
      have hsm := ap_small l.1.2.1 h16.1 l.2.1 hV
      by_cases hl : (ap l.1.2.1 0 l.2.1).length = l.2.2.1.length
      · rw [if_neg (by simp [hl]), if_neg (show ¬ (ap l.1.2.1 0 l.2.1).length ≠ l.2.2.1.length by simp [hl])]
        exact lCheck_c1 l.2.2.1 _ hl.symm (by omega) l.2.2.1.length 0 (by omega)
      · rw [if_pos (by simp; omega), if_pos hl]
    · rw [if_pos (by simpa using hv), if_pos hv]
  · rw [if_pos (by simpa using hc), if_pos hc]
theorem ckL_zero : ∀ (hs : List D_api_BlockHead) (ps : List D_api_Piece), hs.length = ps.length → ckL hs ps = 0 → ∀ h ∈ hs, hOK h
  | [], _, _, _, h, hh => by cases hh
  | h :: hs, [], hl, _, _, _ => by simp at hl
  | h :: hs, p :: ps, hl, hc, x, hx => by
    simp only [ckL] at hc
    split at hc
    · rename_i hok
      rcases List.mem_cons.1 hx with rfl | hx
      · exact hok.1
      · exact ckL_zero hs ps (by simpa using hl) hc x hx
    · omega
structure LstV (l : D_api_Listing) : Prop where
  blk : 16 ≤ l.1.2.1 ∧ l.1.2.1 ≤ 4096
  chk : chk l.1 = 0
  val : valid l.2.1 = 0
  recs : RecsV l.2.1
  len : l.2.2.1.length = (ap l.1.2.1 0 l.2.1).length
  hds : ∀ h ∈ l.2.2.1, hOK h
  ck : ckL l.2.2.1 (ap l.1.2.1 0 l.2.1) = 0
theorem lck_zero {l : D_api_Listing} (h : lck l = 0) : LstV l := by
  unfold lck at h
  split at h
  · omega
  · rename_i hc
    split at h
    · omega
    · rename_i hv
      split at h
      · omega
      · rename_i hl
        simp only [ne_eq, Decidable.not_not] at hc hv hl
        exact ⟨chk_zero' hc, hc, hv, valid_zero hv, hl.symm, ckL_zero _ _ hl.symm h, h⟩
theorem lck_ne {l : D_api_Listing} : lck l = 0 ∨ lck l = 8 := by
  have h : ∀ hs ps, ckL hs ps = 0 ∨ ckL hs ps = 8 := by
    intro hs
    induction hs with
    | nil => intro ps; left; rfl
    | cons x xs ih =>
      intro ps
      cases ps with
      | nil => left; rfl
      | cons p ps => simp only [ckL]; split; exact ih ps; right; rfl
  unfold lck
  split; right; rfl
  split; right; rfl
  split; right; rfl
  exact h _ _
def plc : Int → List D_api_BlockHead → List Int
  | _, [] => []
  | at_, h :: r => at_ :: plc (at_ + (41 + h.2.2.2.2.1)) r
theorem hOK_len' {h : D_api_BlockHead} (ok : hOK h) : 1 ≤ h.2.2.2.2.1 ∧ h.2.2.2.2.1 ≤ 4096 := by unfold hOK at ok; omega
theorem lPlaces_c1 (hs : List D_api_BlockHead) (hh : ∀ h ∈ hs, hOK h) (hb : hs.length ≤ 1000000) : ∀ (k i : Nat) (at_ : Int) (out : List Int), i + k = hs.length → 0 ≤ at_ → at_ ≤ 100000 + 5000 * i → out.length = i → list_Places_c1 at_ hs (hs.length : Int) (i : Int) out = some (out ++ plc at_ (hs.drop i), 0)
  | 0, i, at_, out, e, h0, h1, ho => by
    rw [list_Places_c1_eq, if_neg (by simp; omega), List.drop_eq_nil_of_le (by omega)]; simp [plc]
  | k + 1, i, at_, out, e, h0, h1, ho => by
    have hl' : Int.ofNat hs.length = (hs.length : Int) := rfl
    obtain ⟨d1, d2, d3⟩ := dropR_at (pzero T_api_BlockHead : D_api_BlockHead) (xs := hs) (i := i) (by omega)
    have hv := hOK_len' (hh _ d3)
    have ih := lPlaces_c1 hs hh hb k (i + 1) (at_ + (41 + (hs.getD i (pzero T_api_BlockHead)).2.2.2.2.1)) (out ++ [at_]) (by omega) (by omega) (by omega) (by simp; omega)
    rw [show ((i + 1 : Nat) : Int) = (i : Int) + 1 by omega] at ih
    rw [list_Places_c1_eq, if_pos (by simp; omega), gd_pos (by omega), gd_pos (by rw [hl']; omega), gd_pos (by simp only [List.length_append, List.length_cons, List.length_nil]; omega), Int.toNat_natCast, w64 (x := 41 + _) (by omega) (by omega), w64 (x := (i : Int) + 1) (by omega) (by omega), w64 (by omega) (by omega), ih, d1, plc, List.append_assoc]
    rfl
def pls_2 (l : D_api_Listing) : List Int := plc (28 + hsum l.2.1) l.2.2.1
theorem list_Places_spec (l : D_api_Listing) (hR : RecsOK l.2.1) (hS : SumsOK l.2.1) : list_Places l = some (if lck l = 0 then (pls_2 l, 0) else ([], 8)) := by
  rw [list_Places_eq, list_Check_spec l hR]
  simp only [Option.bind_some]
  rcases lck_ne (l := l) with h | h
  · have hL := lck_zero h
    have hsm := ap_small l.1.2.1 hL.blk.1 l.2.1 hL.recs
    have hb := hsum_b l.2.1 hL.recs.each
    have hlen := hL.recs.len
    have hll := hL.len
    rw [if_neg (by simp [h]), if_pos h, pack_Head_spec _ _ hR hS]
    have ha : ask l.1 l.2.1 = 0 := by unfold ask; rw [if_neg (by simp [hL.chk]), hL.val]
    rw [ha, if_neg (by simp)]
    simp only [Option.bind_some]
    have hh := headB_len l.1 l.2.1 hS
    have hh' : Int.ofNat (headB l.1 l.2.1).length = 28 + hsum l.2.1 := hh
    rw [hh']
    exact lPlaces_c1 l.2.2.1 hL.hds (by omega) l.2.2.1.length 0 _ [] (by omega) (by omega) (by omega) rfl
  · rw [if_pos (by simp [h]), h, if_neg (by decide)]
theorem or_byteB {x y : Int} (hx : 0 ≤ x ∧ x < 4294967296) (hy : 0 ≤ y ∧ y < 256) : bitsOr .i64 (x * 256) y = x * 256 + y := by
  obtain ⟨a, rfl⟩ := Int.eq_ofNat_of_zero_le hx.1
  obtain ⟨b, rfl⟩ := Int.eq_ofNat_of_zero_le hy.1
  exact or_shift a b (by omega) (by omega)
theorem bytes_Clone_spec (xs : List Int) (h : xs.length ≤ 1000000) : bytes_Clone xs = some xs := by
  rw [bytes_Clone_eq]
  refine anyv_eq false (by simp) (fun b hb => ?_)
  cases b with
  | true => rw [if_pos rfl, hb rfl]
  | false => rw [if_neg (by simp), gd_pos (by simp; omega)]; simp
def rdB (a : List Int) : D_api_Block × Int × Int :=
  if a.length > 50000 then ((zH, ([], ())), (0, 4)) else if a.length < 41 then ((zH, ([], ())), (0, 18))
  else if a.take 13 ≠ mark ∨ ¬ hOK (pH ((a.drop 13).take 28)) then ((zH, ([], ())), (0, 12))
  else if (a.length : Int) < 41 + (pH ((a.drop 13).take 28)).2.2.2.2.1 then ((zH, ([], ())), (0, 18))
  else ((pH ((a.drop 13).take 28), ((a.drop 41).take (pH ((a.drop 13).take 28)).2.2.2.2.1.toNat, ())), (41 + (pH ((a.drop 13).take 28)).2.2.2.2.1, 0))
theorem block_Read_spec_2 (a : List Int) (hb : Bts a) : block_Read a = some (rdB a) := by
  rw [block_Read_eq]
  unfold rdB
  by_cases h1 : a.length > 50000
  · rw [if_pos (by simp; omega), if_pos h1]; rfl
  rw [if_neg (by simp; omega), if_neg h1]
  by_cases h2 : a.length < 41
  · rw [if_pos (by simp; omega), if_pos h2]; rfl
  rw [if_neg (by simp; omega), if_neg h2, gd_pos (by decide), gd_pos (by decide), gd_pos (by simp only [Int.ofNat_eq_natCast]; omega), header_Parse_spec _ ((hb.drop _).take _), pP_eq a (by omega), marker_At_spec a hb (by omega) (by omega)]
  simp only [Option.bind_some]
  by_cases h3 : a.take 13 = mark
  · by_cases ok : hOK (pH ((a.drop 13).take 28))
    · have hlen := hOK_len ok
      rw [if_pos ok, if_neg (by simp [h3]), if_neg (by simp), if_neg (show ¬ (a.take 13 ≠ mark ∨ ¬ hOK (pH ((a.drop 13).take 28))) from fun h => h.elim (fun h => h h3) (fun h => h ok))]
      generalize pH ((a.drop 13).take 28) = h at ok hlen ⊢
      simp only
      rw [w64 (x := 41 + h.2.2.2.2.1) (by omega) (by omega)]
      by_cases h4 : (a.length : Int) < 41 + h.2.2.2.2.1
      · rw [if_pos (by simpa using h4), if_pos h4]; rfl
      · rw [if_neg (by simpa using h4), if_neg h4, gd_pos (by decide), gd_pos (by omega), gd_pos (by simp only [Int.ofNat_eq_natCast]; omega), bytes_Clone_spec _ (by simp; omega)]
        have e : Int.toNat (41 + h.2.2.2.2.1) - 41 = h.2.2.2.2.1.toNat := by omega
        simp only [Option.bind_some, e]
    · rw [if_neg ok, if_neg (by simp [h3]), if_pos (by simp), if_pos (show (a.take 13 ≠ mark ∨ ¬ hOK (pH ((a.drop 13).take 28))) from .inr ok)]; rfl
  · rw [if_pos (by simp [h3]), if_pos (show (a.take 13 ≠ mark ∨ ¬ hOK (pH ((a.drop 13).take 28))) from .inl h3)]; rfl
def rK (a : List Int) (p : Nat) : Nat := (a.getD p 0).toNat
def rF (a : List Int) (p : Nat) : Prop := p < a.length ∧ p + 1 + rK a p + 22 ≤ a.length
instance (a : List Int) (p : Nat) : Decidable (rF a p) := by unfold rF; infer_instance
def rR (a : List Int) (p : Nat) : D_api_Record :=
  (toStr ((a.drop (p + 1)).take (rK a p)), (a.getD (p + 1 + rK a p) 0 * 256 + a.getD (p + 2 + rK a p) 0, ((a.drop (p + 3 + rK a p)).take 20, ())))
def rdRs (a : List Int) : Nat → Nat → List D_api_Record → List D_api_Record × Int × Int
  | 0, p, acc => if valid acc ≠ 0 then ([], (0, 12)) else (acc, ((p : Int), 0))
  | n + 1, p, acc => if rF a p then rdRs a n (p + rK a p + 23) (acc ++ [rR a p]) else ([], (0, 18))
theorem rK_eq {a : List Int} (hb : Bts a) (p : Nat) : a.getD p 0 = (rK a p : Int) ∧ rK a p < 256 := by
  have := hb.getD p
  unfold rK; omega
theorem td_getD (a : List Int) (p n i : Nat) (h : i < n) : ((a.drop p).take n).getD i 0 = a.getD (p + i) 0 := by
  simp only [List.getD_eq_getElem?_getD, List.getElem?_take, List.getElem?_drop, if_pos h]
theorem take_spec (a : List Int) (hl : a.length ≤ 100000) (p n : Nat) (hp : p ≤ a.length) (hn : n ≤ 1000) :
    member_source_take (n : Int) ((a, ((p : Int), ())), ()) = some (if p + n ≤ a.length then ((a.drop p).take n, (none, ((a, (((p + n : Nat) : Int), ())), ()))) else ([], (some 18, ((a, ((p : Int), ())), ())))) := by
  have hl' : Int.ofNat a.length = (a.length : Int) := rfl
  rw [member_source_take_eq]
  simp only [hl']
  rw [w64 (x := (a.length : Int) - p) (by omega) (by omega), w64 (x := (p : Int) + n) (by omega) (by omega), w64 (x := (p : Int) + n - n) (by omega) (by omega)]
  by_cases h : p + n ≤ a.length
  · have e1 : ((p : Int) + n).toNat = p + n := by omega
    have e2 : ((p : Int) + n - n).toNat = p := by omega
    rw [if_neg (by simp; omega), gd_pos (by omega), gd_pos (by omega), gd_pos (by omega), if_pos h, e1, e2, Nat.add_sub_cancel_left]
    rfl
  · rw [if_pos (by simp; omega), if_neg h]
theorem record_ok (a : List Int) (hb : Bts a) (hl : a.length ≤ 100000) (p : Nat) (hf : rF a p) :
    member_reader_record ((a, ((p : Int), ())), ()) = some (rR a p, (none, ((a, (((p + rK a p + 23 : Nat) : Int), ())), ()))) := by
  obtain ⟨h1, h2⟩ := hf
  obtain ⟨ek, hk⟩ := rK_eq hb p
  have t1 : member_source_take (1 : Int) ((a, ((p : Int), ())), ()) = _ := take_spec a hl p 1 (by omega) (by omega)
  have t2 := take_spec a hl (p + 1) (rK a p + 22) (by omega) (by omega)
  rw [if_pos (by omega)] at t1
  rw [if_pos (by omega)] at t2
  rw [member_reader_record_eq, t1]
  simp only [Option.bind_some]
  have l1 : ((a.drop p).take 1).length = 1 := by simp; omega
  have g1 : ((a.drop p).take 1).getD 0 0 = (rK a p : Int) := by rw [td_getD _ _ _ _ (by omega)]; exact ek
  rw [if_neg (by simp), gd_pos (by omega), gd_pos (by rw [l1]; decide), g1, w64 (x := (rK a p : Int)) (by omega) (by omega), w64 (x := (rK a p : Int) + 22) (by omega) (by omega), show (rK a p : Int) + 22 = ((rK a p + 22 : Nat) : Int) by omega, t2]
  simp only [Option.bind_some]
  have l2 : Int.ofNat ((a.drop (p + 1)).take (rK a p + 22)).length = (rK a p : Int) + 22 := by
    have : ((a.drop (p + 1)).take (rK a p + 22)).length = rK a p + 22 := by simp; omega
    rw [this]; simp
  rw [l2, w64 (x := (rK a p : Int) + 1) (by omega) (by omega), w64 (x := (rK a p : Int) + 2) (by omega) (by omega)]
  rw [if_neg (by simp), gd_pos (by omega), gd_pos (by rw [l1]; decide), gd_pos (by omega), gd_pos (by omega), gd_pos (by omega), gd_pos (by omega), gd_pos (by omega), gd_pos (by omega), gd_pos (by omega), gd_pos (by omega), gd_pos (by omega)]
  have n1 : ((rK a p : Int)).toNat = rK a p := by omega
  have n2 : ((rK a p : Int) + 1).toNat = rK a p + 1 := by omega
  have n3 : ((rK a p : Int) + 2).toNat = rK a p + 2 := by omega
  rw [n1, n2, n3, td_getD _ _ _ _ (by omega), td_getD _ _ _ _ (by omega)]
  have b1 := hb.getD (p + 1 + rK a p)
  have b2 := hb.getD (p + 1 + (rK a p + 1))
  rw [w64 (x := a.getD (p + 1 + rK a p) 0) (by omega) (by omega), w64 (x := a.getD (p + 1 + (rK a p + 1)) 0) (by omega) (by omega), w64 (x := a.getD (p + 1 + rK a p) 0 * 256) (by omega) (by omega), or_byteB (by omega) b2]
  have e1 : List.take (rK a p) ((a.drop (p + 1)).take (rK a p + 22)) = (a.drop (p + 1)).take (rK a p) := by rw [List.take_take, Nat.min_eq_left (by omega)]
  have e2 : List.drop (rK a p + 2) ((a.drop (p + 1)).take (rK a p + 22)) = (a.drop (p + 3 + rK a p)).take 20 := by
    rw [List.drop_take, List.drop_drop, show rK a p + 22 - (rK a p + 2) = 20 by omega, show p + 1 + (rK a p + 2) = p + 3 + rK a p by omega]
  have l3 : ((a.drop (p + 3 + rK a p)).take 20).length = 20 := by simp; omega
  rw [e1, e2, l3]
  have e3 : splice (List.replicate 20 (0 : Int)) 0 (List.take (min 20 20) ((a.drop (p + 3 + rK a p)).take 20)) = (a.drop (p + 3 + rK a p)).take 20 := by
    rw [show min 20 20 = 20 from rfl, List.take_of_length_le (by omega), splice, l3]
    simp
  rw [e3]
  unfold rR
  rw [show p + 1 + (rK a p + 1) = p + 2 + rK a p by omega, show p + 1 + (rK a p + 22) = p + rK a p + 23 by omega]
theorem record_no (a : List Int) (hb : Bts a) (hl : a.length ≤ 100000) (p : Nat) (hp : p ≤ a.length) (hf : ¬ rF a p) :
    ∃ x s, member_reader_record ((a, ((p : Int), ())), ()) = some (x, (some 18, s)) := by
  obtain ⟨ek, hk⟩ := rK_eq hb p
  have t1 : member_source_take (1 : Int) ((a, ((p : Int), ())), ()) = _ := take_spec a hl p 1 (by omega) (by omega)
  rw [member_reader_record_eq, t1]
  simp only [Option.bind_some]
  by_cases h1 : p + 1 ≤ a.length
  · have t2 := take_spec a hl (p + 1) (rK a p + 22) (by omega) (by omega)
    rw [if_neg (by unfold rF at hf; omega)] at t2
    have l1 : ((a.drop p).take 1).length = 1 := by simp; omega
    have g1 : ((a.drop p).take 1).getD 0 0 = (rK a p : Int) := by rw [td_getD _ _ _ _ (by omega)]; exact ek
    rw [if_pos h1]
    simp only
    rw [if_neg (by simp), gd_pos (by omega), gd_pos (by rw [l1]; decide), g1, w64 (x := (rK a p : Int)) (by omega) (by omega), w64 (x := (rK a p : Int) + 22) (by omega) (by omega), show (rK a p : Int) + 22 = ((rK a p + 22 : Nat) : Int) by omega, t2]
    exact ⟨_, _, rfl⟩
  · rw [if_neg h1]
    exact ⟨_, _, rfl⟩
theorem rR_ok (a : List Int) (hb : Bts a) (p : Nat) (hf : rF a p) : (rR a p).1.size = rK a p ∧ (rR a p).2.2.1.length = 20 ∧ Bts (rR a p).2.2.1 := by
  obtain ⟨h1, h2⟩ := hf
  refine ⟨?_, ?_, (hb.drop _).take _⟩
  · unfold rR; rw [toStr_size]; simp; omega
  · unfold rR; simp; omega
theorem RecsOK.snoc {l : List D_api_Record} {r : D_api_Record} (h : RecsOK l) (hl : l.length < 9223372036854775807) (hr : r.1.size ≤ 9223372036854775807) : RecsOK (l ++ [r]) :=
  ⟨by simp; omega, fun q hq => by
    rcases List.mem_append.1 hq with hq | hq
    · exact h.2 q hq
    · rw [List.mem_singleton.1 hq]; exact hr⟩
theorem SumsOK.snoc {l : List D_api_Record} {r : D_api_Record} (h : SumsOK l) (hr : r.2.2.1.length = 20 ∧ Bts r.2.2.1) : SumsOK (l ++ [r]) := fun q hq => by
  rcases List.mem_append.1 hq with hq | hq
  · exact h q hq
  · rw [List.mem_singleton.1 hq]; exact hr
theorem mRead_c1 (a : List Int) (hb : Bts a) (hl : a.length ≤ 100000) (N : Nat) (hN : N ≤ 16) : ∀ (n i p : Nat) (acc : List D_api_Record), i + n = N → acc.length = i → p ≤ a.length → RecsOK acc →
    member_Read_c1 (N : Int) (i : Int) ((a, ((p : Int), ())), ()) acc = some (rdRs a n p acc)
  | 0, i, p, acc, e, hi, hp, hR => by
    rw [member_Read_c1_eq, if_neg (by simp; omega), member_Valid_spec acc hR]
    simp only [Option.bind_some, rdRs]
    by_cases h : valid acc = 0
    · rw [if_neg (by simp [h]), if_neg (by simp [h])]
    · rw [if_pos (by simpa using h), if_pos h]
  | n + 1, i, p, acc, e, hi, hp, hR => by
    rw [member_Read_c1_eq, if_pos (by simp; omega), rdRs]
    by_cases hf : rF a p
    · have hr := rR_ok a hb p hf
      have hk := rK_eq hb p
      rw [record_ok a hb hl p hf, if_pos hf]
      simp only [Option.bind_some, errors_As_none]
      rw [if_neg (by simp), gd_pos (by simp; omega), w64 (by omega) (by omega)]
      have ih := mRead_c1 a hb hl N hN n (i + 1) (p + rK a p + 23) (acc ++ [rR a p]) (by omega) (by simp; omega) (by unfold rF at hf; omega) (hR.snoc (by omega) (by omega))
      rw [show ((i + 1 : Nat) : Int) = (i : Int) + 1 by omega] at ih
      exact ih
    · obtain ⟨x, s, hx⟩ := record_no a hb hl p hp hf
      rw [hx, if_neg hf]
      simp only [Option.bind_some, errors_As_some]
      rw [if_pos trivial]
def rdM (a : List Int) (n : Int) : List D_api_Record × Int × Int := if n < 0 ∨ n > 16 then ([], (0, 2)) else if a.length > 50000 then ([], (0, 4)) else rdRs a n.toNat 0 []
theorem RecsOK.nil : RecsOK [] := ⟨by simp, fun _ h => by cases h⟩
theorem SumsOK.nil : SumsOK [] := fun _ h => by cases h
theorem member_Read_spec (a : List Int) (hb : Bts a) (n : Int) : member_Read a n = some (rdM a n) := by
  rw [member_Read_eq, rdM]
  by_cases h1 : n < 0
  · rw [if_pos (by simpa using h1), if_pos (.inl h1)]
  · rw [if_neg (by simpa using h1)]
    by_cases h2 : n > 16
    · rw [if_pos (by simpa using h2), if_pos (.inr h2)]
    · rw [if_neg (by simpa using h2), if_neg (show ¬ (n < 0 ∨ n > 16) by omega)]
      by_cases h3 : a.length > 50000
      · rw [if_pos (by simp; omega), if_pos h3]
      · rw [if_neg (by simp; omega), if_neg h3]
        have := mRead_c1 a hb (by omega) n.toNat (by omega) n.toNat 0 0 [] (by omega) rfl (by omega) .nil
        rw [show ((n.toNat : Nat) : Int) = n by omega] at this
        exact this
theorem take_add' {α : Type} (l : List α) (m n : Nat) : l.take (m + n) = l.take m ++ (l.drop m).take n := List.take_add
theorem drop_take1 (a : List Int) (p : Nat) (h : p < a.length) : (a.drop p).take 1 = [a.getD p 0] := by
  rw [(dropR_at (0 : Int) h).1]; rfl
theorem recB_rR (a : List Int) (hb : Bts a) (p : Nat) (hf : rF a p) : recB (rR a p) = (a.drop p).take (rK a p + 23) := by
  obtain ⟨h1, h2⟩ := hf
  obtain ⟨ek, hk⟩ := rK_eq hb p
  have hs := (rR_ok a hb p ⟨h1, h2⟩).1
  have b1 := hb.getD (p + 1 + rK a p)
  have b2 := hb.getD (p + 2 + rK a p)
  have e1 : IntKind.wrap .u8 ((rR a p).1.size : Int) = (rK a p : Int) := by rw [hs, wu8]; omega
  have e2 : ofStr (rR a p).1 = (a.drop (p + 1)).take (rK a p) := ofStr_toStr ((hb.drop _).take _)
  have e3 : IntKind.wrap .u8 (Int.fdiv (rR a p).2.1 256) = a.getD (p + 1 + rK a p) 0 := by
    show IntKind.wrap .u8 (Int.fdiv (a.getD (p + 1 + rK a p) 0 * 256 + a.getD (p + 2 + rK a p) 0) 256) = _
    rw [wu8, fdiv_pos _ (by omega)]; omega
  have e4 : IntKind.wrap .u8 (rR a p).2.1 = a.getD (p + 2 + rK a p) 0 := by
    show IntKind.wrap .u8 (a.getD (p + 1 + rK a p) 0 * 256 + a.getD (p + 2 + rK a p) 0) = _
    rw [wu8]; omega
  have e5 : List.take 20 (List.drop 0 (rR a p).2.2.1) = (a.drop (p + 3 + rK a p)).take 20 := by
    show List.take 20 (List.drop 0 ((a.drop (p + 3 + rK a p)).take 20)) = _
    rw [List.drop_zero, List.take_take]; rfl
  unfold recB
  rw [e1, e2, e3, e4, e5, show rK a p + 23 = 1 + (rK a p + (1 + (1 + 20))) by omega, take_add', take_add', take_add', take_add', List.drop_drop, List.drop_drop, List.drop_drop, List.drop_drop, drop_take1 a p h1, drop_take1 a (p + 1 + rK a p) (by omega), show p + 1 + rK a p + 1 = p + 2 + rK a p by omega, drop_take1 a (p + 2 + rK a p) (by omega), show p + 2 + rK a p + 1 = p + 3 + rK a p by omega, ek]
  simp only [List.append_assoc, List.cons_append, List.nil_append]
theorem recsB_append : ∀ (l m : List D_api_Record), recsB (l ++ m) = recsB l ++ recsB m
  | [], m => rfl
  | r :: l, m => by simp only [List.cons_append, recsB, recsB_append l m, List.append_assoc]
structure ReadOK (a : List Int) (n : Nat) (l : List D_api_Record) (q : Nat) : Prop where
  le : q ≤ a.length
  bytes : recsB l = a.take q
  val : valid l = 0
  sums : SumsOK l
  recs : RecsOK l
  len : l.length = n
theorem rdRs_ok (a : List Int) (hb : Bts a) : ∀ (n p : Nat) (acc l : List D_api_Record) (q : Int), rdRs a n p acc = (l, (q, 0)) → p ≤ a.length → recsB acc = a.take p → SumsOK acc → RecsOK acc → acc.length + n ≤ 1000 →
    ∃ q' : Nat, q = q' ∧ ReadOK a (acc.length + n) l q' ∧ p ≤ q'
  | 0, p, acc, l, q, h, hp, hB, hS, hR, hn => by
    simp only [rdRs] at h
    split at h
    · simp at h
    · rename_i hv
      simp only [Prod.mk.injEq] at h
      obtain ⟨rfl, rfl, _⟩ := h
      exact ⟨p, rfl, ⟨hp, hB, by simpa using hv, hS, hR, rfl⟩, Nat.le_refl _⟩
  | n + 1, p, acc, l, q, h, hp, hB, hS, hR, hn => by
    simp only [rdRs] at h
    split at h
    · rename_i hf
      have hr := rR_ok a hb p hf
      have hk := rK_eq hb p
      obtain ⟨h1, h2⟩ := id hf
      obtain ⟨q', e, hO, hle⟩ := rdRs_ok a hb n _ _ l q h (by omega) (by
        rw [recsB_append, hB, show recsB [rR a p] = recB (rR a p) ++ [] from rfl, List.append_nil, recB_rR a hb p hf, show p + rK a p + 23 = p + (rK a p + 23) by omega, take_add' a p]) (hS.snoc hr.2) (hR.snoc (by omega) (by omega)) (by simp; omega)
      rw [show (acc ++ [rR a p]).length + n = acc.length + (n + 1) by simp; omega] at hO
      exact ⟨q', e, hO, by omega⟩
    · simp at h
def sH (a : List Int) : D_api_Settings := (a.getD 4 0, (a.getD 5 0 * 256 + a.getD 6 0, ()))
def hdE (e : Int) : D_api_Settings × List D_api_Record × Int × Int := ((0, (0, ())), ([], (0, e)))
def magic : List Int := [66, 76, 70, 1]
def hdP (a : List Int) : D_api_Settings × List D_api_Record × Int × Int :=
  if a.length > 50000 then hdE 4 else if a.length < 8 then hdE 18
  else if a.take 4 ≠ magic ∨ chk (sH a) ≠ 0 ∨ a.getD 7 0 > 16 then hdE 12
  else if (rdM (a.drop 8) (a.getD 7 0)).2.2 ≠ 0 then hdE (rdM (a.drop 8) (a.getD 7 0)).2.2
  else if (a.length : Int) - 8 - (rdM (a.drop 8) (a.getD 7 0)).2.1 < 20 then hdE 18
  else if (a.drop (8 + (rdM (a.drop 8) (a.getD 7 0)).2.1.toNat)).take 20 ≠ shaB (a.take (8 + (rdM (a.drop 8) (a.getD 7 0)).2.1.toNat)) then hdE 22
  else (sH a, ((rdM (a.drop 8) (a.getD 7 0)).1, (28 + (rdM (a.drop 8) (a.getD 7 0)).2.1, 0)))
theorem HasPrefix_spec (a b : List Int) (ha : Bts a) (hb : Bts b) : bytes_HasPrefix a b = some (decide (a.take b.length = b)) := by
  rw [bytes_HasPrefix_eq]
  by_cases h : b.length ≤ a.length
  · rw [if_pos (by simp; omega), gd_pos (by simp), gd_pos (by simp; omega), bytes_Equal_eq, eqStr (ha.take _) hb]; rfl
  · rw [if_neg (by simp; omega)]
    have : ¬ a.take b.length = b := fun e => by
      have := congrArg List.length e
      simp at this; omega
    simp [this]
theorem rdM_ok {a : List Int} (hb : Bts a) (hl : a.length ≤ 50000) {n : Int} (hn : 0 ≤ n ∧ n ≤ 16) (h : (rdM a n).2.2 = 0) : ∃ q : Nat, (rdM a n).2.1 = q ∧ ReadOK a n.toNat (rdM a n).1 q := by
  have e : rdM a n = rdRs a n.toNat 0 [] := by unfold rdM; rw [if_neg (by omega), if_neg (by omega)]
  rw [e] at h ⊢
  obtain ⟨q, e1, e2, _⟩ := rdRs_ok a hb n.toNat 0 [] (rdRs a n.toNat 0 []).1 (rdRs a n.toNat 0 []).2.1 (by rw [← h]) (by omega) rfl .nil .nil (by simp; omega)
  rw [show ([] : List D_api_Record).length + n.toNat = n.toNat by simp] at e2
  exact ⟨q, e1, e2⟩
theorem bodyB_read {a : List Int} (hb : Bts a) (h8 : 8 ≤ a.length) (hm : a.take 4 = magic) (hc : chk (sH a) = 0) (h7 : a.getD 7 0 ≤ 16) {l : List D_api_Record} {q : Nat} (hO : ReadOK (a.drop 8) (a.getD 7 0).toNat l q) : bodyB (sH a) l = a.take (8 + q) := by
  have b4 := hb.getD 4
  have b5 := hb.getD 5
  have b6 := hb.getD 6
  have b7 := hb.getD 7
  have e1 : IntKind.wrap .u8 (sH a).1 = a.getD 4 0 := by show IntKind.wrap .u8 (a.getD 4 0) = _; rw [wu8]; omega
  have e2 : IntKind.wrap .u8 (Int.fdiv (sH a).2.1 256) = a.getD 5 0 := by
    show IntKind.wrap .u8 (Int.fdiv (a.getD 5 0 * 256 + a.getD 6 0) 256) = _
    rw [wu8, fdiv_pos _ (by omega)]; omega
  have e3 : IntKind.wrap .u8 (sH a).2.1 = a.getD 6 0 := by
    show IntKind.wrap .u8 (a.getD 5 0 * 256 + a.getD 6 0) = _
    rw [wu8]; omega
  have e4 : IntKind.wrap .u8 (l.length : Int) = a.getD 7 0 := by rw [hO.len, wu8]; omega
  unfold bodyB frontB
  rw [e1, e2, e3, e4, hO.bytes, take_add', show (8 : Nat) = 4 + (1 + (1 + (1 + 1))) from rfl, take_add' a 4, take_add', take_add', take_add', List.drop_drop, List.drop_drop, List.drop_drop, drop_take1 a 4 (by omega), drop_take1 a (4 + 1) (by omega), drop_take1 a (4 + 1 + 1) (by omega), drop_take1 a (4 + 1 + 1 + 1) (by omega), hm]
  rfl
theorem list_Head_spec (a : List Int) (hb : Bts a) : list_Head a = some (hdP a) := by
  have hl' : Int.ofNat a.length = (a.length : Int) := rfl
  rw [list_Head_eq, hl']
  unfold hdP
  by_cases h1 : a.length > 50000
  · rw [if_pos (by simp; omega), if_pos h1]; rfl
  rw [if_neg (by simp; omega), if_neg h1]
  by_cases h2 : a.length < 8
  · rw [if_pos (by simp; omega), if_pos h2]; rfl
  have b4 := hb.getD 4
  have b5 := hb.getD 5
  have b6 := hb.getD 6
  have b7 := hb.getD 7
  rw [if_neg (by simp; omega), if_neg h2, gd_pos (by decide), gd_pos (by omega), gd_pos (by decide), gd_pos (by omega), gd_pos (by decide), gd_pos (by decide), gd_pos (by omega), HasPrefix_spec a _ hb (by intro x hx; simp at hx; omega)]
  simp only [Option.bind_some]
  rw [w64 (x := a.getD 4 0) (by omega) (by omega), w64 (x := a.getD 5 0) (by omega) (by omega), w64 (x := a.getD 6 0) (by omega) (by omega), w64 (x := a.getD 7 0) (by omega) (by omega), w64 (x := a.getD 5 0 * 256) (by omega) (by omega), or_byteB (by omega) b6]
  have es : ((a.getD 4 0, (a.getD 5 0 * 256 + a.getD 6 0, ())) : D_api_Settings) = sH a := rfl
  have em : ([66, 76, 70, 1] : List Int) = magic := rfl
  rw [es, em, show magic.length = 4 from rfl]
  by_cases hm : a.take 4 = magic
  · rw [if_neg (by simp [hm]), pack_Check_spec]
    simp only [Option.bind_some]
    by_cases hc : chk (sH a) = 0
    · rw [if_neg (by simp [hc]), gd_pos (by decide), gd_pos (by omega)]
      by_cases h7 : a.getD 7 0 > 16
      · rw [if_pos (by simpa using h7), if_pos (.inr (.inr h7))]; rfl
      · rw [if_neg (by simpa using h7), if_neg (show ¬ (a.take 4 ≠ magic ∨ chk (sH a) ≠ 0 ∨ a.getD 7 0 > 16) from fun h => by rcases h with h | h | h; exact h hm; exact h hc; exact h7 h), gd_pos (by decide), gd_pos (by omega), gd_pos (by decide), gd_pos (by omega), member_Read_spec _ (hb.drop 8)]
        simp only [Option.bind_some]
        by_cases hr : (rdM (a.drop 8) (a.getD 7 0)).2.2 = 0
        · obtain ⟨q, hq, hO⟩ := rdM_ok (hb.drop 8) (by simp; omega) ⟨b7.1, by omega⟩ hr
          have hle := hO.le
          rw [List.length_drop] at hle
          have hbody := bodyB_read hb (by omega) hm hc (by omega) hO
          have ha : ask (sH a) (rdM (a.drop 8) (a.getD 7 0)).1 = 0 := by unfold ask; rw [if_neg (by simp [hc]), hO.val]
          rw [if_neg (by rw [hr]; decide), if_neg (show ¬ (rdM (a.drop 8) (a.getD 7 0)).2.2 ≠ 0 from fun h => h hr), pack_Head_spec _ _ hO.recs hO.sums, ha, if_neg (by simp)]
          simp only [Option.bind_some]
          rw [hq, w64 (x := (a.length : Int) - 8) (by omega) (by omega), w64 (x := (a.length : Int) - 8 - q) (by omega) (by omega), Int.toNat_natCast]
          by_cases h20 : (a.length : Int) - 8 - q < 20
          · rw [if_pos (by simpa using h20), if_pos h20]; rfl
          · rw [if_neg (by simpa using h20), if_neg h20, HasPrefix_spec a _ hb (headB_bts _ _ hO.sums)]
            simp only [Option.bind_some]
            have hhl : (headB (sH a) (rdM (a.drop 8) (a.getD 7 0)).1).length = 8 + q + 20 := by
              unfold headB; rw [List.length_append, shaB_len, hbody]; simp; omega
            have hiff : a.take (headB (sH a) (rdM (a.drop 8) (a.getD 7 0)).1).length = headB (sH a) (rdM (a.drop 8) (a.getD 7 0)).1 ↔ (a.drop (8 + q)).take 20 = shaB (a.take (8 + q)) := by
              rw [hhl, take_add']
              unfold headB
              rw [hbody]
              constructor
              · intro h; exact List.append_cancel_left h
              · intro h; rw [h]
            by_cases hs : (a.drop (8 + q)).take 20 = shaB (a.take (8 + q))
            · rw [if_neg (by rw [decide_eq_true (hiff.2 hs)]; decide), if_neg (show ¬ (a.drop (8 + q)).take 20 ≠ shaB (a.take (8 + q)) by simp [hs]), hhl]
              congr 3
              simp; omega
            · rw [if_pos (by rw [decide_eq_false (fun h => hs (hiff.1 h))]; rfl), if_pos hs]; rfl
        · rw [if_pos (bne_iff_ne.2 hr), if_pos hr]; rfl
    · rw [if_pos (by simpa using hc), if_pos (.inr (.inl hc))]; rfl
  · rw [if_pos (by simp [hm]), if_pos (.inl hm)]; rfl
def zL : D_api_Listing := ((0, (0, ())), ([], ([], ())))
def blkL (a : List Int) (s : D_api_Settings) (rs : List D_api_Record) : List D_api_Piece → Nat → List D_api_BlockHead → List D_api_Block → D_api_Listing × List D_api_Block × Int
  | [], p, hs, bs => if p < a.length then (zL, ([], 12)) else ((s, (rs, (hs, ()))), (bs, 0))
  | x :: ps, p, hs, bs => if (rdB (a.drop p)).2.2 ≠ 0 then (zL, ([], (rdB (a.drop p)).2.2)) else if ¬ isP (rdB (a.drop p)).1.1 x then (zL, ([], 32))
    else blkL a s rs ps (p + (rdB (a.drop p)).2.1.toNat) (hs ++ [(rdB (a.drop p)).1.1]) (bs ++ [(rdB (a.drop p)).1])
def allB (a : List Int) : D_api_Listing × List D_api_Block × Int :=
  if (hdP a).2.2.2 ≠ 0 then (zL, ([], (hdP a).2.2.2)) else blkL a (hdP a).1 (hdP a).2.1 (ap (hdP a).1.2.1 0 (hdP a).2.1) (hdP a).2.2.1.toNat [] []
theorem rdB_ok {c : List Int} (h : (rdB c).2.2 = 0) : hOK (rdB c).1.1 ∧ (rdB c).2.1 = 41 + (rdB c).1.1.2.2.2.2.1 ∧ (rdB c).2.1 ≤ c.length ∧ 41 ≤ c.length ∧ c.length ≤ 50000 ∧ c.take 13 = mark ∧
    rdB c = ((pH ((c.drop 13).take 28), ((c.drop 41).take (pH ((c.drop 13).take 28)).2.2.2.2.1.toNat, ())), (41 + (pH ((c.drop 13).take 28)).2.2.2.2.1, 0)) := by
  unfold rdB at h ⊢
  by_cases h1 : c.length > 50000
  · rw [if_pos h1] at h; simp at h
  · rw [if_neg h1] at h ⊢
    by_cases h2 : c.length < 41
    · rw [if_pos h2] at h; simp at h
    · rw [if_neg h2] at h ⊢
      by_cases h3 : c.take 13 ≠ mark ∨ ¬ hOK (pH ((c.drop 13).take 28))
      · rw [if_pos h3] at h; simp at h
      · rw [if_neg h3] at h ⊢
        by_cases h4 : (c.length : Int) < 41 + (pH ((c.drop 13).take 28)).2.2.2.2.1
        · rw [if_pos h4] at h; simp at h
        · rw [if_neg h4]
          simp only [ne_eq, not_or, Decidable.not_not] at h3
          exact ⟨h3.2, rfl, by simp only; omega, by omega, by omega, h3.1, rfl⟩
structure HeadOK (a : List Int) (l : List D_api_Record) (q : Nat) : Prop where
  eq : hdP a = (sH a, (l, (28 + (q : Int), 0)))
  le : 28 + q ≤ a.length
  big : a.length ≤ 50000
  magic : a.take 4 = magic
  chk : chk (sH a) = 0
  seven : a.getD 7 0 ≤ 16
  nn : 0 ≤ a.getD 7 0
  read : ReadOK (a.drop 8) (a.getD 7 0).toNat l q
  sum : (a.drop (8 + q)).take 20 = shaB (a.take (8 + q))
  rd : rdRs (a.drop 8) (a.getD 7 0).toNat 0 [] = (l, ((q : Int), 0))
theorem hdP_ok {a : List Int} (hb : Bts a) (h : (hdP a).2.2.2 = 0) : ∃ l q, HeadOK a l q := by
  have b7 := hb.getD 7
  unfold hdP at h
  by_cases h1 : a.length > 50000
  · rw [if_pos h1] at h; simp [hdE] at h
  rw [if_neg h1] at h
  by_cases h2 : a.length < 8
  · rw [if_pos h2] at h; simp [hdE] at h
  rw [if_neg h2] at h
  by_cases h3 : a.take 4 ≠ magic ∨ chk (sH a) ≠ 0 ∨ a.getD 7 0 > 16
  · rw [if_pos h3] at h; simp [hdE] at h
  rw [if_neg h3] at h
  have h3' := h3
  simp only [ne_eq, not_or, Decidable.not_not] at h3'
  obtain ⟨m1, m2, m3⟩ := h3'
  by_cases hr : (rdM (a.drop 8) (a.getD 7 0)).2.2 = 0
  · obtain ⟨q, hq, hO⟩ := rdM_ok (hb.drop 8) (by simp; omega) ⟨b7.1, by omega⟩ hr
    have hle := hO.le
    rw [List.length_drop] at hle
    rw [if_neg (fun h => h hr)] at h
    by_cases h20 : (a.length : Int) - 8 - (rdM (a.drop 8) (a.getD 7 0)).2.1 < 20
    · rw [if_pos h20] at h; simp [hdE] at h
    rw [if_neg h20] at h
    have hqn : (rdM (a.drop 8) (a.getD 7 0)).2.1.toNat = q := by omega
    by_cases hs : (a.drop (8 + (rdM (a.drop 8) (a.getD 7 0)).2.1.toNat)).take 20 ≠ shaB (a.take (8 + (rdM (a.drop 8) (a.getD 7 0)).2.1.toNat))
    · rw [if_pos hs] at h; simp [hdE] at h
    refine ⟨_, q, ?_, by omega, by omega, m1, m2, by omega, b7.1, hO, ?_, ?_⟩
    · unfold hdP
      rw [if_neg h1, if_neg h2, if_neg h3, if_neg (fun h => h hr), if_neg h20, if_neg hs, hq]
    · rw [hqn] at hs; simpa using hs
    · have e : rdM (a.drop 8) (a.getD 7 0) = rdRs (a.drop 8) (a.getD 7 0).toNat 0 [] := by unfold rdM; rw [if_neg (by omega), if_neg (by simp; omega)]
      rw [← e, ← hq]
      exact Prod.ext rfl (Prod.ext rfl hr)
  · rw [if_pos hr] at h; exact absurd h hr
theorem HeadOK.recsV {a l q} (h : HeadOK a l q) : RecsV l := valid_zero h.read.val
theorem HeadOK.blk {a l q} (h : HeadOK a l q) : 16 ≤ (sH a).2.1 ∧ (sH a).2.1 ≤ 4096 := chk_zero' h.chk
theorem all_c1 (a : List Int) (hb : Bts a) (hl : a.length ≤ 50000) (s t : D_api_Settings) (rs x1 : List D_api_Record) (x2 : List D_api_BlockHead) (ps : List D_api_Piece) (hps : ps.length ≤ 100000) : ∀ (k i p : Nat) (hs : List D_api_BlockHead) (bs : List D_api_Block), i + k = ps.length → p ≤ a.length → hs.length = i → bs.length = i →
    list_all_c1 a (p : Int) (ps.length : Int) (i : Int) t () s () bs ps x1 x2 rs hs = some (blkL a s rs (ps.drop i) p hs bs)
  | 0, i, p, hs, bs, e, hp, h1, h2 => by
    have hl' : Int.ofNat a.length = (a.length : Int) := rfl
    rw [list_all_c1_eq, if_neg (by simp; omega), List.drop_eq_nil_of_le (by omega), blkL, hl']
    by_cases h : p < a.length
    · rw [if_pos (by simp; omega), if_pos h]; rfl
    · rw [if_neg (by simp; omega), if_neg h]
  | k + 1, i, p, hs, bs, e, hp, h1, h2 => by
    have hl' : Int.ofNat a.length = (a.length : Int) := rfl
    have hl2 : Int.ofNat ps.length = (ps.length : Int) := rfl
    obtain ⟨d1, d2, d3⟩ := dropR_at (pzero T_api_Piece : D_api_Piece) (xs := ps) (i := i) (by omega)
    rw [list_all_c1_eq, if_pos (by simp; omega), gd_pos (by omega), gd_pos (by omega), gd_pos (by omega), gd_pos (by omega), Int.toNat_natCast, Int.toNat_natCast, block_Read_spec_2 _ (hb.drop p), Nat.zero_add]
    simp only [Option.bind_some]
    rw [d1, blkL]
    generalize ps.getD i (pzero T_api_Piece) = pc
    by_cases hr : (rdB (a.drop p)).2.2 = 0
    · have hk := rdB_ok hr
      have hlen := hOK_len hk.1
      have hle := hk.2.2.1
      rw [List.length_drop] at hle
      rw [if_neg (by rw [hr]; decide), if_neg (fun h => h hr), list_is_spec]
      simp only [Option.bind_some]
      by_cases hi : isP (rdB (a.drop p)).1.1 pc
      · rw [if_neg (by rw [decide_eq_true hi]; decide), if_neg (fun h => h hi), gd_pos (by simp; omega), gd_pos (by simp; omega), w64 (by omega) (by omega), w64 (by omega) (by omega)]
        have ih := all_c1 a hb hl s t rs x1 x2 ps hps k (i + 1) (p + (rdB (a.drop p)).2.1.toNat) (hs ++ [(rdB (a.drop p)).1.1]) (bs ++ [(rdB (a.drop p)).1]) (by omega) (by omega) (by simp; omega) (by simp; omega)
        rw [show ((i + 1 : Nat) : Int) = (i : Int) + 1 by omega, show ((p + (rdB (a.drop p)).2.1.toNat : Nat) : Int) = (p : Int) + (rdB (a.drop p)).2.1 by omega] at ih
        exact ih
      · rw [if_pos (by rw [decide_eq_false hi]; rfl), if_pos hi]; rfl
    · rw [if_pos (bne_iff_ne.2 hr), if_pos hr]; rfl
theorem list_all_spec (a : List Int) (hb : Bts a) : list_all a = some (allB a) := by
  rw [list_all_eq, list_Head_spec a hb]
  simp only [Option.bind_some, allB]
  by_cases h : (hdP a).2.2.2 = 0
  · obtain ⟨l, q, hO⟩ := hdP_ok hb h
    rw [if_neg (by rw [h]; decide), if_neg (fun k => k h), hO.eq]
    simp only
    have hle := hO.le
    have hsm := ap_small (sH a).2.1 hO.blk.1 l hO.recsV
    rw [list_pieces_spec _ _ hO.blk hO.recsV]
    simp only [Option.bind_some]
    have := all_c1 a hb hO.big (sH a) (0, (0, ())) l [] [] (ap (sH a).2.1 0 l) (by omega) _ 0 (28 + q) [] [] (Nat.zero_add _) (by omega) rfl rfl
    rw [show ((28 + (q : Int))).toNat = 28 + q by omega]
    exact this
  · rw [if_pos (bne_iff_ne.2 h), if_pos h]; rfl
theorem list_List_spec (a : List Int) (hb : Bts a) : list_List a = some ((allB a).1, (allB a).2.2) := by rw [list_List_eq, list_all_spec a hb]; rfl
def s2 : D_api_Settings := (2, (16, ()))
theorem toStr_ofStr (s : ByteArray) : toStr (ofStr s) = s := by
  have h := ofStr_toStr (xs := ofStr s) (ofStr_bts s)
  have e : (ofStr s).map (fun n => UInt8.ofNat n.toNat) = s.data.toList := by
    unfold ofStr
    rw [List.map_map]
    refine (List.map_congr_left (fun b _ => ?_)).trans (List.map_id _)
    simp
  unfold toStr
  rw [e]
theorem getD_drop0 (a : List Int) (p i : Nat) : (a.drop p).getD i 0 = a.getD (p + i) 0 := by simp [List.getD_eq_getElem?_getD]
theorem recB_eq {r : D_api_Record} (h1 : r.1.size ≤ 40) (h2 : 0 ≤ r.2.1 ∧ r.2.1 ≤ 8192) (h3 : r.2.2.1.length = 20) : recB r = (r.1.size : Int) :: (ofStr r.1 ++ (r.2.1 / 256 :: r.2.1 % 256 :: r.2.2.1)) := by
  unfold recB
  rw [List.drop_zero, List.take_of_length_le (by omega), wu8, wu8, wu8, fdiv_pos _ (by omega)]
  have e1 : (r.1.size : Int) % 256 = r.1.size := by omega
  have e2 : r.2.1 / 256 % 256 = r.2.1 / 256 := by omega
  rw [e1, e2]
  simp only [List.append_assoc, List.cons_append, List.nil_append]
theorem rec_read {r : D_api_Record} (h1 : r.1.size ≤ 40) (h2 : 0 ≤ r.2.1 ∧ r.2.1 ≤ 8192) (h3 : r.2.2.1.length = 20) {a post : List Int} {p : Nat} (ha : a.drop p = recB r ++ post) : rF a p ∧ rK a p = r.1.size ∧ rR a p = r := by
  have hB := recB_eq h1 h2 h3
  have hl : (ofStr r.1).length = r.1.size := ofStr_len _
  have hal := congrArg List.length ha
  rw [List.length_drop, List.length_append, recB_len r h3] at hal
  have g0 : a.getD p 0 = r.1.size := by
    have e := getD_drop0 a p 0
    rw [ha, hB] at e
    exact e.symm
  have hk : rK a p = r.1.size := by unfold rK; rw [g0]; omega
  have d1 : a.drop (p + 1) = ofStr r.1 ++ (r.2.1 / 256 :: r.2.1 % 256 :: (r.2.2.1 ++ post)) := by
    rw [← List.drop_drop, ha, hB]
    simp only [List.cons_append, List.drop_succ_cons, List.drop_zero, List.append_assoc]
  have d2 : a.drop (p + 1 + r.1.size) = r.2.1 / 256 :: r.2.1 % 256 :: (r.2.2.1 ++ post) := by
    rw [← List.drop_drop, d1, ← hl, List.drop_left]
  have g1 : a.getD (p + 1 + r.1.size) 0 = r.2.1 / 256 := by
    have e := getD_drop0 a (p + 1 + r.1.size) 0
    rw [d2] at e
    exact e.symm
  have g2 : a.getD (p + 2 + r.1.size) 0 = r.2.1 % 256 := by
    have := getD_drop0 a (p + 1 + r.1.size) 1
    rw [show p + 2 + r.1.size = p + 1 + r.1.size + 1 by omega, ← this, d2]; rfl
  have d3 : a.drop (p + 3 + r.1.size) = r.2.2.1 ++ post := by
    rw [show p + 3 + r.1.size = p + 1 + r.1.size + 2 by omega, ← List.drop_drop, d2]; rfl
  refine ⟨⟨by omega, by rw [hk]; omega⟩, hk, ?_⟩
  unfold rR
  rw [hk, d1, g1, g2, d3, ← hl, List.take_left, toStr_ofStr, show r.2.1 / 256 * 256 + r.2.1 % 256 = r.2.1 by omega, ← h3, List.take_left]
theorem recs_read (a post : List Int) : ∀ (rs acc : List D_api_Record) (p : Nat), (∀ r ∈ rs, r.1.size ≤ 40 ∧ (0 ≤ r.2.1 ∧ r.2.1 ≤ 8192)) → SumsOK rs → valid (acc ++ rs) = 0 → a.drop p = recsB rs ++ post →
    rdRs a rs.length p acc = (acc ++ rs, (((p + (recsB rs).length : Nat) : Int), 0))
  | [], acc, p, h, hS, hv, ha => by
    rw [List.append_nil] at hv
    rw [List.length_nil, rdRs, if_neg (fun k => k hv), List.append_nil]
    rfl
  | r :: rs, acc, p, h, hS, hv, ha => by
    have h1 := h r List.mem_cons_self
    have h3 := hS r List.mem_cons_self
    rw [recsB, List.append_assoc] at ha
    obtain ⟨hf, hk, hR⟩ := rec_read h1.1 h1.2 h3.1 ha
    have hl := recB_len r h3.1
    have e : a.drop (p + rK a p + 23) = recsB rs ++ post := by
      rw [hk, show p + r.1.size + 23 = p + (recB r).length by omega, ← List.drop_drop, ha, List.drop_left]
    have e2 : acc ++ r :: rs = (acc ++ [r]) ++ rs := by rw [List.append_assoc]; rfl
    have ih := recs_read a post rs (acc ++ [r]) (p + rK a p + 23) (fun q hq => h q (List.mem_cons_of_mem _ hq)) (fun q hq => hS q (List.mem_cons_of_mem _ hq)) (by rw [← e2]; exact hv) e
    rw [List.length_cons, rdRs, if_pos hf, hR, ih, e2]
    refine Prod.ext rfl (Prod.ext ?_ rfl)
    simp only
    rw [recsB, List.length_append]
    omega
theorem head_read {s : D_api_Settings} {rs : List D_api_Record} {post : List Int} (hc : chk s = 0) (hv : valid rs = 0) (hS : SumsOK rs) (hl : post.length ≤ 40000) : hdP (headB s rs ++ post) = (s, (rs, (28 + ((recsB rs).length : Int), 0))) := by
  have hRV := valid_zero hv
  have h16 := hRV.len
  have hchk : 0 ≤ s.1 ∧ s.1 ≤ 7 ∧ 16 ≤ s.2.1 ∧ s.2.1 ≤ 4096 := by
    unfold chk at hc; split at hc
    · assumption
    · cases hc
  have key : ∀ (rs : List D_api_Record), SumsOK rs → (∀ r ∈ rs, r.1.size ≤ 40) → (recsB rs).length ≤ 63 * rs.length := by
    intro rs
    induction rs with
    | nil => intro _ _; exact Nat.le_refl _
    | cons r rs ih =>
      intro hS h
      have h1 := recB_len r (hS r List.mem_cons_self).1
      have h2 := h r List.mem_cons_self
      have h3 := ih (fun q hq => hS q (List.mem_cons_of_mem _ hq)) (fun q hq => h q (List.mem_cons_of_mem _ hq))
      rw [recsB, List.length_append, List.length_cons]
      omega
  have hrl := key rs hS (fun r hr => (hRV.each r hr).2.2)
  have eF : frontB s rs.length = [66, 76, 70, 1, s.1, s.2.1 / 256, s.2.1 % 256, (rs.length : Int)] := by
    unfold frontB
    rw [wu8, wu8, wu8, wu8, fdiv_pos _ (by omega)]
    have e1 : s.1 % 256 = s.1 := by omega
    have e2 : s.2.1 / 256 % 256 = s.2.1 / 256 := by omega
    have e3 : (rs.length : Int) % 256 = rs.length := by omega
    rw [e1, e2, e3]
  have hbl : (bodyB s rs).length = 8 + (recsB rs).length := by unfold bodyB; rw [List.length_append, eF]; rfl
  have ea : headB s rs ++ post = [66, 76, 70, 1, s.1, s.2.1 / 256, s.2.1 % 256, (rs.length : Int)] ++ (recsB rs ++ (shaB (bodyB s rs) ++ post)) := by
    have hB : bodyB s rs = [66, 76, 70, 1, s.1, s.2.1 / 256, s.2.1 % 256, (rs.length : Int)] ++ recsB rs := by unfold bodyB; rw [eF]
    unfold headB
    rw [List.append_assoc]
    generalize shaB (bodyB s rs) = hh
    rw [hB, List.append_assoc]
  have eb : headB s rs ++ post = bodyB s rs ++ (shaB (bodyB s rs) ++ post) := by unfold headB; rw [List.append_assoc]
  have hsl : (shaB (bodyB s rs)).length = 20 := shaB_len _
  generalize ha : headB s rs ++ post = a at *
  have hal : a.length = 28 + (recsB rs).length + post.length := by rw [eb, List.length_append, List.length_append, hbl, hsl]; omega
  have g4 : a.getD 4 0 = s.1 := by rw [ea]; rfl
  have g5 : a.getD 5 0 = s.2.1 / 256 := by rw [ea]; rfl
  have g6 : a.getD 6 0 = s.2.1 % 256 := by rw [ea]; rfl
  have g7 : a.getD 7 0 = rs.length := by rw [ea]; rfl
  have d8 : a.drop 8 = recsB rs ++ (shaB (bodyB s rs) ++ post) := by rw [ea]; rfl
  have t4 : a.take 4 = magic := by rw [ea]; rfl
  have esH : sH a = s := by
    unfold sH
    rw [g4, g5, g6, show s.2.1 / 256 * 256 + s.2.1 % 256 = s.2.1 by omega]
  have hrd : rdM (a.drop 8) (a.getD 7 0) = (rs, (((recsB rs).length : Int), 0)) := by
    have h8 : (a.drop 8).length ≤ 50000 := by rw [List.length_drop]; omega
    have := recs_read (a.drop 8) (shaB (bodyB s rs) ++ post) rs [] 0 (fun r hr => ⟨(hRV.each r hr).2.2, (hRV.each r hr).1, (hRV.each r hr).2.1⟩) hS hv (by rw [List.drop_zero, d8])
    unfold rdM
    rw [if_neg (by omega), if_neg (by omega), g7, show ((rs.length : Int)).toNat = rs.length by omega, this, Nat.zero_add, List.nil_append]
  have e8 : a.take (8 + (recsB rs).length) = bodyB s rs := by rw [eb, ← hbl, List.take_left]
  have e9 : (a.drop (8 + (recsB rs).length)).take 20 = shaB (bodyB s rs) := by rw [eb, ← hbl, List.drop_left, ← hsl, List.take_left]
  unfold hdP
  rw [hrd, esH]
  simp only
  rw [if_neg (by omega), if_neg (by omega), if_neg (fun h => by
    rcases h with h | h | h
    · exact h t4
    · exact h hc
    · omega), if_neg (fun h => h rfl), if_neg (by omega), show ((((recsB rs).length : Nat) : Int)).toNat = (recsB rs).length by omega, e8, e9, if_neg (fun h => h rfl)]
def bksB : List D_api_Block → List Int
  | [] => []
  | b :: bs => bB b ++ bksB bs
def Fit : List D_api_Block → List D_api_Piece → Prop
  | [], [] => True
  | b :: bs, p :: ps => (bC b = 0 ∧ bWf b ∧ isP b.1 p) ∧ Fit bs ps
  | _, _ => False
theorem bB_len {b : D_api_Block} (h : bWf b) : (bB b).length = 41 + b.2.1.length := by
  unfold bB hB
  simp only [List.length_append, mark_len, fr8_len, h.2]
theorem bks_read (s : D_api_Settings) (rs : List D_api_Record) (a : List Int) (hal : a.length ≤ 40000) : ∀ (bs : List D_api_Block) (ps : List D_api_Piece) (p : Nat) (hs : List D_api_BlockHead) (cs : List D_api_Block), Fit bs ps → p ≤ a.length → a.drop p = bksB bs →
    blkL a s rs ps p hs cs = ((s, (rs, (hs ++ bs.map (·.1), ()))), (cs ++ bs, 0))
  | [], [], p, hs, cs, hF, hp, ha => by
    have := congrArg List.length ha
    rw [List.length_drop] at this
    have h0 : (bksB []).length = 0 := rfl
    unfold blkL
    rw [if_neg (by omega), List.map_nil, List.append_nil, List.append_nil]
  | [], p0 :: ps, p, hs, cs, hF, hp, ha => by cases hF
  | b :: bs, [], p, hs, cs, hF, hp, ha => by cases hF
  | b :: bs, p0 :: ps, p, hs, cs, hF, hp, ha => by
    obtain ⟨⟨h1, h2, h3⟩, hF'⟩ := hF
    have hlen := congrArg List.length ha
    rw [List.length_drop, bksB, List.length_append, bB_len h2] at hlen
    have hrd : rdB (a.drop p) = (b, (b.1.2.2.2.2.1 + 41, 0)) := by
      rw [ha, bksB]
      exact rd_bB h1 h2 (by omega)
    have ok : hOK b.1 ∧ (b.2.1.length : Int) = b.1.2.2.2.2.1 := by
      unfold bC at h1; split at h1
      · assumption
      · cases h1
    have ih := bks_read s rs a hal bs ps (p + (b.1.2.2.2.2.1 + 41).toNat) (hs ++ [b.1]) (cs ++ [b]) hF' (by omega) (by
      rw [← List.drop_drop, ha, bksB, show (b.1.2.2.2.2.1 + 41).toNat = (bB b).length by rw [bB_len h2]; omega, List.drop_left])
    unfold blkL
    rw [hrd, if_neg (fun k => k rfl), if_neg (fun k => k h3), ih, List.map_cons, List.append_assoc, List.append_assoc]
    rfl
def archB (s : D_api_Settings) (rs : List D_api_Record) (bs : List D_api_Block) : List Int := headB s rs ++ bksB bs
theorem headB_ln {s : D_api_Settings} {rs : List D_api_Record} : (headB s rs).length = 28 + (recsB rs).length := by
  unfold headB bodyB
  rw [List.length_append, List.length_append, shaB_len]
  show 8 + _ + 20 = _
  omega
theorem arch_read {s : D_api_Settings} {rs : List D_api_Record} {bs : List D_api_Block} (hc : chk s = 0) (hv : valid rs = 0) (hS : SumsOK rs) (hF : Fit bs (ap s.2.1 0 rs)) (hl : (archB s rs bs).length ≤ 40000) : allB (archB s rs bs) = ((s, (rs, (bs.map (·.1), ()))), (bs, 0)) := by
  have hl2 : (archB s rs bs).length = 28 + (recsB rs).length + (bksB bs).length := by unfold archB; rw [List.length_append, headB_ln]
  have hh : hdP (archB s rs bs) = (s, (rs, (28 + ((recsB rs).length : Int), 0))) := head_read hc hv hS (by omega)
  have hd : (archB s rs bs).drop (28 + (recsB rs).length) = bksB bs := by unfold archB; rw [← headB_ln (s := s), List.drop_left]
  have := bks_read s rs (archB s rs bs) hl bs (ap s.2.1 0 rs) (28 + (recsB rs).length) [] [] hF (by omega) hd
  unfold allB
  rw [hh, if_neg (fun k => k rfl)]
  simp only
  rw [show (28 + ((recsB rs).length : Int)).toNat = 28 + (recsB rs).length by omega, this, List.nil_append, List.nil_append]
open Classical
def Gen (D : Nat → List Int) (q : D_api_Part) : Prop := 0 ≤ q.1.1 ∧ 0 ≤ q.1.2.1 ∧ q.1.2.1.toNat + q.2.1.length ≤ (D q.1.1.toNat).length ∧ q.2.1 = ((D q.1.1.toNat).drop q.1.2.1.toNat).take q.2.1.length
def InP (rs : List D_api_Record) (i0 : Int) (p : D_api_Piece) : Prop := i0 ≤ p.1 ∧ p.1 < i0 + rs.length ∧ 0 ≤ p.2.1 ∧ 1 ≤ p.2.2.1 ∧ p.2.1 + p.2.2.1 ≤ (rs.getD (p.1 - i0).toNat (pzero T_api_Record)).2.1
theorem pcs_in (i n s : Int) (hs : 1 ≤ s) : ∀ (k : Nat) (off : Int), 0 ≤ off → ∀ p ∈ pcs i n s k off, p.1 = i ∧ off ≤ p.2.1 ∧ 1 ≤ p.2.2.1 ∧ p.2.2.1 ≤ s ∧ p.2.1 + p.2.2.1 ≤ n
  | 0, off, h0, p, hp => by cases hp
  | k + 1, off, h0, p, hp => by
    rw [pcs] at hp
    by_cases h : off < n
    · rw [if_pos h] at hp
      rcases List.mem_cons.1 hp with rfl | hp
      · refine ⟨rfl, Int.le_refl _, ?_⟩
        simp only
        split <;> omega
      · obtain ⟨a, b, c, d, e⟩ := pcs_in i n s hs k (off + s) (by omega) p hp
        exact ⟨a, by omega, c, d, e⟩
    · rw [if_neg h] at hp; cases hp
theorem ap_in (s : Int) (hs : 1 ≤ s) : ∀ (rs : List D_api_Record) (i0 : Int), ∀ p ∈ ap s i0 rs, InP rs i0 p ∧ p.2.2.1 ≤ s
  | [], i0, p, hp => by cases hp
  | r :: rs, i0, p, hp => by
    rw [ap] at hp
    rcases List.mem_append.1 hp with hp | hp
    · obtain ⟨a, b, c, d, e⟩ := pcs_in i0 r.2.1 s hs 8200 0 (Int.le_refl _) p hp
      refine ⟨⟨by omega, by rw [List.length_cons]; omega, by omega, c, ?_⟩, d⟩
      rw [show (p.1 - i0).toNat = 0 by omega]
      exact e
    · obtain ⟨⟨a, b, c, d, e⟩, f⟩ := ap_in s hs rs (i0 + 1) p hp
      refine ⟨⟨by omega, by rw [List.length_cons]; omega, c, d, ?_⟩, f⟩
      rw [show (p.1 - i0).toNat = (p.1 - (i0 + 1)).toNat + 1 by omega, List.getD_cons_succ]
      exact e
def ptD (D : Nat → List Int) (p : D_api_Piece) : D_api_Part := (p, ((((D p.1.toNat).drop p.2.1.toNat).take p.2.2.1.toNat), ()))
theorem ptD_gen {D : Nat → List Int} {rs : List D_api_Record} (hD : ∀ i, i < rs.length → ((D i).length : Int) = (rs.getD i (pzero T_api_Record)).2.1) {p : D_api_Piece} (h : InP rs 0 p) : Gen D (ptD D p) ∧ ((ptD D p).2.1.length : Int) = p.2.2.1 := by
  obtain ⟨a, b, c, d, e⟩ := h
  rw [Int.sub_zero] at e
  have hl := hD p.1.toNat (by omega)
  have hlen : (ptD D p).2.1.length = p.2.2.1.toNat := by
    unfold ptD
    simp only [List.length_take, List.length_drop]
    omega
  refine ⟨⟨a, c, ?_, ?_⟩, by omega⟩
  · rw [hlen]
    show p.2.1.toNat + p.2.2.1.toNat ≤ (D p.1.toNat).length
    omega
  · rw [hlen]; rfl
def stB (D : Nat → List Int) (p : D_api_Piece) : D_api_Block := storedB p.1 p.2.1 (ptD D p).2.1
open Classical
structure Arc (D : Nat → List Int) (rs : List D_api_Record) : Prop where
  val : valid rs = 0
  sums : SumsOK rs
  sz : ∀ i, i < rs.length → ((D i).length : Int) = (rs.getD i (pzero T_api_Record)).2.1
  sum : ∀ i, i < rs.length → (rs.getD i (pzero T_api_Record)).2.2.1 = shaB (D i)
  bts : ∀ i, Bts (D i)
def psA (rs : List D_api_Record) : List D_api_Piece := ap 16 0 rs
def bsA (D : Nat → List Int) (rs : List D_api_Record) : List D_api_Block := (psA rs).map (stB D)
def sA : D_api_Settings := (0, (16, ()))
def arcB (D : Nat → List Int) (rs : List D_api_Record) : List Int := archB sA rs (bsA D rs)
theorem Arc.piece {D : Nat → List Int} {rs : List D_api_Record} (h : Arc D rs) {p : D_api_Piece} (hp : p ∈ psA rs) : InP rs 0 p ∧ p.2.2.1 ≤ 16 ∧ mOK p.1 p.2.1 (ptD D p).2.1 ∧ Bts (ptD D p).2.1 ∧ ((ptD D p).2.1.length : Int) = p.2.2.1 ∧ Gen D (ptD D p) := by
  have hV := valid_zero h.val
  obtain ⟨hi, h16⟩ := ap_in 16 (by decide) rs 0 p hp
  obtain ⟨g, gl⟩ := ptD_gen h.sz hi
  have hl := hV.len
  obtain ⟨a, b, c, d, e⟩ := id hi
  have hm : rs.getD (p.1 - 0).toNat (pzero T_api_Record) ∈ rs := getD_all (P := fun r => r ∈ rs) (fun r hr => hr) _ (by omega)
  have hr := (hV.each _ hm).2.1
  refine ⟨hi, h16, ?_, ((h.bts _).drop _).take _, gl, g⟩
  unfold mOK
  refine ⟨?_, ?_, ?_, ?_, ?_, ?_⟩ <;> omega
theorem Arc.fit {D : Nat → List Int} {rs : List D_api_Record} (h : Arc D rs) : ∀ ps : List D_api_Piece, (∀ p ∈ ps, p ∈ psA rs) → Fit (ps.map (stB D)) ps
  | [], _ => trivial
  | p :: ps, hp => by
    obtain ⟨a, b, c, d, e, f⟩ := h.piece (hp p List.mem_cons_self)
    exact ⟨⟨stored_bC c, stored_bWf _ _ _, rfl, rfl, e⟩, h.fit ps (fun q hq => hp q (List.mem_cons_of_mem _ hq))⟩
theorem bksB_len (D : Nat → List Int) : ∀ ps : List D_api_Piece, (∀ p ∈ ps, 1 ≤ (ptD D p).2.1.length ∧ ((ptD D p).2.1.length : Int) = p.2.2.1) → ((bksB (ps.map (stB D))).length : Int) ≤ 42 * (ps.map (fun p => p.2.2.1)).foldr (· + ·) 0
  | [], _ => by show (0 : Int) ≤ 42 * 0; decide
  | p :: ps, h => by
    have h1 := h p List.mem_cons_self
    have ih := bksB_len D ps (fun q hq => h q (List.mem_cons_of_mem _ hq))
    have hb := bB_len (b := stB D p) (stored_bWf _ _ _)
    have hz : (stB D p).2.1.length = (ptD D p).2.1.length := rfl
    rw [List.map_cons, bksB, List.length_append, hb, hz, List.map_cons, List.foldr_cons]
    omega
theorem pcs_sum (i n s : Int) (hs : 1 ≤ s) : ∀ (k : Nat) (off : Int), 0 ≤ off → off ≤ n → ((pcs i n s k off).map (fun p => p.2.2.1)).foldr (· + ·) 0 ≤ n - off
  | 0, off, _, h => by show (0 : Int) ≤ n - off; omega
  | k + 1, off, h0, h => by
    rw [pcs]
    by_cases hlt : off < n
    · rw [if_pos hlt, List.map_cons, List.foldr_cons]
      by_cases h2 : s < n - off
      · have := pcs_sum i n s hs k (off + s) (by omega) (by omega)
        simp only
        rw [if_pos h2]
        omega
      · have hn : pcs i n s k (off + s) = [] := by
          cases k with
          | zero => rfl
          | succ k => rw [pcs, if_neg (by omega)]
        simp only
        rw [if_neg h2, hn]
        show (n - off) + 0 ≤ n - off
        omega
    · rw [if_neg hlt]
      show (0 : Int) ≤ n - off
      omega
theorem foldr_app (a b : List Int) : (a ++ b).foldr (· + ·) 0 = a.foldr (· + ·) 0 + b.foldr (· + ·) 0 := by
  induction a with
  | nil => show b.foldr (· + ·) 0 = 0 + b.foldr (· + ·) 0; omega
  | cons x a ih => rw [List.cons_append, List.foldr_cons, List.foldr_cons, ih]; omega
theorem ap_sum (s : Int) (hs : 1 ≤ s) : ∀ (rs : List D_api_Record) (i : Int), (∀ r ∈ rs, 0 ≤ r.2.1) → ((ap s i rs).map (fun p => p.2.2.1)).foldr (· + ·) 0 ≤ tot rs
  | [], i, _ => by show (0 : Int) ≤ 0; decide
  | r :: rs, i, h => by
    have h1 := pcs_sum i r.2.1 s hs 8200 0 (Int.le_refl _) (h r List.mem_cons_self)
    have ih := ap_sum s hs rs (i + 1) (fun q hq => h q (List.mem_cons_of_mem _ hq))
    rw [ap, List.map_append, foldr_app, tot]
    omega
theorem recsB_short : ∀ (rs : List D_api_Record), SumsOK rs → (∀ r ∈ rs, r.1.size ≤ 40) → (recsB rs).length ≤ 63 * rs.length
  | [], _, _ => Nat.le_refl _
  | r :: rs, hS, h => by
    have h1 := recB_len r (hS r List.mem_cons_self).1
    have h2 := h r List.mem_cons_self
    have h3 := recsB_short rs (fun q hq => hS q (List.mem_cons_of_mem _ hq)) (fun q hq => h q (List.mem_cons_of_mem _ hq))
    rw [recsB, List.length_append, List.length_cons]
    omega
theorem Arc.len {D : Nat → List Int} {rs : List D_api_Record} (h : Arc D rs) (ht : tot rs ≤ 80) : (arcB D rs).length ≤ 5000 ∧ (arcB D rs).length = 28 + (recsB rs).length + (bksB (bsA D rs)).length ∧ (psA rs).length ≤ 80 := by
  have hV := valid_zero h.val
  have hl := hV.len
  have h1 := recsB_short rs h.sums (fun r hr => (hV.each r hr).2.2)
  have h2 := bksB_len D (psA rs) (fun p hp => by
    obtain ⟨a, b, c, d, e, f⟩ := h.piece hp
    exact ⟨c.2.2.1, e⟩)
  have h3 := ap_sum 16 (by decide) rs 0 (fun r hr => (hV.each r hr).1)
  have e : (arcB D rs).length = 28 + (recsB rs).length + (bksB (bsA D rs)).length := by unfold arcB archB; rw [List.length_append, headB_ln]
  have key : ∀ ps : List D_api_Piece, (∀ p ∈ ps, 1 ≤ p.2.2.1) → (ps.length : Int) ≤ (ps.map (fun p => p.2.2.1)).foldr (· + ·) 0 := by
    intro ps
    induction ps with
    | nil => intro _; show (0 : Int) ≤ 0; decide
    | cons p ps ih =>
      intro hp
      have := ih (fun q hq => hp q (List.mem_cons_of_mem _ hq))
      have := hp p List.mem_cons_self
      rw [List.map_cons, List.foldr_cons, List.length_cons]
      omega
  have h4 := key (psA rs) (fun p hp => (h.piece hp).1.2.2.2.1)
  unfold bsA at e
  have e3 : ((psA rs).map (fun p => p.2.2.1)).foldr (· + ·) 0 ≤ tot rs := h3
  refine ⟨?_, e, ?_⟩ <;> omega
theorem Arc.read {D : Nat → List Int} {rs : List D_api_Record} (h : Arc D rs) (ht : tot rs ≤ 80) : allB (arcB D rs) = ((sA, (rs, ((bsA D rs).map (·.1), ()))), (bsA D rs, 0)) :=
  arch_read (s := sA) (by decide) h.val h.sums (h.fit (psA rs) (fun p hp => hp)) (by have := (h.len ht).1; unfold arcB at this; omega)
def rec1 (m : D_api_Member) : D_api_Record := (m.1, ((m.2.1.length : Int), (shaB m.2.1, ())))
def recs (l : List D_api_Member) : List D_api_Record := l.map rec1
structure MemsOK (l : List D_api_Member) : Prop where
  nm : ∀ m ∈ l, m.1.size ≤ 9223372036854775807
  ln : ∀ m ∈ l, m.2.1.length ≤ 140737488355328
  bt : ∀ m ∈ l, Bts m.2.1
theorem mem_drop (l : List D_api_Member) {i : Nat} (h : i < l.length) : l.drop i = l.getD i (pzero T_api_Member) :: l.drop (i + 1) ∧ l.getD i (pzero T_api_Member) ∈ l ∧ l.take (i + 1) = l.take i ++ [l.getD i (pzero T_api_Member)] :=
  ⟨(dropR_at (pzero T_api_Member) h).1, (dropR_at (pzero T_api_Member) h).2.2, (dropR_at (pzero T_api_Member) h).2.1⟩
theorem recs_len (l : List D_api_Member) : (recs l).length = l.length := List.length_map ..
theorem tot_recs_nn : ∀ l : List D_api_Member, 0 ≤ tot (recs l)
  | [] => Int.le_refl _
  | m :: l => by
    have := tot_recs_nn l
    show 0 ≤ (m.2.1.length : Int) + tot (recs l)
    omega
theorem mnames_get (l : List D_api_Member) (i : Nat) (h : i < l.length) : (l.getD i (pzero T_api_Member)).1 = (names (recs l)).getD i ByteArray.empty := by
  unfold names recs
  rw [List.map_map, List.getD_eq_getElem?_getD, List.getD_eq_getElem?_getD, List.getElem?_map, List.getElem?_eq_getElem h]
  rfl
theorem mnames_len (l : List D_api_Member) : (names (recs l)).length = l.length := by unfold names; rw [List.length_map, recs_len]
theorem Check_c4 (l : List D_api_Member) (hn : l.length ≤ 16) (i : Nat) (hi : i < l.length) : ∀ (k j : Nat), j + k = i → bitloftref28_Check_c4 l (i : Int) (j : Int) = if memB ((names (recs l)).getD i ByteArray.empty) (((names (recs l)).take i).drop j) then some 14 else bitloftref28_Check_c3 l ((i : Int) + 1)
  | 0, j, e => by
    have hd : ((names (recs l)).take i).drop j = [] := List.drop_eq_nil_of_le (by rw [List.length_take]; omega)
    rw [bitloftref28_Check_c4_eq, if_neg (by simp; omega), hd, w64 (by omega) (by omega)]
    simp [memB]
  | k + 1, j, e => by
    have hl' : Int.ofNat l.length = (l.length : Int) := rfl
    have hnl := mnames_len l
    have ih := Check_c4 l hn i hi k (j + 1) (by omega)
    rw [show ((j + 1 : Nat) : Int) = (j : Int) + 1 by omega] at ih
    rw [bitloftref28_Check_c4_eq, if_pos (by simp; omega), gd_pos (by omega), gd_pos (by rw [hl']; omega), gd_pos (by omega), gd_pos (by rw [hl']; omega), Int.toNat_natCast, Int.toNat_natCast, mnames_get l j (by omega), mnames_get l i hi, w64 (x := (j : Int) + 1) (by omega) (by omega), ih, memB_drop (j := j) (i := i) (by omega) (by omega), eqBA]
    by_cases h : (names (recs l)).getD j ByteArray.empty = (names (recs l)).getD i ByteArray.empty
    · rw [decide_eq_true h, decide_eq_true h.symm]; simp
    · rw [decide_eq_false h, decide_eq_false (fun e => h e.symm)]; simp
theorem Check_c3 (l : List D_api_Member) (hn : l.length ≤ 16) : ∀ (k i : Nat), i + k = l.length → bitloftref28_Check_c3 l (i : Int) = some (if dupF ((names (recs l)).take i) ((names (recs l)).drop i) then 14 else 0)
  | 0, i, e => by
    have hnl := mnames_len l
    rw [bitloftref28_Check_c3_eq, if_neg (by simp; omega), List.drop_eq_nil_of_le (by omega)]; rfl
  | k + 1, i, e => by
    have hnl := mnames_len l
    obtain ⟨d1, d2⟩ := dropS_at (xs := names (recs l)) (i := i) (by omega)
    have ih := Check_c3 l hn k (i + 1) (by omega)
    rw [show ((i + 1 : Nat) : Int) = (i : Int) + 1 by omega] at ih
    have h3 := Check_c4 l hn i (by omega) i 0 (by omega)
    rw [bitloftref28_Check_c3_eq, if_pos (by simp; omega)]
    refine Eq.trans h3 ?_
    rw [ih, List.drop_zero, d1, dupF, ← d2]
    cases memB ((names (recs l)).getD i ByteArray.empty) ((names (recs l)).take i) <;> simp
theorem Check_c2 (l : List D_api_Member) (hM : MemsOK l) (hn : l.length ≤ 16) : ∀ (k i : Nat), i + k = l.length → bitloftref28_Check_c2 l (i : Int) = if (l.drop i).all (fun m => nmOK m.1) = true then bitloftref28_Check_c3 l 0 else some 8
  | 0, i, e => by
    rw [bitloftref28_Check_c2_eq, if_neg (by simp; omega), List.drop_eq_nil_of_le (by omega)]
    rfl
  | k + 1, i, e => by
    have hl' : Int.ofNat l.length = (l.length : Int) := rfl
    obtain ⟨d1, d2, d3⟩ := mem_drop l (i := i) (by omega)
    have ih := Check_c2 l hM hn k (i + 1) (by omega)
    rw [show ((i + 1 : Nat) : Int) = (i : Int) + 1 by omega] at ih
    rw [bitloftref28_Check_c2_eq, if_pos (by simp; omega), gd_pos (by omega), gd_pos (by rw [hl']; omega), Int.toNat_natCast, d1, ref28_Name_spec _ (hM.nm _ d2), Option.bind_some, w64 (x := (i : Int) + 1) (by omega) (by omega), ih, List.all_cons]
    cases nmOK (l.getD i (pzero T_api_Member)).1 with
    | false => rfl
    | true => rw [Bool.true_and]; rfl
theorem Check_c1 (l : List D_api_Member) (hM : MemsOK l) (hn : l.length ≤ 16) : ∀ (k i : Nat) (acc : Int), i + k = l.length → 0 ≤ acc → acc ≤ 140737488355328 * i → bitloftref28_Check_c1 l acc (i : Int) = if acc + tot (recs (l.drop i)) > 8192 then some 4 else bitloftref28_Check_c2 l 0
  | 0, i, acc, e, a0, a1 => by
    rw [bitloftref28_Check_c1_eq, if_neg (by simp; omega), List.drop_eq_nil_of_le (by omega)]
    have : tot (recs []) = 0 := rfl
    rw [this, Int.add_zero]
    by_cases h : acc > 8192
    · rw [if_pos (by simpa using h), if_pos h]
    · rw [if_neg (by simpa using h), if_neg h]
  | k + 1, i, acc, e, a0, a1 => by
    have hl' : Int.ofNat l.length = (l.length : Int) := rfl
    obtain ⟨d1, d2, d3⟩ := mem_drop l (i := i) (by omega)
    have hln := hM.ln _ d2
    have ih := fun a h0 h1 => Check_c1 l hM hn k (i + 1) a (by omega) h0 h1
    rw [show ((i + 1 : Nat) : Int) = (i : Int) + 1 by omega] at ih
    rw [bitloftref28_Check_c1_eq, if_pos (by simp; omega), gd_pos (by omega), gd_pos (by rw [hl']; omega), Int.toNat_natCast, d1]
    simp only [Int.ofNat_eq_natCast]
    rw [w64 (x := (i : Int) + 1) (by omega) (by omega), w64 (by omega) (by omega), ih _ (by omega) (by omega)]
    have e2 : tot (recs (l.getD i (pzero T_api_Member) :: l.drop (i + 1))) = ((l.getD i (pzero T_api_Member)).2.1.length : Int) + tot (recs (l.drop (i + 1))) := rfl
    rw [e2, Int.add_assoc]
def mck (l : List D_api_Member) : Int := if l.length > 16 then 4 else if tot (recs l) > 8192 then 4 else if l.all (fun m => nmOK m.1) = true then (if dupF [] (names (recs l)) then 14 else 0) else 8
theorem Check28_spec (l : List D_api_Member) (hM : MemsOK l) : bitloftref28_Check l = some (mck l) := by
  have hl' : Int.ofNat l.length = (l.length : Int) := rfl
  rw [bitloftref28_Check_eq, hl', mck]
  by_cases h : l.length > 16
  · rw [if_pos (by simp; omega), if_pos h]
  · have h1 := Check_c1 l hM (by omega) l.length 0 0 (by omega) (Int.le_refl _) (Int.le_refl _)
    have h2 := Check_c2 l hM (by omega) l.length 0 (by omega)
    have h3 := Check_c3 l (by omega) l.length 0 (by omega)
    rw [List.drop_zero] at h1 h2 h3
    rw [if_neg (by simp; omega), if_neg h]
    refine Eq.trans h1 ?_
    rw [Int.zero_add]
    by_cases ht : tot (recs l) > 8192
    · rw [if_pos ht, if_pos ht]
    · rw [if_neg ht, if_neg ht]
      refine Eq.trans h2 ?_
      by_cases ha : l.all (fun m => nmOK m.1) = true
      · rw [if_pos ha, if_pos ha]
        exact h3
      · rw [if_neg ha, if_neg ha]
theorem vld_recs : ∀ (l : List D_api_Member) (acc : Int) (nm : List ByteArray), l.all (fun m => nmOK m.1) = true → 0 ≤ acc → acc + tot (recs l) ≤ 8192 → dupF [] (nm ++ names (recs l)) = false → vld acc nm (recs l) = 0
  | [], acc, nm, h1, h2, h3, h4 => by
    have e : tot (recs []) = 0 := rfl
    have e2 : names (recs []) = [] := rfl
    rw [e] at h3
    rw [e2, List.append_nil] at h4
    show (if acc > 8192 then 4 else if dupF [] nm then 14 else 0) = 0
    rw [if_neg (by omega), if_neg (by rw [h4]; decide)]
  | m :: l, acc, nm, h1, h2, h3, h4 => by
    rw [List.all_cons, Bool.and_eq_true] at h1
    have e : tot (recs (m :: l)) = (m.2.1.length : Int) + tot (recs l) := rfl
    have hn := tot_recs_nn l
    rw [e] at h3
    have hb : ¬ badR (rec1 m) = true := by
      unfold badR
      have hs : (rec1 m).2.1 = (m.2.1.length : Int) := rfl
      rw [show (rec1 m).1 = m.1 from rfl, h1.1, hs, decide_eq_false (by omega), decide_eq_false (by omega)]
      by_cases h0 : m.2.1.length = 0
      · have : m.2.1 = [] := List.length_eq_zero_iff.1 h0
        have e3 : (rec1 m).2.2.1 = shaB [] := by show shaB m.2.1 = _; rw [this]
        rw [e3]
        have : peq (.arr 20 (.int .u8)) (shaB []) (shaB []) = true := sum_refl _
        rw [this]; simp
      · have : (((m.2.1.length : Nat) : Int) == 0) = false := by rw [beq_eq_false_iff_ne]; omega
        rw [this]; simp
    show (if badR (rec1 m) then 8 else vld (acc + (rec1 m).2.1) (nm ++ [(rec1 m).1]) (recs l)) = 0
    rw [if_neg hb]
    refine vld_recs l _ _ h1.2 (by show 0 ≤ acc + (m.2.1.length : Int); omega) (by show acc + (m.2.1.length : Int) + tot (recs l) ≤ 8192; omega) ?_
    rw [List.append_assoc]
    exact h4
def memD (l : List D_api_Member) (i : Nat) : List Int := (l.getD i (pzero T_api_Member)).2.1
theorem recs_get (l : List D_api_Member) (i : Nat) (h : i < l.length) : (recs l).getD i (pzero T_api_Record) = rec1 (l.getD i (pzero T_api_Member)) := by
  unfold recs
  rw [List.getD_eq_getElem?_getD, List.getElem?_map, List.getElem?_eq_getElem h, List.getD_eq_getElem?_getD, List.getElem?_eq_getElem h]
  rfl
theorem arc_of {l : List D_api_Member} (hM : MemsOK l) (h : mck l = 0) : Arc (memD l) (recs l) ∧ l.length ≤ 16 ∧ tot (recs l) ≤ 8192 := by
  unfold mck at h
  by_cases h1 : l.length > 16
  · rw [if_pos h1] at h; cases h
  rw [if_neg h1] at h
  by_cases h2 : tot (recs l) > 8192
  · rw [if_pos h2] at h; cases h
  rw [if_neg h2] at h
  by_cases h3 : l.all (fun m => nmOK m.1) = true
  · rw [if_pos h3] at h
    have h4 : dupF [] (names (recs l)) = false := by
      cases hd : dupF [] (names (recs l)) with
      | false => rfl
      | true => rw [hd] at h; cases h
    refine ⟨⟨?_, fun r hr => ?_, fun i hi => ?_, fun i hi => ?_, fun i => ?_⟩, by omega, by omega⟩
    · unfold valid
      rw [recs_len, if_neg h1]
      exact vld_recs l 0 [] h3 (Int.le_refl _) (by omega) h4
    · obtain ⟨m, hm, rfl⟩ := List.mem_map.1 hr
      exact ⟨shaB_len _, shaB_bts _⟩
    · rw [recs_len] at hi
      rw [recs_get l i hi]; rfl
    · rw [recs_len] at hi
      rw [recs_get l i hi]; rfl
    · exact getD_all' (P := fun m : D_api_Member => Bts m.2.1) hM.bt Bts.nil i
  · rw [if_neg h3] at h; cases h
theorem Of28_c1 (l : List D_api_Member) (hM : MemsOK l) (hn : l.length ≤ 16) (hs : tot (recs l) ≤ 8192) : ∀ (k i : Nat), i + k = l.length → bitloftref28_Of_c1 l (i : Int) (recs (l.take i)) = some (recs l, 0)
  | 0, i, e => by
    rw [bitloftref28_Of_c1_eq, if_neg (by simp; omega), List.take_of_length_le (by omega)]
  | k + 1, i, e => by
    have hl' : Int.ofNat l.length = (l.length : Int) := rfl
    obtain ⟨d1, d2, d3⟩ := mem_drop l (i := i) (by omega)
    have ih := Of28_c1 l hM hn hs k (i + 1) (by omega)
    have hmem : ∀ (l : List D_api_Member) (m : D_api_Member), m ∈ l → (m.2.1.length : Int) ≤ tot (recs l) := by
      intro l
      induction l with
      | nil => intro m hm; cases hm
      | cons x l ih =>
        intro m hm
        have e : tot (recs (x :: l)) = (x.2.1.length : Int) + tot (recs l) := rfl
        have hnn := tot_recs_nn l
        rw [e]
        rcases List.mem_cons.1 hm with rfl | hm
        · omega
        · have := ih m hm; omega
    have hml := hmem l _ d2
    have hrec : bitloftref28_record (l.getD i (pzero T_api_Member)) = some (rec1 (l.getD i (pzero T_api_Member))) := by
      rw [bitloftref28_record_eq, Of_spec _ (by omega)]; rfl
    have ht : recs (l.take (i + 1)) = recs (l.take i) ++ [rec1 (l.getD i (pzero T_api_Member))] := by
      rw [d3]; unfold recs; rw [List.map_append]; rfl
    have hrl : (recs (l.take i)).length = i := by rw [recs_len, List.length_take]; omega
    rw [ht, show ((i + 1 : Nat) : Int) = (i : Int) + 1 by omega] at ih
    rw [bitloftref28_Of_c1_eq, if_pos (by simp; omega), gd_pos (by omega), gd_pos (by rw [hl']; omega), Int.toNat_natCast, hrec, Option.bind_some, gd_pos (by rw [List.length_append, hrl]; show (i + 1) * 48 ≤ _; omega), w64 (x := (i : Int) + 1) (by omega) (by omega), ih]
theorem Of28_spec (l : List D_api_Member) (hM : MemsOK l) (h : mck l = 0) : bitloftref28_Of l = some (recs l, 0) := by
  obtain ⟨_, hn, hs⟩ := arc_of hM h
  rw [bitloftref28_Of_eq, Check28_spec l hM, Option.bind_some, if_neg (by rw [h]; decide)]
  exact Of28_c1 l hM hn hs l.length 0 (by omega)
theorem Made_same {a1 a2 : Int} {z : List Int} (hl : z.length ≤ 5000) : bitloftref27_Made a1 a2 z z = some (storedB a1 a2 z) := by
  rw [bitloftref27_Made_eq]
  simp only [Int.ofNat_eq_natCast, List.nil_append]
  exact Tot.eq (Tot.g (by omega) (Tot.ifd_neg (by omega) (Tot.be (ref26_Of_spec _ ⟨by show (0:Int) ≤ 1; decide, by show (1:Int) < 256; decide⟩ (by omega)) (Tot.so rfl))))
theorem Bytes27_spec {b : D_api_Block} (hw : bWf b) (hl : b.2.1.length ≤ 5000) : bitloftref27_Bytes b = some (bB b) := by
  have h1 : (mark ++ hB b.1).length = 41 := by unfold hB; simp only [List.length_append, mark_len, fr8_len, hw.2]
  rw [bitloftref27_Bytes_eq]
  exact Tot.eq (Tot.be ref25_Bytes_spec (Tot.be (ref26_Bytes_spec b.1 hw.1 hw.2) (Tot.g (by omega) (Tot.g (by rw [List.length_append]; omega) (Tot.so rfl)))))
theorem Join_c1 (bs : List D_api_Block) (hb : ∀ b ∈ bs, bWf b ∧ b.2.1.length ≤ 5000) (hl : bs.length ≤ 10000) : ∀ (k i : Nat) (out : List Int), i + k = bs.length → out.length ≤ 10000 + 6000 * i → bitloftref30_Join_c1 bs (i : Int) out = some (out ++ bksB (bs.drop i))
  | 0, i, out, e, ho => by
    rw [bitloftref30_Join_c1_eq, if_neg (by simp; omega), List.drop_eq_nil_of_le (by omega), bksB, List.append_nil]
  | k + 1, i, out, e, ho => by
    have hd := dropR_at (pzero T_api_Block : D_api_Block) (xs := bs) (i := i) (by omega)
    have hx := hb _ hd.2.2
    have ih := fun out ho => Join_c1 bs hb hl k (i + 1) out (by omega) ho
    rw [show ((i + 1 : Nat) : Int) = (i : Int) + 1 by omega] at ih
    rw [bitloftref30_Join_c1_eq]
    simp only [Int.ofNat_eq_natCast, Int.toNat_natCast]
    rw [hd.1, bksB, w64 (x := (i : Int) + 1) (by omega) (by omega)]
    generalize bs.getD i (pzero T_api_Block) = x at *
    have hxl := bB_len hx.1
    refine Tot.eq (Tot.ifd_pos (by omega) (Tot.g (by omega) (Tot.g (by omega) (Tot.be (Bytes27_spec hx.1 hx.2) (Tot.g (by rw [List.length_append]; omega) (Tot.of_eq (ih _ (by rw [List.length_append]; omega)) ?_))))))
    rw [List.append_assoc]
end Go.Ab

/-
  VerifyNames: markers, what is looked at.
-/
set_option linter.unusedVariables false
set_option linter.unusedSimpArgs false
set_option maxRecDepth 100000
namespace Go.Ab
open Go
attribute [local irreducible] IntKind.wrap
def fm (b : List Int) : Nat → Nat → Option Nat
  | 0, _ => none
  | n + 1, k => if hd13 (b.drop k) then some k else fm b n (k + 1)
theorem fm_some {b : List Int} : ∀ {n k j : Nat}, fm b n k = some j → k ≤ j ∧ j < k + n ∧ hd13 (b.drop j) ∧ ∀ i, k ≤ i → i < j → ¬ hd13 (b.drop i)
  | 0, k, j, h => by cases h
  | n + 1, k, j, h => by
    simp only [fm] at h
    split at h
    · rename_i h1
      simp only [Option.some.injEq] at h; subst h
      exact ⟨Nat.le_refl _, by omega, h1, fun i h1 h2 => by omega⟩
    · rename_i h1
      obtain ⟨a, b1, c, d⟩ := fm_some h
      refine ⟨by omega, by omega, c, fun i h2 h3 => ?_⟩
      by_cases e : i = k
      · subst e; exact h1
      · exact d i (by omega) h3
theorem fm_none {b : List Int} : ∀ {n k : Nat}, fm b n k = none → ∀ i, k ≤ i → i < k + n → ¬ hd13 (b.drop i)
  | 0, k, h, i, h1, h2 => by omega
  | n + 1, k, h, i, h1, h2 => by
    simp only [fm] at h
    split at h
    · cases h
    · rename_i h3
      by_cases e : i = k
      · subst e; exact h3
      · exact fm_none h i (by omega) (by omega)
def fmR : Option Nat → Int × Int
  | some j => ((j : Int), 0)
  | none => (0, 6)
theorem Find_fm {b : List Int} (hb : Bts b) (hl : b.length ≤ 50000) {k : Nat} (hk : k ≤ b.length) : marker_Find b k = some (fmR (fm b (b.length + 1 - k) k)) := by
  rcases Find_spec hb hl hk with ⟨h1, h2⟩ | ⟨i, h1, h2, h3, h4⟩
  · rw [h1]
    cases h : fm b (b.length + 1 - k) k with
    | none => rfl
    | some j =>
      obtain ⟨a, _, c, _⟩ := fm_some h
      have := h2 (j - k)
      rw [List.drop_drop, show k + (j - k) = j by omega] at this
      exact absurd c this
  · rw [h1]
    rw [List.drop_drop] at h3
    cases h : fm b (b.length + 1 - k) k with
    | none => exact absurd h3 (fm_none h (k + i) (by omega) (by omega))
    | some j =>
      obtain ⟨a, _, c, d⟩ := fm_some h
      have e : j = k + i := by
        rcases Nat.lt_trichotomy j (k + i) with hlt | heq | hgt
        · have := h4 (j - k) (by omega)
          rw [List.drop_drop, show k + (j - k) = j by omega] at this
          exact absurd c this
        · exact heq
        · exact absurd h3 (d (k + i) (by omega) hgt)
      rw [e]; rfl
def mks (b : List Int) : Nat → Option Nat → List Int
  | 0, _ => []
  | _ + 1, none => []
  | n + 1, some j => (j : Int) :: mks b n (fm b (b.length + 1 - (j + 13)) (j + 13))
theorem All_c1 {b : List Int} (hb : Bts b) (hl : b.length ≤ 50000) : ∀ (n : Nat) (o : Option Nat) (out : List Int), (∀ j, o = some j → hd13 (b.drop j) ∧ b.length < j + n) → out.length + n ≤ 100000 →
    marker_All_c1 b (fmR o).1 (fmR o).2 out = some (out ++ mks b n o, 0)
  | n, none, out, h, ho => by
    rw [marker_All_c1_eq, if_neg (by show ¬ ((6 : Int) == 0) = true; decide)]
    cases n <;> simp [mks]
  | 0, some j, out, h, ho => by
    obtain ⟨h1, h2⟩ := h j rfl
    have := hd13_len h1
    rw [List.length_drop] at this
    omega
  | n + 1, some j, out, h, ho => by
    obtain ⟨h1, h2⟩ := h j rfl
    have h3 := hd13_len h1
    rw [List.length_drop] at h3
    have hF := Find_fm hb hl (k := j + 13) (by omega)
    have ih := All_c1 hb hl n (fm b (b.length + 1 - (j + 13)) (j + 13)) (out ++ [(j : Int)]) (fun j' hj' => by
      obtain ⟨a1, a2, a3, a4⟩ := fm_some hj'
      exact ⟨a3, by omega⟩) (by rw [List.length_append, List.length_singleton]; omega)
    rw [marker_All_c1_eq, if_pos (by show ((0 : Int) == 0) = true; decide)]
    show gd _ _ = _
    rw [gd_pos (by rw [List.length_append, List.length_singleton]; omega)]
    show (marker_Find b (IntKind.wrap .i64 ((j : Int) + 13))).bind _ = _
    rw [w64 (by omega) (by omega), show (j : Int) + 13 = ((j + 13 : Nat) : Int) by omega, hF]
    show marker_All_c1 b (fmR _).1 (fmR _).2 (out ++ [(j : Int)]) = _
    rw [ih, mks, List.append_assoc]
    rfl
def plcs (b : List Int) : List Int := mks b (b.length + 1) (fm b (b.length + 1) 0)
theorem All_spec {b : List Int} (hb : Bts b) (hl : b.length ≤ 50000) : marker_All b = some (plcs b, 0) := by
  have hchk : marker_check b 0 = some 0 := by
    rw [marker_check_eq]
    simp only [Int.ofNat_eq_natCast]
    exact Tot.eq (Tot.ifd_neg (by omega) (Tot.ifd_neg (by omega) (Tot.ifd_neg (by omega) (Tot.so rfl))))
  have hF := Find_fm hb hl (k := 0) (Nat.zero_le _)
  rw [Nat.sub_zero] at hF
  have h1 := All_c1 hb hl (b.length + 1) (fm b (b.length + 1) 0) [] (fun j hj => by
    obtain ⟨a1, a2, a3, a4⟩ := fm_some hj
    exact ⟨a3, by omega⟩) (by simp; omega)
  rw [marker_All_eq]
  refine Tot.eq (Tot.be hchk (Tot.ifne_neg rfl (Tot.be hF (Tot.of_eq h1 ?_))))
  rw [List.nil_append]; rfl
def idxP (p : D_api_Piece) : List D_api_Piece → Nat → Option Nat
  | [], _ => none
  | x :: r, i => if peq T_api_Piece p x = true then some i else idxP p r (i + 1)
theorem idxP_lt {p : D_api_Piece} : ∀ {l : List D_api_Piece} {i j : Nat}, idxP p l i = some j → i ≤ j ∧ j < i + l.length
  | [], i, j, h => by cases h
  | x :: r, i, j, h => by
    simp only [idxP] at h
    split at h
    · simp only [Option.some.injEq] at h; subst h; simp
    · have := idxP_lt h
      simp only [List.length_cons]; omega
def idxI : Option Nat → Int
  | some i => i
  | none => -1
theorem IndexP_c1 (ps : List D_api_Piece) (hl : ps.length ≤ 100000) (p : D_api_Piece) : ∀ (k i : Nat), i + k = ps.length → slices_Index_api_Piece_api_Piece_c1 ps (ps.length : Int) (i : Int) p = some (idxI (idxP p (ps.drop i) i))
  | 0, i, e => by
    rw [slices_Index_api_Piece_api_Piece_c1_eq, if_neg (by simp; omega), List.drop_eq_nil_of_le (by omega)]; rfl
  | k + 1, i, e => by
    have hd := dropR_at (pzero T_api_Piece : D_api_Piece) (xs := ps) (i := i) (by omega)
    have ih := IndexP_c1 ps hl p k (i + 1) (by omega)
    rw [show ((i + 1 : Nat) : Int) = (i : Int) + 1 by omega] at ih
    rw [slices_Index_api_Piece_api_Piece_c1_eq, hd.1, idxP]
    simp only [Int.ofNat_eq_natCast, Int.toNat_natCast]
    rw [w64 (x := (i : Int) + 1) (by omega) (by omega), ih]
    refine Tot.eq (Tot.ifd_pos (by omega) (Tot.g (by omega) (Tot.g (by omega) ?_)))
    exact Tot.it (fun h => Tot.so (by rw [if_pos h]; rfl)) (fun h => Tot.so (by rw [if_neg h]))
theorem Index_P (ps : List D_api_Piece) (hl : ps.length ≤ 100000) (p : D_api_Piece) : slices_Index_api_Piece_api_Piece ps p = some (idxI (idxP p ps 0)) := by
  rw [slices_Index_api_Piece_api_Piece_eq]
  exact IndexP_c1 ps hl p ps.length 0 (by omega)
def rawF (b : D_api_Block) : Int := if shaB (fr8 b.1 ++ b.2.1) = b.1.2.2.2.2.2.1 then 0 else 22
theorem Raw_F {l : Int} (hl : 0 ≤ l ∧ l ≤ 7) {a : List Int} (hb : Bts a) (h : (rdK a).2.2 = 0) (h1 : (rdK a).1.1.1 = 1) : ∃ z, block_Raw l (rdK a).1 = some (z, rawF (rdK a).1) := by
  obtain ⟨a1, a2, a3, a4, a5, a6, a7, a8⟩ := rdK_ok h
  have hlen := hOK_len a4
  have hlb : ((rdK a).1.2.1.length : Int) = (rdK a).1.1.2.2.2.2.1 := by
    rw [a7, List.length_take, List.length_drop]; omega
  have hbb : Bts (rdK a).1.2.1 := by
    rw [a7]; exact fun x hx => hb.drop 41 x (List.mem_of_mem_take hx)
  have := Raw_stored hl h1 (if_pos ⟨a4, hlb⟩) hbb
  unfold rawF
  by_cases hs : shaB (fr8 (rdK a).1.1 ++ (rdK a).1.2.1) = (rdK a).1.1.2.2.2.2.2.1
  · rw [if_pos hs] at this ⊢; exact ⟨_, this⟩
  · rw [if_neg hs] at this ⊢; exact ⟨_, this⟩
def pcOf (h : D_api_BlockHead) : D_api_Piece := (h.2.1, (h.2.2.1, (h.2.2.2.1, ())))
def vst (a : List Int) (ps : List D_api_Piece) (st : List Int) (x : Int) : List Int :=
  if (rdK (a.drop x.toNat)).2.2 ≠ 0 then st else
  match idxP (pcOf (rdK (a.drop x.toNat)).1.1) ps 0 with
  | none => st
  | some i => if st.getD i 0 = 1 then st else if rawF (rdK (a.drop x.toNat)).1 = 0 then (st.set i 2).set i 1 else st.set i 2
def plOK (a P : List Int) : Prop := ∀ x ∈ P, 0 ≤ x ∧ x ≤ a.length ∧ ((rdK (a.drop x.toNat)).2.2 = 0 → (rdK (a.drop x.toNat)).1.1.1 = 1)
instance (a P : List Int) : Decidable (plOK a P) := by unfold plOK; infer_instance
theorem looked_c2 (a : List Int) (hb : Bts a) (P : List Int) (hP : plOK a P) (hPl : P.length ≤ 100000) (ps : List D_api_Piece) (hps : ps.length ≤ 100000) (s8 : D_api_Settings) (s9 : D_api_Settings) (h9 : 0 ≤ s9.1 ∧ s9.1 ≤ 7) (s10 : D_api_Settings) (g12 : List D_api_Record) (g13 : List D_api_Piece) (g14 : List Int) (g15 : List D_api_Record) :
    ∀ (k i : Nat) (st : List Int), i + k = P.length → st.length = ps.length → verify_looked_c2 a (P.length : Int) (i : Int) s8 () s9 s10 () P g12 g13 g14 g15 ps st = some ((s10, (g15, (ps, ((P.drop i).foldl (vst a ps) st, ())))), 0)
  | 0, i, st, e, hs => by
    rw [verify_looked_c2_eq, if_neg (by simp; omega), List.drop_eq_nil_of_le (by omega)]; rfl
  | k + 1, i, st, e, hs => by
    have hd := dropR_at (0 : Int) (xs := P) (i := i) (by omega)
    obtain ⟨x1, x2, x3⟩ := hP _ hd.2.2
    have ih := fun st hs => looked_c2 a hb P hP hPl ps hps s8 s9 h9 s10 g12 g13 g14 g15 k (i + 1) st (by omega) hs
    rw [show ((i + 1 : Nat) : Int) = (i : Int) + 1 by omega] at ih
    rw [hd.1, List.foldl_cons, verify_looked_c2_eq]
    simp only [Int.ofNat_eq_natCast, Nat.zero_add, Int.toNat_natCast]
    rw [w64 (x := (i : Int) + 1) (by omega) (by omega)]
    generalize hx : P.getD i 0 = x at *
    have hrd := block_Read_spec (a.drop x.toNat) (hb.drop _)
    refine Tot.eq (Tot.ifd_pos (by omega) (Tot.g (by omega) (Tot.g (by omega) (Tot.g x1 (Tot.g x2 (Tot.be hrd ?_))))))
    refine Tot.ifne (fun h => ?_) (fun h => ?_)
    · refine Tot.of_eq (ih st hs) ?_
      unfold vst; rw [if_pos h]
    · have hv : vst a ps st x = match idxP (pcOf (rdK (a.drop x.toNat)).1.1) ps 0 with
        | none => st
        | some i => if st.getD i 0 = 1 then st else if rawF (rdK (a.drop x.toNat)).1 = 0 then (st.set i 2).set i 1 else st.set i 2 := by
        unfold vst; rw [if_neg (fun k => k h)]
      refine Tot.be (Index_P ps hps (pcOf (rdK (a.drop x.toNat)).1.1)) ?_
      cases hi : idxP (pcOf (rdK (a.drop x.toNat)).1.1) ps 0 with
      | none =>
        rw [hi] at hv
        refine Tot.ifd_pos (by show (-1 : Int) < 0; decide) (Tot.of_eq (ih st hs) ?_)
        rw [hv]
      | some j =>
        rw [hi] at hv
        have hj := idxP_lt hi
        simp only at hv
        have e1 : idxI (some j) = (j : Int) := rfl
        rw [e1]
        simp only [Int.toNat_natCast]
        refine Tot.ifd_neg (by omega) (Tot.g (by omega) (Tot.g (by omega) ?_))
        by_cases h1 : st.getD j 0 = 1
        · rw [if_pos h1] at hv
          rw [if_pos (beq_iff_eq.2 h1)]
          refine Tot.of_eq (ih st hs) ?_
          rw [hv]
        · rw [if_neg h1] at hv
          rw [if_neg (by rw [beq_iff_eq]; exact h1)]
          obtain ⟨z, hz⟩ := Raw_F h9 (hb.drop _) h (x3 h)
          refine Tot.g (by omega) (Tot.g (by omega) (Tot.be hz ?_))
          simp only
          by_cases h2 : rawF (rdK (a.drop x.toNat)).1 = 0
          · rw [if_pos h2] at hv
            rw [if_pos (beq_iff_eq.2 h2)]
            refine Tot.g (by omega) (Tot.g (by omega) (Tot.of_eq (ih _ (by simp [hs])) ?_))
            rw [hv]
          · rw [if_neg h2] at hv
            rw [if_neg (by rw [beq_iff_eq]; exact h2)]
            refine Tot.of_eq (ih _ (by simp [hs])) ?_
            rw [hv]
end Go.Ab

/-
  VerifyNames: what is looked at, of a head.
-/
set_option linter.unusedVariables false
set_option linter.unusedSimpArgs false
set_option maxRecDepth 100000
namespace Go.Ab
open Go
attribute [local irreducible] IntKind.wrap
theorem looked_c1 (a : List Int) (rs : List D_api_Record) (hl : rs.length ≤ 16) (s8 s9 s10 : D_api_Settings) (g13 : List D_api_Record) (g14 : List D_api_Piece) (g15 : List Int) (g16 : List D_api_Piece) (g17 : List Int) {r : D_verify_look × Int}
    (hk : ((split_Pieces (szs rs) s9.2.1).bind fun (r2 : (List D_api_Piece × Int)) => (slices_Repeat_uint8_uint8 [(3 : Int)] (Int.ofNat (List.length r2.1))).bind fun (r3 : (List Int)) => (marker_All a).bind fun (r4 : (List Int × Int)) =>
      verify_looked_c2 a (Int.ofNat (List.length r4.1)) 0 s8 () s9 s10 () r4.1 g13 g14 g15 rs r2.1 r3) = some r) : ∀ (k i : Nat), i + k = rs.length →
    verify_looked_c1 a (rs.length : Int) (i : Int) s8 () s9 s10 () (szs (rs.take i)) rs g13 g14 g15 g16 g17 = some r
  | 0, i, e => by
    rw [verify_looked_c1_eq, if_neg (by simp; omega), List.take_of_length_le (by omega)]
    exact hk
  | k + 1, i, e => by
    have ih := looked_c1 a rs hl s8 s9 s10 g13 g14 g15 g16 g17 hk k (i + 1) (by omega)
    have hd := dropR_at (pzero T_api_Record : D_api_Record) (xs := rs) (i := i) (by omega)
    have hs : szs (rs.take (i + 1)) = szs (rs.take i) ++ [(rs.getD i (pzero T_api_Record)).2.1] := by
      rw [hd.2.1]; unfold szs; rw [List.map_append]; rfl
    rw [hs, show ((i + 1 : Nat) : Int) = (i : Int) + 1 by omega] at ih
    rw [verify_looked_c1_eq]
    simp only [Int.ofNat_eq_natCast, Nat.zero_add, Int.toNat_natCast]
    rw [w64 (x := (i : Int) + 1) (by omega) (by omega)]
    have hln : (szs (rs.take i)).length = i := by unfold szs; rw [List.length_map, List.length_take]; omega
    exact Tot.eq (Tot.ifd_pos (by omega) (Tot.g (by omega) (Tot.g (by omega) (Tot.g (by rw [List.length_append, List.length_singleton, hln]; omega) (Tot.of_eq ih rfl)))))
def sts (a : List Int) (ps : List D_api_Piece) : List Int := (plcs a).foldl (vst a ps) (List.replicate ps.length 3)
theorem looked_spec {a : List Int} {s : D_api_Settings} {rs : List D_api_Record} {n : Int} (hb : Bts a) (hl : a.length ≤ 50000) (h : hdP a = (s, (rs, (n, 0)))) (hs : (0 ≤ s.1 ∧ s.1 ≤ 7) ∧ 16 ≤ s.2.1 ∧ s.2.1 ≤ 4096) (hv : valid rs = 0)
    (hP : plOK a (plcs a)) (hPl : (plcs a).length ≤ 100000) (hps : (ap s.2.1 0 rs).length ≤ 100000) (hrep : slices_Repeat_uint8_uint8 [(3 : Int)] ((ap s.2.1 0 rs).length : Int) = some (List.replicate (ap s.2.1 0 rs).length 3)) :
    verify_looked a = some ((s, (rs, (ap s.2.1 0 rs, (sts a (ap s.2.1 0 rs), ())))), 0) := by
  have hR := valid_zero hv
  have h2 := looked_c2 a hb (plcs a) hP hPl (ap s.2.1 0 rs) hps (0, (0, ())) s hs.1 s [] [] [] rs (plcs a).length 0 (List.replicate (ap s.2.1 0 rs).length 3) (by omega) (by simp)
  have h1 := looked_c1 a rs hR.len (0, (0, ())) s s [] [] [] [] [] (r := ((s, (rs, (ap s.2.1 0 rs, (sts a (ap s.2.1 0 rs), ())))), 0)) (by
    refine Tot.eq (Tot.be (Pieces_spec _ rs hs.2 hR) (Tot.be hrep (Tot.be (All_spec hb hl) (Tot.of_eq h2 ?_))))
    rfl) rs.length 0 (by omega)
  rw [List.take_zero] at h1
  rw [verify_looked_eq, list_Head_spec a hb, h]
  exact Tot.eq (Tot.be rfl (Tot.ifne_neg rfl (Tot.of_eq (r := ((s, (rs, (ap s.2.1 0 rs, (sts a (ap s.2.1 0 rs), ())))), 0)) h1 rfl)))
theorem looked_err {a : List Int} {e : Int} (hb : Bts a) (h : (hdP a).2.2.2 = e) (he : e ≠ 0) : verify_looked a = some (((0, (0, ())), ([], ([], ([], ())))), e) := by
  rw [verify_looked_eq, list_Head_spec a hb]
  subst h
  exact Tot.eq (Tot.be rfl (Tot.ifne (fun _ => Tot.so rfl) (fun k => absurd k he)))
theorem States_spec {a : List Int} {l : D_verify_look} {e : Int} (h : verify_looked a = some (l, e)) : verify_States a = some (l.2.2.2.1, e) := by
  rw [verify_States_eq, h]; rfl
theorem Mul_10 : math_bits_Mul 1 0 = some (0, 0) := by
  rw [math_bits_Mul_eq, math_bits_Mul64_eq]
  exact Tot.eq (Tot.be (Tot.eq (Tot.g (by decide) (Tot.g (by decide) (Tot.g (by decide) (Tot.g (by decide) (Tot.g (by decide) (Tot.so (show _ = ((0 : Int), (0 : Int)) by decide +kernel))))))) ) (Tot.so rfl))
theorem Mul_11 : math_bits_Mul 1 1 = some (0, 1) := by
  rw [math_bits_Mul_eq, math_bits_Mul64_eq]
  exact Tot.eq (Tot.be (Tot.eq (Tot.g (by decide) (Tot.g (by decide) (Tot.g (by decide) (Tot.g (by decide) (Tot.g (by decide) (Tot.so (show _ = ((0 : Int), (1 : Int)) by decide +kernel))))))) ) (Tot.so rfl))
theorem Rep0 : slices_Repeat_uint8_uint8 [(3 : Int)] ((0 : Nat) : Int) = some [] := by
  rw [slices_Repeat_uint8_uint8_eq]
  refine Tot.eq (Tot.ifd_neg (by decide) (Tot.be (show math_bits_Mul (IntKind.wrap .u64 (Int.ofNat (List.length [(3 : Int)]))) (IntKind.wrap .u64 ((0 : Nat) : Int)) = some (0, 0) from ?_) ?_))
  · rw [show IntKind.wrap .u64 (Int.ofNat (List.length [(3 : Int)])) = 1 by decide +kernel, show IntKind.wrap .u64 ((0 : Nat) : Int) = 0 by decide +kernel]; exact Mul_10
  · simp only
    rw [show IntKind.wrap .i64 (0 : Int) = 0 by decide +kernel, slices_Repeat_uint8_uint8_c1_eq]
    exact Tot.ifd_neg (by decide) (Tot.ifd_neg (by decide) (Tot.g trivial (Tot.g (by decide) (Tot.g (by decide) (Tot.g (by decide) (Tot.ifd_neg (by decide) (Tot.so (by decide))))))))
theorem Rep1 : slices_Repeat_uint8_uint8 [(3 : Int)] ((1 : Nat) : Int) = some [3] := by
  rw [slices_Repeat_uint8_uint8_eq]
  refine Tot.eq (Tot.ifd_neg (by decide) (Tot.be (show math_bits_Mul (IntKind.wrap .u64 (Int.ofNat (List.length [(3 : Int)]))) (IntKind.wrap .u64 ((1 : Nat) : Int)) = some (0, 1) from ?_) ?_))
  · rw [show IntKind.wrap .u64 (Int.ofNat (List.length [(3 : Int)])) = 1 by decide +kernel, show IntKind.wrap .u64 ((1 : Nat) : Int) = 1 by decide +kernel]; exact Mul_11
  · simp only
    rw [show IntKind.wrap .i64 (1 : Int) = 1 by decide +kernel, slices_Repeat_uint8_uint8_c1_eq]
    exact Tot.ifd_neg (by decide) (Tot.ifd_neg (by decide) (Tot.g trivial (Tot.g (by decide) (Tot.g (by decide) (Tot.g (by decide) (Tot.ifd_neg (by decide) (Tot.so (by decide))))))))
theorem RepT : slices_Repeat_bool_bool [true] ((1 : Nat) : Int) = some [true] := by
  rw [slices_Repeat_bool_bool_eq]
  refine Tot.eq (Tot.ifd_neg (by decide) (Tot.be (show math_bits_Mul (IntKind.wrap .u64 (Int.ofNat (List.length [true]))) (IntKind.wrap .u64 ((1 : Nat) : Int)) = some (0, 1) from ?_) ?_))
  · rw [show IntKind.wrap .u64 (Int.ofNat (List.length [true])) = 1 by decide +kernel, show IntKind.wrap .u64 ((1 : Nat) : Int) = 1 by decide +kernel]; exact Mul_11
  · simp only
    rw [show IntKind.wrap .i64 (1 : Int) = 1 by decide +kernel, slices_Repeat_bool_bool_c1_eq]
    exact Tot.ifd_neg (by decide) (Tot.ifd_neg (by decide) (Tot.g trivial (Tot.g (by decide) (Tot.g (by decide) (Tot.g (by decide) (Tot.ifd_neg (by decide) (Tot.so (by decide))))))))
theorem bts1 {l : List Int} (h : l.all (fun x => decide (0 ≤ x ∧ x < 256)) = true) : Bts l := fun x hx => of_decide_eq_true (List.all_eq_true.1 h x hx)
def mE : D_api_Member := (ByteArray.mk #[97], ([7], ()))
def sE : D_api_Settings := (0, (16, ()))
def p0 : D_api_Piece := (0, (0, (1, ())))
theorem looked_1 {a : List Int} (hb : Bts a) (hl : a.length ≤ 50000) {n : Int} (h : hdP a = (sE, (recs [mE], (n, 0)))) (hP : plOK a (plcs a)) (hPl : (plcs a).length ≤ 100000) : verify_looked a = some ((sE, (recs [mE], ([p0], (sts a [p0], ())))), 0) := by
  have hap : ap 16 0 (recs [mE]) = [p0] := by decide +kernel
  have := looked_spec hb hl h (by decide) (by decide +kernel) hP hPl (by show (ap 16 0 (recs [mE])).length ≤ 100000; rw [hap]; decide) (by
    show slices_Repeat_uint8_uint8 [(3 : Int)] ((ap 16 0 (recs [mE])).length : Int) = some (List.replicate (ap 16 0 (recs [mE])).length 3)
    rw [hap]; exact Rep1)
  rw [show sE.2.1 = 16 from rfl, hap] at this
  exact this
theorem looked_0 {a : List Int} (hb : Bts a) (hl : a.length ≤ 50000) {n : Int} (h : hdP a = (sE, ([], (n, 0)))) (hP : plOK a (plcs a)) (hPl : (plcs a).length ≤ 100000) : verify_looked a = some ((sE, ([], ([], (sts a [], ())))), 0) :=
  looked_spec hb hl h (by decide) (by decide +kernel) hP hPl (by decide) Rep0
theorem First_1 (x : Int) : slices_IndexFunc_uint8_uint8 [x] = some (if x = 1 then -1 else 0) := by
  have h1 : verify_First_1 x = some (x != 1) := verify_First_1_eq x
  rw [slices_IndexFunc_uint8_uint8_eq, slices_IndexFunc_uint8_uint8_c1_eq]
  refine Tot.eq (Tot.ifd_pos (show (0 : Int) < 1 by decide) (Tot.g (by decide) (Tot.g (show (0 : Int) < 1 by decide) (Tot.be h1 (Tot.ifne (fun h => Tot.so (by rw [if_neg h])) (fun h => ?_))))))
  rw [show IntKind.wrap .i64 ((0 : Int) + 1) = 1 by decide +kernel, slices_IndexFunc_uint8_uint8_c1_eq]
  exact Tot.ifd_neg (by show ¬ (1 : Int) < Int.ofNat 1; decide) (Tot.so (by rw [if_pos h]))
theorem First_spec {a : List Int} {l : D_verify_look} {x : Int} (h : verify_looked a = some (l, 0)) (hx : l.2.2.2.1 = [x]) : verify_First a = some (if x = 1 then (0, 6) else (0, 0)) := by
  rw [verify_First_eq, h]
  refine Tot.eq (Tot.be rfl (Tot.ifne_neg rfl (Tot.be (v := if x = 1 then -1 else 0) (by rw [hx]; exact First_1 x) ?_)))
  by_cases h1 : x = 1
  · rw [if_pos h1, if_pos h1]; exact Tot.ifd_pos (by decide) (Tot.so rfl)
  · rw [if_neg h1, if_neg h1]; exact Tot.ifd_neg (by decide) (Tot.so rfl)
theorem First_err {a : List Int} {l : D_verify_look} {e : Int} (h : verify_looked a = some (l, e)) (he : e ≠ 0) : verify_First a = some (0, e) := by
  rw [verify_First_eq, h]
  exact Tot.eq (Tot.be rfl (Tot.ifne (fun _ => Tot.so rfl) (fun k => absurd k he)))
theorem Members_err {a : List Int} {l : D_verify_look} {e : Int} (h : verify_looked a = some (l, e)) (he : e ≠ 0) : verify_Members a = some ([], e) := by
  rw [verify_Members_eq, h]
  exact Tot.eq (Tot.be rfl (Tot.ifne (fun _ => Tot.so rfl) (fun k => absurd k he)))
theorem Members_1 {a : List Int} {x : Int} {s : D_api_Settings} {r : D_api_Record} (h : verify_looked a = some ((s, ([r], ([p0], ([x], ())))), 0)) : verify_Members a = some ([x == 1], 0) := by
  rw [verify_Members_eq, h]
  refine Tot.eq (Tot.be rfl (Tot.ifne_neg rfl (Tot.be RepT ?_)))
  rw [verify_Members_c1_eq]
  refine Tot.ifd_pos (show (0 : Int) < 1 by decide) (Tot.g (by decide) (Tot.g (show (0 : Int) < 1 by decide) (Tot.g (show (0 : Int) ≤ 0 by decide) (Tot.g (show (0 : Int) < 1 by decide) ?_))))
  rw [if_pos (by rfl)]
  refine Tot.g (by decide) (Tot.g (show (0 : Int) < 1 by decide) (Tot.g (show (0 : Int) ≤ 0 by decide) (Tot.g (show (0 : Int) < 1 by decide) ?_)))
  rw [show IntKind.wrap .i64 ((0 : Int) + 1) = 1 by decide +kernel, verify_Members_c1_eq]
  exact Tot.ifd_neg (by show ¬ (1 : Int) < Int.ofNat 1; decide) (Tot.so rfl)
end Go.Ab

/-
  VerifyNames: its archives.
-/
set_option linter.unusedVariables false
set_option linter.unusedSimpArgs false
set_option maxRecDepth 100000
namespace Go.Ab
open Go
attribute [local irreducible] IntKind.wrap
def wE : List Int := archB sE (recs [mE]) [storedB 0 0 [7]]
def eE : List Int := headB sE []
def wrB : D_api_Block := ((storedB 0 0 [8]).1, ([9], ()))
def bothE : List Int := (wE.take 52 ++ bB wrB) ++ wE.drop 52
def cE : List Int := wE.set 93 (IntKind.wrap .u8 (wE.getD 93 0 + 1))
def uE : List Int := wE.set 51 (IntKind.wrap .u8 (wE.getD 51 0 + 1))
theorem hd_of {a : List Int} {rs : List D_api_Record} {n : Int} (h : (hdP a).1.1 = 0 ∧ (hdP a).1.2.1 = 16 ∧ (hdP a).2.1 = rs ∧ (hdP a).2.2.1 = n ∧ (hdP a).2.2.2 = 0) : hdP a = (sE, (rs, (n, 0))) :=
  Prod.ext (Prod.ext h.1 (Prod.ext h.2.1 rfl)) (Prod.ext h.2.2.1 (Prod.ext h.2.2.2.1 h.2.2.2.2))
theorem wE_len : wE.length = 94 := by decide +kernel
theorem eE_len : eE.length = 28 := by decide +kernel
theorem bothE_len : bothE.length = 136 := by decide +kernel
theorem bts_wE : Bts wE := bts1 (by decide +kernel)
theorem bts_eE : Bts eE := bts1 (by decide +kernel)
theorem bts_bothE : Bts bothE := bts1 (by decide +kernel)
theorem bts_cE : Bts cE := bts1 (by decide +kernel)
theorem bts_uE : Bts uE := bts1 (by decide +kernel)
theorem hd_wE : hdP wE = (sE, (recs [mE], (52, 0))) := hd_of (by decide +kernel)
theorem hd_w93 : hdP (wE.take 93) = (sE, (recs [mE], (52, 0))) := hd_of (by decide +kernel)
theorem hd_w52 : hdP (wE.take 52) = (sE, (recs [mE], (52, 0))) := hd_of (by decide +kernel)
theorem hd_c : hdP cE = (sE, (recs [mE], (52, 0))) := hd_of (by decide +kernel)
theorem hd_more : hdP (wE ++ [1]) = (sE, (recs [mE], (52, 0))) := hd_of (by decide +kernel)
theorem hd_both : hdP bothE = (sE, (recs [mE], (52, 0))) := hd_of (by decide +kernel)
theorem hd_eE : hdP eE = (sE, ([], (28, 0))) := hd_of (by decide +kernel)
theorem hd_u : (hdP uE).2.2.2 = 22 := by decide +kernel
theorem hd_w7 : (hdP (wE.take 7)).2.2.2 = 18 := by decide +kernel
theorem pl_wE : plOK wE (plcs wE) ∧ (plcs wE).length ≤ 100000 := by decide +kernel
theorem pl_w93 : plOK (wE.take 93) (plcs (wE.take 93)) ∧ (plcs (wE.take 93)).length ≤ 100000 := by decide +kernel
theorem pl_w52 : plOK (wE.take 52) (plcs (wE.take 52)) ∧ (plcs (wE.take 52)).length ≤ 100000 := by decide +kernel
theorem pl_c : plOK cE (plcs cE) ∧ (plcs cE).length ≤ 100000 := by decide +kernel
theorem pl_more : plOK (wE ++ [1]) (plcs (wE ++ [1])) ∧ (plcs (wE ++ [1])).length ≤ 100000 := by decide +kernel
theorem pl_both : plOK bothE (plcs bothE) ∧ (plcs bothE).length ≤ 100000 := by decide +kernel
theorem pl_eE : plOK eE (plcs eE) ∧ (plcs eE).length ≤ 100000 := by decide +kernel
theorem st_wE : sts wE [p0] = [1] := by decide +kernel
theorem st_w93 : sts (wE.take 93) [p0] = [3] := by decide +kernel
theorem st_w52 : sts (wE.take 52) [p0] = [3] := by decide +kernel
theorem st_c : sts cE [p0] = [2] := by decide +kernel
theorem st_more : sts (wE ++ [1]) [p0] = [1] := by decide +kernel
theorem st_both : sts bothE [p0] = [1] := by decide +kernel
theorem st_eE : sts eE [] = [] := by decide +kernel
theorem all_more : (allB (wE ++ [1])).2.2 = 12 := by decide +kernel
theorem all_both : (allB bothE).2.2 ≠ 0 := by decide +kernel
theorem all_eE : allB eE = ((sE, ([], ([], ()))), ([], 0)) := by
  have : allB eE = if 28 < eE.length then (zL, ([], 12)) else ((sE, ([], ([], ()))), ([], 0)) := by
    unfold allB
    rw [hd_eE]
    rfl
  rw [this, eE_len]; rfl
end Go.Ab

/-
  VerifyNames.
-/
set_option linter.unusedVariables false
set_option linter.unusedSimpArgs false
set_option maxRecDepth 100000
namespace Go.Ab
open Go
attribute [local irreducible] IntKind.wrap
attribute [local irreducible] wE eE bothE cE uE hdP allB sts plcs List.replicate
theorem vE : valid (recs [mE]) = 0 := by decide +kernel
theorem sums_E : SumsOK (recs [mE]) := fun r hr => by
  have : r = rec1 mE := by simpa [recs] using hr
  rw [this]
  exact ⟨shaB_len _, shaB_bts _⟩
theorem Of_E : bitloftref28_Of [mE] = some (recs [mE], 0) := Of28_spec _ ⟨fun m hm => by rw [List.mem_singleton.1 hm]; decide, fun m hm => by rw [List.mem_singleton.1 hm]; decide, fun m hm => by rw [List.mem_singleton.1 hm]; exact bts1 (by decide)⟩ (by decide +kernel)
theorem example_spec : bitloftlaw33_example = some wE := by
  have hb : ∀ b ∈ [storedB 0 0 [7]], bWf b ∧ b.2.1.length ≤ 5000 := fun b hb => by
    rw [List.mem_singleton.1 hb]; exact ⟨stored_bWf _ _ _, by decide⟩
  have hl : (headB sE (recs [mE])).length = 52 := by decide +kernel
  have hj := Join_c1 [storedB 0 0 [7]] hb (by decide) 1 0 (headB sE (recs [mE])) rfl (by omega)
  have hJ : bitloftref30_Join (headB sE (recs [mE])) [storedB 0 0 [7]] = some wE := by
    rw [bitloftref30_Join_eq, List.nil_append]
    exact Tot.eq (Tot.g (by omega) (Tot.of_eq hj (by unfold wE; rfl)))
  rw [bitloftlaw33_example_eq]
  exact Tot.eq (Tot.be Of_E (Tot.be (rBytes_spec sE (recs [mE]) (valid_zero vE) sums_E) (Tot.be (Made_same (by decide)) (Tot.be hJ (Tot.so rfl)))))
theorem empty_spec : bitloftref30_Bytes ((0 : Int), ((16 : Int), ())) [] = some eE := by
  unfold eE
  exact rBytes_spec sE [] (valid_zero (by decide +kernel)) (fun _ h => by cases h)
theorem L_wE : verify_looked wE = some ((sE, (recs [mE], ([p0], ([1], ())))), 0) := by
  have h := looked_1 bts_wE (by rw [wE_len]; decide) hd_wE pl_wE.1 pl_wE.2
  rw [st_wE] at h; exact h
theorem L_w93 : verify_looked (wE.take 93) = some ((sE, (recs [mE], ([p0], ([3], ())))), 0) := by
  have h := looked_1 (a := wE.take 93) (fun x hx => bts_wE x (List.mem_of_mem_take hx)) (by rw [List.length_take, wE_len]; decide) hd_w93 pl_w93.1 pl_w93.2
  rw [st_w93] at h; exact h
theorem L_w52 : verify_looked (wE.take 52) = some ((sE, (recs [mE], ([p0], ([3], ())))), 0) := by
  have h := looked_1 (a := wE.take 52) (fun x hx => bts_wE x (List.mem_of_mem_take hx)) (by rw [List.length_take, wE_len]; decide) hd_w52 pl_w52.1 pl_w52.2
  rw [st_w52] at h; exact h
theorem L_c : verify_looked cE = some ((sE, (recs [mE], ([p0], ([2], ())))), 0) := by
  have h := looked_1 bts_cE (by unfold cE; rw [List.length_set, wE_len]; decide) hd_c pl_c.1 pl_c.2
  rw [st_c] at h; exact h
theorem bts_more : Bts (wE ++ [1]) := bts_wE.append (bts1 (by decide))
theorem L_more : verify_looked (wE ++ [1]) = some ((sE, (recs [mE], ([p0], ([1], ())))), 0) := by
  have h := looked_1 bts_more (by rw [List.length_append, wE_len]; decide) hd_more pl_more.1 pl_more.2
  rw [st_more] at h; exact h
theorem L_both : verify_looked bothE = some ((sE, (recs [mE], ([p0], ([1], ())))), 0) := by
  have h := looked_1 bts_bothE (by rw [bothE_len]; decide) hd_both pl_both.1 pl_both.2
  rw [st_both] at h; exact h
theorem L_eE : verify_looked eE = some ((sE, ([], ([], ([], ())))), 0) := by
  have h := looked_0 bts_eE (by rw [eE_len]; decide) hd_eE pl_eE.1 pl_eE.2
  rw [st_eE] at h; exact h
theorem L_u : verify_looked uE = some (((0, (0, ())), ([], ([], ([], ())))), 22) := looked_err bts_uE hd_u (by decide)
theorem bts_zeros (n : Nat) : Bts (List.replicate n 0) := fun x hx => by rw [(List.mem_replicate.1 hx).2]; decide
theorem hd_many {n : Nat} (h : 50000 < n) : (hdP (List.replicate n 0)).2.2.2 = 4 := by
  unfold hdP
  rw [if_pos (by rw [List.length_replicate]; exact h)]; rfl
theorem Fine_err {a : List Int} {e : Int} (hb : Bts a) (h : (hdP a).2.2.2 = e) (he : e ≠ 0) : verify_Fine a = some (false, e) := by
  rw [verify_Fine_eq, list_Head_spec a hb]
  subst h
  exact Tot.eq (Tot.be rfl (Tot.ifne (fun _ => Tot.so rfl) (fun k => absurd k he)))
theorem open_err {a : List Int} (hb : Bts a) (h : (allB a).2.2 ≠ 0) : extract_Extract a = some ([], (allB a).2.2) := by
  have ho : extract_open a = some (((0, (0, ())), ([], ([], ()))), ([], (allB a).2.2)) := by
    rw [extract_open_eq, list_List_spec a hb]
    exact Tot.eq (Tot.be rfl (Tot.ifne (fun _ => Tot.so rfl) (fun k => absurd k h)))
  rw [extract_Extract_eq, ho]
  exact Tot.eq (Tot.be rfl (Tot.ifne (fun _ => Tot.so rfl) (fun k => absurd k h)))
theorem Fine_no {a : List Int} (hb : Bts a) (h0 : (hdP a).2.2.2 = 0) (h : (allB a).2.2 ≠ 0) : verify_Fine a = some (false, 0) := by
  rw [verify_Fine_eq, list_Head_spec a hb]
  refine Tot.eq (Tot.be rfl (Tot.ifne_neg h0 (Tot.be (open_err hb h) (Tot.so ?_))))
  show (((allB a).2.2 == 0), (0 : Int)) = (false, 0)
  rw [beq_eq_false_iff_ne.2 h]
theorem open_e : extract_open eE = some ((sE, ([], ([], ()))), ([], 0)) := by
  have hlck : lck (sE, ([], ([], ()))) = 0 := by decide +kernel
  rw [extract_open_eq, list_List_spec eE bts_eE, all_eE]
  refine Tot.eq (Tot.be rfl (Tot.ifne_neg rfl (Tot.be (list_Places_spec _ ⟨by decide, fun r hr => by cases hr⟩ (fun r hr => by cases hr)) ?_)))
  show Tot (extract_open_c1 _ (Int.ofNat (List.length (if lck (sE, ([], ([], ()))) = 0 then (pls_2 (sE, ([], ([], ()))), (0 : Int)) else ([], 8)).1)) 0 _ () _ [] (if lck (sE, ([], ([], ()))) = 0 then (pls_2 (sE, ([], ([], ()))), (0 : Int)) else ([], 8)).1 [] []) _
  rw [if_pos hlck, extract_open_c1_eq]
  exact Tot.ifd_neg (by decide) (Tot.so rfl)
theorem parts_e : extract_parts 0 [] = some ([], 0) := by
  rw [extract_parts_eq]
  refine Tot.eq (Tot.g (by decide) (Tot.g (by decide) (Tot.g (by decide) ?_)))
  rw [extract_parts_c1_eq]
  refine Tot.ifd_neg (by decide) (Tot.g rfl (Tot.g (by decide) (Tot.g (by decide) (Tot.g (by decide) ?_))))
  rw [extract_parts_c2_eq]
  exact Tot.ifd_neg (by decide) (Tot.so (by simp))
theorem fill_e : split_fill_v2 [] [] = some (true, []) := by
  rw [split_fill_v2_eq]
  refine Tot.eq (Tot.g rfl (Tot.g (by decide) (Tot.g (by decide) (Tot.g (by decide) ?_))))
  rw [split_fill_v2_c1_eq]
  refine Tot.ifd_neg (by decide) ?_
  rw [split_fill_v2_c2_eq]
  exact Tot.ifd_neg (by decide) (Tot.so rfl)
theorem Len_0 : math_bits_Len 0 = some 0 := by
  rw [math_bits_Len_eq, math_bits_Len64_eq]
  refine Tot.eq (Tot.be (Tot.eq (Tot.ifd_neg (by decide) (Tot.ifd_neg (by decide) (Tot.ifd_neg (by decide) (Tot.g (by decide +kernel) (Tot.g (by decide +kernel) (Tot.so (show _ = (0 : Int) by decide +kernel)))))))) (Tot.so rfl))
theorem Sort_e : slices_SortFunc_api_Piece_api_Piece [] = some () := by
  have hi : slices_insertionSortCmpFunc_api_Piece [] 0 0 = some () := by
    rw [slices_insertionSortCmpFunc_api_Piece_eq, show IntKind.wrap .i64 ((0 : Int) + 1) = 1 by decide +kernel, slices_insertionSortCmpFunc_api_Piece_c1_eq]
    exact Tot.eq (Tot.ifd_neg (by decide) (Tot.so rfl))
  have hp : slices_pdqsortCmpFunc_api_Piece [] 0 0 0 = some () := by
    rw [slices_pdqsortCmpFunc_api_Piece_eq, slices_pdqsortCmpFunc_api_Piece_c1_eq]
    exact Tot.eq (Tot.ifd_pos (by decide +kernel) (Tot.be hi (Tot.so rfl)))
  rw [slices_SortFunc_api_Piece_api_Piece_eq]
  refine Tot.eq (Tot.be (show math_bits_Len (IntKind.wrap .u64 (Int.ofNat (List.length ([] : List D_api_Piece)))) = some 0 from ?_) (Tot.be hp (Tot.so rfl)))
  rw [show IntKind.wrap .u64 (Int.ofNat (List.length ([] : List D_api_Piece))) = 0 by decide +kernel]; exact Len_0
theorem Clone_e : slices_Clone_api_Piece_api_Piece [] = some [] := by
  rw [slices_Clone_api_Piece_api_Piece_eq]
  refine anyv_eq true (fun _ => rfl) (fun x hx => ?_)
  cases x
  · exact Tot.eq (Tot.it (fun h => by cases h) (fun _ => Tot.g (by decide) (Tot.so rfl)))
  · exact Tot.eq (Tot.it (fun h => Tot.so rfl) (fun h => absurd rfl h))
theorem missing_e : split_missing [] [] = some [] := by
  rw [split_missing_eq]
  refine Tot.eq (Tot.be Clone_e (Tot.be Sort_e ?_))
  rw [split_missing_c1_eq]
  exact Tot.ifd_neg (by decide) (Tot.so rfl)
theorem Put_e : split_Put [] [] = some ([], 0) := by
  rw [split_Put_eq]
  refine Tot.eq (Tot.be (show member_Valid [] = some 0 from (member_Valid_spec [] ⟨by decide, fun r hr => by cases hr⟩).trans (congrArg some (by decide +kernel))) (Tot.ifne_neg rfl (Tot.ifd_neg (by decide) ?_)))
  rw [split_Put_c1_eq]
  refine Tot.ifd_neg (by decide) ?_
  rw [split_Put_c2_eq]
  refine Tot.ifd_neg (by decide) (Tot.be fill_e (Tot.ifn (fun h => by cases h) (fun _ => Tot.be missing_e (Tot.ifd_neg (by decide) ?_))))
  rw [split_Put_c3_eq]
  exact Tot.ifd_neg (by decide) (Tot.so rfl)
theorem Fine_e : verify_Fine eE = some (true, 0) := by
  have hx : extract_Extract eE = some ([], 0) := by
    rw [extract_Extract_eq, open_e]
    exact Tot.eq (Tot.be rfl (Tot.ifne_neg rfl (Tot.be parts_e (Tot.ifne_neg rfl (Tot.be Put_e (Tot.so rfl))))))
  rw [verify_Fine_eq, list_Head_spec eE bts_eE, hd_eE]
  exact Tot.eq (Tot.be rfl (Tot.ifne_neg rfl (Tot.be hx (Tot.so rfl))))
end Go.Ab

/-
  VerifyNames: the law.
-/
set_option linter.unusedVariables false
set_option linter.unusedSimpArgs false
set_option maxRecDepth 100000
namespace Go.Ab
open Go
attribute [local irreducible] IntKind.wrap
attribute [local irreducible] wE eE hdP allB sts plcs List.replicate
theorem Same_33 (a b : List Int) (h : (ByteArray.toList (toStr a) == ByteArray.toList (toStr b)) = true) : bitloftref33_Same a b = some true := by
  rw [bitloftref33_Same_eq, h]
theorem SameB_33 (x : Bool) : bitloftref33_SameBools [x] [x] = some true := by
  rw [bitloftref33_SameBools_eq, bitloftref33_SameBools_c1_eq]
  refine Tot.eq (Tot.ifne_neg rfl (Tot.ifd_pos (show (0 : Int) < 1 by decide) (Tot.g (by decide) (Tot.g (show (0 : Int) < 1 by decide) (Tot.g (by decide) (Tot.g (show (0 : Int) < 1 by decide) ?_))))))
  rw [if_neg (by cases x <;> decide), show IntKind.wrap .i64 ((0 : Int) + 1) = 1 by decide +kernel, bitloftref33_SameBools_c1_eq]
  exact Tot.ifd_neg (show ¬ (1 : Int) < 1 by decide) (Tot.so rfl)
theorem Tot.ip {α : Type} {c : Prop} {i : Decidable c} {x y : Option α} {Q : α → Prop} (h : c) (h1 : Tot x Q) : Tot (@ite _ c i x y) Q := by rw [if_pos h]; exact h1
theorem k93 : IntKind.wrap .i64 (((94 : Nat) : Int) - 1) = 93 := by decide +kernel
theorem k52 : IntKind.wrap .i64 (((94 : Nat) : Int) - 42) = 52 := by decide +kernel
theorem k51 : IntKind.wrap .i64 ((52 : Int) - 1) = 51 := by decide +kernel
theorem alive33 : bitloftlaw33_alive = some true := by
  rw [bitloftlaw33_alive_eq]
  refine Tot.eq (Tot.be example_spec (Tot.be empty_spec (Tot.be Fine_e (Tot.be (States_spec L_eE) (Tot.be (States_spec L_wE) ?_)))))
  simp only [List.nil_append, List.drop_zero, Int.ofNat_eq_natCast, wE_len, k93, show Int.toNat 93 = 93 from rfl, Nat.sub_zero, Nat.zero_add]
  refine Tot.g (by decide) (Tot.g (by decide) (Tot.be (States_spec L_w93) (Tot.g (by decide) (Tot.g (by decide) (Tot.g (by decide) (Tot.g (by decide) (Tot.g (by decide) (Tot.be (show verify_States (wE.set 93 (IntKind.wrap .u8 (wE.getD 93 0 + 1))) = some ([2], 0) from States_spec L_c) ?_))))))))
  iterate 5 refine Tot.ip (by first | exact trivial | rfl) ?_
  refine Tot.be (Same_33 _ _ (by decide +kernel)) ?_
  iterate 2 refine Tot.ip (by first | exact trivial | rfl) ?_
  refine Tot.be (Same_33 _ _ (by decide +kernel)) ?_
  iterate 2 refine Tot.ip (by first | exact trivial | rfl) ?_
  exact Tot.be (Same_33 _ _ (by decide +kernel)) (Tot.so rfl)
theorem bitloftlaw33_VerifyNames_true : bitloftlaw33_VerifyNames = some true := by
  have hm : verify_looked (List.replicate 50001 0) = some (((0, (0, ())), ([], ([], ([], ())))), 4) := looked_err (bts_zeros _) (hd_many (by decide)) (by decide)
  have hwr : bitloftref27_Bytes ((storedB 0 0 [8]).1, ([9], ())) = some (bB wrB) := Bytes27_spec (b := wrB) (stored_bWf 0 0 [8]) (by decide)
  have lw : (bB wrB).length = 42 := by decide +kernel
  rw [bitloftlaw33_VerifyNames_eq]
  refine Tot.eq (Tot.g rfl (Tot.g (by decide) (Tot.g (by decide) (Tot.g (by decide) (Tot.be (States_spec hm) (Tot.be (Members_err hm (by decide)) (Tot.be (Fine_err (bts_zeros _) (hd_many (by decide)) (by decide)) (Tot.be (First_err hm (by decide)) (Tot.be example_spec ?_)))))))))
  simp only [List.nil_append, List.drop_zero, Int.ofNat_eq_natCast, wE_len, k52, k51, show Int.toNat 51 = 51 from rfl, show Int.toNat 52 = 52 from rfl, Nat.sub_zero, Nat.zero_add]
  refine Tot.ifd_neg (by decide) (Tot.g (by decide) (Tot.g (by decide) (Tot.g (by decide) (Tot.g (by decide) (Tot.g (by decide) (Tot.be (show verify_States (wE.set 51 (IntKind.wrap .u8 (wE.getD 51 0 + 1))) = some ([], 22) from States_spec L_u) ?_))))))
  refine Tot.g (by decide) (Tot.g (by decide) (Tot.be (Fine_err (fun x hx => bts_wE x (List.mem_of_mem_take hx)) hd_w7 (by decide)) (Tot.be (First_spec L_wE rfl) ?_)))
  refine Tot.g (by decide) (Tot.g (by decide) (Tot.be (First_spec L_w52 rfl) (Tot.be (Members_1 L_wE) (Tot.g (by decide) (Tot.g (by decide) (Tot.be (Members_1 L_w52) ?_))))))
  refine Tot.g (by decide) (Tot.g (by rw [List.length_append, wE_len]; decide) (Tot.be (Fine_no bts_more (by rw [hd_more]) (by rw [all_more]; decide)) (Tot.be (States_spec L_more) (Tot.be (Made_same (by decide)) ?_))))
  refine Tot.g (by decide) (Tot.g (by decide) (Tot.g (by rw [List.length_take, wE_len]; decide) (Tot.be hwr ?_)))
  have e2 : List.take (94 - 52) (List.drop 52 wE) = wE.drop 52 := List.take_of_length_le (by rw [List.length_drop, wE_len]; omega)
  have e3 : (wE.take 52 ++ bB wrB) ++ wE.drop 52 = bothE := rfl
  simp only [e2, e3]
  refine Tot.g (by rw [List.length_append, List.length_take, wE_len, lw]; decide) (Tot.g (by decide) (Tot.g (by decide) (Tot.g (by rw [bothE_len]; decide) (Tot.be (States_spec L_both) (Tot.be (Fine_no bts_bothE (by rw [hd_both]) all_both) (Tot.be alive33 ?_))))))
  iterate 11 refine Tot.ip (by first | exact trivial | rfl) ?_
  refine Tot.be (SameB_33 true) ?_
  iterate 2 refine Tot.ip (by first | exact trivial | rfl) ?_
  refine Tot.be (SameB_33 false) ?_
  iterate 4 refine Tot.ip (by first | exact trivial | rfl) ?_
  refine Tot.be (Same_33 _ _ (by decide +kernel)) ?_
  iterate 2 refine Tot.ip (by first | exact trivial | rfl) ?_
  refine Tot.be (Same_33 _ _ (by decide +kernel)) ?_
  iterate 2 refine Tot.ip (by first | exact trivial | rfl) ?_
  exact Tot.so rfl
end Go.Ab
