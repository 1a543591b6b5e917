/-
  Plain laws of the printed functions.
-/
import Derived.Test.YtdhmnakopofmpaaGreatDoorGenZe
set_option linter.unusedVariables false
set_option linter.unusedSimpArgs false
set_option maxHeartbeats 1000000
namespace Go.Ab
/-! ### 1. Bits -/
def U32 (x : Int) : Prop := 0 ≤ x ∧ x < 4294967296
theorem bv_toInt (v : BitVec 32) : IntKind.wrap .u32 (v.toNat : Int) = v.toNat := by
  have := v.isLt
  rw [wu32]; omega
theorem bv_of (v : BitVec 32) : BitVec.ofInt 32 (v.toNat : Int) = v := by
  apply BitVec.eq_of_toNat_eq
  rw [BitVec.toNat_ofInt]
  have := v.isLt
  omega
theorem bX (x y : Int) : bitsXor .u32 x y = ((BitVec.ofInt 32 x ^^^ BitVec.ofInt 32 y).toNat : Int) := bv_toInt _
theorem bO (x y : Int) : bitsOr .u32 x y = ((BitVec.ofInt 32 x ||| BitVec.ofInt 32 y).toNat : Int) := bv_toInt _
theorem bA (x y : Int) : bitsAnd .u32 x y = ((BitVec.ofInt 32 x &&& BitVec.ofInt 32 y).toNat : Int) := bv_toInt _
theorem bv_u32 (v : BitVec 32) : U32 (v.toNat : Int) := by have := v.isLt; unfold U32; omega
theorem bX_u (x y : Int) : U32 (bitsXor .u32 x y) := by rw [bX]; exact bv_u32 _
theorem bO_u (x y : Int) : U32 (bitsOr .u32 x y) := by rw [bO]; exact bv_u32 _
theorem bA_u (x y : Int) : U32 (bitsAnd .u32 x y) := by rw [bA]; exact bv_u32 _
theorem w_u (x : Int) : U32 (IntKind.wrap .u32 x) := by rw [wu32]; unfold U32; omega
theorem ch_eq (b c d : Int) : bitsXor .u32 d (bitsAnd .u32 b (bitsXor .u32 c d)) = bitsOr .u32 (bitsAnd .u32 b c) (bitsAnd .u32 (bitsXor .u32 4294967295 b) d) := by
  simp only [bX, bO, bA, bv_of]
  congr 2
  have h1 : BitVec.ofInt 32 4294967295 = BitVec.allOnes 32 := by decide
  rw [h1]
  ext i hi
  simp only [BitVec.getElem_xor, BitVec.getElem_and, BitVec.getElem_or, BitVec.getElem_allOnes]
  cases (BitVec.ofInt 32 b)[i] <;> cases (BitVec.ofInt 32 c)[i] <;> cases (BitVec.ofInt 32 d)[i] <;> rfl
theorem maj_eq (b c d : Int) : bitsOr .u32 (bitsAnd .u32 b c) (bitsAnd .u32 d (bitsOr .u32 b c)) = bitsOr .u32 (bitsOr .u32 (bitsAnd .u32 b c) (bitsAnd .u32 b d)) (bitsAnd .u32 c d) := by
  simp only [bX, bO, bA, bv_of]
  congr 2
  ext i hi
  simp only [BitVec.getElem_xor, BitVec.getElem_and, BitVec.getElem_or]
  cases (BitVec.ofInt 32 b)[i] <;> cases (BitVec.ofInt 32 c)[i] <;> cases (BitVec.ofInt 32 d)[i] <;> rfl
/-- Turned left by s places. -/
def rot (a : Int) (s : Int) : Int := bitsOr .u32 (IntKind.wrap .u32 (shlBy .u32 a s)) (shrBy .u32 a (32 - s))
theorem rot_u (a s : Int) : U32 (rot a s) := bO_u _ _
/-- A byte put behind. -/
theorem or_byte {x b : Int} (hx : U32 x) (hb : 0 ≤ b ∧ b < 256) : bitsOr .u32 (IntKind.wrap .u32 (x * 256)) (IntKind.wrap .u32 b) = IntKind.wrap .u32 (IntKind.wrap .u32 (x * 256) + IntKind.wrap .u32 b) := by
  rw [bO]
  simp only [wu32]
  have h1 : b % 4294967296 = b := by omega
  rw [h1]
  obtain ⟨n, rfl⟩ := Int.eq_ofNat_of_zero_le hb.1
  obtain ⟨q, hq⟩ : ∃ q : Nat, (x * 256) % 4294967296 = ((2 ^ 8 * q : Nat) : Int) ∧ 2 ^ 8 * q < 4294967296 := by
    refine ⟨(x % 16777216).toNat, ?_, ?_⟩ <;> simp <;> omega
  have hn : n < 2 ^ 8 := by omega
  rw [hq.1]
  have e : ∀ m : Nat, m < 4294967296 → (BitVec.ofInt 32 (m : Int)).toNat = m := fun m hm => by
    rw [BitVec.toNat_ofInt]; omega
  rw [BitVec.toNat_or, e _ hq.2, e n (by omega), ← Nat.two_pow_add_eq_or_of_lt hn]
  have := hq.2
  omega
attribute [local irreducible] IntKind.wrap
theorem rotl_spec (a : Int) : math_bits_RotateLeft32 a 1 = some (rot a 1) ∧ math_bits_RotateLeft32 a 5 = some (rot a 5) ∧ math_bits_RotateLeft32 a 30 = some (rot a 30) := by
  have h1 : bitsAnd .u64 (IntKind.wrap .u64 1) 31 = 1 := by kernel_rfl
  have h5 : bitsAnd .u64 (IntKind.wrap .u64 5) 31 = 5 := by kernel_rfl
  have h30 : bitsAnd .u64 (IntKind.wrap .u64 30) 31 = 30 := by kernel_rfl
  have w1 : IntKind.wrap .u64 ((32 : Int) - 1) = 32 - 1 := by kernel_rfl
  have w5 : IntKind.wrap .u64 ((32 : Int) - 5) = 32 - 5 := by kernel_rfl
  have w30 : IntKind.wrap .u64 ((32 : Int) - 30) = 32 - 30 := by kernel_rfl
  refine ⟨?_, ?_, ?_⟩ <;> rw [math_bits_RotateLeft32_eq]
  · rw [h1, w1, gd_pos (by omega), gd_pos (by omega)]; rfl
  · rw [h5, w5, gd_pos (by omega), gd_pos (by omega)]; rfl
  · rw [h30, w30, gd_pos (by omega), gd_pos (by omega)]; rfl
theorem turn_spec (a s : Int) (h : 0 ≤ s ∧ s ≤ 32) : bitloftref01_turn a s = some (rot a s) := by
  rw [bitloftref01_turn_eq, w64 (by omega) (by omega), gd_pos (by omega), gd_pos (by omega)]; rfl
end Go.Ab

set_option linter.unusedVariables false
set_option linter.unusedSimpArgs false
set_option maxHeartbeats 1000000
namespace Go.Ab
attribute [local irreducible] IntKind.wrap
/-! ### 2. What is put behind -/
/-- The length in bits. -/
def bitl (n : Int) : Int := IntKind.wrap .u64 (IntKind.wrap .u64 n * 8)
def tailB (n : Int) : Nat → List Int
  | 0 => []
  | k + 1 => IntKind.wrap .u8 (shrBy .u64 (bitl n) (8 * (k : Int))) :: tailB n k
def padB (n : Int) : List Int := [128] ++ List.replicate ((119 - n % 64) % 64).toNat 0 ++ tailB n 8
theorem tailB_len (n : Int) : ∀ k, (tailB n k).length = k
  | 0 => rfl
  | k + 1 => by simp [tailB, tailB_len n k]
theorem w8_b (x : Int) : 0 ≤ IntKind.wrap .u8 x ∧ IntKind.wrap .u8 x < 256 := by rw [wu8]; omega
theorem tailB_bts (n : Int) : ∀ k, Bts (tailB n k)
  | 0 => Bts.nil
  | k + 1 => Bts.cons (w8_b _) (tailB_bts n k)
theorem padB_bts (n : Int) : Bts (padB n) := by
  refine Bts.append (Bts.append (Bts.cons (by omega) Bts.nil) (fun x hx => ?_)) (tailB_bts n 8)
  have := (List.mem_replicate.1 hx).2; omega
theorem padB_len (n : Int) (h : 0 ≤ n) : ((n + (padB n).length) % 64 = 0 ∧ (padB n).length ≤ 72) := by
  simp only [padB, List.length_append, List.length_cons, List.length_nil, List.length_replicate, tailB_len]
  omega
theorem sha_pad_c1_spec (n : Int) : ∀ (k : Nat) (h : List Int), k ≤ 8 → h.length + k ≤ 1000 → sha_pad_c1 n (8 * (k : Int) - 8) h = some (h ++ tailB n k)
  | 0, h, hk, hl => by
    rw [sha_pad_c1_eq, if_neg (by simp)]
    simp [tailB]
  | k + 1, h, hk, hl => by
    have e : 8 * ((k + 1 : Nat) : Int) - 8 = 8 * (k : Int) := by omega
    rw [e, sha_pad_c1_eq, if_pos (by simp; omega), gd_pos (by omega), gd_pos (by simp; omega), w64 (by omega) (by omega), sha_pad_c1_spec n k _ (by omega) (by simp; omega)]
    simp [tailB, bitl]
theorem sha_pad_spec (n : Int) (h : 0 ≤ n) : sha_pad n = some (padB n) := by
  rw [sha_pad_eq, gd_pos (by omega), gd_pos (by omega), tmod_nn h, w64 (by omega) (by omega), tmod_nn (by omega), gd_pos (by omega), gd_pos (by omega), gd_pos (by omega), gd_pos (by simp; omega)]
  have := sha_pad_c1_spec n 8 ([128] ++ List.replicate ((119 - n % 64) % 64).toNat 0) (by omega) (by simp; omega)
  exact this
theorem pad_c2_spec (n : Int) : ∀ (k : Nat) (h : List Int), k ≤ 8 → h.length + k ≤ 1000 → bitloftref01_Padding_c2 n ((k : Int) - 1) h = some (h ++ tailB n k)
  | 0, h, hk, hl => by
    rw [bitloftref01_Padding_c2_eq, if_neg (by simp)]
    simp [tailB]
  | k + 1, h, hk, hl => by
    have e : ((k + 1 : Nat) : Int) - 1 = (k : Int) := by omega
    rw [e, bitloftref01_Padding_c2_eq, if_pos (by simp), w64 (x := 8 * (k : Int)) (by omega) (by omega), gd_pos (by omega), gd_pos (by simp; omega), w64 (x := (k : Int) - 1) (by omega) (by omega), pad_c2_spec n k _ (by omega) (by simp; omega)]
    have e2 : (8 : Int) * IntKind.wrap .u64 n = IntKind.wrap .u64 n * 8 := Int.mul_comm _ _
    simp [tailB, bitl, e2]
theorem pad_c1_spec (n : Int) (hn : 0 ≤ n ∧ n ≤ 1000000000) : ∀ (j : Nat) (h : List Int), j < 64 → h.length + j ≤ 200 → (n + h.length + 8 + j) % 64 = 0 → bitloftref01_Padding_c1 n h = some (h ++ List.replicate j 0 ++ tailB n 8)
  | 0, h, hj, hl, hm => by
    rw [bitloftref01_Padding_c1_eq, gd_pos (by omega)]
    have hl' : Int.ofNat h.length = (h.length : Int) := rfl
    rw [hl', w64 (x := n + (h.length : Int)) (by omega) (by omega), w64 (by omega) (by omega), tmod_nn (by omega), if_neg (by simp; omega)]
    have := pad_c2_spec n 8 h (by omega) (by omega)
    simpa using this
  | j + 1, h, hj, hl, hm => by
    rw [bitloftref01_Padding_c1_eq, gd_pos (by omega)]
    have hl' : Int.ofNat h.length = (h.length : Int) := rfl
    rw [hl', w64 (x := n + (h.length : Int)) (by omega) (by omega), w64 (by omega) (by omega), tmod_nn (by omega), if_pos (by simp; omega), gd_pos (by simp; omega), pad_c1_spec n hn j (h ++ [0]) (by omega) (by simp; omega) (by simp; omega)]
    simp [List.replicate_succ]
theorem padding_spec (n : Int) (hn : 0 ≤ n ∧ n ≤ 1000000000) : bitloftref01_Padding n = some (padB n) := by
  rw [bitloftref01_Padding_eq, pad_c1_spec n hn ((119 - n % 64) % 64).toNat [128] (by omega) (by simp; omega) (by simp; omega)]
  rfl
/-- One slice behind the other. -/
theorem concat_two (a b : List Int) (h : a.length + b.length ≤ 1000000) : slices_Concat_byte_byte [a, b] = some (a ++ b) := by
  have ha : Int.ofNat a.length = (a.length : Int) := rfl
  have hb : Int.ofNat b.length = (b.length : Int) := rfl
  rw [slices_Concat_byte_byte_eq]
  rw [slices_Concat_byte_byte_c1_eq, if_pos (by simp), gd_pos (by omega), gd_pos (by simp)]
  simp only [List.getD_cons_zero, Int.toNat_zero, ha]
  rw [w64 (x := 0 + (a.length : Int)) (by omega) (by omega), if_neg (by simp), w64 (x := 0 + 1) (by omega) (by omega)]
  rw [slices_Concat_byte_byte_c1_eq, if_pos (by simp), gd_pos (by omega), gd_pos (by simp)]
  simp only [show (0 + 1 : Int).toNat = 1 from rfl, List.getD_cons_succ, List.getD_cons_zero, hb]
  rw [w64 (x := 0 + (a.length : Int) + (b.length : Int)) (by omega) (by omega), if_neg (by simp <;> omega), w64 (x := 0 + 1 + 1) (by omega) (by omega)]
  rw [slices_Concat_byte_byte_c1_eq, if_neg (by simp)]
  have hg : ∃ r, slices_Grow_byte_byte (0 + (a.length : Int) + (b.length : Int)) = some (r, 0, 0) := by
    rw [slices_Grow_byte_byte_eq, if_neg (by simp; omega), w64 (by omega) (by omega)]
    by_cases hz : (0 + (a.length : Int) + (b.length : Int)) - 0 > 0
    · rw [if_pos (by simpa using hz), gd_pos (by omega), gd_pos (by omega), gd_pos (by omega), gd_pos (by omega), gd_pos (by omega), gd_pos (by simp; omega), gd_pos (by omega), gd_pos (by simp; omega)]
      exact ⟨_, rfl⟩
    · rw [if_neg (by simpa using hz)]; exact ⟨_, rfl⟩
  obtain ⟨r, hr⟩ := hg
  rw [hr]
  simp only [Option.bind_some]
  rw [slices_Concat_byte_byte_c2_eq, if_pos (by simp), gd_pos (by omega), gd_pos (by simp), gd_pos (by simp; omega), w64 (by omega) (by omega)]
  simp only [List.getD_cons_zero, Int.toNat_zero, List.take_zero, List.nil_append]
  rw [slices_Concat_byte_byte_c3_eq, if_pos (by simp), gd_pos (by omega), gd_pos (by simp), gd_pos (by simp; omega), w64 (by omega) (by omega)]
  rw [slices_Concat_byte_byte_c3_eq, if_neg (by simp)]
  rfl
end Go.Ab

set_option linter.unusedVariables false
set_option linter.unusedSimpArgs false
set_option maxHeartbeats 1000000
namespace Go.Ab
attribute [local irreducible] IntKind.wrap
/-! ### 3. Words -/
def bt (x b : Int) : Int := IntKind.wrap .u32 (IntKind.wrap .u32 (x * 256) + IntKind.wrap .u32 b)
theorem bt_u (x b : Int) : U32 (bt x b) := w_u _
def wordB (b : List Int) (t : Nat) : Int := bt (bt (bt (IntKind.wrap .u32 (b.getD (4 * t) 0)) (b.getD (4 * t + 1) 0)) (b.getD (4 * t + 2) 0)) (b.getD (4 * t + 3) 0)
def wordsB (b : List Int) (t : Nat) : Nat → List Int
  | 0 => []
  | k + 1 => wordB b t :: wordsB b (t + 1) k
theorem wordsB_len (b : List Int) : ∀ (k t : Nat), (wordsB b t k).length = k
  | 0, t => rfl
  | k + 1, t => by simp [wordsB, wordsB_len b k]
theorem done_c1 (b : List Int) (hb : b.length = 64) (x y : List Int) : ∀ (k t : Nat) (h : List Int), t + k = 16 → h.length = t → bitloftref01_Done_c1 b (t : Int) x y h = bitloftref01_Done_c2 16 x y (h ++ wordsB b t k)
  | 0, t, h, e, hl => by
    rw [bitloftref01_Done_c1_eq, if_neg (by simp; omega)]
    simp [wordsB]
  | k + 1, t, h, e, hl => by
    have hb' : Int.ofNat b.length = 64 := by rw [hb]; rfl
    have e0 : ((4 : Int) * (t : Int)).toNat = 4 * t := by omega
    have e1 : ((4 : Int) * (t : Int) + 1).toNat = 4 * t + 1 := by omega
    have e2 : ((4 : Int) * (t : Int) + 2).toNat = 4 * t + 2 := by omega
    have e3 : ((4 : Int) * (t : Int) + 3).toNat = 4 * t + 3 := by omega
    rw [bitloftref01_Done_c1_eq, if_pos (by simp; omega), hb']
    simp only [w64 (x := 4 * (t : Int)) (by omega) (by omega), w64 (x := 4 * (t : Int) + 1) (by omega) (by omega), w64 (x := 4 * (t : Int) + 2) (by omega) (by omega), w64 (x := 4 * (t : Int) + 3) (by omega) (by omega), w64 (x := (t : Int) + 1) (by omega) (by omega), e0, e1, e2, e3]
    rw [gd_pos (by omega), gd_pos (by omega), gd_pos (by omega), gd_pos (by omega), gd_pos (by omega), gd_pos (by omega), gd_pos (by omega), gd_pos (by omega), gd_pos (by simp; omega)]
    have ih := done_c1 b hb x y k (t + 1) (h ++ [wordB b t]) (by omega) (by simp; omega)
    have ec : ((t + 1 : Nat) : Int) = (t : Int) + 1 := by omega
    rw [ec] at ih
    simp only [List.append_assoc, List.singleton_append] at ih
    exact ih
theorem set_mid (W : List Int) (x v : Int) (R : List Int) : (W ++ x :: R).set W.length v = W ++ v :: R := by
  induction W with
  | nil => rfl
  | cons a W ih => simp [ih]
theorem get_mid (W : List Int) (x : Int) (R : List Int) : (W ++ x :: R).getD W.length 0 = x := by
  induction W with
  | nil => rfl
  | cons a W ih => simp
theorem bts_get {b : List Int} (h : Bts b) (i : Nat) : 0 ≤ b.getD i 0 ∧ b.getD i 0 < 256 := by
  rw [List.getD_eq_getElem?_getD]
  cases hi : b[i]? with
  | none => simp
  | some x => exact h x (List.mem_of_getElem? hi)
/-- One byte of a word. -/
theorem do_byte (b : List Int) (hb : b.length = 64) (hB : Bts b) (x y W R : List Int) (i t : Nat) (v : Int) (hv : U32 v) (hi : i < 64) (ht : i / 4 = t) (hW : W.length = t) :
    sha_do_c1 b 64 (i : Int) x y (W ++ v :: R) = sha_do_c1 b 64 ((i : Int) + 1) x y (W ++ bt v (b.getD i 0) :: R) := by
  have hb' : Int.ofNat b.length = 64 := by rw [hb]; rfl
  have e : (IntKind.wrap .i64 (Int.tdiv (i : Int) 4)) = (t : Int) := by
    rw [tdiv_nn (by omega), w64 (by omega) (by omega)]; omega
  rw [sha_do_c1_eq, if_pos (by simp; omega), hb', e]
  rw [gd_pos (by omega), gd_pos (by omega), gd_pos (by omega), gd_pos (by omega), gd_pos (by omega), gd_pos (by omega), gd_pos (by omega), gd_pos (by omega), gd_pos (by omega)]
  have et : ((t : Int)).toNat = W.length := by omega
  have ei : ((i : Int)).toNat = i := by omega
  rw [et, ei, get_mid, set_mid, or_byte hv (bts_get hB i), w64 (x := (i : Int) + 1) (by omega) (by omega)]
  rfl
theorem do_c1 (b : List Int) (hb : b.length = 64) (hB : Bts b) (x y : List Int) : ∀ (k t : Nat) (W : List Int), t + k = 16 → W.length = t →
    sha_do_c1 b 64 (4 * (t : Int)) x y (W ++ List.replicate k 0) = sha_do_c1 b 64 64 x y (W ++ wordsB b t k)
  | 0, t, W, e, hl => by
    have : 4 * (t : Int) = 64 := by omega
    rw [this]; rfl
  | k + 1, t, W, e, hl => by
    have c : ∀ j : Nat, ((4 * t + j : Nat) : Int) = 4 * (t : Int) + (j : Int) := fun j => by omega
    have s0 := do_byte b hb hB x y W (List.replicate k 0) (4 * t) t 0 (by unfold U32; omega) (by omega) (by omega) hl
    have s1 := do_byte b hb hB x y W (List.replicate k 0) (4 * t + 1) t (bt 0 (b.getD (4 * t) 0)) (bt_u _ _) (by omega) (by omega) hl
    have s2 := do_byte b hb hB x y W (List.replicate k 0) (4 * t + 2) t (bt (bt 0 (b.getD (4 * t) 0)) (b.getD (4 * t + 1) 0)) (bt_u _ _) (by omega) (by omega) hl
    have s3 := do_byte b hb hB x y W (List.replicate k 0) (4 * t + 3) t (bt (bt (bt 0 (b.getD (4 * t) 0)) (b.getD (4 * t + 1) 0)) (b.getD (4 * t + 2) 0)) (bt_u _ _) (by omega) (by omega) hl
    rw [show ((4 * t : Nat) : Int) = 4 * (t : Int) by omega] at s0
    rw [show ((4 * t + 1 : Nat) : Int) = 4 * (t : Int) + 1 by omega] at s1
    rw [show ((4 * t + 2 : Nat) : Int) = 4 * (t : Int) + 1 + 1 by omega] at s2
    rw [show ((4 * t + 3 : Nat) : Int) = 4 * (t : Int) + 1 + 1 + 1 by omega] at s3
    have h0 : bt 0 (b.getD (4 * t) 0) = IntKind.wrap .u32 (b.getD (4 * t) 0) := by
      have := bts_get hB (4 * t)
      simp only [bt, wu32]; omega
    rw [List.replicate_succ, s0, s1, s2, s3, h0]
    have ih := do_c1 b hb hB x y k (t + 1) (W ++ [wordB b t]) (by omega) (by simp; omega)
    rw [show 4 * ((t + 1 : Nat) : Int) = 4 * (t : Int) + 1 + 1 + 1 + 1 by omega] at ih
    simp only [List.append_assoc, List.singleton_append] at ih
    exact ih
/-! ### 4. The schedule -/
def nextW (a b c d : Int) : Int := rot (bitsXor .u32 (bitsXor .u32 (bitsXor .u32 a b) c) d) 1
def sch : Nat → List Int → List Int
  | 0, h => h
  | k + 1, h => sch k (h ++ [nextW (h.getD (h.length - 3) 0) (h.getD (h.length - 8) 0) (h.getD (h.length - 14) 0) (h.getD (h.length - 16) 0)])
theorem sch_len : ∀ (k : Nat) (h : List Int), (sch k h).length = h.length + k
  | 0, h => rfl
  | k + 1, h => by rw [sch, sch_len k]; simp; omega
theorem getD_left {h r : List Int} {t : Nat} (ht : t < h.length) : (h ++ r).getD t 0 = h.getD t 0 := by
  simp [List.getD_eq_getElem?_getD, List.getElem?_append_left ht]
theorem sch_pre : ∀ (k : Nat) (h : List Int) (t : Nat), t < h.length → (sch k h).getD t 0 = h.getD t 0
  | 0, h, t, ht => rfl
  | k + 1, h, t, ht => by
    rw [sch, sch_pre k _ t (by simp; omega), getD_left ht]
theorem sch_at : ∀ (k : Nat) (h : List Int) (t : Nat), 16 ≤ h.length → h.length ≤ t → t < h.length + k →
    (sch k h).getD t 0 = nextW ((sch k h).getD (t - 3) 0) ((sch k h).getD (t - 8) 0) ((sch k h).getD (t - 14) 0) ((sch k h).getD (t - 16) 0)
  | 0, h, t, h1, h2, h3 => by omega
  | k + 1, h, t, h1, h2, h3 => by
    by_cases he : t = h.length
    · subst he
      rw [sch]
      rw [sch_pre k _ h.length (by simp), sch_pre k _ (h.length - 3) (by simp; omega), sch_pre k _ (h.length - 8) (by simp; omega), sch_pre k _ (h.length - 14) (by simp; omega), sch_pre k _ (h.length - 16) (by simp; omega)]
      rw [get_mid, getD_left (by omega), getD_left (by omega), getD_left (by omega), getD_left (by omega)]
    · rw [sch]
      exact sch_at k _ t (by simp; omega) (by simp; omega) (by simp; omega)
theorem done_c2 (x y : List Int) : ∀ (k t : Nat) (h : List Int), t + k = 80 → 16 ≤ t → h.length = t → bitloftref01_Done_c2 (t : Int) x y h = bitloftref01_Done_c3 0 x y (sch k h) x
  | 0, t, h, e, h1, hl => by
    rw [bitloftref01_Done_c2_eq, if_neg (by simp; omega)]; rfl
  | k + 1, t, h, e, h1, hl => by
    have hl' : Int.ofNat h.length = (t : Int) := by rw [hl]; rfl
    rw [bitloftref01_Done_c2_eq, if_pos (by simp; omega), hl']
    simp only [w64 (x := (t : Int) - 3) (by omega) (by omega), w64 (x := (t : Int) - 8) (by omega) (by omega), w64 (x := (t : Int) - 14) (by omega) (by omega), w64 (x := (t : Int) - 16) (by omega) (by omega), w64 (x := (t : Int) + 1) (by omega) (by omega)]
    rw [gd_pos (by omega), gd_pos (by omega), gd_pos (by omega), gd_pos (by omega), gd_pos (by omega), gd_pos (by omega), gd_pos (by omega), gd_pos (by omega)]
    rw [show 0 + ((t : Int) - 3).toNat = h.length - 3 by omega, show 0 + ((t : Int) - 8).toNat = h.length - 8 by omega, show 0 + ((t : Int) - 14).toNat = h.length - 14 by omega, show 0 + ((t : Int) - 16).toNat = h.length - 16 by omega]
    rw [turn_spec _ 1 (by omega)]
    simp only [Option.bind_some]
    rw [gd_pos (by simp; omega)]
    have ih := done_c2 x y k (t + 1) (h ++ [nextW (h.getD (h.length - 3) 0) (h.getD (h.length - 8) 0) (h.getD (h.length - 14) 0) (h.getD (h.length - 16) 0)]) (by omega) (by omega) (by simp; omega)
    rw [show ((t + 1 : Nat) : Int) = (t : Int) + 1 by omega] at ih
    exact ih
end Go.Ab

set_option linter.unusedVariables false
set_option linter.unusedSimpArgs false
set_option maxHeartbeats 1000000
namespace Go.Ab
attribute [local irreducible] IntKind.wrap
/-! ### 5. Rounds -/
def ff (t : Nat) (b c d : Int) : Int × Int :=
  if t < 20 then (bitsOr .u32 (bitsAnd .u32 b c) (bitsAnd .u32 (bitsXor .u32 4294967295 b) d), 1518500249)
  else if t < 40 then (bitsXor .u32 (bitsXor .u32 b c) d, 1859775393)
  else if t < 60 then (bitsOr .u32 (bitsOr .u32 (bitsAnd .u32 b c) (bitsAnd .u32 b d)) (bitsAnd .u32 c d), 2400959708)
  else (bitsXor .u32 (bitsXor .u32 b c) d, 3395469782)
theorem part_spec (t : Nat) (b c d : Int) : bitloftref01_part (t : Int) b c d = some (ff t b c d) := by
  rw [bitloftref01_part_eq]
  unfold ff
  by_cases h1 : t < 20
  · rw [if_pos (by simp; omega), if_pos h1]
  · rw [if_neg (by simp; omega), if_neg h1]
    by_cases h2 : t < 40
    · rw [if_pos (by simp; omega), if_pos h2]
    · rw [if_neg (by simp; omega), if_neg h2]
      by_cases h3 : t < 60
      · rw [if_pos (by simp; omega), if_pos h3]
      · rw [if_neg (by simp; omega), if_neg h3]
theorem mix_spec (t : Nat) (b c d : Int) (ht : t < 80) : sha_mix (IntKind.wrap .i64 (Int.tdiv (t : Int) 20)) b c d = some (ff t b c d).1 ∧ G_quarters.getD (IntKind.wrap .i64 (Int.tdiv (t : Int) 20)).toNat 0 = (ff t b c d).2 ∧ 0 ≤ IntKind.wrap .i64 (Int.tdiv (t : Int) 20) ∧ IntKind.wrap .i64 (Int.tdiv (t : Int) 20) < 4 := by
  have e : IntKind.wrap .i64 (Int.tdiv (t : Int) 20) = ((t / 20 : Nat) : Int) := by
    rw [tdiv_nn (by omega), w64 (by omega) (by omega)]; omega
  rw [e, sha_mix_eq]
  unfold ff
  by_cases h1 : t < 20
  · have : t / 20 = 0 := by omega
    rw [this, if_pos (by simp), if_pos h1, ch_eq]
    exact ⟨rfl, rfl, by omega, by omega⟩
  · rw [if_neg h1]
    by_cases h2 : t < 40
    · have : t / 20 = 1 := by omega
      rw [this, if_neg (by simp), if_neg (by simp), if_pos h2]
      exact ⟨rfl, rfl, by omega, by omega⟩
    · rw [if_neg h2]
      by_cases h3 : t < 60
      · have : t / 20 = 2 := by omega
        rw [this, if_neg (by simp), if_pos (by simp), if_pos h3, maj_eq]
        exact ⟨rfl, rfl, by omega, by omega⟩
      · have : t / 20 = 3 := by omega
        rw [this, if_neg (by simp), if_neg (by simp), if_neg h3]
        exact ⟨rfl, rfl, by omega, by omega⟩
structure S5 where
  a : Int
  b : Int
  c : Int
  d : Int
  e : Int
def S5.l (s : S5) : List Int := [s.a, s.b, s.c, s.d, s.e]
def rd (t : Nat) (w : Int) (s : S5) : S5 :=
  ⟨IntKind.wrap .u32 (IntKind.wrap .u32 (IntKind.wrap .u32 (IntKind.wrap .u32 (rot s.a 5 + (ff t s.b s.c s.d).1) + s.e) + (ff t s.b s.c s.d).2) + w), s.a, rot s.b 30, s.c, s.d⟩
def rnds (W : List Int) : Nat → Nat → S5 → S5
  | 0, _, s => s
  | k + 1, t, s => rnds W k (t + 1) (rd t (W.getD t 0) s)
theorem done_c3 (x y W : List Int) (hW : W.length = 80) : ∀ (k t : Nat) (s : S5), t + k = 80 → bitloftref01_Done_c3 (t : Int) x y W s.l = bitloftref01_Done_c4 0 x y (rnds W k t s).l
  | 0, t, s, e => by
    rw [bitloftref01_Done_c3_eq, if_neg (by simp; omega)]; rfl
  | k + 1, t, s, e => by
    have hl' : Int.ofNat W.length = 80 := by rw [hW]; rfl
    have g0 : s.l.getD 0 0 = s.a := rfl
    have g1 : s.l.getD 1 0 = s.b := rfl
    have g2 : s.l.getD 2 0 = s.c := rfl
    have g3 : s.l.getD 3 0 = s.d := rfl
    have g4 : s.l.getD 4 0 = s.e := rfl
    rw [bitloftref01_Done_c3_eq, if_pos (by simp; omega), hl']
    simp only [g0, g1, g2, g3, g4, part_spec, turn_spec _ 5 (by omega), turn_spec _ 30 (by omega), Option.bind_some, w64 (x := (t : Int) + 1) (by omega) (by omega), show 0 + ((t : Int)).toNat = t by omega]
    repeat rw [gd_pos (by omega)]
    have ih := done_c3 x y W hW k (t + 1) (rd t (W.getD t 0) s) (by omega)
    rw [show ((t + 1 : Nat) : Int) = (t : Int) + 1 by omega] at ih
    exact ih
def addF (x : List Int) (s : S5) : List Int := [IntKind.wrap .u32 (x.getD 0 0 + s.a), IntKind.wrap .u32 (x.getD 1 0 + s.b), IntKind.wrap .u32 (x.getD 2 0 + s.c), IntKind.wrap .u32 (x.getD 3 0 + s.d), IntKind.wrap .u32 (x.getD 4 0 + s.e)]
theorem done_c4 (y : List Int) (x s : S5) : bitloftref01_Done_c4 0 x.l y s.l = some (addF x.l s) := by
  have g : ∀ s : S5, s.l.getD 0 0 = s.a ∧ s.l.getD 1 0 = s.b ∧ s.l.getD 2 0 = s.c ∧ s.l.getD 3 0 = s.d ∧ s.l.getD 4 0 = s.e := fun s => ⟨rfl, rfl, rfl, rfl, rfl⟩
  have n1 : IntKind.wrap .i64 (0 + 1) = 1 := by kernel_rfl
  have n2 : IntKind.wrap .i64 (1 + 1) = 2 := by kernel_rfl
  have n3 : IntKind.wrap .i64 (2 + 1) = 3 := by kernel_rfl
  have n4 : IntKind.wrap .i64 (3 + 1) = 4 := by kernel_rfl
  have n5 : IntKind.wrap .i64 (4 + 1) = 5 := by kernel_rfl
  rw [bitloftref01_Done_c4_eq, if_pos (by simp), n1]
  repeat rw [gd_pos (by omega)]
  rw [bitloftref01_Done_c4_eq, if_pos (by simp), n2]
  repeat rw [gd_pos (by omega)]
  rw [bitloftref01_Done_c4_eq, if_pos (by simp), n3]
  repeat rw [gd_pos (by omega)]
  rw [bitloftref01_Done_c4_eq, if_pos (by simp), n4]
  repeat rw [gd_pos (by omega)]
  rw [bitloftref01_Done_c4_eq, if_pos (by simp), n5]
  repeat rw [gd_pos (by omega)]
  rw [bitloftref01_Done_c4_eq, if_neg (by simp)]
  rfl
/-- A block. -/
def blk (x : S5) (b : List Int) : S5 :=
  let s := rnds (sch 64 (wordsB b 0 16)) 80 0 x
  ⟨IntKind.wrap .u32 (x.a + s.a), IntKind.wrap .u32 (x.b + s.b), IntKind.wrap .u32 (x.c + s.c), IntKind.wrap .u32 (x.d + s.d), IntKind.wrap .u32 (x.e + s.e)⟩
theorem Done_spec (x : S5) (b : List Int) (hb : b.length = 64) : bitloftref01_Done x.l b = some (blk x b).l := by
  have h1 := done_c1 b hb x.l (List.replicate 5 0) 16 0 [] rfl rfl
  have h2 := done_c2 x.l (List.replicate 5 0) 64 16 (wordsB b 0 16) rfl (by omega) (wordsB_len b 16 0)
  have h3 := done_c3 x.l (List.replicate 5 0) (sch 64 (wordsB b 0 16)) (by rw [sch_len, wordsB_len]) 80 0 x rfl
  rw [bitloftref01_Done_eq]
  refine h1.trans ?_
  rw [List.nil_append]
  refine Eq.trans h2 (Eq.trans h3 ?_)
  rw [done_c4]; rfl
/-- Sixteen words in a ring. -/
def Ring (W : List Int) (t : Nat) (r : List Int) : Prop := r.length = 16 ∧ ∀ i, i < max t 16 → max t 16 ≤ i + 16 → r.getD (i % 16) 0 = W.getD i 0
theorem getD_set {r : List Int} {i j : Nat} {v : Int} (hi : i < r.length) : (r.set i v).getD j 0 = if i = j then v else r.getD j 0 := by
  simp only [List.getD_eq_getElem?_getD, List.getElem?_set]
  by_cases h : i = j
  · subst h; simp [hi]
  · simp [h]
theorem do_c2 (x y W : List Int) (hW : ∀ t, 16 ≤ t → t < 80 → W.getD t 0 = nextW (W.getD (t - 3) 0) (W.getD (t - 8) 0) (W.getD (t - 14) 0) (W.getD (t - 16) 0)) :
    ∀ (k t : Nat) (s : S5) (r : List Int), t + k = 80 → Ring W t r → sha_do_c2 s.a s.b s.c s.d s.e (t : Int) x y r = some (addF x (rnds W k t s))
  | 0, t, s, r, e, hr => by
    rw [sha_do_c2_eq, if_neg (by simp; omega)]
    repeat rw [gd_pos (by omega)]
    rfl
  | k + 1, t, s, r, e, hr => by
    obtain ⟨m1, m2, m3, m4⟩ := mix_spec t s.b s.c s.d (by omega)
    obtain ⟨r1, r5, r30⟩ := rotl_spec s.a
    obtain ⟨_, _, q30⟩ := rotl_spec s.b
    have et : (Int.tmod (t : Int) 16) = ((t % 16 : Nat) : Int) := by rw [tmod_nn (by omega)]; omega
    have ett : (((t % 16 : Nat) : Int)).toNat = t % 16 := by omega
    rw [sha_do_c2_eq, if_pos (by simp; omega)]
    by_cases h16 : 16 ≤ t
    · have e13 : (Int.tmod (IntKind.wrap .i64 ((t : Int) + 13)) 16) = (((t - 3) % 16 : Nat) : Int) := by rw [w64 (by omega) (by omega), tmod_nn (by omega)]; omega
      have e8 : (Int.tmod (IntKind.wrap .i64 ((t : Int) + 8)) 16) = (((t - 8) % 16 : Nat) : Int) := by rw [w64 (by omega) (by omega), tmod_nn (by omega)]; omega
      have e2 : (Int.tmod (IntKind.wrap .i64 ((t : Int) + 2)) 16) = (((t - 14) % 16 : Nat) : Int) := by rw [w64 (by omega) (by omega), tmod_nn (by omega)]; omega
      have e0 : t % 16 = (t - 16) % 16 := by omega
      have v13 := hr.2 (t - 3) (by omega) (by omega)
      have v8 := hr.2 (t - 8) (by omega) (by omega)
      have v2 := hr.2 (t - 14) (by omega) (by omega)
      have v0 := hr.2 (t - 16) (by omega) (by omega)
      rw [← e0] at v0
      have hn : rot (bitsXor .u32 (bitsXor .u32 (bitsXor .u32 (r.getD ((t - 3) % 16) 0) (r.getD ((t - 8) % 16) 0)) (r.getD ((t - 14) % 16) 0)) (r.getD (t % 16) 0)) 1 = W.getD t 0 := by
        rw [v13, v8, v2, v0, hW t h16 (by omega)]; rfl
      rw [if_pos (by simp; omega)]
      simp only [et, e13, e8, e2, (rotl_spec _).1, r5, q30, m1, m2, Option.bind_some, w64 (x := (t : Int) + 1) (by omega) (by omega), Int.toNat_natCast, hn]
      repeat rw [gd_pos (by omega)]
      have hr' : Ring W (t + 1) (r.set (t % 16) (W.getD t 0)) := by
        refine ⟨by simp [hr.1], fun i h1 h2 => ?_⟩
        rw [getD_set (by rw [hr.1]; omega)]
        by_cases hi : i = t
        · subst hi; rw [if_pos rfl]
        · rw [if_neg (by omega)]
          exact hr.2 i (by omega) (by omega)
      have hg : (r.set (t % 16) (W.getD t 0)).getD (t % 16) 0 = W.getD t 0 := by
        rw [getD_set (by rw [hr.1]; omega), if_pos rfl]
      have ih := do_c2 x y W hW k (t + 1) (rd t (W.getD t 0) s) _ (by omega) hr'
      rw [show ((t + 1 : Nat) : Int) = (t : Int) + 1 by omega] at ih
      rw [hg]
      exact ih
    · have v0 := hr.2 t (by omega) (by omega)
      rw [if_neg (by simp; omega)]
      simp only [et, r5, q30, m1, m2, Option.bind_some, w64 (x := (t : Int) + 1) (by omega) (by omega), Int.toNat_natCast, v0]
      repeat rw [gd_pos (by omega)]
      have hr' : Ring W (t + 1) r := ⟨hr.1, fun i h1 h2 => hr.2 i (by omega) (by omega)⟩
      have ih := do_c2 x y W hW k (t + 1) (rd t (W.getD t 0) s) _ (by omega) hr'
      rw [show ((t + 1 : Nat) : Int) = (t : Int) + 1 by omega] at ih
      exact ih
theorem do_spec (x : S5) (b : List Int) (hb : 64 ≤ b.length) (hB : Bts b) : sha_do x.l b = some (blk x (b.take 64)).l := by
  have hl : (b.take 64).length = 64 := by simp; omega
  have hl' : Int.ofNat (b.take 64).length = 64 := by rw [hl]; rfl
  rw [sha_do_eq, gd_pos (by omega), gd_pos (by simp; omega), hl']
  have h1 := do_c1 (b.take 64) hl (hB.take 64) x.l (List.replicate 5 0) 16 0 [] rfl rfl
  refine Eq.trans h1 ?_
  rw [List.nil_append, sha_do_c1_eq, if_neg (by simp)]
  repeat rw [gd_pos (by omega)]
  have hW : ∀ t, 16 ≤ t → t < 80 → _ := fun t h1 h2 => sch_at 64 (wordsB (b.take 64) 0 16) t (by rw [wordsB_len]; omega) (by rw [wordsB_len]; exact h1) (by rw [wordsB_len]; omega)
  have h2 := do_c2 x.l (List.replicate 5 0) (sch 64 (wordsB (b.take 64) 0 16)) hW 80 0 x (wordsB (b.take 64) 0 16) rfl ⟨wordsB_len _ _ _, fun i h1 h2 => by
    have hi : i < 16 := by omega
    rw [sch_pre 64 _ i (by rw [wordsB_len]; exact hi), Nat.mod_eq_of_lt hi]⟩
  refine Eq.trans h2 ?_
  rfl
end Go.Ab

set_option linter.unusedVariables false
set_option linter.unusedSimpArgs false
set_option maxHeartbeats 1000000
namespace Go.Ab
attribute [local irreducible] IntKind.wrap
/-! ### 6. The sum's bytes -/
def outAt (l : List Int) (i : Nat) : Int := IntKind.wrap .u8 (shrBy .u32 (l.getD (i / 4) 0) (24 - 8 * ((i % 4 : Nat) : Int)))
def outs (l : List Int) (t : Nat) : Nat → List Int
  | 0 => []
  | k + 1 => outAt l t :: outs l (t + 1) k
theorem outs_len (l : List Int) : ∀ (k t : Nat), (outs l t k).length = k
  | 0, t => rfl
  | k + 1, t => by simp [outs, outs_len l k]
theorem outs_bts (l : List Int) : ∀ (k t : Nat), Bts (outs l t k)
  | 0, t => Bts.nil
  | k + 1, t => Bts.cons (w8_b _) (outs_bts l k _)
theorem of_c2 (x l : List Int) : ∀ (k t : Nat) (P : List Int), t + k = 20 → P.length = t → bitloftref01_Of_c2 (t : Int) x l (P ++ List.replicate k 0) = some (P ++ outs l t k)
  | 0, t, P, e, hl => by
    rw [bitloftref01_Of_c2_eq, if_neg (by simp; omega)]; rfl
  | k + 1, t, P, e, hl => by
    have e1 : IntKind.wrap .i64 (Int.tdiv (t : Int) 4) = ((t / 4 : Nat) : Int) := by
      rw [tdiv_nn (by omega), w64 (by omega) (by omega)]; omega
    have e2 : IntKind.wrap .i64 (8 * (Int.tmod (t : Int) 4)) = 8 * ((t % 4 : Nat) : Int) := by
      rw [tmod_nn (by omega), w64 (by omega) (by omega)]; omega
    have e3 : IntKind.wrap .i64 (24 - 8 * ((t % 4 : Nat) : Int)) = 24 - 8 * ((t % 4 : Nat) : Int) := w64 (by omega) (by omega)
    rw [bitloftref01_Of_c2_eq, if_pos (by simp; omega), e1, e2, e3, w64 (x := (t : Int) + 1) (by omega) (by omega)]
    repeat rw [gd_pos (by omega)]
    rw [show ((t : Int)).toNat = P.length by omega, show (((t / 4 : Nat) : Int)).toNat = t / 4 by omega, List.replicate_succ, set_mid]
    have ih := of_c2 x l k (t + 1) (P ++ [outAt l t]) (by omega) (by simp; omega)
    rw [show ((t + 1 : Nat) : Int) = (t : Int) + 1 by omega] at ih
    simp only [List.append_assoc, List.singleton_append] at ih
    exact ih
theorem sum_c2 (l : List Int) : ∀ (k t : Nat) (P : List Int), t + k = 5 → P.length = 4 * t → sha_Sum_c2 l (t : Int) (P ++ List.replicate (4 * k) 0) = some (P ++ outs l (4 * t) (4 * k), 0)
  | 0, t, P, e, hl => by
    rw [sha_Sum_c2_eq, if_neg (by simp; omega)]; rfl
  | k + 1, t, P, e, hl => by
    rw [sha_Sum_c2_eq, if_pos (by simp; omega)]
    simp only [w64 (x := 4 * (t : Int)) (by omega) (by omega), w64 (x := 4 * (t : Int) + 1) (by omega) (by omega), w64 (x := 4 * (t : Int) + 2) (by omega) (by omega), w64 (x := 4 * (t : Int) + 3) (by omega) (by omega), w64 (x := (t : Int) + 1) (by omega) (by omega)]
    repeat rw [gd_pos (by omega)]
    rw [show ((t : Int)).toNat = t by omega, show (4 * (t : Int)).toNat = P.length by omega]
    have s0 : IntKind.wrap .u8 (Int.fdiv (l.getD t 0) 16777216) = outAt l (4 * t) := by
      unfold outAt shrBy
      rw [show 4 * t / 4 = t by omega, show 4 * t % 4 = 0 by omega]; rfl
    have s1 : IntKind.wrap .u8 (Int.fdiv (l.getD t 0) 65536) = outAt l (4 * t + 1) := by
      unfold outAt shrBy
      rw [show (4 * t + 1) / 4 = t by omega, show (4 * t + 1) % 4 = 1 by omega]; rfl
    have s2 : IntKind.wrap .u8 (Int.fdiv (l.getD t 0) 256) = outAt l (4 * t + 2) := by
      unfold outAt shrBy
      rw [show (4 * t + 2) / 4 = t by omega, show (4 * t + 2) % 4 = 2 by omega]; rfl
    have s3 : IntKind.wrap .u8 (l.getD t 0) = outAt l (4 * t + 3) := by
      unfold outAt shrBy
      rw [show (4 * t + 3) / 4 = t by omega, show (4 * t + 3) % 4 = 3 by omega]
      have : (2 : Int) ^ (min ((24 : Int) - 8 * ((3 : Nat) : Int)).toNat (IntKind.bits .u32)) = 1 := rfl
      rw [this, Int.fdiv_one]
    rw [s0, s1, s2, s3, show 4 * (k + 1) = 4 * k + 1 + 1 + 1 + 1 by omega, List.replicate_succ, List.replicate_succ, List.replicate_succ, List.replicate_succ, set_mid]
    have a1 := set_mid (P ++ [outAt l (4 * t)]) 0 (outAt l (4 * t + 1)) (0 :: 0 :: List.replicate (4 * k) 0)
    have a2 := set_mid (P ++ [outAt l (4 * t), outAt l (4 * t + 1)]) 0 (outAt l (4 * t + 2)) (0 :: List.replicate (4 * k) 0)
    have a3 := set_mid (P ++ [outAt l (4 * t), outAt l (4 * t + 1), outAt l (4 * t + 2)]) 0 (outAt l (4 * t + 3)) (List.replicate (4 * k) 0)
    simp only [List.append_assoc, List.cons_append, List.nil_append, List.length_append, List.length_cons, List.length_nil] at a1 a2 a3
    rw [show (4 * (t : Int) + 1).toNat = P.length + (0 + 1) by omega, a1, show (4 * (t : Int) + 2).toNat = P.length + (0 + 1 + 1) by omega, a2, show (4 * (t : Int) + 3).toNat = P.length + (0 + 1 + 1 + 1) by omega, a3]
    have ih := sum_c2 l k (t + 1) (P ++ [outAt l (4 * t), outAt l (4 * t + 1), outAt l (4 * t + 2), outAt l (4 * t + 3)]) (by omega) (by simp; omega)
    rw [show ((t + 1 : Nat) : Int) = (t : Int) + 1 by omega] at ih
    simp only [List.append_assoc, List.cons_append, List.nil_append] at ih
    exact ih
/-! ### 7. All blocks -/
def blks : Nat → S5 → List Int → S5
  | 0, x, _ => x
  | k + 1, x, m => blks k (blk x (m.take 64)) (m.drop 64)
theorem sum_c1 : ∀ (k : Nat) (x : S5) (m : List Int), m.length = 64 * k → Bts m → sha_Sum_c1 m (List.replicate 20 0) x.l = some (outs (blks k x m).l 0 20, 0)
  | 0, x, m, hl, hB => by
    obtain rfl : m = [] := List.eq_nil_of_length_eq_zero (by omega)
    rw [sha_Sum_c1_eq, if_neg (by simp)]
    exact sum_c2 x.l 5 0 [] rfl rfl
  | k + 1, x, m, hl, hB => by
    rw [sha_Sum_c1_eq, if_pos (by rw [decide_eq_true_eq]; have : Int.ofNat m.length = (m.length : Int) := rfl; omega), do_spec x m (by omega) hB]
    simp only [Option.bind_some]
    rw [gd_pos (by omega), gd_pos (by simp; omega)]
    exact sum_c1 k _ (m.drop 64) (by simp; omega) (hB.drop 64)
theorem of_c1 (x0 m : List Int) (K : Nat) (hm : m.length = 64 * K) (hK : K ≤ 100000) : ∀ (k t : Nat) (x : S5), t + k = K → bitloftref01_Of_c1 (64 * (t : Int)) x0 m x.l = some (outs (blks k x (m.drop (64 * t))).l 0 20)
  | 0, t, x, e => by
    have hl : Int.ofNat m.length = (64 * K : Nat) := by rw [hm]; rfl
    rw [bitloftref01_Of_c1_eq, hl, if_neg (by simp; omega)]
    exact of_c2 x0 x.l 20 0 [] rfl rfl
  | k + 1, t, x, e => by
    have hl : Int.ofNat m.length = (64 * K : Nat) := by rw [hm]; rfl
    rw [bitloftref01_Of_c1_eq, hl, if_pos (by simp; omega), w64 (by omega) (by omega)]
    repeat rw [gd_pos (by omega)]
    rw [show (64 * (t : Int) + 64).toNat - (64 * (t : Int)).toNat = 64 by omega, show 0 + (64 * (t : Int)).toNat = 64 * t by omega, Done_spec x _ (by simp; omega)]
    simp only [Option.bind_some]
    have ih := of_c1 x0 m K hm hK k (t + 1) (blk x ((m.drop (64 * t)).take 64)) (by omega)
    rw [show 64 * ((t + 1 : Nat) : Int) = 64 * (t : Int) + 64 by omega] at ih
    rw [ih]
    simp only [blks, List.drop_drop]
    rw [show 64 * (t + 1) = 64 * t + 64 by omega]
def iv : S5 := ⟨1732584193, 4023233417, 2562383102, 271733878, 3285377520⟩
/-- The sum of some bytes. -/
def shaB (a : List Int) : List Int := outs (blks ((a ++ padB a.length).length / 64) iv (a ++ padB a.length)).l 0 20
theorem shaB_len (a : List Int) : (shaB a).length = 20 := outs_len _ _ _
theorem shaB_bts (a : List Int) : Bts (shaB a) := outs_bts _ _ _
theorem Of_spec (a : List Int) (h : a.length ≤ 1000000) : bitloftref01_Of a = some (shaB a) := by
  have hp := padB_len (a.length : Int) (by omega)
  have ha : Int.ofNat a.length = (a.length : Int) := rfl
  rw [bitloftref01_Of_eq, gd_pos (by simp; omega), ha, padding_spec _ ⟨by omega, by omega⟩]
  simp only [Option.bind_some, bitloftref01_First_eq, List.nil_append]
  rw [gd_pos (by simp; omega)]
  have hm : (a ++ padB a.length).length = 64 * ((a ++ padB a.length).length / 64) := by
    simp only [List.length_append]; omega
  exact of_c1 (List.replicate 20 0) (a ++ padB a.length) _ hm (by simp only [List.length_append]; omega) _ 0 iv (by omega)
theorem Sum_spec (a : List Int) (hB : Bts a) : sha_Sum a = some (if a.length ≤ 20000 then (shaB a, 0) else (List.replicate 20 0, 4)) := by
  have ha : Int.ofNat a.length = (a.length : Int) := rfl
  rw [sha_Sum_eq, ha]
  by_cases h : a.length ≤ 20000
  · have hp := padB_len (a.length : Int) (by omega)
    rw [if_neg (by simp; omega), if_pos h, sha_pad_spec _ (by omega)]
    simp only [Option.bind_some]
    rw [concat_two _ _ (by omega)]
    simp only [Option.bind_some]
    have hm : (a ++ padB a.length).length = 64 * ((a ++ padB a.length).length / 64) := by
      simp only [List.length_append]; omega
    exact sum_c1 _ iv (a ++ padB a.length) hm (hB.append (padB_bts _))
  · rw [if_pos (by simp; omega), if_neg h]
end Go.Ab

set_option linter.unusedVariables false
set_option linter.unusedSimpArgs false
set_option maxHeartbeats 1000000
namespace Go.Ab
attribute [local irreducible] IntKind.wrap
/-! ### 1. Names -/
theorem eqBA (a b : ByteArray) : (ByteArray.toList a == ByteArray.toList b) = decide (a = b) := by
  rw [Bool.eq_iff_iff, beq_iff_eq, decide_eq_true_eq]
  exact ⟨fun h => toList_inj h, fun h => by rw [h]⟩
theorem ofStr_len (s : ByteArray) : (ofStr s).length = s.size := by
  unfold ofStr
  rw [List.length_map, Array.length_toList]; rfl
def okC (x : Int) : Bool := decide (33 ≤ x) && decide (x ≤ 126)
def nmOK (s : ByteArray) : Bool := (ofStr s).all okC && decide (1 ≤ s.size) && decide (s.size ≤ 40)
theorem drop_at {xs : List Int} {i : Nat} (h : i < xs.length) : xs.drop i = xs.getD i 0 :: xs.drop (i + 1) := by
  rw [List.drop_eq_getElem_cons h, List.getD_eq_getElem?_getD, List.getElem?_eq_getElem h]; rfl
theorem isName_c1 (s : ByteArray) (hs : s.size ≤ 9223372036854775807) : ∀ (k i : Nat), i + k = s.size → member_isName_c1 s (s.size : Int) (i : Int) = some (((ofStr s).drop i).all okC && decide (1 ≤ s.size) && decide (s.size ≤ 40))
  | 0, i, e => by
    have hd : (ofStr s).drop i = [] := List.drop_eq_nil_of_le (by rw [ofStr_len]; omega)
    rw [member_isName_c1_eq, if_neg (by simp; omega), hd]
    have hl : Int.ofNat s.size = (s.size : Int) := rfl
    rw [hl]
    by_cases h : 1 ≤ s.size
    · rw [if_pos (by simp; omega)]
      simp [h]; omega
    · rw [if_neg (by rw [decide_eq_true_eq]; omega)]
      simp [h]
  | k + 1, i, e => by
    have hi : i < (ofStr s).length := by rw [ofStr_len]; omega
    have hb : btAt s ((i : Int)).toNat = (ofStr s).getD i 0 := by rw [Int.toNat_natCast]; rfl
    rw [member_isName_c1_eq, if_pos (by simp; omega), gd_pos (by omega), gd_pos (by omega), hb, drop_at hi, w64 (by omega) (by omega)]
    have ih := isName_c1 s hs k (i + 1) (by omega)
    rw [show ((i + 1 : Nat) : Int) = (i : Int) + 1 by omega] at ih
    by_cases h1 : (ofStr s).getD i 0 ≤ 32
    · rw [if_pos (by simpa using h1)]
      have : okC ((ofStr s).getD i 0) = false := by simp only [okC, Bool.and_eq_false_iff, decide_eq_false_iff_not]; left; omega
      simp only [List.all_cons, this, Bool.false_and]
    · rw [if_neg (by simpa using h1), gd_pos (by omega), gd_pos (by omega)]
      by_cases h2 : (ofStr s).getD i 0 > 126
      · rw [if_pos (by simpa using h2)]
        have : okC ((ofStr s).getD i 0) = false := by simp only [okC, Bool.and_eq_false_iff, decide_eq_false_iff_not]; right; omega
        simp only [List.all_cons, this, Bool.false_and]
      · rw [if_neg (by simpa using h2), ih]
        have : okC ((ofStr s).getD i 0) = true := by simp only [okC, Bool.and_eq_true, decide_eq_true_eq]; omega
        simp only [List.all_cons, this, Bool.true_and]
theorem member_isName_spec (s : ByteArray) (hs : s.size ≤ 9223372036854775807) : member_isName s = some (nmOK s) := by
  rw [member_isName_eq]
  exact isName_c1 s hs s.size 0 (by omega)
/-! ### 2. Names that stand twice -/
theorem mget_mset {α β : Type} {eq : α → α → Bool} (h : ∀ a b, eq a b = true ↔ a = b) (x y : α) (v : β) : ∀ m : List (α × β), mget eq x (mset eq y v m) = if eq x y then some v else mget eq x m
  | [] => by simp [mset, mget]
  | e :: r => by
    simp only [mset]
    by_cases hy : eq y e.1 = true
    · have := (h _ _).1 hy
      simp only [hy, if_true, mget]
      by_cases hx : eq x y = true
      · simp [hx]
      · have : eq x e.1 = false := by rw [← this]; simpa using hx
        simp [hx, this]
    · simp only [hy, Bool.false_eq_true, if_false, mget, mget_mset h x y v r]
      by_cases hx : eq x y = true
      · have e1 := (h _ _).1 hx
        subst e1
        simp [hx, hy]
      · simp [hx]
theorem peq_str (a b : ByteArray) : peq .str a b = decide (a = b) := eqBA a b
def memB (x : ByteArray) (xs : List ByteArray) : Bool := xs.any fun y => decide (x = y)
theorem memB_append (x y : ByteArray) (xs : List ByteArray) : memB x (xs ++ [y]) = (memB x xs || decide (x = y)) := by simp [memB]
def dupF (seen : List ByteArray) : List ByteArray → Bool
  | [] => false
  | x :: r => memB x seen || dupF (seen ++ [x]) r
theorem dropS_at {xs : List ByteArray} {i : Nat} (h : i < xs.length) : xs.drop i = xs.getD i ByteArray.empty :: xs.drop (i + 1) ∧ xs.take (i + 1) = xs.take i ++ [xs.getD i ByteArray.empty] := by
  have e : xs.getD i ByteArray.empty = xs[i] := by rw [List.getD_eq_getElem?_getD, List.getElem?_eq_getElem h]; rfl
  rw [e]
  exact ⟨List.drop_eq_getElem_cons h, by rw [List.take_add_one, List.getElem?_eq_getElem h]; rfl⟩
theorem twice_c1 (xs : List ByteArray) (hx : xs.length ≤ 9223372036854775807) : ∀ (k i : Nat) (m : List (ByteArray × Bool)), i + k = xs.length → (∀ x, Option.getD (mget (peq .str) x m) false = memB x (xs.take i)) → member_twice_c1 xs (xs.length : Int) (i : Int) m = some (dupF (xs.take i) (xs.drop i))
  | 0, i, m, e, hm => by
    rw [member_twice_c1_eq, if_neg (by simp; omega), List.drop_eq_nil_of_le (by omega)]; rfl
  | k + 1, i, m, e, hm => by
    have hl : Int.ofNat xs.length = (xs.length : Int) := rfl
    obtain ⟨d1, d2⟩ := dropS_at (xs := xs) (i := i) (by omega)
    rw [member_twice_c1_eq, if_pos (by simp; omega), gd_pos (by omega), gd_pos (by rw [hl]; omega), Int.toNat_natCast, hm, d1, dupF]
    by_cases h : memB (xs.getD i ByteArray.empty) (xs.take i) = true
    · rw [if_pos h, h]; rfl
    · rw [if_neg h, w64 (by omega) (by omega)]
      have ih := twice_c1 xs hx k (i + 1) (mset (peq .str) (xs.getD i ByteArray.empty) true m) (by omega) (fun x => by
        rw [mget_mset (fun a b => by rw [peq_str]; simp), d2, peq_str, memB_append, ← hm]
        by_cases hx : x = xs.getD i ByteArray.empty
        · rw [if_pos (by simp [hx])]; simp [hx]
        · rw [decide_eq_false hx, if_neg (by simp), Bool.or_false])
      rw [show ((i + 1 : Nat) : Int) = (i : Int) + 1 by omega] at ih
      rw [ih, d2, Bool.eq_false_iff.2 h]; rfl
theorem member_twice_spec (xs : List ByteArray) (hx : xs.length ≤ 9223372036854775807) : member_twice xs = some (dupF [] xs) := by
  rw [member_twice_eq]
  exact twice_c1 xs hx xs.length 0 [] (by omega) (fun x => by simp [mget, memB])
/-! ### 3. Records that are valid -/
def badR (r : D_api_Record) : Bool := !nmOK r.1 || decide (r.2.1 < 0) || decide (r.2.1 > 8192) || (r.2.1 == 0 && !peq (.arr 20 (.int .u8)) r.2.2.1 (shaB []))
def vld (acc : Int) (nm : List ByteArray) : List D_api_Record → Int
  | [] => if acc > 8192 then 4 else if dupF [] nm then 14 else 0
  | r :: rest => if badR r then 8 else vld (acc + r.2.1) (nm ++ [r.1]) rest
def valid (rs : List D_api_Record) : Int := if rs.length > 16 then 4 else vld 0 [] rs
def RecsOK (rs : List D_api_Record) : Prop := rs.length ≤ 9223372036854775807 ∧ ∀ r ∈ rs, r.1.size ≤ 9223372036854775807
theorem dropR_at {α : Type} {xs : List α} {i : Nat} (d : α) (h : i < xs.length) : xs.drop i = xs.getD i d :: xs.drop (i + 1) ∧ xs.take (i + 1) = xs.take i ++ [xs.getD i d] ∧ xs.getD i d ∈ xs := by
  have e : xs.getD i d = xs[i] := by rw [List.getD_eq_getElem?_getD, List.getElem?_eq_getElem h]; rfl
  rw [e]
  exact ⟨List.drop_eq_getElem_cons h, by rw [List.take_add_one, List.getElem?_eq_getElem h]; rfl, List.getElem_mem h⟩
theorem digest_nil : member_digest [] = some (shaB []) := by
  rw [member_digest_eq, Sum_spec [] Bts.nil]; rfl
theorem Of_nil : bitloftref01_Of [] = some (shaB []) := Of_spec [] (by simp)
theorem Valid_c1 (rs : List D_api_Record) (hR : RecsOK rs) (hn : rs.length ≤ 16) : ∀ (k i : Nat) (acc : Int) (nm : List ByteArray), i + k = rs.length → nm.length = i → 0 ≤ acc → acc ≤ 8192 * i → member_Valid_c1 acc rs (rs.length : Int) (i : Int) nm = some (vld acc nm (rs.drop i))
  | 0, i, acc, nm, e, hl, a0, a1 => by
    rw [member_Valid_c1_eq, if_neg (by simp; omega), List.drop_eq_nil_of_le (by omega), vld]
    by_cases h : acc > 8192
    · rw [if_pos (by simpa using h), if_pos h]
    · rw [if_neg (by simpa using h), if_neg h, member_twice_spec _ (by omega)]
      simp only [Option.bind_some]
      by_cases h : dupF [] nm = true
      · rw [if_pos h, if_pos h]
      · rw [if_neg h, if_neg h]
  | k + 1, i, acc, nm, e, hl, a0, a1 => by
    have hl' : Int.ofNat rs.length = (rs.length : Int) := rfl
    obtain ⟨d1, d2, d3⟩ := dropR_at (pzero T_api_Record : D_api_Record) (xs := rs) (i := i) (by omega)
    rw [member_Valid_c1_eq, if_pos (by simp; omega), gd_pos (by omega), gd_pos (by rw [hl']; omega), Int.toNat_natCast, d1, vld]
    generalize hr : (List.getD rs i (pzero T_api_Record) : D_api_Record) = r at d3 ⊢
    rw [member_isName_spec _ (hR.2 r d3)]
    simp only [Option.bind_some, digest_nil]
    by_cases h1 : nmOK r.1 = true
    · rw [if_neg (by simp [h1])]
      by_cases h2 : r.2.1 < 0
      · rw [if_pos (by simpa using h2), if_pos (by simp [badR, h2])]
      · rw [if_neg (by simpa using h2)]
        by_cases h3 : r.2.1 > 8192
        · rw [if_pos (by simpa using h3), if_pos (by simp [badR, h3])]
        · rw [if_neg (by simpa using h3)]
          have ih := Valid_c1 rs hR hn k (i + 1) (acc + r.2.1) (nm ++ [r.1]) (by omega) (by simp; omega) (by omega) (by omega)
          rw [show ((i + 1 : Nat) : Int) = (i : Int) + 1 by omega] at ih
          rw [w64 (x := (i : Int) + 1) (by omega) (by omega), w64 (x := acc + r.2.1) (by omega) (by omega), ih]
          by_cases h4 : r.2.1 = 0
          · rw [if_pos (by simp [h4])]
            by_cases h5 : peq (.arr 20 (.int .u8)) r.2.2.1 (shaB []) = true
            · rw [if_neg (by simp [h5]), gd_pos (by simp; omega), if_neg (by simp [badR, h1, h4, h5])]
            · rw [if_pos (by simpa using h5), if_pos (by simp [badR, h4, h5])]
          · rw [if_neg (by simpa using h4), gd_pos (by simp; omega), if_neg (by simp [badR, h1, h4]; omega)]
    · rw [if_pos (by simpa using h1), if_pos (by simp [badR, h1])]
theorem member_Valid_spec (rs : List D_api_Record) (hR : RecsOK rs) : member_Valid rs = some (valid rs) := by
  have hl : Int.ofNat rs.length = (rs.length : Int) := rfl
  rw [member_Valid_eq, hl, valid]
  by_cases h : rs.length > 16
  · rw [if_pos (by simp; omega), if_pos h]
  · rw [if_neg (by simp; omega), if_neg h]
    exact Valid_c1 rs hR (by omega) rs.length 0 0 [] (by omega) rfl (by omega) (by omega)
/-! ### 4. The reference -/
def names (rs : List D_api_Record) : List ByteArray := rs.map (·.1)
theorem names_get (rs : List D_api_Record) (i : Nat) (h : i < rs.length) : (rs.getD i (pzero T_api_Record)).1 = (names rs).getD i ByteArray.empty := by
  unfold names
  simp only [List.getD_eq_getElem?_getD, List.getElem?_map, List.getElem?_eq_getElem h, Option.map_some, Option.getD_some]
theorem memB_drop {x : ByteArray} {xs : List ByteArray} {j i : Nat} (h : j < i) (hi : i ≤ xs.length) : memB x ((xs.take i).drop j) = (decide (x = xs.getD j ByteArray.empty) || memB x ((xs.take i).drop (j + 1))) := by
  have hl : j < (xs.take i).length := by rw [List.length_take]; omega
  have e : xs.getD j ByteArray.empty = (xs.take i)[j] := by
    rw [List.getD_eq_getElem?_getD, List.getElem_take, List.getElem?_eq_getElem (by omega)]; rfl
  rw [List.drop_eq_getElem_cons hl, e]
  simp [memB]
end Go.Ab

set_option linter.unusedVariables false
set_option linter.unusedSimpArgs false
set_option maxHeartbeats 1000000
namespace Go.Ab
attribute [local irreducible] IntKind.wrap
/-! ### 1. Settings and records -/
def chk (a : D_api_Settings) : Int := if 0 ≤ a.1 ∧ a.1 ≤ 7 ∧ 16 ≤ a.2.1 ∧ a.2.1 ≤ 4096 then 0 else 2
theorem pack_Check_spec (a : D_api_Settings) : pack_Check a = some (chk a) := by
  rw [pack_Check_eq, chk]
  by_cases h1 : a.1 < 0
  · rw [if_pos (by simpa using h1), if_neg (by omega)]
  · rw [if_neg (by simpa using h1)]
    by_cases h2 : a.1 > 7
    · rw [if_pos (by simpa using h2), if_neg (by omega)]
    · rw [if_neg (by simpa using h2)]
      by_cases h3 : a.2.1 < 16
      · rw [if_pos (by simpa using h3), if_neg (by omega)]
      · rw [if_neg (by simpa using h3)]
        by_cases h4 : a.2.1 > 4096
        · rw [if_pos (by simpa using h4), if_neg (by omega)]
        · rw [if_neg (by simpa using h4), if_pos (by omega)]
def tot : List D_api_Record → Int
  | [] => 0
  | r :: rest => r.2.1 + tot rest
structure RecsV (rs : List D_api_Record) : Prop where
  len : rs.length ≤ 16
  each : ∀ r ∈ rs, 0 ≤ r.2.1 ∧ r.2.1 ≤ 8192 ∧ r.1.size ≤ 40
  tot : tot rs ≤ 8192
theorem vld_zero : ∀ (rs : List D_api_Record) (acc : Int) (nm : List ByteArray), vld acc nm rs = 0 → (∀ r ∈ rs, 0 ≤ r.2.1 ∧ r.2.1 ≤ 8192 ∧ r.1.size ≤ 40) ∧ acc + tot rs ≤ 8192
  | [], acc, nm, h => by
    simp only [vld] at h
    by_cases h1 : acc > 8192
    · rw [if_pos h1] at h; omega
    · exact ⟨fun r hr => (by cases hr), by simp only [tot]; omega⟩
  | r :: rest, acc, nm, h => by
    simp only [vld] at h
    by_cases hb : badR r = true
    · rw [if_pos hb] at h; omega
    · rw [if_neg hb] at h
      obtain ⟨h1, h2⟩ := vld_zero rest _ _ h
      simp only [badR, nmOK, Bool.or_eq_true, Bool.not_eq_true', Bool.and_eq_false_iff, decide_eq_true_eq, decide_eq_false_iff_not, not_or] at hb
      refine ⟨fun q hq => ?_, by simp only [tot]; omega⟩
      rcases List.mem_cons.1 hq with rfl | hq
      · have := hb.1.1.1.2
        exact ⟨by omega, by omega, by omega⟩
      · exact h1 q hq
theorem valid_zero {rs : List D_api_Record} (h : valid rs = 0) : RecsV rs := by
  unfold valid at h
  split at h
  · omega
  · obtain ⟨h1, h2⟩ := vld_zero rs 0 [] h
    exact ⟨by omega, h1, by omega⟩
def ask (a : D_api_Settings) (rs : List D_api_Record) : Int := if chk a ≠ 0 then chk a else valid rs
theorem ask_zero {a : D_api_Settings} {rs : List D_api_Record} (h : ask a rs = 0) : (16 ≤ a.2.1 ∧ a.2.1 ≤ 4096) ∧ RecsV rs := by
  unfold ask at h
  split at h
  · omega
  · refine ⟨?_, valid_zero h⟩
    rename_i hc
    unfold chk at hc
    split at hc
    · omega
    · omega
theorem tot_nn : ∀ (rs : List D_api_Record), (∀ r ∈ rs, 0 ≤ r.2.1 ∧ r.2.1 ≤ 8192 ∧ r.1.size ≤ 40) → 0 ≤ tot rs
  | [], _ => by simp [tot]
  | r :: rest, h => by
    have h1 := h r (by simp)
    have h2 := tot_nn rest (fun q hq => h q (by simp [hq]))
    simp only [tot]; omega
/-! ### 2. Pieces -/
def pcs (i n s : Int) : Nat → Int → List D_api_Piece
  | 0, _ => []
  | k + 1, off => if off < n then (i, (off, ((if s < n - off then s else n - off), ()))) :: pcs i n s k (off + s) else []
theorem pcs_len (i n s : Int) (hs : 1 ≤ s) : ∀ (k : Nat) (off : Int), 0 ≤ n → off ≤ n → ((pcs i n s k off).length : Int) ≤ n - off
  | 0, off, _, h => by simp [pcs]; omega
  | k + 1, off, hn, h => by
    simp only [pcs]
    by_cases h1 : off < n
    · rw [if_pos h1]
      by_cases h2 : off + s ≤ n
      · have := pcs_len i n s hs k (off + s) hn h2
        simp only [List.length_cons]; omega
      · have : pcs i n s k (off + s) = [] := by
          cases k with
          | zero => rfl
          | succ k => simp only [pcs]; rw [if_neg (by omega)]
        rw [this]; simp; omega
    · rw [if_neg h1]; simp; omega
def ap (s : Int) : Int → List D_api_Record → List D_api_Piece
  | _, [] => []
  | i, r :: rest => pcs i r.2.1 s 8200 0 ++ ap s (i + 1) rest
def szs (rs : List D_api_Record) : List Int := rs.map (·.2.1)
theorem szs_get (rs : List D_api_Record) (i : Nat) (h : i < rs.length) : (szs rs).getD i 0 = (rs.getD i (pzero T_api_Record)).2.1 := by
  unfold szs
  simp only [List.getD_eq_getElem?_getD, List.getElem?_map, List.getElem?_eq_getElem h, Option.map_some, Option.getD_some]
theorem szs_len (rs : List D_api_Record) : (szs rs).length = rs.length := by simp [szs]
theorem Pieces_c2 (s i n : Int) (xs : List Int) (v23 v24 : Int) (hs : 16 ≤ s ∧ s ≤ 4096) (hn : 0 ≤ n ∧ n ≤ 8192) (k : Nat) : ∀ (off : Int) (h : List D_api_Piece), n - off ≤ k → 0 ≤ off → off ≤ 13000 → (h.length : Int) + (k : Int) ≤ 1000000 →
    split_Pieces_c2 s i n off xs v23 v24 h = split_Pieces_c1 s xs v23 (IntKind.wrap .i64 (v24 + 1)) (h ++ pcs i n s k off) := by
  induction k with
  | zero =>
    intro off h e h0 h1 hl
    have hc : ¬ off < n := by omega
    rw [split_Pieces_c2_eq, if_neg (by simpa using hc)]
    simp only [pcs, List.append_nil]
  | succ k ih =>
    intro off h e h0 h1 hl
    rw [split_Pieces_c2_eq]
    by_cases hc : off < n
    · rw [if_pos (by simpa using hc), gd_pos (by simp; omega), w64 (x := n - off) (by omega) (by omega), w64 (x := off + s) (by omega) (by omega)]
      rw [ih (off + s) _ (by omega) (by omega) (by omega) (by simp; omega)]
      simp only [pcs, if_pos hc, List.append_assoc, List.singleton_append]
    · rw [if_neg (by simpa using hc)]
      simp only [pcs, if_neg hc, List.append_nil]
theorem Pieces_c1 (s : Int) (rs : List D_api_Record) (hs : 16 ≤ s ∧ s ≤ 4096) (hR : RecsV rs) : ∀ (k i : Nat) (h : List D_api_Piece), i + k = rs.length → (h.length : Int) ≤ 8192 * i →
    split_Pieces_c1 s (szs rs) (rs.length : Int) (i : Int) h = some (h ++ ap s i (rs.drop i), 0)
  | 0, i, h, e, hl => by
    rw [split_Pieces_c1_eq, if_neg (by simp; omega), List.drop_eq_nil_of_le (by omega)]
    simp [ap]
  | k + 1, i, h, e, hl => by
    have hlen := hR.len
    obtain ⟨d1, d2, d3⟩ := dropR_at (pzero T_api_Record : D_api_Record) (xs := rs) (i := i) (by omega)
    have hl' : Int.ofNat (szs rs).length = (rs.length : Int) := by rw [szs_len]; rfl
    have hv := hR.each _ d3
    rw [split_Pieces_c1_eq, if_pos (by simp; omega), gd_pos (by omega), gd_pos (by rw [hl']; omega), Int.toNat_natCast, szs_get rs i (by omega)]
    rw [Pieces_c2 s i _ (szs rs) _ _ hs ⟨hv.1, hv.2.1⟩ 8200 0 h (by omega) (by omega) (by omega) (by omega), w64 (by omega) (by omega)]
    have hp := pcs_len (i : Int) (rs.getD i (pzero T_api_Record)).2.1 s (by omega) 8200 0 hv.1 hv.1
    have ih := Pieces_c1 s rs hs hR k (i + 1) (h ++ pcs (i : Int) (rs.getD i (pzero T_api_Record)).2.1 s 8200 0) (by omega) (by rw [List.length_append]; omega)
    rw [show ((i + 1 : Nat) : Int) = (i : Int) + 1 by omega] at ih
    rw [ih, d1, ap, List.append_assoc]
/-! ### 3. The check of sizes -/
theorem Index_c1 (xs : List Int) (hx : ∀ x ∈ xs, 0 ≤ x) (hl : xs.length ≤ 1000) : ∀ (k i : Nat), i + k = xs.length → slices_IndexFunc_int_int_c1 xs (xs.length : Int) (i : Int) = some (-1)
  | 0, i, e => by rw [slices_IndexFunc_int_int_c1_eq, if_neg (by simp; omega)]
  | k + 1, i, e => by
    have hl' : Int.ofNat xs.length = (xs.length : Int) := rfl
    obtain ⟨d1, d2, d3⟩ := dropR_at (0 : Int) (xs := xs) (i := i) (by omega)
    have := hx _ d3
    have ih := Index_c1 xs hx hl k (i + 1) (by omega)
    rw [show ((i + 1 : Nat) : Int) = (i : Int) + 1 by omega] at ih
    rw [slices_IndexFunc_int_int_c1_eq, if_pos (by simp; omega), gd_pos (by omega), gd_pos (by rw [hl']; omega), Int.toNat_natCast, split_check_1_eq]
    simp only [Option.bind_some]
    rw [if_neg (by simp only [decide_eq_true_eq]; omega), w64 (by omega) (by omega), ih]
theorem check_c1 (rs : List D_api_Record) (hR : RecsV rs) : ∀ (k i : Nat) (acc : Int), i + k = rs.length → 0 ≤ acc → acc + tot (rs.drop i) ≤ 8192 → split_check_c1 acc (szs rs) (rs.length : Int) (i : Int) = some 0
  | 0, i, acc, e, h0, h1 => by rw [split_check_c1_eq, if_neg (by simp; omega)]
  | k + 1, i, acc, e, h0, h1 => by
    have hlen := hR.len
    have hl' : Int.ofNat (szs rs).length = (rs.length : Int) := by rw [szs_len]; rfl
    obtain ⟨d1, d2, d3⟩ := dropR_at (pzero T_api_Record : D_api_Record) (xs := rs) (i := i) (by omega)
    have hv := hR.each _ d3
    have ht := tot_nn (rs.drop (i + 1)) (fun r hr => hR.each r (List.mem_of_mem_drop hr))
    rw [d1, tot] at h1
    rw [split_check_c1_eq, if_pos (by simp; omega), gd_pos (by omega), gd_pos (by rw [hl']; omega), Int.toNat_natCast, szs_get rs i (by omega)]
    rw [if_neg (show ¬ (8193 : Int) < (rs.getD i (pzero T_api_Record)).2.1 by omega), w64 (by omega) (by omega), if_neg (by simp only [decide_eq_true_eq]; omega), w64 (by omega) (by omega)]
    have ih := check_c1 rs hR k (i + 1) (acc + (rs.getD i (pzero T_api_Record)).2.1) (by omega) (by omega) (by omega)
    rw [show ((i + 1 : Nat) : Int) = (i : Int) + 1 by omega] at ih
    exact ih
theorem Pieces_spec (s : Int) (rs : List D_api_Record) (hs : 16 ≤ s ∧ s ≤ 4096) (hR : RecsV rs) : split_Pieces (szs rs) s = some (ap s 0 rs, 0) := by
  have hlen := hR.len
  have hl' : Int.ofNat (szs rs).length = (rs.length : Int) := by rw [szs_len]; rfl
  have hc : split_check (szs rs) = some 0 := by
    have hi := Index_c1 (szs rs) (fun x hx => by
      obtain ⟨r, hr, rfl⟩ := List.mem_map.1 hx
      exact (hR.each r hr).1) (by rw [szs_len]; omega) (szs rs).length 0 (by omega)
    have hi' : slices_IndexFunc_int_int (szs rs) = some (-1) := by rw [slices_IndexFunc_int_int_eq]; exact hi
    rw [split_check_eq, slices_ContainsFunc_int_int_eq, hi']
    simp only [Option.bind_some]
    rw [if_neg (by simp), hl', if_neg (by simp; omega)]
    exact check_c1 rs hR rs.length 0 0 (by omega) (by omega) (by have := hR.tot; simp; omega)
  rw [split_Pieces_eq, hc]
  simp only [Option.bind_some]
  rw [if_neg (by simp), if_neg (by simp; omega), if_neg (by simp; omega), hl']
  exact Pieces_c1 s rs hs hR rs.length 0 [] (by omega) (by simp)
end Go.Ab

set_option linter.unusedVariables false
set_option linter.unusedSimpArgs false
set_option maxHeartbeats 1000000
namespace Go.Ab
attribute [local irreducible] IntKind.wrap
/-! ### 4. How many -/
theorem pcs_cnt (i n s : Int) : ∀ (k : Nat) (off : Int), (pcs i n s k off).length = (pcs 0 n s k off).length
  | 0, off => rfl
  | k + 1, off => by
    simp only [pcs]
    by_cases h : off < n
    · rw [if_pos h, if_pos h]; simp only [List.length_cons, pcs_cnt i n s k]
    · rw [if_neg h, if_neg h]
def pcn (s : Int) (r : D_api_Record) : Int := ((pcs 0 r.2.1 s 8200 0).length : Int)
def lens (s : Int) (rs : List D_api_Record) : List Int := rs.map (pcn s)
def sumI : List Int → Int
  | [] => 0
  | x :: r => x + sumI r
theorem ap_len (s : Int) : ∀ (rs : List D_api_Record) (i : Int), ((ap s i rs).length : Int) = sumI (lens s rs)
  | [], i => rfl
  | r :: rest, i => by
    have := ap_len s rest (i + 1)
    simp only [ap, List.length_append, lens, List.map_cons, sumI, pcs_cnt i, pcn] at this ⊢
    omega
theorem lens_b (s : Int) (hs : 16 ≤ s) (rs : List D_api_Record) (hR : RecsV rs) : ∀ x ∈ lens s rs, 0 ≤ x ∧ x ≤ 9000 := by
  intro x hx
  obtain ⟨r, hr, rfl⟩ := List.mem_map.1 hx
  have hv := hR.each r hr
  have := pcs_len 0 r.2.1 s (by omega) 8200 0 hv.1 hv.1
  unfold pcn
  omega
/-! ### 5. Sizes by index -/
def inc (h : List Int) (p : D_api_Piece) : List Int := h.set p.1.toNat (h.getD p.1.toNat 0 + 1)
theorem inc_len (h : List Int) (p : D_api_Piece) : (inc h p).length = h.length := by simp [inc]
theorem fold_pcs (P R : List Int) (n s : Int) (k : Nat) : ∀ (c off : Int), (pcs (P.length : Int) n s k off).foldl inc (P ++ c :: R) = P ++ (c + ((pcs 0 n s k off).length : Int)) :: R := by
  induction k with
  | zero => intro c off; simp [pcs]
  | succ k ih =>
    intro c off
    simp only [pcs]
    by_cases h : off < n
    · rw [if_pos h, if_pos h, List.foldl_cons]
      have : inc (P ++ c :: R) ((P.length : Int), (off, ((if s < n - off then s else n - off), ()))) = P ++ (c + 1) :: R := by
        simp only [inc, Int.toNat_natCast]
        rw [get_mid, set_mid]
      rw [this, ih]
      simp only [List.length_cons]
      congr 2; omega
    · rw [if_neg h, if_neg h]; simp
theorem fold_ap (s : Int) : ∀ (rs : List D_api_Record) (P : List Int), (ap s (P.length : Int) rs).foldl inc (P ++ List.replicate rs.length 0) = P ++ lens s rs
  | [], P => by simp [ap, lens]
  | r :: rest, P => by
    rw [ap, List.foldl_append, List.length_cons, List.replicate_succ, fold_pcs]
    have ih := fold_ap s rest (P ++ [pcn s r])
    simp only [List.length_append, List.length_cons, List.length_nil, List.append_assoc, List.singleton_append] at ih
    rw [show ((P.length + (0 + 1) : Nat) : Int) = (P.length : Int) + 1 by omega] at ih
    simp only [Int.zero_add]
    exact ih
theorem pcs_idx (i n s : Int) (k : Nat) : ∀ (off : Int), ∀ p ∈ pcs i n s k off, p.1 = i := by
  induction k with
  | zero => intro off p hp; simp [pcs] at hp
  | succ k ih =>
    intro off p hp
    simp only [pcs] at hp
    split at hp
    · rcases List.mem_cons.1 hp with rfl | hp
      · rfl
      · exact ih _ p hp
    · cases hp
theorem ap_idx (s : Int) : ∀ (rs : List D_api_Record) (i : Int), ∀ p ∈ ap s i rs, i ≤ p.1 ∧ p.1 < i + (rs.length : Int)
  | [], i, p, hp => by cases hp
  | r :: rest, i, p, hp => by
    rw [ap] at hp
    rcases List.mem_append.1 hp with hp | hp
    · have := pcs_idx i _ s 8200 0 p hp
      simp only [List.length_cons]; omega
    · have := ap_idx s rest (i + 1) p hp
      simp only [List.length_cons]; omega
theorem ap_small (s : Int) (hs : 16 ≤ s) (rs : List D_api_Record) (hR : RecsV rs) : ((ap s 0 rs).length : Int) ≤ 100000 := by
  have h1 := ap_len s rs 0
  have h2 : ∀ xs : List Int, (∀ x ∈ xs, 0 ≤ x ∧ x ≤ 9000) → sumI xs ≤ 9000 * (xs.length : Int) := by
    intro xs
    induction xs with
    | nil => intro _; simp [sumI]
    | cons x xs ih =>
      intro h
      have := h x (by simp)
      have := ih (fun y hy => h y (by simp [hy]))
      simp only [sumI, List.length_cons]; omega
  have h3 := h2 (lens s rs) (lens_b s hs rs hR)
  have h4 := hR.tot
  have h5 : ∀ rs : List D_api_Record, (∀ r ∈ rs, 0 ≤ r.2.1 ∧ r.2.1 ≤ 8192 ∧ r.1.size ≤ 40) → sumI (lens s rs) ≤ tot rs := by
    intro rs
    induction rs with
    | nil => intro _; simp [lens, sumI, tot]
    | cons r rs ih =>
      intro h
      have hv := h r (by simp)
      have := ih (fun y hy => h y (by simp [hy]))
      have hp := pcs_len 0 r.2.1 s (by omega) 8200 0 hv.1 hv.1
      simp only [lens, List.map_cons, sumI, tot, pcn] at this ⊢
      omega
  have := h5 rs hR.each
  omega
end Go.Ab

set_option linter.unusedVariables false
set_option linter.unusedSimpArgs false
set_option maxHeartbeats 1000000
namespace Go.Ab
attribute [local irreducible] IntKind.wrap
/-! ### 6. Lengths -/
def hsum : List D_api_Record → Int
  | [] => 0
  | r :: rest => 23 + (r.1.size : Int) + hsum rest
theorem hsum_b : ∀ (rs : List D_api_Record), (∀ r ∈ rs, 0 ≤ r.2.1 ∧ r.2.1 ≤ 8192 ∧ r.1.size ≤ 40) → 0 ≤ hsum rs ∧ hsum rs ≤ 100 * (rs.length : Int)
  | [], _ => by simp [hsum]
  | r :: rest, h => by
    have h1 := h r (by simp)
    have h2 := hsum_b rest (fun q hq => h q (by simp [hq]))
    simp only [hsum, List.length_cons]; omega
def gsum (g : Int → Int) : List D_api_Piece → Int
  | [] => 0
  | p :: r => 41 + g p.2.2.1 + gsum g r
theorem gsum_append (g : Int → Int) : ∀ (a b : List D_api_Piece), gsum g (a ++ b) = gsum g a + gsum g b
  | [], b => by simp [gsum]
  | p :: a, b => by simp only [List.cons_append, gsum, gsum_append g a b]; omega
/-- A way to count a piece. -/
def GOK (g : Int → Int) : Prop := ∀ m, 0 ≤ m → m ≤ 8192 → 0 ≤ g m ∧ g m ≤ 8192
theorem pcs_m (i n s : Int) (hs : 1 ≤ s) (hn : n ≤ 8192) (k : Nat) : ∀ (off : Int), 0 ≤ off → ∀ p ∈ pcs i n s k off, 0 ≤ p.2.2.1 ∧ p.2.2.1 ≤ 8192 := by
  induction k with
  | zero => intro off h p hp; simp [pcs] at hp
  | succ k ih =>
    intro off h p hp
    simp only [pcs] at hp
    split at hp
    · rcases List.mem_cons.1 hp with rfl | hp
      · simp only; split <;> omega
      · exact ih _ (by omega) p hp
    · cases hp
theorem ap_m (s : Int) (hs : 1 ≤ s) : ∀ (rs : List D_api_Record) (i : Int), (∀ r ∈ rs, 0 ≤ r.2.1 ∧ r.2.1 ≤ 8192 ∧ r.1.size ≤ 40) → ∀ p ∈ ap s i rs, 0 ≤ p.2.2.1 ∧ p.2.2.1 ≤ 8192
  | [], i, h, p, hp => by cases hp
  | r :: rest, i, h, p, hp => by
    rw [ap] at hp
    rcases List.mem_append.1 hp with hp | hp
    · exact pcs_m i _ s hs (h r (by simp)).2.1 8200 0 (by omega) p hp
    · exact ap_m s hs rest (i + 1) (fun q hq => h q (by simp [hq])) p hp
theorem gsum_b (g : Int → Int) (hg : GOK g) : ∀ (ps : List D_api_Piece), (∀ p ∈ ps, 0 ≤ p.2.2.1 ∧ p.2.2.1 ≤ 8192) → 0 ≤ gsum g ps ∧ gsum g ps ≤ 9000 * (ps.length : Int)
  | [], _ => by simp [gsum]
  | p :: r, h => by
    have h1 := h p (by simp)
    have h2 := gsum_b g hg r (fun q hq => h q (by simp [hq]))
    have h3 := hg _ h1.1 h1.2
    simp only [gsum, List.length_cons]; omega
def gG : Int → Int := fun m => m
def gL : Int → Int := fun m => if (4 : Int) < m then 4 else m
theorem gG_ok : GOK gG := fun m h0 h1 => ⟨h0, h1⟩
theorem gL_ok : GOK gL := fun m h0 h1 => by unfold gL; split <;> omega
def gOf (b : Bool) : Int → Int := if b then gL else gG
theorem gOf_ok (b : Bool) : GOK (gOf b) := by cases b; exact gG_ok; exact gL_ok
theorem wsz (x : Int) (h : 0 ≤ x ∧ x ≤ 100) : IntKind.wrap .i64 (IntKind.wrap .i64 (IntKind.wrap .i64 (1 + x) + 2) + 20) = 23 + x := by
  rw [w64 (x := 1 + x) (by omega) (by omega), w64 (x := 1 + x + 2) (by omega) (by omega), w64 (by omega) (by omega)]; omega
/-- The length of an archive, so counted. -/
def lng (g : Int → Int) (s : Int) (rs : List D_api_Record) : Int := 28 + hsum rs + gsum g (ap s 0 rs)
end Go.Ab

set_option linter.unusedVariables false
set_option linter.unusedSimpArgs false
set_option maxHeartbeats 1000000
namespace Go.Ab
attribute [local irreducible] IntKind.wrap
/-! ### 7. The reference's lengths -/
/-! ### 8. The law -/
theorem peqL_refl {α : Type} (eq : α → α → Bool) (he : ∀ x, eq x x = true) : ∀ xs : List α, peqL eq xs xs = true
  | [] => rfl
  | x :: xs => by simp only [peqL, he, peqL_refl eq he xs, Bool.and_self]
theorem peq_rec (r : D_api_Record) : peq T_api_Record r r = true := by
  simp only [peq, beq_self_eq_true, decide_true, Bool.true_and, Bool.and_true]
  exact peqL_refl _ (fun x => by simp [peq]) _
theorem recs_ok {rs : List D_api_Record} (h : wfP (.slice T_api_Record) rs) : RecsOK rs := by
  refine ⟨?_, fun r hr => ?_⟩
  · have := h.1; simp [Go.maxLen] at this; omega
  · have := (h.2 r hr).1; simp [wfP, Go.maxLen] at this; omega
end Go.Ab

set_option linter.unusedVariables false
set_option linter.unusedSimpArgs false
set_option maxHeartbeats 1000000
namespace Go.Ab
attribute [local irreducible] IntKind.wrap
/-! ### 1. A head's bytes -/
def recB (r : D_api_Record) : List Int := (([IntKind.wrap .u8 (r.1.size : Int)] ++ ofStr r.1) ++ [IntKind.wrap .u8 (Int.fdiv r.2.1 256), IntKind.wrap .u8 r.2.1]) ++ List.take 20 (List.drop 0 r.2.2.1)
def recsB : List D_api_Record → List Int
  | [] => []
  | r :: rest => recB r ++ recsB rest
def frontB (a : D_api_Settings) (n : Int) : List Int := [66, 76, 70, 1, IntKind.wrap .u8 a.1, IntKind.wrap .u8 (Int.fdiv a.2.1 256), IntKind.wrap .u8 a.2.1, IntKind.wrap .u8 n]
def bodyB (a : D_api_Settings) (rs : List D_api_Record) : List Int := frontB a rs.length ++ recsB rs
def headB (a : D_api_Settings) (rs : List D_api_Record) : List Int := bodyB a rs ++ shaB (bodyB a rs)
/-- Sums of twenty bytes. -/
def SumsOK (rs : List D_api_Record) : Prop := ∀ r ∈ rs, r.2.2.1.length = 20 ∧ Bts r.2.2.1
theorem ofStr_bts (s : ByteArray) : Bts (ofStr s) := by
  intro x hx
  obtain ⟨b, _, rfl⟩ := List.mem_map.1 hx
  have := b.toNat_lt
  omega
theorem recB_len (r : D_api_Record) (h : r.2.2.1.length = 20) : (recB r).length = 23 + r.1.size := by
  simp only [recB, List.length_append, List.length_cons, List.length_nil, ofStr_len, List.length_take, List.drop_zero, h]
  omega
theorem recB_bts (r : D_api_Record) (h : Bts r.2.2.1) : Bts (recB r) :=
  Bts.append (Bts.append (Bts.append (Bts.cons (w8_b _) Bts.nil) (ofStr_bts _)) (Bts.cons (w8_b _) (Bts.cons (w8_b _) Bts.nil))) ((h.drop 0).take 20)
theorem recsB_len : ∀ (rs : List D_api_Record), SumsOK rs → ((recsB rs).length : Int) = hsum rs
  | [], _ => rfl
  | r :: rest, h => by
    have h1 := recB_len r (h r (by simp)).1
    have h2 := recsB_len rest (fun q hq => h q (by simp [hq]))
    simp only [recsB, hsum, List.length_append]
    omega
theorem recsB_bts : ∀ (rs : List D_api_Record), SumsOK rs → Bts (recsB rs)
  | [], _ => Bts.nil
  | r :: rest, h => (recB_bts r (h r (by simp)).2).append (recsB_bts rest (fun q hq => h q (by simp [hq])))
theorem frontB_bts (a : D_api_Settings) (n : Int) : Bts (frontB a n) := by
  unfold frontB
  repeat first | exact Bts.nil | refine Bts.cons (w8_b _) ?_ | refine Bts.cons (by omega) ?_
theorem bodyB_bts (a : D_api_Settings) (rs : List D_api_Record) (h : SumsOK rs) : Bts (bodyB a rs) := (frontB_bts _ _).append (recsB_bts rs h)
theorem headB_bts (a : D_api_Settings) (rs : List D_api_Record) (h : SumsOK rs) : Bts (headB a rs) := (bodyB_bts a rs h).append (shaB_bts _)
theorem headB_len (a : D_api_Settings) (rs : List D_api_Record) (h : SumsOK rs) : ((headB a rs).length : Int) = 28 + hsum rs := by
  have := recsB_len rs h
  simp only [headB, bodyB, List.length_append, shaB_len]
  have : (frontB a rs.length).length = 8 := rfl
  omega
/-! ### 2. The program writes it -/
theorem Write_c1 (rs : List D_api_Record) (hR : RecsV rs) (hS : SumsOK rs) : ∀ (k i : Nat) (h : List Int), i + k = rs.length → (h.length : Int) ≤ 100 * i → member_Write_c1 rs (rs.length : Int) (i : Int) h = some (h ++ recsB (rs.drop i), 0)
  | 0, i, h, e, hl => by
    rw [member_Write_c1_eq, if_neg (by simp; omega), List.drop_eq_nil_of_le (by omega)]; simp [recsB]
  | k + 1, i, h, e, hl => by
    have hlen := hR.len
    have hl' : Int.ofNat rs.length = (rs.length : Int) := rfl
    obtain ⟨d1, d2, d3⟩ := dropR_at (pzero T_api_Record : D_api_Record) (xs := rs) (i := i) (by omega)
    have hv := hR.each _ d3
    have hs := hS _ d3
    have hb := recB_len _ hs.1
    rw [member_Write_c1_eq, if_pos (by simp; omega), gd_pos (by omega), gd_pos (by rw [hl']; omega), Int.toNat_natCast]
    generalize (rs.getD i (pzero T_api_Record) : D_api_Record) = r at *
    have e1 : (((h ++ [IntKind.wrap .u8 (Int.ofNat r.1.size)]) ++ ofStr r.1) ++ [IntKind.wrap .u8 (Int.fdiv r.2.1 256), IntKind.wrap .u8 r.2.1]) ++ List.take 20 (List.drop 0 r.2.2.1) = h ++ recB r := by
      simp only [recB, List.append_assoc]; rfl
    have ho := ofStr_len r.1
    rw [gd_pos (by simp only [List.length_append, List.length_cons, List.length_nil]; omega), gd_pos (by simp only [List.length_append, List.length_cons, List.length_nil]; omega), gd_pos (by omega), gd_pos (by simp only [List.length_append, List.length_cons, List.length_nil]; omega), e1, gd_pos (by rw [List.length_append]; omega), w64 (by omega) (by omega)]
    have ih := Write_c1 rs hR hS k (i + 1) (h ++ recB r) (by omega) (by rw [List.length_append]; omega)
    rw [show ((i + 1 : Nat) : Int) = (i : Int) + 1 by omega] at ih
    rw [ih, d1, recsB, List.append_assoc]
theorem member_Write_spec (rs : List D_api_Record) (hR : RecsOK rs) (hS : SumsOK rs) : member_Write rs = some (if valid rs ≠ 0 then ([], valid rs) else (recsB rs, 0)) := by
  rw [member_Write_eq, member_Valid_spec rs hR]
  simp only [Option.bind_some]
  by_cases h : valid rs = 0
  · rw [if_neg (by simp [h]), if_neg (by simp [h])]
    exact Write_c1 rs (valid_zero h) hS rs.length 0 [] (by omega) (by simp)
  · rw [if_pos (by simpa using h), if_pos h]
theorem pack_Head_spec (a : D_api_Settings) (rs : List D_api_Record) (hR : RecsOK rs) (hS : SumsOK rs) : pack_Head a rs = some (if ask a rs ≠ 0 then ([], ask a rs) else (headB a rs, 0)) := by
  rw [pack_Head_eq, pack_Check_spec, member_Write_spec rs hR hS]
  simp only [Option.bind_some]
  by_cases h : chk a = 0
  · rw [if_neg (by simp [h])]
    have ha : ask a rs = valid rs := by unfold ask; rw [if_neg (by simp [h])]
    by_cases hv : valid rs = 0
    · rw [if_neg (show ¬ valid rs ≠ 0 by simp [hv]), if_neg (by simp), if_neg (by rw [ha]; simp [hv])]
      have hV := valid_zero hv
      have hlen := hV.len
      have hb := hsum_b rs hV.each
      have hr := recsB_len rs hS
      have hbl : (bodyB a rs).length = 8 + (recsB rs).length := by simp only [bodyB, List.length_append]; rfl
      have e1 : [(66 : Int), 76, 70, 1, IntKind.wrap .u8 a.1, IntKind.wrap .u8 (Int.fdiv a.2.1 256), IntKind.wrap .u8 a.2.1, IntKind.wrap .u8 (Int.ofNat rs.length)] ++ recsB rs = bodyB a rs := rfl
      simp only
      rw [gd_pos (by omega), e1, gd_pos (by omega), Sum_spec _ (bodyB_bts a rs hS), if_pos (by omega)]
      simp only [Option.bind_some]
      have e2 : List.take 20 (List.drop 0 (shaB (bodyB a rs))) = shaB (bodyB a rs) := by
        rw [List.drop_zero, List.take_of_length_le (by rw [shaB_len]; omega)]
      rw [e2, gd_pos (by rw [List.length_append, shaB_len]; omega)]
      rfl
    · rw [if_pos hv, if_pos (by simpa using hv), if_pos (by rw [ha]; exact hv), ha]
  · have ha : ask a rs = chk a := by unfold ask; rw [if_pos h]
    rw [if_pos (by simpa using h), if_pos (by rw [ha]; exact h), ha]
/-! ### 3. The reference -/
theorem Bytes_c1 (rs : List D_api_Record) (hR : RecsV rs) (hS : SumsOK rs) : ∀ (k i : Nat) (h : List Int), i + k = rs.length → (h.length : Int) ≤ 100 * i → bitloftref28_Bytes_c1 rs (i : Int) h = some (h ++ recsB (rs.drop i))
  | 0, i, h, e, hl => by
    have hl' : Int.ofNat rs.length = (rs.length : Int) := rfl
    rw [bitloftref28_Bytes_c1_eq, if_neg (by simp; omega), List.drop_eq_nil_of_le (by omega)]; simp [recsB]
  | k + 1, i, h, e, hl => by
    have hlen := hR.len
    have hl' : Int.ofNat rs.length = (rs.length : Int) := rfl
    obtain ⟨d1, d2, d3⟩ := dropR_at (pzero T_api_Record : D_api_Record) (xs := rs) (i := i) (by omega)
    have hv := hR.each _ d3
    have hs := hS _ d3
    have hb := recB_len _ hs.1
    rw [bitloftref28_Bytes_c1_eq, if_pos (by simp; omega), gd_pos (by omega), gd_pos (by rw [hl']; omega), Int.toNat_natCast]
    generalize (rs.getD i (pzero T_api_Record) : D_api_Record) = r at *
    have e1 : (((h ++ [IntKind.wrap .u8 (Int.ofNat r.1.size)]) ++ ofStr r.1) ++ [IntKind.wrap .u8 (Int.fdiv r.2.1 256), IntKind.wrap .u8 r.2.1]) ++ List.take 20 (List.drop 0 r.2.2.1) = h ++ recB r := by
      simp only [recB, List.append_assoc]; rfl
    have ho := ofStr_len r.1
    rw [gd_pos (by simp only [List.length_append, List.length_cons, List.length_nil]; omega), gd_pos (by simp only [List.length_append, List.length_cons, List.length_nil]; omega), gd_pos (by omega), gd_pos (by simp only [List.length_append, List.length_cons, List.length_nil]; omega), e1, gd_pos (by rw [List.length_append]; omega), w64 (by omega) (by omega)]
    have ih := Bytes_c1 rs hR hS k (i + 1) (h ++ recB r) (by omega) (by rw [List.length_append]; omega)
    rw [show ((i + 1 : Nat) : Int) = (i : Int) + 1 by omega] at ih
    rw [ih, d1, recsB, List.append_assoc]
theorem rBytes_spec (a : D_api_Settings) (rs : List D_api_Record) (hR : RecsV rs) (hS : SumsOK rs) : bitloftref30_Bytes a rs = some (headB a rs) := by
  have hb := hsum_b rs hR.each
  have hlen := hR.len
  have hr := recsB_len rs hS
  have hbl : (bodyB a rs).length = 8 + (recsB rs).length := by simp only [bodyB, List.length_append]; rfl
  have h1 : bitloftref28_Bytes rs = some (recsB rs) := by
    rw [bitloftref28_Bytes_eq]; exact Bytes_c1 rs hR hS rs.length 0 [] (by omega) (by simp)
  rw [bitloftref30_Bytes_eq, bitloftref30_Front_eq, gd_pos (by omega), h1]
  simp only [Option.bind_some]
  have e1 : [(66 : Int), 76, 70, 1, IntKind.wrap .u8 a.1, IntKind.wrap .u8 (Int.fdiv a.2.1 256), IntKind.wrap .u8 a.2.1, IntKind.wrap .u8 (Int.ofNat rs.length)] ++ recsB rs = bodyB a rs := rfl
  rw [e1, gd_pos (by omega), Of_spec _ (by omega)]
  simp only [Option.bind_some]
  have e2 : List.take 20 (List.drop 0 (shaB (bodyB a rs))) = shaB (bodyB a rs) := by
    rw [List.drop_zero, List.take_of_length_le (by rw [shaB_len]; omega)]
  rw [e2, gd_pos (by rw [List.length_append, shaB_len]; omega)]
  rfl
end Go.Ab

set_option linter.unusedVariables false
set_option linter.unusedSimpArgs false
set_option maxHeartbeats 1000000
namespace Go.Ab
attribute [local irreducible] IntKind.wrap
/-! ### 4. Pieces by division -/
theorem pcs_ceil (i n s : Int) (hs : 1 ≤ s) (k : Nat) : ∀ off : Int, n - off ≤ k → off ≤ n + s - 1 → ((pcs i n s k off).length : Int) = (n - off + s - 1) / s := by
  induction k with
  | zero =>
    intro off h h1
    simp only [pcs, List.length_nil]
    exact (Int.ediv_eq_zero_of_lt (by omega) (by omega)).symm
  | succ k ih =>
    intro off h h1
    simp only [pcs]
    by_cases hc : off < n
    · rw [if_pos hc, List.length_cons]
      have e := ih (off + s) (by omega) (by omega)
      have : (n - off + s - 1) = (n - (off + s) + s - 1) + 1 * s := by omega
      rw [this, Int.add_mul_ediv_right _ _ (by omega), ← e]
      omega
    · rw [if_neg hc]
      exact (Int.ediv_eq_zero_of_lt (by omega) (by omega)).symm
theorem pcs_gsum (i n s : Int) (hs : 1 ≤ s) (k : Nat) : ∀ off : Int, n - off ≤ k → off ≤ n → gsum gG (pcs i n s k off) = 41 * ((pcs i n s k off).length : Int) + (n - off) := by
  induction k with
  | zero => intro off h h1; simp [pcs, gsum]; omega
  | succ k ih =>
    intro off h h1
    simp only [pcs]
    by_cases hc : off < n
    · rw [if_pos hc, List.length_cons, gsum]
      by_cases h2 : off + s ≤ n
      · rw [ih (off + s) (by omega) h2]
        simp only [gG]; split <;> omega
      · have : pcs i n s k (off + s) = [] := by
          cases k with
          | zero => rfl
          | succ k => simp only [pcs]; rw [if_neg (by omega)]
        rw [this]
        simp only [gG, gsum, List.length_nil]; split <;> omega
    · rw [if_neg hc]; simp [gsum]; omega
/-! ### 5. The program's longest length -/
/-! ### 6. The reference's pieces -/
end Go.Ab

set_option linter.unusedVariables false
set_option linter.unusedSimpArgs false
set_option maxHeartbeats 1000000
namespace Go.Ab
attribute [local irreducible] IntKind.wrap
theorem sums_ok {rs : List D_api_Record} (h : wfP (.slice T_api_Record) rs) : SumsOK rs :=
  fun r hr => ⟨(h.2 r hr).2.2.1.1, Bts.of_wf (h.2 r hr).2.2.1.2⟩
end Go.Ab

set_option linter.unusedVariables false
set_option linter.unusedSimpArgs false
set_option maxHeartbeats 1000000
namespace Go.Ab
attribute [local irreducible] IntKind.wrap
/-! ### 1. Costs in closed form -/
def cG (s n : Int) : Int := 41 * ((n + s - 1) / s) + n
def cL (s m : Int) : Int := if m ≤ 0 then 0 else 45 * ((m - 1) / s) + 41 + (if 4 < (m - 1) % s + 1 then 4 else (m - 1) % s + 1)
theorem gL_eq (m : Int) : gL m = if (4 : Int) < m then 4 else m := rfl
theorem pcs_gsumL (i n s : Int) (hs : 4 ≤ s) (k : Nat) : ∀ off : Int, n - off ≤ k → gsum gL (pcs i n s k off) = cL s (n - off) := by
  induction k with
  | zero => intro off h; simp only [pcs, gsum, cL]; rw [if_pos (by omega)]
  | succ k ih =>
    intro off h
    simp only [pcs]
    by_cases hc : off < n
    · rw [if_pos hc, gsum, ih (off + s) (by omega), gL_eq]
      by_cases h2 : off + s < n
      · have e1 : (n - off - 1) / s = (n - (off + s) - 1) / s + 1 := by
          have : n - off - 1 = (n - (off + s) - 1) + 1 * s := by omega
          rw [this, Int.add_mul_ediv_right _ _ (by omega)]
        have e2 : (n - off - 1) % s = (n - (off + s) - 1) % s := by
          have : n - off - 1 = (n - (off + s) - 1) + 1 * s := by omega
          rw [this, Int.add_mul_emod_self_right]
        have e3 : (if (4 : Int) < s then (4 : Int) else s) = 4 := by split <;> omega
        unfold cL
        rw [if_neg (show ¬ n - (off + s) ≤ 0 by omega), if_neg (show ¬ n - off ≤ 0 by omega), e1, e2, if_pos (show s < n - off by omega), e3]
        omega
      · have e1 : (n - off - 1) / s = 0 := Int.ediv_eq_zero_of_lt (by omega) (by omega)
        have e2 : (n - off - 1) % s = n - off - 1 := Int.emod_eq_of_lt (by omega) (by omega)
        have e3 : (if s < n - off then s else n - off) = n - off := by split <;> omega
        unfold cL
        rw [if_pos (show n - (off + s) ≤ 0 by omega), if_neg (show ¬ n - off ≤ 0 by omega), e1, e2]
        simp only [e3]
        split <;> split <;> omega
    · rw [if_neg hc]; simp only [gsum, cL]; rw [if_pos (by omega)]
/-- The cost of all records. -/
def csum (c : Int → Int) : List D_api_Record → Int
  | [] => 0
  | r :: rest => c r.2.1 + csum c rest
theorem ap_costG (s : Int) (hs : 16 ≤ s) : ∀ (rs : List D_api_Record) (i : Int), (∀ r ∈ rs, 0 ≤ r.2.1 ∧ r.2.1 ≤ 8192 ∧ r.1.size ≤ 40) → gsum gG (ap s i rs) = csum (cG s) rs
  | [], i, _ => rfl
  | r :: rest, i, h => by
    have h1 := h r (by simp)
    rw [ap, gsum_append, ap_costG s hs rest (i + 1) (fun q hq => h q (by simp [hq])), csum, pcs_gsum i r.2.1 s (by omega) 8200 0 (by omega) h1.1, pcs_ceil i r.2.1 s (by omega) 8200 0 (by omega) (by omega), cG]
    simp only [Int.sub_zero]
theorem ap_costL (s : Int) (hs : 16 ≤ s) : ∀ (rs : List D_api_Record) (i : Int), (∀ r ∈ rs, 0 ≤ r.2.1 ∧ r.2.1 ≤ 8192 ∧ r.1.size ≤ 40) → gsum gL (ap s i rs) = csum (cL s) rs
  | [], i, _ => rfl
  | r :: rest, i, h => by
    have h1 := h r (by simp)
    rw [ap, gsum_append, ap_costL s hs rest (i + 1) (fun q hq => h q (by simp [hq])), csum, pcs_gsumL i r.2.1 s (by omega) 8200 0 (by omega)]
    simp only [Int.sub_zero]
theorem ap_count (s : Int) (hs : 16 ≤ s) : ∀ (rs : List D_api_Record) (i : Int), (∀ r ∈ rs, 0 ≤ r.2.1 ∧ r.2.1 ≤ 8192 ∧ r.1.size ≤ 40) → ((ap s i rs).length : Int) = csum (fun n => (n + s - 1) / s) rs
  | [], i, _ => rfl
  | r :: rest, i, h => by
    have h1 := h r (by simp)
    rw [ap, List.length_append, csum, ← ap_count s hs rest (i + 1) (fun q hq => h q (by simp [hq]))]
    have := pcs_ceil i r.2.1 s (by omega) 8200 0 (by omega) (by omega)
    simp only [Int.sub_zero] at this
    omega
theorem csum_le {c d : Int → Int} : ∀ (rs : List D_api_Record), (∀ r ∈ rs, c r.2.1 ≤ d r.2.1) → csum c rs ≤ csum d rs
  | [], _ => Int.le_refl _
  | r :: rest, h => by
    have h1 := h r (by simp)
    have h2 := csum_le rest (fun q hq => h q (by simp [hq]))
    simp only [csum]; omega
/-! ### 2. Greater blocks, greater sizes -/
theorem ceil_anti {x y n : Int} (hx : 1 ≤ x) (h : x ≤ y) (hn : 0 ≤ n) : (n + y - 1) / y ≤ (n + x - 1) / x := by
  rw [Int.le_ediv_iff_mul_le (by omega)]
  have h0 : 0 ≤ (n + y - 1) / y := Int.ediv_nonneg (by omega) (by omega)
  have h1 : (n + y - 1) / y * y ≤ n + y - 1 := Int.ediv_mul_le _ (by omega)
  generalize (n + y - 1) / y = q at *
  by_cases hq : q = 0
  · subst hq; omega
  · have h2 : (q - 1) * x ≤ (q - 1) * y := Int.mul_le_mul_of_nonneg_left h (by omega)
    rw [Int.sub_mul, Int.sub_mul] at h2
    omega
theorem cG_anti {x y n : Int} (hx : 1 ≤ x) (h : x ≤ y) (hn : 0 ≤ n) : cG y n ≤ cG x n := by
  have := ceil_anti hx h hn
  unfold cG; omega
theorem cL_anti {x y m : Int} (hx : 4 ≤ x) (h : x ≤ y) : cL y m ≤ cL x m := by
  unfold cL
  by_cases hm : m ≤ 0
  · rw [if_pos hm, if_pos hm]; omega
  · rw [if_neg hm, if_neg hm]
    have a1 := Int.mul_ediv_add_emod (m - 1) x
    have a2 := Int.mul_ediv_add_emod (m - 1) y
    have b1 := Int.emod_nonneg (m - 1) (show x ≠ 0 by omega)
    have b2 := Int.emod_nonneg (m - 1) (show y ≠ 0 by omega)
    have c1 := Int.emod_lt_of_pos (m - 1) (show 0 < x by omega)
    have c2 := Int.emod_lt_of_pos (m - 1) (show 0 < y by omega)
    have d2 : 0 ≤ (m - 1) / y := Int.ediv_nonneg (by omega) (by omega)
    have d1 : (m - 1) / y ≤ (m - 1) / x := by
      rw [Int.le_ediv_iff_mul_le (by omega)]
      have := Int.mul_le_mul_of_nonneg_left h d2
      rw [Int.mul_comm y] at a2
      omega
    generalize (m - 1) / x = a at *
    generalize (m - 1) / y = b at *
    generalize (m - 1) % x = ra at *
    generalize (m - 1) % y = rb at *
    by_cases e : a = b
    · subst e
      have := Int.mul_le_mul_of_nonneg_right h d2
      split <;> split <;> omega
    · split <;> split <;> omega
theorem ceil_mono {s n n' : Int} (hs : 1 ≤ s) (h : n ≤ n') : (n + s - 1) / s ≤ (n' + s - 1) / s := Int.ediv_le_ediv (by omega) (by omega)
theorem cG_mono {s n n' : Int} (hs : 1 ≤ s) (h : n ≤ n') : cG s n + (n' - n) ≤ cG s n' := by
  have := ceil_mono hs h
  unfold cG; omega
theorem cL_mono {s n n' : Int} (hs : 4 ≤ s) (h : n ≤ n') : cL s n ≤ cL s n' := by
  unfold cL
  have b1 := Int.emod_nonneg (n - 1) (show s ≠ 0 by omega)
  have b2 := Int.emod_nonneg (n' - 1) (show s ≠ 0 by omega)
  have c1 := Int.emod_lt_of_pos (n - 1) (show 0 < s by omega)
  have c2 := Int.emod_lt_of_pos (n' - 1) (show 0 < s by omega)
  have a1 := Int.mul_ediv_add_emod (n - 1) s
  have a2 := Int.mul_ediv_add_emod (n' - 1) s
  have d1 : (n - 1) / s ≤ (n' - 1) / s := Int.ediv_le_ediv (by omega) (by omega)
  by_cases hm : n ≤ 0
  · rw [if_pos hm]
    by_cases hm' : n' ≤ 0
    · rw [if_pos hm']; omega
    · rw [if_neg hm']
      have : 0 ≤ (n' - 1) / s := Int.ediv_nonneg (by omega) (by omega)
      split <;> omega
  · rw [if_neg hm, if_neg (show ¬ n' ≤ 0 by omega)]
    generalize (n - 1) / s = a at *
    generalize (n' - 1) / s = b at *
    generalize (n - 1) % s = ra at *
    generalize (n' - 1) % s = rb at *
    by_cases e : a = b
    · subst e
      split <;> split <;> omega
    · split <;> split <;> omega
theorem cL_le_cG {s n : Int} (hs : 4 ≤ s) (hn : 0 ≤ n) : cL s n ≤ cG s n := by
  unfold cL cG
  by_cases hm : n ≤ 0
  · have : n = 0 := by omega
    subst this
    rw [if_pos (by omega)]
    have : 0 ≤ (0 + s - 1) / s := Int.ediv_nonneg (by omega) (by omega)
    omega
  · rw [if_neg hm]
    have e1 : (n + s - 1) / s = (n - 1) / s + 1 := by
      have : n + s - 1 = (n - 1) + 1 * s := by omega
      rw [this, Int.add_mul_ediv_right _ _ (by omega)]
    have a1 := Int.mul_ediv_add_emod (n - 1) s
    have b1 := Int.emod_nonneg (n - 1) (show s ≠ 0 by omega)
    have d1 : 0 ≤ (n - 1) / s := Int.ediv_nonneg (by omega) (by omega)
    have d2 : 4 * ((n - 1) / s) ≤ s * ((n - 1) / s) := Int.mul_le_mul_of_nonneg_right hs d1
    rw [e1]
    split <;> omega
/-! ### 3. One record -/
def recN (nm : ByteArray) (n : Int) : D_api_Record := (nm, (n, ((if n > 0 then List.replicate 20 (0 : Int) else shaB []), ())))
def FN (nm : ByteArray) (s n : Int) : Int := 51 + (nm.size : Int) + cG s n
theorem lng_recN (nm : ByteArray) (s n : Int) (hs : 16 ≤ s) (hn : 0 ≤ n ∧ n ≤ 8192) : lng gG s [recN nm n] = FN nm s n := by
  have e : ap s 0 [recN nm n] = pcs 0 n s 8200 0 := by simp only [ap, recN, List.append_nil]
  have h := pcs_gsum 0 n s (by omega) 8200 0 (by omega) hn.1
  have h' := pcs_ceil 0 n s (by omega) 8200 0 (by omega) (by omega)
  unfold lng
  rw [e, h, h']
  simp only [hsum, FN, cG, recN, Int.sub_zero]
  omega
theorem badR_recN (nm : ByteArray) (n : Int) (hn : 0 ≤ n ∧ n ≤ 8192) : badR (recN nm n) = !nmOK nm := by
  unfold badR recN
  have h1 : decide (n < 0) = false := decide_eq_false (by omega)
  have h2 : decide (n > 8192) = false := decide_eq_false (by omega)
  simp only [h1, h2, Bool.or_false]
  by_cases h : n = 0
  · subst h
    have : peq (.arr 20 (.int .u8)) (if (0 : Int) > 0 then List.replicate 20 (0 : Int) else shaB []) (shaB []) = true := by
      rw [if_neg (by omega)]
      exact peqL_refl _ (fun x => by simp [peq]) _
    rw [this]; simp
  · have : (n == 0) = false := by simpa using h
    rw [this]; simp
theorem valid_recN (nm : ByteArray) (n : Int) (hn : 0 ≤ n ∧ n ≤ 8192) : valid [recN nm n] = if nmOK nm then 0 else 8 := by
  have : (recN nm n).2.1 = n := rfl
  simp only [valid, vld, badR_recN nm n hn, List.length_cons, List.length_nil]
  rw [if_neg (by omega)]
  cases nmOK nm with
  | false => simp
  | true =>
    rw [this]
    simp only [Bool.not_true, Bool.false_eq_true, if_false, if_true, dupF, memB, List.nil_append, List.any_nil, Bool.or_false]
    rw [if_neg (by omega)]
theorem recsOK_recN (nm : ByteArray) (n : Int) (h : nm.size ≤ 9223372036854775807) : RecsOK [recN nm n] := by
  refine ⟨by simp, fun r hr => ?_⟩
  simp only [List.mem_singleton] at hr
  subst hr; exact h
theorem FN_mono {nm : ByteArray} {s n n' : Int} (hs : 1 ≤ s) (h : n ≤ n') : FN nm s n + (n' - n) ≤ FN nm s n' := by
  have := cG_mono hs h
  unfold FN; omega
/-- The greatest size for which there is room. -/
structure RoomIs (nm : ByteArray) (s most b : Int) : Prop where
  lo : -1 ≤ b
  hi : b ≤ 8192
  fits : 0 ≤ b → FN nm s b ≤ most
  not : b < 8192 → most < FN nm s (b + 1)
theorem RoomIs.uniq {nm : ByteArray} {s most b b' : Int} (hs : 1 ≤ s) (h : RoomIs nm s most b) (h' : RoomIs nm s most b') : b = b' := by
  obtain ⟨h1, h2, h3, h4⟩ := h
  obtain ⟨k1, k2, k3, k4⟩ := h'
  by_cases c : b < b'
  · have := FN_mono (nm := nm) hs (show b + 1 ≤ b' by omega)
    have := h4 (by omega); have := k3 (by omega); omega
  · by_cases c : b' < b
    · have := FN_mono (nm := nm) hs (show b' + 1 ≤ b by omega)
      have := k4 (by omega); have := h3 (by omega); omega
    · omega
def roomOut (b : Int) : Int × Int := if b < 0 then (0, 6) else (b, 0)
end Go.Ab

set_option linter.unusedVariables false
set_option linter.unusedSimpArgs false
set_option maxHeartbeats 1000000
namespace Go.Ab
attribute [local irreducible] IntKind.wrap
/-! ### 4. Room -/
theorem chk_zero {a : D_api_Settings} (h : chk a = 0) : 0 ≤ a.1 ∧ a.1 ≤ 7 ∧ 16 ≤ a.2.1 ∧ a.2.1 ≤ 4096 := by
  unfold chk at h
  split at h
  · assumption
  · omega
theorem nmOK_size {nm : ByteArray} (h : nmOK nm = true) : 1 ≤ nm.size ∧ nm.size ≤ 40 := by
  simp only [nmOK, Bool.and_eq_true, decide_eq_true_eq] at h
  exact ⟨h.1.2, h.2⟩
theorem recsV_recN {nm : ByteArray} {n : Int} (h : nm.size ≤ 40) (hn : 0 ≤ n ∧ n ≤ 8192) : RecsV [recN nm n] := by
  refine ⟨by simp, fun r hr => ?_, ?_⟩
  · simp only [List.mem_singleton] at hr; subst hr; exact ⟨hn.1, hn.2, h⟩
  · show n + 0 ≤ 8192; omega
/-! ### 5. The reference's room -/
/-! ### 6. The chapter's examples -/
def nA : ByteArray := ByteArray.mk #[97]
def nAB : ByteArray := ByteArray.mk #[97, 98]
def sB (n : Int) : D_api_Settings := (0, (n, ()))
theorem nA_ok : nmOK nA = true := by decide +kernel
theorem nAB_ok : nmOK nAB = true := by decide +kernel
theorem lngL_recN (nm : ByteArray) (s n : Int) (hs : 16 ≤ s) (hn : 0 ≤ n ∧ n ≤ 8192) : lng gL s [recN nm n] = 51 + (nm.size : Int) + cL s n := by
  have e : ap s 0 [recN nm n] = pcs 0 n s 8200 0 := by simp only [ap, recN, List.append_nil]
  have h := pcs_gsumL 0 n s (by omega) 8200 0 (by omega)
  unfold lng
  rw [e, h]
  simp only [hsum, recN, Int.sub_zero]
  omega
end Go.Ab

set_option linter.unusedVariables false
set_option linter.unusedSimpArgs false
set_option maxHeartbeats 1000000
namespace Go.Ab
attribute [local irreducible] IntKind.wrap
/-! ### 7. Growth -/
theorem lng_G (s : Int) (hs : 16 ≤ s) (rs : List D_api_Record) (hV : RecsV rs) : lng gG s rs = 28 + hsum rs + csum (cG s) rs := by
  unfold lng; rw [ap_costG s hs rs 0 hV.each]
theorem lng_L (s : Int) (hs : 16 ≤ s) (rs : List D_api_Record) (hV : RecsV rs) : lng gL s rs = 28 + hsum rs + csum (cL s) rs := by
  unfold lng; rw [ap_costL s hs rs 0 hV.each]
theorem ask_sB {x : Int} {rs : List D_api_Record} (hc : chk (0, (x, ())) = 0) (hv : valid rs = 0) : ask (0, (x, ())) rs = 0 := by
  unfold ask; rw [if_neg (by simp [hc]), hv]
end Go.Ab

set_option linter.unusedVariables false
set_option linter.unusedSimpArgs false
set_option maxHeartbeats 1000000
namespace Go.Ab
attribute [local irreducible] IntKind.wrap
/-- A header is right. -/
def hOK (h : D_api_BlockHead) : Prop := 0 ≤ h.2.1 ∧ h.2.1 < 16 ∧ 1 ≤ h.2.2.2.1 ∧ h.2.2.2.1 ≤ 4096 ∧ 0 ≤ h.2.2.1 ∧ h.2.2.1 + h.2.2.2.1 ≤ 8192 ∧ ((h.1 = 1 ∧ h.2.2.2.2.1 = h.2.2.2.1) ∨ (h.1 = 2 ∧ 0 < h.2.2.2.2.1 ∧ h.2.2.2.2.1 < h.2.2.2.1))
instance (h : D_api_BlockHead) : Decidable (hOK h) := by unfold hOK; infer_instance
def hC (h : D_api_BlockHead) : Int := if hOK h then 0 else 8
theorem header_Check_spec (h : D_api_BlockHead) : header_Check h = some (hC h) := by
  rw [header_Check_eq]
  obtain ⟨m, mem, off, raw, len, sum, u⟩ := h
  simp only [hC, decide_eq_true_eq, beq_iff_eq]
  by_cases hr : 1 ≤ raw ∧ raw ≤ 4096
  · rw [w64 (by omega) (by omega)]
    by_cases ok : hOK (m, mem, off, raw, len, sum, u)
    · rw [if_pos ok]; simp only [hOK] at ok
      rw [if_neg (by omega), if_neg (by omega), if_neg (by omega), if_neg (by omega), if_neg (by omega), if_neg (by omega)]
      rcases ok.2.2.2.2.2.2 with ⟨h1, h2⟩ | ⟨h1, h2, h3⟩
      · rw [if_pos h1, if_pos h2, if_pos h2]
      · rw [if_neg (by omega), if_pos h1, if_pos h2, if_pos h3]
    · rw [if_neg ok]; simp only [hOK] at ok
      by_cases h1 : mem < 0
      · rw [if_pos h1]
      by_cases h2 : mem ≥ 16
      · rw [if_neg h1, if_pos h2, if_pos h2]
      by_cases h3 : off < 0
      · rw [if_neg h1, if_neg h2, if_neg (by omega), if_neg (by omega), if_pos h3]
      by_cases h4 : off > 8192 - raw
      · rw [if_neg h1, if_neg h2, if_neg (by omega), if_neg (by omega), if_neg h3, if_pos h4]
      rw [if_neg h1, if_neg h2, if_neg (by omega), if_neg (by omega), if_neg h3, if_neg h4]
      by_cases h5 : m = 1
      · rw [if_pos h5, if_neg (by omega), if_neg (by omega)]
      by_cases h6 : m = 2
      · rw [if_neg h5, if_pos h6]
        by_cases h7 : len > 0
        · rw [if_pos h7, if_neg (by omega)]
        · rw [if_neg h7]
      · rw [if_neg h5, if_neg h6]
  · rw [if_neg (show ¬ hOK (m, mem, off, raw, len, sum, u) from fun ok => hr (by simp only [hOK] at ok; omega))]
    by_cases h1 : mem < 0
    · rw [if_pos h1]
    by_cases h2 : mem ≥ 16
    · rw [if_neg h1, if_pos h2, if_pos h2]
    by_cases h3 : raw < 1
    · rw [if_neg h1, if_neg h2, if_pos h3]
    · rw [if_neg h1, if_neg h2, if_neg h3, if_pos (by omega), if_pos (by omega)]
theorem hC_ne (h : D_api_BlockHead) : (hC h != 0) = true ↔ ¬ hOK h := by
  unfold hC; split <;> simp_all
end Go.Ab

set_option linter.unusedVariables false
set_option linter.unusedSimpArgs false
set_option maxHeartbeats 1000000
namespace Go.Ab
attribute [local irreducible] IntKind.wrap
/-! ### 1. Pieces of a listing -/
theorem list_pieces_s1 (a : D_api_Settings) (rs : List D_api_Record) (hs : 16 ≤ a.2.1 ∧ a.2.1 ≤ 4096) (hR : RecsV rs) : ∀ (k i : Nat), i + k = rs.length → list_pieces_c1 rs (rs.length : Int) (i : Int) a (szs (rs.take i)) = some (ap a.2.1 0 rs)
  | 0, i, e => by
    rw [list_pieces_c1_eq, if_neg (by simp; omega), List.take_of_length_le (by omega), Pieces_spec _ rs hs hR]; rfl
  | k + 1, i, e => by
    have hlen := hR.len
    have hl' : Int.ofNat rs.length = (rs.length : Int) := rfl
    obtain ⟨d1, d2, d3⟩ := dropR_at (pzero T_api_Record : D_api_Record) (xs := rs) (i := i) (by omega)
    have hz : szs (List.take i rs) ++ [(List.getD rs i (pzero T_api_Record)).2.1] = szs (List.take (i + 1) rs) := by rw [d2]; simp [szs]
    have ih := list_pieces_s1 a rs hs hR k (i + 1) (by omega)
    rw [show ((i + 1 : Nat) : Int) = (i : Int) + 1 by omega] at ih
    rw [list_pieces_c1_eq, if_pos (by simp; omega), gd_pos (by omega), gd_pos (by rw [hl']; omega), Int.toNat_natCast, hz, gd_pos (by rw [szs_len, List.length_take]; omega), w64 (by omega) (by omega), ih]
theorem list_pieces_spec (a : D_api_Settings) (rs : List D_api_Record) (hs : 16 ≤ a.2.1 ∧ a.2.1 ≤ 4096) (hR : RecsV rs) : list_pieces a rs = some (ap a.2.1 0 rs) := by
  rw [list_pieces_eq]; exact list_pieces_s1 a rs hs hR rs.length 0 (by omega)
theorem chk_zero' {a : D_api_Settings} (h : chk a = 0) : 16 ≤ a.2.1 ∧ a.2.1 ≤ 4096 := by
  unfold chk at h
  split at h <;> omega
/-! ### 2. The check of a listing -/
def isP (h : D_api_BlockHead) (p : D_api_Piece) : Prop := h.2.1 = p.1 ∧ h.2.2.1 = p.2.1 ∧ h.2.2.2.1 = p.2.2.1
instance (h : D_api_BlockHead) (p : D_api_Piece) : Decidable (isP h p) := by unfold isP; infer_instance
theorem list_is_spec (h : D_api_BlockHead) (p : D_api_Piece) : list_is h p = some (decide (isP h p)) := by
  rw [list_is_eq]
  congr 1
  simp only [peq, Bool.and_true]
  rw [Bool.eq_iff_iff, decide_eq_true_eq]
  simp only [Bool.and_eq_true, decide_eq_true_eq]
  exact Iff.rfl
def ckL : List D_api_BlockHead → List D_api_Piece → Int
  | h :: hs, p :: ps => if hOK h ∧ isP h p then ckL hs ps else 8
  | _, _ => 0
def lck (l : D_api_Listing) : Int :=
  if chk l.1 ≠ 0 then 8 else if valid l.2.1 ≠ 0 then 8 else if (ap l.1.2.1 0 l.2.1).length ≠ l.2.2.1.length then 8 else ckL l.2.2.1 (ap l.1.2.1 0 l.2.1)
theorem lCheck_c1 (hs : List D_api_BlockHead) (ps : List D_api_Piece) (hl : hs.length = ps.length) (hb : hs.length ≤ 1000000) : ∀ (k i : Nat), i + k = hs.length → list_Check_c1 hs (hs.length : Int) (i : Int) ps = some (ckL (hs.drop i) (ps.drop i))
  | 0, i, e => by
    rw [list_Check_c1_eq, if_neg (by simp; omega), List.drop_eq_nil_of_le (by omega)]; rfl
  | k + 1, i, e => by
    have hl' : Int.ofNat hs.length = (hs.length : Int) := rfl
    have hl2 : Int.ofNat ps.length = (ps.length : Int) := rfl
    obtain ⟨d1, d2, d3⟩ := dropR_at (pzero T_api_BlockHead : D_api_BlockHead) (xs := hs) (i := i) (by omega)
    obtain ⟨p1, p2, p3⟩ := dropR_at (pzero T_api_Piece : D_api_Piece) (xs := ps) (i := i) (by omega)
    have ih := lCheck_c1 hs ps hl hb k (i + 1) (by omega)
    rw [show ((i + 1 : Nat) : Int) = (i : Int) + 1 by omega] at ih
    rw [list_Check_c1_eq, if_pos (by simp; omega), gd_pos (by omega), gd_pos (by rw [hl']; omega), Int.toNat_natCast, Nat.zero_add, header_Check_spec]
    simp only [Option.bind_some, hC_ne]
    rw [d1, p1, ckL]
    generalize hs.getD i (pzero T_api_BlockHead) = h0
    generalize ps.getD i (pzero T_api_Piece) = p0
    by_cases h1 : hOK h0
    · rw [if_neg (by simpa using h1), gd_pos (by omega), gd_pos (by rw [hl2]; omega), list_is_spec]
      simp only [Option.bind_some]
      by_cases h2 : isP h0 p0
      · rw [if_neg (by simp [h2]), if_pos ⟨h1, h2⟩, w64 (by omega) (by omega), ih]
      · rw [if_pos (by simp [h2]), if_neg (fun h => h2 h.2)]
    · rw [if_pos h1, if_neg (fun h => h1 h.1)]
theorem list_Check_spec (l : D_api_Listing) (hR : RecsOK l.2.1) : list_Check l = some (lck l) := by
  rw [list_Check_eq, pack_Check_spec, member_Valid_spec _ hR]
  simp only [Option.bind_some, lck]
  by_cases hc : chk l.1 = 0
  · rw [if_neg (by simp [hc]), if_neg (show ¬ chk l.1 ≠ 0 by simp [hc])]
    by_cases hv : valid l.2.1 = 0
    · have h16 := chk_zero' hc
      have hV := valid_zero hv
      rw [if_neg (by simp [hv]), if_neg (show ¬ valid l.2.1 ≠ 0 by simp [hv]), list_pieces_spec l.1 l.2.1 h16 hV]
      simp only [Option.bind_some]
      have hsm := ap_small l.1.2.1 h16.1 l.2.1 hV
      by_cases hl : (ap l.1.2.1 0 l.2.1).length = l.2.2.1.length
      · rw [if_neg (by simp [hl]), if_neg (show ¬ (ap l.1.2.1 0 l.2.1).length ≠ l.2.2.1.length by simp [hl])]
        exact lCheck_c1 l.2.2.1 _ hl.symm (by omega) l.2.2.1.length 0 (by omega)
      · rw [if_pos (by simp; omega), if_pos hl]
    · rw [if_pos (by simpa using hv), if_pos hv]
  · rw [if_pos (by simpa using hc), if_pos hc]
theorem ckL_zero : ∀ (hs : List D_api_BlockHead) (ps : List D_api_Piece), hs.length = ps.length → ckL hs ps = 0 → ∀ h ∈ hs, hOK h
  | [], _, _, _, h, hh => by cases hh
  | h :: hs, [], hl, _, _, _ => by simp at hl
  | h :: hs, p :: ps, hl, hc, x, hx => by
    simp only [ckL] at hc
    split at hc
    · rename_i hok
      rcases List.mem_cons.1 hx with rfl | hx
      · exact hok.1
      · exact ckL_zero hs ps (by simpa using hl) hc x hx
    · omega
structure LstV (l : D_api_Listing) : Prop where
  blk : 16 ≤ l.1.2.1 ∧ l.1.2.1 ≤ 4096
  chk : chk l.1 = 0
  val : valid l.2.1 = 0
  recs : RecsV l.2.1
  len : l.2.2.1.length = (ap l.1.2.1 0 l.2.1).length
  hds : ∀ h ∈ l.2.2.1, hOK h
  ck : ckL l.2.2.1 (ap l.1.2.1 0 l.2.1) = 0
theorem lck_zero {l : D_api_Listing} (h : lck l = 0) : LstV l := by
  unfold lck at h
  split at h
  · omega
  · rename_i hc
    split at h
    · omega
    · rename_i hv
      split at h
      · omega
      · rename_i hl
        simp only [ne_eq, Decidable.not_not] at hc hv hl
        exact ⟨chk_zero' hc, hc, hv, valid_zero hv, hl.symm, ckL_zero _ _ hl.symm h, h⟩
theorem lck_ne {l : D_api_Listing} : lck l = 0 ∨ lck l = 8 := by
  have h : ∀ hs ps, ckL hs ps = 0 ∨ ckL hs ps = 8 := by
    intro hs
    induction hs with
    | nil => intro ps; left; rfl
    | cons x xs ih =>
      intro ps
      cases ps with
      | nil => left; rfl
      | cons p ps => simp only [ckL]; split; exact ih ps; right; rfl
  unfold lck
  split; right; rfl
  split; right; rfl
  split; right; rfl
  exact h _ _
/-! ### 3. Places -/
def plc : Int → List D_api_BlockHead → List Int
  | _, [] => []
  | at_, h :: r => at_ :: plc (at_ + (41 + h.2.2.2.2.1)) r
theorem plc_len : ∀ (hs : List D_api_BlockHead) (a : Int), (plc a hs).length = hs.length
  | [], _ => rfl
  | h :: r, a => by simp only [plc, List.length_cons, plc_len r]
theorem hOK_len' {h : D_api_BlockHead} (ok : hOK h) : 1 ≤ h.2.2.2.2.1 ∧ h.2.2.2.2.1 ≤ 4096 := by unfold hOK at ok; omega
theorem lPlaces_c1 (hs : List D_api_BlockHead) (hh : ∀ h ∈ hs, hOK h) (hb : hs.length ≤ 1000000) : ∀ (k i : Nat) (at_ : Int) (out : List Int), i + k = hs.length → 0 ≤ at_ → at_ ≤ 100000 + 5000 * i → out.length = i → list_Places_c1 at_ hs (hs.length : Int) (i : Int) out = some (out ++ plc at_ (hs.drop i), 0)
  | 0, i, at_, out, e, h0, h1, ho => by
    rw [list_Places_c1_eq, if_neg (by simp; omega), List.drop_eq_nil_of_le (by omega)]; simp [plc]
  | k + 1, i, at_, out, e, h0, h1, ho => by
    have hl' : Int.ofNat hs.length = (hs.length : Int) := rfl
    obtain ⟨d1, d2, d3⟩ := dropR_at (pzero T_api_BlockHead : D_api_BlockHead) (xs := hs) (i := i) (by omega)
    have hv := hOK_len' (hh _ d3)
    have ih := lPlaces_c1 hs hh hb k (i + 1) (at_ + (41 + (hs.getD i (pzero T_api_BlockHead)).2.2.2.2.1)) (out ++ [at_]) (by omega) (by omega) (by omega) (by simp; omega)
    rw [show ((i + 1 : Nat) : Int) = (i : Int) + 1 by omega] at ih
    rw [list_Places_c1_eq, if_pos (by simp; omega), gd_pos (by omega), gd_pos (by rw [hl']; omega), gd_pos (by simp only [List.length_append, List.length_cons, List.length_nil]; omega), Int.toNat_natCast, w64 (x := 41 + _) (by omega) (by omega), w64 (x := (i : Int) + 1) (by omega) (by omega), w64 (by omega) (by omega), ih, d1, plc, List.append_assoc]
    rfl
/-- The places of a listing that is valid. -/
def pls (l : D_api_Listing) : List Int := plc (28 + hsum l.2.1) l.2.2.1
theorem list_Places_spec (l : D_api_Listing) (hR : RecsOK l.2.1) (hS : SumsOK l.2.1) : list_Places l = some (if lck l = 0 then (pls l, 0) else ([], 8)) := by
  rw [list_Places_eq, list_Check_spec l hR]
  simp only [Option.bind_some]
  rcases lck_ne (l := l) with h | h
  · have hL := lck_zero h
    have hsm := ap_small l.1.2.1 hL.blk.1 l.2.1 hL.recs
    have hb := hsum_b l.2.1 hL.recs.each
    have hlen := hL.recs.len
    have hll := hL.len
    rw [if_neg (by simp [h]), if_pos h, pack_Head_spec _ _ hR hS]
    have ha : ask l.1 l.2.1 = 0 := by unfold ask; rw [if_neg (by simp [hL.chk]), hL.val]
    rw [ha, if_neg (by simp)]
    simp only [Option.bind_some]
    have hh := headB_len l.1 l.2.1 hS
    have hh' : Int.ofNat (headB l.1 l.2.1).length = 28 + hsum l.2.1 := hh
    rw [hh']
    exact lPlaces_c1 l.2.2.1 hL.hds (by omega) l.2.2.1.length 0 _ [] (by omega) (by omega) (by omega) rfl
  · rw [if_pos (by simp [h]), h, if_neg (by decide)]
theorem pls_len {l : D_api_Listing} (h : lck l = 0) : (pls l).length ≤ 100000 := by
  have hL := lck_zero h
  have hsm := ap_small l.1.2.1 hL.blk.1 l.2.1 hL.recs
  have hll := hL.len
  rw [pls, plc_len]; omega
end Go.Ab

set_option linter.unusedVariables false
set_option linter.unusedSimpArgs false
set_option maxHeartbeats 1000000
namespace Go.Ab
attribute [local irreducible] IntKind.wrap
/-! ### 8. What is saved -/
def svd : List D_api_BlockHead → Int
  | [] => 0
  | h :: r => (h.2.2.2.1 - h.2.2.2.2.1) + svd r
theorem hOK_raw {h : D_api_BlockHead} (ok : hOK h) : 1 ≤ h.2.2.2.1 ∧ h.2.2.2.1 ≤ 4096 := by unfold hOK at ok; omega
theorem heads_few {l : D_api_Listing} (h : lck l = 0) : l.2.2.1.length ≤ 100000 := by
  have hL := lck_zero h
  have hsm := ap_small l.1.2.1 hL.blk.1 l.2.1 hL.recs
  have hll := hL.len
  omega
end Go.Ab

set_option linter.unusedVariables false
set_option linter.unusedSimpArgs false
set_option maxHeartbeats 1000000
namespace Go.Ab
attribute [local irreducible] IntKind.wrap
def mark : List Int := [183, 98, 105, 116, 108, 111, 102, 116, 32, 98, 108, 107, 10]
theorem marker_Bytes_spec : marker_Bytes = some mark := by rw [marker_Bytes_eq, gd_pos (by decide)]; rfl
theorem or_shift (a b : Nat) (ha : a < 4294967296) (hb : b < 256) : bitsOr .i64 ((a : Int) * 256) (b : Int) = (a : Int) * 256 + b := by
  unfold bitsOr
  have h1 : BitVec.ofInt 64 ((a : Int) * 256) = BitVec.ofNat 64 (a * 256) := by
    rw [show (a : Int) * 256 = ((a * 256 : Nat) : Int) by omega]; exact BitVec.ofInt_natCast _ _
  have h2 : BitVec.ofInt 64 (b : Int) = BitVec.ofNat 64 b := BitVec.ofInt_natCast _ _
  show IntKind.wrap .i64 ((BitVec.ofInt 64 ((a : Int) * 256) ||| BitVec.ofInt 64 (b : Int)).toNat : Int) = _
  rw [h1, h2, BitVec.toNat_or, BitVec.toNat_ofNat, BitVec.toNat_ofNat, Nat.mod_eq_of_lt (by omega), Nat.mod_eq_of_lt (by omega)]
  have h3 := Nat.two_pow_add_eq_or_of_lt (i := 8) (b := b) (by omega) a
  rw [show a * 256 = 2 ^ 8 * a by omega, ← h3, w64 (by omega) (by omega)]
  omega
theorem or_byteB {x y : Int} (hx : 0 ≤ x ∧ x < 4294967296) (hy : 0 ≤ y ∧ y < 256) : bitsOr .i64 (x * 256) y = x * 256 + y := by
  obtain ⟨a, rfl⟩ := Int.eq_ofNat_of_zero_le hx.1
  obtain ⟨b, rfl⟩ := Int.eq_ofNat_of_zero_le hy.1
  exact or_shift a b (by omega) (by omega)
theorem getD_setB {α : Type} (xs : List α) (i : Nat) (x d : α) (h : i < xs.length) : (xs.set i x).getD i d = x := by
  simp [List.getD, h]
theorem Bts.getD {xs : List Int} (h : Bts xs) (i : Nat) : 0 ≤ xs.getD i 0 ∧ xs.getD i 0 < 256 := by
  by_cases hi : i < xs.length
  · simp only [List.getD_eq_getElem?_getD, List.getElem?_eq_getElem hi, Option.getD_some]; exact h _ (List.getElem_mem hi)
  · simp [List.getD_eq_getElem?_getD, List.getElem?_eq_none (by omega : xs.length ≤ i)]
theorem parse_step (v0 : List Int) (v5 v17 v18 : Int) (b8 : D_api_BlockHead) (b9 : List Int) (h0 : 0 ≤ v5) (h5 : v5 < 5) (hlt : v18 < v17) (h18 : 0 ≤ v18) (h17 : v17 ≤ 2) (hb : Bts v0) (hl : 0 < v0.length) (hx : 0 ≤ b9.getD v5.toNat 0 ∧ b9.getD v5.toNat 0 < 256) :
    header_Parse_c2 v0 v5 G_widths v5 v17 v18 b8 b9 = header_Parse_c2 (v0.drop 1) v5 G_widths v5 v17 (v18 + 1) b8 (b9.set v5.toNat (b9.getD v5.toNat 0 * 256 + v0.getD 0 0)) := by
  have hy := hb.getD 0
  rw [header_Parse_c2_eq, if_pos (by simpa using hlt)]
  rw [gd_pos h0, gd_pos h5, gd_pos (by decide), gd_pos (by decide), gd_pos (by simp only [Int.ofNat_eq_natCast]; omega), gd_pos h0, gd_pos h5, gd_pos (by decide), gd_pos (by simp only [Int.ofNat_eq_natCast]; omega)]
  rw [w64 (x := v18 + 1) (by omega) (by omega), w64 (x := b9.getD v5.toNat 0 * 256) (by omega) (by omega), w64 (x := v0.getD 0 0) (by omega) (by omega), or_byteB ⟨hx.1, by omega⟩ hy]
theorem parse_one (v0 : List Int) (v5 : Int) (b8 : D_api_BlockHead) (b9 : List Int) (h0 : 0 ≤ v5) (h5 : v5 < 5) (hw : G_widths.getD v5.toNat 0 = 1) (hb : Bts v0) (hl : 0 < v0.length) (hx : b9.getD v5.toNat 0 = 0) (hn : b9.length = 5) :
    header_Parse_c1 v0 G_widths v5 b8 b9 = header_Parse_c1 (v0.drop 1) G_widths (v5 + 1) b8 (b9.set v5.toNat (v0.getD 0 0)) := by
  rw [header_Parse_c1_eq, if_pos (by simpa using h5), gd_pos h0, gd_pos h5, hw, parse_step v0 v5 1 0 b8 b9 h0 h5 (by decide) (by decide) (by decide) hb hl (by rw [hx]; decide)]
  rw [header_Parse_c2_eq, if_neg (by decide), w64 (x := v5 + 1) (by omega) (by omega), hx, Int.zero_mul, Int.zero_add]
theorem parse_two (v0 : List Int) (v5 : Int) (b8 : D_api_BlockHead) (b9 : List Int) (h0 : 0 ≤ v5) (h5 : v5 < 5) (hw : G_widths.getD v5.toNat 0 = 2) (hb : Bts v0) (hl : 1 < v0.length) (hx : b9.getD v5.toNat 0 = 0) (hn : b9.length = 5) :
    header_Parse_c1 v0 G_widths v5 b8 b9 = header_Parse_c1 (v0.drop 2) G_widths (v5 + 1) b8 (b9.set v5.toNat (v0.getD 0 0 * 256 + v0.getD 1 0)) := by
  have hy := hb.getD 0
  have hi : v5.toNat < b9.length := by omega
  have hg : (v0.drop 1).getD 0 0 = v0.getD 1 0 := by simp [List.getD_eq_getElem?_getD]
  rw [header_Parse_c1_eq, if_pos (by simpa using h5), gd_pos h0, gd_pos h5, hw, parse_step v0 v5 2 0 b8 b9 h0 h5 (by decide) (by decide) (by decide) hb (by omega) (by rw [hx]; decide)]
  rw [hx, Int.zero_mul, Int.zero_add (v0.getD 0 0)]
  rw [parse_step (v0.drop 1) v5 2 (0 + 1) b8 _ h0 h5 (by decide) (by decide) (by decide) (hb.drop 1) (by simp; omega) (by rw [getD_setB _ _ _ _ hi]; exact hy)]
  rw [header_Parse_c2_eq, if_neg (by decide), w64 (x := v5 + 1) (by omega) (by omega), getD_setB _ _ _ _ hi, List.set_set, List.drop_drop, hg]
def zH : D_api_BlockHead := (0, (0, (0, (0, (0, (List.replicate 20 0, ()))))))
/-- The header that bytes are. -/
def pH (a : List Int) : D_api_BlockHead := (a.getD 0 0, (a.getD 1 0, (a.getD 2 0 * 256 + a.getD 3 0, (a.getD 4 0 * 256 + a.getD 5 0, (a.getD 6 0 * 256 + a.getD 7 0, (a.drop 8, ()))))))
def pP (a : List Int) : D_api_BlockHead × Int := if a.length = 28 ∧ hOK (pH a) then (pH a, 0) else (zH, 12)
theorem drop_getD (a : List Int) (k i : Nat) : (a.drop k).getD i 0 = a.getD (k + i) 0 := by simp [List.getD_eq_getElem?_getD]
theorem header_Parse_spec (a : List Int) (hb : Bts a) : header_Parse a = some (pP a) := by
  rw [header_Parse_eq]
  by_cases hl : a.length = 28
  · rw [if_neg (by simp [hl])]
    have hrep : (List.replicate 5 (0:Int)) = [0,0,0,0,0] := rfl
    rw [hrep]
    rw [parse_one a 0 _ _ (by decide) (by decide) (by decide) hb (by omega) (by decide) (by decide)]
    rw [parse_one (a.drop 1) (0+1) _ _ (by decide) (by decide) (by decide) (hb.drop 1) (by simp; omega) (by simp) (by simp)]
    rw [parse_two _ (0+1+1) _ _ (by decide) (by decide) (by decide) ((hb.drop 1).drop 1) (by simp; omega) (by simp) (by simp)]
    rw [parse_two _ (0+1+1+1) _ _ (by decide) (by decide) (by decide) (((hb.drop 1).drop 1).drop 2) (by simp; omega) (by simp) (by simp)]
    rw [parse_two _ (0+1+1+1+1) _ _ (by decide) (by decide) (by decide) ((((hb.drop 1).drop 1).drop 2).drop 2) (by simp; omega) (by simp) (by simp)]
    rw [header_Parse_c1_eq, if_neg (by decide)]
    iterate 10 rw [gd_pos (by decide)]
    simp only [List.drop_drop, drop_getD]
    have h0 := hb.getD 0
    have hsp : splice (List.replicate 20 (0:Int)) 0 (List.take (min (List.drop (1 + 1 + 2 + 2 + 2) a).length 20) (List.drop (1 + 1 + 2 + 2 + 2) a)) = a.drop 8 := by
      have hln : (a.drop 8).length = 20 := by simp [hl]
      show splice (List.replicate 20 (0:Int)) 0 (List.take (min (a.drop 8).length 20) (a.drop 8)) = a.drop 8
      rw [hln, List.take_of_length_le (by omega)]
      unfold splice
      simp [hl]
    rw [hsp]
    have e0 : (([0,0,0,0,0] : List Int).set (Int.toNat 0) (a.getD 0 0) |>.set (Int.toNat (0+1)) (a.getD (1+0) 0) |>.set (Int.toNat (0+1+1)) (a.getD (1+1+0) 0 * 256 + a.getD (1+1+1) 0) |>.set (Int.toNat (0+1+1+1)) (a.getD (1+1+2+0) 0 * 256 + a.getD (1+1+2+1) 0) |>.set (Int.toNat (0+1+1+1+1)) (a.getD (1+1+2+2+0) 0 * 256 + a.getD (1+1+2+2+1) 0)) = [a.getD 0 0, a.getD 1 0, a.getD 2 0 * 256 + a.getD 3 0, a.getD 4 0 * 256 + a.getD 5 0, a.getD 6 0 * 256 + a.getD 7 0] := rfl
    rw [e0]
    simp only [List.getD_cons_zero, List.getD_cons_succ, wu8, Int.emod_eq_of_lt h0.1 h0.2]
    rw [header_Check_spec]
    show (some (hC (pH a))).bind _ = _
    simp only [Option.bind_some, hC_ne]
    unfold pP
    by_cases ok : hOK (pH a)
    · rw [if_neg (by simpa using ok), if_pos ⟨hl, ok⟩]; rfl
    · rw [if_pos ok, if_neg (fun h => ok h.2)]; rfl
  · rw [if_pos (by simp; omega)]
    unfold pP
    rw [if_neg (fun h => hl h.1)]; rfl
theorem take_set_succ (S : List Int) (n : Nat) (x : Int) (h : n < S.length) : (S.set n x).take (n + 1) = S.take n ++ [x] := by
  rw [List.take_succ_eq_append_getElem (by simpa using h), List.take_set, List.set_eq_of_length_le (by simp; omega)]
  simp
theorem mark_bts : Bts mark := by
  intro x hx
  simp [mark] at hx
  omega
theorem mark_len : mark.length = 13 := rfl
theorem marker_At_spec (a : List Int) (hb : Bts a) (h1 : 41 ≤ a.length) (h2 : a.length ≤ 50000) : marker_At a 0 = some (decide (a.take 13 = mark), 0) := by
  rw [marker_At_eq, marker_check_eq, if_neg (by simp; omega), if_neg (by decide), if_neg (by simp)]
  simp only [Option.bind_some]
  rw [if_neg (by decide), gd_pos (by decide), gd_pos (by simp), marker_Bytes_spec]
  simp only [Option.bind_some]
  rw [bytes_HasPrefix_eq, if_pos (by simp [mark_len]; omega), gd_pos (by simp), gd_pos (by simp [mark_len]; omega), bytes_Equal_eq]
  simp only [Option.bind_some]
  rw [eqStr ((hb.drop _).take _) mark_bts]
  rfl
theorem bytes_Clone_spec (xs : List Int) (h : xs.length ≤ 1000000) : bytes_Clone xs = some xs := by
  rw [bytes_Clone_eq]
  refine anyv_eq false (by simp) (fun b hb => ?_)
  cases b with
  | true => rw [if_pos rfl, hb rfl]
  | false => rw [if_neg (by simp), gd_pos (by simp; omega)]; simp
/-- What reading gives. -/
def rdB (a : List Int) : D_api_Block × Int × Int :=
  if a.length > 50000 then ((zH, ([], ())), (0, 4)) else if a.length < 41 then ((zH, ([], ())), (0, 18))
  else if a.take 13 ≠ mark ∨ ¬ hOK (pH ((a.drop 13).take 28)) then ((zH, ([], ())), (0, 12))
  else if (a.length : Int) < 41 + (pH ((a.drop 13).take 28)).2.2.2.2.1 then ((zH, ([], ())), (0, 18))
  else ((pH ((a.drop 13).take 28), ((a.drop 41).take (pH ((a.drop 13).take 28)).2.2.2.2.1.toNat, ())), (41 + (pH ((a.drop 13).take 28)).2.2.2.2.1, 0))
theorem hOK_len {h : D_api_BlockHead} (ok : hOK h) : 1 ≤ h.2.2.2.2.1 ∧ h.2.2.2.2.1 ≤ 4096 := by unfold hOK at ok; omega
theorem pP_eq (a : List Int) (h : 41 ≤ a.length) : pP ((a.drop 13).take 28) = if hOK (pH ((a.drop 13).take 28)) then (pH ((a.drop 13).take 28), 0) else (zH, 12) := by
  have hl : ((a.drop 13).take 28).length = 28 := by simp; omega
  unfold pP
  simp only [hl, true_and]
theorem block_Read_spec (a : List Int) (hb : Bts a) : block_Read a = some (rdB a) := by
  rw [block_Read_eq]
  unfold rdB
  by_cases h1 : a.length > 50000
  · rw [if_pos (by simp; omega), if_pos h1]; rfl
  rw [if_neg (by simp; omega), if_neg h1]
  by_cases h2 : a.length < 41
  · rw [if_pos (by simp; omega), if_pos h2]; rfl
  rw [if_neg (by simp; omega), if_neg h2, gd_pos (by decide), gd_pos (by decide), gd_pos (by simp only [Int.ofNat_eq_natCast]; omega), header_Parse_spec _ ((hb.drop _).take _), pP_eq a (by omega), marker_At_spec a hb (by omega) (by omega)]
  simp only [Option.bind_some]
  by_cases h3 : a.take 13 = mark
  · by_cases ok : hOK (pH ((a.drop 13).take 28))
    · have hlen := hOK_len ok
      rw [if_pos ok, if_neg (by simp [h3]), if_neg (by simp), if_neg (show ¬ (a.take 13 ≠ mark ∨ ¬ hOK (pH ((a.drop 13).take 28))) from fun h => h.elim (fun h => h h3) (fun h => h ok))]
      generalize pH ((a.drop 13).take 28) = h at ok hlen ⊢
      simp only
      rw [w64 (x := 41 + h.2.2.2.2.1) (by omega) (by omega)]
      by_cases h4 : (a.length : Int) < 41 + h.2.2.2.2.1
      · rw [if_pos (by simpa using h4), if_pos h4]; rfl
      · rw [if_neg (by simpa using h4), if_neg h4, gd_pos (by decide), gd_pos (by omega), gd_pos (by simp only [Int.ofNat_eq_natCast]; omega), bytes_Clone_spec _ (by simp; omega)]
        have e : Int.toNat (41 + h.2.2.2.2.1) - 41 = h.2.2.2.2.1.toNat := by omega
        simp only [Option.bind_some, e]
    · rw [if_neg ok, if_neg (by simp [h3]), if_pos (by simp), if_pos (show (a.take 13 ≠ mark ∨ ¬ hOK (pH ((a.drop 13).take 28))) from .inr ok)]; rfl
  · rw [if_pos (by simp [h3]), if_pos (show (a.take 13 ≠ mark ∨ ¬ hOK (pH ((a.drop 13).take 28))) from .inl h3)]; rfl
end Go.Ab

set_option linter.unusedVariables false
set_option linter.unusedSimpArgs false
set_option maxHeartbeats 1000000
namespace Go.Ab
attribute [local irreducible] IntKind.wrap
/-! ### 1. Records out of bytes -/
def rK (a : List Int) (p : Nat) : Nat := (a.getD p 0).toNat
def rF (a : List Int) (p : Nat) : Prop := p < a.length ∧ p + 1 + rK a p + 22 ≤ a.length
instance (a : List Int) (p : Nat) : Decidable (rF a p) := by unfold rF; infer_instance
def rR (a : List Int) (p : Nat) : D_api_Record :=
  (toStr ((a.drop (p + 1)).take (rK a p)), (a.getD (p + 1 + rK a p) 0 * 256 + a.getD (p + 2 + rK a p) 0, ((a.drop (p + 3 + rK a p)).take 20, ())))
def rdRs (a : List Int) : Nat → Nat → List D_api_Record → List D_api_Record × Int × Int
  | 0, p, acc => if valid acc ≠ 0 then ([], (0, 12)) else (acc, ((p : Int), 0))
  | n + 1, p, acc => if rF a p then rdRs a n (p + rK a p + 23) (acc ++ [rR a p]) else ([], (0, 18))
theorem rK_eq {a : List Int} (hb : Bts a) (p : Nat) : a.getD p 0 = (rK a p : Int) ∧ rK a p < 256 := by
  have := hb.getD p
  unfold rK; omega
theorem td_getD (a : List Int) (p n i : Nat) (h : i < n) : ((a.drop p).take n).getD i 0 = a.getD (p + i) 0 := by
  simp only [List.getD_eq_getElem?_getD, List.getElem?_take, List.getElem?_drop, if_pos h]
theorem take_spec (a : List Int) (hl : a.length ≤ 100000) (p n : Nat) (hp : p ≤ a.length) (hn : n ≤ 1000) :
    member_source_take (n : Int) ((a, ((p : Int), ())), ()) = some (if p + n ≤ a.length then ((a.drop p).take n, (none, ((a, (((p + n : Nat) : Int), ())), ()))) else ([], (some 18, ((a, ((p : Int), ())), ())))) := by
  have hl' : Int.ofNat a.length = (a.length : Int) := rfl
  rw [member_source_take_eq]
  simp only [hl']
  rw [w64 (x := (a.length : Int) - p) (by omega) (by omega), w64 (x := (p : Int) + n) (by omega) (by omega), w64 (x := (p : Int) + n - n) (by omega) (by omega)]
  by_cases h : p + n ≤ a.length
  · have e1 : ((p : Int) + n).toNat = p + n := by omega
    have e2 : ((p : Int) + n - n).toNat = p := by omega
    rw [if_neg (by simp; omega), gd_pos (by omega), gd_pos (by omega), gd_pos (by omega), if_pos h, e1, e2, Nat.add_sub_cancel_left]
    rfl
  · rw [if_pos (by simp; omega), if_neg h]
theorem record_ok (a : List Int) (hb : Bts a) (hl : a.length ≤ 100000) (p : Nat) (hf : rF a p) :
    member_reader_record ((a, ((p : Int), ())), ()) = some (rR a p, (none, ((a, (((p + rK a p + 23 : Nat) : Int), ())), ()))) := by
  obtain ⟨h1, h2⟩ := hf
  obtain ⟨ek, hk⟩ := rK_eq hb p
  have t1 : member_source_take (1 : Int) ((a, ((p : Int), ())), ()) = _ := take_spec a hl p 1 (by omega) (by omega)
  have t2 := take_spec a hl (p + 1) (rK a p + 22) (by omega) (by omega)
  rw [if_pos (by omega)] at t1
  rw [if_pos (by omega)] at t2
  rw [member_reader_record_eq, t1]
  simp only [Option.bind_some]
  have l1 : ((a.drop p).take 1).length = 1 := by simp; omega
  have g1 : ((a.drop p).take 1).getD 0 0 = (rK a p : Int) := by rw [td_getD _ _ _ _ (by omega)]; exact ek
  rw [if_neg (by simp), gd_pos (by omega), gd_pos (by rw [l1]; decide), g1, w64 (x := (rK a p : Int)) (by omega) (by omega), w64 (x := (rK a p : Int) + 22) (by omega) (by omega), show (rK a p : Int) + 22 = ((rK a p + 22 : Nat) : Int) by omega, t2]
  simp only [Option.bind_some]
  have l2 : Int.ofNat ((a.drop (p + 1)).take (rK a p + 22)).length = (rK a p : Int) + 22 := by
    have : ((a.drop (p + 1)).take (rK a p + 22)).length = rK a p + 22 := by simp; omega
    rw [this]; simp
  rw [l2, w64 (x := (rK a p : Int) + 1) (by omega) (by omega), w64 (x := (rK a p : Int) + 2) (by omega) (by omega)]
  rw [if_neg (by simp), gd_pos (by omega), gd_pos (by rw [l1]; decide), gd_pos (by omega), gd_pos (by omega), gd_pos (by omega), gd_pos (by omega), gd_pos (by omega), gd_pos (by omega), gd_pos (by omega), gd_pos (by omega), gd_pos (by omega)]
  have n1 : ((rK a p : Int)).toNat = rK a p := by omega
  have n2 : ((rK a p : Int) + 1).toNat = rK a p + 1 := by omega
  have n3 : ((rK a p : Int) + 2).toNat = rK a p + 2 := by omega
  rw [n1, n2, n3, td_getD _ _ _ _ (by omega), td_getD _ _ _ _ (by omega)]
  have b1 := hb.getD (p + 1 + rK a p)
  have b2 := hb.getD (p + 1 + (rK a p + 1))
  rw [w64 (x := a.getD (p + 1 + rK a p) 0) (by omega) (by omega), w64 (x := a.getD (p + 1 + (rK a p + 1)) 0) (by omega) (by omega), w64 (x := a.getD (p + 1 + rK a p) 0 * 256) (by omega) (by omega), or_byteB (by omega) b2]
  have e1 : List.take (rK a p) ((a.drop (p + 1)).take (rK a p + 22)) = (a.drop (p + 1)).take (rK a p) := by rw [List.take_take, Nat.min_eq_left (by omega)]
  have e2 : List.drop (rK a p + 2) ((a.drop (p + 1)).take (rK a p + 22)) = (a.drop (p + 3 + rK a p)).take 20 := by
    rw [List.drop_take, List.drop_drop, show rK a p + 22 - (rK a p + 2) = 20 by omega, show p + 1 + (rK a p + 2) = p + 3 + rK a p by omega]
  have l3 : ((a.drop (p + 3 + rK a p)).take 20).length = 20 := by simp; omega
  rw [e1, e2, l3]
  have e3 : splice (List.replicate 20 (0 : Int)) 0 (List.take (min 20 20) ((a.drop (p + 3 + rK a p)).take 20)) = (a.drop (p + 3 + rK a p)).take 20 := by
    rw [show min 20 20 = 20 from rfl, List.take_of_length_le (by omega), splice, l3]
    simp
  rw [e3]
  unfold rR
  rw [show p + 1 + (rK a p + 1) = p + 2 + rK a p by omega, show p + 1 + (rK a p + 22) = p + rK a p + 23 by omega]
theorem record_no (a : List Int) (hb : Bts a) (hl : a.length ≤ 100000) (p : Nat) (hp : p ≤ a.length) (hf : ¬ rF a p) :
    ∃ x s, member_reader_record ((a, ((p : Int), ())), ()) = some (x, (some 18, s)) := by
  obtain ⟨ek, hk⟩ := rK_eq hb p
  have t1 : member_source_take (1 : Int) ((a, ((p : Int), ())), ()) = _ := take_spec a hl p 1 (by omega) (by omega)
  rw [member_reader_record_eq, t1]
  simp only [Option.bind_some]
  by_cases h1 : p + 1 ≤ a.length
  · have t2 := take_spec a hl (p + 1) (rK a p + 22) (by omega) (by omega)
    rw [if_neg (by unfold rF at hf; omega)] at t2
    have l1 : ((a.drop p).take 1).length = 1 := by simp; omega
    have g1 : ((a.drop p).take 1).getD 0 0 = (rK a p : Int) := by rw [td_getD _ _ _ _ (by omega)]; exact ek
    rw [if_pos h1]
    simp only
    rw [if_neg (by simp), gd_pos (by omega), gd_pos (by rw [l1]; decide), g1, w64 (x := (rK a p : Int)) (by omega) (by omega), w64 (x := (rK a p : Int) + 22) (by omega) (by omega), show (rK a p : Int) + 22 = ((rK a p + 22 : Nat) : Int) by omega, t2]
    exact ⟨_, _, rfl⟩
  · rw [if_neg h1]
    exact ⟨_, _, rfl⟩
theorem rR_ok (a : List Int) (hb : Bts a) (p : Nat) (hf : rF a p) : (rR a p).1.size = rK a p ∧ (rR a p).2.2.1.length = 20 ∧ Bts (rR a p).2.2.1 := by
  obtain ⟨h1, h2⟩ := hf
  refine ⟨?_, ?_, (hb.drop _).take _⟩
  · unfold rR; rw [toStr_size]; simp; omega
  · unfold rR; simp; omega
theorem RecsOK.snoc {l : List D_api_Record} {r : D_api_Record} (h : RecsOK l) (hl : l.length < 9223372036854775807) (hr : r.1.size ≤ 9223372036854775807) : RecsOK (l ++ [r]) :=
  ⟨by simp; omega, fun q hq => by
    rcases List.mem_append.1 hq with hq | hq
    · exact h.2 q hq
    · rw [List.mem_singleton.1 hq]; exact hr⟩
theorem SumsOK.snoc {l : List D_api_Record} {r : D_api_Record} (h : SumsOK l) (hr : r.2.2.1.length = 20 ∧ Bts r.2.2.1) : SumsOK (l ++ [r]) := fun q hq => by
  rcases List.mem_append.1 hq with hq | hq
  · exact h q hq
  · rw [List.mem_singleton.1 hq]; exact hr
theorem mRead_c1 (a : List Int) (hb : Bts a) (hl : a.length ≤ 100000) (N : Nat) (hN : N ≤ 16) : ∀ (n i p : Nat) (acc : List D_api_Record), i + n = N → acc.length = i → p ≤ a.length → RecsOK acc →
    member_Read_c1 (N : Int) (i : Int) ((a, ((p : Int), ())), ()) acc = some (rdRs a n p acc)
  | 0, i, p, acc, e, hi, hp, hR => by
    rw [member_Read_c1_eq, if_neg (by simp; omega), member_Valid_spec acc hR]
    simp only [Option.bind_some, rdRs]
    by_cases h : valid acc = 0
    · rw [if_neg (by simp [h]), if_neg (by simp [h])]
    · rw [if_pos (by simpa using h), if_pos h]
  | n + 1, i, p, acc, e, hi, hp, hR => by
    rw [member_Read_c1_eq, if_pos (by simp; omega), rdRs]
    by_cases hf : rF a p
    · have hr := rR_ok a hb p hf
      have hk := rK_eq hb p
      rw [record_ok a hb hl p hf, if_pos hf]
      simp only [Option.bind_some, errors_As_none]
      rw [if_neg (by simp), gd_pos (by simp; omega), w64 (by omega) (by omega)]
      have ih := mRead_c1 a hb hl N hN n (i + 1) (p + rK a p + 23) (acc ++ [rR a p]) (by omega) (by simp; omega) (by unfold rF at hf; omega) (hR.snoc (by omega) (by omega))
      rw [show ((i + 1 : Nat) : Int) = (i : Int) + 1 by omega] at ih
      exact ih
    · obtain ⟨x, s, hx⟩ := record_no a hb hl p hp hf
      rw [hx, if_neg hf]
      simp only [Option.bind_some, errors_As_some]
      rw [if_pos trivial]
def rdM (a : List Int) (n : Int) : List D_api_Record × Int × Int := if n < 0 ∨ n > 16 then ([], (0, 2)) else if a.length > 50000 then ([], (0, 4)) else rdRs a n.toNat 0 []
theorem RecsOK.nil : RecsOK [] := ⟨by simp, fun _ h => by cases h⟩
theorem SumsOK.nil : SumsOK [] := fun _ h => by cases h
theorem member_Read_spec (a : List Int) (hb : Bts a) (n : Int) : member_Read a n = some (rdM a n) := by
  rw [member_Read_eq, rdM]
  by_cases h1 : n < 0
  · rw [if_pos (by simpa using h1), if_pos (.inl h1)]
  · rw [if_neg (by simpa using h1)]
    by_cases h2 : n > 16
    · rw [if_pos (by simpa using h2), if_pos (.inr h2)]
    · rw [if_neg (by simpa using h2), if_neg (show ¬ (n < 0 ∨ n > 16) by omega)]
      by_cases h3 : a.length > 50000
      · rw [if_pos (by simp; omega), if_pos h3]
      · rw [if_neg (by simp; omega), if_neg h3]
        have := mRead_c1 a hb (by omega) n.toNat (by omega) n.toNat 0 0 [] (by omega) rfl (by omega) .nil
        rw [show ((n.toNat : Nat) : Int) = n by omega] at this
        exact this
/-! ### 2. The reference -/
end Go.Ab

set_option linter.unusedVariables false
set_option linter.unusedSimpArgs false
set_option maxHeartbeats 1000000
namespace Go.Ab
attribute [local irreducible] IntKind.wrap
/-! ### 3. What was read is what is written -/
theorem take_add' {α : Type} (l : List α) (m n : Nat) : l.take (m + n) = l.take m ++ (l.drop m).take n := List.take_add
theorem drop_take1 (a : List Int) (p : Nat) (h : p < a.length) : (a.drop p).take 1 = [a.getD p 0] := by
  rw [(dropR_at (0 : Int) h).1]; rfl
theorem recB_rR (a : List Int) (hb : Bts a) (p : Nat) (hf : rF a p) : recB (rR a p) = (a.drop p).take (rK a p + 23) := by
  obtain ⟨h1, h2⟩ := hf
  obtain ⟨ek, hk⟩ := rK_eq hb p
  have hs := (rR_ok a hb p ⟨h1, h2⟩).1
  have b1 := hb.getD (p + 1 + rK a p)
  have b2 := hb.getD (p + 2 + rK a p)
  have e1 : IntKind.wrap .u8 ((rR a p).1.size : Int) = (rK a p : Int) := by rw [hs, wu8]; omega
  have e2 : ofStr (rR a p).1 = (a.drop (p + 1)).take (rK a p) := ofStr_toStr ((hb.drop _).take _)
  have e3 : IntKind.wrap .u8 (Int.fdiv (rR a p).2.1 256) = a.getD (p + 1 + rK a p) 0 := by
    show IntKind.wrap .u8 (Int.fdiv (a.getD (p + 1 + rK a p) 0 * 256 + a.getD (p + 2 + rK a p) 0) 256) = _
    rw [wu8, fdiv_pos _ (by omega)]; omega
  have e4 : IntKind.wrap .u8 (rR a p).2.1 = a.getD (p + 2 + rK a p) 0 := by
    show IntKind.wrap .u8 (a.getD (p + 1 + rK a p) 0 * 256 + a.getD (p + 2 + rK a p) 0) = _
    rw [wu8]; omega
  have e5 : List.take 20 (List.drop 0 (rR a p).2.2.1) = (a.drop (p + 3 + rK a p)).take 20 := by
    show List.take 20 (List.drop 0 ((a.drop (p + 3 + rK a p)).take 20)) = _
    rw [List.drop_zero, List.take_take]; rfl
  unfold recB
  rw [e1, e2, e3, e4, e5, show rK a p + 23 = 1 + (rK a p + (1 + (1 + 20))) by omega, take_add', take_add', take_add', take_add', List.drop_drop, List.drop_drop, List.drop_drop, List.drop_drop, drop_take1 a p h1, drop_take1 a (p + 1 + rK a p) (by omega), show p + 1 + rK a p + 1 = p + 2 + rK a p by omega, drop_take1 a (p + 2 + rK a p) (by omega), show p + 2 + rK a p + 1 = p + 3 + rK a p by omega, ek]
  simp only [List.append_assoc, List.cons_append, List.nil_append]
theorem recsB_append : ∀ (l m : List D_api_Record), recsB (l ++ m) = recsB l ++ recsB m
  | [], m => rfl
  | r :: l, m => by simp only [List.cons_append, recsB, recsB_append l m, List.append_assoc]
structure ReadOK (a : List Int) (n : Nat) (l : List D_api_Record) (q : Nat) : Prop where
  le : q ≤ a.length
  bytes : recsB l = a.take q
  val : valid l = 0
  sums : SumsOK l
  recs : RecsOK l
  len : l.length = n
theorem rdRs_ok (a : List Int) (hb : Bts a) : ∀ (n p : Nat) (acc l : List D_api_Record) (q : Int), rdRs a n p acc = (l, (q, 0)) → p ≤ a.length → recsB acc = a.take p → SumsOK acc → RecsOK acc → acc.length + n ≤ 1000 →
    ∃ q' : Nat, q = q' ∧ ReadOK a (acc.length + n) l q' ∧ p ≤ q'
  | 0, p, acc, l, q, h, hp, hB, hS, hR, hn => by
    simp only [rdRs] at h
    split at h
    · simp at h
    · rename_i hv
      simp only [Prod.mk.injEq] at h
      obtain ⟨rfl, rfl, _⟩ := h
      exact ⟨p, rfl, ⟨hp, hB, by simpa using hv, hS, hR, rfl⟩, Nat.le_refl _⟩
  | n + 1, p, acc, l, q, h, hp, hB, hS, hR, hn => by
    simp only [rdRs] at h
    split at h
    · rename_i hf
      have hr := rR_ok a hb p hf
      have hk := rK_eq hb p
      obtain ⟨h1, h2⟩ := id hf
      obtain ⟨q', e, hO, hle⟩ := rdRs_ok a hb n _ _ l q h (by omega) (by
        rw [recsB_append, hB, show recsB [rR a p] = recB (rR a p) ++ [] from rfl, List.append_nil, recB_rR a hb p hf, show p + rK a p + 23 = p + (rK a p + 23) by omega, take_add' a p]) (hS.snoc hr.2) (hR.snoc (by omega) (by omega)) (by simp; omega)
      rw [show (acc ++ [rR a p]).length + n = acc.length + (n + 1) by simp; omega] at hO
      exact ⟨q', e, hO, by omega⟩
    · simp at h
/-! ### 4. The head -/
def sH (a : List Int) : D_api_Settings := (a.getD 4 0, (a.getD 5 0 * 256 + a.getD 6 0, ()))
def hdE (e : Int) : D_api_Settings × List D_api_Record × Int × Int := ((0, (0, ())), ([], (0, e)))
def magic : List Int := [66, 76, 70, 1]
def hdP (a : List Int) : D_api_Settings × List D_api_Record × Int × Int :=
  if a.length > 50000 then hdE 4 else if a.length < 8 then hdE 18
  else if a.take 4 ≠ magic ∨ chk (sH a) ≠ 0 ∨ a.getD 7 0 > 16 then hdE 12
  else if (rdM (a.drop 8) (a.getD 7 0)).2.2 ≠ 0 then hdE (rdM (a.drop 8) (a.getD 7 0)).2.2
  else if (a.length : Int) - 8 - (rdM (a.drop 8) (a.getD 7 0)).2.1 < 20 then hdE 18
  else if (a.drop (8 + (rdM (a.drop 8) (a.getD 7 0)).2.1.toNat)).take 20 ≠ shaB (a.take (8 + (rdM (a.drop 8) (a.getD 7 0)).2.1.toNat)) then hdE 22
  else (sH a, ((rdM (a.drop 8) (a.getD 7 0)).1, (28 + (rdM (a.drop 8) (a.getD 7 0)).2.1, 0)))
theorem HasPrefix_spec (a b : List Int) (ha : Bts a) (hb : Bts b) : bytes_HasPrefix a b = some (decide (a.take b.length = b)) := by
  rw [bytes_HasPrefix_eq]
  by_cases h : b.length ≤ a.length
  · rw [if_pos (by simp; omega), gd_pos (by simp), gd_pos (by simp; omega), bytes_Equal_eq, eqStr (ha.take _) hb]; rfl
  · rw [if_neg (by simp; omega)]
    have : ¬ a.take b.length = b := fun e => by
      have := congrArg List.length e
      simp at this; omega
    simp [this]
theorem magic_eq (a : List Int) (hb : Bts a) : (ByteArray.toList (toStr (List.take 4 a)) == ByteArray.toList (ByteArray.mk #[66, 76, 70, 1])) = decide (a.take 4 = magic) := by
  have : ByteArray.mk #[66, 76, 70, 1] = toStr magic := rfl
  rw [this, eqStr (hb.take _) (by intro x hx; simp [magic] at hx; omega)]
/-- Where the records end. -/
theorem rdM_ok {a : List Int} (hb : Bts a) (hl : a.length ≤ 50000) {n : Int} (hn : 0 ≤ n ∧ n ≤ 16) (h : (rdM a n).2.2 = 0) : ∃ q : Nat, (rdM a n).2.1 = q ∧ ReadOK a n.toNat (rdM a n).1 q := by
  have e : rdM a n = rdRs a n.toNat 0 [] := by unfold rdM; rw [if_neg (by omega), if_neg (by omega)]
  rw [e] at h ⊢
  obtain ⟨q, e1, e2, _⟩ := rdRs_ok a hb n.toNat 0 [] (rdRs a n.toNat 0 []).1 (rdRs a n.toNat 0 []).2.1 (by rw [← h]) (by omega) rfl .nil .nil (by simp; omega)
  rw [show ([] : List D_api_Record).length + n.toNat = n.toNat by simp] at e2
  exact ⟨q, e1, e2⟩
theorem bodyB_read {a : List Int} (hb : Bts a) (h8 : 8 ≤ a.length) (hm : a.take 4 = magic) (hc : chk (sH a) = 0) (h7 : a.getD 7 0 ≤ 16) {l : List D_api_Record} {q : Nat} (hO : ReadOK (a.drop 8) (a.getD 7 0).toNat l q) : bodyB (sH a) l = a.take (8 + q) := by
  have b4 := hb.getD 4
  have b5 := hb.getD 5
  have b6 := hb.getD 6
  have b7 := hb.getD 7
  have e1 : IntKind.wrap .u8 (sH a).1 = a.getD 4 0 := by show IntKind.wrap .u8 (a.getD 4 0) = _; rw [wu8]; omega
  have e2 : IntKind.wrap .u8 (Int.fdiv (sH a).2.1 256) = a.getD 5 0 := by
    show IntKind.wrap .u8 (Int.fdiv (a.getD 5 0 * 256 + a.getD 6 0) 256) = _
    rw [wu8, fdiv_pos _ (by omega)]; omega
  have e3 : IntKind.wrap .u8 (sH a).2.1 = a.getD 6 0 := by
    show IntKind.wrap .u8 (a.getD 5 0 * 256 + a.getD 6 0) = _
    rw [wu8]; omega
  have e4 : IntKind.wrap .u8 (l.length : Int) = a.getD 7 0 := by rw [hO.len, wu8]; omega
  unfold bodyB frontB
  rw [e1, e2, e3, e4, hO.bytes, take_add', show (8 : Nat) = 4 + (1 + (1 + (1 + 1))) from rfl, take_add' a 4, take_add', take_add', take_add', List.drop_drop, List.drop_drop, List.drop_drop, drop_take1 a 4 (by omega), drop_take1 a (4 + 1) (by omega), drop_take1 a (4 + 1 + 1) (by omega), drop_take1 a (4 + 1 + 1 + 1) (by omega), hm]
  rfl
theorem list_Head_spec (a : List Int) (hb : Bts a) : list_Head a = some (hdP a) := by
  have hl' : Int.ofNat a.length = (a.length : Int) := rfl
  rw [list_Head_eq, hl']
  unfold hdP
  by_cases h1 : a.length > 50000
  · rw [if_pos (by simp; omega), if_pos h1]; rfl
  rw [if_neg (by simp; omega), if_neg h1]
  by_cases h2 : a.length < 8
  · rw [if_pos (by simp; omega), if_pos h2]; rfl
  have b4 := hb.getD 4
  have b5 := hb.getD 5
  have b6 := hb.getD 6
  have b7 := hb.getD 7
  rw [if_neg (by simp; omega), if_neg h2, gd_pos (by decide), gd_pos (by omega), gd_pos (by decide), gd_pos (by omega), gd_pos (by decide), gd_pos (by decide), gd_pos (by omega), HasPrefix_spec a _ hb (by intro x hx; simp at hx; omega)]
  simp only [Option.bind_some]
  rw [w64 (x := a.getD 4 0) (by omega) (by omega), w64 (x := a.getD 5 0) (by omega) (by omega), w64 (x := a.getD 6 0) (by omega) (by omega), w64 (x := a.getD 7 0) (by omega) (by omega), w64 (x := a.getD 5 0 * 256) (by omega) (by omega), or_byteB (by omega) b6]
  have es : ((a.getD 4 0, (a.getD 5 0 * 256 + a.getD 6 0, ())) : D_api_Settings) = sH a := rfl
  have em : ([66, 76, 70, 1] : List Int) = magic := rfl
  rw [es, em, show magic.length = 4 from rfl]
  by_cases hm : a.take 4 = magic
  · rw [if_neg (by simp [hm]), pack_Check_spec]
    simp only [Option.bind_some]
    by_cases hc : chk (sH a) = 0
    · rw [if_neg (by simp [hc]), gd_pos (by decide), gd_pos (by omega)]
      by_cases h7 : a.getD 7 0 > 16
      · rw [if_pos (by simpa using h7), if_pos (.inr (.inr h7))]; rfl
      · rw [if_neg (by simpa using h7), if_neg (show ¬ (a.take 4 ≠ magic ∨ chk (sH a) ≠ 0 ∨ a.getD 7 0 > 16) from fun h => by rcases h with h | h | h; exact h hm; exact h hc; exact h7 h), gd_pos (by decide), gd_pos (by omega), gd_pos (by decide), gd_pos (by omega), member_Read_spec _ (hb.drop 8)]
        simp only [Option.bind_some]
        by_cases hr : (rdM (a.drop 8) (a.getD 7 0)).2.2 = 0
        · obtain ⟨q, hq, hO⟩ := rdM_ok (hb.drop 8) (by simp; omega) ⟨b7.1, by omega⟩ hr
          have hle := hO.le
          rw [List.length_drop] at hle
          have hbody := bodyB_read hb (by omega) hm hc (by omega) hO
          have ha : ask (sH a) (rdM (a.drop 8) (a.getD 7 0)).1 = 0 := by unfold ask; rw [if_neg (by simp [hc]), hO.val]
          rw [if_neg (by rw [hr]; decide), if_neg (show ¬ (rdM (a.drop 8) (a.getD 7 0)).2.2 ≠ 0 from fun h => h hr), pack_Head_spec _ _ hO.recs hO.sums, ha, if_neg (by simp)]
          simp only [Option.bind_some]
          rw [hq, w64 (x := (a.length : Int) - 8) (by omega) (by omega), w64 (x := (a.length : Int) - 8 - q) (by omega) (by omega), Int.toNat_natCast]
          by_cases h20 : (a.length : Int) - 8 - q < 20
          · rw [if_pos (by simpa using h20), if_pos h20]; rfl
          · rw [if_neg (by simpa using h20), if_neg h20, HasPrefix_spec a _ hb (headB_bts _ _ hO.sums)]
            simp only [Option.bind_some]
            have hhl : (headB (sH a) (rdM (a.drop 8) (a.getD 7 0)).1).length = 8 + q + 20 := by
              unfold headB; rw [List.length_append, shaB_len, hbody]; simp; omega
            have hiff : a.take (headB (sH a) (rdM (a.drop 8) (a.getD 7 0)).1).length = headB (sH a) (rdM (a.drop 8) (a.getD 7 0)).1 ↔ (a.drop (8 + q)).take 20 = shaB (a.take (8 + q)) := by
              rw [hhl, take_add']
              unfold headB
              rw [hbody]
              constructor
              · intro h; exact List.append_cancel_left h
              · intro h; rw [h]
            by_cases hs : (a.drop (8 + q)).take 20 = shaB (a.take (8 + q))
            · rw [if_neg (by rw [decide_eq_true (hiff.2 hs)]; decide), if_neg (show ¬ (a.drop (8 + q)).take 20 ≠ shaB (a.take (8 + q)) by simp [hs]), hhl]
              congr 3
              simp; omega
            · rw [if_pos (by rw [decide_eq_false (fun h => hs (hiff.1 h))]; rfl), if_pos hs]; rfl
        · rw [if_pos (bne_iff_ne.2 hr), if_pos hr]; rfl
    · rw [if_pos (by simpa using hc), if_pos (.inr (.inl hc))]; rfl
  · rw [if_pos (by simp [hm]), if_pos (.inl hm)]; rfl
end Go.Ab

set_option linter.unusedVariables false
set_option linter.unusedSimpArgs false
set_option maxHeartbeats 1000000
namespace Go.Ab
attribute [local irreducible] IntKind.wrap
/-! ### 5. All blocks -/
def zL : D_api_Listing := ((0, (0, ())), ([], ([], ())))
def blkL (a : List Int) (s : D_api_Settings) (rs : List D_api_Record) : List D_api_Piece → Nat → List D_api_BlockHead → List D_api_Block → D_api_Listing × List D_api_Block × Int
  | [], p, hs, bs => if p < a.length then (zL, ([], 12)) else ((s, (rs, (hs, ()))), (bs, 0))
  | x :: ps, p, hs, bs => if (rdB (a.drop p)).2.2 ≠ 0 then (zL, ([], (rdB (a.drop p)).2.2)) else if ¬ isP (rdB (a.drop p)).1.1 x then (zL, ([], 32))
    else blkL a s rs ps (p + (rdB (a.drop p)).2.1.toNat) (hs ++ [(rdB (a.drop p)).1.1]) (bs ++ [(rdB (a.drop p)).1])
def allB (a : List Int) : D_api_Listing × List D_api_Block × Int :=
  if (hdP a).2.2.2 ≠ 0 then (zL, ([], (hdP a).2.2.2)) else blkL a (hdP a).1 (hdP a).2.1 (ap (hdP a).1.2.1 0 (hdP a).2.1) (hdP a).2.2.1.toNat [] []
/-- A block that is read. -/
theorem rdB_ok {c : List Int} (h : (rdB c).2.2 = 0) : hOK (rdB c).1.1 ∧ (rdB c).2.1 = 41 + (rdB c).1.1.2.2.2.2.1 ∧ (rdB c).2.1 ≤ c.length ∧ 41 ≤ c.length ∧ c.length ≤ 50000 ∧ c.take 13 = mark ∧
    rdB c = ((pH ((c.drop 13).take 28), ((c.drop 41).take (pH ((c.drop 13).take 28)).2.2.2.2.1.toNat, ())), (41 + (pH ((c.drop 13).take 28)).2.2.2.2.1, 0)) := by
  unfold rdB at h ⊢
  by_cases h1 : c.length > 50000
  · rw [if_pos h1] at h; simp at h
  · rw [if_neg h1] at h ⊢
    by_cases h2 : c.length < 41
    · rw [if_pos h2] at h; simp at h
    · rw [if_neg h2] at h ⊢
      by_cases h3 : c.take 13 ≠ mark ∨ ¬ hOK (pH ((c.drop 13).take 28))
      · rw [if_pos h3] at h; simp at h
      · rw [if_neg h3] at h ⊢
        by_cases h4 : (c.length : Int) < 41 + (pH ((c.drop 13).take 28)).2.2.2.2.1
        · rw [if_pos h4] at h; simp at h
        · rw [if_neg h4]
          simp only [ne_eq, not_or, Decidable.not_not] at h3
          exact ⟨h3.2, rfl, by simp only; omega, by omega, by omega, h3.1, rfl⟩
structure HeadOK (a : List Int) (l : List D_api_Record) (q : Nat) : Prop where
  eq : hdP a = (sH a, (l, (28 + (q : Int), 0)))
  le : 28 + q ≤ a.length
  big : a.length ≤ 50000
  magic : a.take 4 = magic
  chk : chk (sH a) = 0
  seven : a.getD 7 0 ≤ 16
  nn : 0 ≤ a.getD 7 0
  read : ReadOK (a.drop 8) (a.getD 7 0).toNat l q
  sum : (a.drop (8 + q)).take 20 = shaB (a.take (8 + q))
  rd : rdRs (a.drop 8) (a.getD 7 0).toNat 0 [] = (l, ((q : Int), 0))
theorem hdP_ok {a : List Int} (hb : Bts a) (h : (hdP a).2.2.2 = 0) : ∃ l q, HeadOK a l q := by
  have b7 := hb.getD 7
  unfold hdP at h
  by_cases h1 : a.length > 50000
  · rw [if_pos h1] at h; simp [hdE] at h
  rw [if_neg h1] at h
  by_cases h2 : a.length < 8
  · rw [if_pos h2] at h; simp [hdE] at h
  rw [if_neg h2] at h
  by_cases h3 : a.take 4 ≠ magic ∨ chk (sH a) ≠ 0 ∨ a.getD 7 0 > 16
  · rw [if_pos h3] at h; simp [hdE] at h
  rw [if_neg h3] at h
  have h3' := h3
  simp only [ne_eq, not_or, Decidable.not_not] at h3'
  obtain ⟨m1, m2, m3⟩ := h3'
  by_cases hr : (rdM (a.drop 8) (a.getD 7 0)).2.2 = 0
  · obtain ⟨q, hq, hO⟩ := rdM_ok (hb.drop 8) (by simp; omega) ⟨b7.1, by omega⟩ hr
    have hle := hO.le
    rw [List.length_drop] at hle
    rw [if_neg (fun h => h hr)] at h
    by_cases h20 : (a.length : Int) - 8 - (rdM (a.drop 8) (a.getD 7 0)).2.1 < 20
    · rw [if_pos h20] at h; simp [hdE] at h
    rw [if_neg h20] at h
    have hqn : (rdM (a.drop 8) (a.getD 7 0)).2.1.toNat = q := by omega
    by_cases hs : (a.drop (8 + (rdM (a.drop 8) (a.getD 7 0)).2.1.toNat)).take 20 ≠ shaB (a.take (8 + (rdM (a.drop 8) (a.getD 7 0)).2.1.toNat))
    · rw [if_pos hs] at h; simp [hdE] at h
    refine ⟨_, q, ?_, by omega, by omega, m1, m2, by omega, b7.1, hO, ?_, ?_⟩
    · unfold hdP
      rw [if_neg h1, if_neg h2, if_neg h3, if_neg (fun h => h hr), if_neg h20, if_neg hs, hq]
    · rw [hqn] at hs; simpa using hs
    · have e : rdM (a.drop 8) (a.getD 7 0) = rdRs (a.drop 8) (a.getD 7 0).toNat 0 [] := by unfold rdM; rw [if_neg (by omega), if_neg (by simp; omega)]
      rw [← e, ← hq]
      exact Prod.ext rfl (Prod.ext rfl hr)
  · rw [if_pos hr] at h; exact absurd h hr
theorem HeadOK.recsV {a l q} (h : HeadOK a l q) : RecsV l := valid_zero h.read.val
theorem HeadOK.blk {a l q} (h : HeadOK a l q) : 16 ≤ (sH a).2.1 ∧ (sH a).2.1 ≤ 4096 := chk_zero' h.chk
theorem all_c1 (a : List Int) (hb : Bts a) (hl : a.length ≤ 50000) (s t : D_api_Settings) (rs x1 : List D_api_Record) (x2 : List D_api_BlockHead) (ps : List D_api_Piece) (hps : ps.length ≤ 100000) : ∀ (k i p : Nat) (hs : List D_api_BlockHead) (bs : List D_api_Block), i + k = ps.length → p ≤ a.length → hs.length = i → bs.length = i →
    list_all_c1 a (p : Int) (ps.length : Int) (i : Int) t () s () bs ps x1 x2 rs hs = some (blkL a s rs (ps.drop i) p hs bs)
  | 0, i, p, hs, bs, e, hp, h1, h2 => by
    have hl' : Int.ofNat a.length = (a.length : Int) := rfl
    rw [list_all_c1_eq, if_neg (by simp; omega), List.drop_eq_nil_of_le (by omega), blkL, hl']
    by_cases h : p < a.length
    · rw [if_pos (by simp; omega), if_pos h]; rfl
    · rw [if_neg (by simp; omega), if_neg h]
  | k + 1, i, p, hs, bs, e, hp, h1, h2 => by
    have hl' : Int.ofNat a.length = (a.length : Int) := rfl
    have hl2 : Int.ofNat ps.length = (ps.length : Int) := rfl
    obtain ⟨d1, d2, d3⟩ := dropR_at (pzero T_api_Piece : D_api_Piece) (xs := ps) (i := i) (by omega)
    rw [list_all_c1_eq, if_pos (by simp; omega), gd_pos (by omega), gd_pos (by omega), gd_pos (by omega), gd_pos (by omega), Int.toNat_natCast, Int.toNat_natCast, block_Read_spec _ (hb.drop p), Nat.zero_add]
    simp only [Option.bind_some]
    rw [d1, blkL]
    generalize ps.getD i (pzero T_api_Piece) = pc
    by_cases hr : (rdB (a.drop p)).2.2 = 0
    · have hk := rdB_ok hr
      have hlen := hOK_len hk.1
      have hle := hk.2.2.1
      rw [List.length_drop] at hle
      rw [if_neg (by rw [hr]; decide), if_neg (fun h => h hr), list_is_spec]
      simp only [Option.bind_some]
      by_cases hi : isP (rdB (a.drop p)).1.1 pc
      · rw [if_neg (by rw [decide_eq_true hi]; decide), if_neg (fun h => h hi), gd_pos (by simp; omega), gd_pos (by simp; omega), w64 (by omega) (by omega), w64 (by omega) (by omega)]
        have ih := all_c1 a hb hl s t rs x1 x2 ps hps k (i + 1) (p + (rdB (a.drop p)).2.1.toNat) (hs ++ [(rdB (a.drop p)).1.1]) (bs ++ [(rdB (a.drop p)).1]) (by omega) (by omega) (by simp; omega) (by simp; omega)
        rw [show ((i + 1 : Nat) : Int) = (i : Int) + 1 by omega, show ((p + (rdB (a.drop p)).2.1.toNat : Nat) : Int) = (p : Int) + (rdB (a.drop p)).2.1 by omega] at ih
        exact ih
      · rw [if_pos (by rw [decide_eq_false hi]; rfl), if_pos hi]; rfl
    · rw [if_pos (bne_iff_ne.2 hr), if_pos hr]; rfl
theorem list_all_spec (a : List Int) (hb : Bts a) : list_all a = some (allB a) := by
  rw [list_all_eq, list_Head_spec a hb]
  simp only [Option.bind_some, allB]
  by_cases h : (hdP a).2.2.2 = 0
  · obtain ⟨l, q, hO⟩ := hdP_ok hb h
    rw [if_neg (by rw [h]; decide), if_neg (fun k => k h), hO.eq]
    simp only
    have hle := hO.le
    have hsm := ap_small (sH a).2.1 hO.blk.1 l hO.recsV
    rw [list_pieces_spec _ _ hO.blk hO.recsV]
    simp only [Option.bind_some]
    have := all_c1 a hb hO.big (sH a) (0, (0, ())) l [] [] (ap (sH a).2.1 0 l) (by omega) _ 0 (28 + q) [] [] (Nat.zero_add _) (by omega) rfl rfl
    rw [show ((28 + (q : Int))).toNat = 28 + q by omega]
    exact this
  · rw [if_pos (bne_iff_ne.2 h), if_pos h]; rfl
theorem list_List_spec (a : List Int) (hb : Bts a) : list_List a = some ((allB a).1, (allB a).2.2) := by rw [list_List_eq, list_all_spec a hb]; rfl
/-! ### 6. What stands there -/
/-- Blocks one behind the other. -/
def Std (a : List Int) (e : Nat) : Nat → List D_api_BlockHead → List D_api_Block → Prop
  | p, h :: hs, x :: bs => rdB (a.drop p) = (x, (41 + h.2.2.2.2.1, 0)) ∧ x.1 = h ∧ hOK h ∧ p ≤ a.length ∧ Std a e (p + (41 + h.2.2.2.2.1).toNat) hs bs
  | p, [], [] => p = e
  | _, _, _ => False
theorem blkL_ok (a : List Int) (s : D_api_Settings) (rs : List D_api_Record) : ∀ (ps : List D_api_Piece) (p : Nat) (hs : List D_api_BlockHead) (bs : List D_api_Block), p ≤ a.length → (blkL a s rs ps p hs bs).2.2 = 0 →
    ∃ hs' bs', blkL a s rs ps p hs bs = ((s, (rs, (hs ++ hs', ()))), (bs ++ bs', 0)) ∧ Std a a.length p hs' bs' ∧ hs'.length = ps.length ∧ bs'.length = ps.length ∧ ckL hs' ps = 0
  | [], p, hs, bs, hp, h => by
    simp only [blkL] at h ⊢
    by_cases hlt : p < a.length
    · rw [if_pos hlt] at h; simp at h
    · rw [if_neg hlt]
      exact ⟨[], [], by simp, by unfold Std; omega, rfl, rfl, rfl⟩
  | x :: ps, p, hs, bs, hp, h => by
    simp only [blkL] at h ⊢
    by_cases hr : (rdB (a.drop p)).2.2 = 0
    · have hk := rdB_ok hr
      have hlen := hOK_len hk.1
      have hle := hk.2.2.1
      rw [List.length_drop] at hle
      rw [if_neg (fun k => k hr)] at h ⊢
      by_cases hi : isP (rdB (a.drop p)).1.1 x
      · rw [if_neg (fun k => k hi)] at h ⊢
        obtain ⟨hs', bs', e1, e2, e3, e4, e5⟩ := blkL_ok a s rs ps _ _ _ (by omega) h
        refine ⟨(rdB (a.drop p)).1.1 :: hs', (rdB (a.drop p)).1 :: bs', by rw [e1]; simp, ?_, by simp [e3], by simp [e4], ?_⟩
        · refine ⟨Prod.ext rfl (Prod.ext hk.2.1 hr), rfl, hk.1, hp, ?_⟩
          rw [← hk.2.1]; exact e2
        · simp only [ckL]; rw [if_pos ⟨hk.1, hi⟩]; exact e5
      · rw [if_pos hi] at h; simp at h
    · rw [if_pos hr] at h; exact absurd h hr
structure AllOK (a : List Int) (rs : List D_api_Record) (q : Nat) (hs : List D_api_BlockHead) (bs : List D_api_Block) : Prop where
  head : HeadOK a rs q
  eq : allB a = ((sH a, (rs, (hs, ()))), (bs, 0))
  std : Std a a.length (28 + q) hs bs
  hlen : hs.length = (ap (sH a).2.1 0 rs).length
  blen : bs.length = (ap (sH a).2.1 0 rs).length
  ck : ckL hs (ap (sH a).2.1 0 rs) = 0
theorem allB_ok {a : List Int} (hb : Bts a) (h : (allB a).2.2 = 0) : ∃ rs q hs bs, AllOK a rs q hs bs := by
  unfold allB at h
  by_cases hh : (hdP a).2.2.2 = 0
  · obtain ⟨l, q, hO⟩ := hdP_ok hb hh
    rw [if_neg (fun k => k hh), hO.eq] at h
    simp only at h
    rw [show ((28 + (q : Int))).toNat = 28 + q by omega] at h
    obtain ⟨hs, bs, e1, e2, e3, e4, e5⟩ := blkL_ok a _ _ _ _ _ _ hO.le h
    refine ⟨l, q, hs, bs, hO, ?_, e2, e3, e4, e5⟩
    unfold allB
    rw [if_neg (fun k => k hh), hO.eq]
    simp only
    rw [show ((28 + (q : Int))).toNat = 28 + q by omega, e1]
    simp
  · rw [if_pos hh] at h; exact absurd h hh
theorem blkL_zL (a : List Int) (s : D_api_Settings) (rs : List D_api_Record) : ∀ (ps : List D_api_Piece) (p : Nat) (hs : List D_api_BlockHead) (bs : List D_api_Block), (blkL a s rs ps p hs bs).2.2 ≠ 0 → (blkL a s rs ps p hs bs).1 = zL ∧ (blkL a s rs ps p hs bs).2.1 = []
  | [], p, hs, bs, h => by
    simp only [blkL] at h ⊢
    by_cases hlt : p < a.length
    · rw [if_pos hlt]; exact ⟨rfl, rfl⟩
    · rw [if_neg hlt] at h; simp at h
  | x :: ps, p, hs, bs, h => by
    simp only [blkL] at h ⊢
    by_cases hr : (rdB (a.drop p)).2.2 = 0
    · rw [if_neg (fun k => k hr)] at h ⊢
      by_cases hi : isP (rdB (a.drop p)).1.1 x
      · rw [if_neg (fun k => k hi)] at h ⊢
        exact blkL_zL a s rs ps _ _ _ h
      · rw [if_pos hi]; exact ⟨rfl, rfl⟩
    · rw [if_pos hr]; exact ⟨rfl, rfl⟩
theorem allB_zL {a : List Int} (h : (allB a).2.2 ≠ 0) : (allB a).1 = zL ∧ (allB a).2.1 = [] := by
  unfold allB at h ⊢
  by_cases hh : (hdP a).2.2.2 = 0
  · rw [if_neg (fun k => k hh)] at h ⊢
    exact blkL_zL _ _ _ _ _ _ _ h
  · rw [if_pos hh]; exact ⟨rfl, rfl⟩
theorem allB_small {a : List Int} (hb : Bts a) : (allB a).1.2.1.length ≤ 16 ∧ (allB a).1.2.2.1.length ≤ 100000 ∧ (allB a).2.1.length ≤ 100000 := by
  by_cases h : (allB a).2.2 = 0
  · obtain ⟨rs, q, hs, bs, hO⟩ := allB_ok hb h
    have hsm := ap_small (sH a).2.1 hO.head.blk.1 rs hO.head.recsV
    have h1 := hO.hlen
    have h2 := hO.blen
    rw [hO.eq]
    exact ⟨hO.head.recsV.len, by simp only; omega, by simp only; omega⟩
  · obtain ⟨h1, h2⟩ := allB_zL h
    rw [h1, h2]; exact ⟨by decide, by decide, by decide⟩
/-! ### 7. The same is the same -/
theorem peq_head (r : D_api_BlockHead) : peq T_api_BlockHead r r = true := by
  simp only [peq, decide_true, Bool.true_and, Bool.and_true]
  exact peqL_refl _ (fun x => by simp [peq]) _
def zB : D_api_Block := (zH, ([], ()))
def blkAt (a : List Int) (i : Int) : D_api_Block × Int :=
  if (allB a).2.2 ≠ 0 then (zB, (allB a).2.2) else if i < 0 then (zB, 2) else if i ≥ ((allB a).2.1.length : Int) then (zB, 2) else ((allB a).2.1.getD i.toNat (pzero T_api_Block), 0)
theorem hdP_small {a : List Int} (hb : Bts a) : (hdP a).2.1.length ≤ 16 := by
  by_cases h : (hdP a).2.2.2 = 0
  · obtain ⟨l, q, hO⟩ := hdP_ok hb h
    rw [hO.eq]; exact hO.recsV.len
  · unfold hdP at h ⊢
    split; · simp [hdE]
    split; · simp [hdE]
    split; · simp [hdE]
    split; · simp [hdE]
    split; · simp [hdE]
    split; · simp [hdE]
    rename_i h1 h2 h3 h4 h5 h6
    rw [if_neg h1, if_neg h2, if_neg h3, if_neg h4, if_neg h5, if_neg h6] at h
    simp at h
end Go.Ab

set_option linter.unusedVariables false
set_option linter.unusedSimpArgs false
set_option maxHeartbeats 1000000
namespace Go.Ab
attribute [local irreducible] IntKind.wrap
/-! ### 8. Bytes behind others -/
theorem getD_app {a m : List Int} {i : Nat} (h : i < a.length) : (a ++ m).getD i 0 = a.getD i 0 := by
  simp only [List.getD_eq_getElem?_getD, List.getElem?_append_left h]
theorem td_app {a m : List Int} {p n : Nat} (h : p + n ≤ a.length) : ((a ++ m).drop p).take n = (a.drop p).take n := by
  rw [List.drop_append_of_le_length (by omega), List.take_append_of_le_length (by simp; omega)]
theorem rF_app {a m : List Int} {p : Nat} (h : rF a p) : rF (a ++ m) p ∧ rK (a ++ m) p = rK a p ∧ rR (a ++ m) p = rR a p := by
  obtain ⟨h1, h2⟩ := h
  have hk : rK (a ++ m) p = rK a p := by unfold rK; rw [getD_app h1]
  refine ⟨⟨by simp; omega, by rw [hk]; simp; omega⟩, hk, ?_⟩
  unfold rR
  rw [hk, td_app (by omega), td_app (by omega), getD_app (by omega), getD_app (by omega)]
theorem rdRs_app {a m : List Int} : ∀ (n p : Nat) (acc l : List D_api_Record) (q : Int), rdRs a n p acc = (l, (q, 0)) → rdRs (a ++ m) n p acc = (l, (q, 0))
  | 0, p, acc, l, q, h => h
  | n + 1, p, acc, l, q, h => by
    simp only [rdRs] at h ⊢
    by_cases hf : rF a p
    · obtain ⟨f1, f2, f3⟩ := rF_app (m := m) hf
      rw [if_pos hf] at h
      rw [if_pos f1, f2, f3]
      exact rdRs_app n _ _ l q h
    · rw [if_neg hf] at h; simp at h
theorem hdP_app {a m : List Int} (hm : (a ++ m).length ≤ 50000) {l : List D_api_Record} {q : Nat} (h : HeadOK a l q) : hdP (a ++ m) = (sH a, (l, (28 + (q : Int), 0))) := by
  have hle := h.le
  have hs : sH (a ++ m) = sH a := by unfold sH; rw [getD_app (by omega), getD_app (by omega), getD_app (by omega)]
  have h7 : (a ++ m).getD 7 0 = a.getD 7 0 := getD_app (by omega)
  have h4 : (a ++ m).take 4 = magic := by rw [List.take_append_of_le_length (by omega)]; exact h.magic
  have h8 : (a ++ m).drop 8 = a.drop 8 ++ m := List.drop_append_of_le_length (by omega)
  have hln : (a ++ m).length = a.length + m.length := List.length_append
  have hN := h.seven
  have hnn : ¬ (a.getD 7 0 < 0 ∨ a.getD 7 0 > 16) := by have := h.nn; omega
  have hr : rdM ((a ++ m).drop 8) ((a ++ m).getD 7 0) = (l, ((q : Int), 0)) := by
    unfold rdM
    rw [h7, if_neg hnn, h8, if_neg (by simp; omega)]
    exact rdRs_app _ _ _ _ _ h.rd
  unfold hdP
  rw [if_neg (by omega), if_neg (by omega), hs, h7, if_neg (show ¬ ((a ++ m).take 4 ≠ magic ∨ chk (sH a) ≠ 0 ∨ a.getD 7 0 > 16) from fun k => by rcases k with k | k | k; exact k h4; exact k h.chk; omega), ← h7, hr]
  simp only
  rw [if_neg (by simp), if_neg (by omega), Int.toNat_natCast, td_app (by omega), List.take_append_of_le_length (by omega), if_neg (by rw [h.sum]; simp)]
theorem rdB_app {c m : List Int} (hm : (c ++ m).length ≤ 50000) (h : (rdB c).2.2 = 0) : rdB (c ++ m) = rdB c := by
  obtain ⟨k1, k2, k3, k4, k5, k6, k7⟩ := rdB_ok h
  have e1 : ((c ++ m).drop 13).take 28 = (c.drop 13).take 28 := td_app (by omega)
  have e2 : (c ++ m).take 13 = mark := by rw [List.take_append_of_le_length (by omega)]; exact k6
  have hln : (c ++ m).length = c.length + m.length := List.length_append
  rw [k7] at k1 k2 k3
  simp only at k1 k2 k3
  have hlen := hOK_len k1
  rw [k7]
  unfold rdB
  rw [if_neg (by omega), if_neg (by omega), e1, e2, if_neg (show ¬ (mark ≠ mark ∨ ¬ hOK (pH ((c.drop 13).take 28))) from fun k => by rcases k with k | k; exact k rfl; exact k k1), if_neg (by omega), td_app (by omega)]
theorem blkL_app {a m : List Int} (hm : (a ++ m).length ≤ 50000) (hne : m ≠ []) (s : D_api_Settings) (rs : List D_api_Record) : ∀ (ps : List D_api_Piece) (p : Nat) (hs : List D_api_BlockHead) (bs : List D_api_Block), p ≤ a.length → (blkL a s rs ps p hs bs).2.2 = 0 →
    (blkL (a ++ m) s rs ps p hs bs).2.2 = 12
  | [], p, hs, bs, hp, h => by
    have : 0 < m.length := List.length_pos_iff.2 hne
    simp only [blkL]
    rw [if_pos (by simp; omega)]
  | x :: ps, p, hs, bs, hp, h => by
    simp only [blkL] at h ⊢
    have hdr : (a ++ m).drop p = a.drop p ++ m := List.drop_append_of_le_length hp
    by_cases hr : (rdB (a.drop p)).2.2 = 0
    · have hk := rdB_ok hr
      have hlen := hOK_len hk.1
      have hle := hk.2.2.1
      rw [List.length_drop] at hle
      have hB : rdB ((a ++ m).drop p) = rdB (a.drop p) := by rw [hdr]; exact rdB_app (by rw [List.length_append] at hm ⊢; simp; omega) hr
      rw [hB]
      rw [if_neg (fun k => k hr)] at h ⊢
      by_cases hi : isP (rdB (a.drop p)).1.1 x
      · rw [if_neg (fun k => k hi)] at h ⊢
        exact blkL_app hm hne s rs ps _ _ _ (by omega) h
      · rw [if_pos hi] at h; simp at h
    · rw [if_pos hr] at h; exact absurd h hr
theorem allB_app {a m : List Int} (hb : Bts a) (hm : (a ++ m).length ≤ 50000) (hne : m ≠ []) (h : (allB a).2.2 = 0) : (allB (a ++ m)).2.2 = 12 := by
  have h0 := h
  unfold allB at h
  by_cases hh : (hdP a).2.2.2 = 0
  · obtain ⟨l, q, hO⟩ := hdP_ok hb hh
    rw [if_neg (fun k => k hh), hO.eq] at h
    simp only at h
    rw [show ((28 + (q : Int))).toNat = 28 + q by omega] at h
    unfold allB
    rw [hdP_app hm hO]
    simp only
    rw [if_neg (by simp), show ((28 + (q : Int))).toNat = 28 + q by omega]
    exact blkL_app hm hne _ _ _ _ _ _ hO.le h
  · rw [if_pos hh] at h; exact absurd h hh
end Go.Ab

set_option linter.unusedVariables false
set_option linter.unusedSimpArgs false
set_option maxHeartbeats 1000000
namespace Go.Ab
attribute [local irreducible] IntKind.wrap
/-! ### 9. The chapter's examples -/
def s2 : D_api_Settings := (2, (16, ()))
def frt (x : Int) : List Int := [66, 76, 70, 1, x, 0, 16, 0]
theorem bodyB_s2 : bodyB s2 [] = frt 2 := by decide +kernel
theorem head_any (x : Int) (hx : 0 ≤ x ∧ x ≤ 7) (d m : List Int) (hd : d.length = 20) (hm : m.length ≤ 100) : hdP (frt x ++ (d ++ m)) = if d = shaB (frt x) then ((x, (16, ())), ([], (28, 0))) else hdE 22 := by
  have hl : (frt x ++ (d ++ m)).length = 28 + m.length := by simp [frt, hd]; omega
  have hs : sH (frt x ++ (d ++ m)) = (x, (16, ())) := rfl
  have h7 : (frt x ++ (d ++ m)).getD 7 0 = 0 := rfl
  have h4 : (frt x ++ (d ++ m)).take 4 = magic := rfl
  have h8 : (frt x ++ (d ++ m)).drop 8 = d ++ m := rfl
  have ht : (frt x ++ (d ++ m)).take 8 = frt x := rfl
  have hc : chk ((x, (16, ())) : D_api_Settings) = 0 := by unfold chk; rw [if_pos]; exact ⟨hx.1, hx.2, by simp, by simp⟩
  have hr : rdM (d ++ m) 0 = ([], (0, 0)) := by
    unfold rdM
    rw [if_neg (by omega), if_neg (by simp [hd]; omega)]
    rfl
  unfold hdP
  rw [if_neg (by omega), if_neg (by omega), hs, h7, h8, hr, if_neg (show ¬ ((frt x ++ (d ++ m)).take 4 ≠ magic ∨ chk ((x, (16, ())) : D_api_Settings) ≠ 0 ∨ (0 : Int) > 16) from fun k => by rcases k with k | k | k; exact k h4; exact k hc; omega)]
  simp only
  rw [if_neg (by simp), if_neg (by omega), show 8 + (0 : Int).toNat = 8 from rfl, h8, ht, List.take_append_of_le_length (by omega), List.take_of_length_le (by omega)]
  by_cases h : d = shaB (frt x)
  · rw [if_neg (by simp [h]), if_pos h]; rfl
  · rw [if_pos h, if_neg h]
theorem head_short (x : Int) (hx : 0 ≤ x ∧ x ≤ 7) (d : List Int) (hd : d.length = 19) : hdP (frt x ++ d) = hdE 18 := by
  have hl : (frt x ++ d).length = 27 := by simp [frt, hd]
  have hs : sH (frt x ++ d) = (x, (16, ())) := rfl
  have h7 : (frt x ++ d).getD 7 0 = 0 := rfl
  have h4 : (frt x ++ d).take 4 = magic := rfl
  have h8 : (frt x ++ d).drop 8 = d := rfl
  have hc : chk ((x, (16, ())) : D_api_Settings) = 0 := by unfold chk; rw [if_pos]; exact ⟨hx.1, hx.2, by simp, by simp⟩
  have hr : rdM d 0 = ([], (0, 0)) := by
    unfold rdM
    rw [if_neg (by omega), if_neg (by simp [hd])]
    rfl
  unfold hdP
  rw [if_neg (by omega), if_neg (by omega), hs, h7, h8, hr, if_neg (show ¬ ((frt x ++ d).take 4 ≠ magic ∨ chk ((x, (16, ())) : D_api_Settings) ≠ 0 ∨ (0 : Int) > 16) from fun k => by rcases k with k | k | k; exact k h4; exact k hc; omega)]
  simp only
  rw [if_neg (by simp), if_pos (by omega)]
theorem sha_23 : ¬ shaB (frt 2) = shaB (frt 3) := by decide +kernel
theorem frt_bts (x : Int) (hx : 0 ≤ x ∧ x ≤ 7) : Bts (frt x) := by intro y hy; simp [frt] at hy; omega
theorem allB_none {a : List Int} {s : D_api_Settings} (h : hdP a = (s, ([], (28, 0)))) : allB a = if 28 < a.length then (zL, ([], 12)) else ((s, ([], ([], ()))), ([], 0)) := by
  unfold allB
  rw [h]
  rfl
theorem allB_err {a : List Int} {e : Int} (h : hdP a = hdE e) (he : e ≠ 0) : (allB a).2.2 = e := by
  unfold allB
  rw [h, if_pos (show (hdE e).2.2.2 ≠ 0 from he)]; rfl
/-! ### 10. The laws -/
theorem recsB_q {a : List Int} {l : List D_api_Record} {q : Nat} (h : HeadOK a l q) : hsum l = q := by
  have := recsB_len l h.read.sums
  rw [h.read.bytes] at this
  have hle := h.read.le
  rw [List.length_take, Nat.min_eq_left hle] at this
  omega
theorem allB_lck {a : List Int} {rs q hs bs} (h : AllOK a rs q hs bs) : lck (sH a, (rs, (hs, ()))) = 0 := by
  unfold lck
  rw [if_neg (fun k => k h.head.chk), if_neg (fun k => k h.head.read.val), if_neg (fun k => k h.hlen.symm)]
  exact h.ck
end Go.Ab

set_option linter.unusedVariables false
set_option linter.unusedSimpArgs false
set_option maxHeartbeats 1000000
namespace Go.Ab
attribute [local irreducible] IntKind.wrap
/-! ### 1. Scripts: valid harms -/
theorem dropT {α : Type} (z : α) {xs : List α} {i : Nat} (h : i < xs.length) : xs.drop i = xs.getD i z :: xs.drop (i + 1) ∧ xs.getD i z ∈ xs := by
  have e : xs.getD i z = xs[i] := by simp [List.getD_eq_getElem?_getD, List.getElem?_eq_getElem h]
  rw [e]
  exact ⟨List.drop_eq_getElem_cons h, List.getElem_mem h⟩
def HVc (k p n : Int) (m : Nat) : Prop :=
  0 ≤ p ∧ ((k = 1 ∧ 0 ≤ n ∧ n < 256 ∧ m = 0) ∨ (k = 2 ∧ 0 ≤ n ∧ m = 0) ∨ (k = 3 ∧ n = 0 ∧ m ≤ 200) ∨ (k = 4 ∧ n = 0 ∧ m = 0))
instance (k p n : Int) (m : Nat) : Decidable (HVc k p n m) := by unfold HVc; infer_instance
def HV (h : D_api_Harm) : Prop := HVc h.1 h.2.1 h.2.2.1 h.2.2.2.1.length
instance (h : D_api_Harm) : Decidable (HV h) := by unfold HV; infer_instance
theorem valid_core (k p n : Int) (m : Nat) : (if (k == (1 : Int)) = true then
    if (decide (p ≥ (0 : Int))) = true then
      if (decide (n ≥ (0 : Int))) = true then
        if (decide (n < (256 : Int))) = true then some ((Int.ofNat m) == (0 : Int)) else some (false)
      else some (false)
    else some (false)
  else
    if (k == (2 : Int)) = true then
      if (decide (p ≥ (0 : Int))) = true then
        if (decide (n ≥ (0 : Int))) = true then some ((Int.ofNat m) == (0 : Int)) else some (false)
      else some (false)
    else
      if (k == (3 : Int)) = true then
        if (decide (p ≥ (0 : Int))) = true then
          if (n == (0 : Int)) = true then some (decide ((Int.ofNat m) ≤ (200 : Int))) else some (false)
        else some (false)
      else
        if (k == (4 : Int)) = true then
          if (decide (p ≥ (0 : Int))) = true then
            if (n == (0 : Int)) = true then some ((Int.ofNat m) == (0 : Int)) else some (false)
          else some (false)
        else some (false)) = some (decide (HVc k p n m)) := by
  have hm : Int.ofNat m = (m : Int) := rfl
  simp only [decide_eq_true_eq, beq_iff_eq, hm]
  repeat' split
  all_goals
    refine congrArg some (Bool.eq_iff_iff.2 (Iff.trans ?_ decide_eq_true_iff.symm))
    unfold HVc
    simp only [decide_eq_true_eq, beq_iff_eq, bne_iff_ne, ne_eq, Bool.false_eq_true, false_iff] at *
    omega
theorem damage_valid_spec (h : D_api_Harm) : damage_valid h = some (decide (HV h)) := by
  rw [damage_valid_eq]; exact valid_core h.1 h.2.1 h.2.2.1 h.2.2.2.1.length
theorem rvalid_core (k p n : Int) (m : Nat) : (if (decide (p < (0 : Int))) = true then some (false)
  else
    if (decide ((Int.ofNat m) > (0 : Int))) = true then
      if (k != (3 : Int)) = true then some (false)
      else
        if (k == (1 : Int)) = true then
          if (decide (n ≥ (0 : Int))) = true then some (decide (n ≤ (255 : Int))) else some (false)
        else
          if (k == (2 : Int)) = true then some (decide (n ≥ (0 : Int)))
          else
            if (k == (3 : Int)) = true then
              if (n == (0 : Int)) = true then some (decide ((Int.ofNat m) ≤ (200 : Int))) else some (false)
            else
              if (k == (4 : Int)) = true then some (n == (0 : Int)) else some (false)
    else
      if (k == (1 : Int)) = true then
        if (decide (n ≥ (0 : Int))) = true then some (decide (n ≤ (255 : Int))) else some (false)
      else
        if (k == (2 : Int)) = true then some (decide (n ≥ (0 : Int)))
        else
          if (k == (3 : Int)) = true then
            if (n == (0 : Int)) = true then some (decide ((Int.ofNat m) ≤ (200 : Int))) else some (false)
          else
            if (k == (4 : Int)) = true then some (n == (0 : Int)) else some (false)) = some (decide (HVc k p n m)) := by
  have hm : Int.ofNat m = (m : Int) := rfl
  simp only [decide_eq_true_eq, beq_iff_eq, bne_iff_ne, hm]
  repeat' split
  all_goals
    refine congrArg some (Bool.eq_iff_iff.2 (Iff.trans ?_ decide_eq_true_iff.symm))
    unfold HVc
    simp only [decide_eq_true_eq, beq_iff_eq, bne_iff_ne, ne_eq, Bool.false_eq_true, false_iff] at *
    omega
def chk35 (l : List D_api_Harm) : Int := if 20 < l.length then 4 else if ∀ h ∈ l, HV h then 0 else 8
theorem index_c1 (l : List D_api_Harm) (hl : l.length ≤ 20) : ∀ (k i : Nat), i + k = l.length → ∃ r : Int, slices_IndexFunc_api_Harm_api_Harm_c1 l (l.length : Int) (i : Int) = some r ∧ (0 ≤ r ↔ ¬ ∀ h ∈ l.drop i, HV h)
  | 0, i, e => ⟨-1, by rw [slices_IndexFunc_api_Harm_api_Harm_c1_eq, if_neg (by simp; omega)], by rw [List.drop_of_length_le (by omega)]; simp⟩
  | k + 1, i, e => by
    obtain ⟨d1, d2⟩ := dropT (pzero T_api_Harm : D_api_Harm) (xs := l) (i := i) (by omega)
    obtain ⟨r, h1, h2⟩ := index_c1 l hl k (i + 1) (by omega)
    rw [show ((i + 1 : Nat) : Int) = (i : Int) + 1 by omega] at h1
    have hl' : Int.ofNat l.length = (l.length : Int) := rfl
    rw [slices_IndexFunc_api_Harm_api_Harm_c1_eq, if_pos (by simp; omega), gd_pos (by omega), gd_pos (by rw [hl']; omega), Int.toNat_natCast, damage_Check_1_eq, damage_valid_spec, d1]
    generalize List.getD l i (pzero T_api_Harm) = h at *
    simp only [Option.bind_some, List.forall_mem_cons]
    by_cases hv : HV h
    · rw [if_neg (by simp [hv]), w64 (by omega) (by omega), h1]
      exact ⟨r, rfl, by simp only [hv, true_and]; exact h2⟩
    · rw [if_pos (by simp [hv])]
      exact ⟨i, rfl, by simp [hv]⟩
theorem damage_Check_spec (l : List D_api_Harm) : damage_Check l = some (chk35 l) := by
  have hl' : Int.ofNat l.length = (l.length : Int) := rfl
  rw [damage_Check_eq]
  unfold chk35
  by_cases h : 20 < l.length
  · rw [if_pos (by simp; omega), if_pos h]
  · rw [if_neg (by simp; omega), if_neg h, slices_ContainsFunc_api_Harm_api_Harm_eq, slices_IndexFunc_api_Harm_api_Harm_eq]
    obtain ⟨r, h1, h2⟩ := index_c1 l (by omega) l.length 0 (by omega)
    rw [hl', show (0 : Int) = ((0 : Nat) : Int) from rfl, h1]
    rw [List.drop_zero] at h2
    simp only [Option.bind_some]
    by_cases hv : ∀ h ∈ l, HV h
    · rw [if_neg (by simp only [decide_eq_true_eq]; exact fun h3 => (h2.1 h3) hv), if_pos hv]
    · rw [if_pos (by simp only [decide_eq_true_eq]; exact h2.2 hv), if_neg hv]
/-! ### 2. What harms leave -/
def st {α : Type} (f : Int → α) (l : List α) (h : D_api_Harm) : Option (List α) :=
  if h.1 = 1 then if h.2.1 < l.length then some (l.set h.2.1.toNat (f h.2.2.1)) else none
  else if h.1 = 2 then if h.2.1 ≤ l.length ∧ h.2.2.1 ≤ l.length - h.2.1 then some (l.take h.2.1.toNat ++ l.drop (h.2.1 + h.2.2.1).toNat) else none
  else if h.1 = 3 then if h.2.1 ≤ l.length ∧ l.length + (h.2.2.2.1.length : Int) ≤ 50000 then some (l.take h.2.1.toNat ++ h.2.2.2.1.map f ++ l.drop h.2.1.toNat) else none
  else if h.2.1 ≤ l.length then some (l.take h.2.1.toNat) else none
def sts {α : Type} (f : Int → α) : List α → List D_api_Harm → Option (List α)
  | l, [] => some l
  | l, h :: r => (st f l h).bind fun l' => sts f l' r
theorem sts_append {α : Type} (f : Int → α) : ∀ (l : List α) (a b : List D_api_Harm), sts f l (a ++ b) = (sts f l a).bind fun l' => sts f l' b
  | l, [], b => rfl
  | l, h :: r, b => by
    simp only [List.cons_append, sts]
    cases st f l h with
    | none => rfl
    | some l' => exact sts_append f l' r b
theorem st_map {α β : Type} (f : Int → α) (g : α → β) (l : List α) (h : D_api_Harm) : (st f l h).map (List.map g) = st (fun x => g (f x)) (l.map g) h := by
  unfold st
  simp only [List.length_map]
  repeat' split
  all_goals simp [List.map_set, List.map_take, List.map_drop]
theorem sts_map {α β : Type} (f : Int → α) (g : α → β) : ∀ (l : List α) (hs : List D_api_Harm), (sts f l hs).map (List.map g) = sts (fun x => g (f x)) (l.map g) hs
  | l, [] => rfl
  | l, h :: r => by
    simp only [sts]
    rw [← st_map]
    cases st f l h with
    | none => rfl
    | some l' => exact sts_map f g l' r
theorem st_len {α : Type} {f : Int → α} {l l' : List α} {h : D_api_Harm} (hv : HV h) (hl : l.length ≤ 50000) (e : st f l h = some l') : l'.length ≤ 50000 := by
  unfold st at e
  have h0 := hv.1
  have h2 : h.1 = 2 → (0 : Int) ≤ h.2.2.1 := fun hk => by
    rcases hv.2 with hh | hh | hh | hh
    · exact hh.2.1
    · exact hh.2.1
    · rw [hh.2.1]; decide
    · rw [hh.2.1]; decide
  repeat' split at e
  all_goals first | (injection e with e; subst e; simp only [List.length_set, List.length_append, List.length_take, List.length_drop, List.length_map]; omega) | cases e | (injection e with e; subst e; simp only [List.length_append, List.length_take, List.length_drop]; have h3 := h2 (by assumption); omega)
theorem sts_len {α : Type} {f : Int → α} : ∀ {l l' : List α} {hs : List D_api_Harm}, (∀ h ∈ hs, HV h) → l.length ≤ 50000 → sts f l hs = some l' → l'.length ≤ 50000
  | l, l', [], _, hl, e => by injection e with e; subst e; exact hl
  | l, l', h :: r, hv, hl, e => by
    simp only [sts] at e
    cases h1 : st f l h with
    | none => rw [h1] at e; cases e
    | some l1 => rw [h1] at e; exact sts_len (fun h hh => hv h (List.mem_cons_of_mem _ hh)) (st_len (hv h List.mem_cons_self) hl h1) e
end Go.Ab

set_option linter.unusedVariables false
set_option linter.unusedSimpArgs false
set_option maxHeartbeats 1000000
namespace Go.Ab
attribute [local irreducible] IntKind.wrap
theorem takeT {α : Type} (z : α) {xs : List α} {i : Nat} (h : i < xs.length) : xs.take (i + 1) = xs.take i ++ [xs.getD i z] := by
  have e : xs.getD i z = xs[i] := by simp [List.getD_eq_getElem?_getD, List.getElem?_eq_getElem h]
  rw [e, List.take_add_one, List.getElem?_eq_getElem h]; rfl
theorem u8id {n : Int} (h0 : 0 ≤ n) (h1 : n < 256) : IntKind.wrap .u8 n = n := by rw [wu8, Int.emod_eq_of_lt h0 h1]
def ps (n : Int) (h : D_api_Harm) : Prop := (h.1 = 1 ∧ h.2.1 < n) ∨ (h.1 = 2 ∧ h.2.1 ≤ n ∧ h.2.2.1 ≤ n - h.2.1) ∨ (h.1 = 3 ∧ h.2.1 ≤ n ∧ n + (h.2.2.2.1.length : Int) ≤ 50000) ∨ (h.1 = 4 ∧ h.2.1 ≤ n)
instance (n : Int) (h : D_api_Harm) : Decidable (ps n h) := by unfold ps; infer_instance
theorem possible_spec {n : Int} {h : D_api_Harm} (hv : HV h) (h0 : 0 ≤ n) (h1 : n ≤ 50000) : damage_possible n h = some (decide (ps n h)) := by
  rw [damage_possible_eq]
  obtain ⟨hp, hv⟩ := hv
  have hof : Int.ofNat h.2.2.2.1.length = (h.2.2.2.1.length : Int) := rfl
  rcases hv with ⟨hk, hn0, hn1, hm⟩ | ⟨hk, hn0, hm⟩ | ⟨hk, hn0, hm⟩ | ⟨hk, hn0, hm⟩
  · rw [if_pos (by rw [hk]; rfl)]
    refine congrArg some (decide_eq_decide.2 ?_)
    unfold ps
    rw [hk]
    simp
  · rw [if_neg (by rw [hk]; decide), if_pos (by rw [hk]; rfl)]
    have e : ps n h ↔ (h.2.1 ≤ n ∧ h.2.2.1 ≤ n - h.2.1) := by unfold ps; rw [hk]; simp
    by_cases h2 : h.2.1 ≤ n
    · rw [if_pos (decide_eq_true h2), w64 (by omega) (by omega)]
      refine congrArg some (decide_eq_decide.2 ?_)
      rw [e]
      exact ⟨fun h => ⟨h2, h⟩, fun h => h.2⟩
    · rw [if_neg (by simp only [decide_eq_true_eq]; exact h2)]
      refine congrArg some (decide_eq_false ?_).symm
      rw [e]; exact fun h => h2 h.1
  · rw [if_neg (by rw [hk]; decide), if_neg (by rw [hk]; decide), if_pos (by rw [hk]; rfl), hof]
    have e : ps n h ↔ (h.2.1 ≤ n ∧ n + (h.2.2.2.1.length : Int) ≤ 50000) := by unfold ps; rw [hk]; simp
    by_cases h2 : h.2.1 ≤ n
    · rw [if_pos (decide_eq_true h2), w64 (by omega) (by omega)]
      refine congrArg some (decide_eq_decide.2 ?_)
      rw [e]
      exact ⟨fun h => ⟨h2, h⟩, fun h => h.2⟩
    · rw [if_neg (by simp only [decide_eq_true_eq]; exact h2)]
      refine congrArg some (decide_eq_false ?_).symm
      rw [e]; exact fun h => h2 h.1
  · rw [if_neg (by rw [hk]; decide), if_neg (by rw [hk]; decide), if_neg (by rw [hk]; decide)]
    refine congrArg some (decide_eq_decide.2 ?_)
    unfold ps
    rw [hk]
    simp
theorem ps1 {n : Int} {h : D_api_Harm} (hk : h.1 = 1) (hp : ps n h) : h.2.1 < n := by
  unfold ps at hp; rw [hk] at hp; simpa using hp
theorem ps2 {n : Int} {h : D_api_Harm} (hk : h.1 = 2) (hp : ps n h) : h.2.1 ≤ n ∧ h.2.2.1 ≤ n - h.2.1 := by
  unfold ps at hp; rw [hk] at hp; simpa using hp
theorem ps3 {n : Int} {h : D_api_Harm} (hk : h.1 = 3) (hp : ps n h) : h.2.1 ≤ n ∧ n + (h.2.2.2.1.length : Int) ≤ 50000 := by
  unfold ps at hp; rw [hk] at hp; simpa using hp
theorem ps4 {n : Int} {h : D_api_Harm} (hk : h.1 = 4) (hp : ps n h) : h.2.1 ≤ n := by
  unfold ps at hp; rw [hk] at hp; simpa using hp
section
variable {α : Type} (f : Int → α) (l : List α) {h : D_api_Harm}
theorem st1 (hk : h.1 = 1) (hq : h.2.1 < (l.length : Int)) : st f l h = some (l.set h.2.1.toNat (f h.2.2.1)) := by
  unfold st; rw [if_pos hk, if_pos hq]
theorem st2 (hk : h.1 = 2) (hq : h.2.1 ≤ (l.length : Int) ∧ h.2.2.1 ≤ (l.length : Int) - h.2.1) : st f l h = some (l.take h.2.1.toNat ++ l.drop (h.2.1 + h.2.2.1).toNat) := by
  unfold st; rw [if_neg (by rw [hk]; decide), if_pos hk, if_pos hq]
theorem st3 (hk : h.1 = 3) (hq : h.2.1 ≤ (l.length : Int) ∧ (l.length : Int) + (h.2.2.2.1.length : Int) ≤ 50000) : st f l h = some (l.take h.2.1.toNat ++ h.2.2.2.1.map f ++ l.drop h.2.1.toNat) := by
  unfold st; rw [if_neg (by rw [hk]; decide), if_neg (by rw [hk]; decide), if_pos hk, if_pos hq]
theorem st4 (hk : h.1 = 4) (hq : h.2.1 ≤ (l.length : Int)) : st f l h = some (l.take h.2.1.toNat) := by
  unfold st; rw [if_neg (by rw [hk]; decide), if_neg (by rw [hk]; decide), if_neg (by rw [hk]; decide), if_pos hq]
theorem stN (hv : HV h) (hp : ¬ ps (l.length : Int) h) : st f l h = none := by
  unfold ps at hp
  unfold st
  rcases hv.2 with ⟨hk, _⟩ | ⟨hk, _⟩ | ⟨hk, _⟩ | ⟨hk, _⟩ <;> rw [hk] at hp ⊢ <;> simp only [true_and, false_and, or_false, false_or, reduceCtorEq, Int.reduceEq] at hp ⊢
  · rw [if_pos trivial, if_neg hp]
  · rw [if_neg (by decide), if_pos trivial, if_neg hp]
  · rw [if_neg (by decide), if_neg (by decide), if_pos trivial, if_neg hp]
  · rw [if_neg (by decide), if_neg (by decide), if_neg (by decide), if_neg hp]
end
def outp : Option (List Int) → List Int × Int
  | some r => (r, 0)
  | none => ([], 16)

def fB : Int → Int := fun x => x
theorem putB (x : Int) : damage_Apply_1 x = some (fB x) := by rw [damage_Apply_1_eq]; rfl
theorem cloneB (l : List Int) (hl : l.length ≤ 50000) : slices_Clone_byte_byte l = some l := by
  rw [slices_Clone_byte_byte_eq]
  refine anyv_eq false (fun h => by cases h) fun r hr => ?_
  cases r with
  | true => rw [if_pos rfl, hr rfl]
  | false => rw [if_neg (by simp), gd_pos (by simp; omega)]; rfl
theorem delB {l : List Int} {p n : Int} (hp : 0 ≤ p) (hn : 0 ≤ n) (h : p + n ≤ l.length) (hl : l.length ≤ 50000) : slices_Delete_u8 l p (IntKind.wrap .i64 (p + n)) = some (l.take p.toNat ++ l.drop (p + n).toNat) := by
  rw [w64 (by omega) (by omega)]
  unfold slices_Delete_u8
  rw [if_pos (by omega)]
theorem insB {l bs : List Int} {p : Int} (hp : 0 ≤ p) (h : p ≤ l.length) (hl : l.length ≤ 50000) (hb : bs.length ≤ 200) : slices_Insert_u8 l p bs = some (l.take p.toNat ++ bs ++ l.drop p.toNat) := by
  unfold slices_Insert_u8
  rw [if_pos (by omega)]
theorem damage_do_byte_c2s (hs : List D_api_Harm) (a b : Int) (bs : List Int) (hb : bs.length ≤ 200) (l : List Int) (h : D_api_Harm) : ∀ (k j : Nat), j + k = bs.length →
    damage_do_byte_c2 hs a b bs (bs.length : Int) (j : Int) l h ((bs.take j).map fB) = (slices_Insert_u8 l h.2.1 (bs.map fB)).bind fun r => damage_do_byte_c1 hs a (IntKind.wrap .i64 (b + 1)) r
  | 0, j, e => by rw [damage_do_byte_c2_eq, if_neg (by simp; omega), show bs.take j = bs from List.take_of_length_le (by omega)]
  | k + 1, j, e => by
    have ih := damage_do_byte_c2s hs a b bs hb l h k (j + 1) (by omega)
    rw [show ((j + 1 : Nat) : Int) = (j : Int) + 1 by omega] at ih
    have hz : (bs.take j).map fB ++ [fB (List.getD bs j 0)] = (bs.take (j + 1)).map fB := by
      rw [takeT (0 : Int) (show j < bs.length by omega), List.map_append]; rfl
    rw [damage_do_byte_c2_eq, if_pos (by simp; omega), gd_pos (by omega), gd_pos (by simp; omega), Int.toNat_natCast, putB]
    simp only [Option.bind_some]
    rw [hz, gd_pos (by rw [List.length_map, List.length_take]; omega), w64 (by omega) (by omega), ih]
theorem damage_do_byte_c4s (o n : Nat) (hs : List D_api_Harm) (a b : Int) (bs : List Int) (hb : bs.length ≤ 200) (l : List Int) (h : D_api_Harm) : ∀ (k j : Nat), j + k = bs.length →
    damage_do_byte_c4 o n hs a b bs (bs.length : Int) (j : Int) l h ((bs.take j).map fB) = (slices_Insert_u8 (List.take n (List.drop o l)) h.2.1 (bs.map fB)).bind fun r => damage_do_byte_c1 hs a (IntKind.wrap .i64 (b + 1)) r
  | 0, j, e => by rw [damage_do_byte_c4_eq, if_neg (by simp; omega), show bs.take j = bs from List.take_of_length_le (by omega)]
  | k + 1, j, e => by
    have ih := damage_do_byte_c4s o n hs a b bs hb l h k (j + 1) (by omega)
    rw [show ((j + 1 : Nat) : Int) = (j : Int) + 1 by omega] at ih
    have hz : (bs.take j).map fB ++ [fB (List.getD bs j 0)] = (bs.take (j + 1)).map fB := by
      rw [takeT (0 : Int) (show j < bs.length by omega), List.map_append]; rfl
    rw [damage_do_byte_c4_eq, if_pos (by simp; omega), gd_pos (by omega), gd_pos (by simp; omega), Int.toNat_natCast, putB]
    simp only [Option.bind_some]
    rw [hz, gd_pos (by rw [List.length_map, List.length_take]; omega), w64 (by omega) (by omega), ih]
theorem damage_do_byte_loops (hs : List D_api_Harm) (hl : hs.length ≤ 20) (hv : ∀ h ∈ hs, HV h) : ∀ (k i : Nat), i + k = hs.length →
    (∀ l : List Int, l.length ≤ 50000 → damage_do_byte_c1 hs (hs.length : Int) (i : Int) l = some (outp (sts fB l (hs.drop i)))) ∧
    (∀ (o n : Nat) (l : List Int), o + n ≤ l.length → n ≤ 50000 → damage_do_byte_c3 o n hs (hs.length : Int) (i : Int) l = some (outp (sts fB (List.take n (List.drop o l)) (hs.drop i))))
  | 0, i, e => by
    constructor
    · intro l h1
      rw [damage_do_byte_c1_eq, if_neg (by simp; omega), show hs.drop i = [] from List.drop_of_length_le (by omega)]; rfl
    · intro o n l h1 h2
      rw [damage_do_byte_c3_eq, if_neg (by simp; omega), show hs.drop i = [] from List.drop_of_length_le (by omega)]; rfl
  | k + 1, i, e => by
    obtain ⟨d1, d2⟩ := dropT (pzero T_api_Harm : D_api_Harm) (xs := hs) (i := i) (by omega)
    obtain ⟨ih1, ih3⟩ := damage_do_byte_loops hs hl hv k (i + 1) (by omega)
    have hl' : Int.ofNat hs.length = (hs.length : Int) := rfl
    have hi : ((i + 1 : Nat) : Int) = (i : Int) + 1 := by omega
    rw [hi] at ih1 ih3
    have hvh := hv _ d2
    rw [d1]
    constructor
    · intro l h1
      have hll : Int.ofNat l.length = (l.length : Int) := rfl
      rw [damage_do_byte_c1_eq, if_pos (by simp; omega), gd_pos (by omega), gd_pos (by rw [hl']; omega), Int.toNat_natCast, hll]
      generalize List.getD hs i (pzero T_api_Harm) = h at *
      rw [possible_spec hvh (by omega) (by omega)]
      simp only [Option.bind_some, sts]
      by_cases hp : ps (l.length : Int) h
      · rw [if_neg (by simp [hp])]
        rcases hvh.2 with ⟨hk, hn0, hn1, hm⟩ | ⟨hk, hn0, hm⟩ | ⟨hk, hn0, hm⟩ | ⟨hk, hn0, hm⟩
        · have hq := ps1 hk hp
          rw [if_pos (by rw [hk]; rfl), putB]
          simp only [Option.bind_some]
          rw [gd_pos hvh.1, gd_pos hq, w64 (by omega) (by omega), Nat.zero_add, u8id hn0 hn1, st1 _ _ hk hq, ih1 _ (by rw [List.length_set]; exact h1)]; rfl
        · have hq := ps2 hk hp
          rw [if_neg (by rw [hk]; decide), if_pos (by rw [hk]; rfl), delB hvh.1 hn0 (by omega) h1]
          simp only [Option.bind_some]
          have h2 := st2 fB l hk hq
          rw [w64 (by omega) (by omega), ih1 _ (st_len hvh h1 h2), h2]; rfl
        · have hq := ps3 hk hp
          have hc2 := damage_do_byte_c2s hs (hs.length : Int) (i : Int) h.2.2.2.1 hm l h h.2.2.2.1.length 0 (by omega)
          have h2 := st3 fB l hk hq
          rw [if_neg (by rw [hk]; decide), if_neg (by rw [hk]; decide), if_pos (by rw [hk]; rfl)]
          refine Eq.trans hc2 ?_
          rw [insB hvh.1 hq.1 h1 (by rw [List.length_map]; exact hm)]
          simp only [Option.bind_some]
          rw [w64 (by omega) (by omega), ih1 _ (st_len hvh h1 h2), h2]; rfl
        · have hq := ps4 hk hp
          rw [if_neg (by rw [hk]; decide), if_neg (by rw [hk]; decide), if_neg (by rw [hk]; decide), if_pos (by rw [hk]; rfl), gd_pos hvh.1, gd_pos hq, w64 (by omega) (by omega), st4 _ _ hk hq, Nat.sub_zero,
            ih3 0 _ l (by have := hq; have := hvh.1; omega) (by have := hq; have := hvh.1; omega)]; rfl
      · rw [if_pos (by simp [hp]), stN _ _ hvh hp]; rfl
    · intro o n l hon h1
      have hll : Int.ofNat n = (n : Int) := rfl
      have hzl : (List.take n (List.drop o l)).length = n := by rw [List.length_take, List.length_drop]; omega
      rw [damage_do_byte_c3_eq, if_pos (by simp; omega), gd_pos (by omega), gd_pos (by rw [hl']; omega), Int.toNat_natCast, hll]
      generalize List.getD hs i (pzero T_api_Harm) = h at *
      rw [possible_spec hvh (by omega) (by omega)]
      simp only [Option.bind_some, sts]
      generalize hz : List.take n (List.drop o l) = z at *
      rw [show (n : Int) = (z.length : Int) by rw [hzl]]
      have h1' : z.length ≤ 50000 := by omega
      by_cases hp : ps (z.length : Int) h
      · rw [if_neg (by simp [hp])]
        rcases hvh.2 with ⟨hk, hn0, hn1, hm⟩ | ⟨hk, hn0, hm⟩ | ⟨hk, hn0, hm⟩ | ⟨hk, hn0, hm⟩
        · have hq := ps1 hk hp
          rw [if_pos (by rw [hk]; rfl), putB]
          simp only [Option.bind_some]
          rw [gd_pos hvh.1, gd_pos hq, w64 (by omega) (by omega), u8id hn0 hn1, st1 _ _ hk hq, ih3 _ _ _ (by rw [List.length_set]; exact hon) h1, List.drop_set, if_neg (by omega), Nat.add_sub_cancel_left, List.take_set, hz]; rfl
        · have hq := ps2 hk hp
          rw [if_neg (by rw [hk]; decide), if_pos (by rw [hk]; rfl), delB hvh.1 hn0 (by omega) h1']
          simp only [Option.bind_some]
          have h2 := st2 fB z hk hq
          rw [w64 (by omega) (by omega), ih1 _ (st_len hvh h1' h2), h2]; rfl
        · have hq := ps3 hk hp
          have hc2 := damage_do_byte_c4s o n hs (hs.length : Int) (i : Int) h.2.2.2.1 hm l h h.2.2.2.1.length 0 (by omega)
          have h2 := st3 fB z hk hq
          rw [hz] at hc2
          rw [if_neg (by rw [hk]; decide), if_neg (by rw [hk]; decide), if_pos (by rw [hk]; rfl)]
          refine Eq.trans hc2 ?_
          rw [insB hvh.1 hq.1 h1' (by rw [List.length_map]; exact hm)]
          simp only [Option.bind_some]
          rw [w64 (by omega) (by omega), ih1 _ (st_len hvh h1' h2), h2]; rfl
        · have hq := ps4 hk hp
          rw [if_neg (by rw [hk]; decide), if_neg (by rw [hk]; decide), if_neg (by rw [hk]; decide), if_pos (by rw [hk]; rfl), gd_pos hvh.1, gd_pos hq, w64 (by omega) (by omega), st4 _ _ hk hq, Nat.sub_zero, Nat.add_zero,
            ih3 o _ l (by have := hq; have := hvh.1; omega) (by have := hq; have := hvh.1; omega), ← hz, List.take_take, Nat.min_eq_left (by have := hq; have := hvh.1; omega)]; rfl
      · rw [if_pos (by simp [hp]), stN _ _ hvh hp]; rfl
theorem damage_do_byte_spec (l : List Int) (hs : List D_api_Harm) (hl : hs.length ≤ 20) (hv : ∀ h ∈ hs, HV h) (h1 : l.length ≤ 50000) : damage_do_byte l hs = some (outp (sts fB l hs)) := by
  rw [damage_do_byte_eq, cloneB l h1]
  exact (damage_do_byte_loops hs hl hv hs.length 0 (by omega)).1 l h1

def fI : Int → Int := fun _ => -1
theorem putI (x : Int) : damage_Origins_1 x = some (fI x) := by rw [damage_Origins_1_eq]; rfl
theorem cloneI (l : List Int) (hl : l.length ≤ 50000) : slices_Clone_int_int l = some l := by
  rw [slices_Clone_int_int_eq]
  refine anyv_eq false (fun h => by cases h) fun r hr => ?_
  cases r with
  | true => rw [if_pos rfl, hr rfl]
  | false => rw [if_neg (by simp), gd_pos (by simp; omega)]; rfl
theorem delI {l : List Int} {p n : Int} (hp : 0 ≤ p) (hn : 0 ≤ n) (h : p + n ≤ l.length) (hl : l.length ≤ 50000) : slices_Delete_i64 l p (IntKind.wrap .i64 (p + n)) = some (l.take p.toNat ++ l.drop (p + n).toNat) := by
  rw [w64 (by omega) (by omega)]
  unfold slices_Delete_i64
  rw [if_pos (by omega)]
theorem insI {l bs : List Int} {p : Int} (hp : 0 ≤ p) (h : p ≤ l.length) (hl : l.length ≤ 50000) (hb : bs.length ≤ 200) : slices_Insert_i64 l p bs = some (l.take p.toNat ++ bs ++ l.drop p.toNat) := by
  unfold slices_Insert_i64
  rw [if_pos (by omega)]
theorem damage_do_int_c2s (hs : List D_api_Harm) (a b : Int) (bs : List Int) (hb : bs.length ≤ 200) (l : List Int) (h : D_api_Harm) : ∀ (k j : Nat), j + k = bs.length →
    damage_do_int_c2 hs a b bs (bs.length : Int) (j : Int) l h ((bs.take j).map fI) = (slices_Insert_i64 l h.2.1 (bs.map fI)).bind fun r => damage_do_int_c1 hs a (IntKind.wrap .i64 (b + 1)) r
  | 0, j, e => by rw [damage_do_int_c2_eq, if_neg (by simp; omega), show bs.take j = bs from List.take_of_length_le (by omega)]
  | k + 1, j, e => by
    have ih := damage_do_int_c2s hs a b bs hb l h k (j + 1) (by omega)
    rw [show ((j + 1 : Nat) : Int) = (j : Int) + 1 by omega] at ih
    have hz : (bs.take j).map fI ++ [fI (List.getD bs j 0)] = (bs.take (j + 1)).map fI := by
      rw [takeT (0 : Int) (show j < bs.length by omega), List.map_append]; rfl
    rw [damage_do_int_c2_eq, if_pos (by simp; omega), gd_pos (by omega), gd_pos (by simp; omega), Int.toNat_natCast, putI]
    simp only [Option.bind_some]
    rw [hz, gd_pos (by rw [List.length_map, List.length_take]; omega), w64 (by omega) (by omega), ih]
theorem damage_do_int_c4s (o n : Nat) (hs : List D_api_Harm) (a b : Int) (bs : List Int) (hb : bs.length ≤ 200) (l : List Int) (h : D_api_Harm) : ∀ (k j : Nat), j + k = bs.length →
    damage_do_int_c4 o n hs a b bs (bs.length : Int) (j : Int) l h ((bs.take j).map fI) = (slices_Insert_i64 (List.take n (List.drop o l)) h.2.1 (bs.map fI)).bind fun r => damage_do_int_c1 hs a (IntKind.wrap .i64 (b + 1)) r
  | 0, j, e => by rw [damage_do_int_c4_eq, if_neg (by simp; omega), show bs.take j = bs from List.take_of_length_le (by omega)]
  | k + 1, j, e => by
    have ih := damage_do_int_c4s o n hs a b bs hb l h k (j + 1) (by omega)
    rw [show ((j + 1 : Nat) : Int) = (j : Int) + 1 by omega] at ih
    have hz : (bs.take j).map fI ++ [fI (List.getD bs j 0)] = (bs.take (j + 1)).map fI := by
      rw [takeT (0 : Int) (show j < bs.length by omega), List.map_append]; rfl
    rw [damage_do_int_c4_eq, if_pos (by simp; omega), gd_pos (by omega), gd_pos (by simp; omega), Int.toNat_natCast, putI]
    simp only [Option.bind_some]
    rw [hz, gd_pos (by rw [List.length_map, List.length_take]; omega), w64 (by omega) (by omega), ih]
theorem damage_do_int_loops (hs : List D_api_Harm) (hl : hs.length ≤ 20) (hv : ∀ h ∈ hs, HV h) : ∀ (k i : Nat), i + k = hs.length →
    (∀ l : List Int, l.length ≤ 50000 → damage_do_int_c1 hs (hs.length : Int) (i : Int) l = some (outp (sts fI l (hs.drop i)))) ∧
    (∀ (o n : Nat) (l : List Int), o + n ≤ l.length → n ≤ 50000 → damage_do_int_c3 o n hs (hs.length : Int) (i : Int) l = some (outp (sts fI (List.take n (List.drop o l)) (hs.drop i))))
  | 0, i, e => by
    constructor
    · intro l h1
      rw [damage_do_int_c1_eq, if_neg (by simp; omega), show hs.drop i = [] from List.drop_of_length_le (by omega)]; rfl
    · intro o n l h1 h2
      rw [damage_do_int_c3_eq, if_neg (by simp; omega), show hs.drop i = [] from List.drop_of_length_le (by omega)]; rfl
  | k + 1, i, e => by
    obtain ⟨d1, d2⟩ := dropT (pzero T_api_Harm : D_api_Harm) (xs := hs) (i := i) (by omega)
    obtain ⟨ih1, ih3⟩ := damage_do_int_loops hs hl hv k (i + 1) (by omega)
    have hl' : Int.ofNat hs.length = (hs.length : Int) := rfl
    have hi : ((i + 1 : Nat) : Int) = (i : Int) + 1 := by omega
    rw [hi] at ih1 ih3
    have hvh := hv _ d2
    rw [d1]
    constructor
    · intro l h1
      have hll : Int.ofNat l.length = (l.length : Int) := rfl
      rw [damage_do_int_c1_eq, if_pos (by simp; omega), gd_pos (by omega), gd_pos (by rw [hl']; omega), Int.toNat_natCast, hll]
      generalize List.getD hs i (pzero T_api_Harm) = h at *
      rw [possible_spec hvh (by omega) (by omega)]
      simp only [Option.bind_some, sts]
      by_cases hp : ps (l.length : Int) h
      · rw [if_neg (by simp [hp])]
        rcases hvh.2 with ⟨hk, hn0, hn1, hm⟩ | ⟨hk, hn0, hm⟩ | ⟨hk, hn0, hm⟩ | ⟨hk, hn0, hm⟩
        · have hq := ps1 hk hp
          rw [if_pos (by rw [hk]; rfl), putI]
          simp only [Option.bind_some]
          rw [gd_pos hvh.1, gd_pos hq, w64 (by omega) (by omega), Nat.zero_add, u8id hn0 hn1, st1 _ _ hk hq, ih1 _ (by rw [List.length_set]; exact h1)]; rfl
        · have hq := ps2 hk hp
          rw [if_neg (by rw [hk]; decide), if_pos (by rw [hk]; rfl), delI hvh.1 hn0 (by omega) h1]
          simp only [Option.bind_some]
          have h2 := st2 fI l hk hq
          rw [w64 (by omega) (by omega), ih1 _ (st_len hvh h1 h2), h2]; rfl
        · have hq := ps3 hk hp
          have hc2 := damage_do_int_c2s hs (hs.length : Int) (i : Int) h.2.2.2.1 hm l h h.2.2.2.1.length 0 (by omega)
          have h2 := st3 fI l hk hq
          rw [if_neg (by rw [hk]; decide), if_neg (by rw [hk]; decide), if_pos (by rw [hk]; rfl)]
          refine Eq.trans hc2 ?_
          rw [insI hvh.1 hq.1 h1 (by rw [List.length_map]; exact hm)]
          simp only [Option.bind_some]
          rw [w64 (by omega) (by omega), ih1 _ (st_len hvh h1 h2), h2]; rfl
        · have hq := ps4 hk hp
          rw [if_neg (by rw [hk]; decide), if_neg (by rw [hk]; decide), if_neg (by rw [hk]; decide), if_pos (by rw [hk]; rfl), gd_pos hvh.1, gd_pos hq, w64 (by omega) (by omega), st4 _ _ hk hq, Nat.sub_zero,
            ih3 0 _ l (by have := hq; have := hvh.1; omega) (by have := hq; have := hvh.1; omega)]; rfl
      · rw [if_pos (by simp [hp]), stN _ _ hvh hp]; rfl
    · intro o n l hon h1
      have hll : Int.ofNat n = (n : Int) := rfl
      have hzl : (List.take n (List.drop o l)).length = n := by rw [List.length_take, List.length_drop]; omega
      rw [damage_do_int_c3_eq, if_pos (by simp; omega), gd_pos (by omega), gd_pos (by rw [hl']; omega), Int.toNat_natCast, hll]
      generalize List.getD hs i (pzero T_api_Harm) = h at *
      rw [possible_spec hvh (by omega) (by omega)]
      simp only [Option.bind_some, sts]
      generalize hz : List.take n (List.drop o l) = z at *
      rw [show (n : Int) = (z.length : Int) by rw [hzl]]
      have h1' : z.length ≤ 50000 := by omega
      by_cases hp : ps (z.length : Int) h
      · rw [if_neg (by simp [hp])]
        rcases hvh.2 with ⟨hk, hn0, hn1, hm⟩ | ⟨hk, hn0, hm⟩ | ⟨hk, hn0, hm⟩ | ⟨hk, hn0, hm⟩
        · have hq := ps1 hk hp
          rw [if_pos (by rw [hk]; rfl), putI]
          simp only [Option.bind_some]
          rw [gd_pos hvh.1, gd_pos hq, w64 (by omega) (by omega), u8id hn0 hn1, st1 _ _ hk hq, ih3 _ _ _ (by rw [List.length_set]; exact hon) h1, List.drop_set, if_neg (by omega), Nat.add_sub_cancel_left, List.take_set, hz]; rfl
        · have hq := ps2 hk hp
          rw [if_neg (by rw [hk]; decide), if_pos (by rw [hk]; rfl), delI hvh.1 hn0 (by omega) h1']
          simp only [Option.bind_some]
          have h2 := st2 fI z hk hq
          rw [w64 (by omega) (by omega), ih1 _ (st_len hvh h1' h2), h2]; rfl
        · have hq := ps3 hk hp
          have hc2 := damage_do_int_c4s o n hs (hs.length : Int) (i : Int) h.2.2.2.1 hm l h h.2.2.2.1.length 0 (by omega)
          have h2 := st3 fI z hk hq
          rw [hz] at hc2
          rw [if_neg (by rw [hk]; decide), if_neg (by rw [hk]; decide), if_pos (by rw [hk]; rfl)]
          refine Eq.trans hc2 ?_
          rw [insI hvh.1 hq.1 h1' (by rw [List.length_map]; exact hm)]
          simp only [Option.bind_some]
          rw [w64 (by omega) (by omega), ih1 _ (st_len hvh h1' h2), h2]; rfl
        · have hq := ps4 hk hp
          rw [if_neg (by rw [hk]; decide), if_neg (by rw [hk]; decide), if_neg (by rw [hk]; decide), if_pos (by rw [hk]; rfl), gd_pos hvh.1, gd_pos hq, w64 (by omega) (by omega), st4 _ _ hk hq, Nat.sub_zero, Nat.add_zero,
            ih3 o _ l (by have := hq; have := hvh.1; omega) (by have := hq; have := hvh.1; omega), ← hz, List.take_take, Nat.min_eq_left (by have := hq; have := hvh.1; omega)]; rfl
      · rw [if_pos (by simp [hp]), stN _ _ hvh hp]; rfl
theorem damage_do_int_spec (l : List Int) (hs : List D_api_Harm) (hl : hs.length ≤ 20) (hv : ∀ h ∈ hs, HV h) (h1 : l.length ≤ 50000) : damage_do_int l hs = some (outp (sts fI l hs)) := by
  rw [damage_do_int_eq, cloneI l h1]
  exact (damage_do_int_loops hs hl hv hs.length 0 (by omega)).1 l h1
end Go.Ab

set_option linter.unusedVariables false
set_option linter.unusedSimpArgs false
set_option maxHeartbeats 1000000
namespace Go.Ab
attribute [local irreducible] IntKind.wrap
/-! ### The reference -/
def upto : Int → Nat → List Int
  | _, 0 => []
  | i, n + 1 => i :: upto (i + 1) n
theorem upto_len : ∀ (n : Nat) (i : Int), (upto i n).length = n
  | 0, _ => rfl
  | n + 1, i => by simp [upto, upto_len n]
theorem upto_app : ∀ (n : Nat) (i : Int), upto i (n + 1) = upto i n ++ [i + n]
  | 0, i => by simp [upto]
  | n + 1, i => by
    rw [upto, upto_app n (i + 1), upto]
    simp only [List.cons_append]
    rw [show i + 1 + (n : Int) = i + ((n + 1 : Nat) : Int) by omega]
/-! ### What Apply and Origins return -/
theorem chk0 {l : List D_api_Harm} (h : chk35 l = 0) : l.length ≤ 20 ∧ ∀ x ∈ l, HV x := by
  unfold chk35 at h
  split at h
  · cases h
  · split at h
    · rename_i h1 h2; exact ⟨by omega, h2⟩
    · cases h
def app (b : List Int) (l : List D_api_Harm) : List Int × Int :=
  if chk35 l ≠ 0 then ([], chk35 l) else if 50000 < b.length then ([], 4) else outp (sts fB b l)
def org (n : Int) (l : List D_api_Harm) : List Int × Int :=
  if chk35 l ≠ 0 then ([], chk35 l) else if n < 0 ∨ 50000 < n then ([], 2) else outp (sts fI (upto 0 n.toNat) l)
theorem Apply_spec (b : List Int) (l : List D_api_Harm) : damage_Apply b l = some (app b l) := by
  rw [damage_Apply_eq, damage_Check_spec]
  simp only [Option.bind_some]
  unfold app
  by_cases h : chk35 l = 0
  · obtain ⟨h1, h2⟩ := chk0 h
    rw [if_neg (by rw [h]; decide), if_neg (show ¬ chk35 l ≠ 0 from fun k => k h)]
    by_cases hb : 50000 < b.length
    · rw [if_pos (by simp; omega), if_pos hb]
    · rw [if_neg (by simp; omega), if_neg hb, damage_do_byte_spec b l h1 h2 (by omega)]; rfl
  · rw [if_pos (bne_iff_ne.2 h), if_pos h]
theorem Origins_fill (hs : List D_api_Harm) (n : Nat) (hn : n ≤ 50000) : ∀ (k j : Nat), j + k = n → damage_Origins_c1 hs (n : Int) (j : Int) (upto 0 j ++ List.replicate k 0) = (damage_do_int (upto 0 n) hs).bind fun r => some r
  | 0, j, e => by
    rw [damage_Origins_c1_eq, if_neg (by simp; omega)]
    obtain rfl : j = n := by omega
    rw [List.replicate_zero, List.append_nil]
  | k + 1, j, e => by
    have ih := Origins_fill hs n hn k (j + 1) (by omega)
    rw [show ((j + 1 : Nat) : Int) = (j : Int) + 1 by omega] at ih
    have hs2 : List.set (upto 0 j ++ List.replicate (k + 1) 0) j (j : Int) = upto 0 (j + 1) ++ List.replicate k 0 := by
      rw [List.set_append_right _ _ (by rw [upto_len]; omega), upto_len, Nat.sub_self, List.replicate_succ, List.set_cons_zero, upto_app, List.append_assoc, Int.zero_add]; rfl
    have hof : Int.ofNat (upto 0 j ++ List.replicate (k + 1) (0 : Int)).length = (n : Int) := by
      rw [List.length_append, upto_len, List.length_replicate]
      show ((j + (k + 1) : Nat) : Int) = n
      omega
    rw [damage_Origins_c1_eq, if_pos (by simp; omega), gd_pos (by omega), gd_pos (by rw [hof]; omega), Int.toNat_natCast, Nat.zero_add, hs2, w64 (by omega) (by omega), ih]
theorem Origins_spec (n : Int) (l : List D_api_Harm) : damage_Origins n l = some (org n l) := by
  rw [damage_Origins_eq, damage_Check_spec]
  simp only [Option.bind_some]
  unfold org
  by_cases h : chk35 l = 0
  · obtain ⟨h1, h2⟩ := chk0 h
    rw [if_neg (by rw [h]; decide), if_neg (show ¬ chk35 l ≠ 0 from fun k => k h)]
    by_cases hn : n < 0
    · rw [if_pos (decide_eq_true hn), if_pos (.inl hn)]
    · by_cases hn2 : 50000 < n
      · rw [if_neg (by simp only [decide_eq_true_eq]; exact hn), if_pos (decide_eq_true hn2), if_pos (.inr hn2)]
      · rw [if_neg (by simp only [decide_eq_true_eq]; exact hn), if_neg (by simp only [decide_eq_true_eq]; omega), if_neg (by omega), gd_pos trivial, gd_pos (by omega), gd_pos (by omega), gd_pos (by omega)]
        have hf := Origins_fill l n.toNat (by omega) n.toNat 0 (by omega)
        rw [damage_do_int_spec _ l h1 h2 (by rw [upto_len]; omega)] at hf
        rw [List.length_replicate]
        exact hf
  · rw [if_pos (bne_iff_ne.2 h), if_pos h]
end Go.Ab

set_option linter.unusedVariables false
set_option linter.unusedSimpArgs false
set_option maxHeartbeats 1000000
namespace Go.Ab
attribute [local irreducible] IntKind.wrap
theorem SameInts_c1 (l : List Int) (hl : l.length ≤ 140737488355328) : ∀ (k i : Nat), i + k = l.length → bitloftref25_SameInts_c1 l l (i : Int) = some true
  | 0, i, e => by rw [bitloftref25_SameInts_c1_eq, if_neg (by simp; omega)]
  | k + 1, i, e => by
    have ih := SameInts_c1 l hl k (i + 1) (by omega)
    rw [show ((i + 1 : Nat) : Int) = (i : Int) + 1 by omega] at ih
    have hof : Int.ofNat l.length = (l.length : Int) := rfl
    rw [bitloftref25_SameInts_c1_eq, if_pos (by simp; omega), gd_pos (by omega), gd_pos (by rw [hof]; omega), gd_pos (by omega), gd_pos (by rw [hof]; omega), if_neg (by simp), w64 (by omega) (by omega), ih]
theorem SameInts_self (l : List Int) (hl : l.length ≤ 140737488355328) : bitloftref25_SameInts l l = some true := by
  rw [bitloftref25_SameInts_eq, if_neg (by simp)]
  exact SameInts_c1 l hl l.length 0 (by omega)
theorem outp_len {o : Option (List Int)} (h : ∀ r, o = some r → r.length ≤ 50000) : (outp o).1.length ≤ 50000 := by
  cases o with
  | none => exact Nat.zero_le _
  | some r => exact h r rfl
theorem org_len (n : Int) (l : List D_api_Harm) : (org n l).1.length ≤ 50000 := by
  unfold org
  by_cases h : chk35 l = 0
  · obtain ⟨h1, h2⟩ := chk0 h
    rw [if_neg (show ¬ chk35 l ≠ 0 from fun k => k h)]
    split
    · exact Nat.zero_le _
    · exact outp_len fun r hr => sts_len h2 (by rw [upto_len]; omega) hr
  · rw [if_pos h]; exact Nat.zero_le _
theorem sts_true : True := trivial
end Go.Ab

set_option linter.unusedVariables false
set_option linter.unusedSimpArgs false
set_option maxHeartbeats 1000000
namespace Go.Ab
attribute [local irreducible] IntKind.wrap
/-! ### Ranges that survive -/
def idx : List Int → Int → Int → Int
  | [], _, _ => -1
  | y :: r, x, i => if x = y then i else idx r x (i + 1)
theorem Index_c1_t (o : List Int) (x : Int) (ho : o.length ≤ 50000) : ∀ (k i : Nat), i + k = o.length → slices_Index_int_int_c1 o x (o.length : Int) (i : Int) = some (idx (o.drop i) x i)
  | 0, i, e => by rw [slices_Index_int_int_c1_eq, if_neg (by simp; omega), show o.drop i = [] from List.drop_of_length_le (by omega)]; rfl
  | k + 1, i, e => by
    obtain ⟨d1, d2⟩ := dropT (0 : Int) (xs := o) (i := i) (by omega)
    have ih := Index_c1_t o x ho k (i + 1) (by omega)
    rw [show ((i + 1 : Nat) : Int) = (i : Int) + 1 by omega] at ih
    have hof : Int.ofNat o.length = (o.length : Int) := rfl
    rw [slices_Index_int_int_c1_eq, if_pos (by simp; omega), gd_pos (by omega), gd_pos (by rw [hof]; omega), Int.toNat_natCast, d1]
    generalize List.getD o i 0 = y at *
    by_cases h : x = y
    · rw [if_pos (beq_iff_eq.2 h)]; simp only [idx]; rw [if_pos h]
    · rw [if_neg (fun k => h (beq_iff_eq.1 k)), w64 (by omega) (by omega), ih]; simp only [idx]; rw [if_neg h]
theorem Index_spec (o : List Int) (x : Int) (ho : o.length ≤ 50000) : slices_Index_int_int o x = some (idx o x 0) := by
  rw [slices_Index_int_int_eq]; exact Index_c1_t o x ho o.length 0 (by omega)
theorem idx_is : ∀ (o : List Int) (x i : Int), idx o x i = -1 ∨ ∃ k : Nat, k < o.length ∧ idx o x i = i + k ∧ o.getD k 0 = x
  | [], x, i => .inl rfl
  | y :: r, x, i => by
    simp only [idx]
    by_cases h : x = y
    · rw [if_pos h]; exact .inr ⟨0, by simp, by simp, by simpa using h.symm⟩
    · rw [if_neg h]
      rcases idx_is r x (i + 1) with h1 | ⟨k, h1, h2, h3⟩
      · exact .inl h1
      · exact .inr ⟨k + 1, by simp only [List.length_cons]; omega, by omega, by simpa using h3⟩
/-- Where a range survives. -/
def lf (o : List Int) (p : D_api_Piece) : Option Int :=
  let a := idx o p.2.1 0
  if a < 0 then none else if (o.length : Int) < a + p.2.2.1 then none else if (o.drop a.toNat).take p.2.2.1.toNat = upto p.2.1 p.2.2.1.toNat then some a else none
def lfs (o : List Int) : List D_api_Piece → Int → List D_api_Piece
  | [], _ => []
  | p :: r, i => match lf o p with
    | some a => (i, (a, (p.2.2.1, ()))) :: lfs o r (i + 1)
    | none => lfs o r (i + 1)
def RG (n : Int) (p : D_api_Piece) : Prop := (0 : Int) ≤ p.2.1 ∧ (1 : Int) ≤ p.2.2.1 ∧ (p.2.1 : Int) + p.2.2.1 ≤ n
instance (n : Int) (p : D_api_Piece) : Decidable (RG n p) := by unfold RG; infer_instance
theorem lfs_len (o : List Int) : ∀ (l : List D_api_Piece) (i : Int), (lfs o l i).length ≤ l.length
  | [], _ => Nat.le_refl _
  | p :: r, i => by
    simp only [lfs]
    have := lfs_len o r (i + 1)
    split <;> simp only [List.length_cons] <;> omega
theorem left_c2 (o : List Int) (i a : Int) (rs : List D_api_Piece) (c d : Int) (z : List Int) (hz : z.length ≤ 50000) (h8 : List D_api_Piece) (p : D_api_Piece) (hp0 : (0 : Int) ≤ p.2.1) (hp1 : (p.2.1 : Int) ≤ 50000) : ∀ (k j : Nat) (fl : Bool), j + k = z.length → fl = decide (z.take j = upto p.2.1 j) →
    damage_left_c2 o i a fl rs c d z (z.length : Int) (j : Int) h8 p = damage_left_c2 o i a (decide (z = upto p.2.1 z.length)) rs c d z (z.length : Int) (z.length : Int) h8 p
  | 0, j, fl, e, hf => by
    obtain rfl : j = z.length := by omega
    rw [List.take_length] at hf
    rw [hf]
  | k + 1, j, fl, e, hf => by
    have hof : Int.ofNat z.length = (z.length : Int) := rfl
    have hq : decide (z.take (j + 1) = upto p.2.1 (j + 1)) = (fl && (z.getD j 0 == p.2.1 + (j : Int))) := by
      rw [takeT (0 : Int) (show j < z.length by omega), upto_app, hf, Bool.eq_iff_iff]
      simp only [decide_eq_true_eq, Bool.and_eq_true, beq_iff_eq]
      constructor
      · intro h
        have := List.append_inj h (by rw [List.length_take, upto_len]; omega)
        exact ⟨this.1, by simpa using this.2⟩
      · rintro ⟨h1, h2⟩
        rw [h1, h2]
    have ih := left_c2 o i a rs c d z hz h8 p hp0 hp1 k (j + 1) _ (by omega) rfl
    rw [show ((j + 1 : Nat) : Int) = (j : Int) + 1 by omega, hq] at ih
    rw [damage_left_c2_eq o i a fl, if_pos (by simp; omega), gd_pos (by omega), gd_pos (by rw [hof]; omega), Int.toNat_natCast, w64 (x := (j : Int) + 1) (by omega) (by omega)]
    cases fl with
    | true =>
      rw [if_pos rfl, w64 (by omega) (by omega)]
      rw [Bool.true_and] at ih
      exact ih
    | false =>
      rw [if_neg (by simp)]
      rw [Bool.false_and] at ih
      exact ih
theorem left_c1 (o : List Int) (ho : o.length ≤ 50000) (rs : List D_api_Piece) (hr : rs.length ≤ 600) (n : Int) (hn : n ≤ 50000) (hg : ∀ p ∈ rs, RG n p) : ∀ (k i : Nat) (acc : List D_api_Piece), i + k = rs.length → acc.length ≤ i →
    damage_left_c1 o rs (rs.length : Int) (i : Int) acc = some (acc ++ lfs o (rs.drop i) i)
  | 0, i, acc, e, ha => by rw [damage_left_c1_eq, if_neg (by simp; omega), show rs.drop i = [] from List.drop_of_length_le (by omega)]; simp [lfs]
  | k + 1, i, acc, e, ha => by
    obtain ⟨d1, d2⟩ := dropT (pzero T_api_Piece : D_api_Piece) (xs := rs) (i := i) (by omega)
    have hgp := hg _ d2
    have ih := fun acc ha => left_c1 o ho rs hr n hn hg k (i + 1) acc (by omega) ha
    rw [show ((i + 1 : Nat) : Int) = (i : Int) + 1 by omega] at ih
    have hof : Int.ofNat rs.length = (rs.length : Int) := rfl
    have hofo : Int.ofNat o.length = (o.length : Int) := rfl
    rw [damage_left_c1_eq, if_pos (by simp; omega), gd_pos (by omega), gd_pos (by rw [hof]; omega), Int.toNat_natCast, d1, hofo]
    generalize List.getD rs i (pzero T_api_Piece) = p at *
    obtain ⟨g1, g2, g3⟩ := hgp
    rw [Index_spec o _ ho]
    simp only [Option.bind_some, lfs]
    unfold lf
    simp only
    rw [w64 (x := (i : Int) + 1) (by omega) (by omega)]
    rcases idx_is o p.2.1 0 with h1 | ⟨q, h1, h2, h3⟩
    · rw [h1, if_pos (by decide), if_pos (by decide), ih acc (by omega)]
    · rw [h2, Int.zero_add, if_neg (by simp only [decide_eq_true_eq]; omega), if_neg (show ¬ ((q : Int) < 0) by omega), w64 (x := (q : Int) + p.2.2.1) (by omega) (by omega)]
      by_cases h4 : (o.length : Int) < (q : Int) + p.2.2.1
      · rw [if_pos (decide_eq_true h4), if_pos h4, ih acc (by omega)]
      · have hz : List.take (((q : Int) + p.2.2.1).toNat - (q : Int).toNat) (List.drop (q : Int).toNat o) = (o.drop q).take p.2.2.1.toNat := by
          rw [Int.toNat_natCast]; congr 1; omega
        have hzl : ((o.drop q).take p.2.2.1.toNat).length = p.2.2.1.toNat := by rw [List.length_take, List.length_drop]; omega
        rw [if_neg (by simp only [decide_eq_true_eq]; exact h4), if_neg h4, gd_pos (by omega), gd_pos (by omega), gd_pos (by omega), hz, Int.toNat_natCast]
        generalize (o.drop q).take p.2.2.1.toNat = z at *
        have hc2 := left_c2 o (i : Int) (q : Int) rs (rs.length : Int) (i : Int) z (by omega) acc p g1 (by omega) z.length 0 true (by omega) (by simp [upto])
        refine Eq.trans hc2 ?_
        rw [damage_left_c2_eq, if_neg (by simp), hzl, w64 (x := (i : Int) + 1) (by omega) (by omega)]
        by_cases h5 : z = upto p.2.1 p.2.2.1.toNat
        · rw [if_pos (decide_eq_true h5), if_pos h5, gd_pos (by simp only [List.length_append, List.length_singleton]; omega), ih _ (by simp only [List.length_append, List.length_singleton]; omega), List.append_assoc]; rfl
        · rw [if_neg (by simp only [decide_eq_true_eq]; exact h5), if_neg h5, ih acc (by omega)]
theorem left_spec (o : List Int) (ho : o.length ≤ 50000) (rs : List D_api_Piece) (hr : rs.length ≤ 600) (n : Int) (hn : n ≤ 50000) (hg : ∀ p ∈ rs, RG n p) : damage_left rs o = some (lfs o rs 0) := by
  rw [damage_left_eq]
  exact left_c1 o ho rs hr n hn hg rs.length 0 [] (by omega) (Nat.le_refl _)
def srv (rs : List D_api_Piece) (n : Int) (l : List D_api_Harm) : List D_api_Piece × Int :=
  if (org n l).2 ≠ 0 then ([], (org n l).2) else if 600 < rs.length then ([], 4) else if ∀ p ∈ rs, RG n p then (lfs (org n l).1 rs 0, 0) else ([], 8)
theorem org_ok {n : Int} {l : List D_api_Harm} (h : (org n l).2 = 0) : chk35 l = 0 ∧ 0 ≤ n ∧ n ≤ 50000 := by
  unfold org at h
  by_cases hc : chk35 l = 0
  · rw [if_neg (show ¬ chk35 l ≠ 0 from fun k => k hc)] at h
    by_cases hn : n < 0 ∨ 50000 < n
    · rw [if_pos hn] at h; cases h
    · exact ⟨hc, by omega, by omega⟩
  · rw [if_pos hc] at h; exact absurd h hc
theorem surv_c1 (rs : List D_api_Piece) (hr : rs.length ≤ 600) (n : Int) (hn0 : 0 ≤ n) (hn : n ≤ 50000) (o : List Int) (ho : o.length ≤ 50000) : ∀ (k i : Nat), i + k = rs.length → (∀ p ∈ rs.take i, RG n p) →
    damage_Survivors_c1 rs n o rs (rs.length : Int) (i : Int) = some (if ∀ p ∈ rs, RG n p then (lfs o rs 0, 0) else ([], 8))
  | 0, i, e, hg => by
    rw [show rs.take i = rs from List.take_of_length_le (by omega)] at hg
    rw [damage_Survivors_c1_eq, if_neg (by simp; omega), left_spec o ho rs hr n hn hg, if_pos hg]; rfl
  | k + 1, i, e, hg => by
    obtain ⟨d1, d2⟩ := dropT (pzero T_api_Piece : D_api_Piece) (xs := rs) (i := i) (by omega)
    have ht := takeT (pzero T_api_Piece : D_api_Piece) (xs := rs) (i := i) (by omega)
    have hof : Int.ofNat rs.length = (rs.length : Int) := rfl
    rw [damage_Survivors_c1_eq, if_pos (by simp; omega), gd_pos (by omega), gd_pos (by rw [hof]; omega), Int.toNat_natCast]
    have ih := surv_c1 rs hr n hn0 hn o ho k (i + 1) (by omega)
    rw [ht, show ((i + 1 : Nat) : Int) = (i : Int) + 1 by omega] at ih
    generalize List.getD rs i (pzero T_api_Piece) = p at *
    have bad : ¬ RG n p → (some (if ∀ p ∈ rs, RG n p then (lfs o rs 0, 0) else ([], 8)) : Option (List D_api_Piece × Int)) = some ([], 8) := fun h => by
      rw [if_neg (fun h2 => h (h2 p d2))]
    by_cases h1 : (p.2.1 : Int) < 0
    · rw [if_pos (decide_eq_true h1), bad (fun h => by have := h.1; omega)]
    · rw [if_neg (by simp only [decide_eq_true_eq]; exact h1)]
      by_cases h2 : (p.2.2.1 : Int) < 1
      · rw [if_pos (decide_eq_true h2), bad (fun h => by have := h.2.1; omega)]
      · rw [if_neg (by simp only [decide_eq_true_eq]; exact h2)]
        by_cases h3 : (p.2.1 : Int) > n
        · rw [if_pos (decide_eq_true h3), bad (fun h => by have h5 := h.2.1; have h6 := h.2.2; omega)]
        · rw [if_neg (by simp only [decide_eq_true_eq]; exact h3), w64 (x := n - p.2.1) (by omega) (by omega)]
          by_cases h4 : (p.2.2.1 : Int) > n - p.2.1
          · rw [if_pos (decide_eq_true h4), bad (fun h => by have h6 := h.2.2; omega)]
          · rw [if_neg (by simp only [decide_eq_true_eq]; exact h4), w64 (by omega) (by omega)]
            exact ih (fun q hq => by
              rcases List.mem_append.1 hq with hq | hq
              · exact hg q hq
              · rw [List.mem_singleton.1 hq]; exact ⟨by omega, by omega, by omega⟩)
theorem Survivors_spec (rs : List D_api_Piece) (n : Int) (l : List D_api_Harm) : damage_Survivors rs n l = some (srv rs n l) := by
  rw [damage_Survivors_eq, Origins_spec]
  simp only [Option.bind_some]
  unfold srv
  by_cases h : (org n l).2 = 0
  · obtain ⟨_, h0, h1⟩ := org_ok h
    rw [if_neg (by rw [h]; decide), if_neg (show ¬ (org n l).2 ≠ 0 from fun k => k h)]
    by_cases hr : 600 < rs.length
    · rw [if_pos (by simp; omega), if_pos hr]
    · rw [if_neg (by simp; omega), if_neg hr]
      exact surv_c1 rs (by omega) n h0 h1 _ (org_len n l) rs.length 0 (by omega) (by simp)
  · rw [if_pos (bne_iff_ne.2 h), if_pos h]
/-! ### The chapter's examples -/
theorem alive_spec : bitloftlaw35_alive = some true := by
  rw [bitloftlaw35_alive_eq, gd_pos (by decide), gd_pos (by decide), Apply_spec, Origins_spec, Survivors_spec]
  have e1 : app [(97 : Int), (98 : Int), (99 : Int), (100 : Int)] [((3 : Int), ((1 : Int), ((0 : Int), ([(120 : Int)], ())))), ((2 : Int), ((2 : Int), ((1 : Int), ([], ())))), ((1 : Int), ((0 : Int), ((121 : Int), ([], ()))))] = ([121, 120, 99, 100], 0) := by kernel_rfl
  have e2 : org (4 : Int) [((3 : Int), ((1 : Int), ((0 : Int), ([(120 : Int)], ())))), ((2 : Int), ((2 : Int), ((1 : Int), ([], ())))), ((1 : Int), ((0 : Int), ((121 : Int), ([], ()))))] = ([-1, -1, 2, 3], 0) := by kernel_rfl
  have e3 : srv [((0 : Int), ((2 : Int), ((2 : Int), ()))), ((0 : Int), ((1 : Int), ((2 : Int), ())))] (4 : Int) [((3 : Int), ((1 : Int), ((0 : Int), ([(120 : Int)], ())))), ((2 : Int), ((2 : Int), ((1 : Int), ([], ())))), ((1 : Int), ((0 : Int), ((121 : Int), ([], ()))))] = ([((0 : Int), ((2 : Int), ((2 : Int), ())))], 0) := by kernel_rfl
  rw [e1, e2, e3]
  have e4 : bitloftref29_Same [((0 : Int), ((2 : Int), ((2 : Int), ())))] [((0 : Int), ((2 : Int), ((2 : Int), ())))] = some true := by
    rw [bitloftref29_Same_eq, if_neg (by decide), bitloftref29_Same_c1_eq, if_pos (by decide), gd_pos (by decide), gd_pos (by decide), gd_pos (by decide), gd_pos (by decide), if_neg (by decide), w64 (by decide) (by decide), bitloftref29_Same_c1_eq, if_neg (by decide)]
  have e5 : (ByteArray.toList (toStr [(121 : Int), 120, 99, 100]) == ByteArray.toList (ByteArray.mk #[121, 120, 99, 100])) = true := by decide +kernel
  simp only [Option.bind_some, SameInts_self [(-1 : Int), -1, 2, 3] (by decide), e4, e5, beq_self_eq_true, if_true]
end Go.Ab

set_option linter.unusedVariables false
set_option linter.unusedSimpArgs false
set_option maxHeartbeats 1000000
namespace Go.Ab
attribute [local irreducible] IntKind.wrap
/-! ### DamageNames -/
abbrev Zh : D_api_Harm := pzero T_api_Harm
theorem Blocks_bad (a : List Int) (l : List D_api_Harm) (h : chk35 l ≠ 0) : damage_Blocks a l = some ([], chk35 l) := by
  rw [damage_Blocks_eq, damage_Check_spec]
  simp only [Option.bind_some]
  rw [if_pos (bne_iff_ne.2 h)]
theorem Blocks_list (a : List Int) (hb : Bts a) (l : List D_api_Harm) (h : chk35 l = 0) (he : (allB a).2.2 ≠ 0) : damage_Blocks a l = some ([], (allB a).2.2) := by
  rw [damage_Blocks_eq, damage_Check_spec]
  simp only [Option.bind_some]
  rw [if_neg (by rw [h]; decide), list_List_spec a hb]
  simp only [Option.bind_some]
  rw [if_pos (bne_iff_ne.2 he)]
theorem left_nil (o : List Int) : damage_left [] o = some [] := by
  rw [damage_left_eq, damage_left_c1_eq, if_neg (by decide)]
theorem Blocks_none (a : List Int) (hb : Bts a) (l : List D_api_Harm) (h : chk35 l = 0) (he : (allB a).2.2 = 0) (hR : RecsOK (allB a).1.2.1) (hS : SumsOK (allB a).1.2.1) (hl : lck (allB a).1 = 0) (hp : pls (allB a).1 = []) :
    damage_Blocks a l = some ([], (org (a.length : Int) l).2) := by
  rw [damage_Blocks_eq, damage_Check_spec]
  simp only [Option.bind_some]
  rw [if_neg (by rw [h]; decide), list_List_spec a hb]
  simp only [Option.bind_some]
  rw [if_neg (by rw [he]; decide), list_Places_spec _ hR hS, if_pos hl, hp]
  simp only [Option.bind_some]
  rw [damage_Blocks_c1_eq, if_neg (by decide), show Int.ofNat a.length = (a.length : Int) from rfl, Origins_spec]
  simp only [Option.bind_some]
  by_cases h0 : (org (a.length : Int) l).2 = 0
  · rw [if_neg (by rw [h0]; decide), left_nil, h0]; rfl
  · rw [if_pos (bne_iff_ne.2 h0)]
theorem srv_bad (rs : List D_api_Piece) (n : Int) (l : List D_api_Harm) (h : (org n l).2 ≠ 0) : srv rs n l = ([], (org n l).2) := by
  unfold srv; rw [if_pos h]
theorem app_bad (b : List Int) (l : List D_api_Harm) (h : chk35 l ≠ 0) : app b l = ([], chk35 l) := by
  unfold app; rw [if_pos h]
theorem org_bad (n : Int) (l : List D_api_Harm) (h : chk35 l ≠ 0) : org n l = ([], chk35 l) := by
  unfold org; rw [if_pos h]
theorem one_at (l : List D_api_Harm) (i : Nat) (hi : i < l.length) (h20 : l.length ≤ 20) : List.take ((Int.toNat (IntKind.wrap .i64 ((i : Int) + (1 : Int)))) - (Int.toNat (i : Int))) (List.drop (0 + (Int.toNat (i : Int))) l) = [l.getD i Zh] := by
  rw [w64 (by omega) (by omega), Int.toNat_natCast, Nat.zero_add, (dropT Zh hi).1, show ((i : Int) + 1).toNat - i = 1 by omega]; rfl
def bads : List D_api_Harm := [((0 : Int), ((0 : Int), ((0 : Int), ([], ())))), ((5 : Int), ((0 : Int), ((0 : Int), ([], ())))), ((1 : Int), ((-1 : Int), ((0 : Int), ([], ())))), ((1 : Int), ((0 : Int), ((256 : Int), ([], ())))), ((1 : Int), ((0 : Int), ((-1 : Int), ([], ())))), ((2 : Int), ((0 : Int), ((-1 : Int), ([], ())))), ((3 : Int), ((0 : Int), ((1 : Int), ([], ())))), ((3 : Int), ((0 : Int), ((0 : Int), ((List.replicate 201 (0 : Int)), ())))), ((4 : Int), ((0 : Int), ((1 : Int), ([], ())))), ((2 : Int), ((0 : Int), ((0 : Int), ([(1 : Int)], ())))), ((4 : Int), ((0 : Int), ((0 : Int), ([(1 : Int)], ()))))]
def rngs : List D_api_Harm := [((1 : Int), ((4 : Int), ((0 : Int), ([], ())))), ((2 : Int), ((4 : Int), ((1 : Int), ([], ())))), ((2 : Int), ((5 : Int), ((0 : Int), ([], ())))), ((2 : Int), ((2 : Int), ((9223372036854775807 : Int), ([], ())))), ((2 : Int), ((9223372036854775807 : Int), ((9223372036854775807 : Int), ([], ())))), ((3 : Int), ((5 : Int), ((0 : Int), ([], ())))), ((4 : Int), ((5 : Int), ((0 : Int), ([], ()))))]
theorem bads_are : ∀ h ∈ bads, chk35 [h] = 8 := by
  intro h hh
  simp only [bads, List.mem_cons, List.not_mem_nil, or_false] at hh
  rcases hh with rfl | rfl | rfl | rfl | rfl | rfl | rfl | rfl | rfl | rfl | rfl <;> kernel_rfl
theorem rngs_are : ∀ h ∈ rngs, (app (List.replicate 4 0) [h]).2 = 16 ∧ (org 4 [h]).2 = 16 := by
  intro h hh
  simp only [rngs, List.mem_cons, List.not_mem_nil, or_false] at hh
  rcases hh with rfl | rfl | rfl | rfl | rfl | rfl | rfl <;> exact ⟨by kernel_rfl, by kernel_rfl⟩
def oneA : List Int := headB ((0 : Int), ((16 : Int), ())) []
theorem oneA_bts : Bts oneA := by
  unfold oneA headB
  refine Bts.append ?_ (shaB_bts _)
  intro x hx
  have e : bodyB ((0 : Int), ((16 : Int), ())) [] = [66, 76, 70, 1, 0, 0, 16, 0] := by kernel_rfl
  rw [e] at hx
  simp only [List.mem_cons, List.not_mem_nil, or_false] at hx
  omega
theorem oneA_all : allB oneA = ((((0 : Int), ((16 : Int), ())), ([], ([], ()))), ([], 0)) := by kernel_rfl
theorem oneA_spec : bitloftref30_Bytes ((0 : Int), ((16 : Int), ())) [] = some oneA := rBytes_spec _ [] ⟨by simp, (fun _ h => by cases h), by decide⟩ (fun _ h => by cases h)
theorem Blocks_one (l : List D_api_Harm) (h : chk35 l = 0) : damage_Blocks oneA l = some ([], (org (oneA.length : Int) l).2) := by
  refine Blocks_none oneA oneA_bts l h (by rw [oneA_all]) ?_ ?_ ?_ ?_ <;> rw [oneA_all]
  · exact RecsOK.nil
  · exact SumsOK.nil
  · kernel_rfl
  · rfl
theorem org_over (h : D_api_Harm) (hc : chk35 [h] = 0) (n : Int) (h0 : 0 ≤ n) (hn : n ≤ 50000) (hs : st fI (upto 0 n.toNat) h = none) : org n [h] = ([], 16) := by
  unfold org
  rw [if_neg (show ¬ chk35 [h] ≠ 0 from fun k => k hc), if_neg (by omega)]
  simp only [sts, hs]; rfl
theorem oneA_len : oneA.length = 28 := by
  unfold oneA headB
  rw [List.length_append, shaB_len]; rfl
theorem names_c1 : ∀ (k i : Nat), i + k = bads.length → bitloftlaw35_DamageNames_c1 (i : Int) bads = bitloftlaw35_DamageNames_c2 9223372036854775807 0 rngs
  | 0, i, e => by
    rw [bitloftlaw35_DamageNames_c1_eq, if_neg (by simp only [decide_eq_true_eq]; show ¬ (i : Int) < (bads.length : Int); omega)]; rfl
  | k + 1, i, e => by
    have hl : bads.length = 11 := rfl
    have hi : i < bads.length := by omega
    have ih := names_c1 k (i + 1) (by omega)
    rw [show ((i + 1 : Nat) : Int) = (i : Int) + 1 by omega] at ih
    have hof : Int.ofNat bads.length = (bads.length : Int) := rfl
    have hb := bads_are _ (dropT Zh hi).2
    have hne : chk35 [bads.getD i Zh] ≠ 0 := by rw [hb]; decide
    rw [bitloftlaw35_DamageNames_c1_eq, if_pos (decide_eq_true (by rw [hof]; omega)), hof, one_at bads i hi (by omega)]
    generalize bads.getD i Zh = h at *
    rw [gd_pos rfl, gd_pos (by decide), gd_pos (by decide), gd_pos (by decide), w64 (x := (i : Int) + 1) (by omega) (by omega)]
    rw [Apply_spec, Origins_spec, Survivors_spec, Blocks_bad _ _ hne, damage_Check_spec, app_bad _ _ hne, srv_bad _ _ _ (by rw [org_bad _ _ hne]; exact hne), org_bad _ _ hne, hb]
    have g1 : (0 : Int) ≤ i := by omega
    have g2 : (i : Int) ≤ (i : Int) + 1 := by omega
    have g3 : (i : Int) + 1 ≤ (bads.length : Int) := by omega
    simp only [Option.bind_some, gd_pos g1, gd_pos g2, gd_pos g3]
    rw [if_neg (by decide), if_neg (by decide), if_neg (by decide), if_neg (by decide), if_neg (by decide), ih]
theorem names_end : bitloftlaw35_DamageNames_c2 9223372036854775807 7 rngs = some true := by
  rw [bitloftlaw35_DamageNames_c2_eq, if_neg (by decide)]
  have z0 : chk35 [] = 0 := by kernel_rfl
  have e9 : app [(97 : Int), (98 : Int), (99 : Int), (100 : Int)] [((3 : Int), ((4 : Int), ((0 : Int), ([(122 : Int)], ())))), ((4 : Int), ((5 : Int), ((0 : Int), ([], ())))), ((2 : Int), ((5 : Int), ((0 : Int), ([], ()))))] = ([97, 98, 99, 100, 122], 0) := by kernel_rfl
  have e10 : app (List.replicate 50001 0) [] = ([], 4) := by
    unfold app; rw [if_neg (show ¬ chk35 [] ≠ 0 from fun k => k z0), if_pos (by rw [List.length_replicate]; omega)]
  have e11 : org 50001 [] = ([], 2) := by kernel_rfl
  have e12 : org 50000 [((3 : Int), ((4 : Int), ((0 : Int), ([(122 : Int)], ()))))] = ([], 16) := by
    refine org_over _ (by kernel_rfl) 50000 (by decide) (by decide) ?_
    unfold st
    rw [if_neg (by decide), if_neg (by decide), if_pos rfl, if_neg (by rw [upto_len]; decide)]
  have o4 : (org 4 []).2 = 0 := by kernel_rfl
  have e13 : srv (List.replicate 601 (pzero T_api_Piece : D_api_Piece)) 4 [] = ([], 4) := by
    unfold srv; rw [if_neg (fun k => k o4), if_pos (by rw [List.length_replicate]; omega)]
  have e14 : (srv [((0 : Int), ((3 : Int), ((2 : Int), ())))] 4 []).2 = 8 := by kernel_rfl
  have e15 : (srv [((0 : Int), ((3 : Int), ((0 : Int), ())))] 4 []).2 = 8 := by kernel_rfl
  have e16 : (srv [((0 : Int), ((9223372036854775807 : Int), ((9223372036854775807 : Int), ())))] 4 []).2 = 8 := by kernel_rfl
  have a17 : (allB []).2.2 = 18 := by kernel_rfl
  have a18 : (allB (List.replicate 50001 0)).2.2 = 4 := by
    unfold allB hdP
    rw [if_pos (show (List.replicate 50001 (0 : Int)).length > 50000 by rw [List.length_replicate]; omega)]; rfl
  have e17 : damage_Blocks [] [] = some ([], 18) := by rw [Blocks_list _ Bts.nil _ z0 (by rw [a17]; decide), a17]
  have e18 : damage_Blocks (List.replicate 50001 0) [] = some ([], 4) := by
    rw [Blocks_list _ (fun x hx => by rw [List.eq_of_mem_replicate hx]; decide) _ z0 (by rw [a18]; decide), a18]
  have e20 : damage_Blocks oneA [((2 : Int), ((9223372036854775807 : Int), ((9223372036854775807 : Int), ([], ()))))] = some ([], 16) := by
    rw [Blocks_one _ (by kernel_rfl), oneA_len, org_over _ (by kernel_rfl) _ (by decide) (by decide)]
    unfold st
    rw [if_neg (by decide), if_pos rfl, if_neg (by rw [upto_len]; decide)]
  have e22 : damage_Blocks oneA [] = some ([], 0) := by
    rw [Blocks_one _ z0, oneA_len]
    have : (org ((28 : Nat) : Int) []).2 = 0 := by kernel_rfl
    rw [this]
  have e23 : app [(97 : Int), (98 : Int), (99 : Int), (100 : Int)] [] = ([97, 98, 99, 100], 0) := by kernel_rfl
  have e24 : chk35 (List.replicate 21 Zh) = 4 := by
    unfold chk35; rw [if_pos (by rw [List.length_replicate]; omega)]
  have t1 : List.take 1 (List.drop 4 rngs) = [((2 : Int), ((9223372036854775807 : Int), ((9223372036854775807 : Int), ([], ()))))] := rfl
  have t2 : List.take 1 (List.drop 0 [((3 : Int), ((4 : Int), ((0 : Int), ([(122 : Int)], ())))), ((4 : Int), ((5 : Int), ((0 : Int), ([], ())))), ((2 : Int), ((5 : Int), ((0 : Int), ([], ()))))]) = [((3 : Int), ((4 : Int), ((0 : Int), ([(122 : Int)], ()))))] := rfl
  have s1 : (ByteArray.toList (toStr [(97 : Int), 98, 99, 100, 122]) == ByteArray.toList (ByteArray.mk #[97, 98, 99, 100, 122])) = true := by decide +kernel
  have s2 : (ByteArray.toList (toStr [(97 : Int), 98, 99, 100]) == ByteArray.toList (ByteArray.mk #[97, 98, 99, 100])) = true := by decide +kernel
  have hZ : (pzero T_api_Harm : D_api_Harm) = Zh := rfl
  have hof : Int.ofNat rngs.length = 7 := rfl
  rw [t1, t2, hZ, hof]
  rw [gd_pos (by decide), gd_pos (by decide), Apply_spec, e9]
  simp only [Option.bind_some]
  iterate 4 (first | rw [gd_pos trivial] | rw [gd_pos (by decide)])
  rw [Apply_spec, e10]
  simp only [Option.bind_some]
  rw [Origins_spec, e11]
  simp only [Option.bind_some]
  iterate 2 (first | rw [gd_pos trivial] | rw [gd_pos (by decide)])
  rw [Origins_spec, e12]
  simp only [Option.bind_some]
  iterate 4 (first | rw [gd_pos trivial] | rw [gd_pos (by decide)])
  rw [Survivors_spec, e13, Survivors_spec, Survivors_spec, Survivors_spec, e17]
  simp only [Option.bind_some]
  iterate 4 (first | rw [gd_pos trivial] | rw [gd_pos (by decide)])
  rw [e18, oneA_spec]
  simp only [Option.bind_some]
  iterate 3 (first | rw [gd_pos trivial] | rw [gd_pos (by decide)])
  rw [e20]
  simp only [Option.bind_some]
  rw [e22]
  simp only [Option.bind_some]
  rw [gd_pos (by decide), Apply_spec, e23]
  simp only [Option.bind_some]
  iterate 4 (first | rw [gd_pos trivial] | rw [gd_pos (by decide)])
  rw [damage_Check_spec, e24, alive_spec]
  simp only [Option.bind_some, e14, e15, e16, s1, s2, beq_self_eq_true, if_true]
  rfl
theorem names_c2 : ∀ (k i : Nat), i + k = rngs.length → bitloftlaw35_DamageNames_c2 9223372036854775807 (i : Int) rngs = some true
  | 0, i, e => by
    obtain rfl : i = 7 := by have hl : rngs.length = 7 := rfl; omega
    exact names_end
  | k + 1, i, e => by
    have hl : rngs.length = 7 := rfl
    have hi : i < rngs.length := by omega
    have ih := names_c2 k (i + 1) (by omega)
    rw [show ((i + 1 : Nat) : Int) = (i : Int) + 1 by omega] at ih
    have hof : Int.ofNat rngs.length = (rngs.length : Int) := rfl
    obtain ⟨h1, h2⟩ := rngs_are _ (dropT Zh hi).2
    rw [bitloftlaw35_DamageNames_c2_eq, if_pos (decide_eq_true (by rw [hof]; omega)), hof, one_at rngs i hi (by omega)]
    generalize rngs.getD i Zh = h at *
    rw [w64 (x := (i : Int) + 1) (by omega) (by omega), Apply_spec, Origins_spec, Survivors_spec, srv_bad _ _ _ (by rw [h2]; decide)]
    have g1 : (0 : Int) ≤ i := by omega
    have g2 : (i : Int) ≤ (i : Int) + 1 := by omega
    have g3 : (i : Int) + 1 ≤ (rngs.length : Int) := by omega
    rw [gd_pos rfl, gd_pos (by decide), gd_pos (by decide), gd_pos (by decide)]
    simp only [Option.bind_some, gd_pos g1, gd_pos g2, gd_pos g3]
    iterate 4 (first | rw [gd_pos trivial] | rw [gd_pos (by decide)])
    rw [h1, h2, if_neg (by decide), if_neg (by decide), if_neg (by decide), ih]
theorem bitloftlaw35_DamageNames_true : bitloftlaw35_DamageNames = some true := by
  rw [bitloftlaw35_DamageNames_eq, gd_pos rfl, gd_pos (by decide), gd_pos (by decide), gd_pos (by decide)]
  refine Eq.trans (names_c1 bads.length 0 (by omega)) ?_
  exact names_c2 rngs.length 0 (by omega)
end Go.Ab
