/-
  Plain laws of the printed functions.
-/
import Derived.Test.YtdhmnakopofmpaaDoorGenN
set_option linter.unusedVariables false
set_option linter.unusedSimpArgs false
set_option maxHeartbeats 1000000
namespace Go.Ab
/-! ### 1. Bits -/
def U32 (x : Int) : Prop := 0 ≤ x ∧ x < 4294967296
theorem bv_toInt (v : BitVec 32) : IntKind.wrap .u32 (v.toNat : Int) = v.toNat := by
  have := v.isLt
  rw [wu32]; omega
theorem bv_of (v : BitVec 32) : BitVec.ofInt 32 (v.toNat : Int) = v := by
  apply BitVec.eq_of_toNat_eq
  rw [BitVec.toNat_ofInt]
  have := v.isLt
  omega
theorem bX (x y : Int) : bitsXor .u32 x y = ((BitVec.ofInt 32 x ^^^ BitVec.ofInt 32 y).toNat : Int) := bv_toInt _
theorem bO (x y : Int) : bitsOr .u32 x y = ((BitVec.ofInt 32 x ||| BitVec.ofInt 32 y).toNat : Int) := bv_toInt _
theorem bA (x y : Int) : bitsAnd .u32 x y = ((BitVec.ofInt 32 x &&& BitVec.ofInt 32 y).toNat : Int) := bv_toInt _
theorem bv_u32 (v : BitVec 32) : U32 (v.toNat : Int) := by have := v.isLt; unfold U32; omega
theorem bX_u (x y : Int) : U32 (bitsXor .u32 x y) := by rw [bX]; exact bv_u32 _
theorem bO_u (x y : Int) : U32 (bitsOr .u32 x y) := by rw [bO]; exact bv_u32 _
theorem bA_u (x y : Int) : U32 (bitsAnd .u32 x y) := by rw [bA]; exact bv_u32 _
theorem w_u (x : Int) : U32 (IntKind.wrap .u32 x) := by rw [wu32]; unfold U32; omega
theorem ch_eq (b c d : Int) : bitsXor .u32 d (bitsAnd .u32 b (bitsXor .u32 c d)) = bitsOr .u32 (bitsAnd .u32 b c) (bitsAnd .u32 (bitsXor .u32 4294967295 b) d) := by
  simp only [bX, bO, bA, bv_of]
  congr 2
  have h1 : BitVec.ofInt 32 4294967295 = BitVec.allOnes 32 := by decide
  rw [h1]
  ext i hi
  simp only [BitVec.getElem_xor, BitVec.getElem_and, BitVec.getElem_or, BitVec.getElem_allOnes]
  cases (BitVec.ofInt 32 b)[i] <;> cases (BitVec.ofInt 32 c)[i] <;> cases (BitVec.ofInt 32 d)[i] <;> rfl
theorem maj_eq (b c d : Int) : bitsOr .u32 (bitsAnd .u32 b c) (bitsAnd .u32 d (bitsOr .u32 b c)) = bitsOr .u32 (bitsOr .u32 (bitsAnd .u32 b c) (bitsAnd .u32 b d)) (bitsAnd .u32 c d) := by
  simp only [bX, bO, bA, bv_of]
  congr 2
  ext i hi
  simp only [BitVec.getElem_xor, BitVec.getElem_and, BitVec.getElem_or]
  cases (BitVec.ofInt 32 b)[i] <;> cases (BitVec.ofInt 32 c)[i] <;> cases (BitVec.ofInt 32 d)[i] <;> rfl
/-- Turned left by s places. -/
def rot (a : Int) (s : Int) : Int := bitsOr .u32 (IntKind.wrap .u32 (shlBy .u32 a s)) (shrBy .u32 a (32 - s))
theorem rot_u (a s : Int) : U32 (rot a s) := bO_u _ _
/-- A byte put behind. -/
theorem or_byte {x b : Int} (hx : U32 x) (hb : 0 ≤ b ∧ b < 256) : bitsOr .u32 (IntKind.wrap .u32 (x * 256)) (IntKind.wrap .u32 b) = IntKind.wrap .u32 (IntKind.wrap .u32 (x * 256) + IntKind.wrap .u32 b) := by
  rw [bO]
  simp only [wu32]
  have h1 : b % 4294967296 = b := by omega
  rw [h1]
  obtain ⟨n, rfl⟩ := Int.eq_ofNat_of_zero_le hb.1
  obtain ⟨q, hq⟩ : ∃ q : Nat, (x * 256) % 4294967296 = ((2 ^ 8 * q : Nat) : Int) ∧ 2 ^ 8 * q < 4294967296 := by
    refine ⟨(x % 16777216).toNat, ?_, ?_⟩ <;> simp <;> omega
  have hn : n < 2 ^ 8 := by omega
  rw [hq.1]
  have e : ∀ m : Nat, m < 4294967296 → (BitVec.ofInt 32 (m : Int)).toNat = m := fun m hm => by
    rw [BitVec.toNat_ofInt]; omega
  rw [BitVec.toNat_or, e _ hq.2, e n (by omega), ← Nat.two_pow_add_eq_or_of_lt hn]
  have := hq.2
  omega
attribute [local irreducible] IntKind.wrap
theorem rotl_spec (a : Int) : math_bits_RotateLeft32 a 1 = some (rot a 1) ∧ math_bits_RotateLeft32 a 5 = some (rot a 5) ∧ math_bits_RotateLeft32 a 30 = some (rot a 30) := by
  have h1 : bitsAnd .u64 (IntKind.wrap .u64 1) 31 = 1 := by kernel_rfl
  have h5 : bitsAnd .u64 (IntKind.wrap .u64 5) 31 = 5 := by kernel_rfl
  have h30 : bitsAnd .u64 (IntKind.wrap .u64 30) 31 = 30 := by kernel_rfl
  have w1 : IntKind.wrap .u64 ((32 : Int) - 1) = 32 - 1 := by kernel_rfl
  have w5 : IntKind.wrap .u64 ((32 : Int) - 5) = 32 - 5 := by kernel_rfl
  have w30 : IntKind.wrap .u64 ((32 : Int) - 30) = 32 - 30 := by kernel_rfl
  refine ⟨?_, ?_, ?_⟩ <;> rw [math_bits_RotateLeft32_eq]
  · rw [h1, w1, gd_pos (by omega), gd_pos (by omega)]; rfl
  · rw [h5, w5, gd_pos (by omega), gd_pos (by omega)]; rfl
  · rw [h30, w30, gd_pos (by omega), gd_pos (by omega)]; rfl
theorem turn_spec (a s : Int) (h : 0 ≤ s ∧ s ≤ 32) : bitloftref01_turn a s = some (rot a s) := by
  rw [bitloftref01_turn_eq, w64 (by omega) (by omega), gd_pos (by omega), gd_pos (by omega)]; rfl
end Go.Ab

set_option linter.unusedVariables false
set_option linter.unusedSimpArgs false
set_option maxHeartbeats 1000000
namespace Go.Ab
attribute [local irreducible] IntKind.wrap
/-! ### 2. What is put behind -/
/-- The length in bits. -/
def bitl (n : Int) : Int := IntKind.wrap .u64 (IntKind.wrap .u64 n * 8)
def tailB (n : Int) : Nat → List Int
  | 0 => []
  | k + 1 => IntKind.wrap .u8 (shrBy .u64 (bitl n) (8 * (k : Int))) :: tailB n k
def padB (n : Int) : List Int := [128] ++ List.replicate ((119 - n % 64) % 64).toNat 0 ++ tailB n 8
theorem tailB_len (n : Int) : ∀ k, (tailB n k).length = k
  | 0 => rfl
  | k + 1 => by simp [tailB, tailB_len n k]
theorem w8_b (x : Int) : 0 ≤ IntKind.wrap .u8 x ∧ IntKind.wrap .u8 x < 256 := by rw [wu8]; omega
theorem tailB_bts (n : Int) : ∀ k, Bts (tailB n k)
  | 0 => Bts.nil
  | k + 1 => Bts.cons (w8_b _) (tailB_bts n k)
theorem padB_bts (n : Int) : Bts (padB n) := by
  refine Bts.append (Bts.append (Bts.cons (by omega) Bts.nil) (fun x hx => ?_)) (tailB_bts n 8)
  have := (List.mem_replicate.1 hx).2; omega
theorem padB_len (n : Int) (h : 0 ≤ n) : ((n + (padB n).length) % 64 = 0 ∧ (padB n).length ≤ 72) := by
  simp only [padB, List.length_append, List.length_cons, List.length_nil, List.length_replicate, tailB_len]
  omega
theorem sha_pad_c1_spec (n : Int) : ∀ (k : Nat) (h : List Int), k ≤ 8 → h.length + k ≤ 1000 → sha_pad_c1 n (8 * (k : Int) - 8) h = some (h ++ tailB n k)
  | 0, h, hk, hl => by
    rw [sha_pad_c1_eq, if_neg (by simp)]
    simp [tailB]
  | k + 1, h, hk, hl => by
    have e : 8 * ((k + 1 : Nat) : Int) - 8 = 8 * (k : Int) := by omega
    rw [e, sha_pad_c1_eq, if_pos (by simp; omega), gd_pos (by omega), gd_pos (by simp; omega), w64 (by omega) (by omega), sha_pad_c1_spec n k _ (by omega) (by simp; omega)]
    simp [tailB, bitl]
theorem sha_pad_spec (n : Int) (h : 0 ≤ n) : sha_pad n = some (padB n) := by
  rw [sha_pad_eq, gd_pos (by omega), gd_pos (by omega), tmod_nn h, w64 (by omega) (by omega), tmod_nn (by omega), gd_pos (by omega), gd_pos (by omega), gd_pos (by omega), gd_pos (by simp; omega)]
  have := sha_pad_c1_spec n 8 ([128] ++ List.replicate ((119 - n % 64) % 64).toNat 0) (by omega) (by simp; omega)
  exact this
theorem pad_c2_spec (n : Int) : ∀ (k : Nat) (h : List Int), k ≤ 8 → h.length + k ≤ 1000 → bitloftref01_Padding_c2 n ((k : Int) - 1) h = some (h ++ tailB n k)
  | 0, h, hk, hl => by
    rw [bitloftref01_Padding_c2_eq, if_neg (by simp)]
    simp [tailB]
  | k + 1, h, hk, hl => by
    have e : ((k + 1 : Nat) : Int) - 1 = (k : Int) := by omega
    rw [e, bitloftref01_Padding_c2_eq, if_pos (by simp), w64 (x := 8 * (k : Int)) (by omega) (by omega), gd_pos (by omega), gd_pos (by simp; omega), w64 (x := (k : Int) - 1) (by omega) (by omega), pad_c2_spec n k _ (by omega) (by simp; omega)]
    have e2 : (8 : Int) * IntKind.wrap .u64 n = IntKind.wrap .u64 n * 8 := Int.mul_comm _ _
    simp [tailB, bitl, e2]
theorem pad_c1_spec (n : Int) (hn : 0 ≤ n ∧ n ≤ 1000000000) : ∀ (j : Nat) (h : List Int), j < 64 → h.length + j ≤ 200 → (n + h.length + 8 + j) % 64 = 0 → bitloftref01_Padding_c1 n h = some (h ++ List.replicate j 0 ++ tailB n 8)
  | 0, h, hj, hl, hm => by
    rw [bitloftref01_Padding_c1_eq, gd_pos (by omega)]
    have hl' : Int.ofNat h.length = (h.length : Int) := rfl
    rw [hl', w64 (x := n + (h.length : Int)) (by omega) (by omega), w64 (by omega) (by omega), tmod_nn (by omega), if_neg (by simp; omega)]
    have := pad_c2_spec n 8 h (by omega) (by omega)
    simpa using this
  | j + 1, h, hj, hl, hm => by
    rw [bitloftref01_Padding_c1_eq, gd_pos (by omega)]
    have hl' : Int.ofNat h.length = (h.length : Int) := rfl
    rw [hl', w64 (x := n + (h.length : Int)) (by omega) (by omega), w64 (by omega) (by omega), tmod_nn (by omega), if_pos (by simp; omega), gd_pos (by simp; omega), pad_c1_spec n hn j (h ++ [0]) (by omega) (by simp; omega) (by simp; omega)]
    simp [List.replicate_succ]
theorem padding_spec (n : Int) (hn : 0 ≤ n ∧ n ≤ 1000000000) : bitloftref01_Padding n = some (padB n) := by
  rw [bitloftref01_Padding_eq, pad_c1_spec n hn ((119 - n % 64) % 64).toNat [128] (by omega) (by simp; omega) (by simp; omega)]
  rfl
/-- One slice behind the other. -/
theorem concat_two (a b : List Int) (h : a.length + b.length ≤ 1000000) : slices_Concat_byte_byte [a, b] = some (a ++ b) := by
  have ha : Int.ofNat a.length = (a.length : Int) := rfl
  have hb : Int.ofNat b.length = (b.length : Int) := rfl
  rw [slices_Concat_byte_byte_eq]
  rw [slices_Concat_byte_byte_c1_eq, if_pos (by simp), gd_pos (by omega), gd_pos (by simp)]
  simp only [List.getD_cons_zero, Int.toNat_zero, ha]
  rw [w64 (x := 0 + (a.length : Int)) (by omega) (by omega), if_neg (by simp), w64 (x := 0 + 1) (by omega) (by omega)]
  rw [slices_Concat_byte_byte_c1_eq, if_pos (by simp), gd_pos (by omega), gd_pos (by simp)]
  simp only [show (0 + 1 : Int).toNat = 1 from rfl, List.getD_cons_succ, List.getD_cons_zero, hb]
  rw [w64 (x := 0 + (a.length : Int) + (b.length : Int)) (by omega) (by omega), if_neg (by simp <;> omega), w64 (x := 0 + 1 + 1) (by omega) (by omega)]
  rw [slices_Concat_byte_byte_c1_eq, if_neg (by simp)]
  have hg : ∃ r, slices_Grow_byte_byte (0 + (a.length : Int) + (b.length : Int)) = some (r, 0, 0) := by
    rw [slices_Grow_byte_byte_eq, if_neg (by simp; omega), w64 (by omega) (by omega)]
    by_cases hz : (0 + (a.length : Int) + (b.length : Int)) - 0 > 0
    · rw [if_pos (by simpa using hz), gd_pos (by omega), gd_pos (by omega), gd_pos (by omega), gd_pos (by omega), gd_pos (by omega), gd_pos (by simp; omega), gd_pos (by omega), gd_pos (by simp; omega)]
      exact ⟨_, rfl⟩
    · rw [if_neg (by simpa using hz)]; exact ⟨_, rfl⟩
  obtain ⟨r, hr⟩ := hg
  rw [hr]
  simp only [Option.bind_some]
  rw [slices_Concat_byte_byte_c2_eq, if_pos (by simp), gd_pos (by omega), gd_pos (by simp), gd_pos (by simp; omega), w64 (by omega) (by omega)]
  simp only [List.getD_cons_zero, Int.toNat_zero, List.take_zero, List.nil_append]
  rw [slices_Concat_byte_byte_c3_eq, if_pos (by simp), gd_pos (by omega), gd_pos (by simp), gd_pos (by simp; omega), w64 (by omega) (by omega)]
  rw [slices_Concat_byte_byte_c3_eq, if_neg (by simp)]
  rfl
end Go.Ab

set_option linter.unusedVariables false
set_option linter.unusedSimpArgs false
set_option maxHeartbeats 1000000
namespace Go.Ab
attribute [local irreducible] IntKind.wrap
/-! ### 3. Words -/
def bt (x b : Int) : Int := IntKind.wrap .u32 (IntKind.wrap .u32 (x * 256) + IntKind.wrap .u32 b)
theorem bt_u (x b : Int) : U32 (bt x b) := w_u _
def wordB (b : List Int) (t : Nat) : Int := bt (bt (bt (IntKind.wrap .u32 (b.getD (4 * t) 0)) (b.getD (4 * t + 1) 0)) (b.getD (4 * t + 2) 0)) (b.getD (4 * t + 3) 0)
def wordsB (b : List Int) (t : Nat) : Nat → List Int
  | 0 => []
  | k + 1 => wordB b t :: wordsB b (t + 1) k
theorem wordsB_len (b : List Int) : ∀ (k t : Nat), (wordsB b t k).length = k
  | 0, t => rfl
  | k + 1, t => by simp [wordsB, wordsB_len b k]
theorem done_c1 (b : List Int) (hb : b.length = 64) (x y : List Int) : ∀ (k t : Nat) (h : List Int), t + k = 16 → h.length = t → bitloftref01_Done_c1 b (t : Int) x y h = bitloftref01_Done_c2 16 x y (h ++ wordsB b t k)
  | 0, t, h, e, hl => by
    rw [bitloftref01_Done_c1_eq, if_neg (by simp; omega)]
    simp [wordsB]
  | k + 1, t, h, e, hl => by
    have hb' : Int.ofNat b.length = 64 := by rw [hb]; rfl
    have e0 : ((4 : Int) * (t : Int)).toNat = 4 * t := by omega
    have e1 : ((4 : Int) * (t : Int) + 1).toNat = 4 * t + 1 := by omega
    have e2 : ((4 : Int) * (t : Int) + 2).toNat = 4 * t + 2 := by omega
    have e3 : ((4 : Int) * (t : Int) + 3).toNat = 4 * t + 3 := by omega
    rw [bitloftref01_Done_c1_eq, if_pos (by simp; omega), hb']
    simp only [w64 (x := 4 * (t : Int)) (by omega) (by omega), w64 (x := 4 * (t : Int) + 1) (by omega) (by omega), w64 (x := 4 * (t : Int) + 2) (by omega) (by omega), w64 (x := 4 * (t : Int) + 3) (by omega) (by omega), w64 (x := (t : Int) + 1) (by omega) (by omega), e0, e1, e2, e3]
    rw [gd_pos (by omega), gd_pos (by omega), gd_pos (by omega), gd_pos (by omega), gd_pos (by omega), gd_pos (by omega), gd_pos (by omega), gd_pos (by omega), gd_pos (by simp; omega)]
    have ih := done_c1 b hb x y k (t + 1) (h ++ [wordB b t]) (by omega) (by simp; omega)
    have ec : ((t + 1 : Nat) : Int) = (t : Int) + 1 := by omega
    rw [ec] at ih
    simp only [List.append_assoc, List.singleton_append] at ih
    exact ih
theorem set_mid (W : List Int) (x v : Int) (R : List Int) : (W ++ x :: R).set W.length v = W ++ v :: R := by
  induction W with
  | nil => rfl
  | cons a W ih => simp [ih]
theorem get_mid (W : List Int) (x : Int) (R : List Int) : (W ++ x :: R).getD W.length 0 = x := by
  induction W with
  | nil => rfl
  | cons a W ih => simp
theorem bts_get {b : List Int} (h : Bts b) (i : Nat) : 0 ≤ b.getD i 0 ∧ b.getD i 0 < 256 := by
  rw [List.getD_eq_getElem?_getD]
  cases hi : b[i]? with
  | none => simp
  | some x => exact h x (List.mem_of_getElem? hi)
/-- One byte of a word. -/
theorem do_byte (b : List Int) (hb : b.length = 64) (hB : Bts b) (x y W R : List Int) (i t : Nat) (v : Int) (hv : U32 v) (hi : i < 64) (ht : i / 4 = t) (hW : W.length = t) :
    sha_do_c1 b 64 (i : Int) x y (W ++ v :: R) = sha_do_c1 b 64 ((i : Int) + 1) x y (W ++ bt v (b.getD i 0) :: R) := by
  have hb' : Int.ofNat b.length = 64 := by rw [hb]; rfl
  have e : (IntKind.wrap .i64 (Int.tdiv (i : Int) 4)) = (t : Int) := by
    rw [tdiv_nn (by omega), w64 (by omega) (by omega)]; omega
  rw [sha_do_c1_eq, if_pos (by simp; omega), hb', e]
  rw [gd_pos (by omega), gd_pos (by omega), gd_pos (by omega), gd_pos (by omega), gd_pos (by omega), gd_pos (by omega), gd_pos (by omega), gd_pos (by omega), gd_pos (by omega)]
  have et : ((t : Int)).toNat = W.length := by omega
  have ei : ((i : Int)).toNat = i := by omega
  rw [et, ei, get_mid, set_mid, or_byte hv (bts_get hB i), w64 (x := (i : Int) + 1) (by omega) (by omega)]
  rfl
theorem do_c1 (b : List Int) (hb : b.length = 64) (hB : Bts b) (x y : List Int) : ∀ (k t : Nat) (W : List Int), t + k = 16 → W.length = t →
    sha_do_c1 b 64 (4 * (t : Int)) x y (W ++ List.replicate k 0) = sha_do_c1 b 64 64 x y (W ++ wordsB b t k)
  | 0, t, W, e, hl => by
    have : 4 * (t : Int) = 64 := by omega
    rw [this]; rfl
  | k + 1, t, W, e, hl => by
    have c : ∀ j : Nat, ((4 * t + j : Nat) : Int) = 4 * (t : Int) + (j : Int) := fun j => by omega
    have s0 := do_byte b hb hB x y W (List.replicate k 0) (4 * t) t 0 (by unfold U32; omega) (by omega) (by omega) hl
    have s1 := do_byte b hb hB x y W (List.replicate k 0) (4 * t + 1) t (bt 0 (b.getD (4 * t) 0)) (bt_u _ _) (by omega) (by omega) hl
    have s2 := do_byte b hb hB x y W (List.replicate k 0) (4 * t + 2) t (bt (bt 0 (b.getD (4 * t) 0)) (b.getD (4 * t + 1) 0)) (bt_u _ _) (by omega) (by omega) hl
    have s3 := do_byte b hb hB x y W (List.replicate k 0) (4 * t + 3) t (bt (bt (bt 0 (b.getD (4 * t) 0)) (b.getD (4 * t + 1) 0)) (b.getD (4 * t + 2) 0)) (bt_u _ _) (by omega) (by omega) hl
    rw [show ((4 * t : Nat) : Int) = 4 * (t : Int) by omega] at s0
    rw [show ((4 * t + 1 : Nat) : Int) = 4 * (t : Int) + 1 by omega] at s1
    rw [show ((4 * t + 2 : Nat) : Int) = 4 * (t : Int) + 1 + 1 by omega] at s2
    rw [show ((4 * t + 3 : Nat) : Int) = 4 * (t : Int) + 1 + 1 + 1 by omega] at s3
    have h0 : bt 0 (b.getD (4 * t) 0) = IntKind.wrap .u32 (b.getD (4 * t) 0) := by
      have := bts_get hB (4 * t)
      simp only [bt, wu32]; omega
    rw [List.replicate_succ, s0, s1, s2, s3, h0]
    have ih := do_c1 b hb hB x y k (t + 1) (W ++ [wordB b t]) (by omega) (by simp; omega)
    rw [show 4 * ((t + 1 : Nat) : Int) = 4 * (t : Int) + 1 + 1 + 1 + 1 by omega] at ih
    simp only [List.append_assoc, List.singleton_append] at ih
    exact ih
/-! ### 4. The schedule -/
def nextW (a b c d : Int) : Int := rot (bitsXor .u32 (bitsXor .u32 (bitsXor .u32 a b) c) d) 1
def sch : Nat → List Int → List Int
  | 0, h => h
  | k + 1, h => sch k (h ++ [nextW (h.getD (h.length - 3) 0) (h.getD (h.length - 8) 0) (h.getD (h.length - 14) 0) (h.getD (h.length - 16) 0)])
theorem sch_len : ∀ (k : Nat) (h : List Int), (sch k h).length = h.length + k
  | 0, h => rfl
  | k + 1, h => by rw [sch, sch_len k]; simp; omega
theorem getD_left {h r : List Int} {t : Nat} (ht : t < h.length) : (h ++ r).getD t 0 = h.getD t 0 := by
  simp [List.getD_eq_getElem?_getD, List.getElem?_append_left ht]
theorem sch_pre : ∀ (k : Nat) (h : List Int) (t : Nat), t < h.length → (sch k h).getD t 0 = h.getD t 0
  | 0, h, t, ht => rfl
  | k + 1, h, t, ht => by
    rw [sch, sch_pre k _ t (by simp; omega), getD_left ht]
theorem sch_at : ∀ (k : Nat) (h : List Int) (t : Nat), 16 ≤ h.length → h.length ≤ t → t < h.length + k →
    (sch k h).getD t 0 = nextW ((sch k h).getD (t - 3) 0) ((sch k h).getD (t - 8) 0) ((sch k h).getD (t - 14) 0) ((sch k h).getD (t - 16) 0)
  | 0, h, t, h1, h2, h3 => by omega
  | k + 1, h, t, h1, h2, h3 => by
    by_cases he : t = h.length
    · subst he
      rw [sch]
      rw [sch_pre k _ h.length (by simp), sch_pre k _ (h.length - 3) (by simp; omega), sch_pre k _ (h.length - 8) (by simp; omega), sch_pre k _ (h.length - 14) (by simp; omega), sch_pre k _ (h.length - 16) (by simp; omega)]
      rw [get_mid, getD_left (by omega), getD_left (by omega), getD_left (by omega), getD_left (by omega)]
    · rw [sch]
      exact sch_at k _ t (by simp; omega) (by simp; omega) (by simp; omega)
theorem done_c2 (x y : List Int) : ∀ (k t : Nat) (h : List Int), t + k = 80 → 16 ≤ t → h.length = t → bitloftref01_Done_c2 (t : Int) x y h = bitloftref01_Done_c3 0 x y (sch k h) x
  | 0, t, h, e, h1, hl => by
    rw [bitloftref01_Done_c2_eq, if_neg (by simp; omega)]; rfl
  | k + 1, t, h, e, h1, hl => by
    have hl' : Int.ofNat h.length = (t : Int) := by rw [hl]; rfl
    rw [bitloftref01_Done_c2_eq, if_pos (by simp; omega), hl']
    simp only [w64 (x := (t : Int) - 3) (by omega) (by omega), w64 (x := (t : Int) - 8) (by omega) (by omega), w64 (x := (t : Int) - 14) (by omega) (by omega), w64 (x := (t : Int) - 16) (by omega) (by omega), w64 (x := (t : Int) + 1) (by omega) (by omega)]
    rw [gd_pos (by omega), gd_pos (by omega), gd_pos (by omega), gd_pos (by omega), gd_pos (by omega), gd_pos (by omega), gd_pos (by omega), gd_pos (by omega)]
    rw [show 0 + ((t : Int) - 3).toNat = h.length - 3 by omega, show 0 + ((t : Int) - 8).toNat = h.length - 8 by omega, show 0 + ((t : Int) - 14).toNat = h.length - 14 by omega, show 0 + ((t : Int) - 16).toNat = h.length - 16 by omega]
    rw [turn_spec _ 1 (by omega)]
    simp only [Option.bind_some]
    rw [gd_pos (by simp; omega)]
    have ih := done_c2 x y k (t + 1) (h ++ [nextW (h.getD (h.length - 3) 0) (h.getD (h.length - 8) 0) (h.getD (h.length - 14) 0) (h.getD (h.length - 16) 0)]) (by omega) (by omega) (by simp; omega)
    rw [show ((t + 1 : Nat) : Int) = (t : Int) + 1 by omega] at ih
    exact ih
end Go.Ab

set_option linter.unusedVariables false
set_option linter.unusedSimpArgs false
set_option maxHeartbeats 1000000
namespace Go.Ab
attribute [local irreducible] IntKind.wrap
/-! ### 5. Rounds -/
def ff (t : Nat) (b c d : Int) : Int × Int :=
  if t < 20 then (bitsOr .u32 (bitsAnd .u32 b c) (bitsAnd .u32 (bitsXor .u32 4294967295 b) d), 1518500249)
  else if t < 40 then (bitsXor .u32 (bitsXor .u32 b c) d, 1859775393)
  else if t < 60 then (bitsOr .u32 (bitsOr .u32 (bitsAnd .u32 b c) (bitsAnd .u32 b d)) (bitsAnd .u32 c d), 2400959708)
  else (bitsXor .u32 (bitsXor .u32 b c) d, 3395469782)
theorem part_spec (t : Nat) (b c d : Int) : bitloftref01_part (t : Int) b c d = some (ff t b c d) := by
  rw [bitloftref01_part_eq]
  unfold ff
  by_cases h1 : t < 20
  · rw [if_pos (by simp; omega), if_pos h1]
  · rw [if_neg (by simp; omega), if_neg h1]
    by_cases h2 : t < 40
    · rw [if_pos (by simp; omega), if_pos h2]
    · rw [if_neg (by simp; omega), if_neg h2]
      by_cases h3 : t < 60
      · rw [if_pos (by simp; omega), if_pos h3]
      · rw [if_neg (by simp; omega), if_neg h3]
theorem mix_spec (t : Nat) (b c d : Int) (ht : t < 80) : sha_mix (IntKind.wrap .i64 (Int.tdiv (t : Int) 20)) b c d = some (ff t b c d).1 ∧ G_quarters.getD (IntKind.wrap .i64 (Int.tdiv (t : Int) 20)).toNat 0 = (ff t b c d).2 ∧ 0 ≤ IntKind.wrap .i64 (Int.tdiv (t : Int) 20) ∧ IntKind.wrap .i64 (Int.tdiv (t : Int) 20) < 4 := by
  have e : IntKind.wrap .i64 (Int.tdiv (t : Int) 20) = ((t / 20 : Nat) : Int) := by
    rw [tdiv_nn (by omega), w64 (by omega) (by omega)]; omega
  rw [e, sha_mix_eq]
  unfold ff
  by_cases h1 : t < 20
  · have : t / 20 = 0 := by omega
    rw [this, if_pos (by simp), if_pos h1, ch_eq]
    exact ⟨rfl, rfl, by omega, by omega⟩
  · rw [if_neg h1]
    by_cases h2 : t < 40
    · have : t / 20 = 1 := by omega
      rw [this, if_neg (by simp), if_neg (by simp), if_pos h2]
      exact ⟨rfl, rfl, by omega, by omega⟩
    · rw [if_neg h2]
      by_cases h3 : t < 60
      · have : t / 20 = 2 := by omega
        rw [this, if_neg (by simp), if_pos (by simp), if_pos h3, maj_eq]
        exact ⟨rfl, rfl, by omega, by omega⟩
      · have : t / 20 = 3 := by omega
        rw [this, if_neg (by simp), if_neg (by simp), if_neg h3]
        exact ⟨rfl, rfl, by omega, by omega⟩
structure S5 where
  a : Int
  b : Int
  c : Int
  d : Int
  e : Int
def S5.l (s : S5) : List Int := [s.a, s.b, s.c, s.d, s.e]
def rd (t : Nat) (w : Int) (s : S5) : S5 :=
  ⟨IntKind.wrap .u32 (IntKind.wrap .u32 (IntKind.wrap .u32 (IntKind.wrap .u32 (rot s.a 5 + (ff t s.b s.c s.d).1) + s.e) + (ff t s.b s.c s.d).2) + w), s.a, rot s.b 30, s.c, s.d⟩
def rnds (W : List Int) : Nat → Nat → S5 → S5
  | 0, _, s => s
  | k + 1, t, s => rnds W k (t + 1) (rd t (W.getD t 0) s)
theorem done_c3 (x y W : List Int) (hW : W.length = 80) : ∀ (k t : Nat) (s : S5), t + k = 80 → bitloftref01_Done_c3 (t : Int) x y W s.l = bitloftref01_Done_c4 0 x y (rnds W k t s).l
  | 0, t, s, e => by
    rw [bitloftref01_Done_c3_eq, if_neg (by simp; omega)]; rfl
  | k + 1, t, s, e => by
    have hl' : Int.ofNat W.length = 80 := by rw [hW]; rfl
    have g0 : s.l.getD 0 0 = s.a := rfl
    have g1 : s.l.getD 1 0 = s.b := rfl
    have g2 : s.l.getD 2 0 = s.c := rfl
    have g3 : s.l.getD 3 0 = s.d := rfl
    have g4 : s.l.getD 4 0 = s.e := rfl
    rw [bitloftref01_Done_c3_eq, if_pos (by simp; omega), hl']
    simp only [g0, g1, g2, g3, g4, part_spec, turn_spec _ 5 (by omega), turn_spec _ 30 (by omega), Option.bind_some, w64 (x := (t : Int) + 1) (by omega) (by omega), show 0 + ((t : Int)).toNat = t by omega]
    repeat rw [gd_pos (by omega)]
    have ih := done_c3 x y W hW k (t + 1) (rd t (W.getD t 0) s) (by omega)
    rw [show ((t + 1 : Nat) : Int) = (t : Int) + 1 by omega] at ih
    exact ih
def addF (x : List Int) (s : S5) : List Int := [IntKind.wrap .u32 (x.getD 0 0 + s.a), IntKind.wrap .u32 (x.getD 1 0 + s.b), IntKind.wrap .u32 (x.getD 2 0 + s.c), IntKind.wrap .u32 (x.getD 3 0 + s.d), IntKind.wrap .u32 (x.getD 4 0 + s.e)]
theorem done_c4 (y : List Int) (x s : S5) : bitloftref01_Done_c4 0 x.l y s.l = some (addF x.l s) := by
  have g : ∀ s : S5, s.l.getD 0 0 = s.a ∧ s.l.getD 1 0 = s.b ∧ s.l.getD 2 0 = s.c ∧ s.l.getD 3 0 = s.d ∧ s.l.getD 4 0 = s.e := fun s => ⟨rfl, rfl, rfl, rfl, rfl⟩
  have n1 : IntKind.wrap .i64 (0 + 1) = 1 := by kernel_rfl
  have n2 : IntKind.wrap .i64 (1 + 1) = 2 := by kernel_rfl
  have n3 : IntKind.wrap .i64 (2 + 1) = 3 := by kernel_rfl
  have n4 : IntKind.wrap .i64 (3 + 1) = 4 := by kernel_rfl
  have n5 : IntKind.wrap .i64 (4 + 1) = 5 := by kernel_rfl
  rw [bitloftref01_Done_c4_eq, if_pos (by simp), n1]
  repeat rw [gd_pos (by omega)]
  rw [bitloftref01_Done_c4_eq, if_pos (by simp), n2]
  repeat rw [gd_pos (by omega)]
  rw [bitloftref01_Done_c4_eq, if_pos (by simp), n3]
  repeat rw [gd_pos (by omega)]
  rw [bitloftref01_Done_c4_eq, if_pos (by simp), n4]
  repeat rw [gd_pos (by omega)]
  rw [bitloftref01_Done_c4_eq, if_pos (by simp), n5]
  repeat rw [gd_pos (by omega)]
  rw [bitloftref01_Done_c4_eq, if_neg (by simp)]
  rfl
/-- A block. -/
def blk (x : S5) (b : List Int) : S5 :=
  let s := rnds (sch 64 (wordsB b 0 16)) 80 0 x
  ⟨IntKind.wrap .u32 (x.a + s.a), IntKind.wrap .u32 (x.b + s.b), IntKind.wrap .u32 (x.c + s.c), IntKind.wrap .u32 (x.d + s.d), IntKind.wrap .u32 (x.e + s.e)⟩
theorem Done_spec (x : S5) (b : List Int) (hb : b.length = 64) : bitloftref01_Done x.l b = some (blk x b).l := by
  have h1 := done_c1 b hb x.l (List.replicate 5 0) 16 0 [] rfl rfl
  have h2 := done_c2 x.l (List.replicate 5 0) 64 16 (wordsB b 0 16) rfl (by omega) (wordsB_len b 16 0)
  have h3 := done_c3 x.l (List.replicate 5 0) (sch 64 (wordsB b 0 16)) (by rw [sch_len, wordsB_len]) 80 0 x rfl
  rw [bitloftref01_Done_eq]
  refine h1.trans ?_
  rw [List.nil_append]
  refine Eq.trans h2 (Eq.trans h3 ?_)
  rw [done_c4]; rfl
/-- Sixteen words in a ring. -/
def Ring (W : List Int) (t : Nat) (r : List Int) : Prop := r.length = 16 ∧ ∀ i, i < max t 16 → max t 16 ≤ i + 16 → r.getD (i % 16) 0 = W.getD i 0
theorem getD_set {r : List Int} {i j : Nat} {v : Int} (hi : i < r.length) : (r.set i v).getD j 0 = if i = j then v else r.getD j 0 := by
  simp only [List.getD_eq_getElem?_getD, List.getElem?_set]
  by_cases h : i = j
  · subst h; simp [hi]
  · simp [h]
theorem do_c2 (x y W : List Int) (hW : ∀ t, 16 ≤ t → t < 80 → W.getD t 0 = nextW (W.getD (t - 3) 0) (W.getD (t - 8) 0) (W.getD (t - 14) 0) (W.getD (t - 16) 0)) :
    ∀ (k t : Nat) (s : S5) (r : List Int), t + k = 80 → Ring W t r → sha_do_c2 s.a s.b s.c s.d s.e (t : Int) x y r = some (addF x (rnds W k t s))
  | 0, t, s, r, e, hr => by
    rw [sha_do_c2_eq, if_neg (by simp; omega)]
    repeat rw [gd_pos (by omega)]
    rfl
  | k + 1, t, s, r, e, hr => by
    obtain ⟨m1, m2, m3, m4⟩ := mix_spec t s.b s.c s.d (by omega)
    obtain ⟨r1, r5, r30⟩ := rotl_spec s.a
    obtain ⟨_, _, q30⟩ := rotl_spec s.b
    have et : (Int.tmod (t : Int) 16) = ((t % 16 : Nat) : Int) := by rw [tmod_nn (by omega)]; omega
    have ett : (((t % 16 : Nat) : Int)).toNat = t % 16 := by omega
    rw [sha_do_c2_eq, if_pos (by simp; omega)]
    by_cases h16 : 16 ≤ t
    · have e13 : (Int.tmod (IntKind.wrap .i64 ((t : Int) + 13)) 16) = (((t - 3) % 16 : Nat) : Int) := by rw [w64 (by omega) (by omega), tmod_nn (by omega)]; omega
      have e8 : (Int.tmod (IntKind.wrap .i64 ((t : Int) + 8)) 16) = (((t - 8) % 16 : Nat) : Int) := by rw [w64 (by omega) (by omega), tmod_nn (by omega)]; omega
      have e2 : (Int.tmod (IntKind.wrap .i64 ((t : Int) + 2)) 16) = (((t - 14) % 16 : Nat) : Int) := by rw [w64 (by omega) (by omega), tmod_nn (by omega)]; omega
      have e0 : t % 16 = (t - 16) % 16 := by omega
      have v13 := hr.2 (t - 3) (by omega) (by omega)
      have v8 := hr.2 (t - 8) (by omega) (by omega)
      have v2 := hr.2 (t - 14) (by omega) (by omega)
      have v0 := hr.2 (t - 16) (by omega) (by omega)
      rw [← e0] at v0
      have hn : rot (bitsXor .u32 (bitsXor .u32 (bitsXor .u32 (r.getD ((t - 3) % 16) 0) (r.getD ((t - 8) % 16) 0)) (r.getD ((t - 14) % 16) 0)) (r.getD (t % 16) 0)) 1 = W.getD t 0 := by
        rw [v13, v8, v2, v0, hW t h16 (by omega)]; rfl
      rw [if_pos (by simp; omega)]
      simp only [et, e13, e8, e2, (rotl_spec _).1, r5, q30, m1, m2, Option.bind_some, w64 (x := (t : Int) + 1) (by omega) (by omega), Int.toNat_natCast, hn]
      repeat rw [gd_pos (by omega)]
      have hr' : Ring W (t + 1) (r.set (t % 16) (W.getD t 0)) := by
        refine ⟨by simp [hr.1], fun i h1 h2 => ?_⟩
        rw [getD_set (by rw [hr.1]; omega)]
        by_cases hi : i = t
        · subst hi; rw [if_pos rfl]
        · rw [if_neg (by omega)]
          exact hr.2 i (by omega) (by omega)
      have hg : (r.set (t % 16) (W.getD t 0)).getD (t % 16) 0 = W.getD t 0 := by
        rw [getD_set (by rw [hr.1]; omega), if_pos rfl]
      have ih := do_c2 x y W hW k (t + 1) (rd t (W.getD t 0) s) _ (by omega) hr'
      rw [show ((t + 1 : Nat) : Int) = (t : Int) + 1 by omega] at ih
      rw [hg]
      exact ih
    · have v0 := hr.2 t (by omega) (by omega)
      rw [if_neg (by simp; omega)]
      simp only [et, r5, q30, m1, m2, Option.bind_some, w64 (x := (t : Int) + 1) (by omega) (by omega), Int.toNat_natCast, v0]
      repeat rw [gd_pos (by omega)]
      have hr' : Ring W (t + 1) r := ⟨hr.1, fun i h1 h2 => hr.2 i (by omega) (by omega)⟩
      have ih := do_c2 x y W hW k (t + 1) (rd t (W.getD t 0) s) _ (by omega) hr'
      rw [show ((t + 1 : Nat) : Int) = (t : Int) + 1 by omega] at ih
      exact ih
theorem do_spec (x : S5) (b : List Int) (hb : 64 ≤ b.length) (hB : Bts b) : sha_do x.l b = some (blk x (b.take 64)).l := by
  have hl : (b.take 64).length = 64 := by simp; omega
  have hl' : Int.ofNat (b.take 64).length = 64 := by rw [hl]; rfl
  rw [sha_do_eq, gd_pos (by omega), gd_pos (by simp; omega), hl']
  have h1 := do_c1 (b.take 64) hl (hB.take 64) x.l (List.replicate 5 0) 16 0 [] rfl rfl
  refine Eq.trans h1 ?_
  rw [List.nil_append, sha_do_c1_eq, if_neg (by simp)]
  repeat rw [gd_pos (by omega)]
  have hW : ∀ t, 16 ≤ t → t < 80 → _ := fun t h1 h2 => sch_at 64 (wordsB (b.take 64) 0 16) t (by rw [wordsB_len]; omega) (by rw [wordsB_len]; exact h1) (by rw [wordsB_len]; omega)
  have h2 := do_c2 x.l (List.replicate 5 0) (sch 64 (wordsB (b.take 64) 0 16)) hW 80 0 x (wordsB (b.take 64) 0 16) rfl ⟨wordsB_len _ _ _, fun i h1 h2 => by
    have hi : i < 16 := by omega
    rw [sch_pre 64 _ i (by rw [wordsB_len]; exact hi), Nat.mod_eq_of_lt hi]⟩
  refine Eq.trans h2 ?_
  rfl
end Go.Ab

set_option linter.unusedVariables false
set_option linter.unusedSimpArgs false
set_option maxHeartbeats 1000000
namespace Go.Ab
attribute [local irreducible] IntKind.wrap
/-! ### 6. The sum's bytes -/
def outAt (l : List Int) (i : Nat) : Int := IntKind.wrap .u8 (shrBy .u32 (l.getD (i / 4) 0) (24 - 8 * ((i % 4 : Nat) : Int)))
def outs (l : List Int) (t : Nat) : Nat → List Int
  | 0 => []
  | k + 1 => outAt l t :: outs l (t + 1) k
theorem outs_len (l : List Int) : ∀ (k t : Nat), (outs l t k).length = k
  | 0, t => rfl
  | k + 1, t => by simp [outs, outs_len l k]
theorem outs_bts (l : List Int) : ∀ (k t : Nat), Bts (outs l t k)
  | 0, t => Bts.nil
  | k + 1, t => Bts.cons (w8_b _) (outs_bts l k _)
theorem of_c2 (x l : List Int) : ∀ (k t : Nat) (P : List Int), t + k = 20 → P.length = t → bitloftref01_Of_c2 (t : Int) x l (P ++ List.replicate k 0) = some (P ++ outs l t k)
  | 0, t, P, e, hl => by
    rw [bitloftref01_Of_c2_eq, if_neg (by simp; omega)]; rfl
  | k + 1, t, P, e, hl => by
    have e1 : IntKind.wrap .i64 (Int.tdiv (t : Int) 4) = ((t / 4 : Nat) : Int) := by
      rw [tdiv_nn (by omega), w64 (by omega) (by omega)]; omega
    have e2 : IntKind.wrap .i64 (8 * (Int.tmod (t : Int) 4)) = 8 * ((t % 4 : Nat) : Int) := by
      rw [tmod_nn (by omega), w64 (by omega) (by omega)]; omega
    have e3 : IntKind.wrap .i64 (24 - 8 * ((t % 4 : Nat) : Int)) = 24 - 8 * ((t % 4 : Nat) : Int) := w64 (by omega) (by omega)
    rw [bitloftref01_Of_c2_eq, if_pos (by simp; omega), e1, e2, e3, w64 (x := (t : Int) + 1) (by omega) (by omega)]
    repeat rw [gd_pos (by omega)]
    rw [show ((t : Int)).toNat = P.length by omega, show (((t / 4 : Nat) : Int)).toNat = t / 4 by omega, List.replicate_succ, set_mid]
    have ih := of_c2 x l k (t + 1) (P ++ [outAt l t]) (by omega) (by simp; omega)
    rw [show ((t + 1 : Nat) : Int) = (t : Int) + 1 by omega] at ih
    simp only [List.append_assoc, List.singleton_append] at ih
    exact ih
theorem sum_c2 (l : List Int) : ∀ (k t : Nat) (P : List Int), t + k = 5 → P.length = 4 * t → sha_Sum_c2 l (t : Int) (P ++ List.replicate (4 * k) 0) = some (P ++ outs l (4 * t) (4 * k), 0)
  | 0, t, P, e, hl => by
    rw [sha_Sum_c2_eq, if_neg (by simp; omega)]; rfl
  | k + 1, t, P, e, hl => by
    rw [sha_Sum_c2_eq, if_pos (by simp; omega)]
    simp only [w64 (x := 4 * (t : Int)) (by omega) (by omega), w64 (x := 4 * (t : Int) + 1) (by omega) (by omega), w64 (x := 4 * (t : Int) + 2) (by omega) (by omega), w64 (x := 4 * (t : Int) + 3) (by omega) (by omega), w64 (x := (t : Int) + 1) (by omega) (by omega)]
    repeat rw [gd_pos (by omega)]
    rw [show ((t : Int)).toNat = t by omega, show (4 * (t : Int)).toNat = P.length by omega]
    have s0 : IntKind.wrap .u8 (Int.fdiv (l.getD t 0) 16777216) = outAt l (4 * t) := by
      unfold outAt shrBy
      rw [show 4 * t / 4 = t by omega, show 4 * t % 4 = 0 by omega]; rfl
    have s1 : IntKind.wrap .u8 (Int.fdiv (l.getD t 0) 65536) = outAt l (4 * t + 1) := by
      unfold outAt shrBy
      rw [show (4 * t + 1) / 4 = t by omega, show (4 * t + 1) % 4 = 1 by omega]; rfl
    have s2 : IntKind.wrap .u8 (Int.fdiv (l.getD t 0) 256) = outAt l (4 * t + 2) := by
      unfold outAt shrBy
      rw [show (4 * t + 2) / 4 = t by omega, show (4 * t + 2) % 4 = 2 by omega]; rfl
    have s3 : IntKind.wrap .u8 (l.getD t 0) = outAt l (4 * t + 3) := by
      unfold outAt shrBy
      rw [show (4 * t + 3) / 4 = t by omega, show (4 * t + 3) % 4 = 3 by omega]
      have : (2 : Int) ^ (min ((24 : Int) - 8 * ((3 : Nat) : Int)).toNat (IntKind.bits .u32)) = 1 := rfl
      rw [this, Int.fdiv_one]
    rw [s0, s1, s2, s3, show 4 * (k + 1) = 4 * k + 1 + 1 + 1 + 1 by omega, List.replicate_succ, List.replicate_succ, List.replicate_succ, List.replicate_succ, set_mid]
    have a1 := set_mid (P ++ [outAt l (4 * t)]) 0 (outAt l (4 * t + 1)) (0 :: 0 :: List.replicate (4 * k) 0)
    have a2 := set_mid (P ++ [outAt l (4 * t), outAt l (4 * t + 1)]) 0 (outAt l (4 * t + 2)) (0 :: List.replicate (4 * k) 0)
    have a3 := set_mid (P ++ [outAt l (4 * t), outAt l (4 * t + 1), outAt l (4 * t + 2)]) 0 (outAt l (4 * t + 3)) (List.replicate (4 * k) 0)
    simp only [List.append_assoc, List.cons_append, List.nil_append, List.length_append, List.length_cons, List.length_nil] at a1 a2 a3
    rw [show (4 * (t : Int) + 1).toNat = P.length + (0 + 1) by omega, a1, show (4 * (t : Int) + 2).toNat = P.length + (0 + 1 + 1) by omega, a2, show (4 * (t : Int) + 3).toNat = P.length + (0 + 1 + 1 + 1) by omega, a3]
    have ih := sum_c2 l k (t + 1) (P ++ [outAt l (4 * t), outAt l (4 * t + 1), outAt l (4 * t + 2), outAt l (4 * t + 3)]) (by omega) (by simp; omega)
    rw [show ((t + 1 : Nat) : Int) = (t : Int) + 1 by omega] at ih
    simp only [List.append_assoc, List.cons_append, List.nil_append] at ih
    exact ih
/-! ### 7. All blocks -/
def blks : Nat → S5 → List Int → S5
  | 0, x, _ => x
  | k + 1, x, m => blks k (blk x (m.take 64)) (m.drop 64)
theorem sum_c1 : ∀ (k : Nat) (x : S5) (m : List Int), m.length = 64 * k → Bts m → sha_Sum_c1 m (List.replicate 20 0) x.l = some (outs (blks k x m).l 0 20, 0)
  | 0, x, m, hl, hB => by
    obtain rfl : m = [] := List.eq_nil_of_length_eq_zero (by omega)
    rw [sha_Sum_c1_eq, if_neg (by simp)]
    exact sum_c2 x.l 5 0 [] rfl rfl
  | k + 1, x, m, hl, hB => by
    rw [sha_Sum_c1_eq, if_pos (by rw [decide_eq_true_eq]; have : Int.ofNat m.length = (m.length : Int) := rfl; omega), do_spec x m (by omega) hB]
    simp only [Option.bind_some]
    rw [gd_pos (by omega), gd_pos (by simp; omega)]
    exact sum_c1 k _ (m.drop 64) (by simp; omega) (hB.drop 64)
theorem of_c1 (x0 m : List Int) (K : Nat) (hm : m.length = 64 * K) (hK : K ≤ 100000) : ∀ (k t : Nat) (x : S5), t + k = K → bitloftref01_Of_c1 (64 * (t : Int)) x0 m x.l = some (outs (blks k x (m.drop (64 * t))).l 0 20)
  | 0, t, x, e => by
    have hl : Int.ofNat m.length = (64 * K : Nat) := by rw [hm]; rfl
    rw [bitloftref01_Of_c1_eq, hl, if_neg (by simp; omega)]
    exact of_c2 x0 x.l 20 0 [] rfl rfl
  | k + 1, t, x, e => by
    have hl : Int.ofNat m.length = (64 * K : Nat) := by rw [hm]; rfl
    rw [bitloftref01_Of_c1_eq, hl, if_pos (by simp; omega), w64 (by omega) (by omega)]
    repeat rw [gd_pos (by omega)]
    rw [show (64 * (t : Int) + 64).toNat - (64 * (t : Int)).toNat = 64 by omega, show 0 + (64 * (t : Int)).toNat = 64 * t by omega, Done_spec x _ (by simp; omega)]
    simp only [Option.bind_some]
    have ih := of_c1 x0 m K hm hK k (t + 1) (blk x ((m.drop (64 * t)).take 64)) (by omega)
    rw [show 64 * ((t + 1 : Nat) : Int) = 64 * (t : Int) + 64 by omega] at ih
    rw [ih]
    simp only [blks, List.drop_drop]
    rw [show 64 * (t + 1) = 64 * t + 64 by omega]
def iv : S5 := ⟨1732584193, 4023233417, 2562383102, 271733878, 3285377520⟩
/-- The sum of some bytes. -/
def shaB (a : List Int) : List Int := outs (blks ((a ++ padB a.length).length / 64) iv (a ++ padB a.length)).l 0 20
theorem shaB_len (a : List Int) : (shaB a).length = 20 := outs_len _ _ _
theorem shaB_bts (a : List Int) : Bts (shaB a) := outs_bts _ _ _
theorem Of_spec (a : List Int) (h : a.length ≤ 1000000) : bitloftref01_Of a = some (shaB a) := by
  have hp := padB_len (a.length : Int) (by omega)
  have ha : Int.ofNat a.length = (a.length : Int) := rfl
  rw [bitloftref01_Of_eq, gd_pos (by simp; omega), ha, padding_spec _ ⟨by omega, by omega⟩]
  simp only [Option.bind_some, bitloftref01_First_eq, List.nil_append]
  rw [gd_pos (by simp; omega)]
  have hm : (a ++ padB a.length).length = 64 * ((a ++ padB a.length).length / 64) := by
    simp only [List.length_append]; omega
  exact of_c1 (List.replicate 20 0) (a ++ padB a.length) _ hm (by simp only [List.length_append]; omega) _ 0 iv (by omega)
theorem Sum_spec (a : List Int) (hB : Bts a) : sha_Sum a = some (if a.length ≤ 20000 then (shaB a, 0) else (List.replicate 20 0, 4)) := by
  have ha : Int.ofNat a.length = (a.length : Int) := rfl
  rw [sha_Sum_eq, ha]
  by_cases h : a.length ≤ 20000
  · have hp := padB_len (a.length : Int) (by omega)
    rw [if_neg (by simp; omega), if_pos h, sha_pad_spec _ (by omega)]
    simp only [Option.bind_some]
    rw [concat_two _ _ (by omega)]
    simp only [Option.bind_some]
    have hm : (a ++ padB a.length).length = 64 * ((a ++ padB a.length).length / 64) := by
      simp only [List.length_append]; omega
    exact sum_c1 _ iv (a ++ padB a.length) hm (hB.append (padB_bts _))
  · rw [if_pos (by simp; omega), if_neg h]
end Go.Ab

set_option linter.unusedVariables false
set_option linter.unusedSimpArgs false
set_option maxHeartbeats 1000000
namespace Go.Ab
attribute [local irreducible] IntKind.wrap
/-! ### 1. Names -/
theorem eqBA (a b : ByteArray) : (ByteArray.toList a == ByteArray.toList b) = decide (a = b) := by
  rw [Bool.eq_iff_iff, beq_iff_eq, decide_eq_true_eq]
  exact ⟨fun h => toList_inj h, fun h => by rw [h]⟩
theorem ofStr_len (s : ByteArray) : (ofStr s).length = s.size := by
  unfold ofStr
  rw [List.length_map, Array.length_toList]; rfl
def okC (x : Int) : Bool := decide (33 ≤ x) && decide (x ≤ 126)
def nmOK (s : ByteArray) : Bool := (ofStr s).all okC && decide (1 ≤ s.size) && decide (s.size ≤ 40)
theorem drop_at {xs : List Int} {i : Nat} (h : i < xs.length) : xs.drop i = xs.getD i 0 :: xs.drop (i + 1) := by
  rw [List.drop_eq_getElem_cons h, List.getD_eq_getElem?_getD, List.getElem?_eq_getElem h]; rfl
theorem isName_c1 (s : ByteArray) (hs : s.size ≤ 9223372036854775807) : ∀ (k i : Nat), i + k = s.size → member_isName_c1 s (s.size : Int) (i : Int) = some (((ofStr s).drop i).all okC && decide (1 ≤ s.size) && decide (s.size ≤ 40))
  | 0, i, e => by
    have hd : (ofStr s).drop i = [] := List.drop_eq_nil_of_le (by rw [ofStr_len]; omega)
    rw [member_isName_c1_eq, if_neg (by simp; omega), hd]
    have hl : Int.ofNat s.size = (s.size : Int) := rfl
    rw [hl]
    by_cases h : 1 ≤ s.size
    · rw [if_pos (by simp; omega)]
      simp [h]; omega
    · rw [if_neg (by rw [decide_eq_true_eq]; omega)]
      simp [h]
  | k + 1, i, e => by
    have hi : i < (ofStr s).length := by rw [ofStr_len]; omega
    have hb : btAt s ((i : Int)).toNat = (ofStr s).getD i 0 := by rw [Int.toNat_natCast]; rfl
    rw [member_isName_c1_eq, if_pos (by simp; omega), gd_pos (by omega), gd_pos (by omega), hb, drop_at hi, w64 (by omega) (by omega)]
    have ih := isName_c1 s hs k (i + 1) (by omega)
    rw [show ((i + 1 : Nat) : Int) = (i : Int) + 1 by omega] at ih
    by_cases h1 : (ofStr s).getD i 0 ≤ 32
    · rw [if_pos (by simpa using h1)]
      have : okC ((ofStr s).getD i 0) = false := by simp only [okC, Bool.and_eq_false_iff, decide_eq_false_iff_not]; left; omega
      simp only [List.all_cons, this, Bool.false_and]
    · rw [if_neg (by simpa using h1), gd_pos (by omega), gd_pos (by omega)]
      by_cases h2 : (ofStr s).getD i 0 > 126
      · rw [if_pos (by simpa using h2)]
        have : okC ((ofStr s).getD i 0) = false := by simp only [okC, Bool.and_eq_false_iff, decide_eq_false_iff_not]; right; omega
        simp only [List.all_cons, this, Bool.false_and]
      · rw [if_neg (by simpa using h2), ih]
        have : okC ((ofStr s).getD i 0) = true := by simp only [okC, Bool.and_eq_true, decide_eq_true_eq]; omega
        simp only [List.all_cons, this, Bool.true_and]
theorem member_isName_spec (s : ByteArray) (hs : s.size ≤ 9223372036854775807) : member_isName s = some (nmOK s) := by
  rw [member_isName_eq]
  exact isName_c1 s hs s.size 0 (by omega)
theorem Name_c1 (s : ByteArray) (hs : s.size ≤ 9223372036854775807) : ∀ (k i : Nat), i + k = s.size → bitloftref28_Name_c1 s (i : Int) = some (((ofStr s).drop i).all okC)
  | 0, i, e => by
    have hd : (ofStr s).drop i = [] := List.drop_eq_nil_of_le (by rw [ofStr_len]; omega)
    rw [bitloftref28_Name_c1_eq, if_neg (by simp; omega), hd]
    rfl
  | k + 1, i, e => by
    have hi : i < (ofStr s).length := by rw [ofStr_len]; omega
    have hb : btAt s ((i : Int)).toNat = (ofStr s).getD i 0 := by rw [Int.toNat_natCast]; rfl
    rw [bitloftref28_Name_c1_eq, if_pos (by simp; omega), gd_pos (by omega), gd_pos (by omega), hb, drop_at hi, w64 (by omega) (by omega)]
    have ih := Name_c1 s hs k (i + 1) (by omega)
    rw [show ((i + 1 : Nat) : Int) = (i : Int) + 1 by omega] at ih
    by_cases h1 : (ofStr s).getD i 0 < 33
    · rw [if_pos (by simpa using h1)]
      have : okC ((ofStr s).getD i 0) = false := by simp only [okC, Bool.and_eq_false_iff, decide_eq_false_iff_not]; left; omega
      simp only [List.all_cons, this, Bool.false_and]
    · rw [if_neg (by simpa using h1), gd_pos (by omega), gd_pos (by omega)]
      by_cases h2 : (ofStr s).getD i 0 > 126
      · rw [if_pos (by simpa using h2)]
        have : okC ((ofStr s).getD i 0) = false := by simp only [okC, Bool.and_eq_false_iff, decide_eq_false_iff_not]; right; omega
        simp only [List.all_cons, this, Bool.false_and]
      · rw [if_neg (by simpa using h2), ih]
        have : okC ((ofStr s).getD i 0) = true := by simp only [okC, Bool.and_eq_true, decide_eq_true_eq]; omega
        simp only [List.all_cons, this, Bool.true_and]
theorem ref28_Name_spec (s : ByteArray) (hs : s.size ≤ 9223372036854775807) : bitloftref28_Name s = some (nmOK s) := by
  have hl : Int.ofNat s.size = (s.size : Int) := rfl
  rw [bitloftref28_Name_eq, hl]
  unfold nmOK
  by_cases h1 : s.size < 1
  · rw [if_pos (by simp; omega)]
    have : ¬ 1 ≤ s.size := by omega
    simp [this]
  · rw [if_neg (by simp; omega)]
    by_cases h2 : s.size > 40
    · rw [if_pos (by simp; omega)]
      have : ¬ s.size ≤ 40 := by omega
      simp [this]
    · rw [if_neg (by simp; omega)]
      have := Name_c1 s hs s.size 0 (by omega)
      refine this.trans ?_
      have h3 : 1 ≤ s.size := by omega
      have h4 : s.size ≤ 40 := by omega
      simp [h3, h4]
/-! ### 2. Names that stand twice -/
theorem mget_mset {α β : Type} {eq : α → α → Bool} (h : ∀ a b, eq a b = true ↔ a = b) (x y : α) (v : β) : ∀ m : List (α × β), mget eq x (mset eq y v m) = if eq x y then some v else mget eq x m
  | [] => by simp [mset, mget]
  | e :: r => by
    simp only [mset]
    by_cases hy : eq y e.1 = true
    · have := (h _ _).1 hy
      simp only [hy, if_true, mget]
      by_cases hx : eq x y = true
      · simp [hx]
      · have : eq x e.1 = false := by rw [← this]; simpa using hx
        simp [hx, this]
    · simp only [hy, Bool.false_eq_true, if_false, mget, mget_mset h x y v r]
      by_cases hx : eq x y = true
      · have e1 := (h _ _).1 hx
        subst e1
        simp [hx, hy]
      · simp [hx]
theorem peq_str (a b : ByteArray) : peq .str a b = decide (a = b) := eqBA a b
def memB (x : ByteArray) (xs : List ByteArray) : Bool := xs.any fun y => decide (x = y)
theorem memB_append (x y : ByteArray) (xs : List ByteArray) : memB x (xs ++ [y]) = (memB x xs || decide (x = y)) := by simp [memB]
def dupF (seen : List ByteArray) : List ByteArray → Bool
  | [] => false
  | x :: r => memB x seen || dupF (seen ++ [x]) r
theorem dropS_at {xs : List ByteArray} {i : Nat} (h : i < xs.length) : xs.drop i = xs.getD i ByteArray.empty :: xs.drop (i + 1) ∧ xs.take (i + 1) = xs.take i ++ [xs.getD i ByteArray.empty] := by
  have e : xs.getD i ByteArray.empty = xs[i] := by rw [List.getD_eq_getElem?_getD, List.getElem?_eq_getElem h]; rfl
  rw [e]
  exact ⟨List.drop_eq_getElem_cons h, by rw [List.take_add_one, List.getElem?_eq_getElem h]; rfl⟩
theorem twice_c1 (xs : List ByteArray) (hx : xs.length ≤ 9223372036854775807) : ∀ (k i : Nat) (m : List (ByteArray × Bool)), i + k = xs.length → (∀ x, Option.getD (mget (peq .str) x m) false = memB x (xs.take i)) → member_twice_c1 xs (xs.length : Int) (i : Int) m = some (dupF (xs.take i) (xs.drop i))
  | 0, i, m, e, hm => by
    rw [member_twice_c1_eq, if_neg (by simp; omega), List.drop_eq_nil_of_le (by omega)]; rfl
  | k + 1, i, m, e, hm => by
    have hl : Int.ofNat xs.length = (xs.length : Int) := rfl
    obtain ⟨d1, d2⟩ := dropS_at (xs := xs) (i := i) (by omega)
    rw [member_twice_c1_eq, if_pos (by simp; omega), gd_pos (by omega), gd_pos (by rw [hl]; omega), Int.toNat_natCast, hm, d1, dupF]
    by_cases h : memB (xs.getD i ByteArray.empty) (xs.take i) = true
    · rw [if_pos h, h]; rfl
    · rw [if_neg h, w64 (by omega) (by omega)]
      have ih := twice_c1 xs hx k (i + 1) (mset (peq .str) (xs.getD i ByteArray.empty) true m) (by omega) (fun x => by
        rw [mget_mset (fun a b => by rw [peq_str]; simp), d2, peq_str, memB_append, ← hm]
        by_cases hx : x = xs.getD i ByteArray.empty
        · rw [if_pos (by simp [hx])]; simp [hx]
        · rw [decide_eq_false hx, if_neg (by simp), Bool.or_false])
      rw [show ((i + 1 : Nat) : Int) = (i : Int) + 1 by omega] at ih
      rw [ih, d2, Bool.eq_false_iff.2 h]; rfl
theorem member_twice_spec (xs : List ByteArray) (hx : xs.length ≤ 9223372036854775807) : member_twice xs = some (dupF [] xs) := by
  rw [member_twice_eq]
  exact twice_c1 xs hx xs.length 0 [] (by omega) (fun x => by simp [mget, memB])
/-! ### 3. Records that are valid -/
def badR (r : D_api_Record) : Bool := !nmOK r.1 || decide (r.2.1 < 0) || decide (r.2.1 > 8192) || (r.2.1 == 0 && !peq (.arr 20 (.int .u8)) r.2.2.1 (shaB []))
def vld (acc : Int) (nm : List ByteArray) : List D_api_Record → Int
  | [] => if acc > 8192 then 4 else if dupF [] nm then 14 else 0
  | r :: rest => if badR r then 8 else vld (acc + r.2.1) (nm ++ [r.1]) rest
def valid (rs : List D_api_Record) : Int := if rs.length > 16 then 4 else vld 0 [] rs
def RecsOK (rs : List D_api_Record) : Prop := rs.length ≤ 9223372036854775807 ∧ ∀ r ∈ rs, r.1.size ≤ 9223372036854775807
theorem dropR_at {α : Type} {xs : List α} {i : Nat} (d : α) (h : i < xs.length) : xs.drop i = xs.getD i d :: xs.drop (i + 1) ∧ xs.take (i + 1) = xs.take i ++ [xs.getD i d] ∧ xs.getD i d ∈ xs := by
  have e : xs.getD i d = xs[i] := by rw [List.getD_eq_getElem?_getD, List.getElem?_eq_getElem h]; rfl
  rw [e]
  exact ⟨List.drop_eq_getElem_cons h, by rw [List.take_add_one, List.getElem?_eq_getElem h]; rfl, List.getElem_mem h⟩
theorem digest_nil : member_digest [] = some (shaB []) := by
  rw [member_digest_eq, Sum_spec [] Bts.nil]; rfl
theorem Of_nil : bitloftref01_Of [] = some (shaB []) := Of_spec [] (by simp)
theorem Valid_c1 (rs : List D_api_Record) (hR : RecsOK rs) (hn : rs.length ≤ 16) : ∀ (k i : Nat) (acc : Int) (nm : List ByteArray), i + k = rs.length → nm.length = i → 0 ≤ acc → acc ≤ 8192 * i → member_Valid_c1 acc rs (rs.length : Int) (i : Int) nm = some (vld acc nm (rs.drop i))
  | 0, i, acc, nm, e, hl, a0, a1 => by
    rw [member_Valid_c1_eq, if_neg (by simp; omega), List.drop_eq_nil_of_le (by omega), vld]
    by_cases h : acc > 8192
    · rw [if_pos (by simpa using h), if_pos h]
    · rw [if_neg (by simpa using h), if_neg h, member_twice_spec _ (by omega)]
      simp only [Option.bind_some]
      by_cases h : dupF [] nm = true
      · rw [if_pos h, if_pos h]
      · rw [if_neg h, if_neg h]
  | k + 1, i, acc, nm, e, hl, a0, a1 => by
    have hl' : Int.ofNat rs.length = (rs.length : Int) := rfl
    obtain ⟨d1, d2, d3⟩ := dropR_at (pzero T_api_Record : D_api_Record) (xs := rs) (i := i) (by omega)
    rw [member_Valid_c1_eq, if_pos (by simp; omega), gd_pos (by omega), gd_pos (by rw [hl']; omega), Int.toNat_natCast, d1, vld]
    generalize hr : (List.getD rs i (pzero T_api_Record) : D_api_Record) = r at d3 ⊢
    rw [member_isName_spec _ (hR.2 r d3)]
    simp only [Option.bind_some, digest_nil]
    by_cases h1 : nmOK r.1 = true
    · rw [if_neg (by simp [h1])]
      by_cases h2 : r.2.1 < 0
      · rw [if_pos (by simpa using h2), if_pos (by simp [badR, h2])]
      · rw [if_neg (by simpa using h2)]
        by_cases h3 : r.2.1 > 8192
        · rw [if_pos (by simpa using h3), if_pos (by simp [badR, h3])]
        · rw [if_neg (by simpa using h3)]
          have ih := Valid_c1 rs hR hn k (i + 1) (acc + r.2.1) (nm ++ [r.1]) (by omega) (by simp; omega) (by omega) (by omega)
          rw [show ((i + 1 : Nat) : Int) = (i : Int) + 1 by omega] at ih
          rw [w64 (x := (i : Int) + 1) (by omega) (by omega), w64 (x := acc + r.2.1) (by omega) (by omega), ih]
          by_cases h4 : r.2.1 = 0
          · rw [if_pos (by simp [h4])]
            by_cases h5 : peq (.arr 20 (.int .u8)) r.2.2.1 (shaB []) = true
            · rw [if_neg (by simp [h5]), gd_pos (by simp; omega), if_neg (by simp [badR, h1, h4, h5])]
            · rw [if_pos (by simpa using h5), if_pos (by simp [badR, h4, h5])]
          · rw [if_neg (by simpa using h4), gd_pos (by simp; omega), if_neg (by simp [badR, h1, h4]; omega)]
    · rw [if_pos (by simpa using h1), if_pos (by simp [badR, h1])]
theorem member_Valid_spec (rs : List D_api_Record) (hR : RecsOK rs) : member_Valid rs = some (valid rs) := by
  have hl : Int.ofNat rs.length = (rs.length : Int) := rfl
  rw [member_Valid_eq, hl, valid]
  by_cases h : rs.length > 16
  · rw [if_pos (by simp; omega), if_pos h]
  · rw [if_neg (by simp; omega), if_neg h]
    exact Valid_c1 rs hR (by omega) rs.length 0 0 [] (by omega) rfl (by omega) (by omega)
/-! ### 4. The reference -/
def names (rs : List D_api_Record) : List ByteArray := rs.map (·.1)
theorem names_get (rs : List D_api_Record) (i : Nat) (h : i < rs.length) : (rs.getD i (pzero T_api_Record)).1 = (names rs).getD i ByteArray.empty := by
  unfold names
  simp only [List.getD_eq_getElem?_getD, List.getElem?_map, List.getElem?_eq_getElem h, Option.map_some, Option.getD_some]
theorem memB_drop {x : ByteArray} {xs : List ByteArray} {j i : Nat} (h : j < i) (hi : i ≤ xs.length) : memB x ((xs.take i).drop j) = (decide (x = xs.getD j ByteArray.empty) || memB x ((xs.take i).drop (j + 1))) := by
  have hl : j < (xs.take i).length := by rw [List.length_take]; omega
  have e : xs.getD j ByteArray.empty = (xs.take i)[j] := by
    rw [List.getD_eq_getElem?_getD, List.getElem_take, List.getElem?_eq_getElem (by omega)]; rfl
  rw [List.drop_eq_getElem_cons hl, e]
  simp [memB]
theorem Valid_c3 (rs : List D_api_Record) (hn : rs.length ≤ 16) (i : Nat) (hi : i < rs.length) : ∀ (k j : Nat), j + k = i → bitloftref28_Valid_c3 rs (i : Int) (j : Int) = if memB ((names rs).getD i ByteArray.empty) (((names rs).take i).drop j) then some 14 else bitloftref28_Valid_c2 rs ((i : Int) + 1)
  | 0, j, e => by
    have hd : ((names rs).take i).drop j = [] := List.drop_eq_nil_of_le (by rw [List.length_take]; omega)
    rw [bitloftref28_Valid_c3_eq, if_neg (by simp; omega), hd, w64 (by omega) (by omega)]
    simp [memB]
  | k + 1, j, e => by
    have hl' : Int.ofNat rs.length = (rs.length : Int) := rfl
    have hnl : (names rs).length = rs.length := by simp [names]
    have ih := Valid_c3 rs hn i hi k (j + 1) (by omega)
    rw [show ((j + 1 : Nat) : Int) = (j : Int) + 1 by omega] at ih
    rw [bitloftref28_Valid_c3_eq, if_pos (by simp; omega), gd_pos (by omega), gd_pos (by rw [hl']; omega), gd_pos (by omega), gd_pos (by rw [hl']; omega), Int.toNat_natCast, Int.toNat_natCast, names_get rs j (by omega), names_get rs i hi, w64 (x := (j : Int) + 1) (by omega) (by omega), ih, memB_drop (j := j) (i := i) (by omega) (by omega), eqBA]
    by_cases h : (names rs).getD j ByteArray.empty = (names rs).getD i ByteArray.empty
    · rw [decide_eq_true h, decide_eq_true h.symm]; simp
    · rw [decide_eq_false h, decide_eq_false (fun e => h e.symm)]; simp
theorem Valid_c2 (rs : List D_api_Record) (hn : rs.length ≤ 16) : ∀ (k i : Nat), i + k = rs.length → bitloftref28_Valid_c2 rs (i : Int) = some (if dupF ((names rs).take i) ((names rs).drop i) then 14 else 0)
  | 0, i, e => by
    have hnl : (names rs).length = rs.length := by simp [names]
    rw [bitloftref28_Valid_c2_eq, if_neg (by simp; omega), List.drop_eq_nil_of_le (by omega)]; rfl
  | k + 1, i, e => by
    have hnl : (names rs).length = rs.length := by simp [names]
    obtain ⟨d1, d2⟩ := dropS_at (xs := names rs) (i := i) (by omega)
    have ih := Valid_c2 rs hn k (i + 1) (by omega)
    rw [show ((i + 1 : Nat) : Int) = (i : Int) + 1 by omega] at ih
    have h3 := Valid_c3 rs hn i (by omega) i 0 (by omega)
    rw [bitloftref28_Valid_c2_eq, if_pos (by simp; omega)]
    refine Eq.trans h3 ?_
    rw [ih, List.drop_zero, d1, dupF, ← d2]
    cases memB ((names rs).getD i ByteArray.empty) ((names rs).take i) <;> simp
theorem ref_Valid_c1 (rs : List D_api_Record) (hR : RecsOK rs) (hn : rs.length ≤ 16) : ∀ (k i : Nat) (acc : Int), i + k = rs.length → 0 ≤ acc → acc ≤ 8192 * i → bitloftref28_Valid_c1 rs acc (i : Int) = some (vld acc (names (rs.take i)) (rs.drop i))
  | 0, i, acc, e, a0, a1 => by
    have hl' : Int.ofNat rs.length = (rs.length : Int) := rfl
    rw [bitloftref28_Valid_c1_eq, if_neg (by simp; omega), List.drop_eq_nil_of_le (by omega), vld, List.take_of_length_le (by omega)]
    by_cases h : acc > 8192
    · rw [if_pos (by simpa using h), if_pos h]
    · rw [if_neg (by simpa using h), if_neg h]
      exact Valid_c2 rs hn rs.length 0 (by omega)
  | k + 1, i, acc, e, a0, a1 => by
    have hl' : Int.ofNat rs.length = (rs.length : Int) := rfl
    obtain ⟨d1, d2, d3⟩ := dropR_at (pzero T_api_Record : D_api_Record) (xs := rs) (i := i) (by omega)
    have ih := fun a h0 h1 => ref_Valid_c1 rs hR hn k (i + 1) a (by omega) h0 h1
    rw [show ((i + 1 : Nat) : Int) = (i : Int) + 1 by omega, d2] at ih
    rw [bitloftref28_Valid_c1_eq, if_pos (by simp; omega), gd_pos (by omega), gd_pos (by rw [hl']; omega), Int.toNat_natCast, d1, vld]
    have hnm : names (List.take i rs ++ [List.getD rs i (pzero T_api_Record)]) = names (List.take i rs) ++ [(List.getD rs i (pzero T_api_Record)).1] := by simp [names]
    rw [hnm] at ih
    generalize hr : (List.getD rs i (pzero T_api_Record) : D_api_Record) = r at d3 ih ⊢
    rw [ref28_Name_spec _ (hR.2 r d3)]
    simp only [Option.bind_some, Of_nil]
    by_cases h1 : nmOK r.1 = true
    · rw [if_neg (by simp [h1])]
      by_cases h2 : r.2.1 < 0
      · rw [if_pos (by simpa using h2), if_pos (by simp [badR, h2])]
      · rw [if_neg (by simpa using h2)]
        by_cases h3 : r.2.1 > 8192
        · rw [if_pos (by simpa using h3), if_pos (by simp [badR, h3])]
        · rw [if_neg (by simpa using h3)]
          rw [w64 (x := (i : Int) + 1) (by omega) (by omega), w64 (x := acc + r.2.1) (by omega) (by omega), ih _ (by omega) (by omega)]
          by_cases h4 : r.2.1 = 0
          · rw [if_pos (by simp [h4])]
            by_cases h5 : peq (.arr 20 (.int .u8)) r.2.2.1 (shaB []) = true
            · rw [if_neg (by simp [h5]), if_neg (by simp [badR, h1, h4, h5])]
            · rw [if_pos (by simpa using h5), if_pos (by simp [badR, h4, h5])]
          · rw [if_neg (by simpa using h4), if_neg (by simp [badR, h1, h4]; omega)]
    · rw [if_pos (by simpa using h1), if_pos (by simp [badR, h1])]
theorem ref28_Valid_spec (rs : List D_api_Record) (hR : RecsOK rs) : bitloftref28_Valid rs = some (valid rs) := by
  have hl : Int.ofNat rs.length = (rs.length : Int) := rfl
  rw [bitloftref28_Valid_eq, hl, valid]
  by_cases h : rs.length > 16
  · rw [if_pos (by simp; omega), if_pos h]
  · rw [if_neg (by simp; omega), if_neg h]
    exact ref_Valid_c1 rs hR (by omega) rs.length 0 0 (by omega) (by omega) (by omega)
end Go.Ab

set_option linter.unusedVariables false
set_option linter.unusedSimpArgs false
set_option maxHeartbeats 1000000
namespace Go.Ab
attribute [local irreducible] IntKind.wrap
/-! ### 1. Settings and records -/
def chk (a : D_api_Settings) : Int := if 0 ≤ a.1 ∧ a.1 ≤ 7 ∧ 16 ≤ a.2.1 ∧ a.2.1 ≤ 4096 then 0 else 2
theorem pack_Check_spec (a : D_api_Settings) : pack_Check a = some (chk a) := by
  rw [pack_Check_eq, chk]
  by_cases h1 : a.1 < 0
  · rw [if_pos (by simpa using h1), if_neg (by omega)]
  · rw [if_neg (by simpa using h1)]
    by_cases h2 : a.1 > 7
    · rw [if_pos (by simpa using h2), if_neg (by omega)]
    · rw [if_neg (by simpa using h2)]
      by_cases h3 : a.2.1 < 16
      · rw [if_pos (by simpa using h3), if_neg (by omega)]
      · rw [if_neg (by simpa using h3)]
        by_cases h4 : a.2.1 > 4096
        · rw [if_pos (by simpa using h4), if_neg (by omega)]
        · rw [if_neg (by simpa using h4), if_pos (by omega)]
theorem ref30_Check_spec (a : D_api_Settings) : bitloftref30_Check a = some (chk a) := by
  rw [bitloftref30_Check_eq, chk, bitloftref29_Block_eq]
  by_cases h1 : a.1 < 0
  · rw [if_pos (by simpa using h1), if_neg (by omega)]
  · rw [if_neg (by simpa using h1)]
    by_cases h2 : a.1 > 7
    · rw [if_pos (by simpa using h2), if_neg (by omega)]
    · rw [if_neg (by simpa using h2)]
      by_cases h3 : a.2.1 ≥ 16
      · rw [if_pos (by simpa using h3)]
        simp only [Option.bind_some]
        by_cases h4 : a.2.1 ≤ 4096
        · rw [if_neg (by simpa using h4), if_pos (by omega)]
        · rw [if_pos (by simpa using h4), if_neg (by omega)]
      · rw [if_neg (by simpa using h3)]
        simp only [Option.bind_some]
        rw [if_pos (by simp), if_neg (by omega)]
def tot : List D_api_Record → Int
  | [] => 0
  | r :: rest => r.2.1 + tot rest
structure RecsV (rs : List D_api_Record) : Prop where
  len : rs.length ≤ 16
  each : ∀ r ∈ rs, 0 ≤ r.2.1 ∧ r.2.1 ≤ 8192 ∧ r.1.size ≤ 40
  tot : tot rs ≤ 8192
theorem vld_zero : ∀ (rs : List D_api_Record) (acc : Int) (nm : List ByteArray), vld acc nm rs = 0 → (∀ r ∈ rs, 0 ≤ r.2.1 ∧ r.2.1 ≤ 8192 ∧ r.1.size ≤ 40) ∧ acc + tot rs ≤ 8192
  | [], acc, nm, h => by
    simp only [vld] at h
    by_cases h1 : acc > 8192
    · rw [if_pos h1] at h; omega
    · exact ⟨fun r hr => (by cases hr), by simp only [tot]; omega⟩
  | r :: rest, acc, nm, h => by
    simp only [vld] at h
    by_cases hb : badR r = true
    · rw [if_pos hb] at h; omega
    · rw [if_neg hb] at h
      obtain ⟨h1, h2⟩ := vld_zero rest _ _ h
      simp only [badR, nmOK, Bool.or_eq_true, Bool.not_eq_true', Bool.and_eq_false_iff, decide_eq_true_eq, decide_eq_false_iff_not, not_or] at hb
      refine ⟨fun q hq => ?_, by simp only [tot]; omega⟩
      rcases List.mem_cons.1 hq with rfl | hq
      · have := hb.1.1.1.2
        exact ⟨by omega, by omega, by omega⟩
      · exact h1 q hq
theorem valid_zero {rs : List D_api_Record} (h : valid rs = 0) : RecsV rs := by
  unfold valid at h
  split at h
  · omega
  · obtain ⟨h1, h2⟩ := vld_zero rs 0 [] h
    exact ⟨by omega, h1, by omega⟩
def ask (a : D_api_Settings) (rs : List D_api_Record) : Int := if chk a ≠ 0 then chk a else valid rs
theorem ask_zero {a : D_api_Settings} {rs : List D_api_Record} (h : ask a rs = 0) : (16 ≤ a.2.1 ∧ a.2.1 ≤ 4096) ∧ RecsV rs := by
  unfold ask at h
  split at h
  · omega
  · refine ⟨?_, valid_zero h⟩
    rename_i hc
    unfold chk at hc
    split at hc
    · omega
    · omega
theorem asked_spec (a : D_api_Settings) (rs : List D_api_Record) (hR : RecsOK rs) : bitloftref36_asked a rs = some (ask a rs) := by
  rw [bitloftref36_asked_eq, ref30_Check_spec, ref28_Valid_spec rs hR, ask]
  simp only [Option.bind_some]
  by_cases h : chk a = 0
  · rw [if_neg (by simp [h]), if_neg (by simp [h])]
  · rw [if_pos (by simpa using h), if_pos h]
theorem tot_nn : ∀ (rs : List D_api_Record), (∀ r ∈ rs, 0 ≤ r.2.1 ∧ r.2.1 ≤ 8192 ∧ r.1.size ≤ 40) → 0 ≤ tot rs
  | [], _ => by simp [tot]
  | r :: rest, h => by
    have h1 := h r (by simp)
    have h2 := tot_nn rest (fun q hq => h q (by simp [hq]))
    simp only [tot]; omega
/-! ### 2. Pieces -/
def pcs (i n s : Int) : Nat → Int → List D_api_Piece
  | 0, _ => []
  | k + 1, off => if off < n then (i, (off, ((if s < n - off then s else n - off), ()))) :: pcs i n s k (off + s) else []
theorem pcs_len (i n s : Int) (hs : 1 ≤ s) : ∀ (k : Nat) (off : Int), 0 ≤ n → off ≤ n → ((pcs i n s k off).length : Int) ≤ n - off
  | 0, off, _, h => by simp [pcs]; omega
  | k + 1, off, hn, h => by
    simp only [pcs]
    by_cases h1 : off < n
    · rw [if_pos h1]
      by_cases h2 : off + s ≤ n
      · have := pcs_len i n s hs k (off + s) hn h2
        simp only [List.length_cons]; omega
      · have : pcs i n s k (off + s) = [] := by
          cases k with
          | zero => rfl
          | succ k => simp only [pcs]; rw [if_neg (by omega)]
        rw [this]; simp; omega
    · rw [if_neg h1]; simp; omega
def ap (s : Int) : Int → List D_api_Record → List D_api_Piece
  | _, [] => []
  | i, r :: rest => pcs i r.2.1 s 8200 0 ++ ap s (i + 1) rest
def szs (rs : List D_api_Record) : List Int := rs.map (·.2.1)
theorem szs_get (rs : List D_api_Record) (i : Nat) (h : i < rs.length) : (szs rs).getD i 0 = (rs.getD i (pzero T_api_Record)).2.1 := by
  unfold szs
  simp only [List.getD_eq_getElem?_getD, List.getElem?_map, List.getElem?_eq_getElem h, Option.map_some, Option.getD_some]
theorem szs_len (rs : List D_api_Record) : (szs rs).length = rs.length := by simp [szs]
theorem Pieces_c2 (s i n : Int) (xs : List Int) (v23 v24 : Int) (hs : 16 ≤ s ∧ s ≤ 4096) (hn : 0 ≤ n ∧ n ≤ 8192) (k : Nat) : ∀ (off : Int) (h : List D_api_Piece), n - off ≤ k → 0 ≤ off → off ≤ 13000 → (h.length : Int) + (k : Int) ≤ 1000000 →
    split_Pieces_c2 s i n off xs v23 v24 h = split_Pieces_c1 s xs v23 (IntKind.wrap .i64 (v24 + 1)) (h ++ pcs i n s k off) := by
  induction k with
  | zero =>
    intro off h e h0 h1 hl
    have hc : ¬ off < n := by omega
    rw [split_Pieces_c2_eq, if_neg (by simpa using hc)]
    simp only [pcs, List.append_nil]
  | succ k ih =>
    intro off h e h0 h1 hl
    rw [split_Pieces_c2_eq]
    by_cases hc : off < n
    · rw [if_pos (by simpa using hc), gd_pos (by simp; omega), w64 (x := n - off) (by omega) (by omega), w64 (x := off + s) (by omega) (by omega)]
      rw [ih (off + s) _ (by omega) (by omega) (by omega) (by simp; omega)]
      simp only [pcs, if_pos hc, List.append_assoc, List.singleton_append]
    · rw [if_neg (by simpa using hc)]
      simp only [pcs, if_neg hc, List.append_nil]
theorem Pieces_c1 (s : Int) (rs : List D_api_Record) (hs : 16 ≤ s ∧ s ≤ 4096) (hR : RecsV rs) : ∀ (k i : Nat) (h : List D_api_Piece), i + k = rs.length → (h.length : Int) ≤ 8192 * i →
    split_Pieces_c1 s (szs rs) (rs.length : Int) (i : Int) h = some (h ++ ap s i (rs.drop i), 0)
  | 0, i, h, e, hl => by
    rw [split_Pieces_c1_eq, if_neg (by simp; omega), List.drop_eq_nil_of_le (by omega)]
    simp [ap]
  | k + 1, i, h, e, hl => by
    have hlen := hR.len
    obtain ⟨d1, d2, d3⟩ := dropR_at (pzero T_api_Record : D_api_Record) (xs := rs) (i := i) (by omega)
    have hl' : Int.ofNat (szs rs).length = (rs.length : Int) := by rw [szs_len]; rfl
    have hv := hR.each _ d3
    rw [split_Pieces_c1_eq, if_pos (by simp; omega), gd_pos (by omega), gd_pos (by rw [hl']; omega), Int.toNat_natCast, szs_get rs i (by omega)]
    rw [Pieces_c2 s i _ (szs rs) _ _ hs ⟨hv.1, hv.2.1⟩ 8200 0 h (by omega) (by omega) (by omega) (by omega), w64 (by omega) (by omega)]
    have hp := pcs_len (i : Int) (rs.getD i (pzero T_api_Record)).2.1 s (by omega) 8200 0 hv.1 hv.1
    have ih := Pieces_c1 s rs hs hR k (i + 1) (h ++ pcs (i : Int) (rs.getD i (pzero T_api_Record)).2.1 s 8200 0) (by omega) (by rw [List.length_append]; omega)
    rw [show ((i + 1 : Nat) : Int) = (i : Int) + 1 by omega] at ih
    rw [ih, d1, ap, List.append_assoc]
/-! ### 3. The check of sizes -/
theorem Index_c1 (xs : List Int) (hx : ∀ x ∈ xs, 0 ≤ x) (hl : xs.length ≤ 1000) : ∀ (k i : Nat), i + k = xs.length → slices_IndexFunc_int_int_c1 xs (xs.length : Int) (i : Int) = some (-1)
  | 0, i, e => by rw [slices_IndexFunc_int_int_c1_eq, if_neg (by simp; omega)]
  | k + 1, i, e => by
    have hl' : Int.ofNat xs.length = (xs.length : Int) := rfl
    obtain ⟨d1, d2, d3⟩ := dropR_at (0 : Int) (xs := xs) (i := i) (by omega)
    have := hx _ d3
    have ih := Index_c1 xs hx hl k (i + 1) (by omega)
    rw [show ((i + 1 : Nat) : Int) = (i : Int) + 1 by omega] at ih
    rw [slices_IndexFunc_int_int_c1_eq, if_pos (by simp; omega), gd_pos (by omega), gd_pos (by rw [hl']; omega), Int.toNat_natCast, split_check_1_eq]
    simp only [Option.bind_some]
    rw [if_neg (by simp only [decide_eq_true_eq]; omega), w64 (by omega) (by omega), ih]
theorem check_c1 (rs : List D_api_Record) (hR : RecsV rs) : ∀ (k i : Nat) (acc : Int), i + k = rs.length → 0 ≤ acc → acc + tot (rs.drop i) ≤ 8192 → split_check_c1 acc (szs rs) (rs.length : Int) (i : Int) = some 0
  | 0, i, acc, e, h0, h1 => by rw [split_check_c1_eq, if_neg (by simp; omega)]
  | k + 1, i, acc, e, h0, h1 => by
    have hlen := hR.len
    have hl' : Int.ofNat (szs rs).length = (rs.length : Int) := by rw [szs_len]; rfl
    obtain ⟨d1, d2, d3⟩ := dropR_at (pzero T_api_Record : D_api_Record) (xs := rs) (i := i) (by omega)
    have hv := hR.each _ d3
    have ht := tot_nn (rs.drop (i + 1)) (fun r hr => hR.each r (List.mem_of_mem_drop hr))
    rw [d1, tot] at h1
    rw [split_check_c1_eq, if_pos (by simp; omega), gd_pos (by omega), gd_pos (by rw [hl']; omega), Int.toNat_natCast, szs_get rs i (by omega)]
    rw [if_neg (show ¬ (8193 : Int) < (rs.getD i (pzero T_api_Record)).2.1 by omega), w64 (by omega) (by omega), if_neg (by simp only [decide_eq_true_eq]; omega), w64 (by omega) (by omega)]
    have ih := check_c1 rs hR k (i + 1) (acc + (rs.getD i (pzero T_api_Record)).2.1) (by omega) (by omega) (by omega)
    rw [show ((i + 1 : Nat) : Int) = (i : Int) + 1 by omega] at ih
    exact ih
theorem Pieces_spec (s : Int) (rs : List D_api_Record) (hs : 16 ≤ s ∧ s ≤ 4096) (hR : RecsV rs) : split_Pieces (szs rs) s = some (ap s 0 rs, 0) := by
  have hlen := hR.len
  have hl' : Int.ofNat (szs rs).length = (rs.length : Int) := by rw [szs_len]; rfl
  have hc : split_check (szs rs) = some 0 := by
    have hi := Index_c1 (szs rs) (fun x hx => by
      obtain ⟨r, hr, rfl⟩ := List.mem_map.1 hx
      exact (hR.each r hr).1) (by rw [szs_len]; omega) (szs rs).length 0 (by omega)
    have hi' : slices_IndexFunc_int_int (szs rs) = some (-1) := by rw [slices_IndexFunc_int_int_eq]; exact hi
    rw [split_check_eq, slices_ContainsFunc_int_int_eq, hi']
    simp only [Option.bind_some]
    rw [if_neg (by simp), hl', if_neg (by simp; omega)]
    exact check_c1 rs hR rs.length 0 0 (by omega) (by omega) (by have := hR.tot; simp; omega)
  rw [split_Pieces_eq, hc]
  simp only [Option.bind_some]
  rw [if_neg (by simp), if_neg (by simp; omega), if_neg (by simp; omega), hl']
  exact Pieces_c1 s rs hs hR rs.length 0 [] (by omega) (by simp)
theorem bpieces_c1 (a : D_api_Settings) (rs : List D_api_Record) (hs : 16 ≤ a.2.1 ∧ a.2.1 ≤ 4096) (hR : RecsV rs) : ∀ (k i : Nat), i + k = rs.length → bound_pieces_c1 rs (rs.length : Int) (i : Int) a (szs (rs.take i)) = some (ap a.2.1 0 rs, 0)
  | 0, i, e => by
    rw [bound_pieces_c1_eq, if_neg (by simp; omega), List.take_of_length_le (by omega), Pieces_spec _ rs hs hR]; rfl
  | k + 1, i, e => by
    have hlen := hR.len
    have hl' : Int.ofNat rs.length = (rs.length : Int) := rfl
    obtain ⟨d1, d2, d3⟩ := dropR_at (pzero T_api_Record : D_api_Record) (xs := rs) (i := i) (by omega)
    have ih := bpieces_c1 a rs hs hR k (i + 1) (by omega)
    rw [show ((i + 1 : Nat) : Int) = (i : Int) + 1 by omega, d2] at ih
    rw [bound_pieces_c1_eq, if_pos (by simp; omega), gd_pos (by omega), gd_pos (by rw [hl']; omega), Int.toNat_natCast, gd_pos (by simp [szs_len]; omega), w64 (by omega) (by omega)]
    have : szs (List.take i rs) ++ [(List.getD rs i (pzero T_api_Record)).2.1] = szs (List.take i rs ++ [List.getD rs i (pzero T_api_Record)]) := by simp [szs]
    rw [this]
    exact ih
theorem bound_pieces_spec (a : D_api_Settings) (rs : List D_api_Record) (hR : RecsOK rs) : bound_pieces a rs = some (if ask a rs ≠ 0 then ([], ask a rs) else (ap a.2.1 0 rs, 0)) := by
  have hl' : Int.ofNat rs.length = (rs.length : Int) := rfl
  rw [bound_pieces_eq, pack_Check_spec, member_Valid_spec rs hR]
  simp only [Option.bind_some]
  by_cases h : chk a = 0
  · rw [if_neg (by simp [h])]
    have ha : ask a rs = valid rs := by unfold ask; rw [if_neg (by simp [h])]
    by_cases hv : valid rs = 0
    · rw [if_neg (by simp [hv]), if_neg (by rw [ha]; simp [hv])]
      obtain ⟨h1, h2⟩ := ask_zero (ha.trans hv)
      exact bpieces_c1 a rs h1 h2 rs.length 0 (by omega)
    · rw [if_pos (by simpa using hv), if_pos (by rw [ha]; exact hv), ha]
  · have ha : ask a rs = chk a := by unfold ask; rw [if_pos h]
    rw [if_pos (by simpa using h), if_pos (by rw [ha]; exact h), ha]
end Go.Ab

set_option linter.unusedVariables false
set_option linter.unusedSimpArgs false
set_option maxHeartbeats 1000000
namespace Go.Ab
attribute [local irreducible] IntKind.wrap
/-! ### 4. How many -/
theorem pcs_cnt (i n s : Int) : ∀ (k : Nat) (off : Int), (pcs i n s k off).length = (pcs 0 n s k off).length
  | 0, off => rfl
  | k + 1, off => by
    simp only [pcs]
    by_cases h : off < n
    · rw [if_pos h, if_pos h]; simp only [List.length_cons, pcs_cnt i n s k]
    · rw [if_neg h, if_neg h]
def pcn (s : Int) (r : D_api_Record) : Int := ((pcs 0 r.2.1 s 8200 0).length : Int)
def lens (s : Int) (rs : List D_api_Record) : List Int := rs.map (pcn s)
theorem many_c1 (n s : Int) (hs : 16 ≤ s ∧ s ≤ 4096) (hn : 0 ≤ n ∧ n ≤ 8192) (k : Nat) : ∀ (acc off : Int), n - off ≤ k → 0 ≤ off → off ≤ 13000 → 0 ≤ acc → acc + k ≤ 1000000 →
    bitloftref36_many_c1 n s acc off = some (acc + ((pcs 0 n s k off).length : Int)) := by
  induction k with
  | zero =>
    intro acc off e h0 h1 h2 h3
    have hc : ¬ off < n := by omega
    rw [bitloftref36_many_c1_eq, if_neg (by simpa using hc)]
    simp [pcs]
  | succ k ih =>
    intro acc off e h0 h1 h2 h3
    rw [bitloftref36_many_c1_eq]
    by_cases hc : off < n
    · rw [if_pos (by simpa using hc), w64 (x := acc + 1) (by omega) (by omega), w64 (x := off + s) (by omega) (by omega), ih _ _ (by omega) (by omega) (by omega) (by omega) (by omega)]
      simp only [pcs, if_pos hc, List.length_cons]
      congr 1; omega
    · rw [if_neg (by simpa using hc)]
      simp [pcs, hc]
theorem many_spec (s : Int) (r : D_api_Record) (hs : 16 ≤ s ∧ s ≤ 4096) (hn : 0 ≤ r.2.1 ∧ r.2.1 ≤ 8192) : bitloftref36_many r.2.1 s = some (pcn s r) := by
  rw [bitloftref36_many_eq, many_c1 r.2.1 s hs hn 8200 0 0 (by omega) (by omega) (by omega) (by omega) (by omega)]
  simp [pcn]
theorem rSizes_c1 (a : D_api_Settings) (rs : List D_api_Record) (hs : 16 ≤ a.2.1 ∧ a.2.1 ≤ 4096) (hR : RecsV rs) : ∀ (k i : Nat), i + k = rs.length → bitloftref36_Sizes_c1 rs (i : Int) a (lens a.2.1 (rs.take i)) = some (lens a.2.1 rs, 0)
  | 0, i, e => by
    have hl' : Int.ofNat rs.length = (rs.length : Int) := rfl
    rw [bitloftref36_Sizes_c1_eq, if_neg (by simp; omega), List.take_of_length_le (by omega)]
  | k + 1, i, e => by
    have hlen := hR.len
    have hl' : Int.ofNat rs.length = (rs.length : Int) := rfl
    obtain ⟨d1, d2, d3⟩ := dropR_at (pzero T_api_Record : D_api_Record) (xs := rs) (i := i) (by omega)
    have hv := hR.each _ d3
    have ih := rSizes_c1 a rs hs hR k (i + 1) (by omega)
    rw [show ((i + 1 : Nat) : Int) = (i : Int) + 1 by omega, d2] at ih
    rw [bitloftref36_Sizes_c1_eq, if_pos (by simp; omega), gd_pos (by omega), gd_pos (by rw [hl']; omega), Int.toNat_natCast, many_spec _ _ hs ⟨hv.1, hv.2.1⟩]
    simp only [Option.bind_some]
    rw [gd_pos (by simp [lens]; omega), w64 (by omega) (by omega)]
    have : lens a.2.1 (List.take i rs) ++ [pcn a.2.1 (List.getD rs i (pzero T_api_Record))] = lens a.2.1 (List.take i rs ++ [List.getD rs i (pzero T_api_Record)]) := by simp [lens]
    rw [this]
    exact ih
theorem rSizes_spec (a : D_api_Settings) (rs : List D_api_Record) (hR : RecsOK rs) : bitloftref36_Sizes a rs = some (if ask a rs ≠ 0 then ([], ask a rs) else (lens a.2.1 rs, 0)) := by
  rw [bitloftref36_Sizes_eq, asked_spec a rs hR]
  simp only [Option.bind_some]
  by_cases h : ask a rs = 0
  · rw [if_neg (by simp [h]), if_neg (by simp [h])]
    obtain ⟨h1, h2⟩ := ask_zero h
    exact rSizes_c1 a rs h1 h2 rs.length 0 (by omega)
  · rw [if_pos (by simpa using h), if_pos h]
def sumI : List Int → Int
  | [] => 0
  | x :: r => x + sumI r
theorem rCount_c1 (e : Int) (xs : List Int) (hb : ∀ x ∈ xs, 0 ≤ x ∧ x ≤ 9000) (hl : xs.length ≤ 1000) : ∀ (k i : Nat) (acc : Int), i + k = xs.length → 0 ≤ acc → acc ≤ 9000 * i → bitloftref36_Count_c1 e acc (i : Int) xs = some (acc + sumI (xs.drop i), e)
  | 0, i, acc, h, h0, h1 => by
    rw [bitloftref36_Count_c1_eq, if_neg (by simp; omega), List.drop_eq_nil_of_le (by omega)]
    simp [sumI]
  | k + 1, i, acc, h, h0, h1 => by
    have hl' : Int.ofNat xs.length = (xs.length : Int) := rfl
    obtain ⟨d1, d2, d3⟩ := dropR_at (0 : Int) (xs := xs) (i := i) (by omega)
    have hv := hb _ d3
    rw [bitloftref36_Count_c1_eq, if_pos (by simp; omega), gd_pos (by omega), gd_pos (by rw [hl']; omega), Int.toNat_natCast, Nat.zero_add, w64 (x := (i : Int) + 1) (by omega) (by omega), w64 (by omega) (by omega)]
    have ih := rCount_c1 e xs hb hl k (i + 1) (acc + xs.getD i 0) (by omega) (by omega) (by omega)
    rw [show ((i + 1 : Nat) : Int) = (i : Int) + 1 by omega] at ih
    rw [ih, d1, sumI]
    congr 2; omega
theorem ap_len (s : Int) : ∀ (rs : List D_api_Record) (i : Int), ((ap s i rs).length : Int) = sumI (lens s rs)
  | [], i => rfl
  | r :: rest, i => by
    have := ap_len s rest (i + 1)
    simp only [ap, List.length_append, lens, List.map_cons, sumI, pcs_cnt i, pcn] at this ⊢
    omega
theorem lens_b (s : Int) (hs : 16 ≤ s) (rs : List D_api_Record) (hR : RecsV rs) : ∀ x ∈ lens s rs, 0 ≤ x ∧ x ≤ 9000 := by
  intro x hx
  obtain ⟨r, hr, rfl⟩ := List.mem_map.1 hx
  have hv := hR.each r hr
  have := pcs_len 0 r.2.1 s (by omega) 8200 0 hv.1 hv.1
  unfold pcn
  omega
theorem Count_spec (a : D_api_Settings) (rs : List D_api_Record) (hR : RecsOK rs) : bound_Count a rs = bitloftref36_Count a rs ∧ ∃ r, bound_Count a rs = some r := by
  rw [bound_Count_eq, bound_pieces_spec a rs hR, bitloftref36_Count_eq, rSizes_spec a rs hR]
  simp only [Option.bind_some]
  refine ⟨?_, _, rfl⟩
  by_cases h : ask a rs = 0
  · rw [if_neg (by simp [h]), if_neg (by simp [h])]
    obtain ⟨h1, h2⟩ := ask_zero h
    have hlen := h2.len
    have := rCount_c1 0 (lens a.2.1 rs) (lens_b _ h1.1 rs h2) (by simp [lens]; omega) (lens a.2.1 rs).length 0 0 (by omega) (by omega) (by omega)
    refine Eq.trans ?_ this.symm
    have hap := ap_len a.2.1 rs 0
    simp only [List.drop_zero, Int.zero_add, ← hap]
    rfl
  · rw [if_pos h, if_pos h]
    have := rCount_c1 (ask a rs) [] (by simp) (by simp) 0 0 0 rfl (by omega) (by omega)
    exact this.symm
/-! ### 5. Sizes by index -/
def inc (h : List Int) (p : D_api_Piece) : List Int := h.set p.1.toNat (h.getD p.1.toNat 0 + 1)
theorem inc_len (h : List Int) (p : D_api_Piece) : (inc h p).length = h.length := by simp [inc]
theorem bSizes_c1 (ps : List D_api_Piece) (hp : ps.length ≤ 100000) (m : Nat) (hps : ∀ p ∈ ps, 0 ≤ p.1 ∧ p.1 < (m : Int)) : ∀ (k j : Nat) (h : List Int), j + k = ps.length → h.length = m → (∀ i, 0 ≤ h.getD i 0 ∧ h.getD i 0 ≤ (j : Int)) → bound_Sizes_c1 (ps.length : Int) (j : Int) h ps = some ((ps.drop j).foldl inc h, 0)
  | 0, j, h, e, hm, hb => by
    rw [bound_Sizes_c1_eq, if_neg (by simp; omega), List.drop_eq_nil_of_le (by omega)]; rfl
  | k + 1, j, h, e, hm, hb => by
    have hl' : Int.ofNat ps.length = (ps.length : Int) := rfl
    have hl2 : Int.ofNat h.length = (m : Int) := by rw [hm]; rfl
    obtain ⟨d1, d2, d3⟩ := dropR_at (pzero T_api_Piece : D_api_Piece) (xs := ps) (i := j) (by omega)
    have hv := hps _ d3
    rw [bound_Sizes_c1_eq, if_pos (by simp; omega), gd_pos (by omega), gd_pos (by rw [hl']; omega), Int.toNat_natCast, Nat.zero_add, hl2, gd_pos hv.1, gd_pos hv.2, gd_pos hv.1, gd_pos hv.2, Nat.zero_add, w64 (x := (j : Int) + 1) (by omega) (by omega)]
    have hg := hb (ps.getD j (pzero T_api_Piece)).1.toNat
    rw [w64 (by omega) (by omega), d1, List.foldl_cons]
    have ih := bSizes_c1 ps hp m hps k (j + 1) (inc h (ps.getD j (pzero T_api_Piece))) (by omega) (by rw [inc_len]; exact hm) (fun i => by
      unfold inc
      rw [getD_set (by omega)]
      have := hb i
      split <;> omega)
    rw [show ((j + 1 : Nat) : Int) = (j : Int) + 1 by omega] at ih
    exact ih
theorem fold_pcs (P R : List Int) (n s : Int) (k : Nat) : ∀ (c off : Int), (pcs (P.length : Int) n s k off).foldl inc (P ++ c :: R) = P ++ (c + ((pcs 0 n s k off).length : Int)) :: R := by
  induction k with
  | zero => intro c off; simp [pcs]
  | succ k ih =>
    intro c off
    simp only [pcs]
    by_cases h : off < n
    · rw [if_pos h, if_pos h, List.foldl_cons]
      have : inc (P ++ c :: R) ((P.length : Int), (off, ((if s < n - off then s else n - off), ()))) = P ++ (c + 1) :: R := by
        simp only [inc, Int.toNat_natCast]
        rw [get_mid, set_mid]
      rw [this, ih]
      simp only [List.length_cons]
      congr 2; omega
    · rw [if_neg h, if_neg h]; simp
theorem fold_ap (s : Int) : ∀ (rs : List D_api_Record) (P : List Int), (ap s (P.length : Int) rs).foldl inc (P ++ List.replicate rs.length 0) = P ++ lens s rs
  | [], P => by simp [ap, lens]
  | r :: rest, P => by
    rw [ap, List.foldl_append, List.length_cons, List.replicate_succ, fold_pcs]
    have ih := fold_ap s rest (P ++ [pcn s r])
    simp only [List.length_append, List.length_cons, List.length_nil, List.append_assoc, List.singleton_append] at ih
    rw [show ((P.length + (0 + 1) : Nat) : Int) = (P.length : Int) + 1 by omega] at ih
    simp only [Int.zero_add]
    exact ih
theorem pcs_idx (i n s : Int) (k : Nat) : ∀ (off : Int), ∀ p ∈ pcs i n s k off, p.1 = i := by
  induction k with
  | zero => intro off p hp; simp [pcs] at hp
  | succ k ih =>
    intro off p hp
    simp only [pcs] at hp
    split at hp
    · rcases List.mem_cons.1 hp with rfl | hp
      · rfl
      · exact ih _ p hp
    · cases hp
theorem ap_idx (s : Int) : ∀ (rs : List D_api_Record) (i : Int), ∀ p ∈ ap s i rs, i ≤ p.1 ∧ p.1 < i + (rs.length : Int)
  | [], i, p, hp => by cases hp
  | r :: rest, i, p, hp => by
    rw [ap] at hp
    rcases List.mem_append.1 hp with hp | hp
    · have := pcs_idx i _ s 8200 0 p hp
      simp only [List.length_cons]; omega
    · have := ap_idx s rest (i + 1) p hp
      simp only [List.length_cons]; omega
theorem ap_small (s : Int) (hs : 16 ≤ s) (rs : List D_api_Record) (hR : RecsV rs) : ((ap s 0 rs).length : Int) ≤ 100000 := by
  have h1 := ap_len s rs 0
  have h2 : ∀ xs : List Int, (∀ x ∈ xs, 0 ≤ x ∧ x ≤ 9000) → sumI xs ≤ 9000 * (xs.length : Int) := by
    intro xs
    induction xs with
    | nil => intro _; simp [sumI]
    | cons x xs ih =>
      intro h
      have := h x (by simp)
      have := ih (fun y hy => h y (by simp [hy]))
      simp only [sumI, List.length_cons]; omega
  have h3 := h2 (lens s rs) (lens_b s hs rs hR)
  have h4 := hR.tot
  have h5 : ∀ rs : List D_api_Record, (∀ r ∈ rs, 0 ≤ r.2.1 ∧ r.2.1 ≤ 8192 ∧ r.1.size ≤ 40) → sumI (lens s rs) ≤ tot rs := by
    intro rs
    induction rs with
    | nil => intro _; simp [lens, sumI, tot]
    | cons r rs ih =>
      intro h
      have hv := h r (by simp)
      have := ih (fun y hy => h y (by simp [hy]))
      have hp := pcs_len 0 r.2.1 s (by omega) 8200 0 hv.1 hv.1
      simp only [lens, List.map_cons, sumI, tot, pcn] at this ⊢
      omega
  have := h5 rs hR.each
  omega
theorem bSizes_spec (a : D_api_Settings) (rs : List D_api_Record) (hR : RecsOK rs) (hm : rs.length ≤ 30) : bound_Sizes a rs = some (if ask a rs ≠ 0 then ([], ask a rs) else (lens a.2.1 rs, 0)) := by
  have hl' : Int.ofNat rs.length = (rs.length : Int) := rfl
  rw [bound_Sizes_eq, bound_pieces_spec a rs hR]
  simp only [Option.bind_some]
  by_cases h : ask a rs = 0
  · rw [if_neg (show ¬ ask a rs ≠ 0 by simp [h]), if_neg (show ¬ ask a rs ≠ 0 by simp [h]), if_neg (by simp)]
    rw [gd_pos trivial, gd_pos (by rw [hl']; omega), gd_pos (by rw [hl']; omega), gd_pos (by rw [hl']; omega)]
    obtain ⟨h1, h2⟩ := ask_zero h
    have hsm := ap_small a.2.1 h1.1 rs h2
    have hs := bSizes_c1 (ap a.2.1 0 rs) (by omega) rs.length (fun p hp => by have := ap_idx a.2.1 rs 0 p hp; omega) (ap a.2.1 0 rs).length 0 (List.replicate rs.length 0) (by omega) (by simp) (fun i => by
      rw [List.getD_eq_getElem?_getD, List.getElem?_replicate]
      split <;> simp)
    refine Eq.trans hs ?_
    have := fold_ap a.2.1 rs []
    simp only [List.length_nil, List.nil_append, Int.natCast_zero] at this
    rw [List.drop_zero]
    have e0 : ((0 : Nat) : Int) = 0 := rfl
    rw [show (ap a.2.1 0 rs).foldl inc (List.replicate rs.length 0) = lens a.2.1 rs from this]
  · rw [if_pos h, if_pos h, if_pos (by simpa using h)]
end Go.Ab

set_option linter.unusedVariables false
set_option linter.unusedSimpArgs false
set_option maxHeartbeats 1000000
namespace Go.Ab
attribute [local irreducible] IntKind.wrap
/-! ### 6. Lengths -/
def hsum : List D_api_Record → Int
  | [] => 0
  | r :: rest => 23 + (r.1.size : Int) + hsum rest
theorem hsum_b : ∀ (rs : List D_api_Record), (∀ r ∈ rs, 0 ≤ r.2.1 ∧ r.2.1 ≤ 8192 ∧ r.1.size ≤ 40) → 0 ≤ hsum rs ∧ hsum rs ≤ 100 * (rs.length : Int)
  | [], _ => by simp [hsum]
  | r :: rest, h => by
    have h1 := h r (by simp)
    have h2 := hsum_b rest (fun q hq => h q (by simp [hq]))
    simp only [hsum, List.length_cons]; omega
def gsum (g : Int → Int) : List D_api_Piece → Int
  | [] => 0
  | p :: r => 41 + g p.2.2.1 + gsum g r
theorem gsum_append (g : Int → Int) : ∀ (a b : List D_api_Piece), gsum g (a ++ b) = gsum g a + gsum g b
  | [], b => by simp [gsum]
  | p :: a, b => by simp only [List.cons_append, gsum, gsum_append g a b]; omega
theorem head_c1 (rs : List D_api_Record) (hR : RecsV rs) : ∀ (k i : Nat) (acc : Int), i + k = rs.length → 0 ≤ acc → acc ≤ 1000 + 100 * i → bitloftref36_head_c1 rs acc (i : Int) = some (acc + hsum (rs.drop i))
  | 0, i, acc, e, h0, h1 => by
    have hl' : Int.ofNat rs.length = (rs.length : Int) := rfl
    rw [bitloftref36_head_c1_eq, if_neg (by simp; omega), List.drop_eq_nil_of_le (by omega)]; simp [hsum]
  | k + 1, i, acc, e, h0, h1 => by
    have hlen := hR.len
    have hl' : Int.ofNat rs.length = (rs.length : Int) := rfl
    obtain ⟨d1, d2, d3⟩ := dropR_at (pzero T_api_Record : D_api_Record) (xs := rs) (i := i) (by omega)
    have hv := hR.each _ d3
    have hsz : Int.ofNat (rs.getD i (pzero T_api_Record)).1.size = ((rs.getD i (pzero T_api_Record)).1.size : Int) := rfl
    rw [bitloftref36_head_c1_eq, if_pos (by simp; omega), gd_pos (by omega), gd_pos (by rw [hl']; omega), Int.toNat_natCast, hsz, w64 (x := (23 : Int) + ((rs.getD i (pzero T_api_Record)).1.size : Int)) (by omega) (by omega), w64 (x := (i : Int) + 1) (by omega) (by omega), w64 (by omega) (by omega)]
    have ih := head_c1 rs hR k (i + 1) (acc + (23 + ((rs.getD i (pzero T_api_Record)).1.size : Int))) (by omega) (by omega) (by omega)
    rw [show ((i + 1 : Nat) : Int) = (i : Int) + 1 by omega] at ih
    rw [ih, d1, hsum]
    congr 1; omega
/-- A way to count a piece. -/
def GOK (g : Int → Int) : Prop := ∀ m, 0 ≤ m → m ≤ 8192 → 0 ≤ g m ∧ g m ≤ 8192
theorem pcs_m (i n s : Int) (hs : 1 ≤ s) (hn : n ≤ 8192) (k : Nat) : ∀ (off : Int), 0 ≤ off → ∀ p ∈ pcs i n s k off, 0 ≤ p.2.2.1 ∧ p.2.2.1 ≤ 8192 := by
  induction k with
  | zero => intro off h p hp; simp [pcs] at hp
  | succ k ih =>
    intro off h p hp
    simp only [pcs] at hp
    split at hp
    · rcases List.mem_cons.1 hp with rfl | hp
      · simp only; split <;> omega
      · exact ih _ (by omega) p hp
    · cases hp
theorem ap_m (s : Int) (hs : 1 ≤ s) : ∀ (rs : List D_api_Record) (i : Int), (∀ r ∈ rs, 0 ≤ r.2.1 ∧ r.2.1 ≤ 8192 ∧ r.1.size ≤ 40) → ∀ p ∈ ap s i rs, 0 ≤ p.2.2.1 ∧ p.2.2.1 ≤ 8192
  | [], i, h, p, hp => by cases hp
  | r :: rest, i, h, p, hp => by
    rw [ap] at hp
    rcases List.mem_append.1 hp with hp | hp
    · exact pcs_m i _ s hs (h r (by simp)).2.1 8200 0 (by omega) p hp
    · exact ap_m s hs rest (i + 1) (fun q hq => h q (by simp [hq])) p hp
theorem gsum_b (g : Int → Int) (hg : GOK g) : ∀ (ps : List D_api_Piece), (∀ p ∈ ps, 0 ≤ p.2.2.1 ∧ p.2.2.1 ≤ 8192) → 0 ≤ gsum g ps ∧ gsum g ps ≤ 9000 * (ps.length : Int)
  | [], _ => by simp [gsum]
  | p :: r, h => by
    have h1 := h p (by simp)
    have h2 := gsum_b g hg r (fun q hq => h q (by simp [hq]))
    have h3 := hg _ h1.1 h1.2
    simp only [gsum, List.length_cons]; omega
def gG : Int → Int := fun m => m
def gL : Int → Int := fun m => if (4 : Int) < m then 4 else m
theorem gG_ok : GOK gG := fun m h0 h1 => ⟨h0, h1⟩
theorem gL_ok : GOK gL := fun m h0 h1 => by unfold gL; split <;> omega
def gOf (b : Bool) : Int → Int := if b then gL else gG
theorem gOf_ok (b : Bool) : GOK (gOf b) := by cases b; exact gG_ok; exact gL_ok
theorem blenG_c2 (ps : List D_api_Piece) (hp : ps.length ≤ 100000) (hm : ∀ p ∈ ps, 0 ≤ p.2.2.1 ∧ p.2.2.1 ≤ 8192) : ∀ (k j : Nat) (acc : Int), j + k = ps.length → 0 ≤ acc → acc ≤ 10000 + 9000 * j →
    bound_length_c2 acc (ps.length : Int) (j : Int) () ps = some (acc + gsum gG (ps.drop j), 0)
  | 0, j, acc, e, h0, h1 => by
    rw [bound_length_c2_eq, if_neg (by simp; omega), List.drop_eq_nil_of_le (by omega)]; simp [gsum]
  | k + 1, j, acc, e, h0, h1 => by
    have hl' : Int.ofNat ps.length = (ps.length : Int) := rfl
    obtain ⟨d1, d2, d3⟩ := dropR_at (pzero T_api_Piece : D_api_Piece) (xs := ps) (i := j) (by omega)
    have hv := hm _ d3
    rw [bound_length_c2_eq, if_pos (by simp; omega), gd_pos (by omega), gd_pos (by rw [hl']; omega), Int.toNat_natCast, Nat.zero_add, bound_greatest_1_eq]
    simp only [Option.bind_some]
    rw [w64 (x := (j : Int) + 1) (by omega) (by omega), w64 (x := (41 : Int) + (ps.getD j (pzero T_api_Piece)).2.2.1) (by omega) (by omega), w64 (by omega) (by omega)]
    have ih := blenG_c2 ps hp hm k (j + 1) (acc + (41 + (ps.getD j (pzero T_api_Piece)).2.2.1)) (by omega) (by omega) (by omega)
    rw [show ((j + 1 : Nat) : Int) = (j : Int) + 1 by omega] at ih
    rw [ih, d1, gsum]
    simp only [gG]
    congr 2; omega
theorem blenL_c2 (ps : List D_api_Piece) (hp : ps.length ≤ 100000) (hm : ∀ p ∈ ps, 0 ≤ p.2.2.1 ∧ p.2.2.1 ≤ 8192) : ∀ (k j : Nat) (acc : Int), j + k = ps.length → 0 ≤ acc → acc ≤ 10000 + 9000 * j →
    bound_length_v2_c2 acc (ps.length : Int) (j : Int) () ps = some (acc + gsum gL (ps.drop j), 0)
  | 0, j, acc, e, h0, h1 => by
    rw [bound_length_v2_c2_eq, if_neg (by simp; omega), List.drop_eq_nil_of_le (by omega)]; simp [gsum]
  | k + 1, j, acc, e, h0, h1 => by
    have hl' : Int.ofNat ps.length = (ps.length : Int) := rfl
    obtain ⟨d1, d2, d3⟩ := dropR_at (pzero T_api_Piece : D_api_Piece) (xs := ps) (i := j) (by omega)
    have hv := hm _ d3
    have hg := gL_ok _ hv.1 hv.2
    rw [bound_length_v2_c2_eq, if_pos (by simp; omega), gd_pos (by omega), gd_pos (by rw [hl']; omega), Int.toNat_natCast, Nat.zero_add, bound_least_1_eq]
    simp only [Option.bind_some]
    rw [show (if (4 : Int) < (ps.getD j (pzero T_api_Piece)).2.2.1 then (4 : Int) else (ps.getD j (pzero T_api_Piece)).2.2.1) = gL (ps.getD j (pzero T_api_Piece)).2.2.1 from rfl]
    rw [w64 (x := (j : Int) + 1) (by omega) (by omega), w64 (x := (41 : Int) + gL (ps.getD j (pzero T_api_Piece)).2.2.1) (by omega) (by omega), w64 (by omega) (by omega)]
    have ih := blenL_c2 ps hp hm k (j + 1) (acc + (41 + gL (ps.getD j (pzero T_api_Piece)).2.2.1)) (by omega) (by omega) (by omega)
    rw [show ((j + 1 : Nat) : Int) = (j : Int) + 1 by omega] at ih
    rw [ih, d1, gsum]
    congr 2; omega
theorem wsz (x : Int) (h : 0 ≤ x ∧ x ≤ 100) : IntKind.wrap .i64 (IntKind.wrap .i64 (IntKind.wrap .i64 (1 + x) + 2) + 20) = 23 + x := by
  rw [w64 (x := 1 + x) (by omega) (by omega), w64 (x := 1 + x + 2) (by omega) (by omega), w64 (by omega) (by omega)]; omega
theorem blenG_c1 (rs : List D_api_Record) (hR : RecsV rs) (ps : List D_api_Piece) : ∀ (k i : Nat) (acc : Int), i + k = rs.length → 0 ≤ acc → acc ≤ 1000 + 100 * i →
    bound_length_c1 acc rs (rs.length : Int) (i : Int) () ps = bound_length_c2 (acc + hsum (rs.drop i)) (ps.length : Int) 0 () ps
  | 0, i, acc, e, h0, h1 => by
    rw [bound_length_c1_eq, if_neg (by simp; omega), List.drop_eq_nil_of_le (by omega)]; simp [hsum]
  | k + 1, i, acc, e, h0, h1 => by
    have hlen := hR.len
    have hl' : Int.ofNat rs.length = (rs.length : Int) := rfl
    obtain ⟨d1, d2, d3⟩ := dropR_at (pzero T_api_Record : D_api_Record) (xs := rs) (i := i) (by omega)
    have hv := hR.each _ d3
    have hsz : Int.ofNat (rs.getD i (pzero T_api_Record)).1.size = ((rs.getD i (pzero T_api_Record)).1.size : Int) := rfl
    rw [bound_length_c1_eq, if_pos (by simp; omega), gd_pos (by omega), gd_pos (by rw [hl']; omega), Int.toNat_natCast, hsz, wsz _ (by omega), w64 (x := (i : Int) + 1) (by omega) (by omega), w64 (by omega) (by omega)]
    have ih := blenG_c1 rs hR ps k (i + 1) (acc + (23 + ((rs.getD i (pzero T_api_Record)).1.size : Int))) (by omega) (by omega) (by omega)
    rw [show ((i + 1 : Nat) : Int) = (i : Int) + 1 by omega] at ih
    rw [ih, d1, hsum]
    congr 1; omega
theorem blenL_c1 (rs : List D_api_Record) (hR : RecsV rs) (ps : List D_api_Piece) : ∀ (k i : Nat) (acc : Int), i + k = rs.length → 0 ≤ acc → acc ≤ 1000 + 100 * i →
    bound_length_v2_c1 acc rs (rs.length : Int) (i : Int) () ps = bound_length_v2_c2 (acc + hsum (rs.drop i)) (ps.length : Int) 0 () ps
  | 0, i, acc, e, h0, h1 => by
    rw [bound_length_v2_c1_eq, if_neg (by simp; omega), List.drop_eq_nil_of_le (by omega)]; simp [hsum]
  | k + 1, i, acc, e, h0, h1 => by
    have hlen := hR.len
    have hl' : Int.ofNat rs.length = (rs.length : Int) := rfl
    obtain ⟨d1, d2, d3⟩ := dropR_at (pzero T_api_Record : D_api_Record) (xs := rs) (i := i) (by omega)
    have hv := hR.each _ d3
    have hsz : Int.ofNat (rs.getD i (pzero T_api_Record)).1.size = ((rs.getD i (pzero T_api_Record)).1.size : Int) := rfl
    rw [bound_length_v2_c1_eq, if_pos (by simp; omega), gd_pos (by omega), gd_pos (by rw [hl']; omega), Int.toNat_natCast, hsz, wsz _ (by omega), w64 (x := (i : Int) + 1) (by omega) (by omega), w64 (by omega) (by omega)]
    have ih := blenL_c1 rs hR ps k (i + 1) (acc + (23 + ((rs.getD i (pzero T_api_Record)).1.size : Int))) (by omega) (by omega) (by omega)
    rw [show ((i + 1 : Nat) : Int) = (i : Int) + 1 by omega] at ih
    rw [ih, d1, hsum]
    congr 1; omega
/-- The length of an archive, so counted. -/
def lng (g : Int → Int) (s : Int) (rs : List D_api_Record) : Int := 28 + hsum rs + gsum g (ap s 0 rs)
theorem Greatest_spec (a : D_api_Settings) (rs : List D_api_Record) (hR : RecsOK rs) : bound_Greatest a rs = some (if ask a rs ≠ 0 then (0, ask a rs) else (lng gG a.2.1 rs, 0)) := by
  rw [bound_Greatest_eq, bound_greatest_eq, bound_length_eq, bound_pieces_spec a rs hR]
  simp only [Option.bind_some]
  by_cases h : ask a rs = 0
  · rw [if_neg (show ¬ ask a rs ≠ 0 by simp [h]), if_neg (show ¬ ask a rs ≠ 0 by simp [h]), if_neg (by simp)]
    obtain ⟨h1, h2⟩ := ask_zero h
    have hb := hsum_b rs h2.each
    have hlen := h2.len
    have e1 := blenG_c1 rs h2 (ap a.2.1 0 rs) rs.length 0 28 (by omega) (by omega) (by omega)
    have e2 := blenG_c2 (ap a.2.1 0 rs) (by have := ap_small a.2.1 h1.1 rs h2; omega) (ap_m a.2.1 (by omega) rs 0 h2.each) (ap a.2.1 0 rs).length 0 (28 + hsum rs) (by omega) (by omega) (by omega)
    rw [List.drop_zero] at e1 e2
    have e3 := e1.trans e2
    exact congrArg (fun o => Option.bind o some) e3
  · rw [if_pos h, if_pos h, if_pos (by simpa using h)]; rfl
theorem Least_spec (a : D_api_Settings) (rs : List D_api_Record) (hR : RecsOK rs) : bound_Least a rs = some (if ask a rs ≠ 0 then (0, ask a rs) else (lng gL a.2.1 rs, 0)) := by
  rw [bound_Least_eq, bound_least_eq, bound_length_v2_eq, bound_pieces_spec a rs hR]
  simp only [Option.bind_some]
  by_cases h : ask a rs = 0
  · rw [if_neg (show ¬ ask a rs ≠ 0 by simp [h]), if_neg (show ¬ ask a rs ≠ 0 by simp [h]), if_neg (by simp)]
    obtain ⟨h1, h2⟩ := ask_zero h
    have hb := hsum_b rs h2.each
    have hlen := h2.len
    have e1 := blenL_c1 rs h2 (ap a.2.1 0 rs) rs.length 0 28 (by omega) (by omega) (by omega)
    have e2 := blenL_c2 (ap a.2.1 0 rs) (by have := ap_small a.2.1 h1.1 rs h2; omega) (ap_m a.2.1 (by omega) rs 0 h2.each) (ap a.2.1 0 rs).length 0 (28 + hsum rs) (by omega) (by omega) (by omega)
    rw [List.drop_zero] at e1 e2
    have e3 := e1.trans e2
    exact congrArg (fun o => Option.bind o some) e3
  · rw [if_pos h, if_pos h, if_pos (by simpa using h)]; rfl
end Go.Ab

set_option linter.unusedVariables false
set_option linter.unusedSimpArgs false
set_option maxHeartbeats 1000000
namespace Go.Ab
attribute [local irreducible] IntKind.wrap
/-! ### 7. The reference's lengths -/
theorem rlen_c2 (rs : List D_api_Record) (b : Bool) (a : D_api_Settings) (hs : 16 ≤ a.2.1 ∧ a.2.1 ≤ 4096) (hl : rs.length ≤ 16) (i : Nat) (hi : i < rs.length) (hv : 0 ≤ (rs.getD i (pzero T_api_Record)).2.1 ∧ (rs.getD i (pzero T_api_Record)).2.1 ≤ 8192) (k : Nat) :
    ∀ (acc off : Int), (rs.getD i (pzero T_api_Record)).2.1 - off ≤ k → 0 ≤ off → off ≤ 13000 → 0 ≤ acc → acc + 9000 * k ≤ 4000000000 →
    bitloftref36_length_c2 rs b acc (i : Int) off a = bitloftref36_length_c1 rs b (acc + gsum (gOf b) (pcs (i : Int) (rs.getD i (pzero T_api_Record)).2.1 a.2.1 k off)) ((i : Int) + 1) a := by
  have hl' : Int.ofNat rs.length = (rs.length : Int) := rfl
  induction k with
  | zero =>
    intro acc off e h0 h1 h2 h3
    have hc : ¬ off < (rs.getD i (pzero T_api_Record)).2.1 := by omega
    rw [bitloftref36_length_c2_eq, gd_pos (by omega), gd_pos (by rw [hl']; omega), Int.toNat_natCast, if_neg (by simpa using hc), w64 (by omega) (by omega)]
    simp [pcs, gsum]
  | succ k ih =>
    intro acc off e h0 h1 h2 h3
    rw [bitloftref36_length_c2_eq, gd_pos (by omega), gd_pos (by rw [hl']; omega), Int.toNat_natCast]
    by_cases hc : off < (rs.getD i (pzero T_api_Record)).2.1
    · have hm : (if (rs.getD i (pzero T_api_Record)).2.1 - off < a.2.1 then (rs.getD i (pzero T_api_Record)).2.1 - off else a.2.1) = (if a.2.1 < (rs.getD i (pzero T_api_Record)).2.1 - off then a.2.1 else (rs.getD i (pzero T_api_Record)).2.1 - off) := by
        split <;> split <;> omega
      rw [if_pos (by simpa using hc), gd_pos (by omega), gd_pos (by rw [hl']; omega), w64 (x := (rs.getD i (pzero T_api_Record)).2.1 - off) (by omega) (by omega), w64 (x := off + a.2.1) (by omega) (by omega), hm]
      have hb : 0 ≤ (if a.2.1 < (rs.getD i (pzero T_api_Record)).2.1 - off then a.2.1 else (rs.getD i (pzero T_api_Record)).2.1 - off) ∧ (if a.2.1 < (rs.getD i (pzero T_api_Record)).2.1 - off then a.2.1 else (rs.getD i (pzero T_api_Record)).2.1 - off) ≤ 8192 := by split <;> omega
      simp only [pcs, if_pos hc, gsum]
      generalize (if a.2.1 < (rs.getD i (pzero T_api_Record)).2.1 - off then a.2.1 else (rs.getD i (pzero T_api_Record)).2.1 - off) = m at hb ⊢
      have hg := gOf_ok b m hb.1 hb.2
      cases b with
      | true =>
        rw [if_pos rfl, show (if (4 : Int) < m then (4 : Int) else m) = gOf true m from rfl, w64 (x := (41 : Int) + gOf true m) (by omega) (by omega), w64 (x := acc + (41 + gOf true m)) (by omega) (by omega), ih _ _ (by omega) (by omega) (by omega) (by omega) (by omega)]
        congr 1; omega
      | false =>
        have hgm : gOf false m = m := rfl
        rw [if_neg (by simp), w64 (x := (41 : Int) + m) (by omega) (by omega), w64 (x := acc + (41 + m)) (by omega) (by omega), ih _ _ (by omega) (by omega) (by omega) (by omega) (by omega)]
        rw [hgm]
        congr 1; omega
    · rw [if_neg (by simpa using hc), w64 (by omega) (by omega)]
      simp only [pcs, if_neg hc, gsum, Int.add_zero]
theorem rlen_c1 (rs : List D_api_Record) (b : Bool) (a : D_api_Settings) (hs : 16 ≤ a.2.1 ∧ a.2.1 ≤ 4096) (hR : RecsV rs) : ∀ (k i : Nat) (acc : Int), i + k = rs.length → 0 ≤ acc → acc ≤ 10000 + 80000000 * i →
    bitloftref36_length_c1 rs b acc (i : Int) a = some (acc + gsum (gOf b) (ap a.2.1 (i : Int) (rs.drop i)))
  | 0, i, acc, e, h0, h1 => by
    have hl' : Int.ofNat rs.length = (rs.length : Int) := rfl
    rw [bitloftref36_length_c1_eq, if_neg (by simp; omega), List.drop_eq_nil_of_le (by omega)]
    simp [ap, gsum]
  | k + 1, i, acc, e, h0, h1 => by
    have hlen := hR.len
    have hl' : Int.ofNat rs.length = (rs.length : Int) := rfl
    obtain ⟨d1, d2, d3⟩ := dropR_at (pzero T_api_Record : D_api_Record) (xs := rs) (i := i) (by omega)
    have hv := hR.each _ d3
    have hp := pcs_len (i : Int) (rs.getD i (pzero T_api_Record)).2.1 a.2.1 (by omega) 8200 0 hv.1 hv.1
    have hb := gsum_b (gOf b) (gOf_ok b) (pcs (i : Int) (rs.getD i (pzero T_api_Record)).2.1 a.2.1 8200 0) (pcs_m _ _ _ (by omega) hv.2.1 8200 0 (by omega))
    have e2 := rlen_c2 rs b a hs hlen i (by omega) ⟨hv.1, hv.2.1⟩ 8200 acc 0 (by omega) (by omega) (by omega) h0 (by omega)
    rw [bitloftref36_length_c1_eq, if_pos (by simp; omega), e2]
    have ih := rlen_c1 rs b a hs hR k (i + 1) (acc + gsum (gOf b) (pcs (i : Int) (rs.getD i (pzero T_api_Record)).2.1 a.2.1 8200 0)) (by omega) (by omega) (by omega)
    rw [show ((i + 1 : Nat) : Int) = (i : Int) + 1 by omega] at ih
    rw [ih, d1, ap, gsum_append]
    congr 1; omega
theorem rlen_spec (a : D_api_Settings) (rs : List D_api_Record) (b : Bool) (hs : 16 ≤ a.2.1 ∧ a.2.1 ≤ 4096) (hR : RecsV rs) : bitloftref36_length a rs b = some (lng (gOf b) a.2.1 rs) := by
  have hb := hsum_b rs hR.each
  have hlen := hR.len
  have h1 := head_c1 rs hR rs.length 0 28 (by omega) (by omega) (by omega)
  have h1' : bitloftref36_head rs = some (28 + hsum rs) := by rw [bitloftref36_head_eq]; exact h1
  rw [bitloftref36_length_eq, h1']
  simp only [Option.bind_some]
  exact rlen_c1 rs b a hs hR rs.length 0 (28 + hsum rs) (by omega) (by omega) (by omega)
theorem rGreatest_spec (a : D_api_Settings) (rs : List D_api_Record) (hR : RecsOK rs) : bitloftref36_Greatest a rs = some (if ask a rs ≠ 0 then (0, ask a rs) else (lng gG a.2.1 rs, 0)) := by
  rw [bitloftref36_Greatest_eq, asked_spec a rs hR]
  simp only [Option.bind_some]
  by_cases h : ask a rs = 0
  · rw [if_neg (by simp [h]), if_neg (by simp [h])]
    obtain ⟨h1, h2⟩ := ask_zero h
    rw [rlen_spec a rs false h1 h2]; rfl
  · rw [if_pos (by simpa using h), if_pos h]
theorem rLeast_spec (a : D_api_Settings) (rs : List D_api_Record) (hR : RecsOK rs) : bitloftref36_Least a rs = some (if ask a rs ≠ 0 then (0, ask a rs) else (lng gL a.2.1 rs, 0)) := by
  rw [bitloftref36_Least_eq, asked_spec a rs hR]
  simp only [Option.bind_some]
  by_cases h : ask a rs = 0
  · rw [if_neg (by simp [h]), if_neg (by simp [h])]
    obtain ⟨h1, h2⟩ := ask_zero h
    rw [rlen_spec a rs true h1 h2]; rfl
  · rw [if_pos (by simpa using h), if_pos h]
/-! ### 8. The law -/
theorem peqL_refl {α : Type} (eq : α → α → Bool) (he : ∀ x, eq x x = true) : ∀ xs : List α, peqL eq xs xs = true
  | [] => rfl
  | x :: xs => by simp only [peqL, he, peqL_refl eq he xs, Bool.and_self]
theorem peq_rec (r : D_api_Record) : peq T_api_Record r r = true := by
  simp only [peq, beq_self_eq_true, decide_true, Bool.true_and, Bool.and_true]
  exact peqL_refl _ (fun x => by simp [peq]) _
theorem rSame_c1 (rs : List D_api_Record) (hl : rs.length ≤ 1000) : ∀ (k i : Nat), i + k = rs.length → bitloftref28_Same_c1 rs rs (i : Int) = some true
  | 0, i, e => by
    have hl' : Int.ofNat rs.length = (rs.length : Int) := rfl
    rw [bitloftref28_Same_c1_eq, if_neg (by simp; omega)]
  | k + 1, i, e => by
    have hl' : Int.ofNat rs.length = (rs.length : Int) := rfl
    have ih := rSame_c1 rs hl k (i + 1) (by omega)
    rw [show ((i + 1 : Nat) : Int) = (i : Int) + 1 by omega] at ih
    rw [bitloftref28_Same_c1_eq, if_pos (by simp; omega), gd_pos (by omega), gd_pos (by rw [hl']; omega), gd_pos (by omega), gd_pos (by rw [hl']; omega), peq_rec, if_neg (by simp), w64 (by omega) (by omega), ih]
theorem rSame_refl (rs : List D_api_Record) (hl : rs.length ≤ 1000) : bitloftref28_Same rs rs = some true := by
  rw [bitloftref28_Same_eq, if_neg (by simp)]
  exact rSame_c1 rs hl rs.length 0 (by omega)
theorem counts_c1 (rs : List D_api_Record) (hr : rs.length ≤ 1000) (xs : List Int) (hl : xs.length ≤ 1000) : ∀ (k i : Nat), i + k = xs.length → bitloftlaw36_BoundCounts_c1 rs (i : Int) rs xs xs = some true
  | 0, i, e => by
    have hl' : Int.ofNat xs.length = (xs.length : Int) := rfl
    rw [bitloftlaw36_BoundCounts_c1_eq, if_neg (by simp; omega), rSame_refl rs hr]; rfl
  | k + 1, i, e => by
    have hl' : Int.ofNat xs.length = (xs.length : Int) := rfl
    have ih := counts_c1 rs hr xs hl k (i + 1) (by omega)
    rw [show ((i + 1 : Nat) : Int) = (i : Int) + 1 by omega] at ih
    rw [bitloftlaw36_BoundCounts_c1_eq, if_pos (by simp; omega), gd_pos (by omega), gd_pos (by rw [hl']; omega), gd_pos (by omega), gd_pos (by rw [hl']; omega), if_neg (by simp), w64 (by omega) (by omega), ih]
/-- Names that are short are few. -/
theorem great_c1 (rs : List D_api_Record) : ∀ (k i : Nat), i + k = rs.length → ∃ g, bitloftref28_GreatRecords_c1 rs (i : Int) = some g ∧ (g = false → rs.length ≤ 30)
  | 0, i, e => by
    have hl' : Int.ofNat rs.length = (rs.length : Int) := rfl
    refine ⟨decide ((rs.length : Int) > 30), ?_, fun h => by simp at h; omega⟩
    rw [bitloftref28_GreatRecords_c1_eq, if_neg (by simp; omega)]; rfl
  | k + 1, i, e => by
    have hl' : Int.ofNat rs.length = (rs.length : Int) := rfl
    rw [bitloftref28_GreatRecords_c1_eq, if_pos (by simp; omega)]
    by_cases h : i ≤ 30
    · rw [if_pos (by simp; omega), gd_pos (by omega), gd_pos (by rw [hl']; omega)]
      split
      · exact ⟨true, rfl, fun h => by cases h⟩
      · have ih := great_c1 rs k (i + 1) (by omega)
        rw [show ((i + 1 : Nat) : Int) = (i : Int) + 1 by omega] at ih
        rw [w64 (by omega) (by omega)]
        exact ih
    · rw [if_neg (by simp; omega)]
      exact ⟨decide ((rs.length : Int) > 30), rfl, fun h => by simp at h; omega⟩
theorem recs_ok {rs : List D_api_Record} (h : wfP (.slice T_api_Record) rs) : RecsOK rs := by
  refine ⟨?_, fun r hr => ?_⟩
  · have := h.1; simp [Go.maxLen] at this; omega
  · have := (h.2 r hr).1; simp [wfP, Go.maxLen] at this; omega
theorem bitloftlaw36_BoundCounts_true (x0 : pden T_api_Settings) (z0 : wfP T_api_Settings x0) (x1 : pden (.slice T_api_Record)) (z1 : wfP (.slice T_api_Record) x1) : bitloftlaw36_BoundCounts x0 x1 = some true := by
  have hR : RecsOK x1 := recs_ok z1
  obtain ⟨g, hg, hgl⟩ := great_c1 x1 x1.length 0 (by omega)
  have hg' : bitloftref28_GreatRecords x1 = some g := by rw [bitloftref28_GreatRecords_eq]; exact hg
  rw [bitloftlaw36_BoundCounts_eq, hg']
  simp only [Option.bind_some]
  cases g with
  | true => rw [if_pos rfl]
  | false =>
    have hl := hgl rfl
    obtain ⟨c1, r, c2⟩ := Count_spec x0 x1 hR
    rw [if_neg (by simp), gd_pos (by simp; omega), ← c1, c2, bSizes_spec x0 x1 hR hl, rSizes_spec x0 x1 hR, Greatest_spec x0 x1 hR, rGreatest_spec x0 x1 hR, Least_spec x0 x1 hR, rLeast_spec x0 x1 hR]
    simp only [Option.bind_some, bne_self_eq_false, Bool.false_eq_true, if_false, List.nil_append]
    refine counts_c1 x1 (by omega) _ ?_ _ 0 (Nat.zero_add _)
    split
    · simp
    · simp [lens]; omega
end Go.Ab

set_option linter.unusedVariables false
set_option linter.unusedSimpArgs false
set_option maxHeartbeats 1000000
namespace Go.Ab
attribute [local irreducible] IntKind.wrap
/-! ### 1. A head's bytes -/
def recB (r : D_api_Record) : List Int := (([IntKind.wrap .u8 (r.1.size : Int)] ++ ofStr r.1) ++ [IntKind.wrap .u8 (Int.fdiv r.2.1 256), IntKind.wrap .u8 r.2.1]) ++ List.take 20 (List.drop 0 r.2.2.1)
def recsB : List D_api_Record → List Int
  | [] => []
  | r :: rest => recB r ++ recsB rest
def frontB (a : D_api_Settings) (n : Int) : List Int := [66, 76, 70, 1, IntKind.wrap .u8 a.1, IntKind.wrap .u8 (Int.fdiv a.2.1 256), IntKind.wrap .u8 a.2.1, IntKind.wrap .u8 n]
def bodyB (a : D_api_Settings) (rs : List D_api_Record) : List Int := frontB a rs.length ++ recsB rs
def headB (a : D_api_Settings) (rs : List D_api_Record) : List Int := bodyB a rs ++ shaB (bodyB a rs)
/-- Sums of twenty bytes. -/
def SumsOK (rs : List D_api_Record) : Prop := ∀ r ∈ rs, r.2.2.1.length = 20 ∧ Bts r.2.2.1
theorem ofStr_bts (s : ByteArray) : Bts (ofStr s) := by
  intro x hx
  obtain ⟨b, _, rfl⟩ := List.mem_map.1 hx
  have := b.toNat_lt
  omega
theorem recB_len (r : D_api_Record) (h : r.2.2.1.length = 20) : (recB r).length = 23 + r.1.size := by
  simp only [recB, List.length_append, List.length_cons, List.length_nil, ofStr_len, List.length_take, List.drop_zero, h]
  omega
theorem recB_bts (r : D_api_Record) (h : Bts r.2.2.1) : Bts (recB r) :=
  Bts.append (Bts.append (Bts.append (Bts.cons (w8_b _) Bts.nil) (ofStr_bts _)) (Bts.cons (w8_b _) (Bts.cons (w8_b _) Bts.nil))) ((h.drop 0).take 20)
theorem recsB_len : ∀ (rs : List D_api_Record), SumsOK rs → ((recsB rs).length : Int) = hsum rs
  | [], _ => rfl
  | r :: rest, h => by
    have h1 := recB_len r (h r (by simp)).1
    have h2 := recsB_len rest (fun q hq => h q (by simp [hq]))
    simp only [recsB, hsum, List.length_append]
    omega
theorem recsB_bts : ∀ (rs : List D_api_Record), SumsOK rs → Bts (recsB rs)
  | [], _ => Bts.nil
  | r :: rest, h => (recB_bts r (h r (by simp)).2).append (recsB_bts rest (fun q hq => h q (by simp [hq])))
theorem frontB_bts (a : D_api_Settings) (n : Int) : Bts (frontB a n) := by
  unfold frontB
  repeat first | exact Bts.nil | refine Bts.cons (w8_b _) ?_ | refine Bts.cons (by omega) ?_
theorem bodyB_bts (a : D_api_Settings) (rs : List D_api_Record) (h : SumsOK rs) : Bts (bodyB a rs) := (frontB_bts _ _).append (recsB_bts rs h)
theorem headB_bts (a : D_api_Settings) (rs : List D_api_Record) (h : SumsOK rs) : Bts (headB a rs) := (bodyB_bts a rs h).append (shaB_bts _)
theorem headB_len (a : D_api_Settings) (rs : List D_api_Record) (h : SumsOK rs) : ((headB a rs).length : Int) = 28 + hsum rs := by
  have := recsB_len rs h
  simp only [headB, bodyB, List.length_append, shaB_len]
  have : (frontB a rs.length).length = 8 := rfl
  omega
/-! ### 2. The program writes it -/
theorem Write_c1 (rs : List D_api_Record) (hR : RecsV rs) (hS : SumsOK rs) : ∀ (k i : Nat) (h : List Int), i + k = rs.length → (h.length : Int) ≤ 100 * i → member_Write_c1 rs (rs.length : Int) (i : Int) h = some (h ++ recsB (rs.drop i), 0)
  | 0, i, h, e, hl => by
    rw [member_Write_c1_eq, if_neg (by simp; omega), List.drop_eq_nil_of_le (by omega)]; simp [recsB]
  | k + 1, i, h, e, hl => by
    have hlen := hR.len
    have hl' : Int.ofNat rs.length = (rs.length : Int) := rfl
    obtain ⟨d1, d2, d3⟩ := dropR_at (pzero T_api_Record : D_api_Record) (xs := rs) (i := i) (by omega)
    have hv := hR.each _ d3
    have hs := hS _ d3
    have hb := recB_len _ hs.1
    rw [member_Write_c1_eq, if_pos (by simp; omega), gd_pos (by omega), gd_pos (by rw [hl']; omega), Int.toNat_natCast]
    generalize (rs.getD i (pzero T_api_Record) : D_api_Record) = r at *
    have e1 : (((h ++ [IntKind.wrap .u8 (Int.ofNat r.1.size)]) ++ ofStr r.1) ++ [IntKind.wrap .u8 (Int.fdiv r.2.1 256), IntKind.wrap .u8 r.2.1]) ++ List.take 20 (List.drop 0 r.2.2.1) = h ++ recB r := by
      simp only [recB, List.append_assoc]; rfl
    have ho := ofStr_len r.1
    rw [gd_pos (by simp only [List.length_append, List.length_cons, List.length_nil]; omega), gd_pos (by simp only [List.length_append, List.length_cons, List.length_nil]; omega), gd_pos (by omega), gd_pos (by simp only [List.length_append, List.length_cons, List.length_nil]; omega), e1, gd_pos (by rw [List.length_append]; omega), w64 (by omega) (by omega)]
    have ih := Write_c1 rs hR hS k (i + 1) (h ++ recB r) (by omega) (by rw [List.length_append]; omega)
    rw [show ((i + 1 : Nat) : Int) = (i : Int) + 1 by omega] at ih
    rw [ih, d1, recsB, List.append_assoc]
theorem member_Write_spec (rs : List D_api_Record) (hR : RecsOK rs) (hS : SumsOK rs) : member_Write rs = some (if valid rs ≠ 0 then ([], valid rs) else (recsB rs, 0)) := by
  rw [member_Write_eq, member_Valid_spec rs hR]
  simp only [Option.bind_some]
  by_cases h : valid rs = 0
  · rw [if_neg (by simp [h]), if_neg (by simp [h])]
    exact Write_c1 rs (valid_zero h) hS rs.length 0 [] (by omega) (by simp)
  · rw [if_pos (by simpa using h), if_pos h]
theorem pack_Head_spec (a : D_api_Settings) (rs : List D_api_Record) (hR : RecsOK rs) (hS : SumsOK rs) : pack_Head a rs = some (if ask a rs ≠ 0 then ([], ask a rs) else (headB a rs, 0)) := by
  rw [pack_Head_eq, pack_Check_spec, member_Write_spec rs hR hS]
  simp only [Option.bind_some]
  by_cases h : chk a = 0
  · rw [if_neg (by simp [h])]
    have ha : ask a rs = valid rs := by unfold ask; rw [if_neg (by simp [h])]
    by_cases hv : valid rs = 0
    · rw [if_neg (show ¬ valid rs ≠ 0 by simp [hv]), if_neg (by simp), if_neg (by rw [ha]; simp [hv])]
      have hV := valid_zero hv
      have hlen := hV.len
      have hb := hsum_b rs hV.each
      have hr := recsB_len rs hS
      have hbl : (bodyB a rs).length = 8 + (recsB rs).length := by simp only [bodyB, List.length_append]; rfl
      have e1 : [(66 : Int), 76, 70, 1, IntKind.wrap .u8 a.1, IntKind.wrap .u8 (Int.fdiv a.2.1 256), IntKind.wrap .u8 a.2.1, IntKind.wrap .u8 (Int.ofNat rs.length)] ++ recsB rs = bodyB a rs := rfl
      simp only
      rw [gd_pos (by omega), e1, gd_pos (by omega), Sum_spec _ (bodyB_bts a rs hS), if_pos (by omega)]
      simp only [Option.bind_some]
      have e2 : List.take 20 (List.drop 0 (shaB (bodyB a rs))) = shaB (bodyB a rs) := by
        rw [List.drop_zero, List.take_of_length_le (by rw [shaB_len]; omega)]
      rw [e2, gd_pos (by rw [List.length_append, shaB_len]; omega)]
      rfl
    · rw [if_pos hv, if_pos (by simpa using hv), if_pos (by rw [ha]; exact hv), ha]
  · have ha : ask a rs = chk a := by unfold ask; rw [if_pos h]
    rw [if_pos (by simpa using h), if_pos (by rw [ha]; exact h), ha]
/-! ### 3. The reference -/
theorem Bytes_c1 (rs : List D_api_Record) (hR : RecsV rs) (hS : SumsOK rs) : ∀ (k i : Nat) (h : List Int), i + k = rs.length → (h.length : Int) ≤ 100 * i → bitloftref28_Bytes_c1 rs (i : Int) h = some (h ++ recsB (rs.drop i))
  | 0, i, h, e, hl => by
    have hl' : Int.ofNat rs.length = (rs.length : Int) := rfl
    rw [bitloftref28_Bytes_c1_eq, if_neg (by simp; omega), List.drop_eq_nil_of_le (by omega)]; simp [recsB]
  | k + 1, i, h, e, hl => by
    have hlen := hR.len
    have hl' : Int.ofNat rs.length = (rs.length : Int) := rfl
    obtain ⟨d1, d2, d3⟩ := dropR_at (pzero T_api_Record : D_api_Record) (xs := rs) (i := i) (by omega)
    have hv := hR.each _ d3
    have hs := hS _ d3
    have hb := recB_len _ hs.1
    rw [bitloftref28_Bytes_c1_eq, if_pos (by simp; omega), gd_pos (by omega), gd_pos (by rw [hl']; omega), Int.toNat_natCast]
    generalize (rs.getD i (pzero T_api_Record) : D_api_Record) = r at *
    have e1 : (((h ++ [IntKind.wrap .u8 (Int.ofNat r.1.size)]) ++ ofStr r.1) ++ [IntKind.wrap .u8 (Int.fdiv r.2.1 256), IntKind.wrap .u8 r.2.1]) ++ List.take 20 (List.drop 0 r.2.2.1) = h ++ recB r := by
      simp only [recB, List.append_assoc]; rfl
    have ho := ofStr_len r.1
    rw [gd_pos (by simp only [List.length_append, List.length_cons, List.length_nil]; omega), gd_pos (by simp only [List.length_append, List.length_cons, List.length_nil]; omega), gd_pos (by omega), gd_pos (by simp only [List.length_append, List.length_cons, List.length_nil]; omega), e1, gd_pos (by rw [List.length_append]; omega), w64 (by omega) (by omega)]
    have ih := Bytes_c1 rs hR hS k (i + 1) (h ++ recB r) (by omega) (by rw [List.length_append]; omega)
    rw [show ((i + 1 : Nat) : Int) = (i : Int) + 1 by omega] at ih
    rw [ih, d1, recsB, List.append_assoc]
theorem rBytes_spec (a : D_api_Settings) (rs : List D_api_Record) (hR : RecsV rs) (hS : SumsOK rs) : bitloftref30_Bytes a rs = some (headB a rs) := by
  have hb := hsum_b rs hR.each
  have hlen := hR.len
  have hr := recsB_len rs hS
  have hbl : (bodyB a rs).length = 8 + (recsB rs).length := by simp only [bodyB, List.length_append]; rfl
  have h1 : bitloftref28_Bytes rs = some (recsB rs) := by
    rw [bitloftref28_Bytes_eq]; exact Bytes_c1 rs hR hS rs.length 0 [] (by omega) (by simp)
  rw [bitloftref30_Bytes_eq, bitloftref30_Front_eq, gd_pos (by omega), h1]
  simp only [Option.bind_some]
  have e1 : [(66 : Int), 76, 70, 1, IntKind.wrap .u8 a.1, IntKind.wrap .u8 (Int.fdiv a.2.1 256), IntKind.wrap .u8 a.2.1, IntKind.wrap .u8 (Int.ofNat rs.length)] ++ recsB rs = bodyB a rs := rfl
  rw [e1, gd_pos (by omega), Of_spec _ (by omega)]
  simp only [Option.bind_some]
  have e2 : List.take 20 (List.drop 0 (shaB (bodyB a rs))) = shaB (bodyB a rs) := by
    rw [List.drop_zero, List.take_of_length_le (by rw [shaB_len]; omega)]
  rw [e2, gd_pos (by rw [List.length_append, shaB_len]; omega)]
  rfl
theorem rHead_spec (a : D_api_Settings) (rs : List D_api_Record) (hR : RecsOK rs) (hS : SumsOK rs) : bitloftref30_Head a rs = some (if ask a rs ≠ 0 then ([], ask a rs) else (headB a rs, 0)) := by
  rw [bitloftref30_Head_eq, ref30_Check_spec, ref28_Valid_spec rs hR]
  simp only [Option.bind_some]
  by_cases h : chk a = 0
  · rw [if_neg (by simp [h])]
    have ha : ask a rs = valid rs := by unfold ask; rw [if_neg (by simp [h])]
    by_cases hv : valid rs = 0
    · rw [if_neg (by simp [hv]), if_neg (by rw [ha]; simp [hv]), rBytes_spec a rs (valid_zero hv) hS]; rfl
    · rw [if_pos (by simpa using hv), if_pos (by rw [ha]; exact hv), ha]
  · have ha : ask a rs = chk a := by unfold ask; rw [if_pos h]
    rw [if_pos (by simpa using h), if_pos (by rw [ha]; exact h), ha]
end Go.Ab

set_option linter.unusedVariables false
set_option linter.unusedSimpArgs false
set_option maxHeartbeats 1000000
namespace Go.Ab
attribute [local irreducible] IntKind.wrap
/-! ### 4. Pieces by division -/
theorem pcs_ceil (i n s : Int) (hs : 1 ≤ s) (k : Nat) : ∀ off : Int, n - off ≤ k → off ≤ n + s - 1 → ((pcs i n s k off).length : Int) = (n - off + s - 1) / s := by
  induction k with
  | zero =>
    intro off h h1
    simp only [pcs, List.length_nil]
    exact (Int.ediv_eq_zero_of_lt (by omega) (by omega)).symm
  | succ k ih =>
    intro off h h1
    simp only [pcs]
    by_cases hc : off < n
    · rw [if_pos hc, List.length_cons]
      have e := ih (off + s) (by omega) (by omega)
      have : (n - off + s - 1) = (n - (off + s) + s - 1) + 1 * s := by omega
      rw [this, Int.add_mul_ediv_right _ _ (by omega), ← e]
      omega
    · rw [if_neg hc]
      exact (Int.ediv_eq_zero_of_lt (by omega) (by omega)).symm
theorem pcs_gsum (i n s : Int) (hs : 1 ≤ s) (k : Nat) : ∀ off : Int, n - off ≤ k → off ≤ n → gsum gG (pcs i n s k off) = 41 * ((pcs i n s k off).length : Int) + (n - off) := by
  induction k with
  | zero => intro off h h1; simp [pcs, gsum]; omega
  | succ k ih =>
    intro off h h1
    simp only [pcs]
    by_cases hc : off < n
    · rw [if_pos hc, List.length_cons, gsum]
      by_cases h2 : off + s ≤ n
      · rw [ih (off + s) (by omega) h2]
        simp only [gG]; split <;> omega
      · have : pcs i n s k (off + s) = [] := by
          cases k with
          | zero => rfl
          | succ k => simp only [pcs]; rw [if_neg (by omega)]
        rw [this]
        simp only [gG, gsum, List.length_nil]; split <;> omega
    · rw [if_neg hc]; simp [gsum]; omega
/-! ### 5. The program's longest length -/
theorem Longest_c1 (a : D_api_Settings) (rs : List D_api_Record) (hs : 16 ≤ a.2.1 ∧ a.2.1 ≤ 4096) (hR : RecsV rs) : ∀ (k i : Nat) (acc : Int), i + k = rs.length → 0 ≤ acc → acc ≤ 10000 + 1000000 * i →
    pack_Longest_c1 acc rs (rs.length : Int) (i : Int) a = some (acc + gsum gG (ap a.2.1 (i : Int) (rs.drop i)), 0)
  | 0, i, acc, e, h0, h1 => by
    rw [pack_Longest_c1_eq, if_neg (by simp; omega), List.drop_eq_nil_of_le (by omega)]; simp [ap, gsum]
  | k + 1, i, acc, e, h0, h1 => by
    have hlen := hR.len
    have hl' : Int.ofNat rs.length = (rs.length : Int) := rfl
    obtain ⟨d1, d2, d3⟩ := dropR_at (pzero T_api_Record : D_api_Record) (xs := rs) (i := i) (by omega)
    have hv := hR.each _ d3
    rw [pack_Longest_c1_eq, if_pos (by simp; omega), gd_pos (by omega), gd_pos (by rw [hl']; omega), gd_pos (by omega), Int.toNat_natCast]
    generalize hr : (rs.getD i (pzero T_api_Record) : D_api_Record) = r at *
    have hc := pcs_ceil (i : Int) r.2.1 a.2.1 (by omega) 8200 0 (by omega) (by omega)
    have hg := pcs_gsum (i : Int) r.2.1 a.2.1 (by omega) 8200 0 (by omega) hv.1
    have hn := pcs_len (i : Int) r.2.1 a.2.1 (by omega) 8200 0 hv.1 hv.1
    have ed : Int.tdiv (r.2.1 + a.2.1 - 1) a.2.1 = ((pcs (i : Int) r.2.1 a.2.1 8200 0).length : Int) := by
      rw [tdiv_nn (by omega), hc, Int.sub_zero]
    rw [w64 (x := r.2.1 + a.2.1) (by omega) (by omega), w64 (x := r.2.1 + a.2.1 - 1) (by omega) (by omega), ed, w64 (x := ((pcs (i : Int) r.2.1 a.2.1 8200 0).length : Int)) (by omega) (by omega)]
    rw [w64 (x := 41 * ((pcs (i : Int) r.2.1 a.2.1 8200 0).length : Int)) (by omega) (by omega), w64 (x := r.2.1 + 41 * ((pcs (i : Int) r.2.1 a.2.1 8200 0).length : Int)) (by omega) (by omega), w64 (x := acc + (r.2.1 + 41 * ((pcs (i : Int) r.2.1 a.2.1 8200 0).length : Int))) (by omega) (by omega), w64 (x := (i : Int) + 1) (by omega) (by omega)]
    have ih := Longest_c1 a rs hs hR k (i + 1) (acc + (r.2.1 + 41 * ((pcs (i : Int) r.2.1 a.2.1 8200 0).length : Int))) (by omega) (by omega) (by omega)
    rw [show ((i + 1 : Nat) : Int) = (i : Int) + 1 by omega] at ih
    rw [ih, d1, ap, gsum_append, hg]
    congr 2; omega
theorem pack_Longest_spec (a : D_api_Settings) (rs : List D_api_Record) (hR : RecsOK rs) (hS : SumsOK rs) : pack_Longest a rs = some (if ask a rs ≠ 0 then (0, ask a rs) else (lng gG a.2.1 rs, 0)) := by
  rw [pack_Longest_eq, pack_Head_spec a rs hR hS]
  simp only [Option.bind_some]
  by_cases h : ask a rs = 0
  · rw [if_neg (show ¬ ask a rs ≠ 0 by simp [h]), if_neg (show ¬ ask a rs ≠ 0 by simp [h]), if_neg (by simp)]
    obtain ⟨h1, h2⟩ := ask_zero h
    have hb := hsum_b rs h2.each
    have hlen := h2.len
    have hl := headB_len a rs hS
    have e1 : Int.ofNat (headB a rs).length = 28 + hsum rs := hl
    simp only [e1]
    exact Longest_c1 a rs h1 h2 rs.length 0 (28 + hsum rs) (by omega) (by omega) (by omega)
  · rw [if_pos h, if_pos h, if_pos (by simpa using h)]
/-! ### 6. The reference's pieces -/
theorem rSz_c1 (xs : List Int) (hx : ∀ x ∈ xs, 0 ≤ x) (hl : xs.length ≤ 16) : ∀ (k i : Nat), i + k = xs.length → bitloftref29_Sizes_c1 xs (i : Int) = bitloftref29_Sizes_c2 xs 8192 0
  | 0, i, e => by
    have hl' : Int.ofNat xs.length = (xs.length : Int) := rfl
    rw [bitloftref29_Sizes_c1_eq, hl', if_neg (by simp; omega), if_neg (by simp; omega)]
  | k + 1, i, e => by
    have hl' : Int.ofNat xs.length = (xs.length : Int) := rfl
    obtain ⟨d1, d2, d3⟩ := dropR_at (0 : Int) (xs := xs) (i := i) (by omega)
    have := hx _ d3
    have ih := rSz_c1 xs hx hl k (i + 1) (by omega)
    rw [show ((i + 1 : Nat) : Int) = (i : Int) + 1 by omega] at ih
    rw [bitloftref29_Sizes_c1_eq, hl', if_pos (by simp; omega), gd_pos (by omega), gd_pos (by omega), Int.toNat_natCast, if_neg (by rw [decide_eq_true_eq]; omega), w64 (by omega) (by omega), ih]
theorem rSz_c2 (rs : List D_api_Record) (hR : RecsV rs) : ∀ (k i : Nat) (left : Int), i + k = rs.length → left ≤ 8192 → tot (rs.drop i) ≤ left → bitloftref29_Sizes_c2 (szs rs) left (i : Int) = some 0
  | 0, i, left, e, h0, h1 => by
    have hl' : Int.ofNat (szs rs).length = (rs.length : Int) := by rw [szs_len]; rfl
    rw [bitloftref29_Sizes_c2_eq, hl', if_neg (by simp; omega)]
  | k + 1, i, left, e, h0, h1 => by
    have hlen := hR.len
    have hl' : Int.ofNat (szs rs).length = (rs.length : Int) := by rw [szs_len]; rfl
    obtain ⟨d1, d2, d3⟩ := dropR_at (pzero T_api_Record : D_api_Record) (xs := rs) (i := i) (by omega)
    have hv := hR.each _ d3
    have ht := tot_nn (rs.drop (i + 1)) (fun r hr => hR.each r (List.mem_of_mem_drop hr))
    rw [d1, tot] at h1
    rw [bitloftref29_Sizes_c2_eq, hl', if_pos (by simp; omega), gd_pos (by omega), gd_pos (by omega), Int.toNat_natCast, szs_get rs i (by omega), if_neg (by rw [decide_eq_true_eq]; omega), gd_pos (by omega), gd_pos (by omega), w64 (x := (i : Int) + 1) (by omega) (by omega), w64 (by omega) (by omega)]
    have ih := rSz_c2 rs hR k (i + 1) (left - (rs.getD i (pzero T_api_Record)).2.1) (by omega) (by omega) (by omega)
    rw [show ((i + 1 : Nat) : Int) = (i : Int) + 1 by omega] at ih
    exact ih
theorem rpcs_c2 (s : Int) (rs : List D_api_Record) (hs : 16 ≤ s ∧ s ≤ 4096) (hl : rs.length ≤ 16) (i : Nat) (hi : i < rs.length) (hn : 0 ≤ (rs.getD i (pzero T_api_Record)).2.1 ∧ (rs.getD i (pzero T_api_Record)).2.1 ≤ 8192) (k : Nat) : ∀ (off : Int) (h : List D_api_Piece), (rs.getD i (pzero T_api_Record)).2.1 - off ≤ k → 0 ≤ off → off ≤ 13000 → (h.length : Int) + (k : Int) ≤ 1000000 →
    bitloftref29_pieces_c2 (szs rs) s (i : Int) off h = bitloftref29_pieces_c1 (szs rs) s ((i : Int) + 1) (h ++ pcs (i : Int) (rs.getD i (pzero T_api_Record)).2.1 s k off) := by
  have hl' : Int.ofNat (szs rs).length = (rs.length : Int) := by rw [szs_len]; rfl
  induction k with
  | zero =>
    intro off h e h0 h1 h2
    have hc : ¬ off < (rs.getD i (pzero T_api_Record)).2.1 := by omega
    rw [bitloftref29_pieces_c2_eq, hl', gd_pos (by omega), gd_pos (by omega), Int.toNat_natCast, szs_get rs i hi, if_neg (by simpa using hc), w64 (by omega) (by omega)]
    simp only [pcs, List.append_nil]
  | succ k ih =>
    intro off h e h0 h1 h2
    rw [bitloftref29_pieces_c2_eq, hl', gd_pos (by omega), gd_pos (by omega), Int.toNat_natCast, szs_get rs i hi]
    by_cases hc : off < (rs.getD i (pzero T_api_Record)).2.1
    · have hm : (if (rs.getD i (pzero T_api_Record)).2.1 - off < s then (rs.getD i (pzero T_api_Record)).2.1 - off else s) = (if s < (rs.getD i (pzero T_api_Record)).2.1 - off then s else (rs.getD i (pzero T_api_Record)).2.1 - off) := by
        split <;> split <;> omega
      rw [if_pos (by simpa using hc), gd_pos (by omega), gd_pos (by omega), w64 (x := (rs.getD i (pzero T_api_Record)).2.1 - off) (by omega) (by omega), hm, gd_pos (by rw [List.length_append]; simp only [List.length_cons, List.length_nil]; omega), w64 (x := off + s) (by omega) (by omega)]
      rw [ih (off + s) _ (by omega) (by omega) (by omega) (by rw [List.length_append]; simp only [List.length_cons, List.length_nil]; omega)]
      simp only [pcs, if_pos hc, List.append_assoc, List.singleton_append]
    · rw [if_neg (by simpa using hc), w64 (by omega) (by omega)]
      simp only [pcs, if_neg hc, List.append_nil]
theorem rpcs_c1 (s : Int) (rs : List D_api_Record) (hs : 16 ≤ s ∧ s ≤ 4096) (hR : RecsV rs) : ∀ (k i : Nat) (h : List D_api_Piece), i + k = rs.length → (h.length : Int) ≤ 8192 * i → bitloftref29_pieces_c1 (szs rs) s (i : Int) h = some (h ++ ap s (i : Int) (rs.drop i))
  | 0, i, h, e, hl => by
    have hl' : Int.ofNat (szs rs).length = (rs.length : Int) := by rw [szs_len]; rfl
    rw [bitloftref29_pieces_c1_eq, hl', if_neg (by simp; omega), List.drop_eq_nil_of_le (by omega)]; simp [ap]
  | k + 1, i, h, e, hl => by
    have hlen := hR.len
    have hl' : Int.ofNat (szs rs).length = (rs.length : Int) := by rw [szs_len]; rfl
    obtain ⟨d1, d2, d3⟩ := dropR_at (pzero T_api_Record : D_api_Record) (xs := rs) (i := i) (by omega)
    have hv := hR.each _ d3
    have hp := pcs_len (i : Int) (rs.getD i (pzero T_api_Record)).2.1 s (by omega) 8200 0 hv.1 hv.1
    have e2 := rpcs_c2 s rs hs hlen i (by omega) ⟨hv.1, hv.2.1⟩ 8200 0 h (by omega) (by omega) (by omega) (by omega)
    rw [bitloftref29_pieces_c1_eq, hl', if_pos (by simp; omega), e2]
    have ih := rpcs_c1 s rs hs hR k (i + 1) (h ++ pcs (i : Int) (rs.getD i (pzero T_api_Record)).2.1 s 8200 0) (by omega) (by rw [List.length_append]; omega)
    rw [show ((i + 1 : Nat) : Int) = (i : Int) + 1 by omega] at ih
    rw [ih, d1, ap, List.append_assoc]
theorem ref29_Pieces_spec (s : Int) (rs : List D_api_Record) (hs : 16 ≤ s ∧ s ≤ 4096) (hR : RecsV rs) : bitloftref29_Pieces (szs rs) s = some (ap s 0 rs, 0) := by
  have hlen := hR.len
  have hz : bitloftref29_Sizes (szs rs) = some 0 := by
    have h1 := rSz_c1 (szs rs) (fun x hx => by
      obtain ⟨r, hr, rfl⟩ := List.mem_map.1 hx
      exact (hR.each r hr).1) (by rw [szs_len]; omega) (szs rs).length 0 (by omega)
    have h2 := rSz_c2 rs hR rs.length 0 8192 (by omega) (by omega) (by have := hR.tot; simpa using this)
    rw [bitloftref29_Sizes_eq]
    exact h1.trans h2
  have hp : bitloftref29_pieces (szs rs) s = some (ap s 0 rs) := by
    rw [bitloftref29_pieces_eq]
    exact rpcs_c1 s rs hs hR rs.length 0 [] (by omega) (by simp)
  rw [bitloftref29_Pieces_eq, hz, bitloftref29_Block_eq, if_pos (by simp; omega), hp]
  simp only [Option.bind_some]
  rw [if_neg (by simp), if_neg (by simp; omega)]
theorem rLong_c2 (ps : List D_api_Piece) (hp : ps.length ≤ 100000) (hm : ∀ p ∈ ps, 0 ≤ p.2.2.1 ∧ p.2.2.1 ≤ 8192) : ∀ (k j : Nat) (acc : Int), j + k = ps.length → 0 ≤ acc → acc ≤ 10000 + 9000 * j →
    bitloftref30_Longest_c2 acc (j : Int) ps = some (acc + gsum gG (ps.drop j), 0)
  | 0, j, acc, e, h0, h1 => by
    have hl' : Int.ofNat ps.length = (ps.length : Int) := rfl
    rw [bitloftref30_Longest_c2_eq, hl', if_neg (by simp; omega), List.drop_eq_nil_of_le (by omega)]; simp [gsum]
  | k + 1, j, acc, e, h0, h1 => by
    have hl' : Int.ofNat ps.length = (ps.length : Int) := rfl
    obtain ⟨d1, d2, d3⟩ := dropR_at (pzero T_api_Piece : D_api_Piece) (xs := ps) (i := j) (by omega)
    have hv := hm _ d3
    rw [bitloftref30_Longest_c2_eq, hl', if_pos (by simp; omega), gd_pos (by omega), gd_pos (by omega), Int.toNat_natCast, Nat.zero_add, w64 (x := (j : Int) + 1) (by omega) (by omega), w64 (x := (41 : Int) + (ps.getD j (pzero T_api_Piece)).2.2.1) (by omega) (by omega), w64 (by omega) (by omega)]
    have ih := rLong_c2 ps hp hm k (j + 1) (acc + (41 + (ps.getD j (pzero T_api_Piece)).2.2.1)) (by omega) (by omega) (by omega)
    rw [show ((j + 1 : Nat) : Int) = (j : Int) + 1 by omega] at ih
    rw [ih, d1, gsum]
    simp only [gG]
    congr 2; omega
end Go.Ab

set_option linter.unusedVariables false
set_option linter.unusedSimpArgs false
set_option maxHeartbeats 1000000
namespace Go.Ab
attribute [local irreducible] IntKind.wrap
theorem rLong_c1 (a : D_api_Settings) (rs : List D_api_Record) (hs : 16 ≤ a.2.1 ∧ a.2.1 ≤ 4096) (hR : RecsV rs) : ∀ (k i : Nat) (acc : Int), i + k = rs.length → 0 ≤ acc → acc ≤ 1000 + 100 * i →
    bitloftref30_Longest_c1 rs acc (i : Int) a (szs (rs.take i)) = some (acc + hsum (rs.drop i) + gsum gG (ap a.2.1 0 rs), 0)
  | 0, i, acc, e, h0, h1 => by
    have hl' : Int.ofNat rs.length = (rs.length : Int) := rfl
    have hlen := hR.len
    rw [bitloftref30_Longest_c1_eq, hl', if_neg (by simp; omega), List.drop_eq_nil_of_le (by omega), List.take_of_length_le (by omega), ref29_Pieces_spec _ rs hs hR]
    simp only [Option.bind_some]
    have e2 := rLong_c2 (ap a.2.1 0 rs) (by have := ap_small a.2.1 hs.1 rs hR; omega) (ap_m a.2.1 (by omega) rs 0 hR.each) (ap a.2.1 0 rs).length 0 acc (by omega) h0 (by omega)
    refine Eq.trans e2 ?_
    simp [hsum]
  | k + 1, i, acc, e, h0, h1 => by
    have hlen := hR.len
    have hl' : Int.ofNat rs.length = (rs.length : Int) := rfl
    obtain ⟨d1, d2, d3⟩ := dropR_at (pzero T_api_Record : D_api_Record) (xs := rs) (i := i) (by omega)
    have hv := hR.each _ d3
    have hsz : Int.ofNat (rs.getD i (pzero T_api_Record)).1.size = ((rs.getD i (pzero T_api_Record)).1.size : Int) := rfl
    have hz : szs (List.take i rs) ++ [(List.getD rs i (pzero T_api_Record)).2.1] = szs (List.take (i + 1) rs) := by rw [d2]; simp [szs]
    rw [bitloftref30_Longest_c1_eq, hl', if_pos (by simp; omega), gd_pos (by omega), gd_pos (by omega), gd_pos (by omega), gd_pos (by omega), Int.toNat_natCast, hsz, hz, gd_pos (by rw [szs_len, List.length_take]; omega), w64 (x := (23 : Int) + ((rs.getD i (pzero T_api_Record)).1.size : Int)) (by omega) (by omega), w64 (x := (i : Int) + 1) (by omega) (by omega), w64 (by omega) (by omega)]
    have ih := rLong_c1 a rs hs hR k (i + 1) (acc + (23 + ((rs.getD i (pzero T_api_Record)).1.size : Int))) (by omega) (by omega) (by omega)
    rw [show ((i + 1 : Nat) : Int) = (i : Int) + 1 by omega] at ih
    rw [ih, d1, hsum]
    congr 2; omega
theorem rLongest_spec (a : D_api_Settings) (rs : List D_api_Record) (hR : RecsOK rs) : bitloftref30_Longest a rs = some (if ask a rs ≠ 0 then (0, ask a rs) else (lng gG a.2.1 rs, 0)) := by
  rw [bitloftref30_Longest_eq, ref30_Check_spec, ref28_Valid_spec rs hR]
  simp only [Option.bind_some]
  by_cases h : chk a = 0
  · rw [if_neg (by simp [h])]
    have ha : ask a rs = valid rs := by unfold ask; rw [if_neg (by simp [h])]
    by_cases hv : valid rs = 0
    · rw [if_neg (by simp [hv]), if_neg (by rw [ha]; simp [hv])]
      obtain ⟨h1, h2⟩ := ask_zero (ha.trans hv)
      exact rLong_c1 a rs h1 h2 rs.length 0 28 (by omega) (by omega) (by omega)
    · rw [if_pos (by simpa using hv), if_pos (by rw [ha]; exact hv), ha]
  · have ha : ask a rs = chk a := by unfold ask; rw [if_pos h]
    rw [if_pos (by simpa using h), if_pos (by rw [ha]; exact h), ha]
theorem sums_ok {rs : List D_api_Record} (h : wfP (.slice T_api_Record) rs) : SumsOK rs :=
  fun r hr => ⟨(h.2 r hr).2.2.1.1, Bts.of_wf (h.2 r hr).2.2.1.2⟩
theorem great_some (rs : List D_api_Record) : ∃ g, bitloftref28_GreatRecords rs = some g := by
  obtain ⟨g, hg, _⟩ := great_c1 rs rs.length 0 (by omega)
  exact ⟨g, by rw [bitloftref28_GreatRecords_eq]; exact hg⟩
theorem bitloftlaw30_PackHeads_true (x0 : pden T_api_Settings) (z0 : wfP T_api_Settings x0) (x1 : pden (.slice T_api_Record)) (z1 : wfP (.slice T_api_Record) x1) : bitloftlaw30_PackHeads x0 x1 = some true := by
  have hR : RecsOK x1 := recs_ok z1
  have hS : SumsOK x1 := sums_ok z1
  obtain ⟨g, hg⟩ := great_some x1
  rw [bitloftlaw30_PackHeads_eq, hg, pack_Head_spec x0 x1 hR hS, rHead_spec x0 x1 hR hS, pack_Longest_spec x0 x1 hR hS, rLongest_spec x0 x1 hR, pack_Check_spec, ref30_Check_spec]
  simp only [Option.bind_some, beq_self_eq_true, if_true]
  cases g <;> rfl
end Go.Ab

set_option linter.unusedVariables false
set_option linter.unusedSimpArgs false
set_option maxHeartbeats 1000000
namespace Go.Ab
attribute [local irreducible] IntKind.wrap
/-! ### 1. Costs in closed form -/
def cG (s n : Int) : Int := 41 * ((n + s - 1) / s) + n
def cL (s m : Int) : Int := if m ≤ 0 then 0 else 45 * ((m - 1) / s) + 41 + (if 4 < (m - 1) % s + 1 then 4 else (m - 1) % s + 1)
theorem gL_eq (m : Int) : gL m = if (4 : Int) < m then 4 else m := rfl
theorem pcs_gsumL (i n s : Int) (hs : 4 ≤ s) (k : Nat) : ∀ off : Int, n - off ≤ k → gsum gL (pcs i n s k off) = cL s (n - off) := by
  induction k with
  | zero => intro off h; simp only [pcs, gsum, cL]; rw [if_pos (by omega)]
  | succ k ih =>
    intro off h
    simp only [pcs]
    by_cases hc : off < n
    · rw [if_pos hc, gsum, ih (off + s) (by omega), gL_eq]
      by_cases h2 : off + s < n
      · have e1 : (n - off - 1) / s = (n - (off + s) - 1) / s + 1 := by
          have : n - off - 1 = (n - (off + s) - 1) + 1 * s := by omega
          rw [this, Int.add_mul_ediv_right _ _ (by omega)]
        have e2 : (n - off - 1) % s = (n - (off + s) - 1) % s := by
          have : n - off - 1 = (n - (off + s) - 1) + 1 * s := by omega
          rw [this, Int.add_mul_emod_self_right]
        have e3 : (if (4 : Int) < s then (4 : Int) else s) = 4 := by split <;> omega
        unfold cL
        rw [if_neg (show ¬ n - (off + s) ≤ 0 by omega), if_neg (show ¬ n - off ≤ 0 by omega), e1, e2, if_pos (show s < n - off by omega), e3]
        omega
      · have e1 : (n - off - 1) / s = 0 := Int.ediv_eq_zero_of_lt (by omega) (by omega)
        have e2 : (n - off - 1) % s = n - off - 1 := Int.emod_eq_of_lt (by omega) (by omega)
        have e3 : (if s < n - off then s else n - off) = n - off := by split <;> omega
        unfold cL
        rw [if_pos (show n - (off + s) ≤ 0 by omega), if_neg (show ¬ n - off ≤ 0 by omega), e1, e2]
        simp only [e3]
        split <;> split <;> omega
    · rw [if_neg hc]; simp only [gsum, cL]; rw [if_pos (by omega)]
/-- The cost of all records. -/
def csum (c : Int → Int) : List D_api_Record → Int
  | [] => 0
  | r :: rest => c r.2.1 + csum c rest
theorem ap_costG (s : Int) (hs : 16 ≤ s) : ∀ (rs : List D_api_Record) (i : Int), (∀ r ∈ rs, 0 ≤ r.2.1 ∧ r.2.1 ≤ 8192 ∧ r.1.size ≤ 40) → gsum gG (ap s i rs) = csum (cG s) rs
  | [], i, _ => rfl
  | r :: rest, i, h => by
    have h1 := h r (by simp)
    rw [ap, gsum_append, ap_costG s hs rest (i + 1) (fun q hq => h q (by simp [hq])), csum, pcs_gsum i r.2.1 s (by omega) 8200 0 (by omega) h1.1, pcs_ceil i r.2.1 s (by omega) 8200 0 (by omega) (by omega), cG]
    simp only [Int.sub_zero]
theorem ap_costL (s : Int) (hs : 16 ≤ s) : ∀ (rs : List D_api_Record) (i : Int), (∀ r ∈ rs, 0 ≤ r.2.1 ∧ r.2.1 ≤ 8192 ∧ r.1.size ≤ 40) → gsum gL (ap s i rs) = csum (cL s) rs
  | [], i, _ => rfl
  | r :: rest, i, h => by
    have h1 := h r (by simp)
    rw [ap, gsum_append, ap_costL s hs rest (i + 1) (fun q hq => h q (by simp [hq])), csum, pcs_gsumL i r.2.1 s (by omega) 8200 0 (by omega)]
    simp only [Int.sub_zero]
theorem ap_count (s : Int) (hs : 16 ≤ s) : ∀ (rs : List D_api_Record) (i : Int), (∀ r ∈ rs, 0 ≤ r.2.1 ∧ r.2.1 ≤ 8192 ∧ r.1.size ≤ 40) → ((ap s i rs).length : Int) = csum (fun n => (n + s - 1) / s) rs
  | [], i, _ => rfl
  | r :: rest, i, h => by
    have h1 := h r (by simp)
    rw [ap, List.length_append, csum, ← ap_count s hs rest (i + 1) (fun q hq => h q (by simp [hq]))]
    have := pcs_ceil i r.2.1 s (by omega) 8200 0 (by omega) (by omega)
    simp only [Int.sub_zero] at this
    omega
theorem csum_le {c d : Int → Int} : ∀ (rs : List D_api_Record), (∀ r ∈ rs, c r.2.1 ≤ d r.2.1) → csum c rs ≤ csum d rs
  | [], _ => Int.le_refl _
  | r :: rest, h => by
    have h1 := h r (by simp)
    have h2 := csum_le rest (fun q hq => h q (by simp [hq]))
    simp only [csum]; omega
/-! ### 2. Greater blocks, greater sizes -/
theorem ceil_anti {x y n : Int} (hx : 1 ≤ x) (h : x ≤ y) (hn : 0 ≤ n) : (n + y - 1) / y ≤ (n + x - 1) / x := by
  rw [Int.le_ediv_iff_mul_le (by omega)]
  have h0 : 0 ≤ (n + y - 1) / y := Int.ediv_nonneg (by omega) (by omega)
  have h1 : (n + y - 1) / y * y ≤ n + y - 1 := Int.ediv_mul_le _ (by omega)
  generalize (n + y - 1) / y = q at *
  by_cases hq : q = 0
  · subst hq; omega
  · have h2 : (q - 1) * x ≤ (q - 1) * y := Int.mul_le_mul_of_nonneg_left h (by omega)
    rw [Int.sub_mul, Int.sub_mul] at h2
    omega
theorem cG_anti {x y n : Int} (hx : 1 ≤ x) (h : x ≤ y) (hn : 0 ≤ n) : cG y n ≤ cG x n := by
  have := ceil_anti hx h hn
  unfold cG; omega
theorem cL_anti {x y m : Int} (hx : 4 ≤ x) (h : x ≤ y) : cL y m ≤ cL x m := by
  unfold cL
  by_cases hm : m ≤ 0
  · rw [if_pos hm, if_pos hm]; omega
  · rw [if_neg hm, if_neg hm]
    have a1 := Int.mul_ediv_add_emod (m - 1) x
    have a2 := Int.mul_ediv_add_emod (m - 1) y
    have b1 := Int.emod_nonneg (m - 1) (show x ≠ 0 by omega)
    have b2 := Int.emod_nonneg (m - 1) (show y ≠ 0 by omega)
    have c1 := Int.emod_lt_of_pos (m - 1) (show 0 < x by omega)
    have c2 := Int.emod_lt_of_pos (m - 1) (show 0 < y by omega)
    have d2 : 0 ≤ (m - 1) / y := Int.ediv_nonneg (by omega) (by omega)
    have d1 : (m - 1) / y ≤ (m - 1) / x := by
      rw [Int.le_ediv_iff_mul_le (by omega)]
      have := Int.mul_le_mul_of_nonneg_left h d2
      rw [Int.mul_comm y] at a2
      omega
    generalize (m - 1) / x = a at *
    generalize (m - 1) / y = b at *
    generalize (m - 1) % x = ra at *
    generalize (m - 1) % y = rb at *
    by_cases e : a = b
    · subst e
      have := Int.mul_le_mul_of_nonneg_right h d2
      split <;> split <;> omega
    · split <;> split <;> omega
theorem ceil_mono {s n n' : Int} (hs : 1 ≤ s) (h : n ≤ n') : (n + s - 1) / s ≤ (n' + s - 1) / s := Int.ediv_le_ediv (by omega) (by omega)
theorem cG_mono {s n n' : Int} (hs : 1 ≤ s) (h : n ≤ n') : cG s n + (n' - n) ≤ cG s n' := by
  have := ceil_mono hs h
  unfold cG; omega
theorem cL_mono {s n n' : Int} (hs : 4 ≤ s) (h : n ≤ n') : cL s n ≤ cL s n' := by
  unfold cL
  have b1 := Int.emod_nonneg (n - 1) (show s ≠ 0 by omega)
  have b2 := Int.emod_nonneg (n' - 1) (show s ≠ 0 by omega)
  have c1 := Int.emod_lt_of_pos (n - 1) (show 0 < s by omega)
  have c2 := Int.emod_lt_of_pos (n' - 1) (show 0 < s by omega)
  have a1 := Int.mul_ediv_add_emod (n - 1) s
  have a2 := Int.mul_ediv_add_emod (n' - 1) s
  have d1 : (n - 1) / s ≤ (n' - 1) / s := Int.ediv_le_ediv (by omega) (by omega)
  by_cases hm : n ≤ 0
  · rw [if_pos hm]
    by_cases hm' : n' ≤ 0
    · rw [if_pos hm']; omega
    · rw [if_neg hm']
      have : 0 ≤ (n' - 1) / s := Int.ediv_nonneg (by omega) (by omega)
      split <;> omega
  · rw [if_neg hm, if_neg (show ¬ n' ≤ 0 by omega)]
    generalize (n - 1) / s = a at *
    generalize (n' - 1) / s = b at *
    generalize (n - 1) % s = ra at *
    generalize (n' - 1) % s = rb at *
    by_cases e : a = b
    · subst e
      split <;> split <;> omega
    · split <;> split <;> omega
theorem cL_le_cG {s n : Int} (hs : 4 ≤ s) (hn : 0 ≤ n) : cL s n ≤ cG s n := by
  unfold cL cG
  by_cases hm : n ≤ 0
  · have : n = 0 := by omega
    subst this
    rw [if_pos (by omega)]
    have : 0 ≤ (0 + s - 1) / s := Int.ediv_nonneg (by omega) (by omega)
    omega
  · rw [if_neg hm]
    have e1 : (n + s - 1) / s = (n - 1) / s + 1 := by
      have : n + s - 1 = (n - 1) + 1 * s := by omega
      rw [this, Int.add_mul_ediv_right _ _ (by omega)]
    have a1 := Int.mul_ediv_add_emod (n - 1) s
    have b1 := Int.emod_nonneg (n - 1) (show s ≠ 0 by omega)
    have d1 : 0 ≤ (n - 1) / s := Int.ediv_nonneg (by omega) (by omega)
    have d2 : 4 * ((n - 1) / s) ≤ s * ((n - 1) / s) := Int.mul_le_mul_of_nonneg_right hs d1
    rw [e1]
    split <;> omega
/-! ### 3. One record -/
def recN (nm : ByteArray) (n : Int) : D_api_Record := (nm, (n, ((if n > 0 then List.replicate 20 (0 : Int) else shaB []), ())))
def FN (nm : ByteArray) (s n : Int) : Int := 51 + (nm.size : Int) + cG s n
theorem lng_recN (nm : ByteArray) (s n : Int) (hs : 16 ≤ s) (hn : 0 ≤ n ∧ n ≤ 8192) : lng gG s [recN nm n] = FN nm s n := by
  have e : ap s 0 [recN nm n] = pcs 0 n s 8200 0 := by simp only [ap, recN, List.append_nil]
  have h := pcs_gsum 0 n s (by omega) 8200 0 (by omega) hn.1
  have h' := pcs_ceil 0 n s (by omega) 8200 0 (by omega) (by omega)
  unfold lng
  rw [e, h, h']
  simp only [hsum, FN, cG, recN, Int.sub_zero]
  omega
theorem badR_recN (nm : ByteArray) (n : Int) (hn : 0 ≤ n ∧ n ≤ 8192) : badR (recN nm n) = !nmOK nm := by
  unfold badR recN
  have h1 : decide (n < 0) = false := decide_eq_false (by omega)
  have h2 : decide (n > 8192) = false := decide_eq_false (by omega)
  simp only [h1, h2, Bool.or_false]
  by_cases h : n = 0
  · subst h
    have : peq (.arr 20 (.int .u8)) (if (0 : Int) > 0 then List.replicate 20 (0 : Int) else shaB []) (shaB []) = true := by
      rw [if_neg (by omega)]
      exact peqL_refl _ (fun x => by simp [peq]) _
    rw [this]; simp
  · have : (n == 0) = false := by simpa using h
    rw [this]; simp
theorem valid_recN (nm : ByteArray) (n : Int) (hn : 0 ≤ n ∧ n ≤ 8192) : valid [recN nm n] = if nmOK nm then 0 else 8 := by
  have : (recN nm n).2.1 = n := rfl
  simp only [valid, vld, badR_recN nm n hn, List.length_cons, List.length_nil]
  rw [if_neg (by omega)]
  cases nmOK nm with
  | false => simp
  | true =>
    rw [this]
    simp only [Bool.not_true, Bool.false_eq_true, if_false, if_true, dupF, memB, List.nil_append, List.any_nil, Bool.or_false]
    rw [if_neg (by omega)]
theorem recsOK_recN (nm : ByteArray) (n : Int) (h : nm.size ≤ 9223372036854775807) : RecsOK [recN nm n] := by
  refine ⟨by simp, fun r hr => ?_⟩
  simp only [List.mem_singleton] at hr
  subst hr; exact h
theorem FN_mono {nm : ByteArray} {s n n' : Int} (hs : 1 ≤ s) (h : n ≤ n') : FN nm s n + (n' - n) ≤ FN nm s n' := by
  have := cG_mono hs h
  unfold FN; omega
/-- The greatest size for which there is room. -/
structure RoomIs (nm : ByteArray) (s most b : Int) : Prop where
  lo : -1 ≤ b
  hi : b ≤ 8192
  fits : 0 ≤ b → FN nm s b ≤ most
  not : b < 8192 → most < FN nm s (b + 1)
theorem RoomIs.uniq {nm : ByteArray} {s most b b' : Int} (hs : 1 ≤ s) (h : RoomIs nm s most b) (h' : RoomIs nm s most b') : b = b' := by
  obtain ⟨h1, h2, h3, h4⟩ := h
  obtain ⟨k1, k2, k3, k4⟩ := h'
  by_cases c : b < b'
  · have := FN_mono (nm := nm) hs (show b + 1 ≤ b' by omega)
    have := h4 (by omega); have := k3 (by omega); omega
  · by_cases c : b' < b
    · have := FN_mono (nm := nm) hs (show b' + 1 ≤ b by omega)
      have := k4 (by omega); have := h3 (by omega); omega
    · omega
def roomOut (b : Int) : Int × Int := if b < 0 then (0, 6) else (b, 0)
end Go.Ab

set_option linter.unusedVariables false
set_option linter.unusedSimpArgs false
set_option maxHeartbeats 1000000
namespace Go.Ab
attribute [local irreducible] IntKind.wrap
/-! ### 4. Room -/
theorem chk_zero {a : D_api_Settings} (h : chk a = 0) : 0 ≤ a.1 ∧ a.1 ≤ 7 ∧ 16 ≤ a.2.1 ∧ a.2.1 ≤ 4096 := by
  unfold chk at h
  split at h
  · assumption
  · omega
theorem nmOK_size {nm : ByteArray} (h : nmOK nm = true) : 1 ≤ nm.size ∧ nm.size ≤ 40 := by
  simp only [nmOK, Bool.and_eq_true, decide_eq_true_eq] at h
  exact ⟨h.1.2, h.2⟩
theorem named_spec (nm : ByteArray) (n : Int) : bound_named nm n = some ([recN nm n], 0) := by
  rw [bound_named_eq]
  by_cases h : n > 0
  · rw [if_pos (by simpa using h)]; simp only [recN, if_pos h]
  · rw [if_neg (by simpa using h), Sum_spec [] Bts.nil, if_pos (by simp)]; simp only [Option.bind_some, recN, if_neg h]
theorem rNamed_spec (nm : ByteArray) (n : Int) (hn : 0 ≤ n) : bitloftref36_Named nm n = some (recN nm n) := by
  rw [bitloftref36_Named_eq]
  by_cases h : n = 0
  · rw [if_pos (by simpa using h), Of_nil]; simp only [Option.bind_some, recN]; rw [if_neg (by omega)]
  · rw [if_neg (by simpa using h)]; simp only [recN]; rw [if_pos (by omega)]
theorem recsV_recN {nm : ByteArray} {n : Int} (h : nm.size ≤ 40) (hn : 0 ≤ n ∧ n ≤ 8192) : RecsV [recN nm n] := by
  refine ⟨by simp, fun r hr => ?_, ?_⟩
  · simp only [List.mem_singleton] at hr; subst hr; exact ⟨hn.1, hn.2, h⟩
  · show n + 0 ≤ 8192; omega
theorem Greatest_recN (a : D_api_Settings) (nm : ByteArray) (n : Int) (hc : chk a = 0) (hs : nm.size ≤ 9223372036854775807) (hn : 0 ≤ n ∧ n ≤ 8192) :
    bound_Greatest a [recN nm n] = some (if nmOK nm then (FN nm a.2.1 n, 0) else (0, 8)) := by
  have h16 := chk_zero hc
  rw [Greatest_spec a _ (recsOK_recN nm n hs)]
  have ha : ask a [recN nm n] = if nmOK nm then 0 else 8 := by
    unfold ask; rw [if_neg (by simp [hc]), valid_recN nm n hn]
  rw [ha]
  cases nmOK nm with
  | true => rw [if_neg (by simp), lng_recN nm _ n (by omega) hn]; rfl
  | false => rfl
theorem Room_c1 (a : D_api_Settings) (nm : ByteArray) (most : Int) (hc : chk a = 0) (hnm : nmOK nm = true) : ∀ (k : Nat) (low high : Int), high - low ≤ k → -1 ≤ low → low < high → high ≤ 8193 → (0 ≤ low → FN nm a.2.1 low ≤ most) → (high ≤ 8192 → most < FN nm a.2.1 high) →
    ∃ b, RoomIs nm a.2.1 most b ∧ bound_Room_c1 nm most low high a = some (roomOut b)
  | 0, low, high, h1, h2, h3, h4, h5, h6 => by omega
  | k + 1, low, high, h1, h2, h3, h4, h5, h6 => by
    have h16 := chk_zero hc
    have hsz := nmOK_size hnm
    rw [bound_Room_c1_eq, w64 (x := low + 1) (by omega) (by omega)]
    by_cases hlt : low + 1 < high
    · have et : Int.tdiv (low + high) 2 = (low + high) / 2 := tdiv_nn (by omega)
      rw [if_pos (by simpa using hlt), gd_pos (by decide), w64 (x := low + high) (by omega) (by omega), et, w64 (x := (low + high) / 2) (by omega) (by omega), named_spec]
      simp only [Option.bind_some]
      rw [if_neg (by simp), Greatest_recN a nm _ hc (by omega) ⟨by omega, by omega⟩, if_pos hnm]
      simp only [Option.bind_some]
      rw [if_neg (by simp)]
      by_cases hle : FN nm a.2.1 ((low + high) / 2) ≤ most
      · rw [if_pos (by simpa using hle)]
        exact Room_c1 a nm most hc hnm k _ _ (by omega) (by omega) (by omega) (by omega) (fun _ => hle) h6
      · rw [if_neg (by simpa using hle)]
        exact Room_c1 a nm most hc hnm k _ _ (by omega) (by omega) (by omega) (by omega) h5 (fun _ => by omega)
    · rw [if_neg (by simpa using hlt)]
      refine ⟨low, ⟨h2, by omega, h5, fun hb => ?_⟩, ?_⟩
      · have : low + 1 = high := by omega
        rw [this]; exact h6 (by omega)
      · unfold roomOut
        by_cases hl : low < 0
        · rw [if_pos (by simpa using hl), if_pos hl]
        · rw [if_neg (by simpa using hl), if_neg hl]
theorem Room_spec (a : D_api_Settings) (nm : ByteArray) (most : Int) (hs : nm.size ≤ 9223372036854775807) :
    bound_Room a nm most = some (0, chk a) ∧ chk a ≠ 0 ∨ chk a = 0 ∧ nmOK nm = false ∧ bound_Room a nm most = some (0, 8) ∨ chk a = 0 ∧ nmOK nm = true ∧ ∃ b, RoomIs nm a.2.1 most b ∧ bound_Room a nm most = some (roomOut b) := by
  rw [bound_Room_eq, pack_Check_spec]
  simp only [Option.bind_some]
  by_cases hc : chk a = 0
  · rw [if_neg (by simp [hc])]
    cases hnm : nmOK nm with
    | false =>
      refine .inr (.inl ⟨hc, rfl, ?_⟩)
      rw [bound_Room_c1_eq, w64 (x := (-1 : Int) + 1) (by omega) (by omega), if_pos (by decide), gd_pos (by decide), w64 (x := (-1 : Int) + 8193) (by omega) (by omega), show Int.tdiv (-1 + 8193) 2 = 4096 from rfl, w64 (by omega) (by omega), named_spec]
      simp only [Option.bind_some]
      rw [if_neg (by simp), Greatest_recN a nm _ hc hs ⟨by omega, by omega⟩, hnm]
      rfl
    | true => exact .inr (.inr ⟨hc, rfl, Room_c1 a nm most hc hnm 9000 (-1) 8193 (by omega) (by omega) (by omega) (by omega) (fun h => by omega) (fun h => by omega)⟩)
  · rw [if_pos (by simpa using hc)]
    exact .inl ⟨rfl, hc⟩
theorem Room_val {a : D_api_Settings} {nm : ByteArray} {most b : Int} (hc : chk a = 0) (hnm : nmOK nm = true) (h : RoomIs nm a.2.1 most b) : bound_Room a nm most = some (roomOut b) := by
  have h16 := chk_zero hc
  have hsz := nmOK_size hnm
  rcases Room_spec a nm most (by omega) with ⟨_, h1⟩ | ⟨_, h1, _⟩ | ⟨_, _, b', h1, h2⟩
  · exact absurd hc h1
  · rw [hnm] at h1; cases h1
  · rw [h2, h1.uniq (by omega) h]
/-! ### 5. The reference's room -/
theorem rRoom_c1 (a : D_api_Settings) (nm : ByteArray) (most : Int) (hc : chk a = 0) (hnm : nmOK nm = true) : ∀ (k : Nat) (size : Int), 8193 - size ≤ k → 0 ≤ size → size ≤ 8193 → (1 ≤ size → FN nm a.2.1 (size - 1) ≤ most) →
    ∃ b, RoomIs nm a.2.1 most b ∧ bitloftref36_Room_c1 nm most (size - 1) size a = some (roomOut b)
  | 0, size, h1, h2, h3, h4 => by
    have : size = 8193 := by omega
    subst this
    rw [bitloftref36_Room_c1_eq, if_neg (by decide)]
    refine ⟨8193 - 1, ⟨by omega, by omega, fun _ => h4 (by omega), fun h => by omega⟩, ?_⟩
    rw [if_neg (by decide)]; rfl
  | k + 1, size, h1, h2, h3, h4 => by
    have h16 := chk_zero hc
    have hsz := nmOK_size hnm
    have fin : (size ≤ 8192 → most < FN nm a.2.1 size) → ∃ b, RoomIs nm a.2.1 most b ∧ (if decide (size - 1 < 0) = true then some (0, 6) else some (size - 1, 0)) = some (roomOut b) := fun h => by
      refine ⟨size - 1, ⟨by omega, by omega, fun _ => h4 (by omega), fun hb => ?_⟩, ?_⟩
      · rw [show size - 1 + 1 = size by omega]; exact h (by omega)
      · unfold roomOut
        by_cases hl : size - 1 < 0
        · rw [if_pos (by simpa using hl), if_pos hl]
        · rw [if_neg (by simpa using hl), if_neg hl]
    rw [bitloftref36_Room_c1_eq]
    by_cases hlt : size ≤ 8192
    · rw [if_pos (by simpa using hlt), rNamed_spec nm size h2]
      simp only [Option.bind_some]
      rw [rlen_spec a _ false ⟨h16.2.2.1, h16.2.2.2⟩ (recsV_recN hsz.2 ⟨h2, hlt⟩)]
      simp only [Option.bind_some]
      rw [show gOf false = gG from rfl, lng_recN nm _ size (by omega) ⟨h2, hlt⟩]
      by_cases hle : FN nm a.2.1 size ≤ most
      · rw [if_pos (by simpa using hle), w64 (by omega) (by omega)]
        have := rRoom_c1 a nm most hc hnm k (size + 1) (by omega) (by omega) (by omega) (fun _ => by rw [show size + 1 - 1 = size by omega]; exact hle)
        rw [show size + 1 - 1 = size by omega] at this
        exact this
      · rw [if_neg (by simpa using hle)]
        exact fin (fun _ => by omega)
    · rw [if_neg (by simpa using hlt)]
      exact fin (fun h => absurd h hlt)
theorem rooms_eq (a : D_api_Settings) (nm : ByteArray) (most : Int) (hs : nm.size ≤ 9223372036854775807) : ∃ r, bound_Room a nm most = some r ∧ bitloftref36_Room a nm most = some r := by
  rw [bitloftref36_Room_eq, ref30_Check_spec, rNamed_spec nm 0 (by omega)]
  simp only [Option.bind_some]
  rw [ref28_Valid_spec _ (recsOK_recN nm 0 hs), valid_recN nm 0 ⟨by omega, by omega⟩]
  simp only [Option.bind_some]
  rcases Room_spec a nm most hs with ⟨h1, h2⟩ | ⟨h1, h2, h3⟩ | ⟨h1, h2, b, h3, h4⟩
  · exact ⟨_, h1, by rw [if_pos (by simpa using h2)]⟩
  · refine ⟨_, h3, ?_⟩
    rw [if_neg (by simp [h1]), h2]; rfl
  · have h16 := chk_zero h1
    refine ⟨_, h4, ?_⟩
    rw [if_neg (by simp [h1]), h2, if_neg (by simp)]
    obtain ⟨b', k1, k2⟩ := rRoom_c1 a nm most h1 h2 9000 0 (by omega) (by omega) (by omega) (fun h => by omega)
    rw [show (0 : Int) - 1 = -1 by omega] at k2
    rw [k2, h3.uniq (by omega) k1]
/-! ### 6. The chapter's examples -/
def nA : ByteArray := ByteArray.mk #[97]
def nAB : ByteArray := ByteArray.mk #[97, 98]
def sB (n : Int) : D_api_Settings := (0, (n, ()))
theorem nA_ok : nmOK nA = true := by decide +kernel
theorem nAB_ok : nmOK nAB = true := by decide +kernel
theorem both_recN (a : D_api_Settings) (nm : ByteArray) (n x y : Int) (hc : chk a = 0) (hnm : nmOK nm = true) (hn : 0 ≤ n ∧ n ≤ 8192) (hx : lng gL a.2.1 [recN nm n] = x) (hy : FN nm a.2.1 n = y) : bitloftlaw36_both a (recN nm n) x y = some true := by
  have hsz := nmOK_size hnm
  have ha : ask a [recN nm n] = 0 := by
    unfold ask; rw [if_neg (by simp [hc]), valid_recN nm n hn, hnm]; rfl
  rw [bitloftlaw36_both_eq, Least_spec a _ (recsOK_recN nm n (by omega)), Greatest_recN a nm n hc (by omega) hn, ha, if_neg (by simp), if_pos hnm]
  simp only [Option.bind_some]
  rw [hx, hy]; simp
theorem room_val {a : D_api_Settings} {nm : ByteArray} {most b : Int} (hc : chk a = 0) (hnm : nmOK nm = true) (hb : 0 ≤ b) (h : RoomIs nm a.2.1 most b) : bitloftlaw36_room a nm most b = some true := by
  rw [bitloftlaw36_room_eq, Room_val hc hnm h, roomOut, if_neg (by omega)]
  simp
theorem lngL_recN (nm : ByteArray) (s n : Int) (hs : 16 ≤ s) (hn : 0 ≤ n ∧ n ≤ 8192) : lng gL s [recN nm n] = 51 + (nm.size : Int) + cL s n := by
  have e : ap s 0 [recN nm n] = pcs 0 n s 8200 0 := by simp only [ap, recN, List.append_nil]
  have h := pcs_gsumL 0 n s (by omega) 8200 0 (by omega)
  unfold lng
  rw [e, h]
  simp only [hsum, recN, Int.sub_zero]
  omega
theorem alive36 : bitloftlaw36_alive = some true := by
  have hc : chk (sB 16) = 0 := by decide
  have c1 : bound_Count (sB 16) [recN nA 40] = some (3, 0) := by
    have hsz := nmOK_size nA_ok
    have ha : ask (sB 16) [recN nA 40] = 0 := by
      unfold ask; rw [if_neg (by simp [hc]), valid_recN nA 40 ⟨by omega, by omega⟩, nA_ok]; rfl
    rw [bound_Count_eq, bound_pieces_spec _ _ (recsOK_recN nA 40 (by omega)), ha, if_neg (by simp)]
    simp only [Option.bind_some]
    have := ap_count 16 (by omega) [recN nA 40] 0 (recsV_recN (by omega) ⟨by omega, by omega⟩).each
    rw [show Int.ofNat (ap (sB 16).2.1 0 [recN nA 40]).length = csum (fun n => (n + 16 - 1) / 16) [recN nA 40] from this]
    rfl
  have c2 : bound_Room (sB 16) nA 51 = some (0, 6) := Room_val (b := -1) hc nA_ok ⟨by decide, by decide, fun h => by omega, fun _ => by decide +kernel⟩
  have c3 : bitloftlaw36_both (sB 16) (recN nA 40) 187 215 = some true := both_recN _ _ _ _ _ hc nA_ok ⟨by omega, by omega⟩ (by rw [lngL_recN _ _ _ (by decide) ⟨by omega, by omega⟩]; decide +kernel) (by decide +kernel)
  have c4 : bitloftlaw36_room (sB 16) nA 215 40 = some true := room_val hc nA_ok (by decide) ⟨by decide, by decide, fun _ => by decide +kernel, fun _ => by decide +kernel⟩
  have c5 : bitloftlaw36_room (sB 16) nAB 215 39 = some true := room_val hc nAB_ok (by decide) ⟨by decide, by decide, fun _ => by decide +kernel, fun _ => by decide +kernel⟩
  have c6 : bitloftlaw36_room (sB 16) nA 52 0 = some true := room_val hc nA_ok (by decide) ⟨by decide, by decide, fun _ => by decide +kernel, fun _ => by decide +kernel⟩
  have e1 : (ByteArray.mk #[97], ((40 : Int), (List.replicate 20 (0 : Int), ()))) = recN nA 40 := rfl
  have e2 : ((0 : Int), ((16 : Int), ())) = sB 16 := rfl
  have e3 : ByteArray.mk #[97] = nA := rfl
  have e4 : ByteArray.mk #[97, 98] = nAB := rfl
  rw [bitloftlaw36_alive_eq, e1, e2, e3, e4, c1, c2]
  simp only [Option.bind_some]
  rw [c3, c4, c5, c6]
  rfl
theorem bitloftlaw36_BoundBack_true (x0 : pden T_api_Settings) (z0 : wfP T_api_Settings x0) (x1 : pden .str) (z1 : wfP .str x1) (x2 : pden (.int .i64)) (z2 : wfP (.int .i64) x2) : bitloftlaw36_BoundBack x0 x1 x2 = some true := by
  have hs : (x1 : ByteArray).size ≤ 9223372036854775807 := by have := z1; simp [wfP, Go.maxLen] at this; omega
  rw [bitloftlaw36_BoundBack_eq, alive36, ref30_Check_spec]
  simp only [Option.bind_some]
  by_cases hc : chk x0 = 0
  · rw [if_neg (by simp [hc]), ref28_Name_spec _ hs]
    simp only [Option.bind_some]
    cases hnm : nmOK x1 with
    | false => rfl
    | true =>
      have h16 := chk_zero hc
      rw [if_neg (by simp), if_neg (by simp)]
      rcases Room_spec x0 x1 x2 hs with ⟨h1, h2⟩ | ⟨h1, h2, h3⟩ | ⟨h1, h2, b, h3, h4⟩
      · exact absurd hc h2
      · rw [hnm] at h2; cases h2
      · obtain ⟨k1, k2, k3, k4⟩ := h3
        rw [h4]
        simp only [Option.bind_some, roomOut]
        by_cases hb : b < 0
        · have : b = -1 := by omega
          subst this
          rw [if_pos hb, if_pos (by decide), rNamed_spec x1 0 (by omega)]
          simp only [Option.bind_some]
          rw [Greatest_recN x0 x1 0 hc hs ⟨by omega, by omega⟩, if_pos hnm]
          have := k4 (by omega)
          simpa using this
        · rw [if_neg hb, if_neg (by simp), if_neg (by simpa using hb), if_neg (by simp; omega), rNamed_spec x1 b (by omega)]
          simp only [Option.bind_some]
          rw [Greatest_recN x0 x1 b hc hs ⟨by omega, by omega⟩, if_pos hnm]
          simp only [Option.bind_some]
          have := k3 (by omega)
          rw [if_neg (by simp), if_neg (by simp; omega)]
          by_cases h8 : b = 8192
          · rw [if_pos (by simpa using h8)]
          · rw [if_neg (by simpa using h8), w64 (by omega) (by omega), rNamed_spec x1 (b + 1) (by omega)]
            simp only [Option.bind_some]
            rw [Greatest_recN x0 x1 (b + 1) hc hs ⟨by omega, by omega⟩, if_pos hnm]
            have := k4 (by omega)
            simpa using this
  · rw [if_pos (by simpa using hc)]
end Go.Ab

set_option linter.unusedVariables false
set_option linter.unusedSimpArgs false
set_option maxHeartbeats 1000000
namespace Go.Ab
attribute [local irreducible] IntKind.wrap
/-! ### 7. Growth -/
theorem Count_val (a : D_api_Settings) (rs : List D_api_Record) (hR : RecsOK rs) (ha : ask a rs = 0) : bound_Count a rs = some (((ap a.2.1 0 rs).length : Int), 0) := by
  rw [bound_Count_eq, bound_pieces_spec a rs hR, ha, if_neg (by simp)]; rfl
theorem lng_G (s : Int) (hs : 16 ≤ s) (rs : List D_api_Record) (hV : RecsV rs) : lng gG s rs = 28 + hsum rs + csum (cG s) rs := by
  unfold lng; rw [ap_costG s hs rs 0 hV.each]
theorem lng_L (s : Int) (hs : 16 ≤ s) (rs : List D_api_Record) (hV : RecsV rs) : lng gL s rs = 28 + hsum rs + csum (cL s) rs := by
  unfold lng; rw [ap_costL s hs rs 0 hV.each]
theorem Grows_c1 (v0 : Int) (rs : List D_api_Record) (hV : RecsV rs) (v3 : Int) (v9 : Bool) (v12 v13 v14 v15 v16 v17 v18 v19 v20 v21 v22 v23 : Int) (b8 : D_api_Settings) : ∀ (k i : Nat), i + k = rs.length →
    bitloftlaw36_BoundGrows_c1 v0 rs v3 v9 v12 v13 v14 v15 v16 v17 v18 v19 v20 v21 v22 v23 (i : Int) b8 (szs (rs.take i)) = bitloftlaw36_BoundGrows_c1 v0 rs v3 v9 v12 v13 v14 v15 v16 v17 v18 v19 v20 v21 v22 v23 (rs.length : Int) b8 (szs rs)
  | 0, i, e => by
    have : i = rs.length := by omega
    subst this
    rw [List.take_of_length_le (by omega)]
  | k + 1, i, e => by
    have hlen := hV.len
    have hl' : Int.ofNat rs.length = (rs.length : Int) := rfl
    obtain ⟨d1, d2, d3⟩ := dropR_at (pzero T_api_Record : D_api_Record) (xs := rs) (i := i) (by omega)
    have hz : szs (List.take i rs) ++ [(List.getD rs i (pzero T_api_Record)).2.1] = szs (List.take (i + 1) rs) := by rw [d2]; simp [szs]
    have ih := Grows_c1 v0 rs hV v3 v9 v12 v13 v14 v15 v16 v17 v18 v19 v20 v21 v22 v23 b8 k (i + 1) (by omega)
    rw [show ((i + 1 : Nat) : Int) = (i : Int) + 1 by omega] at ih
    rw [← ih, bitloftlaw36_BoundGrows_c1_eq, if_pos (by simp; omega), gd_pos (by omega), gd_pos (by rw [hl']; omega), Int.toNat_natCast, hz, gd_pos (by rw [szs_len, List.length_take]; omega), w64 (by omega) (by omega)]
theorem ask_sB {x : Int} {rs : List D_api_Record} (hc : chk (0, (x, ())) = 0) (hv : valid rs = 0) : ask (0, (x, ())) rs = 0 := by
  unfold ask; rw [if_neg (by simp [hc]), hv]
theorem BoundGrows_core (x0 x1 : Int) (x2 : List D_api_Record) (hR : RecsOK x2) (x3 : Int) : bitloftlaw36_BoundGrows x0 x1 x2 x3 = some true := by
  obtain ⟨g, hg⟩ := great_some x2
  rw [bitloftlaw36_BoundGrows_eq, alive36, hg, ref30_Check_spec, ref30_Check_spec, ref28_Valid_spec x2 hR]
  simp only [Option.bind_some]
  cases g with
  | true => rfl
  | false =>
    rw [if_neg (by simp)]
    by_cases hc : chk (0, (x0, ())) = 0
    · rw [if_neg (by simp [hc])]
      by_cases hd : chk (0, (x1, ())) = 0
      · rw [if_neg (by simp [hd])]
        by_cases hxy : x0 > x1
        · rw [if_pos (by simpa using hxy)]
        · rw [if_neg (by simpa using hxy)]
          by_cases hv : valid x2 = 0
          · rw [if_neg (by simp [hv]), if_neg (by simp)]
            obtain ⟨_, _, c1, c2⟩ := chk_zero hc
            obtain ⟨_, _, d1, d2⟩ := chk_zero hd
            simp only at c1 c2 d1 d2
            have hV := valid_zero hv
            have hlen := hV.len
            have a0 := ask_sB hc hv
            have a1 := ask_sB hd hv
            rw [Count_val _ _ hR a0, Count_val _ _ hR a1, Greatest_spec _ _ hR, Greatest_spec _ _ hR, Least_spec _ _ hR, Least_spec _ _ hR, a0, a1, if_neg (by simp)]
            simp only [Option.bind_some]
            have hl' : Int.ofNat x2.length = (x2.length : Int) := rfl
            rw [if_neg (show ¬ (0 : Int) ≠ 0 by simp), if_neg (show ¬ (0 : Int) ≠ 0 by simp), if_neg (show ¬ (0 : Int) ≠ 0 by simp)]
            have e1 := Grows_c1 x0 x2 hV x3 true ((ap x0 0 x2).length : Int) 0 ((ap x1 0 x2).length : Int) 0 (lng gG x0 x2) 0 (lng gG x1 x2) 0 (lng gL x0 x2) 0 (lng gL x1 x2) 0 (0, (x0, ())) x2.length 0 (by omega)
            refine Eq.trans e1 ?_
            have hEach := hV.each
            rw [bitloftlaw36_BoundGrows_c1_eq, if_neg (by simp), Pieces_spec x0 x2 ⟨c1, c2⟩ hV]
            simp only [Option.bind_some]
            have n1 : csum (fun n => (n + x1 - 1) / x1) x2 ≤ csum (fun n => (n + x0 - 1) / x0) x2 := csum_le _ (fun r hr => ceil_anti (by omega) (by omega) (hEach r hr).1)
            have n2 : csum (cG x1) x2 ≤ csum (cG x0) x2 := csum_le _ (fun r hr => cG_anti (by omega) (by omega) (hEach r hr).1)
            have n3 : csum (cL x1) x2 ≤ csum (cL x0) x2 := csum_le _ (fun r hr => cL_anti (by omega) (by omega))
            have n4 : csum (cL x0) x2 ≤ csum (cG x0) x2 := csum_le _ (fun r hr => cL_le_cG (by omega) (hEach r hr).1)
            have p1 := ap_count x0 c1 x2 0 hEach
            have p2 := ap_count x1 d1 x2 0 hEach
            have l1 := lng_G x0 c1 x2 hV
            have l2 := lng_G x1 d1 x2 hV
            have l3 := lng_L x0 c1 x2 hV
            have l4 := lng_L x1 d1 x2 hV
            have hl2 : Int.ofNat (ap x0 0 x2).length = ((ap x0 0 x2).length : Int) := rfl
            rw [if_neg (by simp), if_neg (by simp), if_neg (by simp), if_neg (by simp), if_neg (by simp), if_neg (by simp), if_neg (by simp), if_neg (by simp only [decide_eq_true_eq]; omega), if_neg (by simp only [decide_eq_true_eq]; omega), if_neg (by simp only [decide_eq_true_eq]; omega), if_neg (by simp), if_neg (by simp only [decide_eq_true_eq]; omega), hl']
            cases hx : (x2 : List D_api_Record) with
            | nil => rfl
            | cons r rest =>
              rw [hx] at hV hR hlen hEach hv l1 l3
              have hr := hEach r (by simp)
              rw [if_neg (by simp [Int.ofNat]; omega), gd_pos (by omega), gd_pos (by simp; try omega)]
              simp only [List.getD_cons_zero, List.nil_append, List.set_cons_zero]
              by_cases h1 : x3 < r.2.1
              · rw [if_pos (by simpa using h1)]
              · rw [if_neg (by simpa using h1)]
                by_cases h2 : x3 > 8192
                · rw [if_pos (by simpa using h2)]
                · rw [if_neg (by simpa using h2), gd_pos (by simp only [List.length_cons] at hlen ⊢; omega), gd_pos (by omega), gd_pos (by simp; try omega)]
                  have hR2 : RecsOK ((r.1, (x3, r.2.2)) :: rest) := ⟨by have := hR.1; simpa using this, fun q hq => by
                    rcases List.mem_cons.1 hq with rfl | hq
                    · exact hR.2 r (by simp)
                    · exact hR.2 q (by simp [hq])⟩
                  rw [ref28_Valid_spec _ hR2]
                  simp only [Option.bind_some]
                  by_cases hv2 : valid ((r.1, (x3, r.2.2)) :: rest) = 0
                  · have hV2 := valid_zero hv2
                    have b0 := ask_sB hc hv2
                    rw [if_neg (by simp [hv2]), Greatest_spec _ _ hR2, Least_spec _ _ hR2, b0, if_neg (by simp)]
                    simp only [Option.bind_some]
                    rw [if_neg (show ¬ (0 : Int) ≠ 0 by simp)]
                    have m1 := lng_G x0 c1 _ hV2
                    have m2 := lng_L x0 c1 _ hV2
                    have q1 := cG_mono (s := x0) (n := r.2.1) (n' := x3) (by omega) (by omega)
                    have q2 := cL_mono (s := x0) (n := r.2.1) (n' := x3) (by omega) (by omega)
                    simp only [hsum, csum] at l1 l3 m1 m2
                    rw [if_pos trivial, if_pos (by simp), if_pos (by simp only [decide_eq_true_eq]; omega), if_pos (by simp)]
                    simp only [Option.some.injEq, decide_eq_true_eq]
                    omega
                  · rw [if_pos (by simpa using hv2)]
          · rw [if_pos (by simpa using hv)]
      · rw [if_pos (by simpa using hd)]
    · rw [if_pos (by simpa using hc)]
theorem bitloftlaw36_BoundGrows_true (x0 : pden (.int .i64)) (z0 : wfP (.int .i64) x0) (x1 : pden (.int .i64)) (z1 : wfP (.int .i64) x1) (x2 : pden (.slice T_api_Record)) (z2 : wfP (.slice T_api_Record) x2) (x3 : pden (.int .i64)) (z3 : wfP (.int .i64) x3) :
    bitloftlaw36_BoundGrows x0 x1 x2 x3 = some true := BoundGrows_core x0 x1 x2 (recs_ok z2) x3
end Go.Ab

set_option linter.unusedVariables false
set_option linter.unusedSimpArgs false
set_option maxHeartbeats 1000000
namespace Go.Ab
attribute [local irreducible] IntKind.wrap
/-- A header is right. -/
def hOK (h : D_api_BlockHead) : Prop := 0 ≤ h.2.1 ∧ h.2.1 < 16 ∧ 1 ≤ h.2.2.2.1 ∧ h.2.2.2.1 ≤ 4096 ∧ 0 ≤ h.2.2.1 ∧ h.2.2.1 + h.2.2.2.1 ≤ 8192 ∧ ((h.1 = 1 ∧ h.2.2.2.2.1 = h.2.2.2.1) ∨ (h.1 = 2 ∧ 0 < h.2.2.2.2.1 ∧ h.2.2.2.2.1 < h.2.2.2.1))
instance (h : D_api_BlockHead) : Decidable (hOK h) := by unfold hOK; infer_instance
def hC (h : D_api_BlockHead) : Int := if hOK h then 0 else 8
theorem header_Check_spec (h : D_api_BlockHead) : header_Check h = some (hC h) := by
  rw [header_Check_eq]
  obtain ⟨m, mem, off, raw, len, sum, u⟩ := h
  simp only [hC, decide_eq_true_eq, beq_iff_eq]
  by_cases hr : 1 ≤ raw ∧ raw ≤ 4096
  · rw [w64 (by omega) (by omega)]
    by_cases ok : hOK (m, mem, off, raw, len, sum, u)
    · rw [if_pos ok]; simp only [hOK] at ok
      rw [if_neg (by omega), if_neg (by omega), if_neg (by omega), if_neg (by omega), if_neg (by omega), if_neg (by omega)]
      rcases ok.2.2.2.2.2.2 with ⟨h1, h2⟩ | ⟨h1, h2, h3⟩
      · rw [if_pos h1, if_pos h2, if_pos h2]
      · rw [if_neg (by omega), if_pos h1, if_pos h2, if_pos h3]
    · rw [if_neg ok]; simp only [hOK] at ok
      by_cases h1 : mem < 0
      · rw [if_pos h1]
      by_cases h2 : mem ≥ 16
      · rw [if_neg h1, if_pos h2, if_pos h2]
      by_cases h3 : off < 0
      · rw [if_neg h1, if_neg h2, if_neg (by omega), if_neg (by omega), if_pos h3]
      by_cases h4 : off > 8192 - raw
      · rw [if_neg h1, if_neg h2, if_neg (by omega), if_neg (by omega), if_neg h3, if_pos h4]
      rw [if_neg h1, if_neg h2, if_neg (by omega), if_neg (by omega), if_neg h3, if_neg h4]
      by_cases h5 : m = 1
      · rw [if_pos h5, if_neg (by omega), if_neg (by omega)]
      by_cases h6 : m = 2
      · rw [if_neg h5, if_pos h6]
        by_cases h7 : len > 0
        · rw [if_pos h7, if_neg (by omega)]
        · rw [if_neg h7]
      · rw [if_neg h5, if_neg h6]
  · rw [if_neg (show ¬ hOK (m, mem, off, raw, len, sum, u) from fun ok => hr (by simp only [hOK] at ok; omega))]
    by_cases h1 : mem < 0
    · rw [if_pos h1]
    by_cases h2 : mem ≥ 16
    · rw [if_neg h1, if_pos h2, if_pos h2]
    by_cases h3 : raw < 1
    · rw [if_neg h1, if_neg h2, if_pos h3]
    · rw [if_neg h1, if_neg h2, if_neg h3, if_pos (by omega), if_pos (by omega)]
theorem ref26_Check_spec (h : D_api_BlockHead) : bitloftref26_Check h = some (hC h) := by
  rw [bitloftref26_Check_eq]
  obtain ⟨m, mem, off, raw, len, sum, u⟩ := h
  simp only [hC, decide_eq_true_eq, beq_iff_eq, Bool.not_eq_true', decide_eq_false_iff_not, beq_eq_false_iff_ne]
  by_cases hr : 1 ≤ raw ∧ raw ≤ 4096
  · rw [w64 (by omega) (by omega)]
    by_cases ok : hOK (m, mem, off, raw, len, sum, u)
    · rw [if_pos ok]; simp only [hOK] at ok
      rw [if_neg (by omega), if_neg (by omega), if_neg (by omega), if_neg (by omega), if_neg (by omega), if_neg (by omega)]
      rcases ok.2.2.2.2.2.2 with ⟨h1, h2⟩ | ⟨h1, h2, h3⟩
      · rw [if_pos h1, if_neg (by omega), if_neg (by omega)]
      · rw [if_neg (by omega), if_pos h1, if_pos (by omega), if_neg (by omega)]
    · rw [if_neg ok]; simp only [hOK] at ok
      by_cases h1 : mem < 0
      · rw [if_pos h1]
      by_cases h2 : mem ≥ 16
      · rw [if_neg h1, if_pos h2]
      by_cases h3 : off < 0
      · rw [if_neg h1, if_neg h2, if_neg (by omega), if_neg (by omega), if_pos h3]
      by_cases h4 : off > 8192 - raw
      · rw [if_neg h1, if_neg h2, if_neg (by omega), if_neg (by omega), if_neg h3, if_pos h4]
      rw [if_neg h1, if_neg h2, if_neg (by omega), if_neg (by omega), if_neg h3, if_neg h4]
      by_cases h5 : m = 1
      · rw [if_pos h5, if_neg (by omega), if_pos (by omega)]
      by_cases h6 : m = 2
      · rw [if_neg h5, if_pos h6]
        by_cases h7 : len ≥ 1
        · rw [if_pos h7, if_pos (by omega)]
        · rw [if_neg h7]
      · rw [if_neg h5, if_neg h6]
  · rw [if_neg (show ¬ hOK (m, mem, off, raw, len, sum, u) from fun ok => hr (by simp only [hOK] at ok; omega))]
    by_cases h1 : mem < 0
    · rw [if_pos h1]
    by_cases h2 : mem ≥ 16
    · rw [if_neg h1, if_pos h2]
    by_cases h3 : raw < 1
    · rw [if_neg h1, if_neg h2, if_pos h3]
    · rw [if_neg h1, if_neg h2, if_neg h3, if_pos (by omega)]
theorem hC_ne (h : D_api_BlockHead) : (hC h != 0) = true ↔ ¬ hOK h := by
  unfold hC; split <;> simp_all
end Go.Ab

set_option linter.unusedVariables false
set_option linter.unusedSimpArgs false
set_option maxHeartbeats 1000000
namespace Go.Ab
attribute [local irreducible] IntKind.wrap
/-! ### 1. Pieces of a listing -/
theorem list_pieces_s1 (a : D_api_Settings) (rs : List D_api_Record) (hs : 16 ≤ a.2.1 ∧ a.2.1 ≤ 4096) (hR : RecsV rs) : ∀ (k i : Nat), i + k = rs.length → list_pieces_c1 rs (rs.length : Int) (i : Int) a (szs (rs.take i)) = some (ap a.2.1 0 rs)
  | 0, i, e => by
    rw [list_pieces_c1_eq, if_neg (by simp; omega), List.take_of_length_le (by omega), Pieces_spec _ rs hs hR]; rfl
  | k + 1, i, e => by
    have hlen := hR.len
    have hl' : Int.ofNat rs.length = (rs.length : Int) := rfl
    obtain ⟨d1, d2, d3⟩ := dropR_at (pzero T_api_Record : D_api_Record) (xs := rs) (i := i) (by omega)
    have hz : szs (List.take i rs) ++ [(List.getD rs i (pzero T_api_Record)).2.1] = szs (List.take (i + 1) rs) := by rw [d2]; simp [szs]
    have ih := list_pieces_s1 a rs hs hR k (i + 1) (by omega)
    rw [show ((i + 1 : Nat) : Int) = (i : Int) + 1 by omega] at ih
    rw [list_pieces_c1_eq, if_pos (by simp; omega), gd_pos (by omega), gd_pos (by rw [hl']; omega), Int.toNat_natCast, hz, gd_pos (by rw [szs_len, List.length_take]; omega), w64 (by omega) (by omega), ih]
theorem list_pieces_spec (a : D_api_Settings) (rs : List D_api_Record) (hs : 16 ≤ a.2.1 ∧ a.2.1 ≤ 4096) (hR : RecsV rs) : list_pieces a rs = some (ap a.2.1 0 rs) := by
  rw [list_pieces_eq]; exact list_pieces_s1 a rs hs hR rs.length 0 (by omega)
theorem rPieces_c1 (a : D_api_Settings) (rs : List D_api_Record) (hs : 16 ≤ a.2.1 ∧ a.2.1 ≤ 4096) (hR : RecsV rs) : ∀ (k i : Nat), i + k = rs.length → bitloftref31_Pieces_c1 rs (i : Int) a (szs (rs.take i)) = some (ap a.2.1 0 rs)
  | 0, i, e => by
    have hl' : Int.ofNat rs.length = (rs.length : Int) := rfl
    rw [bitloftref31_Pieces_c1_eq, if_neg (by simp; omega), List.take_of_length_le (by omega), ref29_Pieces_spec _ rs hs hR]; rfl
  | k + 1, i, e => by
    have hlen := hR.len
    have hl' : Int.ofNat rs.length = (rs.length : Int) := rfl
    obtain ⟨d1, d2, d3⟩ := dropR_at (pzero T_api_Record : D_api_Record) (xs := rs) (i := i) (by omega)
    have hz : szs (List.take i rs) ++ [(List.getD rs i (pzero T_api_Record)).2.1] = szs (List.take (i + 1) rs) := by rw [d2]; simp [szs]
    have ih := rPieces_c1 a rs hs hR k (i + 1) (by omega)
    rw [show ((i + 1 : Nat) : Int) = (i : Int) + 1 by omega] at ih
    rw [bitloftref31_Pieces_c1_eq, if_pos (by simp; omega), gd_pos (by omega), gd_pos (by rw [hl']; omega), Int.toNat_natCast, hz, gd_pos (by rw [szs_len, List.length_take]; omega), w64 (by omega) (by omega), ih]
theorem rPieces_spec (a : D_api_Settings) (rs : List D_api_Record) (hs : 16 ≤ a.2.1 ∧ a.2.1 ≤ 4096) (hR : RecsV rs) : bitloftref31_Pieces a rs = some (ap a.2.1 0 rs) := by
  rw [bitloftref31_Pieces_eq]; exact rPieces_c1 a rs hs hR rs.length 0 (by omega)
theorem chk_zero' {a : D_api_Settings} (h : chk a = 0) : 16 ≤ a.2.1 ∧ a.2.1 ≤ 4096 := by
  unfold chk at h
  split at h <;> omega
/-! ### 2. The check of a listing -/
def isP (h : D_api_BlockHead) (p : D_api_Piece) : Prop := h.2.1 = p.1 ∧ h.2.2.1 = p.2.1 ∧ h.2.2.2.1 = p.2.2.1
instance (h : D_api_BlockHead) (p : D_api_Piece) : Decidable (isP h p) := by unfold isP; infer_instance
theorem list_is_spec (h : D_api_BlockHead) (p : D_api_Piece) : list_is h p = some (decide (isP h p)) := by
  rw [list_is_eq]
  congr 1
  simp only [peq, Bool.and_true]
  rw [Bool.eq_iff_iff, decide_eq_true_eq]
  simp only [Bool.and_eq_true, decide_eq_true_eq]
  exact Iff.rfl
theorem ref31_Is_spec (h : D_api_BlockHead) (p : D_api_Piece) : bitloftref31_Is h p = some (decide (isP h p)) := by
  rw [bitloftref31_Is_eq]
  unfold isP
  by_cases h1 : h.2.1 = p.1 <;> by_cases h2 : h.2.2.1 = p.2.1 <;> by_cases h3 : h.2.2.2.1 = p.2.2.1 <;> simp [h1, h2, h3]
def ckL : List D_api_BlockHead → List D_api_Piece → Int
  | h :: hs, p :: ps => if hOK h ∧ isP h p then ckL hs ps else 8
  | _, _ => 0
def lck (l : D_api_Listing) : Int :=
  if chk l.1 ≠ 0 then 8 else if valid l.2.1 ≠ 0 then 8 else if (ap l.1.2.1 0 l.2.1).length ≠ l.2.2.1.length then 8 else ckL l.2.2.1 (ap l.1.2.1 0 l.2.1)
theorem lCheck_c1 (hs : List D_api_BlockHead) (ps : List D_api_Piece) (hl : hs.length = ps.length) (hb : hs.length ≤ 1000000) : ∀ (k i : Nat), i + k = hs.length → list_Check_c1 hs (hs.length : Int) (i : Int) ps = some (ckL (hs.drop i) (ps.drop i))
  | 0, i, e => by
    rw [list_Check_c1_eq, if_neg (by simp; omega), List.drop_eq_nil_of_le (by omega)]; rfl
  | k + 1, i, e => by
    have hl' : Int.ofNat hs.length = (hs.length : Int) := rfl
    have hl2 : Int.ofNat ps.length = (ps.length : Int) := rfl
    obtain ⟨d1, d2, d3⟩ := dropR_at (pzero T_api_BlockHead : D_api_BlockHead) (xs := hs) (i := i) (by omega)
    obtain ⟨p1, p2, p3⟩ := dropR_at (pzero T_api_Piece : D_api_Piece) (xs := ps) (i := i) (by omega)
    have ih := lCheck_c1 hs ps hl hb k (i + 1) (by omega)
    rw [show ((i + 1 : Nat) : Int) = (i : Int) + 1 by omega] at ih
    rw [list_Check_c1_eq, if_pos (by simp; omega), gd_pos (by omega), gd_pos (by rw [hl']; omega), Int.toNat_natCast, Nat.zero_add, header_Check_spec]
    simp only [Option.bind_some, hC_ne]
    rw [d1, p1, ckL]
    generalize hs.getD i (pzero T_api_BlockHead) = h0
    generalize ps.getD i (pzero T_api_Piece) = p0
    by_cases h1 : hOK h0
    · rw [if_neg (by simpa using h1), gd_pos (by omega), gd_pos (by rw [hl2]; omega), list_is_spec]
      simp only [Option.bind_some]
      by_cases h2 : isP h0 p0
      · rw [if_neg (by simp [h2]), if_pos ⟨h1, h2⟩, w64 (by omega) (by omega), ih]
      · rw [if_pos (by simp [h2]), if_neg (fun h => h2 h.2)]
    · rw [if_pos h1, if_neg (fun h => h1 h.1)]
theorem rCheck_c1 (l : D_api_Listing) (ps : List D_api_Piece) (hl : l.2.2.1.length = ps.length) (hb : l.2.2.1.length ≤ 1000000) : ∀ (k i : Nat), i + k = l.2.2.1.length → bitloftref31_Check_c1 (i : Int) l ps = some (ckL (l.2.2.1.drop i) (ps.drop i))
  | 0, i, e => by
    have hl2 : Int.ofNat ps.length = (ps.length : Int) := rfl
    rw [bitloftref31_Check_c1_eq, if_neg (by simp; omega), List.drop_eq_nil_of_le (by omega)]; rfl
  | k + 1, i, e => by
    have hl' : Int.ofNat l.2.2.1.length = (l.2.2.1.length : Int) := rfl
    have hl2 : Int.ofNat ps.length = (ps.length : Int) := rfl
    obtain ⟨d1, d2, d3⟩ := dropR_at (pzero T_api_BlockHead : D_api_BlockHead) (xs := l.2.2.1) (i := i) (by omega)
    obtain ⟨p1, p2, p3⟩ := dropR_at (pzero T_api_Piece : D_api_Piece) (xs := ps) (i := i) (by omega)
    have ih := rCheck_c1 l ps hl hb k (i + 1) (by omega)
    rw [show ((i + 1 : Nat) : Int) = (i : Int) + 1 by omega] at ih
    rw [bitloftref31_Check_c1_eq, if_pos (by simp; omega), gd_pos (by omega), gd_pos (by rw [hl']; omega), Int.toNat_natCast, Nat.zero_add, ref26_Check_spec]
    simp only [Option.bind_some, hC_ne]
    rw [d1, p1, ckL]
    generalize l.2.2.1.getD i (pzero T_api_BlockHead) = h0
    generalize ps.getD i (pzero T_api_Piece) = p0
    by_cases h1 : hOK h0
    · rw [if_neg (by simpa using h1), gd_pos (by omega), gd_pos (by rw [hl']; omega), gd_pos (by omega), gd_pos (by rw [hl2]; omega), ref31_Is_spec]
      simp only [Option.bind_some]
      by_cases h2 : isP h0 p0
      · rw [if_neg (by simp [h2]), if_pos ⟨h1, h2⟩, w64 (by omega) (by omega), ih]
      · rw [if_pos (by simp [h2]), if_neg (fun h => h2 h.2)]
    · rw [if_pos h1, if_neg (fun h => h1 h.1)]
theorem list_Check_spec (l : D_api_Listing) (hR : RecsOK l.2.1) : list_Check l = some (lck l) := by
  rw [list_Check_eq, pack_Check_spec, member_Valid_spec _ hR]
  simp only [Option.bind_some, lck]
  by_cases hc : chk l.1 = 0
  · rw [if_neg (by simp [hc]), if_neg (show ¬ chk l.1 ≠ 0 by simp [hc])]
    by_cases hv : valid l.2.1 = 0
    · have h16 := chk_zero' hc
      have hV := valid_zero hv
      rw [if_neg (by simp [hv]), if_neg (show ¬ valid l.2.1 ≠ 0 by simp [hv]), list_pieces_spec l.1 l.2.1 h16 hV]
      simp only [Option.bind_some]
      have hsm := ap_small l.1.2.1 h16.1 l.2.1 hV
      by_cases hl : (ap l.1.2.1 0 l.2.1).length = l.2.2.1.length
      · rw [if_neg (by simp [hl]), if_neg (show ¬ (ap l.1.2.1 0 l.2.1).length ≠ l.2.2.1.length by simp [hl])]
        exact lCheck_c1 l.2.2.1 _ hl.symm (by omega) l.2.2.1.length 0 (by omega)
      · rw [if_pos (by simp; omega), if_pos hl]
    · rw [if_pos (by simpa using hv), if_pos hv]
  · rw [if_pos (by simpa using hc), if_pos hc]
theorem ref31_Check_spec (l : D_api_Listing) (hR : RecsOK l.2.1) : bitloftref31_Check l = some (lck l) := by
  rw [bitloftref31_Check_eq, ref30_Check_spec, ref28_Valid_spec _ hR]
  simp only [Option.bind_some, lck]
  by_cases hc : chk l.1 = 0
  · rw [if_neg (by simp [hc]), if_neg (show ¬ chk l.1 ≠ 0 by simp [hc])]
    by_cases hv : valid l.2.1 = 0
    · have h16 := chk_zero' hc
      have hV := valid_zero hv
      rw [if_neg (by simp [hv]), if_neg (show ¬ valid l.2.1 ≠ 0 by simp [hv]), rPieces_spec l.1 l.2.1 h16 hV]
      simp only [Option.bind_some]
      have hsm := ap_small l.1.2.1 h16.1 l.2.1 hV
      by_cases hl : (ap l.1.2.1 0 l.2.1).length = l.2.2.1.length
      · rw [if_neg (by simp [hl]), if_neg (show ¬ (ap l.1.2.1 0 l.2.1).length ≠ l.2.2.1.length by simp [hl])]
        exact rCheck_c1 l _ hl.symm (by omega) l.2.2.1.length 0 (by omega)
      · rw [if_pos (by simp; omega), if_pos hl]
    · rw [if_pos (by simpa using hv), if_pos hv]
  · rw [if_pos (by simpa using hc), if_pos hc]
theorem ckL_zero : ∀ (hs : List D_api_BlockHead) (ps : List D_api_Piece), hs.length = ps.length → ckL hs ps = 0 → ∀ h ∈ hs, hOK h
  | [], _, _, _, h, hh => by cases hh
  | h :: hs, [], hl, _, _, _ => by simp at hl
  | h :: hs, p :: ps, hl, hc, x, hx => by
    simp only [ckL] at hc
    split at hc
    · rename_i hok
      rcases List.mem_cons.1 hx with rfl | hx
      · exact hok.1
      · exact ckL_zero hs ps (by simpa using hl) hc x hx
    · omega
structure LstV (l : D_api_Listing) : Prop where
  blk : 16 ≤ l.1.2.1 ∧ l.1.2.1 ≤ 4096
  chk : chk l.1 = 0
  val : valid l.2.1 = 0
  recs : RecsV l.2.1
  len : l.2.2.1.length = (ap l.1.2.1 0 l.2.1).length
  hds : ∀ h ∈ l.2.2.1, hOK h
  ck : ckL l.2.2.1 (ap l.1.2.1 0 l.2.1) = 0
theorem lck_zero {l : D_api_Listing} (h : lck l = 0) : LstV l := by
  unfold lck at h
  split at h
  · omega
  · rename_i hc
    split at h
    · omega
    · rename_i hv
      split at h
      · omega
      · rename_i hl
        simp only [ne_eq, Decidable.not_not] at hc hv hl
        exact ⟨chk_zero' hc, hc, hv, valid_zero hv, hl.symm, ckL_zero _ _ hl.symm h, h⟩
theorem lck_ne {l : D_api_Listing} : lck l = 0 ∨ lck l = 8 := by
  have h : ∀ hs ps, ckL hs ps = 0 ∨ ckL hs ps = 8 := by
    intro hs
    induction hs with
    | nil => intro ps; left; rfl
    | cons x xs ih =>
      intro ps
      cases ps with
      | nil => left; rfl
      | cons p ps => simp only [ckL]; split; exact ih ps; right; rfl
  unfold lck
  split; right; rfl
  split; right; rfl
  split; right; rfl
  exact h _ _
/-! ### 3. Places -/
def plc : Int → List D_api_BlockHead → List Int
  | _, [] => []
  | at_, h :: r => at_ :: plc (at_ + (41 + h.2.2.2.2.1)) r
theorem plc_len : ∀ (hs : List D_api_BlockHead) (a : Int), (plc a hs).length = hs.length
  | [], _ => rfl
  | h :: r, a => by simp only [plc, List.length_cons, plc_len r]
theorem hOK_len' {h : D_api_BlockHead} (ok : hOK h) : 1 ≤ h.2.2.2.2.1 ∧ h.2.2.2.2.1 ≤ 4096 := by unfold hOK at ok; omega
theorem lPlaces_c1 (hs : List D_api_BlockHead) (hh : ∀ h ∈ hs, hOK h) (hb : hs.length ≤ 1000000) : ∀ (k i : Nat) (at_ : Int) (out : List Int), i + k = hs.length → 0 ≤ at_ → at_ ≤ 100000 + 5000 * i → out.length = i → list_Places_c1 at_ hs (hs.length : Int) (i : Int) out = some (out ++ plc at_ (hs.drop i), 0)
  | 0, i, at_, out, e, h0, h1, ho => by
    rw [list_Places_c1_eq, if_neg (by simp; omega), List.drop_eq_nil_of_le (by omega)]; simp [plc]
  | k + 1, i, at_, out, e, h0, h1, ho => by
    have hl' : Int.ofNat hs.length = (hs.length : Int) := rfl
    obtain ⟨d1, d2, d3⟩ := dropR_at (pzero T_api_BlockHead : D_api_BlockHead) (xs := hs) (i := i) (by omega)
    have hv := hOK_len' (hh _ d3)
    have ih := lPlaces_c1 hs hh hb k (i + 1) (at_ + (41 + (hs.getD i (pzero T_api_BlockHead)).2.2.2.2.1)) (out ++ [at_]) (by omega) (by omega) (by omega) (by simp; omega)
    rw [show ((i + 1 : Nat) : Int) = (i : Int) + 1 by omega] at ih
    rw [list_Places_c1_eq, if_pos (by simp; omega), gd_pos (by omega), gd_pos (by rw [hl']; omega), gd_pos (by simp only [List.length_append, List.length_cons, List.length_nil]; omega), Int.toNat_natCast, w64 (x := 41 + _) (by omega) (by omega), w64 (x := (i : Int) + 1) (by omega) (by omega), w64 (by omega) (by omega), ih, d1, plc, List.append_assoc]
    rfl
theorem rPlaces_c1 (l : D_api_Listing) (hh : ∀ h ∈ l.2.2.1, hOK h) (hb : l.2.2.1.length ≤ 1000000) : ∀ (k i : Nat) (at_ : Int) (out : List Int), i + k = l.2.2.1.length → 0 ≤ at_ → at_ ≤ 100000 + 5000 * i → out.length = i → bitloftref31_Places_c1 at_ (i : Int) l out = some (out ++ plc at_ (l.2.2.1.drop i), 0)
  | 0, i, at_, out, e, h0, h1, ho => by
    have hl' : Int.ofNat l.2.2.1.length = (l.2.2.1.length : Int) := rfl
    rw [bitloftref31_Places_c1_eq, if_neg (by simp; omega), List.drop_eq_nil_of_le (by omega)]; simp [plc]
  | k + 1, i, at_, out, e, h0, h1, ho => by
    have hl' : Int.ofNat l.2.2.1.length = (l.2.2.1.length : Int) := rfl
    obtain ⟨d1, d2, d3⟩ := dropR_at (pzero T_api_BlockHead : D_api_BlockHead) (xs := l.2.2.1) (i := i) (by omega)
    have hv := hOK_len' (hh _ d3)
    have ih := rPlaces_c1 l hh hb k (i + 1) (at_ + (41 + (l.2.2.1.getD i (pzero T_api_BlockHead)).2.2.2.2.1)) (out ++ [at_]) (by omega) (by omega) (by omega) (by simp; omega)
    rw [show ((i + 1 : Nat) : Int) = (i : Int) + 1 by omega] at ih
    rw [bitloftref31_Places_c1_eq, if_pos (by simp; omega), gd_pos (by simp only [List.length_append, List.length_cons, List.length_nil]; omega), gd_pos (by omega), gd_pos (by rw [hl']; omega), Int.toNat_natCast, w64 (x := 41 + _) (by omega) (by omega), w64 (x := (i : Int) + 1) (by omega) (by omega), w64 (by omega) (by omega), ih, d1, plc, List.append_assoc]
    rfl
/-- The places of a listing that is valid. -/
def pls (l : D_api_Listing) : List Int := plc (28 + hsum l.2.1) l.2.2.1
theorem list_Places_spec (l : D_api_Listing) (hR : RecsOK l.2.1) (hS : SumsOK l.2.1) : list_Places l = some (if lck l = 0 then (pls l, 0) else ([], 8)) := by
  rw [list_Places_eq, list_Check_spec l hR]
  simp only [Option.bind_some]
  rcases lck_ne (l := l) with h | h
  · have hL := lck_zero h
    have hsm := ap_small l.1.2.1 hL.blk.1 l.2.1 hL.recs
    have hb := hsum_b l.2.1 hL.recs.each
    have hlen := hL.recs.len
    have hll := hL.len
    rw [if_neg (by simp [h]), if_pos h, pack_Head_spec _ _ hR hS]
    have ha : ask l.1 l.2.1 = 0 := by unfold ask; rw [if_neg (by simp [hL.chk]), hL.val]
    rw [ha, if_neg (by simp)]
    simp only [Option.bind_some]
    have hh := headB_len l.1 l.2.1 hS
    have hh' : Int.ofNat (headB l.1 l.2.1).length = 28 + hsum l.2.1 := hh
    rw [hh']
    exact lPlaces_c1 l.2.2.1 hL.hds (by omega) l.2.2.1.length 0 _ [] (by omega) (by omega) (by omega) rfl
  · rw [if_pos (by simp [h]), h, if_neg (by decide)]
theorem ref31_Places_spec (l : D_api_Listing) (hR : RecsOK l.2.1) (hS : SumsOK l.2.1) : bitloftref31_Places l = some (if lck l = 0 then (pls l, 0) else ([], 8)) := by
  rw [bitloftref31_Places_eq, ref31_Check_spec l hR]
  simp only [Option.bind_some]
  rcases lck_ne (l := l) with h | h
  · have hL := lck_zero h
    have hsm := ap_small l.1.2.1 hL.blk.1 l.2.1 hL.recs
    have hb := hsum_b l.2.1 hL.recs.each
    have hlen := hL.recs.len
    have hll := hL.len
    rw [if_neg (by simp [h]), if_pos h, rBytes_spec _ _ hL.recs hS]
    simp only [Option.bind_some]
    have hh := headB_len l.1 l.2.1 hS
    have hh' : Int.ofNat (headB l.1 l.2.1).length = 28 + hsum l.2.1 := hh
    rw [hh']
    exact rPlaces_c1 l hL.hds (by omega) l.2.2.1.length 0 _ [] (by omega) (by omega) (by omega) rfl
  · rw [if_pos (by simp [h]), h, if_neg (by decide)]
theorem LPlaces_c1 (xs : List Int) (hb : xs.length ≤ 1000000) : ∀ (k i : Nat), i + k = xs.length → bitloftlaw31_ListPlaces_c1 (i : Int) xs xs = some true
  | 0, i, e => by
    have hl' : Int.ofNat xs.length = (xs.length : Int) := rfl
    rw [bitloftlaw31_ListPlaces_c1_eq, if_neg (by simp; omega)]
  | k + 1, i, e => by
    have hl' : Int.ofNat xs.length = (xs.length : Int) := rfl
    have ih := LPlaces_c1 xs hb k (i + 1) (by omega)
    rw [show ((i + 1 : Nat) : Int) = (i : Int) + 1 by omega] at ih
    rw [bitloftlaw31_ListPlaces_c1_eq, if_pos (by simp; omega), gd_pos (by omega), gd_pos (by rw [hl']; omega), gd_pos (by omega), gd_pos (by rw [hl']; omega), if_neg (by simp), w64 (by omega) (by omega), ih]
theorem pls_len {l : D_api_Listing} (h : lck l = 0) : (pls l).length ≤ 100000 := by
  have hL := lck_zero h
  have hsm := ap_small l.1.2.1 hL.blk.1 l.2.1 hL.recs
  have hll := hL.len
  rw [pls, plc_len]; omega
theorem bitloftlaw31_ListPlaces_true (x0 : pden T_api_Listing) (z0 : wfP T_api_Listing x0) : bitloftlaw31_ListPlaces x0 = some true := by
  have hR : RecsOK x0.2.1 := recs_ok z0.2.1
  have hS : SumsOK x0.2.1 := sums_ok z0.2.1
  obtain ⟨g, hg⟩ := great_some x0.2.1
  have hG : bitloftref31_Great x0 = some (if g then true else decide ((Int.ofNat (List.length x0.2.2.1)) > (700 : Int))) := by
    rw [bitloftref31_Great_eq, hg]
    cases g <;> rfl
  rw [bitloftlaw31_ListPlaces_eq, hG, list_Places_spec x0 hR hS, ref31_Places_spec x0 hR hS, list_Check_spec x0 hR, ref31_Check_spec x0 hR]
  simp only [Option.bind_some]
  by_cases hgt : (if g then true else decide ((Int.ofNat (List.length x0.2.2.1)) > (700 : Int))) = true
  · rw [if_pos hgt]
  · rw [if_neg hgt, if_neg (by simp), if_neg (by simp), if_neg (by simp)]
    by_cases h : lck x0 = 0
    · rw [if_pos h]
      exact LPlaces_c1 (pls x0) (by have := pls_len h; omega) _ 0 (Nat.zero_add _)
    · rw [if_neg h]
      exact LPlaces_c1 [] (by simp) 0 0 rfl
end Go.Ab

set_option linter.unusedVariables false
set_option linter.unusedSimpArgs false
set_option maxHeartbeats 1000000
namespace Go.Ab
attribute [local irreducible] IntKind.wrap
/-! ### 8. What is saved -/
def svd : List D_api_BlockHead → Int
  | [] => 0
  | h :: r => (h.2.2.2.1 - h.2.2.2.2.1) + svd r
theorem hOK_raw {h : D_api_BlockHead} (ok : hOK h) : 1 ≤ h.2.2.2.1 ∧ h.2.2.2.1 ≤ 4096 := by unfold hOK at ok; omega
theorem Saved_c1 (hs : List D_api_BlockHead) (hh : ∀ h ∈ hs, hOK h) (hb : hs.length ≤ 1000000) : ∀ (k i : Nat) (acc : Int), i + k = hs.length → -5000 * (i : Int) ≤ acc → acc ≤ 5000 * i → bound_Saved_c1 acc hs (hs.length : Int) (i : Int) = some (acc + svd (hs.drop i), 0)
  | 0, i, acc, e, h0, h1 => by
    rw [bound_Saved_c1_eq, if_neg (by simp; omega), List.drop_eq_nil_of_le (by omega)]; simp [svd]
  | k + 1, i, acc, e, h0, h1 => by
    have hl' : Int.ofNat hs.length = (hs.length : Int) := rfl
    obtain ⟨d1, d2, d3⟩ := dropR_at (pzero T_api_BlockHead : D_api_BlockHead) (xs := hs) (i := i) (by omega)
    have hv := hOK_len' (hh _ d3)
    have hw := hOK_raw (hh _ d3)
    have ih := Saved_c1 hs hh hb k (i + 1) (acc + ((hs.getD i (pzero T_api_BlockHead)).2.2.2.1 - (hs.getD i (pzero T_api_BlockHead)).2.2.2.2.1)) (by omega) (by omega) (by omega)
    rw [show ((i + 1 : Nat) : Int) = (i : Int) + 1 by omega] at ih
    rw [bound_Saved_c1_eq, if_pos (by simp; omega), gd_pos (by omega), gd_pos (by rw [hl']; omega), Int.toNat_natCast, w64 (x := (hs.getD i (pzero T_api_BlockHead)).2.2.2.1 - (hs.getD i (pzero T_api_BlockHead)).2.2.2.2.1) (by omega) (by omega), w64 (x := (i : Int) + 1) (by omega) (by omega), w64 (by omega) (by omega), ih, d1, svd]
    congr 2; omega
theorem rSaved_c1 (l : D_api_Listing) (hh : ∀ h ∈ l.2.2.1, hOK h) (hb : l.2.2.1.length ≤ 1000000) : ∀ (k i : Nat) (acc : Int), i + k = l.2.2.1.length → -5000 * (i : Int) ≤ acc → acc ≤ 5000 * i → bitloftref36_Saved_c1 acc (i : Int) l = some (acc + svd (l.2.2.1.drop i), 0)
  | 0, i, acc, e, h0, h1 => by
    have hl' : Int.ofNat l.2.2.1.length = (l.2.2.1.length : Int) := rfl
    rw [bitloftref36_Saved_c1_eq, if_neg (by simp; omega), List.drop_eq_nil_of_le (by omega)]; simp [svd]
  | k + 1, i, acc, e, h0, h1 => by
    have hl' : Int.ofNat l.2.2.1.length = (l.2.2.1.length : Int) := rfl
    obtain ⟨d1, d2, d3⟩ := dropR_at (pzero T_api_BlockHead : D_api_BlockHead) (xs := l.2.2.1) (i := i) (by omega)
    have hv := hOK_len' (hh _ d3)
    have hw := hOK_raw (hh _ d3)
    have ih := rSaved_c1 l hh hb k (i + 1) (acc + ((l.2.2.1.getD i (pzero T_api_BlockHead)).2.2.2.1 - (l.2.2.1.getD i (pzero T_api_BlockHead)).2.2.2.2.1)) (by omega) (by omega) (by omega)
    rw [show ((i + 1 : Nat) : Int) = (i : Int) + 1 by omega] at ih
    rw [bitloftref36_Saved_c1_eq, if_pos (by simp; omega), gd_pos (by omega), gd_pos (by rw [hl']; omega), gd_pos (by omega), gd_pos (by rw [hl']; omega), Int.toNat_natCast, w64 (x := (l.2.2.1.getD i (pzero T_api_BlockHead)).2.2.2.1 - (l.2.2.1.getD i (pzero T_api_BlockHead)).2.2.2.2.1) (by omega) (by omega), w64 (x := (i : Int) + 1) (by omega) (by omega), w64 (by omega) (by omega), ih, d1, svd]
    congr 2; omega
theorem heads_few {l : D_api_Listing} (h : lck l = 0) : l.2.2.1.length ≤ 100000 := by
  have hL := lck_zero h
  have hsm := ap_small l.1.2.1 hL.blk.1 l.2.1 hL.recs
  have hll := hL.len
  omega
theorem Saved_spec (l : D_api_Listing) (hR : RecsOK l.2.1) : bound_Saved l = some (if lck l = 0 then (svd l.2.2.1, 0) else (0, 8)) := by
  rw [bound_Saved_eq, list_Check_spec l hR]
  simp only [Option.bind_some]
  rcases lck_ne (l := l) with h | h
  · have hf := heads_few h
    rw [if_neg (by simp [h]), if_pos h]
    have := Saved_c1 l.2.2.1 (lck_zero h).hds (by omega) l.2.2.1.length 0 0 (by omega) (by omega) (by omega)
    refine Eq.trans this ?_
    simp
  · rw [if_pos (by simp [h]), h, if_neg (by decide)]
theorem rSaved_spec (l : D_api_Listing) (hR : RecsOK l.2.1) : bitloftref36_Saved l = some (if lck l = 0 then (svd l.2.2.1, 0) else (0, 8)) := by
  rw [bitloftref36_Saved_eq, ref31_Check_spec l hR]
  simp only [Option.bind_some]
  rcases lck_ne (l := l) with h | h
  · have hf := heads_few h
    rw [if_neg (by simp [h]), if_pos h]
    have := rSaved_c1 l (lck_zero h).hds (by omega) l.2.2.1.length 0 0 (by omega) (by omega) (by omega)
    refine Eq.trans this ?_
    simp
  · rw [if_pos (by simp [h]), h, if_neg (by decide)]
theorem Great_val (l : D_api_Listing) : ∃ g, bitloftref31_Great l = some g := by
  obtain ⟨g, hg⟩ := great_some l.2.1
  rw [bitloftref31_Great_eq, hg]
  cases g
  · exact ⟨_, rfl⟩
  · exact ⟨_, rfl⟩
theorem bitloftlaw36_BoundRooms_true (x0 : pden T_api_Settings) (z0 : wfP T_api_Settings x0) (x1 : pden .str) (z1 : wfP .str x1) (x2 : pden (.int .i64)) (z2 : wfP (.int .i64) x2) (x3 : pden T_api_Listing) (z3 : wfP T_api_Listing x3) :
    bitloftlaw36_BoundRooms x0 x1 x2 x3 = some true := by
  have hs : (x1 : ByteArray).size ≤ 9223372036854775807 := by have := z1; simp [wfP, Go.maxLen] at this; omega
  have hR : RecsOK x3.2.1 := recs_ok z3.2.1
  obtain ⟨g, hg⟩ := Great_val x3
  obtain ⟨r, h1, h2⟩ := rooms_eq x0 x1 x2 hs
  rw [bitloftlaw36_BoundRooms_eq, hg, h1, h2, Saved_spec x3 hR, rSaved_spec x3 hR]
  simp only [Option.bind_some]
  split
  · rfl
  · cases g
    · rw [if_neg (by simp)]; simp
    · rw [if_pos rfl]
end Go.Ab

set_option linter.unusedVariables false
set_option linter.unusedSimpArgs false
set_option maxHeartbeats 1000000
namespace Go.Ab
attribute [local irreducible] IntKind.wrap
/-! ### The limits, small pieces, and errors -/
def nB : ByteArray := ByteArray.mk #[98]
def nBad : ByteArray := ByteArray.mk #[97, 32, 98]
def nE : ByteArray := ByteArray.mk #[]
theorem bothN (n x y : Int) (hn : 0 ≤ n ∧ n ≤ 8192) (hx : 52 + cL 16 n = x) (hy : 52 + cG 16 n = y) : bitloftlaw36_both (sB 16) (recN nA n) x y = some true :=
  both_recN _ _ _ _ _ (by decide) nA_ok hn (by rw [lngL_recN _ _ _ (by decide) hn]; exact hx) hy
theorem Greatest_val (a : D_api_Settings) (rs : List D_api_Record) (hR : RecsOK rs) (e : Int) (he : ask a rs = e) : (bound_Greatest a rs = some (if e ≠ 0 then (0, e) else (lng gG a.2.1 rs, 0))) ∧ (bound_Least a rs = some (if e ≠ 0 then (0, e) else (lng gL a.2.1 rs, 0))) ∧ (bound_Count a rs = some (if e ≠ 0 then (0, e) else (((ap a.2.1 0 rs).length : Int), 0))) := by
  refine ⟨by rw [Greatest_spec a rs hR, he], by rw [Least_spec a rs hR, he], ?_⟩
  rw [bound_Count_eq, bound_pieces_spec a rs hR, he]
  simp only [Option.bind_some]
  by_cases h : e = 0
  · rw [if_neg (show ¬ e ≠ 0 from fun k => k h), if_neg (show ¬ e ≠ 0 from fun k => k h)]; rfl
  · rw [if_pos h, if_pos h]; rfl
theorem recs17 : RecsOK (List.replicate 17 (pzero T_api_Record)) := ⟨by simp, fun r hr => by rw [List.eq_of_mem_replicate hr]; decide⟩
theorem recs_two {a b : D_api_Record} (ha : a.1.size ≤ 100) (hb : b.1.size ≤ 100) : RecsOK [a, b] := ⟨by simp, fun r hr => by
  simp only [List.mem_cons, List.not_mem_nil, or_false] at hr
  rcases hr with rfl | rfl <;> omega⟩
theorem bitloftlaw36_BoundNames_true : bitloftlaw36_BoundNames = some true := by
  have hc : chk (sB 16) = 0 := by decide
  have hsA : nA.size ≤ 9223372036854775807 := by decide
  have e2 : ((0 : Int), ((16 : Int), ())) = sB 16 := rfl
  have e3 : ByteArray.mk #[97] = nA := rfl
  have e4 : ∀ n : Int, 0 < n → (nA, (n, (List.replicate 20 (0 : Int), ()))) = recN nA n := fun n hn => by unfold recN; rw [if_pos hn]
  have b1 := bothN 1 94 94 ⟨by omega, by omega⟩ (by decide +kernel) (by decide +kernel)
  have b4 := bothN 4 97 97 ⟨by omega, by omega⟩ (by decide +kernel) (by decide +kernel)
  have b5 := bothN 5 97 98 ⟨by omega, by omega⟩ (by decide +kernel) (by decide +kernel)
  have b16 := bothN 16 97 109 ⟨by omega, by omega⟩ (by decide +kernel) (by decide +kernel)
  have b17 := bothN 17 139 151 ⟨by omega, by omega⟩ (by decide +kernel) (by decide +kernel)
  have b0 := bothN 0 52 52 ⟨by omega, by omega⟩ (by decide +kernel) (by decide +kernel)
  have bb := bothN 8192 23092 29236 ⟨by omega, by omega⟩ (by decide +kernel) (by decide +kernel)
  have ba : bitloftlaw36_both ((7 : Int), ((4096 : Int), ())) (recN nA 8192) 142 8326 = some true := both_recN _ _ _ _ _ (by decide) nA_ok ⟨by omega, by omega⟩ (by rw [lngL_recN _ _ _ (by decide) ⟨by omega, by omega⟩]; decide +kernel) (by decide +kernel)
  rw [bitloftlaw36_BoundNames_eq, e3, e2, e4 1 (by decide), e4 4 (by decide), e4 5 (by decide), e4 16 (by decide), e4 17 (by decide), b1, b4, b5, b16, b17, rNamed_spec nA 0 (by omega)]
  simp only [Option.bind_some, if_true]
  rw [b0]
  simp only [Option.bind_some]
  rw [bitloftlaw36_BoundNames_c1_eq, e3, e4 8192 (by decide), ba, bb]
  simp only [Option.bind_some, if_true]
  obtain ⟨n1, n2, n3⟩ := Greatest_val (sB 16) [] ⟨by simp, fun r h => by cases h⟩ 0 (by decide +kernel)
  obtain ⟨_, m2, _⟩ := Greatest_val (sB 16) _ recs17 4 (by decide +kernel)
  obtain ⟨m1, _, _⟩ := Greatest_val (0, (0, ())) _ recs17 2 (by decide +kernel)
  obtain ⟨_, _, k3⟩ := Greatest_val (sB 16) [(nA, (-1, (List.replicate 20 (0 : Int), ())))] ⟨by simp, fun r h => by rw [List.mem_singleton.1 h]; exact hsA⟩ 8 (by decide +kernel)
  have z1 := bSizes_spec (sB 16) [(nA, (32, (List.replicate 20 (0 : Int), ()))), (nB, (33, (List.replicate 20 (0 : Int), ())))] (recs_two (by decide) (by decide)) (by simp)
  have z2 := bSizes_spec (sB 16) [(nA, (1, (List.replicate 20 (0 : Int), ()))), (nA, (1, (List.replicate 20 (0 : Int), ())))] (recs_two (by decide) (by decide)) (by simp)
  rw [show ask (sB 16) [(nA, (32, (List.replicate 20 (0 : Int), ()))), (nB, (33, (List.replicate 20 (0 : Int), ())))] = 0 by decide +kernel, if_neg (by simp)] at z1
  rw [show ask (sB 16) [(nA, (1, (List.replicate 20 (0 : Int), ()))), (nA, (1, (List.replicate 20 (0 : Int), ())))] = 14 by decide +kernel, if_pos (by simp)] at z2
  have l1 : lens (sB 16).2.1 [(nA, (32, (List.replicate 20 (0 : Int), ()))), (nB, (33, (List.replicate 20 (0 : Int), ())))] = [2, 3] := by
    show [pcn 16 (nA, (32, (List.replicate 20 (0 : Int), ()))), pcn 16 (nB, (33, (List.replicate 20 (0 : Int), ())))] = [2, 3]
    unfold pcn
    rw [pcs_ceil 0 _ 16 (by omega) 8200 0 (by show (32 : Int) - 0 ≤ _; omega) (by show (0 : Int) ≤ 32 + 16 - 1; omega), pcs_ceil 0 _ 16 (by omega) 8200 0 (by show (33 : Int) - 0 ≤ _; omega) (by show (0 : Int) ≤ 33 + 16 - 1; omega)]
    rfl
  rw [l1] at z1
  have r1 : bound_Room (sB 15) nE 0 = some (0, 2) := by
    rcases Room_spec (sB 15) nE 0 (by decide) with ⟨h, _⟩ | ⟨h, _⟩ | ⟨h, _⟩
    · exact h
    · exact absurd h (by decide)
    · exact absurd h (by decide)
  have r2 : bound_Room (sB 16) nE 0 = some (0, 8) := by
    rcases Room_spec (sB 16) nE 0 (by decide) with ⟨_, h⟩ | ⟨_, _, h⟩ | ⟨_, h, _⟩
    · exact absurd hc h
    · exact h
    · exact absurd h (by decide +kernel)
  have r3 : bound_Room (sB 16) nBad 9999 = some (0, 8) := by
    rcases Room_spec (sB 16) nBad 9999 (by decide) with ⟨_, h⟩ | ⟨_, _, h⟩ | ⟨_, h, _⟩
    · exact absurd hc h
    · exact h
    · exact absurd h (by decide +kernel)
  have r4 : bound_Room (sB 16) nA (-9223372036854775808) = some (0, 6) := Room_val (b := -1) hc nA_ok ⟨by decide, by decide, fun h => by omega, fun _ => by decide +kernel⟩
  have sv : bound_Saved_v2 ((0 : Int), ((0 : Int), ())) () = some (0, 8) := by
    rw [bound_Saved_v2_eq, list_Check_spec _ ⟨by simp, fun r h => by cases h⟩, show lck (((0 : Int), ((0 : Int), ())), ([], ([], ()))) = 8 by decide +kernel]
    rfl
  rw [bitloftlaw36_BoundNames_c2_eq, e3, n1, n2, n3]
  simp only [Option.bind_some]
  rw [show ByteArray.mk #[98] = nB from rfl, z1]
  simp only [Option.bind_some]
  rw [gd_pos trivial, gd_pos (by decide), gd_pos (by decide), gd_pos (by decide), m1]
  simp only [Option.bind_some]
  rw [gd_pos trivial, gd_pos (by decide), gd_pos (by decide), gd_pos (by decide), m2]
  simp only [Option.bind_some]
  rw [k3]
  simp only [Option.bind_some]
  rw [z2]
  simp only [Option.bind_some]
  rw [show ((0 : Int), ((15 : Int), ())) = sB 15 from rfl, show ByteArray.mk #[] = nE from rfl, r1]
  simp only [Option.bind_some]
  rw [r2]
  simp only [Option.bind_some]
  rw [show ByteArray.mk #[97, 32, 98] = nBad from rfl, r3]
  simp only [Option.bind_some]
  rw [r4]
  simp only [Option.bind_some]
  rw [sv]
  simp only [Option.bind_some]
  have lG : lng gG (sB 16).2.1 [] = 28 := by decide +kernel
  have lL : lng gL (sB 16).2.1 [] = 28 := by decide +kernel
  rw [if_neg (show ¬ (0 : Int) ≠ 0 by decide), if_neg (show ¬ (0 : Int) ≠ 0 by decide), if_neg (show ¬ (0 : Int) ≠ 0 by decide), if_pos (show (2 : Int) ≠ 0 by decide), if_pos (show (4 : Int) ≠ 0 by decide), if_pos (show (8 : Int) ≠ 0 by decide), lG, lL]
  simp only
  rw [bitloftlaw36_BoundNames_c3_eq]
  simp only [beq_self_eq_true, if_true]
  have q1 : bitloftlaw36_room (sB 16) nA 9223372036854775807 8192 = some true := room_val hc nA_ok (by decide) ⟨by decide, by decide, fun _ => by decide +kernel, fun h => by omega⟩
  have q2 : bitloftlaw36_room (sB 16) nA 29236 8192 = some true := room_val hc nA_ok (by decide) ⟨by decide, by decide, fun _ => by decide +kernel, fun h => by omega⟩
  have q3 : bitloftlaw36_room (sB 16) nA 29235 8191 = some true := room_val hc nA_ok (by decide) ⟨by decide, by decide, fun _ => by decide +kernel, fun _ => by decide +kernel⟩
  have q4 : bitloftlaw36_room (sB 16) nA 109 16 = some true := room_val hc nA_ok (by decide) ⟨by decide, by decide, fun _ => by decide +kernel, fun _ => by decide +kernel⟩
  have q5 : bitloftlaw36_room (sB 16) nA 150 16 = some true := room_val hc nA_ok (by decide) ⟨by decide, by decide, fun _ => by decide +kernel, fun _ => by decide +kernel⟩
  have q6 : bitloftlaw36_room (sB 16) nA 151 17 = some true := room_val hc nA_ok (by decide) ⟨by decide, by decide, fun _ => by decide +kernel, fun _ => by decide +kernel⟩
  have q7 : bitloftlaw36_room (sB 4096) nA 93 0 = some true := room_val (by decide) nA_ok (by decide) ⟨by decide, by decide, fun _ => by decide +kernel, fun _ => by decide +kernel⟩
  rw [bitloftlaw36_BoundNames_c4_eq, e3, show ((0 : Int), ((4096 : Int), ())) = sB 4096 from rfl, q1, q2, q3, q4, q5, q6, q7]
  simp only [Option.bind_some, if_true]
  rw [bitloftlaw36_BoundNames_c5_eq, alive36, gd_pos (show (0 : Int) ≤ 0 by decide), gd_pos (show (0 : Int) < Int.ofNat (List.length ([2, 3] : List Int)) by decide), gd_pos (show (0 : Int) ≤ 1 by decide), gd_pos (show (1 : Int) < Int.ofNat (List.length ([2, 3] : List Int)) by decide)]
  rfl
end Go.Ab
