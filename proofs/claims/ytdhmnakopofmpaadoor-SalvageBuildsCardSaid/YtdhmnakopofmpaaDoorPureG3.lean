/-
  Plain laws of the printed functions.
-/
import Derived.Test.YtdhmnakopofmpaaDoorGenG3
set_option linter.unusedVariables false
set_option linter.unusedSimpArgs false
set_option maxHeartbeats 1000000
namespace Go.Ab
/-! ### 1. Bits -/
def U32 (x : Int) : Prop := 0 ≤ x ∧ x < 4294967296
theorem bv_toInt (v : BitVec 32) : IntKind.wrap .u32 (v.toNat : Int) = v.toNat := by
  have := v.isLt
  rw [wu32]; omega
theorem bv_of (v : BitVec 32) : BitVec.ofInt 32 (v.toNat : Int) = v := by
  apply BitVec.eq_of_toNat_eq
  rw [BitVec.toNat_ofInt]
  have := v.isLt
  omega
theorem bX (x y : Int) : bitsXor .u32 x y = ((BitVec.ofInt 32 x ^^^ BitVec.ofInt 32 y).toNat : Int) := bv_toInt _
theorem bO (x y : Int) : bitsOr .u32 x y = ((BitVec.ofInt 32 x ||| BitVec.ofInt 32 y).toNat : Int) := bv_toInt _
theorem bA (x y : Int) : bitsAnd .u32 x y = ((BitVec.ofInt 32 x &&& BitVec.ofInt 32 y).toNat : Int) := bv_toInt _
theorem bv_u32 (v : BitVec 32) : U32 (v.toNat : Int) := by have := v.isLt; unfold U32; omega
theorem bX_u (x y : Int) : U32 (bitsXor .u32 x y) := by rw [bX]; exact bv_u32 _
theorem bO_u (x y : Int) : U32 (bitsOr .u32 x y) := by rw [bO]; exact bv_u32 _
theorem bA_u (x y : Int) : U32 (bitsAnd .u32 x y) := by rw [bA]; exact bv_u32 _
theorem w_u (x : Int) : U32 (IntKind.wrap .u32 x) := by rw [wu32]; unfold U32; omega
theorem ch_eq (b c d : Int) : bitsXor .u32 d (bitsAnd .u32 b (bitsXor .u32 c d)) = bitsOr .u32 (bitsAnd .u32 b c) (bitsAnd .u32 (bitsXor .u32 4294967295 b) d) := by
  simp only [bX, bO, bA, bv_of]
  congr 2
  have h1 : BitVec.ofInt 32 4294967295 = BitVec.allOnes 32 := by decide
  rw [h1]
  ext i hi
  simp only [BitVec.getElem_xor, BitVec.getElem_and, BitVec.getElem_or, BitVec.getElem_allOnes]
  cases (BitVec.ofInt 32 b)[i] <;> cases (BitVec.ofInt 32 c)[i] <;> cases (BitVec.ofInt 32 d)[i] <;> rfl
theorem maj_eq (b c d : Int) : bitsOr .u32 (bitsAnd .u32 b c) (bitsAnd .u32 d (bitsOr .u32 b c)) = bitsOr .u32 (bitsOr .u32 (bitsAnd .u32 b c) (bitsAnd .u32 b d)) (bitsAnd .u32 c d) := by
  simp only [bX, bO, bA, bv_of]
  congr 2
  ext i hi
  simp only [BitVec.getElem_xor, BitVec.getElem_and, BitVec.getElem_or]
  cases (BitVec.ofInt 32 b)[i] <;> cases (BitVec.ofInt 32 c)[i] <;> cases (BitVec.ofInt 32 d)[i] <;> rfl
/-- Turned left by s places. -/
def rot (a : Int) (s : Int) : Int := bitsOr .u32 (IntKind.wrap .u32 (shlBy .u32 a s)) (shrBy .u32 a (32 - s))
theorem rot_u (a s : Int) : U32 (rot a s) := bO_u _ _
/-- A byte put behind. -/
theorem or_byte {x b : Int} (hx : U32 x) (hb : 0 ≤ b ∧ b < 256) : bitsOr .u32 (IntKind.wrap .u32 (x * 256)) (IntKind.wrap .u32 b) = IntKind.wrap .u32 (IntKind.wrap .u32 (x * 256) + IntKind.wrap .u32 b) := by
  rw [bO]
  simp only [wu32]
  have h1 : b % 4294967296 = b := by omega
  rw [h1]
  obtain ⟨n, rfl⟩ := Int.eq_ofNat_of_zero_le hb.1
  obtain ⟨q, hq⟩ : ∃ q : Nat, (x * 256) % 4294967296 = ((2 ^ 8 * q : Nat) : Int) ∧ 2 ^ 8 * q < 4294967296 := by
    refine ⟨(x % 16777216).toNat, ?_, ?_⟩ <;> simp <;> omega
  have hn : n < 2 ^ 8 := by omega
  rw [hq.1]
  have e : ∀ m : Nat, m < 4294967296 → (BitVec.ofInt 32 (m : Int)).toNat = m := fun m hm => by
    rw [BitVec.toNat_ofInt]; omega
  rw [BitVec.toNat_or, e _ hq.2, e n (by omega), ← Nat.two_pow_add_eq_or_of_lt hn]
  have := hq.2
  omega
attribute [local irreducible] IntKind.wrap
theorem rotl_spec (a : Int) : math_bits_RotateLeft32 a 1 = some (rot a 1) ∧ math_bits_RotateLeft32 a 5 = some (rot a 5) ∧ math_bits_RotateLeft32 a 30 = some (rot a 30) := by
  have h1 : bitsAnd .u64 (IntKind.wrap .u64 1) 31 = 1 := by kernel_rfl
  have h5 : bitsAnd .u64 (IntKind.wrap .u64 5) 31 = 5 := by kernel_rfl
  have h30 : bitsAnd .u64 (IntKind.wrap .u64 30) 31 = 30 := by kernel_rfl
  have w1 : IntKind.wrap .u64 ((32 : Int) - 1) = 32 - 1 := by kernel_rfl
  have w5 : IntKind.wrap .u64 ((32 : Int) - 5) = 32 - 5 := by kernel_rfl
  have w30 : IntKind.wrap .u64 ((32 : Int) - 30) = 32 - 30 := by kernel_rfl
  refine ⟨?_, ?_, ?_⟩ <;> rw [math_bits_RotateLeft32_eq]
  · rw [h1, w1, gd_pos (by omega), gd_pos (by omega)]; rfl
  · rw [h5, w5, gd_pos (by omega), gd_pos (by omega)]; rfl
  · rw [h30, w30, gd_pos (by omega), gd_pos (by omega)]; rfl
theorem turn_spec (a s : Int) (h : 0 ≤ s ∧ s ≤ 32) : bitloftref01_turn a s = some (rot a s) := by
  rw [bitloftref01_turn_eq, w64 (by omega) (by omega), gd_pos (by omega), gd_pos (by omega)]; rfl
end Go.Ab

set_option linter.unusedVariables false
set_option linter.unusedSimpArgs false
set_option maxHeartbeats 1000000
namespace Go.Ab
attribute [local irreducible] IntKind.wrap
/-! ### 2. What is put behind -/
/-- The length in bits. -/
def bitl (n : Int) : Int := IntKind.wrap .u64 (IntKind.wrap .u64 n * 8)
def tailB (n : Int) : Nat → List Int
  | 0 => []
  | k + 1 => IntKind.wrap .u8 (shrBy .u64 (bitl n) (8 * (k : Int))) :: tailB n k
def padB (n : Int) : List Int := [128] ++ List.replicate ((119 - n % 64) % 64).toNat 0 ++ tailB n 8
theorem tailB_len (n : Int) : ∀ k, (tailB n k).length = k
  | 0 => rfl
  | k + 1 => by simp [tailB, tailB_len n k]
theorem w8_b (x : Int) : 0 ≤ IntKind.wrap .u8 x ∧ IntKind.wrap .u8 x < 256 := by rw [wu8]; omega
theorem tailB_bts (n : Int) : ∀ k, Bts (tailB n k)
  | 0 => Bts.nil
  | k + 1 => Bts.cons (w8_b _) (tailB_bts n k)
theorem padB_bts (n : Int) : Bts (padB n) := by
  refine Bts.append (Bts.append (Bts.cons (by omega) Bts.nil) (fun x hx => ?_)) (tailB_bts n 8)
  have := (List.mem_replicate.1 hx).2; omega
theorem padB_len (n : Int) (h : 0 ≤ n) : ((n + (padB n).length) % 64 = 0 ∧ (padB n).length ≤ 72) := by
  simp only [padB, List.length_append, List.length_cons, List.length_nil, List.length_replicate, tailB_len]
  omega
theorem sha_pad_c1_spec (n : Int) : ∀ (k : Nat) (h : List Int), k ≤ 8 → h.length + k ≤ 1000 → sha_pad_c1 n (8 * (k : Int) - 8) h = some (h ++ tailB n k)
  | 0, h, hk, hl => by
    rw [sha_pad_c1_eq, if_neg (by simp)]
    simp [tailB]
  | k + 1, h, hk, hl => by
    have e : 8 * ((k + 1 : Nat) : Int) - 8 = 8 * (k : Int) := by omega
    rw [e, sha_pad_c1_eq, if_pos (by simp; omega), gd_pos (by omega), gd_pos (by simp; omega), w64 (by omega) (by omega), sha_pad_c1_spec n k _ (by omega) (by simp; omega)]
    simp [tailB, bitl]
theorem sha_pad_spec (n : Int) (h : 0 ≤ n) : sha_pad n = some (padB n) := by
  rw [sha_pad_eq, gd_pos (by omega), gd_pos (by omega), tmod_nn h, w64 (by omega) (by omega), tmod_nn (by omega), gd_pos (by omega), gd_pos (by omega), gd_pos (by omega), gd_pos (by simp; omega)]
  have := sha_pad_c1_spec n 8 ([128] ++ List.replicate ((119 - n % 64) % 64).toNat 0) (by omega) (by simp; omega)
  exact this
theorem pad_c2_spec (n : Int) : ∀ (k : Nat) (h : List Int), k ≤ 8 → h.length + k ≤ 1000 → bitloftref01_Padding_c2 n ((k : Int) - 1) h = some (h ++ tailB n k)
  | 0, h, hk, hl => by
    rw [bitloftref01_Padding_c2_eq, if_neg (by simp)]
    simp [tailB]
  | k + 1, h, hk, hl => by
    have e : ((k + 1 : Nat) : Int) - 1 = (k : Int) := by omega
    rw [e, bitloftref01_Padding_c2_eq, if_pos (by simp), w64 (x := 8 * (k : Int)) (by omega) (by omega), gd_pos (by omega), gd_pos (by simp; omega), w64 (x := (k : Int) - 1) (by omega) (by omega), pad_c2_spec n k _ (by omega) (by simp; omega)]
    have e2 : (8 : Int) * IntKind.wrap .u64 n = IntKind.wrap .u64 n * 8 := Int.mul_comm _ _
    simp [tailB, bitl, e2]
theorem pad_c1_spec (n : Int) (hn : 0 ≤ n ∧ n ≤ 1000000000) : ∀ (j : Nat) (h : List Int), j < 64 → h.length + j ≤ 200 → (n + h.length + 8 + j) % 64 = 0 → bitloftref01_Padding_c1 n h = some (h ++ List.replicate j 0 ++ tailB n 8)
  | 0, h, hj, hl, hm => by
    rw [bitloftref01_Padding_c1_eq, gd_pos (by omega)]
    have hl' : Int.ofNat h.length = (h.length : Int) := rfl
    rw [hl', w64 (x := n + (h.length : Int)) (by omega) (by omega), w64 (by omega) (by omega), tmod_nn (by omega), if_neg (by simp; omega)]
    have := pad_c2_spec n 8 h (by omega) (by omega)
    simpa using this
  | j + 1, h, hj, hl, hm => by
    rw [bitloftref01_Padding_c1_eq, gd_pos (by omega)]
    have hl' : Int.ofNat h.length = (h.length : Int) := rfl
    rw [hl', w64 (x := n + (h.length : Int)) (by omega) (by omega), w64 (by omega) (by omega), tmod_nn (by omega), if_pos (by simp; omega), gd_pos (by simp; omega), pad_c1_spec n hn j (h ++ [0]) (by omega) (by simp; omega) (by simp; omega)]
    simp [List.replicate_succ]
theorem padding_spec (n : Int) (hn : 0 ≤ n ∧ n ≤ 1000000000) : bitloftref01_Padding n = some (padB n) := by
  rw [bitloftref01_Padding_eq, pad_c1_spec n hn ((119 - n % 64) % 64).toNat [128] (by omega) (by simp; omega) (by simp; omega)]
  rfl
/-- One slice behind the other. -/
theorem concat_two (a b : List Int) (h : a.length + b.length ≤ 1000000) : slices_Concat_byte_byte [a, b] = some (a ++ b) := by
  have ha : Int.ofNat a.length = (a.length : Int) := rfl
  have hb : Int.ofNat b.length = (b.length : Int) := rfl
  rw [slices_Concat_byte_byte_eq]
  rw [slices_Concat_byte_byte_c1_eq, if_pos (by simp), gd_pos (by omega), gd_pos (by simp)]
  simp only [List.getD_cons_zero, Int.toNat_zero, ha]
  rw [w64 (x := 0 + (a.length : Int)) (by omega) (by omega), if_neg (by simp), w64 (x := 0 + 1) (by omega) (by omega)]
  rw [slices_Concat_byte_byte_c1_eq, if_pos (by simp), gd_pos (by omega), gd_pos (by simp)]
  simp only [show (0 + 1 : Int).toNat = 1 from rfl, List.getD_cons_succ, List.getD_cons_zero, hb]
  rw [w64 (x := 0 + (a.length : Int) + (b.length : Int)) (by omega) (by omega), if_neg (by simp <;> omega), w64 (x := 0 + 1 + 1) (by omega) (by omega)]
  rw [slices_Concat_byte_byte_c1_eq, if_neg (by simp)]
  have hg : ∃ r, slices_Grow_byte_byte (0 + (a.length : Int) + (b.length : Int)) = some (r, 0, 0) := by
    rw [slices_Grow_byte_byte_eq, if_neg (by simp; omega), w64 (by omega) (by omega)]
    by_cases hz : (0 + (a.length : Int) + (b.length : Int)) - 0 > 0
    · rw [if_pos (by simpa using hz), gd_pos (by omega), gd_pos (by omega), gd_pos (by omega), gd_pos (by omega), gd_pos (by omega), gd_pos (by simp; omega), gd_pos (by omega), gd_pos (by simp; omega)]
      exact ⟨_, rfl⟩
    · rw [if_neg (by simpa using hz)]; exact ⟨_, rfl⟩
  obtain ⟨r, hr⟩ := hg
  rw [hr]
  simp only [Option.bind_some]
  rw [slices_Concat_byte_byte_c2_eq, if_pos (by simp), gd_pos (by omega), gd_pos (by simp), gd_pos (by simp; omega), w64 (by omega) (by omega)]
  simp only [List.getD_cons_zero, Int.toNat_zero, List.take_zero, List.nil_append]
  rw [slices_Concat_byte_byte_c3_eq, if_pos (by simp), gd_pos (by omega), gd_pos (by simp), gd_pos (by simp; omega), w64 (by omega) (by omega)]
  rw [slices_Concat_byte_byte_c3_eq, if_neg (by simp)]
  rfl
end Go.Ab

set_option linter.unusedVariables false
set_option linter.unusedSimpArgs false
set_option maxHeartbeats 1000000
namespace Go.Ab
attribute [local irreducible] IntKind.wrap
/-! ### 3. Words -/
def bt (x b : Int) : Int := IntKind.wrap .u32 (IntKind.wrap .u32 (x * 256) + IntKind.wrap .u32 b)
theorem bt_u (x b : Int) : U32 (bt x b) := w_u _
def wordB (b : List Int) (t : Nat) : Int := bt (bt (bt (IntKind.wrap .u32 (b.getD (4 * t) 0)) (b.getD (4 * t + 1) 0)) (b.getD (4 * t + 2) 0)) (b.getD (4 * t + 3) 0)
def wordsB (b : List Int) (t : Nat) : Nat → List Int
  | 0 => []
  | k + 1 => wordB b t :: wordsB b (t + 1) k
theorem wordsB_len (b : List Int) : ∀ (k t : Nat), (wordsB b t k).length = k
  | 0, t => rfl
  | k + 1, t => by simp [wordsB, wordsB_len b k]
theorem done_c1 (b : List Int) (hb : b.length = 64) (x y : List Int) : ∀ (k t : Nat) (h : List Int), t + k = 16 → h.length = t → bitloftref01_Done_c1 b (t : Int) x y h = bitloftref01_Done_c2 16 x y (h ++ wordsB b t k)
  | 0, t, h, e, hl => by
    rw [bitloftref01_Done_c1_eq, if_neg (by simp; omega)]
    simp [wordsB]
  | k + 1, t, h, e, hl => by
    have hb' : Int.ofNat b.length = 64 := by rw [hb]; rfl
    have e0 : ((4 : Int) * (t : Int)).toNat = 4 * t := by omega
    have e1 : ((4 : Int) * (t : Int) + 1).toNat = 4 * t + 1 := by omega
    have e2 : ((4 : Int) * (t : Int) + 2).toNat = 4 * t + 2 := by omega
    have e3 : ((4 : Int) * (t : Int) + 3).toNat = 4 * t + 3 := by omega
    rw [bitloftref01_Done_c1_eq, if_pos (by simp; omega), hb']
    simp only [w64 (x := 4 * (t : Int)) (by omega) (by omega), w64 (x := 4 * (t : Int) + 1) (by omega) (by omega), w64 (x := 4 * (t : Int) + 2) (by omega) (by omega), w64 (x := 4 * (t : Int) + 3) (by omega) (by omega), w64 (x := (t : Int) + 1) (by omega) (by omega), e0, e1, e2, e3]
    rw [gd_pos (by omega), gd_pos (by omega), gd_pos (by omega), gd_pos (by omega), gd_pos (by omega), gd_pos (by omega), gd_pos (by omega), gd_pos (by omega), gd_pos (by simp; omega)]
    have ih := done_c1 b hb x y k (t + 1) (h ++ [wordB b t]) (by omega) (by simp; omega)
    have ec : ((t + 1 : Nat) : Int) = (t : Int) + 1 := by omega
    rw [ec] at ih
    simp only [List.append_assoc, List.singleton_append] at ih
    exact ih
theorem set_mid (W : List Int) (x v : Int) (R : List Int) : (W ++ x :: R).set W.length v = W ++ v :: R := by
  induction W with
  | nil => rfl
  | cons a W ih => simp [ih]
theorem get_mid (W : List Int) (x : Int) (R : List Int) : (W ++ x :: R).getD W.length 0 = x := by
  induction W with
  | nil => rfl
  | cons a W ih => simp
theorem bts_get {b : List Int} (h : Bts b) (i : Nat) : 0 ≤ b.getD i 0 ∧ b.getD i 0 < 256 := by
  rw [List.getD_eq_getElem?_getD]
  cases hi : b[i]? with
  | none => simp
  | some x => exact h x (List.mem_of_getElem? hi)
/-- One byte of a word. -/
theorem do_byte (b : List Int) (hb : b.length = 64) (hB : Bts b) (x y W R : List Int) (i t : Nat) (v : Int) (hv : U32 v) (hi : i < 64) (ht : i / 4 = t) (hW : W.length = t) :
    sha_do_c1 b 64 (i : Int) x y (W ++ v :: R) = sha_do_c1 b 64 ((i : Int) + 1) x y (W ++ bt v (b.getD i 0) :: R) := by
  have hb' : Int.ofNat b.length = 64 := by rw [hb]; rfl
  have e : (IntKind.wrap .i64 (Int.tdiv (i : Int) 4)) = (t : Int) := by
    rw [tdiv_nn (by omega), w64 (by omega) (by omega)]; omega
  rw [sha_do_c1_eq, if_pos (by simp; omega), hb', e]
  rw [gd_pos (by omega), gd_pos (by omega), gd_pos (by omega), gd_pos (by omega), gd_pos (by omega), gd_pos (by omega), gd_pos (by omega), gd_pos (by omega), gd_pos (by omega)]
  have et : ((t : Int)).toNat = W.length := by omega
  have ei : ((i : Int)).toNat = i := by omega
  rw [et, ei, get_mid, set_mid, or_byte hv (bts_get hB i), w64 (x := (i : Int) + 1) (by omega) (by omega)]
  rfl
theorem do_c1 (b : List Int) (hb : b.length = 64) (hB : Bts b) (x y : List Int) : ∀ (k t : Nat) (W : List Int), t + k = 16 → W.length = t →
    sha_do_c1 b 64 (4 * (t : Int)) x y (W ++ List.replicate k 0) = sha_do_c1 b 64 64 x y (W ++ wordsB b t k)
  | 0, t, W, e, hl => by
    have : 4 * (t : Int) = 64 := by omega
    rw [this]; rfl
  | k + 1, t, W, e, hl => by
    have c : ∀ j : Nat, ((4 * t + j : Nat) : Int) = 4 * (t : Int) + (j : Int) := fun j => by omega
    have s0 := do_byte b hb hB x y W (List.replicate k 0) (4 * t) t 0 (by unfold U32; omega) (by omega) (by omega) hl
    have s1 := do_byte b hb hB x y W (List.replicate k 0) (4 * t + 1) t (bt 0 (b.getD (4 * t) 0)) (bt_u _ _) (by omega) (by omega) hl
    have s2 := do_byte b hb hB x y W (List.replicate k 0) (4 * t + 2) t (bt (bt 0 (b.getD (4 * t) 0)) (b.getD (4 * t + 1) 0)) (bt_u _ _) (by omega) (by omega) hl
    have s3 := do_byte b hb hB x y W (List.replicate k 0) (4 * t + 3) t (bt (bt (bt 0 (b.getD (4 * t) 0)) (b.getD (4 * t + 1) 0)) (b.getD (4 * t + 2) 0)) (bt_u _ _) (by omega) (by omega) hl
    rw [show ((4 * t : Nat) : Int) = 4 * (t : Int) by omega] at s0
    rw [show ((4 * t + 1 : Nat) : Int) = 4 * (t : Int) + 1 by omega] at s1
    rw [show ((4 * t + 2 : Nat) : Int) = 4 * (t : Int) + 1 + 1 by omega] at s2
    rw [show ((4 * t + 3 : Nat) : Int) = 4 * (t : Int) + 1 + 1 + 1 by omega] at s3
    have h0 : bt 0 (b.getD (4 * t) 0) = IntKind.wrap .u32 (b.getD (4 * t) 0) := by
      have := bts_get hB (4 * t)
      simp only [bt, wu32]; omega
    rw [List.replicate_succ, s0, s1, s2, s3, h0]
    have ih := do_c1 b hb hB x y k (t + 1) (W ++ [wordB b t]) (by omega) (by simp; omega)
    rw [show 4 * ((t + 1 : Nat) : Int) = 4 * (t : Int) + 1 + 1 + 1 + 1 by omega] at ih
    simp only [List.append_assoc, List.singleton_append] at ih
    exact ih
/-! ### 4. The schedule -/
def nextW (a b c d : Int) : Int := rot (bitsXor .u32 (bitsXor .u32 (bitsXor .u32 a b) c) d) 1
def sch : Nat → List Int → List Int
  | 0, h => h
  | k + 1, h => sch k (h ++ [nextW (h.getD (h.length - 3) 0) (h.getD (h.length - 8) 0) (h.getD (h.length - 14) 0) (h.getD (h.length - 16) 0)])
theorem sch_len : ∀ (k : Nat) (h : List Int), (sch k h).length = h.length + k
  | 0, h => rfl
  | k + 1, h => by rw [sch, sch_len k]; simp; omega
theorem getD_left {h r : List Int} {t : Nat} (ht : t < h.length) : (h ++ r).getD t 0 = h.getD t 0 := by
  simp [List.getD_eq_getElem?_getD, List.getElem?_append_left ht]
theorem sch_pre : ∀ (k : Nat) (h : List Int) (t : Nat), t < h.length → (sch k h).getD t 0 = h.getD t 0
  | 0, h, t, ht => rfl
  | k + 1, h, t, ht => by
    rw [sch, sch_pre k _ t (by simp; omega), getD_left ht]
theorem sch_at : ∀ (k : Nat) (h : List Int) (t : Nat), 16 ≤ h.length → h.length ≤ t → t < h.length + k →
    (sch k h).getD t 0 = nextW ((sch k h).getD (t - 3) 0) ((sch k h).getD (t - 8) 0) ((sch k h).getD (t - 14) 0) ((sch k h).getD (t - 16) 0)
  | 0, h, t, h1, h2, h3 => by omega
  | k + 1, h, t, h1, h2, h3 => by
    by_cases he : t = h.length
    · subst he
      rw [sch]
      rw [sch_pre k _ h.length (by simp), sch_pre k _ (h.length - 3) (by simp; omega), sch_pre k _ (h.length - 8) (by simp; omega), sch_pre k _ (h.length - 14) (by simp; omega), sch_pre k _ (h.length - 16) (by simp; omega)]
      rw [get_mid, getD_left (by omega), getD_left (by omega), getD_left (by omega), getD_left (by omega)]
    · rw [sch]
      exact sch_at k _ t (by simp; omega) (by simp; omega) (by simp; omega)
theorem done_c2 (x y : List Int) : ∀ (k t : Nat) (h : List Int), t + k = 80 → 16 ≤ t → h.length = t → bitloftref01_Done_c2 (t : Int) x y h = bitloftref01_Done_c3 0 x y (sch k h) x
  | 0, t, h, e, h1, hl => by
    rw [bitloftref01_Done_c2_eq, if_neg (by simp; omega)]; rfl
  | k + 1, t, h, e, h1, hl => by
    have hl' : Int.ofNat h.length = (t : Int) := by rw [hl]; rfl
    rw [bitloftref01_Done_c2_eq, if_pos (by simp; omega), hl']
    simp only [w64 (x := (t : Int) - 3) (by omega) (by omega), w64 (x := (t : Int) - 8) (by omega) (by omega), w64 (x := (t : Int) - 14) (by omega) (by omega), w64 (x := (t : Int) - 16) (by omega) (by omega), w64 (x := (t : Int) + 1) (by omega) (by omega)]
    rw [gd_pos (by omega), gd_pos (by omega), gd_pos (by omega), gd_pos (by omega), gd_pos (by omega), gd_pos (by omega), gd_pos (by omega), gd_pos (by omega)]
    rw [show 0 + ((t : Int) - 3).toNat = h.length - 3 by omega, show 0 + ((t : Int) - 8).toNat = h.length - 8 by omega, show 0 + ((t : Int) - 14).toNat = h.length - 14 by omega, show 0 + ((t : Int) - 16).toNat = h.length - 16 by omega]
    rw [turn_spec _ 1 (by omega)]
    simp only [Option.bind_some]
    rw [gd_pos (by simp; omega)]
    have ih := done_c2 x y k (t + 1) (h ++ [nextW (h.getD (h.length - 3) 0) (h.getD (h.length - 8) 0) (h.getD (h.length - 14) 0) (h.getD (h.length - 16) 0)]) (by omega) (by omega) (by simp; omega)
    rw [show ((t + 1 : Nat) : Int) = (t : Int) + 1 by omega] at ih
    exact ih
end Go.Ab

set_option linter.unusedVariables false
set_option linter.unusedSimpArgs false
set_option maxHeartbeats 1000000
namespace Go.Ab
attribute [local irreducible] IntKind.wrap
/-! ### 5. Rounds -/
def ff (t : Nat) (b c d : Int) : Int × Int :=
  if t < 20 then (bitsOr .u32 (bitsAnd .u32 b c) (bitsAnd .u32 (bitsXor .u32 4294967295 b) d), 1518500249)
  else if t < 40 then (bitsXor .u32 (bitsXor .u32 b c) d, 1859775393)
  else if t < 60 then (bitsOr .u32 (bitsOr .u32 (bitsAnd .u32 b c) (bitsAnd .u32 b d)) (bitsAnd .u32 c d), 2400959708)
  else (bitsXor .u32 (bitsXor .u32 b c) d, 3395469782)
theorem part_spec (t : Nat) (b c d : Int) : bitloftref01_part (t : Int) b c d = some (ff t b c d) := by
  rw [bitloftref01_part_eq]
  unfold ff
  by_cases h1 : t < 20
  · rw [if_pos (by simp; omega), if_pos h1]
  · rw [if_neg (by simp; omega), if_neg h1]
    by_cases h2 : t < 40
    · rw [if_pos (by simp; omega), if_pos h2]
    · rw [if_neg (by simp; omega), if_neg h2]
      by_cases h3 : t < 60
      · rw [if_pos (by simp; omega), if_pos h3]
      · rw [if_neg (by simp; omega), if_neg h3]
theorem mix_spec (t : Nat) (b c d : Int) (ht : t < 80) : sha_mix (IntKind.wrap .i64 (Int.tdiv (t : Int) 20)) b c d = some (ff t b c d).1 ∧ G_quarters.getD (IntKind.wrap .i64 (Int.tdiv (t : Int) 20)).toNat 0 = (ff t b c d).2 ∧ 0 ≤ IntKind.wrap .i64 (Int.tdiv (t : Int) 20) ∧ IntKind.wrap .i64 (Int.tdiv (t : Int) 20) < 4 := by
  have e : IntKind.wrap .i64 (Int.tdiv (t : Int) 20) = ((t / 20 : Nat) : Int) := by
    rw [tdiv_nn (by omega), w64 (by omega) (by omega)]; omega
  rw [e, sha_mix_eq]
  unfold ff
  by_cases h1 : t < 20
  · have : t / 20 = 0 := by omega
    rw [this, if_pos (by simp), if_pos h1, ch_eq]
    exact ⟨rfl, rfl, by omega, by omega⟩
  · rw [if_neg h1]
    by_cases h2 : t < 40
    · have : t / 20 = 1 := by omega
      rw [this, if_neg (by simp), if_neg (by simp), if_pos h2]
      exact ⟨rfl, rfl, by omega, by omega⟩
    · rw [if_neg h2]
      by_cases h3 : t < 60
      · have : t / 20 = 2 := by omega
        rw [this, if_neg (by simp), if_pos (by simp), if_pos h3, maj_eq]
        exact ⟨rfl, rfl, by omega, by omega⟩
      · have : t / 20 = 3 := by omega
        rw [this, if_neg (by simp), if_neg (by simp), if_neg h3]
        exact ⟨rfl, rfl, by omega, by omega⟩
structure S5 where
  a : Int
  b : Int
  c : Int
  d : Int
  e : Int
def S5.l (s : S5) : List Int := [s.a, s.b, s.c, s.d, s.e]
def rd (t : Nat) (w : Int) (s : S5) : S5 :=
  ⟨IntKind.wrap .u32 (IntKind.wrap .u32 (IntKind.wrap .u32 (IntKind.wrap .u32 (rot s.a 5 + (ff t s.b s.c s.d).1) + s.e) + (ff t s.b s.c s.d).2) + w), s.a, rot s.b 30, s.c, s.d⟩
def rnds (W : List Int) : Nat → Nat → S5 → S5
  | 0, _, s => s
  | k + 1, t, s => rnds W k (t + 1) (rd t (W.getD t 0) s)
theorem done_c3 (x y W : List Int) (hW : W.length = 80) : ∀ (k t : Nat) (s : S5), t + k = 80 → bitloftref01_Done_c3 (t : Int) x y W s.l = bitloftref01_Done_c4 0 x y (rnds W k t s).l
  | 0, t, s, e => by
    rw [bitloftref01_Done_c3_eq, if_neg (by simp; omega)]; rfl
  | k + 1, t, s, e => by
    have hl' : Int.ofNat W.length = 80 := by rw [hW]; rfl
    have g0 : s.l.getD 0 0 = s.a := rfl
    have g1 : s.l.getD 1 0 = s.b := rfl
    have g2 : s.l.getD 2 0 = s.c := rfl
    have g3 : s.l.getD 3 0 = s.d := rfl
    have g4 : s.l.getD 4 0 = s.e := rfl
    rw [bitloftref01_Done_c3_eq, if_pos (by simp; omega), hl']
    simp only [g0, g1, g2, g3, g4, part_spec, turn_spec _ 5 (by omega), turn_spec _ 30 (by omega), Option.bind_some, w64 (x := (t : Int) + 1) (by omega) (by omega), show 0 + ((t : Int)).toNat = t by omega]
    repeat rw [gd_pos (by omega)]
    have ih := done_c3 x y W hW k (t + 1) (rd t (W.getD t 0) s) (by omega)
    rw [show ((t + 1 : Nat) : Int) = (t : Int) + 1 by omega] at ih
    exact ih
def addF (x : List Int) (s : S5) : List Int := [IntKind.wrap .u32 (x.getD 0 0 + s.a), IntKind.wrap .u32 (x.getD 1 0 + s.b), IntKind.wrap .u32 (x.getD 2 0 + s.c), IntKind.wrap .u32 (x.getD 3 0 + s.d), IntKind.wrap .u32 (x.getD 4 0 + s.e)]
theorem done_c4 (y : List Int) (x s : S5) : bitloftref01_Done_c4 0 x.l y s.l = some (addF x.l s) := by
  have g : ∀ s : S5, s.l.getD 0 0 = s.a ∧ s.l.getD 1 0 = s.b ∧ s.l.getD 2 0 = s.c ∧ s.l.getD 3 0 = s.d ∧ s.l.getD 4 0 = s.e := fun s => ⟨rfl, rfl, rfl, rfl, rfl⟩
  have n1 : IntKind.wrap .i64 (0 + 1) = 1 := by kernel_rfl
  have n2 : IntKind.wrap .i64 (1 + 1) = 2 := by kernel_rfl
  have n3 : IntKind.wrap .i64 (2 + 1) = 3 := by kernel_rfl
  have n4 : IntKind.wrap .i64 (3 + 1) = 4 := by kernel_rfl
  have n5 : IntKind.wrap .i64 (4 + 1) = 5 := by kernel_rfl
  rw [bitloftref01_Done_c4_eq, if_pos (by simp), n1]
  repeat rw [gd_pos (by omega)]
  rw [bitloftref01_Done_c4_eq, if_pos (by simp), n2]
  repeat rw [gd_pos (by omega)]
  rw [bitloftref01_Done_c4_eq, if_pos (by simp), n3]
  repeat rw [gd_pos (by omega)]
  rw [bitloftref01_Done_c4_eq, if_pos (by simp), n4]
  repeat rw [gd_pos (by omega)]
  rw [bitloftref01_Done_c4_eq, if_pos (by simp), n5]
  repeat rw [gd_pos (by omega)]
  rw [bitloftref01_Done_c4_eq, if_neg (by simp)]
  rfl
/-- A block. -/
def blk (x : S5) (b : List Int) : S5 :=
  let s := rnds (sch 64 (wordsB b 0 16)) 80 0 x
  ⟨IntKind.wrap .u32 (x.a + s.a), IntKind.wrap .u32 (x.b + s.b), IntKind.wrap .u32 (x.c + s.c), IntKind.wrap .u32 (x.d + s.d), IntKind.wrap .u32 (x.e + s.e)⟩
theorem Done_spec (x : S5) (b : List Int) (hb : b.length = 64) : bitloftref01_Done x.l b = some (blk x b).l := by
  have h1 := done_c1 b hb x.l (List.replicate 5 0) 16 0 [] rfl rfl
  have h2 := done_c2 x.l (List.replicate 5 0) 64 16 (wordsB b 0 16) rfl (by omega) (wordsB_len b 16 0)
  have h3 := done_c3 x.l (List.replicate 5 0) (sch 64 (wordsB b 0 16)) (by rw [sch_len, wordsB_len]) 80 0 x rfl
  rw [bitloftref01_Done_eq]
  refine h1.trans ?_
  rw [List.nil_append]
  refine Eq.trans h2 (Eq.trans h3 ?_)
  rw [done_c4]; rfl
/-- Sixteen words in a ring. -/
def Ring (W : List Int) (t : Nat) (r : List Int) : Prop := r.length = 16 ∧ ∀ i, i < max t 16 → max t 16 ≤ i + 16 → r.getD (i % 16) 0 = W.getD i 0
theorem getD_set {r : List Int} {i j : Nat} {v : Int} (hi : i < r.length) : (r.set i v).getD j 0 = if i = j then v else r.getD j 0 := by
  simp only [List.getD_eq_getElem?_getD, List.getElem?_set]
  by_cases h : i = j
  · subst h; simp [hi]
  · simp [h]
theorem do_c2 (x y W : List Int) (hW : ∀ t, 16 ≤ t → t < 80 → W.getD t 0 = nextW (W.getD (t - 3) 0) (W.getD (t - 8) 0) (W.getD (t - 14) 0) (W.getD (t - 16) 0)) :
    ∀ (k t : Nat) (s : S5) (r : List Int), t + k = 80 → Ring W t r → sha_do_c2 s.a s.b s.c s.d s.e (t : Int) x y r = some (addF x (rnds W k t s))
  | 0, t, s, r, e, hr => by
    rw [sha_do_c2_eq, if_neg (by simp; omega)]
    repeat rw [gd_pos (by omega)]
    rfl
  | k + 1, t, s, r, e, hr => by
    obtain ⟨m1, m2, m3, m4⟩ := mix_spec t s.b s.c s.d (by omega)
    obtain ⟨r1, r5, r30⟩ := rotl_spec s.a
    obtain ⟨_, _, q30⟩ := rotl_spec s.b
    have et : (Int.tmod (t : Int) 16) = ((t % 16 : Nat) : Int) := by rw [tmod_nn (by omega)]; omega
    have ett : (((t % 16 : Nat) : Int)).toNat = t % 16 := by omega
    rw [sha_do_c2_eq, if_pos (by simp; omega)]
    by_cases h16 : 16 ≤ t
    · have e13 : (Int.tmod (IntKind.wrap .i64 ((t : Int) + 13)) 16) = (((t - 3) % 16 : Nat) : Int) := by rw [w64 (by omega) (by omega), tmod_nn (by omega)]; omega
      have e8 : (Int.tmod (IntKind.wrap .i64 ((t : Int) + 8)) 16) = (((t - 8) % 16 : Nat) : Int) := by rw [w64 (by omega) (by omega), tmod_nn (by omega)]; omega
      have e2 : (Int.tmod (IntKind.wrap .i64 ((t : Int) + 2)) 16) = (((t - 14) % 16 : Nat) : Int) := by rw [w64 (by omega) (by omega), tmod_nn (by omega)]; omega
      have e0 : t % 16 = (t - 16) % 16 := by omega
      have v13 := hr.2 (t - 3) (by omega) (by omega)
      have v8 := hr.2 (t - 8) (by omega) (by omega)
      have v2 := hr.2 (t - 14) (by omega) (by omega)
      have v0 := hr.2 (t - 16) (by omega) (by omega)
      rw [← e0] at v0
      have hn : rot (bitsXor .u32 (bitsXor .u32 (bitsXor .u32 (r.getD ((t - 3) % 16) 0) (r.getD ((t - 8) % 16) 0)) (r.getD ((t - 14) % 16) 0)) (r.getD (t % 16) 0)) 1 = W.getD t 0 := by
        rw [v13, v8, v2, v0, hW t h16 (by omega)]; rfl
      rw [if_pos (by simp; omega)]
      simp only [et, e13, e8, e2, (rotl_spec _).1, r5, q30, m1, m2, Option.bind_some, w64 (x := (t : Int) + 1) (by omega) (by omega), Int.toNat_natCast, hn]
      repeat rw [gd_pos (by omega)]
      have hr' : Ring W (t + 1) (r.set (t % 16) (W.getD t 0)) := by
        refine ⟨by simp [hr.1], fun i h1 h2 => ?_⟩
        rw [getD_set (by rw [hr.1]; omega)]
        by_cases hi : i = t
        · subst hi; rw [if_pos rfl]
        · rw [if_neg (by omega)]
          exact hr.2 i (by omega) (by omega)
      have hg : (r.set (t % 16) (W.getD t 0)).getD (t % 16) 0 = W.getD t 0 := by
        rw [getD_set (by rw [hr.1]; omega), if_pos rfl]
      have ih := do_c2 x y W hW k (t + 1) (rd t (W.getD t 0) s) _ (by omega) hr'
      rw [show ((t + 1 : Nat) : Int) = (t : Int) + 1 by omega] at ih
      rw [hg]
      exact ih
    · have v0 := hr.2 t (by omega) (by omega)
      rw [if_neg (by simp; omega)]
      simp only [et, r5, q30, m1, m2, Option.bind_some, w64 (x := (t : Int) + 1) (by omega) (by omega), Int.toNat_natCast, v0]
      repeat rw [gd_pos (by omega)]
      have hr' : Ring W (t + 1) r := ⟨hr.1, fun i h1 h2 => hr.2 i (by omega) (by omega)⟩
      have ih := do_c2 x y W hW k (t + 1) (rd t (W.getD t 0) s) _ (by omega) hr'
      rw [show ((t + 1 : Nat) : Int) = (t : Int) + 1 by omega] at ih
      exact ih
theorem do_spec (x : S5) (b : List Int) (hb : 64 ≤ b.length) (hB : Bts b) : sha_do x.l b = some (blk x (b.take 64)).l := by
  have hl : (b.take 64).length = 64 := by simp; omega
  have hl' : Int.ofNat (b.take 64).length = 64 := by rw [hl]; rfl
  rw [sha_do_eq, gd_pos (by omega), gd_pos (by simp; omega), hl']
  have h1 := do_c1 (b.take 64) hl (hB.take 64) x.l (List.replicate 5 0) 16 0 [] rfl rfl
  refine Eq.trans h1 ?_
  rw [List.nil_append, sha_do_c1_eq, if_neg (by simp)]
  repeat rw [gd_pos (by omega)]
  have hW : ∀ t, 16 ≤ t → t < 80 → _ := fun t h1 h2 => sch_at 64 (wordsB (b.take 64) 0 16) t (by rw [wordsB_len]; omega) (by rw [wordsB_len]; exact h1) (by rw [wordsB_len]; omega)
  have h2 := do_c2 x.l (List.replicate 5 0) (sch 64 (wordsB (b.take 64) 0 16)) hW 80 0 x (wordsB (b.take 64) 0 16) rfl ⟨wordsB_len _ _ _, fun i h1 h2 => by
    have hi : i < 16 := by omega
    rw [sch_pre 64 _ i (by rw [wordsB_len]; exact hi), Nat.mod_eq_of_lt hi]⟩
  refine Eq.trans h2 ?_
  rfl
end Go.Ab

set_option linter.unusedVariables false
set_option linter.unusedSimpArgs false
set_option maxHeartbeats 1000000
namespace Go.Ab
attribute [local irreducible] IntKind.wrap
/-! ### 6. The sum's bytes -/
def outAt (l : List Int) (i : Nat) : Int := IntKind.wrap .u8 (shrBy .u32 (l.getD (i / 4) 0) (24 - 8 * ((i % 4 : Nat) : Int)))
def outs (l : List Int) (t : Nat) : Nat → List Int
  | 0 => []
  | k + 1 => outAt l t :: outs l (t + 1) k
theorem outs_len (l : List Int) : ∀ (k t : Nat), (outs l t k).length = k
  | 0, t => rfl
  | k + 1, t => by simp [outs, outs_len l k]
theorem outs_bts (l : List Int) : ∀ (k t : Nat), Bts (outs l t k)
  | 0, t => Bts.nil
  | k + 1, t => Bts.cons (w8_b _) (outs_bts l k _)
theorem of_c2 (x l : List Int) : ∀ (k t : Nat) (P : List Int), t + k = 20 → P.length = t → bitloftref01_Of_c2 (t : Int) x l (P ++ List.replicate k 0) = some (P ++ outs l t k)
  | 0, t, P, e, hl => by
    rw [bitloftref01_Of_c2_eq, if_neg (by simp; omega)]; rfl
  | k + 1, t, P, e, hl => by
    have e1 : IntKind.wrap .i64 (Int.tdiv (t : Int) 4) = ((t / 4 : Nat) : Int) := by
      rw [tdiv_nn (by omega), w64 (by omega) (by omega)]; omega
    have e2 : IntKind.wrap .i64 (8 * (Int.tmod (t : Int) 4)) = 8 * ((t % 4 : Nat) : Int) := by
      rw [tmod_nn (by omega), w64 (by omega) (by omega)]; omega
    have e3 : IntKind.wrap .i64 (24 - 8 * ((t % 4 : Nat) : Int)) = 24 - 8 * ((t % 4 : Nat) : Int) := w64 (by omega) (by omega)
    rw [bitloftref01_Of_c2_eq, if_pos (by simp; omega), e1, e2, e3, w64 (x := (t : Int) + 1) (by omega) (by omega)]
    repeat rw [gd_pos (by omega)]
    rw [show ((t : Int)).toNat = P.length by omega, show (((t / 4 : Nat) : Int)).toNat = t / 4 by omega, List.replicate_succ, set_mid]
    have ih := of_c2 x l k (t + 1) (P ++ [outAt l t]) (by omega) (by simp; omega)
    rw [show ((t + 1 : Nat) : Int) = (t : Int) + 1 by omega] at ih
    simp only [List.append_assoc, List.singleton_append] at ih
    exact ih
theorem sum_c2 (l : List Int) : ∀ (k t : Nat) (P : List Int), t + k = 5 → P.length = 4 * t → sha_Sum_c2 l (t : Int) (P ++ List.replicate (4 * k) 0) = some (P ++ outs l (4 * t) (4 * k), 0)
  | 0, t, P, e, hl => by
    rw [sha_Sum_c2_eq, if_neg (by simp; omega)]; rfl
  | k + 1, t, P, e, hl => by
    rw [sha_Sum_c2_eq, if_pos (by simp; omega)]
    simp only [w64 (x := 4 * (t : Int)) (by omega) (by omega), w64 (x := 4 * (t : Int) + 1) (by omega) (by omega), w64 (x := 4 * (t : Int) + 2) (by omega) (by omega), w64 (x := 4 * (t : Int) + 3) (by omega) (by omega), w64 (x := (t : Int) + 1) (by omega) (by omega)]
    repeat rw [gd_pos (by omega)]
    rw [show ((t : Int)).toNat = t by omega, show (4 * (t : Int)).toNat = P.length by omega]
    have s0 : IntKind.wrap .u8 (Int.fdiv (l.getD t 0) 16777216) = outAt l (4 * t) := by
      unfold outAt shrBy
      rw [show 4 * t / 4 = t by omega, show 4 * t % 4 = 0 by omega]; rfl
    have s1 : IntKind.wrap .u8 (Int.fdiv (l.getD t 0) 65536) = outAt l (4 * t + 1) := by
      unfold outAt shrBy
      rw [show (4 * t + 1) / 4 = t by omega, show (4 * t + 1) % 4 = 1 by omega]; rfl
    have s2 : IntKind.wrap .u8 (Int.fdiv (l.getD t 0) 256) = outAt l (4 * t + 2) := by
      unfold outAt shrBy
      rw [show (4 * t + 2) / 4 = t by omega, show (4 * t + 2) % 4 = 2 by omega]; rfl
    have s3 : IntKind.wrap .u8 (l.getD t 0) = outAt l (4 * t + 3) := by
      unfold outAt shrBy
      rw [show (4 * t + 3) / 4 = t by omega, show (4 * t + 3) % 4 = 3 by omega]
      have : (2 : Int) ^ (min ((24 : Int) - 8 * ((3 : Nat) : Int)).toNat (IntKind.bits .u32)) = 1 := rfl
      rw [this, Int.fdiv_one]
    rw [s0, s1, s2, s3, show 4 * (k + 1) = 4 * k + 1 + 1 + 1 + 1 by omega, List.replicate_succ, List.replicate_succ, List.replicate_succ, List.replicate_succ, set_mid]
    have a1 := set_mid (P ++ [outAt l (4 * t)]) 0 (outAt l (4 * t + 1)) (0 :: 0 :: List.replicate (4 * k) 0)
    have a2 := set_mid (P ++ [outAt l (4 * t), outAt l (4 * t + 1)]) 0 (outAt l (4 * t + 2)) (0 :: List.replicate (4 * k) 0)
    have a3 := set_mid (P ++ [outAt l (4 * t), outAt l (4 * t + 1), outAt l (4 * t + 2)]) 0 (outAt l (4 * t + 3)) (List.replicate (4 * k) 0)
    simp only [List.append_assoc, List.cons_append, List.nil_append, List.length_append, List.length_cons, List.length_nil] at a1 a2 a3
    rw [show (4 * (t : Int) + 1).toNat = P.length + (0 + 1) by omega, a1, show (4 * (t : Int) + 2).toNat = P.length + (0 + 1 + 1) by omega, a2, show (4 * (t : Int) + 3).toNat = P.length + (0 + 1 + 1 + 1) by omega, a3]
    have ih := sum_c2 l k (t + 1) (P ++ [outAt l (4 * t), outAt l (4 * t + 1), outAt l (4 * t + 2), outAt l (4 * t + 3)]) (by omega) (by simp; omega)
    rw [show ((t + 1 : Nat) : Int) = (t : Int) + 1 by omega] at ih
    simp only [List.append_assoc, List.cons_append, List.nil_append] at ih
    exact ih
/-! ### 7. All blocks -/
def blks : Nat → S5 → List Int → S5
  | 0, x, _ => x
  | k + 1, x, m => blks k (blk x (m.take 64)) (m.drop 64)
theorem sum_c1 : ∀ (k : Nat) (x : S5) (m : List Int), m.length = 64 * k → Bts m → sha_Sum_c1 m (List.replicate 20 0) x.l = some (outs (blks k x m).l 0 20, 0)
  | 0, x, m, hl, hB => by
    obtain rfl : m = [] := List.eq_nil_of_length_eq_zero (by omega)
    rw [sha_Sum_c1_eq, if_neg (by simp)]
    exact sum_c2 x.l 5 0 [] rfl rfl
  | k + 1, x, m, hl, hB => by
    rw [sha_Sum_c1_eq, if_pos (by rw [decide_eq_true_eq]; have : Int.ofNat m.length = (m.length : Int) := rfl; omega), do_spec x m (by omega) hB]
    simp only [Option.bind_some]
    rw [gd_pos (by omega), gd_pos (by simp; omega)]
    exact sum_c1 k _ (m.drop 64) (by simp; omega) (hB.drop 64)
theorem of_c1 (x0 m : List Int) (K : Nat) (hm : m.length = 64 * K) (hK : K ≤ 100000) : ∀ (k t : Nat) (x : S5), t + k = K → bitloftref01_Of_c1 (64 * (t : Int)) x0 m x.l = some (outs (blks k x (m.drop (64 * t))).l 0 20)
  | 0, t, x, e => by
    have hl : Int.ofNat m.length = (64 * K : Nat) := by rw [hm]; rfl
    rw [bitloftref01_Of_c1_eq, hl, if_neg (by simp; omega)]
    exact of_c2 x0 x.l 20 0 [] rfl rfl
  | k + 1, t, x, e => by
    have hl : Int.ofNat m.length = (64 * K : Nat) := by rw [hm]; rfl
    rw [bitloftref01_Of_c1_eq, hl, if_pos (by simp; omega), w64 (by omega) (by omega)]
    repeat rw [gd_pos (by omega)]
    rw [show (64 * (t : Int) + 64).toNat - (64 * (t : Int)).toNat = 64 by omega, show 0 + (64 * (t : Int)).toNat = 64 * t by omega, Done_spec x _ (by simp; omega)]
    simp only [Option.bind_some]
    have ih := of_c1 x0 m K hm hK k (t + 1) (blk x ((m.drop (64 * t)).take 64)) (by omega)
    rw [show 64 * ((t + 1 : Nat) : Int) = 64 * (t : Int) + 64 by omega] at ih
    rw [ih]
    simp only [blks, List.drop_drop]
    rw [show 64 * (t + 1) = 64 * t + 64 by omega]
def iv : S5 := ⟨1732584193, 4023233417, 2562383102, 271733878, 3285377520⟩
/-- The sum of some bytes. -/
def shaB (a : List Int) : List Int := outs (blks ((a ++ padB a.length).length / 64) iv (a ++ padB a.length)).l 0 20
theorem shaB_len (a : List Int) : (shaB a).length = 20 := outs_len _ _ _
theorem shaB_bts (a : List Int) : Bts (shaB a) := outs_bts _ _ _
theorem Of_spec (a : List Int) (h : a.length ≤ 1000000) : bitloftref01_Of a = some (shaB a) := by
  have hp := padB_len (a.length : Int) (by omega)
  have ha : Int.ofNat a.length = (a.length : Int) := rfl
  rw [bitloftref01_Of_eq, gd_pos (by simp; omega), ha, padding_spec _ ⟨by omega, by omega⟩]
  simp only [Option.bind_some, bitloftref01_First_eq, List.nil_append]
  rw [gd_pos (by simp; omega)]
  have hm : (a ++ padB a.length).length = 64 * ((a ++ padB a.length).length / 64) := by
    simp only [List.length_append]; omega
  exact of_c1 (List.replicate 20 0) (a ++ padB a.length) _ hm (by simp only [List.length_append]; omega) _ 0 iv (by omega)
theorem Sum_spec (a : List Int) (hB : Bts a) : sha_Sum a = some (if a.length ≤ 20000 then (shaB a, 0) else (List.replicate 20 0, 4)) := by
  have ha : Int.ofNat a.length = (a.length : Int) := rfl
  rw [sha_Sum_eq, ha]
  by_cases h : a.length ≤ 20000
  · have hp := padB_len (a.length : Int) (by omega)
    rw [if_neg (by simp; omega), if_pos h, sha_pad_spec _ (by omega)]
    simp only [Option.bind_some]
    rw [concat_two _ _ (by omega)]
    simp only [Option.bind_some]
    have hm : (a ++ padB a.length).length = 64 * ((a ++ padB a.length).length / 64) := by
      simp only [List.length_append]; omega
    exact sum_c1 _ iv (a ++ padB a.length) hm (hB.append (padB_bts _))
  · rw [if_pos (by simp; omega), if_neg h]
end Go.Ab

set_option linter.unusedVariables false
set_option linter.unusedSimpArgs false
set_option maxHeartbeats 1000000
namespace Go.Ab
attribute [local irreducible] IntKind.wrap
/-! ### 1. Names -/
theorem eqBA (a b : ByteArray) : (ByteArray.toList a == ByteArray.toList b) = decide (a = b) := by
  rw [Bool.eq_iff_iff, beq_iff_eq, decide_eq_true_eq]
  exact ⟨fun h => toList_inj h, fun h => by rw [h]⟩
theorem ofStr_len (s : ByteArray) : (ofStr s).length = s.size := by
  unfold ofStr
  rw [List.length_map, Array.length_toList]; rfl
def okC (x : Int) : Bool := decide (33 ≤ x) && decide (x ≤ 126)
def nmOK (s : ByteArray) : Bool := (ofStr s).all okC && decide (1 ≤ s.size) && decide (s.size ≤ 40)
theorem drop_at {xs : List Int} {i : Nat} (h : i < xs.length) : xs.drop i = xs.getD i 0 :: xs.drop (i + 1) := by
  rw [List.drop_eq_getElem_cons h, List.getD_eq_getElem?_getD, List.getElem?_eq_getElem h]; rfl
theorem isName_c1 (s : ByteArray) (hs : s.size ≤ 9223372036854775807) : ∀ (k i : Nat), i + k = s.size → member_isName_c1 s (s.size : Int) (i : Int) = some (((ofStr s).drop i).all okC && decide (1 ≤ s.size) && decide (s.size ≤ 40))
  | 0, i, e => by
    have hd : (ofStr s).drop i = [] := List.drop_eq_nil_of_le (by rw [ofStr_len]; omega)
    rw [member_isName_c1_eq, if_neg (by simp; omega), hd]
    have hl : Int.ofNat s.size = (s.size : Int) := rfl
    rw [hl]
    by_cases h : 1 ≤ s.size
    · rw [if_pos (by simp; omega)]
      simp [h]; omega
    · rw [if_neg (by rw [decide_eq_true_eq]; omega)]
      simp [h]
  | k + 1, i, e => by
    have hi : i < (ofStr s).length := by rw [ofStr_len]; omega
    have hb : btAt s ((i : Int)).toNat = (ofStr s).getD i 0 := by rw [Int.toNat_natCast]; rfl
    rw [member_isName_c1_eq, if_pos (by simp; omega), gd_pos (by omega), gd_pos (by omega), hb, drop_at hi, w64 (by omega) (by omega)]
    have ih := isName_c1 s hs k (i + 1) (by omega)
    rw [show ((i + 1 : Nat) : Int) = (i : Int) + 1 by omega] at ih
    by_cases h1 : (ofStr s).getD i 0 ≤ 32
    · rw [if_pos (by simpa using h1)]
      have : okC ((ofStr s).getD i 0) = false := by simp only [okC, Bool.and_eq_false_iff, decide_eq_false_iff_not]; left; omega
      simp only [List.all_cons, this, Bool.false_and]
    · rw [if_neg (by simpa using h1), gd_pos (by omega), gd_pos (by omega)]
      by_cases h2 : (ofStr s).getD i 0 > 126
      · rw [if_pos (by simpa using h2)]
        have : okC ((ofStr s).getD i 0) = false := by simp only [okC, Bool.and_eq_false_iff, decide_eq_false_iff_not]; right; omega
        simp only [List.all_cons, this, Bool.false_and]
      · rw [if_neg (by simpa using h2), ih]
        have : okC ((ofStr s).getD i 0) = true := by simp only [okC, Bool.and_eq_true, decide_eq_true_eq]; omega
        simp only [List.all_cons, this, Bool.true_and]
theorem member_isName_spec (s : ByteArray) (hs : s.size ≤ 9223372036854775807) : member_isName s = some (nmOK s) := by
  rw [member_isName_eq]
  exact isName_c1 s hs s.size 0 (by omega)
theorem Name_c1 (s : ByteArray) (hs : s.size ≤ 9223372036854775807) : ∀ (k i : Nat), i + k = s.size → bitloftref28_Name_c1 s (i : Int) = some (((ofStr s).drop i).all okC)
  | 0, i, e => by
    have hd : (ofStr s).drop i = [] := List.drop_eq_nil_of_le (by rw [ofStr_len]; omega)
    rw [bitloftref28_Name_c1_eq, if_neg (by simp; omega), hd]
    rfl
  | k + 1, i, e => by
    have hi : i < (ofStr s).length := by rw [ofStr_len]; omega
    have hb : btAt s ((i : Int)).toNat = (ofStr s).getD i 0 := by rw [Int.toNat_natCast]; rfl
    rw [bitloftref28_Name_c1_eq, if_pos (by simp; omega), gd_pos (by omega), gd_pos (by omega), hb, drop_at hi, w64 (by omega) (by omega)]
    have ih := Name_c1 s hs k (i + 1) (by omega)
    rw [show ((i + 1 : Nat) : Int) = (i : Int) + 1 by omega] at ih
    by_cases h1 : (ofStr s).getD i 0 < 33
    · rw [if_pos (by simpa using h1)]
      have : okC ((ofStr s).getD i 0) = false := by simp only [okC, Bool.and_eq_false_iff, decide_eq_false_iff_not]; left; omega
      simp only [List.all_cons, this, Bool.false_and]
    · rw [if_neg (by simpa using h1), gd_pos (by omega), gd_pos (by omega)]
      by_cases h2 : (ofStr s).getD i 0 > 126
      · rw [if_pos (by simpa using h2)]
        have : okC ((ofStr s).getD i 0) = false := by simp only [okC, Bool.and_eq_false_iff, decide_eq_false_iff_not]; right; omega
        simp only [List.all_cons, this, Bool.false_and]
      · rw [if_neg (by simpa using h2), ih]
        have : okC ((ofStr s).getD i 0) = true := by simp only [okC, Bool.and_eq_true, decide_eq_true_eq]; omega
        simp only [List.all_cons, this, Bool.true_and]
theorem ref28_Name_spec (s : ByteArray) (hs : s.size ≤ 9223372036854775807) : bitloftref28_Name s = some (nmOK s) := by
  have hl : Int.ofNat s.size = (s.size : Int) := rfl
  rw [bitloftref28_Name_eq, hl]
  unfold nmOK
  by_cases h1 : s.size < 1
  · rw [if_pos (by simp; omega)]
    have : ¬ 1 ≤ s.size := by omega
    simp [this]
  · rw [if_neg (by simp; omega)]
    by_cases h2 : s.size > 40
    · rw [if_pos (by simp; omega)]
      have : ¬ s.size ≤ 40 := by omega
      simp [this]
    · rw [if_neg (by simp; omega)]
      have := Name_c1 s hs s.size 0 (by omega)
      refine this.trans ?_
      have h3 : 1 ≤ s.size := by omega
      have h4 : s.size ≤ 40 := by omega
      simp [h3, h4]
/-! ### 2. Names that stand twice -/
theorem mget_mset {α β : Type} {eq : α → α → Bool} (h : ∀ a b, eq a b = true ↔ a = b) (x y : α) (v : β) : ∀ m : List (α × β), mget eq x (mset eq y v m) = if eq x y then some v else mget eq x m
  | [] => by simp [mset, mget]
  | e :: r => by
    simp only [mset]
    by_cases hy : eq y e.1 = true
    · have := (h _ _).1 hy
      simp only [hy, if_true, mget]
      by_cases hx : eq x y = true
      · simp [hx]
      · have : eq x e.1 = false := by rw [← this]; simpa using hx
        simp [hx, this]
    · simp only [hy, Bool.false_eq_true, if_false, mget, mget_mset h x y v r]
      by_cases hx : eq x y = true
      · have e1 := (h _ _).1 hx
        subst e1
        simp [hx, hy]
      · simp [hx]
theorem peq_str (a b : ByteArray) : peq .str a b = decide (a = b) := eqBA a b
def memB (x : ByteArray) (xs : List ByteArray) : Bool := xs.any fun y => decide (x = y)
theorem memB_append (x y : ByteArray) (xs : List ByteArray) : memB x (xs ++ [y]) = (memB x xs || decide (x = y)) := by simp [memB]
def dupF (seen : List ByteArray) : List ByteArray → Bool
  | [] => false
  | x :: r => memB x seen || dupF (seen ++ [x]) r
theorem dropS_at {xs : List ByteArray} {i : Nat} (h : i < xs.length) : xs.drop i = xs.getD i ByteArray.empty :: xs.drop (i + 1) ∧ xs.take (i + 1) = xs.take i ++ [xs.getD i ByteArray.empty] := by
  have e : xs.getD i ByteArray.empty = xs[i] := by rw [List.getD_eq_getElem?_getD, List.getElem?_eq_getElem h]; rfl
  rw [e]
  exact ⟨List.drop_eq_getElem_cons h, by rw [List.take_add_one, List.getElem?_eq_getElem h]; rfl⟩
theorem twice_c1 (xs : List ByteArray) (hx : xs.length ≤ 9223372036854775807) : ∀ (k i : Nat) (m : List (ByteArray × Bool)), i + k = xs.length → (∀ x, Option.getD (mget (peq .str) x m) false = memB x (xs.take i)) → member_twice_c1 xs (xs.length : Int) (i : Int) m = some (dupF (xs.take i) (xs.drop i))
  | 0, i, m, e, hm => by
    rw [member_twice_c1_eq, if_neg (by simp; omega), List.drop_eq_nil_of_le (by omega)]; rfl
  | k + 1, i, m, e, hm => by
    have hl : Int.ofNat xs.length = (xs.length : Int) := rfl
    obtain ⟨d1, d2⟩ := dropS_at (xs := xs) (i := i) (by omega)
    rw [member_twice_c1_eq, if_pos (by simp; omega), gd_pos (by omega), gd_pos (by rw [hl]; omega), Int.toNat_natCast, hm, d1, dupF]
    by_cases h : memB (xs.getD i ByteArray.empty) (xs.take i) = true
    · rw [if_pos h, h]; rfl
    · rw [if_neg h, w64 (by omega) (by omega)]
      have ih := twice_c1 xs hx k (i + 1) (mset (peq .str) (xs.getD i ByteArray.empty) true m) (by omega) (fun x => by
        rw [mget_mset (fun a b => by rw [peq_str]; simp), d2, peq_str, memB_append, ← hm]
        by_cases hx : x = xs.getD i ByteArray.empty
        · rw [if_pos (by simp [hx])]; simp [hx]
        · rw [decide_eq_false hx, if_neg (by simp), Bool.or_false])
      rw [show ((i + 1 : Nat) : Int) = (i : Int) + 1 by omega] at ih
      rw [ih, d2, Bool.eq_false_iff.2 h]; rfl
theorem member_twice_spec (xs : List ByteArray) (hx : xs.length ≤ 9223372036854775807) : member_twice xs = some (dupF [] xs) := by
  rw [member_twice_eq]
  exact twice_c1 xs hx xs.length 0 [] (by omega) (fun x => by simp [mget, memB])
/-! ### 3. Records that are valid -/
def badR (r : D_api_Record) : Bool := !nmOK r.1 || decide (r.2.1 < 0) || decide (r.2.1 > 8192) || (r.2.1 == 0 && !peq (.arr 20 (.int .u8)) r.2.2.1 (shaB []))
def vld (acc : Int) (nm : List ByteArray) : List D_api_Record → Int
  | [] => if acc > 8192 then 4 else if dupF [] nm then 14 else 0
  | r :: rest => if badR r then 8 else vld (acc + r.2.1) (nm ++ [r.1]) rest
def valid (rs : List D_api_Record) : Int := if rs.length > 16 then 4 else vld 0 [] rs
def RecsOK (rs : List D_api_Record) : Prop := rs.length ≤ 9223372036854775807 ∧ ∀ r ∈ rs, r.1.size ≤ 9223372036854775807
theorem dropR_at {α : Type} {xs : List α} {i : Nat} (d : α) (h : i < xs.length) : xs.drop i = xs.getD i d :: xs.drop (i + 1) ∧ xs.take (i + 1) = xs.take i ++ [xs.getD i d] ∧ xs.getD i d ∈ xs := by
  have e : xs.getD i d = xs[i] := by rw [List.getD_eq_getElem?_getD, List.getElem?_eq_getElem h]; rfl
  rw [e]
  exact ⟨List.drop_eq_getElem_cons h, by rw [List.take_add_one, List.getElem?_eq_getElem h]; rfl, List.getElem_mem h⟩
theorem digest_nil : member_digest [] = some (shaB []) := by
  rw [member_digest_eq, Sum_spec [] Bts.nil]; rfl
theorem Of_nil : bitloftref01_Of [] = some (shaB []) := Of_spec [] (by simp)
theorem Valid_c1 (rs : List D_api_Record) (hR : RecsOK rs) (hn : rs.length ≤ 16) : ∀ (k i : Nat) (acc : Int) (nm : List ByteArray), i + k = rs.length → nm.length = i → 0 ≤ acc → acc ≤ 8192 * i → member_Valid_c1 acc rs (rs.length : Int) (i : Int) nm = some (vld acc nm (rs.drop i))
  | 0, i, acc, nm, e, hl, a0, a1 => by
    rw [member_Valid_c1_eq, if_neg (by simp; omega), List.drop_eq_nil_of_le (by omega), vld]
    by_cases h : acc > 8192
    · rw [if_pos (by simpa using h), if_pos h]
    · rw [if_neg (by simpa using h), if_neg h, member_twice_spec _ (by omega)]
      simp only [Option.bind_some]
      by_cases h : dupF [] nm = true
      · rw [if_pos h, if_pos h]
      · rw [if_neg h, if_neg h]
  | k + 1, i, acc, nm, e, hl, a0, a1 => by
    have hl' : Int.ofNat rs.length = (rs.length : Int) := rfl
    obtain ⟨d1, d2, d3⟩ := dropR_at (pzero T_api_Record : D_api_Record) (xs := rs) (i := i) (by omega)
    rw [member_Valid_c1_eq, if_pos (by simp; omega), gd_pos (by omega), gd_pos (by rw [hl']; omega), Int.toNat_natCast, d1, vld]
    generalize hr : (List.getD rs i (pzero T_api_Record) : D_api_Record) = r at d3 ⊢
    rw [member_isName_spec _ (hR.2 r d3)]
    simp only [Option.bind_some, digest_nil]
    by_cases h1 : nmOK r.1 = true
    · rw [if_neg (by simp [h1])]
      by_cases h2 : r.2.1 < 0
      · rw [if_pos (by simpa using h2), if_pos (by simp [badR, h2])]
      · rw [if_neg (by simpa using h2)]
        by_cases h3 : r.2.1 > 8192
        · rw [if_pos (by simpa using h3), if_pos (by simp [badR, h3])]
        · rw [if_neg (by simpa using h3)]
          have ih := Valid_c1 rs hR hn k (i + 1) (acc + r.2.1) (nm ++ [r.1]) (by omega) (by simp; omega) (by omega) (by omega)
          rw [show ((i + 1 : Nat) : Int) = (i : Int) + 1 by omega] at ih
          rw [w64 (x := (i : Int) + 1) (by omega) (by omega), w64 (x := acc + r.2.1) (by omega) (by omega), ih]
          by_cases h4 : r.2.1 = 0
          · rw [if_pos (by simp [h4])]
            by_cases h5 : peq (.arr 20 (.int .u8)) r.2.2.1 (shaB []) = true
            · rw [if_neg (by simp [h5]), gd_pos (by simp; omega), if_neg (by simp [badR, h1, h4, h5])]
            · rw [if_pos (by simpa using h5), if_pos (by simp [badR, h4, h5])]
          · rw [if_neg (by simpa using h4), gd_pos (by simp; omega), if_neg (by simp [badR, h1, h4]; omega)]
    · rw [if_pos (by simpa using h1), if_pos (by simp [badR, h1])]
theorem member_Valid_spec (rs : List D_api_Record) (hR : RecsOK rs) : member_Valid rs = some (valid rs) := by
  have hl : Int.ofNat rs.length = (rs.length : Int) := rfl
  rw [member_Valid_eq, hl, valid]
  by_cases h : rs.length > 16
  · rw [if_pos (by simp; omega), if_pos h]
  · rw [if_neg (by simp; omega), if_neg h]
    exact Valid_c1 rs hR (by omega) rs.length 0 0 [] (by omega) rfl (by omega) (by omega)
/-! ### 4. The reference -/
def names (rs : List D_api_Record) : List ByteArray := rs.map (·.1)
theorem names_get (rs : List D_api_Record) (i : Nat) (h : i < rs.length) : (rs.getD i (pzero T_api_Record)).1 = (names rs).getD i ByteArray.empty := by
  unfold names
  simp only [List.getD_eq_getElem?_getD, List.getElem?_map, List.getElem?_eq_getElem h, Option.map_some, Option.getD_some]
theorem memB_drop {x : ByteArray} {xs : List ByteArray} {j i : Nat} (h : j < i) (hi : i ≤ xs.length) : memB x ((xs.take i).drop j) = (decide (x = xs.getD j ByteArray.empty) || memB x ((xs.take i).drop (j + 1))) := by
  have hl : j < (xs.take i).length := by rw [List.length_take]; omega
  have e : xs.getD j ByteArray.empty = (xs.take i)[j] := by
    rw [List.getD_eq_getElem?_getD, List.getElem_take, List.getElem?_eq_getElem (by omega)]; rfl
  rw [List.drop_eq_getElem_cons hl, e]
  simp [memB]
theorem Valid_c3 (rs : List D_api_Record) (hn : rs.length ≤ 16) (i : Nat) (hi : i < rs.length) : ∀ (k j : Nat), j + k = i → bitloftref28_Valid_c3 rs (i : Int) (j : Int) = if memB ((names rs).getD i ByteArray.empty) (((names rs).take i).drop j) then some 14 else bitloftref28_Valid_c2 rs ((i : Int) + 1)
  | 0, j, e => by
    have hd : ((names rs).take i).drop j = [] := List.drop_eq_nil_of_le (by rw [List.length_take]; omega)
    rw [bitloftref28_Valid_c3_eq, if_neg (by simp; omega), hd, w64 (by omega) (by omega)]
    simp [memB]
  | k + 1, j, e => by
    have hl' : Int.ofNat rs.length = (rs.length : Int) := rfl
    have hnl : (names rs).length = rs.length := by simp [names]
    have ih := Valid_c3 rs hn i hi k (j + 1) (by omega)
    rw [show ((j + 1 : Nat) : Int) = (j : Int) + 1 by omega] at ih
    rw [bitloftref28_Valid_c3_eq, if_pos (by simp; omega), gd_pos (by omega), gd_pos (by rw [hl']; omega), gd_pos (by omega), gd_pos (by rw [hl']; omega), Int.toNat_natCast, Int.toNat_natCast, names_get rs j (by omega), names_get rs i hi, w64 (x := (j : Int) + 1) (by omega) (by omega), ih, memB_drop (j := j) (i := i) (by omega) (by omega), eqBA]
    by_cases h : (names rs).getD j ByteArray.empty = (names rs).getD i ByteArray.empty
    · rw [decide_eq_true h, decide_eq_true h.symm]; simp
    · rw [decide_eq_false h, decide_eq_false (fun e => h e.symm)]; simp
theorem Valid_c2 (rs : List D_api_Record) (hn : rs.length ≤ 16) : ∀ (k i : Nat), i + k = rs.length → bitloftref28_Valid_c2 rs (i : Int) = some (if dupF ((names rs).take i) ((names rs).drop i) then 14 else 0)
  | 0, i, e => by
    have hnl : (names rs).length = rs.length := by simp [names]
    rw [bitloftref28_Valid_c2_eq, if_neg (by simp; omega), List.drop_eq_nil_of_le (by omega)]; rfl
  | k + 1, i, e => by
    have hnl : (names rs).length = rs.length := by simp [names]
    obtain ⟨d1, d2⟩ := dropS_at (xs := names rs) (i := i) (by omega)
    have ih := Valid_c2 rs hn k (i + 1) (by omega)
    rw [show ((i + 1 : Nat) : Int) = (i : Int) + 1 by omega] at ih
    have h3 := Valid_c3 rs hn i (by omega) i 0 (by omega)
    rw [bitloftref28_Valid_c2_eq, if_pos (by simp; omega)]
    refine Eq.trans h3 ?_
    rw [ih, List.drop_zero, d1, dupF, ← d2]
    cases memB ((names rs).getD i ByteArray.empty) ((names rs).take i) <;> simp
theorem ref_Valid_c1 (rs : List D_api_Record) (hR : RecsOK rs) (hn : rs.length ≤ 16) : ∀ (k i : Nat) (acc : Int), i + k = rs.length → 0 ≤ acc → acc ≤ 8192 * i → bitloftref28_Valid_c1 rs acc (i : Int) = some (vld acc (names (rs.take i)) (rs.drop i))
  | 0, i, acc, e, a0, a1 => by
    have hl' : Int.ofNat rs.length = (rs.length : Int) := rfl
    rw [bitloftref28_Valid_c1_eq, if_neg (by simp; omega), List.drop_eq_nil_of_le (by omega), vld, List.take_of_length_le (by omega)]
    by_cases h : acc > 8192
    · rw [if_pos (by simpa using h), if_pos h]
    · rw [if_neg (by simpa using h), if_neg h]
      exact Valid_c2 rs hn rs.length 0 (by omega)
  | k + 1, i, acc, e, a0, a1 => by
    have hl' : Int.ofNat rs.length = (rs.length : Int) := rfl
    obtain ⟨d1, d2, d3⟩ := dropR_at (pzero T_api_Record : D_api_Record) (xs := rs) (i := i) (by omega)
    have ih := fun a h0 h1 => ref_Valid_c1 rs hR hn k (i + 1) a (by omega) h0 h1
    rw [show ((i + 1 : Nat) : Int) = (i : Int) + 1 by omega, d2] at ih
    rw [bitloftref28_Valid_c1_eq, if_pos (by simp; omega), gd_pos (by omega), gd_pos (by rw [hl']; omega), Int.toNat_natCast, d1, vld]
    have hnm : names (List.take i rs ++ [List.getD rs i (pzero T_api_Record)]) = names (List.take i rs) ++ [(List.getD rs i (pzero T_api_Record)).1] := by simp [names]
    rw [hnm] at ih
    generalize hr : (List.getD rs i (pzero T_api_Record) : D_api_Record) = r at d3 ih ⊢
    rw [ref28_Name_spec _ (hR.2 r d3)]
    simp only [Option.bind_some, Of_nil]
    by_cases h1 : nmOK r.1 = true
    · rw [if_neg (by simp [h1])]
      by_cases h2 : r.2.1 < 0
      · rw [if_pos (by simpa using h2), if_pos (by simp [badR, h2])]
      · rw [if_neg (by simpa using h2)]
        by_cases h3 : r.2.1 > 8192
        · rw [if_pos (by simpa using h3), if_pos (by simp [badR, h3])]
        · rw [if_neg (by simpa using h3)]
          rw [w64 (x := (i : Int) + 1) (by omega) (by omega), w64 (x := acc + r.2.1) (by omega) (by omega), ih _ (by omega) (by omega)]
          by_cases h4 : r.2.1 = 0
          · rw [if_pos (by simp [h4])]
            by_cases h5 : peq (.arr 20 (.int .u8)) r.2.2.1 (shaB []) = true
            · rw [if_neg (by simp [h5]), if_neg (by simp [badR, h1, h4, h5])]
            · rw [if_pos (by simpa using h5), if_pos (by simp [badR, h4, h5])]
          · rw [if_neg (by simpa using h4), if_neg (by simp [badR, h1, h4]; omega)]
    · rw [if_pos (by simpa using h1), if_pos (by simp [badR, h1])]
theorem ref28_Valid_spec (rs : List D_api_Record) (hR : RecsOK rs) : bitloftref28_Valid rs = some (valid rs) := by
  have hl : Int.ofNat rs.length = (rs.length : Int) := rfl
  rw [bitloftref28_Valid_eq, hl, valid]
  by_cases h : rs.length > 16
  · rw [if_pos (by simp; omega), if_pos h]
  · rw [if_neg (by simp; omega), if_neg h]
    exact ref_Valid_c1 rs hR (by omega) rs.length 0 0 (by omega) (by omega) (by omega)
end Go.Ab

set_option linter.unusedVariables false
set_option linter.unusedSimpArgs false
set_option maxHeartbeats 1000000
namespace Go.Ab
attribute [local irreducible] IntKind.wrap
/-! ### 1. Settings and records -/
def chk (a : D_api_Settings) : Int := if 0 ≤ a.1 ∧ a.1 ≤ 7 ∧ 16 ≤ a.2.1 ∧ a.2.1 ≤ 4096 then 0 else 2
theorem pack_Check_spec (a : D_api_Settings) : pack_Check a = some (chk a) := by
  rw [pack_Check_eq, chk]
  by_cases h1 : a.1 < 0
  · rw [if_pos (by simpa using h1), if_neg (by omega)]
  · rw [if_neg (by simpa using h1)]
    by_cases h2 : a.1 > 7
    · rw [if_pos (by simpa using h2), if_neg (by omega)]
    · rw [if_neg (by simpa using h2)]
      by_cases h3 : a.2.1 < 16
      · rw [if_pos (by simpa using h3), if_neg (by omega)]
      · rw [if_neg (by simpa using h3)]
        by_cases h4 : a.2.1 > 4096
        · rw [if_pos (by simpa using h4), if_neg (by omega)]
        · rw [if_neg (by simpa using h4), if_pos (by omega)]
theorem ref30_Check_spec (a : D_api_Settings) : bitloftref30_Check a = some (chk a) := by
  rw [bitloftref30_Check_eq, chk, bitloftref29_Block_eq]
  by_cases h1 : a.1 < 0
  · rw [if_pos (by simpa using h1), if_neg (by omega)]
  · rw [if_neg (by simpa using h1)]
    by_cases h2 : a.1 > 7
    · rw [if_pos (by simpa using h2), if_neg (by omega)]
    · rw [if_neg (by simpa using h2)]
      by_cases h3 : a.2.1 ≥ 16
      · rw [if_pos (by simpa using h3)]
        simp only [Option.bind_some]
        by_cases h4 : a.2.1 ≤ 4096
        · rw [if_neg (by simpa using h4), if_pos (by omega)]
        · rw [if_pos (by simpa using h4), if_neg (by omega)]
      · rw [if_neg (by simpa using h3)]
        simp only [Option.bind_some]
        rw [if_pos (by simp), if_neg (by omega)]
def tot : List D_api_Record → Int
  | [] => 0
  | r :: rest => r.2.1 + tot rest
structure RecsV (rs : List D_api_Record) : Prop where
  len : rs.length ≤ 16
  each : ∀ r ∈ rs, 0 ≤ r.2.1 ∧ r.2.1 ≤ 8192 ∧ r.1.size ≤ 40
  tot : tot rs ≤ 8192
theorem vld_zero : ∀ (rs : List D_api_Record) (acc : Int) (nm : List ByteArray), vld acc nm rs = 0 → (∀ r ∈ rs, 0 ≤ r.2.1 ∧ r.2.1 ≤ 8192 ∧ r.1.size ≤ 40) ∧ acc + tot rs ≤ 8192
  | [], acc, nm, h => by
    simp only [vld] at h
    by_cases h1 : acc > 8192
    · rw [if_pos h1] at h; omega
    · exact ⟨fun r hr => (by cases hr), by simp only [tot]; omega⟩
  | r :: rest, acc, nm, h => by
    simp only [vld] at h
    by_cases hb : badR r = true
    · rw [if_pos hb] at h; omega
    · rw [if_neg hb] at h
      obtain ⟨h1, h2⟩ := vld_zero rest _ _ h
      simp only [badR, nmOK, Bool.or_eq_true, Bool.not_eq_true', Bool.and_eq_false_iff, decide_eq_true_eq, decide_eq_false_iff_not, not_or] at hb
      refine ⟨fun q hq => ?_, by simp only [tot]; omega⟩
      rcases List.mem_cons.1 hq with rfl | hq
      · have := hb.1.1.1.2
        exact ⟨by omega, by omega, by omega⟩
      · exact h1 q hq
theorem valid_zero {rs : List D_api_Record} (h : valid rs = 0) : RecsV rs := by
  unfold valid at h
  split at h
  · omega
  · obtain ⟨h1, h2⟩ := vld_zero rs 0 [] h
    exact ⟨by omega, h1, by omega⟩
def ask (a : D_api_Settings) (rs : List D_api_Record) : Int := if chk a ≠ 0 then chk a else valid rs
theorem ask_zero {a : D_api_Settings} {rs : List D_api_Record} (h : ask a rs = 0) : (16 ≤ a.2.1 ∧ a.2.1 ≤ 4096) ∧ RecsV rs := by
  unfold ask at h
  split at h
  · omega
  · refine ⟨?_, valid_zero h⟩
    rename_i hc
    unfold chk at hc
    split at hc
    · omega
    · omega
theorem asked_spec (a : D_api_Settings) (rs : List D_api_Record) (hR : RecsOK rs) : bitloftref36_asked a rs = some (ask a rs) := by
  rw [bitloftref36_asked_eq, ref30_Check_spec, ref28_Valid_spec rs hR, ask]
  simp only [Option.bind_some]
  by_cases h : chk a = 0
  · rw [if_neg (by simp [h]), if_neg (by simp [h])]
  · rw [if_pos (by simpa using h), if_pos h]
theorem tot_nn : ∀ (rs : List D_api_Record), (∀ r ∈ rs, 0 ≤ r.2.1 ∧ r.2.1 ≤ 8192 ∧ r.1.size ≤ 40) → 0 ≤ tot rs
  | [], _ => by simp [tot]
  | r :: rest, h => by
    have h1 := h r (by simp)
    have h2 := tot_nn rest (fun q hq => h q (by simp [hq]))
    simp only [tot]; omega
/-! ### 2. Pieces -/
def pcs (i n s : Int) : Nat → Int → List D_api_Piece
  | 0, _ => []
  | k + 1, off => if off < n then (i, (off, ((if s < n - off then s else n - off), ()))) :: pcs i n s k (off + s) else []
theorem pcs_len (i n s : Int) (hs : 1 ≤ s) : ∀ (k : Nat) (off : Int), 0 ≤ n → off ≤ n → ((pcs i n s k off).length : Int) ≤ n - off
  | 0, off, _, h => by simp [pcs]; omega
  | k + 1, off, hn, h => by
    simp only [pcs]
    by_cases h1 : off < n
    · rw [if_pos h1]
      by_cases h2 : off + s ≤ n
      · have := pcs_len i n s hs k (off + s) hn h2
        simp only [List.length_cons]; omega
      · have : pcs i n s k (off + s) = [] := by
          cases k with
          | zero => rfl
          | succ k => simp only [pcs]; rw [if_neg (by omega)]
        rw [this]; simp; omega
    · rw [if_neg h1]; simp; omega
def ap (s : Int) : Int → List D_api_Record → List D_api_Piece
  | _, [] => []
  | i, r :: rest => pcs i r.2.1 s 8200 0 ++ ap s (i + 1) rest
def szs (rs : List D_api_Record) : List Int := rs.map (·.2.1)
theorem szs_get (rs : List D_api_Record) (i : Nat) (h : i < rs.length) : (szs rs).getD i 0 = (rs.getD i (pzero T_api_Record)).2.1 := by
  unfold szs
  simp only [List.getD_eq_getElem?_getD, List.getElem?_map, List.getElem?_eq_getElem h, Option.map_some, Option.getD_some]
theorem szs_len (rs : List D_api_Record) : (szs rs).length = rs.length := by simp [szs]
theorem Pieces_c2 (s i n : Int) (xs : List Int) (v23 v24 : Int) (hs : 16 ≤ s ∧ s ≤ 4096) (hn : 0 ≤ n ∧ n ≤ 8192) (k : Nat) : ∀ (off : Int) (h : List D_api_Piece), n - off ≤ k → 0 ≤ off → off ≤ 13000 → (h.length : Int) + (k : Int) ≤ 1000000 →
    split_Pieces_c2 s i n off xs v23 v24 h = split_Pieces_c1 s xs v23 (IntKind.wrap .i64 (v24 + 1)) (h ++ pcs i n s k off) := by
  induction k with
  | zero =>
    intro off h e h0 h1 hl
    have hc : ¬ off < n := by omega
    rw [split_Pieces_c2_eq, if_neg (by simpa using hc)]
    simp only [pcs, List.append_nil]
  | succ k ih =>
    intro off h e h0 h1 hl
    rw [split_Pieces_c2_eq]
    by_cases hc : off < n
    · rw [if_pos (by simpa using hc), gd_pos (by simp; omega), w64 (x := n - off) (by omega) (by omega), w64 (x := off + s) (by omega) (by omega)]
      rw [ih (off + s) _ (by omega) (by omega) (by omega) (by simp; omega)]
      simp only [pcs, if_pos hc, List.append_assoc, List.singleton_append]
    · rw [if_neg (by simpa using hc)]
      simp only [pcs, if_neg hc, List.append_nil]
theorem Pieces_c1 (s : Int) (rs : List D_api_Record) (hs : 16 ≤ s ∧ s ≤ 4096) (hR : RecsV rs) : ∀ (k i : Nat) (h : List D_api_Piece), i + k = rs.length → (h.length : Int) ≤ 8192 * i →
    split_Pieces_c1 s (szs rs) (rs.length : Int) (i : Int) h = some (h ++ ap s i (rs.drop i), 0)
  | 0, i, h, e, hl => by
    rw [split_Pieces_c1_eq, if_neg (by simp; omega), List.drop_eq_nil_of_le (by omega)]
    simp [ap]
  | k + 1, i, h, e, hl => by
    have hlen := hR.len
    obtain ⟨d1, d2, d3⟩ := dropR_at (pzero T_api_Record : D_api_Record) (xs := rs) (i := i) (by omega)
    have hl' : Int.ofNat (szs rs).length = (rs.length : Int) := by rw [szs_len]; rfl
    have hv := hR.each _ d3
    rw [split_Pieces_c1_eq, if_pos (by simp; omega), gd_pos (by omega), gd_pos (by rw [hl']; omega), Int.toNat_natCast, szs_get rs i (by omega)]
    rw [Pieces_c2 s i _ (szs rs) _ _ hs ⟨hv.1, hv.2.1⟩ 8200 0 h (by omega) (by omega) (by omega) (by omega), w64 (by omega) (by omega)]
    have hp := pcs_len (i : Int) (rs.getD i (pzero T_api_Record)).2.1 s (by omega) 8200 0 hv.1 hv.1
    have ih := Pieces_c1 s rs hs hR k (i + 1) (h ++ pcs (i : Int) (rs.getD i (pzero T_api_Record)).2.1 s 8200 0) (by omega) (by rw [List.length_append]; omega)
    rw [show ((i + 1 : Nat) : Int) = (i : Int) + 1 by omega] at ih
    rw [ih, d1, ap, List.append_assoc]
/-! ### 3. The check of sizes -/
theorem Index_c1 (xs : List Int) (hx : ∀ x ∈ xs, 0 ≤ x) (hl : xs.length ≤ 1000) : ∀ (k i : Nat), i + k = xs.length → slices_IndexFunc_int_int_c1 xs (xs.length : Int) (i : Int) = some (-1)
  | 0, i, e => by rw [slices_IndexFunc_int_int_c1_eq, if_neg (by simp; omega)]
  | k + 1, i, e => by
    have hl' : Int.ofNat xs.length = (xs.length : Int) := rfl
    obtain ⟨d1, d2, d3⟩ := dropR_at (0 : Int) (xs := xs) (i := i) (by omega)
    have := hx _ d3
    have ih := Index_c1 xs hx hl k (i + 1) (by omega)
    rw [show ((i + 1 : Nat) : Int) = (i : Int) + 1 by omega] at ih
    rw [slices_IndexFunc_int_int_c1_eq, if_pos (by simp; omega), gd_pos (by omega), gd_pos (by rw [hl']; omega), Int.toNat_natCast, split_check_1_eq]
    simp only [Option.bind_some]
    rw [if_neg (by simp only [decide_eq_true_eq]; omega), w64 (by omega) (by omega), ih]
theorem check_c1 (rs : List D_api_Record) (hR : RecsV rs) : ∀ (k i : Nat) (acc : Int), i + k = rs.length → 0 ≤ acc → acc + tot (rs.drop i) ≤ 8192 → split_check_c1 acc (szs rs) (rs.length : Int) (i : Int) = some 0
  | 0, i, acc, e, h0, h1 => by rw [split_check_c1_eq, if_neg (by simp; omega)]
  | k + 1, i, acc, e, h0, h1 => by
    have hlen := hR.len
    have hl' : Int.ofNat (szs rs).length = (rs.length : Int) := by rw [szs_len]; rfl
    obtain ⟨d1, d2, d3⟩ := dropR_at (pzero T_api_Record : D_api_Record) (xs := rs) (i := i) (by omega)
    have hv := hR.each _ d3
    have ht := tot_nn (rs.drop (i + 1)) (fun r hr => hR.each r (List.mem_of_mem_drop hr))
    rw [d1, tot] at h1
    rw [split_check_c1_eq, if_pos (by simp; omega), gd_pos (by omega), gd_pos (by rw [hl']; omega), Int.toNat_natCast, szs_get rs i (by omega)]
    rw [if_neg (show ¬ (8193 : Int) < (rs.getD i (pzero T_api_Record)).2.1 by omega), w64 (by omega) (by omega), if_neg (by simp only [decide_eq_true_eq]; omega), w64 (by omega) (by omega)]
    have ih := check_c1 rs hR k (i + 1) (acc + (rs.getD i (pzero T_api_Record)).2.1) (by omega) (by omega) (by omega)
    rw [show ((i + 1 : Nat) : Int) = (i : Int) + 1 by omega] at ih
    exact ih
theorem Pieces_spec (s : Int) (rs : List D_api_Record) (hs : 16 ≤ s ∧ s ≤ 4096) (hR : RecsV rs) : split_Pieces (szs rs) s = some (ap s 0 rs, 0) := by
  have hlen := hR.len
  have hl' : Int.ofNat (szs rs).length = (rs.length : Int) := by rw [szs_len]; rfl
  have hc : split_check (szs rs) = some 0 := by
    have hi := Index_c1 (szs rs) (fun x hx => by
      obtain ⟨r, hr, rfl⟩ := List.mem_map.1 hx
      exact (hR.each r hr).1) (by rw [szs_len]; omega) (szs rs).length 0 (by omega)
    have hi' : slices_IndexFunc_int_int (szs rs) = some (-1) := by rw [slices_IndexFunc_int_int_eq]; exact hi
    rw [split_check_eq, slices_ContainsFunc_int_int_eq, hi']
    simp only [Option.bind_some]
    rw [if_neg (by simp), hl', if_neg (by simp; omega)]
    exact check_c1 rs hR rs.length 0 0 (by omega) (by omega) (by have := hR.tot; simp; omega)
  rw [split_Pieces_eq, hc]
  simp only [Option.bind_some]
  rw [if_neg (by simp), if_neg (by simp; omega), if_neg (by simp; omega), hl']
  exact Pieces_c1 s rs hs hR rs.length 0 [] (by omega) (by simp)
theorem bpieces_c1 (a : D_api_Settings) (rs : List D_api_Record) (hs : 16 ≤ a.2.1 ∧ a.2.1 ≤ 4096) (hR : RecsV rs) : ∀ (k i : Nat), i + k = rs.length → bound_pieces_c1 rs (rs.length : Int) (i : Int) a (szs (rs.take i)) = some (ap a.2.1 0 rs, 0)
  | 0, i, e => by
    rw [bound_pieces_c1_eq, if_neg (by simp; omega), List.take_of_length_le (by omega), Pieces_spec _ rs hs hR]; rfl
  | k + 1, i, e => by
    have hlen := hR.len
    have hl' : Int.ofNat rs.length = (rs.length : Int) := rfl
    obtain ⟨d1, d2, d3⟩ := dropR_at (pzero T_api_Record : D_api_Record) (xs := rs) (i := i) (by omega)
    have ih := bpieces_c1 a rs hs hR k (i + 1) (by omega)
    rw [show ((i + 1 : Nat) : Int) = (i : Int) + 1 by omega, d2] at ih
    rw [bound_pieces_c1_eq, if_pos (by simp; omega), gd_pos (by omega), gd_pos (by rw [hl']; omega), Int.toNat_natCast, gd_pos (by simp [szs_len]; omega), w64 (by omega) (by omega)]
    have : szs (List.take i rs) ++ [(List.getD rs i (pzero T_api_Record)).2.1] = szs (List.take i rs ++ [List.getD rs i (pzero T_api_Record)]) := by simp [szs]
    rw [this]
    exact ih
theorem bound_pieces_spec (a : D_api_Settings) (rs : List D_api_Record) (hR : RecsOK rs) : bound_pieces a rs = some (if ask a rs ≠ 0 then ([], ask a rs) else (ap a.2.1 0 rs, 0)) := by
  have hl' : Int.ofNat rs.length = (rs.length : Int) := rfl
  rw [bound_pieces_eq, pack_Check_spec, member_Valid_spec rs hR]
  simp only [Option.bind_some]
  by_cases h : chk a = 0
  · rw [if_neg (by simp [h])]
    have ha : ask a rs = valid rs := by unfold ask; rw [if_neg (by simp [h])]
    by_cases hv : valid rs = 0
    · rw [if_neg (by simp [hv]), if_neg (by rw [ha]; simp [hv])]
      obtain ⟨h1, h2⟩ := ask_zero (ha.trans hv)
      exact bpieces_c1 a rs h1 h2 rs.length 0 (by omega)
    · rw [if_pos (by simpa using hv), if_pos (by rw [ha]; exact hv), ha]
  · have ha : ask a rs = chk a := by unfold ask; rw [if_pos h]
    rw [if_pos (by simpa using h), if_pos (by rw [ha]; exact h), ha]
end Go.Ab

set_option linter.unusedVariables false
set_option linter.unusedSimpArgs false
set_option maxHeartbeats 1000000
namespace Go.Ab
attribute [local irreducible] IntKind.wrap
/-! ### 4. How many -/
theorem pcs_cnt (i n s : Int) : ∀ (k : Nat) (off : Int), (pcs i n s k off).length = (pcs 0 n s k off).length
  | 0, off => rfl
  | k + 1, off => by
    simp only [pcs]
    by_cases h : off < n
    · rw [if_pos h, if_pos h]; simp only [List.length_cons, pcs_cnt i n s k]
    · rw [if_neg h, if_neg h]
def pcn (s : Int) (r : D_api_Record) : Int := ((pcs 0 r.2.1 s 8200 0).length : Int)
def lens (s : Int) (rs : List D_api_Record) : List Int := rs.map (pcn s)
theorem many_c1 (n s : Int) (hs : 16 ≤ s ∧ s ≤ 4096) (hn : 0 ≤ n ∧ n ≤ 8192) (k : Nat) : ∀ (acc off : Int), n - off ≤ k → 0 ≤ off → off ≤ 13000 → 0 ≤ acc → acc + k ≤ 1000000 →
    bitloftref36_many_c1 n s acc off = some (acc + ((pcs 0 n s k off).length : Int)) := by
  induction k with
  | zero =>
    intro acc off e h0 h1 h2 h3
    have hc : ¬ off < n := by omega
    rw [bitloftref36_many_c1_eq, if_neg (by simpa using hc)]
    simp [pcs]
  | succ k ih =>
    intro acc off e h0 h1 h2 h3
    rw [bitloftref36_many_c1_eq]
    by_cases hc : off < n
    · rw [if_pos (by simpa using hc), w64 (x := acc + 1) (by omega) (by omega), w64 (x := off + s) (by omega) (by omega), ih _ _ (by omega) (by omega) (by omega) (by omega) (by omega)]
      simp only [pcs, if_pos hc, List.length_cons]
      congr 1; omega
    · rw [if_neg (by simpa using hc)]
      simp [pcs, hc]
theorem many_spec (s : Int) (r : D_api_Record) (hs : 16 ≤ s ∧ s ≤ 4096) (hn : 0 ≤ r.2.1 ∧ r.2.1 ≤ 8192) : bitloftref36_many r.2.1 s = some (pcn s r) := by
  rw [bitloftref36_many_eq, many_c1 r.2.1 s hs hn 8200 0 0 (by omega) (by omega) (by omega) (by omega) (by omega)]
  simp [pcn]
theorem rSizes_c1 (a : D_api_Settings) (rs : List D_api_Record) (hs : 16 ≤ a.2.1 ∧ a.2.1 ≤ 4096) (hR : RecsV rs) : ∀ (k i : Nat), i + k = rs.length → bitloftref36_Sizes_c1 rs (i : Int) a (lens a.2.1 (rs.take i)) = some (lens a.2.1 rs, 0)
  | 0, i, e => by
    have hl' : Int.ofNat rs.length = (rs.length : Int) := rfl
    rw [bitloftref36_Sizes_c1_eq, if_neg (by simp; omega), List.take_of_length_le (by omega)]
  | k + 1, i, e => by
    have hlen := hR.len
    have hl' : Int.ofNat rs.length = (rs.length : Int) := rfl
    obtain ⟨d1, d2, d3⟩ := dropR_at (pzero T_api_Record : D_api_Record) (xs := rs) (i := i) (by omega)
    have hv := hR.each _ d3
    have ih := rSizes_c1 a rs hs hR k (i + 1) (by omega)
    rw [show ((i + 1 : Nat) : Int) = (i : Int) + 1 by omega, d2] at ih
    rw [bitloftref36_Sizes_c1_eq, if_pos (by simp; omega), gd_pos (by omega), gd_pos (by rw [hl']; omega), Int.toNat_natCast, many_spec _ _ hs ⟨hv.1, hv.2.1⟩]
    simp only [Option.bind_some]
    rw [gd_pos (by simp [lens]; omega), w64 (by omega) (by omega)]
    have : lens a.2.1 (List.take i rs) ++ [pcn a.2.1 (List.getD rs i (pzero T_api_Record))] = lens a.2.1 (List.take i rs ++ [List.getD rs i (pzero T_api_Record)]) := by simp [lens]
    rw [this]
    exact ih
theorem rSizes_spec (a : D_api_Settings) (rs : List D_api_Record) (hR : RecsOK rs) : bitloftref36_Sizes a rs = some (if ask a rs ≠ 0 then ([], ask a rs) else (lens a.2.1 rs, 0)) := by
  rw [bitloftref36_Sizes_eq, asked_spec a rs hR]
  simp only [Option.bind_some]
  by_cases h : ask a rs = 0
  · rw [if_neg (by simp [h]), if_neg (by simp [h])]
    obtain ⟨h1, h2⟩ := ask_zero h
    exact rSizes_c1 a rs h1 h2 rs.length 0 (by omega)
  · rw [if_pos (by simpa using h), if_pos h]
def sumI : List Int → Int
  | [] => 0
  | x :: r => x + sumI r
theorem rCount_c1 (e : Int) (xs : List Int) (hb : ∀ x ∈ xs, 0 ≤ x ∧ x ≤ 9000) (hl : xs.length ≤ 1000) : ∀ (k i : Nat) (acc : Int), i + k = xs.length → 0 ≤ acc → acc ≤ 9000 * i → bitloftref36_Count_c1 e acc (i : Int) xs = some (acc + sumI (xs.drop i), e)
  | 0, i, acc, h, h0, h1 => by
    rw [bitloftref36_Count_c1_eq, if_neg (by simp; omega), List.drop_eq_nil_of_le (by omega)]
    simp [sumI]
  | k + 1, i, acc, h, h0, h1 => by
    have hl' : Int.ofNat xs.length = (xs.length : Int) := rfl
    obtain ⟨d1, d2, d3⟩ := dropR_at (0 : Int) (xs := xs) (i := i) (by omega)
    have hv := hb _ d3
    rw [bitloftref36_Count_c1_eq, if_pos (by simp; omega), gd_pos (by omega), gd_pos (by rw [hl']; omega), Int.toNat_natCast, Nat.zero_add, w64 (x := (i : Int) + 1) (by omega) (by omega), w64 (by omega) (by omega)]
    have ih := rCount_c1 e xs hb hl k (i + 1) (acc + xs.getD i 0) (by omega) (by omega) (by omega)
    rw [show ((i + 1 : Nat) : Int) = (i : Int) + 1 by omega] at ih
    rw [ih, d1, sumI]
    congr 2; omega
theorem ap_len (s : Int) : ∀ (rs : List D_api_Record) (i : Int), ((ap s i rs).length : Int) = sumI (lens s rs)
  | [], i => rfl
  | r :: rest, i => by
    have := ap_len s rest (i + 1)
    simp only [ap, List.length_append, lens, List.map_cons, sumI, pcs_cnt i, pcn] at this ⊢
    omega
theorem lens_b (s : Int) (hs : 16 ≤ s) (rs : List D_api_Record) (hR : RecsV rs) : ∀ x ∈ lens s rs, 0 ≤ x ∧ x ≤ 9000 := by
  intro x hx
  obtain ⟨r, hr, rfl⟩ := List.mem_map.1 hx
  have hv := hR.each r hr
  have := pcs_len 0 r.2.1 s (by omega) 8200 0 hv.1 hv.1
  unfold pcn
  omega
theorem Count_spec (a : D_api_Settings) (rs : List D_api_Record) (hR : RecsOK rs) : bound_Count a rs = bitloftref36_Count a rs ∧ ∃ r, bound_Count a rs = some r := by
  rw [bound_Count_eq, bound_pieces_spec a rs hR, bitloftref36_Count_eq, rSizes_spec a rs hR]
  simp only [Option.bind_some]
  refine ⟨?_, _, rfl⟩
  by_cases h : ask a rs = 0
  · rw [if_neg (by simp [h]), if_neg (by simp [h])]
    obtain ⟨h1, h2⟩ := ask_zero h
    have hlen := h2.len
    have := rCount_c1 0 (lens a.2.1 rs) (lens_b _ h1.1 rs h2) (by simp [lens]; omega) (lens a.2.1 rs).length 0 0 (by omega) (by omega) (by omega)
    refine Eq.trans ?_ this.symm
    have hap := ap_len a.2.1 rs 0
    simp only [List.drop_zero, Int.zero_add, ← hap]
    rfl
  · rw [if_pos h, if_pos h]
    have := rCount_c1 (ask a rs) [] (by simp) (by simp) 0 0 0 rfl (by omega) (by omega)
    exact this.symm
/-! ### 5. Sizes by index -/
def inc (h : List Int) (p : D_api_Piece) : List Int := h.set p.1.toNat (h.getD p.1.toNat 0 + 1)
theorem inc_len (h : List Int) (p : D_api_Piece) : (inc h p).length = h.length := by simp [inc]
theorem bSizes_c1 (ps : List D_api_Piece) (hp : ps.length ≤ 100000) (m : Nat) (hps : ∀ p ∈ ps, 0 ≤ p.1 ∧ p.1 < (m : Int)) : ∀ (k j : Nat) (h : List Int), j + k = ps.length → h.length = m → (∀ i, 0 ≤ h.getD i 0 ∧ h.getD i 0 ≤ (j : Int)) → bound_Sizes_c1 (ps.length : Int) (j : Int) h ps = some ((ps.drop j).foldl inc h, 0)
  | 0, j, h, e, hm, hb => by
    rw [bound_Sizes_c1_eq, if_neg (by simp; omega), List.drop_eq_nil_of_le (by omega)]; rfl
  | k + 1, j, h, e, hm, hb => by
    have hl' : Int.ofNat ps.length = (ps.length : Int) := rfl
    have hl2 : Int.ofNat h.length = (m : Int) := by rw [hm]; rfl
    obtain ⟨d1, d2, d3⟩ := dropR_at (pzero T_api_Piece : D_api_Piece) (xs := ps) (i := j) (by omega)
    have hv := hps _ d3
    rw [bound_Sizes_c1_eq, if_pos (by simp; omega), gd_pos (by omega), gd_pos (by rw [hl']; omega), Int.toNat_natCast, Nat.zero_add, hl2, gd_pos hv.1, gd_pos hv.2, gd_pos hv.1, gd_pos hv.2, Nat.zero_add, w64 (x := (j : Int) + 1) (by omega) (by omega)]
    have hg := hb (ps.getD j (pzero T_api_Piece)).1.toNat
    rw [w64 (by omega) (by omega), d1, List.foldl_cons]
    have ih := bSizes_c1 ps hp m hps k (j + 1) (inc h (ps.getD j (pzero T_api_Piece))) (by omega) (by rw [inc_len]; exact hm) (fun i => by
      unfold inc
      rw [getD_set (by omega)]
      have := hb i
      split <;> omega)
    rw [show ((j + 1 : Nat) : Int) = (j : Int) + 1 by omega] at ih
    exact ih
theorem fold_pcs (P R : List Int) (n s : Int) (k : Nat) : ∀ (c off : Int), (pcs (P.length : Int) n s k off).foldl inc (P ++ c :: R) = P ++ (c + ((pcs 0 n s k off).length : Int)) :: R := by
  induction k with
  | zero => intro c off; simp [pcs]
  | succ k ih =>
    intro c off
    simp only [pcs]
    by_cases h : off < n
    · rw [if_pos h, if_pos h, List.foldl_cons]
      have : inc (P ++ c :: R) ((P.length : Int), (off, ((if s < n - off then s else n - off), ()))) = P ++ (c + 1) :: R := by
        simp only [inc, Int.toNat_natCast]
        rw [get_mid, set_mid]
      rw [this, ih]
      simp only [List.length_cons]
      congr 2; omega
    · rw [if_neg h, if_neg h]; simp
theorem fold_ap (s : Int) : ∀ (rs : List D_api_Record) (P : List Int), (ap s (P.length : Int) rs).foldl inc (P ++ List.replicate rs.length 0) = P ++ lens s rs
  | [], P => by simp [ap, lens]
  | r :: rest, P => by
    rw [ap, List.foldl_append, List.length_cons, List.replicate_succ, fold_pcs]
    have ih := fold_ap s rest (P ++ [pcn s r])
    simp only [List.length_append, List.length_cons, List.length_nil, List.append_assoc, List.singleton_append] at ih
    rw [show ((P.length + (0 + 1) : Nat) : Int) = (P.length : Int) + 1 by omega] at ih
    simp only [Int.zero_add]
    exact ih
theorem pcs_idx (i n s : Int) (k : Nat) : ∀ (off : Int), ∀ p ∈ pcs i n s k off, p.1 = i := by
  induction k with
  | zero => intro off p hp; simp [pcs] at hp
  | succ k ih =>
    intro off p hp
    simp only [pcs] at hp
    split at hp
    · rcases List.mem_cons.1 hp with rfl | hp
      · rfl
      · exact ih _ p hp
    · cases hp
theorem ap_idx (s : Int) : ∀ (rs : List D_api_Record) (i : Int), ∀ p ∈ ap s i rs, i ≤ p.1 ∧ p.1 < i + (rs.length : Int)
  | [], i, p, hp => by cases hp
  | r :: rest, i, p, hp => by
    rw [ap] at hp
    rcases List.mem_append.1 hp with hp | hp
    · have := pcs_idx i _ s 8200 0 p hp
      simp only [List.length_cons]; omega
    · have := ap_idx s rest (i + 1) p hp
      simp only [List.length_cons]; omega
theorem ap_small (s : Int) (hs : 16 ≤ s) (rs : List D_api_Record) (hR : RecsV rs) : ((ap s 0 rs).length : Int) ≤ 100000 := by
  have h1 := ap_len s rs 0
  have h2 : ∀ xs : List Int, (∀ x ∈ xs, 0 ≤ x ∧ x ≤ 9000) → sumI xs ≤ 9000 * (xs.length : Int) := by
    intro xs
    induction xs with
    | nil => intro _; simp [sumI]
    | cons x xs ih =>
      intro h
      have := h x (by simp)
      have := ih (fun y hy => h y (by simp [hy]))
      simp only [sumI, List.length_cons]; omega
  have h3 := h2 (lens s rs) (lens_b s hs rs hR)
  have h4 := hR.tot
  have h5 : ∀ rs : List D_api_Record, (∀ r ∈ rs, 0 ≤ r.2.1 ∧ r.2.1 ≤ 8192 ∧ r.1.size ≤ 40) → sumI (lens s rs) ≤ tot rs := by
    intro rs
    induction rs with
    | nil => intro _; simp [lens, sumI, tot]
    | cons r rs ih =>
      intro h
      have hv := h r (by simp)
      have := ih (fun y hy => h y (by simp [hy]))
      have hp := pcs_len 0 r.2.1 s (by omega) 8200 0 hv.1 hv.1
      simp only [lens, List.map_cons, sumI, tot, pcn] at this ⊢
      omega
  have := h5 rs hR.each
  omega
theorem bSizes_spec (a : D_api_Settings) (rs : List D_api_Record) (hR : RecsOK rs) (hm : rs.length ≤ 30) : bound_Sizes a rs = some (if ask a rs ≠ 0 then ([], ask a rs) else (lens a.2.1 rs, 0)) := by
  have hl' : Int.ofNat rs.length = (rs.length : Int) := rfl
  rw [bound_Sizes_eq, bound_pieces_spec a rs hR]
  simp only [Option.bind_some]
  by_cases h : ask a rs = 0
  · rw [if_neg (show ¬ ask a rs ≠ 0 by simp [h]), if_neg (show ¬ ask a rs ≠ 0 by simp [h]), if_neg (by simp)]
    rw [gd_pos trivial, gd_pos (by rw [hl']; omega), gd_pos (by rw [hl']; omega), gd_pos (by rw [hl']; omega)]
    obtain ⟨h1, h2⟩ := ask_zero h
    have hsm := ap_small a.2.1 h1.1 rs h2
    have hs := bSizes_c1 (ap a.2.1 0 rs) (by omega) rs.length (fun p hp => by have := ap_idx a.2.1 rs 0 p hp; omega) (ap a.2.1 0 rs).length 0 (List.replicate rs.length 0) (by omega) (by simp) (fun i => by
      rw [List.getD_eq_getElem?_getD, List.getElem?_replicate]
      split <;> simp)
    refine Eq.trans hs ?_
    have := fold_ap a.2.1 rs []
    simp only [List.length_nil, List.nil_append, Int.natCast_zero] at this
    rw [List.drop_zero]
    have e0 : ((0 : Nat) : Int) = 0 := rfl
    rw [show (ap a.2.1 0 rs).foldl inc (List.replicate rs.length 0) = lens a.2.1 rs from this]
  · rw [if_pos h, if_pos h, if_pos (by simpa using h)]
end Go.Ab

set_option linter.unusedVariables false
set_option linter.unusedSimpArgs false
set_option maxHeartbeats 1000000
namespace Go.Ab
attribute [local irreducible] IntKind.wrap
/-! ### 6. Lengths -/
def hsum : List D_api_Record → Int
  | [] => 0
  | r :: rest => 23 + (r.1.size : Int) + hsum rest
theorem hsum_b : ∀ (rs : List D_api_Record), (∀ r ∈ rs, 0 ≤ r.2.1 ∧ r.2.1 ≤ 8192 ∧ r.1.size ≤ 40) → 0 ≤ hsum rs ∧ hsum rs ≤ 100 * (rs.length : Int)
  | [], _ => by simp [hsum]
  | r :: rest, h => by
    have h1 := h r (by simp)
    have h2 := hsum_b rest (fun q hq => h q (by simp [hq]))
    simp only [hsum, List.length_cons]; omega
def gsum (g : Int → Int) : List D_api_Piece → Int
  | [] => 0
  | p :: r => 41 + g p.2.2.1 + gsum g r
theorem gsum_append (g : Int → Int) : ∀ (a b : List D_api_Piece), gsum g (a ++ b) = gsum g a + gsum g b
  | [], b => by simp [gsum]
  | p :: a, b => by simp only [List.cons_append, gsum, gsum_append g a b]; omega
theorem head_c1 (rs : List D_api_Record) (hR : RecsV rs) : ∀ (k i : Nat) (acc : Int), i + k = rs.length → 0 ≤ acc → acc ≤ 1000 + 100 * i → bitloftref36_head_c1 rs acc (i : Int) = some (acc + hsum (rs.drop i))
  | 0, i, acc, e, h0, h1 => by
    have hl' : Int.ofNat rs.length = (rs.length : Int) := rfl
    rw [bitloftref36_head_c1_eq, if_neg (by simp; omega), List.drop_eq_nil_of_le (by omega)]; simp [hsum]
  | k + 1, i, acc, e, h0, h1 => by
    have hlen := hR.len
    have hl' : Int.ofNat rs.length = (rs.length : Int) := rfl
    obtain ⟨d1, d2, d3⟩ := dropR_at (pzero T_api_Record : D_api_Record) (xs := rs) (i := i) (by omega)
    have hv := hR.each _ d3
    have hsz : Int.ofNat (rs.getD i (pzero T_api_Record)).1.size = ((rs.getD i (pzero T_api_Record)).1.size : Int) := rfl
    rw [bitloftref36_head_c1_eq, if_pos (by simp; omega), gd_pos (by omega), gd_pos (by rw [hl']; omega), Int.toNat_natCast, hsz, w64 (x := (23 : Int) + ((rs.getD i (pzero T_api_Record)).1.size : Int)) (by omega) (by omega), w64 (x := (i : Int) + 1) (by omega) (by omega), w64 (by omega) (by omega)]
    have ih := head_c1 rs hR k (i + 1) (acc + (23 + ((rs.getD i (pzero T_api_Record)).1.size : Int))) (by omega) (by omega) (by omega)
    rw [show ((i + 1 : Nat) : Int) = (i : Int) + 1 by omega] at ih
    rw [ih, d1, hsum]
    congr 1; omega
/-- A way to count a piece. -/
def GOK (g : Int → Int) : Prop := ∀ m, 0 ≤ m → m ≤ 8192 → 0 ≤ g m ∧ g m ≤ 8192
theorem pcs_m (i n s : Int) (hs : 1 ≤ s) (hn : n ≤ 8192) (k : Nat) : ∀ (off : Int), 0 ≤ off → ∀ p ∈ pcs i n s k off, 0 ≤ p.2.2.1 ∧ p.2.2.1 ≤ 8192 := by
  induction k with
  | zero => intro off h p hp; simp [pcs] at hp
  | succ k ih =>
    intro off h p hp
    simp only [pcs] at hp
    split at hp
    · rcases List.mem_cons.1 hp with rfl | hp
      · simp only; split <;> omega
      · exact ih _ (by omega) p hp
    · cases hp
theorem ap_m (s : Int) (hs : 1 ≤ s) : ∀ (rs : List D_api_Record) (i : Int), (∀ r ∈ rs, 0 ≤ r.2.1 ∧ r.2.1 ≤ 8192 ∧ r.1.size ≤ 40) → ∀ p ∈ ap s i rs, 0 ≤ p.2.2.1 ∧ p.2.2.1 ≤ 8192
  | [], i, h, p, hp => by cases hp
  | r :: rest, i, h, p, hp => by
    rw [ap] at hp
    rcases List.mem_append.1 hp with hp | hp
    · exact pcs_m i _ s hs (h r (by simp)).2.1 8200 0 (by omega) p hp
    · exact ap_m s hs rest (i + 1) (fun q hq => h q (by simp [hq])) p hp
theorem gsum_b (g : Int → Int) (hg : GOK g) : ∀ (ps : List D_api_Piece), (∀ p ∈ ps, 0 ≤ p.2.2.1 ∧ p.2.2.1 ≤ 8192) → 0 ≤ gsum g ps ∧ gsum g ps ≤ 9000 * (ps.length : Int)
  | [], _ => by simp [gsum]
  | p :: r, h => by
    have h1 := h p (by simp)
    have h2 := gsum_b g hg r (fun q hq => h q (by simp [hq]))
    have h3 := hg _ h1.1 h1.2
    simp only [gsum, List.length_cons]; omega
def gG : Int → Int := fun m => m
def gL : Int → Int := fun m => if (4 : Int) < m then 4 else m
theorem gG_ok : GOK gG := fun m h0 h1 => ⟨h0, h1⟩
theorem gL_ok : GOK gL := fun m h0 h1 => by unfold gL; split <;> omega
def gOf (b : Bool) : Int → Int := if b then gL else gG
theorem gOf_ok (b : Bool) : GOK (gOf b) := by cases b; exact gG_ok; exact gL_ok
theorem blenG_c2 (ps : List D_api_Piece) (hp : ps.length ≤ 100000) (hm : ∀ p ∈ ps, 0 ≤ p.2.2.1 ∧ p.2.2.1 ≤ 8192) : ∀ (k j : Nat) (acc : Int), j + k = ps.length → 0 ≤ acc → acc ≤ 10000 + 9000 * j →
    bound_length_c2 acc (ps.length : Int) (j : Int) () ps = some (acc + gsum gG (ps.drop j), 0)
  | 0, j, acc, e, h0, h1 => by
    rw [bound_length_c2_eq, if_neg (by simp; omega), List.drop_eq_nil_of_le (by omega)]; simp [gsum]
  | k + 1, j, acc, e, h0, h1 => by
    have hl' : Int.ofNat ps.length = (ps.length : Int) := rfl
    obtain ⟨d1, d2, d3⟩ := dropR_at (pzero T_api_Piece : D_api_Piece) (xs := ps) (i := j) (by omega)
    have hv := hm _ d3
    rw [bound_length_c2_eq, if_pos (by simp; omega), gd_pos (by omega), gd_pos (by rw [hl']; omega), Int.toNat_natCast, Nat.zero_add, bound_greatest_1_eq]
    simp only [Option.bind_some]
    rw [w64 (x := (j : Int) + 1) (by omega) (by omega), w64 (x := (41 : Int) + (ps.getD j (pzero T_api_Piece)).2.2.1) (by omega) (by omega), w64 (by omega) (by omega)]
    have ih := blenG_c2 ps hp hm k (j + 1) (acc + (41 + (ps.getD j (pzero T_api_Piece)).2.2.1)) (by omega) (by omega) (by omega)
    rw [show ((j + 1 : Nat) : Int) = (j : Int) + 1 by omega] at ih
    rw [ih, d1, gsum]
    simp only [gG]
    congr 2; omega
theorem blenL_c2 (ps : List D_api_Piece) (hp : ps.length ≤ 100000) (hm : ∀ p ∈ ps, 0 ≤ p.2.2.1 ∧ p.2.2.1 ≤ 8192) : ∀ (k j : Nat) (acc : Int), j + k = ps.length → 0 ≤ acc → acc ≤ 10000 + 9000 * j →
    bound_length_v2_c2 acc (ps.length : Int) (j : Int) () ps = some (acc + gsum gL (ps.drop j), 0)
  | 0, j, acc, e, h0, h1 => by
    rw [bound_length_v2_c2_eq, if_neg (by simp; omega), List.drop_eq_nil_of_le (by omega)]; simp [gsum]
  | k + 1, j, acc, e, h0, h1 => by
    have hl' : Int.ofNat ps.length = (ps.length : Int) := rfl
    obtain ⟨d1, d2, d3⟩ := dropR_at (pzero T_api_Piece : D_api_Piece) (xs := ps) (i := j) (by omega)
    have hv := hm _ d3
    have hg := gL_ok _ hv.1 hv.2
    rw [bound_length_v2_c2_eq, if_pos (by simp; omega), gd_pos (by omega), gd_pos (by rw [hl']; omega), Int.toNat_natCast, Nat.zero_add, bound_least_1_eq]
    simp only [Option.bind_some]
    rw [show (if (4 : Int) < (ps.getD j (pzero T_api_Piece)).2.2.1 then (4 : Int) else (ps.getD j (pzero T_api_Piece)).2.2.1) = gL (ps.getD j (pzero T_api_Piece)).2.2.1 from rfl]
    rw [w64 (x := (j : Int) + 1) (by omega) (by omega), w64 (x := (41 : Int) + gL (ps.getD j (pzero T_api_Piece)).2.2.1) (by omega) (by omega), w64 (by omega) (by omega)]
    have ih := blenL_c2 ps hp hm k (j + 1) (acc + (41 + gL (ps.getD j (pzero T_api_Piece)).2.2.1)) (by omega) (by omega) (by omega)
    rw [show ((j + 1 : Nat) : Int) = (j : Int) + 1 by omega] at ih
    rw [ih, d1, gsum]
    congr 2; omega
theorem wsz (x : Int) (h : 0 ≤ x ∧ x ≤ 100) : IntKind.wrap .i64 (IntKind.wrap .i64 (IntKind.wrap .i64 (1 + x) + 2) + 20) = 23 + x := by
  rw [w64 (x := 1 + x) (by omega) (by omega), w64 (x := 1 + x + 2) (by omega) (by omega), w64 (by omega) (by omega)]; omega
theorem blenG_c1 (rs : List D_api_Record) (hR : RecsV rs) (ps : List D_api_Piece) : ∀ (k i : Nat) (acc : Int), i + k = rs.length → 0 ≤ acc → acc ≤ 1000 + 100 * i →
    bound_length_c1 acc rs (rs.length : Int) (i : Int) () ps = bound_length_c2 (acc + hsum (rs.drop i)) (ps.length : Int) 0 () ps
  | 0, i, acc, e, h0, h1 => by
    rw [bound_length_c1_eq, if_neg (by simp; omega), List.drop_eq_nil_of_le (by omega)]; simp [hsum]
  | k + 1, i, acc, e, h0, h1 => by
    have hlen := hR.len
    have hl' : Int.ofNat rs.length = (rs.length : Int) := rfl
    obtain ⟨d1, d2, d3⟩ := dropR_at (pzero T_api_Record : D_api_Record) (xs := rs) (i := i) (by omega)
    have hv := hR.each _ d3
    have hsz : Int.ofNat (rs.getD i (pzero T_api_Record)).1.size = ((rs.getD i (pzero T_api_Record)).1.size : Int) := rfl
    rw [bound_length_c1_eq, if_pos (by simp; omega), gd_pos (by omega), gd_pos (by rw [hl']; omega), Int.toNat_natCast, hsz, wsz _ (by omega), w64 (x := (i : Int) + 1) (by omega) (by omega), w64 (by omega) (by omega)]
    have ih := blenG_c1 rs hR ps k (i + 1) (acc + (23 + ((rs.getD i (pzero T_api_Record)).1.size : Int))) (by omega) (by omega) (by omega)
    rw [show ((i + 1 : Nat) : Int) = (i : Int) + 1 by omega] at ih
    rw [ih, d1, hsum]
    congr 1; omega
theorem blenL_c1 (rs : List D_api_Record) (hR : RecsV rs) (ps : List D_api_Piece) : ∀ (k i : Nat) (acc : Int), i + k = rs.length → 0 ≤ acc → acc ≤ 1000 + 100 * i →
    bound_length_v2_c1 acc rs (rs.length : Int) (i : Int) () ps = bound_length_v2_c2 (acc + hsum (rs.drop i)) (ps.length : Int) 0 () ps
  | 0, i, acc, e, h0, h1 => by
    rw [bound_length_v2_c1_eq, if_neg (by simp; omega), List.drop_eq_nil_of_le (by omega)]; simp [hsum]
  | k + 1, i, acc, e, h0, h1 => by
    have hlen := hR.len
    have hl' : Int.ofNat rs.length = (rs.length : Int) := rfl
    obtain ⟨d1, d2, d3⟩ := dropR_at (pzero T_api_Record : D_api_Record) (xs := rs) (i := i) (by omega)
    have hv := hR.each _ d3
    have hsz : Int.ofNat (rs.getD i (pzero T_api_Record)).1.size = ((rs.getD i (pzero T_api_Record)).1.size : Int) := rfl
    rw [bound_length_v2_c1_eq, if_pos (by simp; omega), gd_pos (by omega), gd_pos (by rw [hl']; omega), Int.toNat_natCast, hsz, wsz _ (by omega), w64 (x := (i : Int) + 1) (by omega) (by omega), w64 (by omega) (by omega)]
    have ih := blenL_c1 rs hR ps k (i + 1) (acc + (23 + ((rs.getD i (pzero T_api_Record)).1.size : Int))) (by omega) (by omega) (by omega)
    rw [show ((i + 1 : Nat) : Int) = (i : Int) + 1 by omega] at ih
    rw [ih, d1, hsum]
    congr 1; omega
/-- The length of an archive, so counted. -/
def lng (g : Int → Int) (s : Int) (rs : List D_api_Record) : Int := 28 + hsum rs + gsum g (ap s 0 rs)
theorem Greatest_spec (a : D_api_Settings) (rs : List D_api_Record) (hR : RecsOK rs) : bound_Greatest a rs = some (if ask a rs ≠ 0 then (0, ask a rs) else (lng gG a.2.1 rs, 0)) := by
  rw [bound_Greatest_eq, bound_greatest_eq, bound_length_eq, bound_pieces_spec a rs hR]
  simp only [Option.bind_some]
  by_cases h : ask a rs = 0
  · rw [if_neg (show ¬ ask a rs ≠ 0 by simp [h]), if_neg (show ¬ ask a rs ≠ 0 by simp [h]), if_neg (by simp)]
    obtain ⟨h1, h2⟩ := ask_zero h
    have hb := hsum_b rs h2.each
    have hlen := h2.len
    have e1 := blenG_c1 rs h2 (ap a.2.1 0 rs) rs.length 0 28 (by omega) (by omega) (by omega)
    have e2 := blenG_c2 (ap a.2.1 0 rs) (by have := ap_small a.2.1 h1.1 rs h2; omega) (ap_m a.2.1 (by omega) rs 0 h2.each) (ap a.2.1 0 rs).length 0 (28 + hsum rs) (by omega) (by omega) (by omega)
    rw [List.drop_zero] at e1 e2
    have e3 := e1.trans e2
    exact congrArg (fun o => Option.bind o some) e3
  · rw [if_pos h, if_pos h, if_pos (by simpa using h)]; rfl
theorem Least_spec (a : D_api_Settings) (rs : List D_api_Record) (hR : RecsOK rs) : bound_Least a rs = some (if ask a rs ≠ 0 then (0, ask a rs) else (lng gL a.2.1 rs, 0)) := by
  rw [bound_Least_eq, bound_least_eq, bound_length_v2_eq, bound_pieces_spec a rs hR]
  simp only [Option.bind_some]
  by_cases h : ask a rs = 0
  · rw [if_neg (show ¬ ask a rs ≠ 0 by simp [h]), if_neg (show ¬ ask a rs ≠ 0 by simp [h]), if_neg (by simp)]
    obtain ⟨h1, h2⟩ := ask_zero h
    have hb := hsum_b rs h2.each
    have hlen := h2.len
    have e1 := blenL_c1 rs h2 (ap a.2.1 0 rs) rs.length 0 28 (by omega) (by omega) (by omega)
    have e2 := blenL_c2 (ap a.2.1 0 rs) (by have := ap_small a.2.1 h1.1 rs h2; omega) (ap_m a.2.1 (by omega) rs 0 h2.each) (ap a.2.1 0 rs).length 0 (28 + hsum rs) (by omega) (by omega) (by omega)
    rw [List.drop_zero] at e1 e2
    have e3 := e1.trans e2
    exact congrArg (fun o => Option.bind o some) e3
  · rw [if_pos h, if_pos h, if_pos (by simpa using h)]; rfl
end Go.Ab

set_option linter.unusedVariables false
set_option linter.unusedSimpArgs false
set_option maxHeartbeats 1000000
namespace Go.Ab
attribute [local irreducible] IntKind.wrap
/-! ### 7. The reference's lengths -/
theorem rlen_c2 (rs : List D_api_Record) (b : Bool) (a : D_api_Settings) (hs : 16 ≤ a.2.1 ∧ a.2.1 ≤ 4096) (hl : rs.length ≤ 16) (i : Nat) (hi : i < rs.length) (hv : 0 ≤ (rs.getD i (pzero T_api_Record)).2.1 ∧ (rs.getD i (pzero T_api_Record)).2.1 ≤ 8192) (k : Nat) :
    ∀ (acc off : Int), (rs.getD i (pzero T_api_Record)).2.1 - off ≤ k → 0 ≤ off → off ≤ 13000 → 0 ≤ acc → acc + 9000 * k ≤ 4000000000 →
    bitloftref36_length_c2 rs b acc (i : Int) off a = bitloftref36_length_c1 rs b (acc + gsum (gOf b) (pcs (i : Int) (rs.getD i (pzero T_api_Record)).2.1 a.2.1 k off)) ((i : Int) + 1) a := by
  have hl' : Int.ofNat rs.length = (rs.length : Int) := rfl
  induction k with
  | zero =>
    intro acc off e h0 h1 h2 h3
    have hc : ¬ off < (rs.getD i (pzero T_api_Record)).2.1 := by omega
    rw [bitloftref36_length_c2_eq, gd_pos (by omega), gd_pos (by rw [hl']; omega), Int.toNat_natCast, if_neg (by simpa using hc), w64 (by omega) (by omega)]
    simp [pcs, gsum]
  | succ k ih =>
    intro acc off e h0 h1 h2 h3
    rw [bitloftref36_length_c2_eq, gd_pos (by omega), gd_pos (by rw [hl']; omega), Int.toNat_natCast]
    by_cases hc : off < (rs.getD i (pzero T_api_Record)).2.1
    · have hm : (if (rs.getD i (pzero T_api_Record)).2.1 - off < a.2.1 then (rs.getD i (pzero T_api_Record)).2.1 - off else a.2.1) = (if a.2.1 < (rs.getD i (pzero T_api_Record)).2.1 - off then a.2.1 else (rs.getD i (pzero T_api_Record)).2.1 - off) := by
        split <;> split <;> omega
      rw [if_pos (by simpa using hc), gd_pos (by omega), gd_pos (by rw [hl']; omega), w64 (x := (rs.getD i (pzero T_api_Record)).2.1 - off) (by omega) (by omega), w64 (x := off + a.2.1) (by omega) (by omega), hm]
      have hb : 0 ≤ (if a.2.1 < (rs.getD i (pzero T_api_Record)).2.1 - off then a.2.1 else (rs.getD i (pzero T_api_Record)).2.1 - off) ∧ (if a.2.1 < (rs.getD i (pzero T_api_Record)).2.1 - off then a.2.1 else (rs.getD i (pzero T_api_Record)).2.1 - off) ≤ 8192 := by split <;> omega
      simp only [pcs, if_pos hc, gsum]
      generalize (if a.2.1 < (rs.getD i (pzero T_api_Record)).2.1 - off then a.2.1 else (rs.getD i (pzero T_api_Record)).2.1 - off) = m at hb ⊢
      have hg := gOf_ok b m hb.1 hb.2
      cases b with
      | true =>
        rw [if_pos rfl, show (if (4 : Int) < m then (4 : Int) else m) = gOf true m from rfl, w64 (x := (41 : Int) + gOf true m) (by omega) (by omega), w64 (x := acc + (41 + gOf true m)) (by omega) (by omega), ih _ _ (by omega) (by omega) (by omega) (by omega) (by omega)]
        congr 1; omega
      | false =>
        have hgm : gOf false m = m := rfl
        rw [if_neg (by simp), w64 (x := (41 : Int) + m) (by omega) (by omega), w64 (x := acc + (41 + m)) (by omega) (by omega), ih _ _ (by omega) (by omega) (by omega) (by omega) (by omega)]
        rw [hgm]
        congr 1; omega
    · rw [if_neg (by simpa using hc), w64 (by omega) (by omega)]
      simp only [pcs, if_neg hc, gsum, Int.add_zero]
theorem rlen_c1 (rs : List D_api_Record) (b : Bool) (a : D_api_Settings) (hs : 16 ≤ a.2.1 ∧ a.2.1 ≤ 4096) (hR : RecsV rs) : ∀ (k i : Nat) (acc : Int), i + k = rs.length → 0 ≤ acc → acc ≤ 10000 + 80000000 * i →
    bitloftref36_length_c1 rs b acc (i : Int) a = some (acc + gsum (gOf b) (ap a.2.1 (i : Int) (rs.drop i)))
  | 0, i, acc, e, h0, h1 => by
    have hl' : Int.ofNat rs.length = (rs.length : Int) := rfl
    rw [bitloftref36_length_c1_eq, if_neg (by simp; omega), List.drop_eq_nil_of_le (by omega)]
    simp [ap, gsum]
  | k + 1, i, acc, e, h0, h1 => by
    have hlen := hR.len
    have hl' : Int.ofNat rs.length = (rs.length : Int) := rfl
    obtain ⟨d1, d2, d3⟩ := dropR_at (pzero T_api_Record : D_api_Record) (xs := rs) (i := i) (by omega)
    have hv := hR.each _ d3
    have hp := pcs_len (i : Int) (rs.getD i (pzero T_api_Record)).2.1 a.2.1 (by omega) 8200 0 hv.1 hv.1
    have hb := gsum_b (gOf b) (gOf_ok b) (pcs (i : Int) (rs.getD i (pzero T_api_Record)).2.1 a.2.1 8200 0) (pcs_m _ _ _ (by omega) hv.2.1 8200 0 (by omega))
    have e2 := rlen_c2 rs b a hs hlen i (by omega) ⟨hv.1, hv.2.1⟩ 8200 acc 0 (by omega) (by omega) (by omega) h0 (by omega)
    rw [bitloftref36_length_c1_eq, if_pos (by simp; omega), e2]
    have ih := rlen_c1 rs b a hs hR k (i + 1) (acc + gsum (gOf b) (pcs (i : Int) (rs.getD i (pzero T_api_Record)).2.1 a.2.1 8200 0)) (by omega) (by omega) (by omega)
    rw [show ((i + 1 : Nat) : Int) = (i : Int) + 1 by omega] at ih
    rw [ih, d1, ap, gsum_append]
    congr 1; omega
theorem rlen_spec (a : D_api_Settings) (rs : List D_api_Record) (b : Bool) (hs : 16 ≤ a.2.1 ∧ a.2.1 ≤ 4096) (hR : RecsV rs) : bitloftref36_length a rs b = some (lng (gOf b) a.2.1 rs) := by
  have hb := hsum_b rs hR.each
  have hlen := hR.len
  have h1 := head_c1 rs hR rs.length 0 28 (by omega) (by omega) (by omega)
  have h1' : bitloftref36_head rs = some (28 + hsum rs) := by rw [bitloftref36_head_eq]; exact h1
  rw [bitloftref36_length_eq, h1']
  simp only [Option.bind_some]
  exact rlen_c1 rs b a hs hR rs.length 0 (28 + hsum rs) (by omega) (by omega) (by omega)
theorem rGreatest_spec (a : D_api_Settings) (rs : List D_api_Record) (hR : RecsOK rs) : bitloftref36_Greatest a rs = some (if ask a rs ≠ 0 then (0, ask a rs) else (lng gG a.2.1 rs, 0)) := by
  rw [bitloftref36_Greatest_eq, asked_spec a rs hR]
  simp only [Option.bind_some]
  by_cases h : ask a rs = 0
  · rw [if_neg (by simp [h]), if_neg (by simp [h])]
    obtain ⟨h1, h2⟩ := ask_zero h
    rw [rlen_spec a rs false h1 h2]; rfl
  · rw [if_pos (by simpa using h), if_pos h]
theorem rLeast_spec (a : D_api_Settings) (rs : List D_api_Record) (hR : RecsOK rs) : bitloftref36_Least a rs = some (if ask a rs ≠ 0 then (0, ask a rs) else (lng gL a.2.1 rs, 0)) := by
  rw [bitloftref36_Least_eq, asked_spec a rs hR]
  simp only [Option.bind_some]
  by_cases h : ask a rs = 0
  · rw [if_neg (by simp [h]), if_neg (by simp [h])]
    obtain ⟨h1, h2⟩ := ask_zero h
    rw [rlen_spec a rs true h1 h2]; rfl
  · rw [if_pos (by simpa using h), if_pos h]
/-! ### 8. The law -/
theorem peqL_refl {α : Type} (eq : α → α → Bool) (he : ∀ x, eq x x = true) : ∀ xs : List α, peqL eq xs xs = true
  | [] => rfl
  | x :: xs => by simp only [peqL, he, peqL_refl eq he xs, Bool.and_self]
theorem peq_rec (r : D_api_Record) : peq T_api_Record r r = true := by
  simp only [peq, beq_self_eq_true, decide_true, Bool.true_and, Bool.and_true]
  exact peqL_refl _ (fun x => by simp [peq]) _
theorem rSame_c1 (rs : List D_api_Record) (hl : rs.length ≤ 1000) : ∀ (k i : Nat), i + k = rs.length → bitloftref28_Same_c1 rs rs (i : Int) = some true
  | 0, i, e => by
    have hl' : Int.ofNat rs.length = (rs.length : Int) := rfl
    rw [bitloftref28_Same_c1_eq, if_neg (by simp; omega)]
  | k + 1, i, e => by
    have hl' : Int.ofNat rs.length = (rs.length : Int) := rfl
    have ih := rSame_c1 rs hl k (i + 1) (by omega)
    rw [show ((i + 1 : Nat) : Int) = (i : Int) + 1 by omega] at ih
    rw [bitloftref28_Same_c1_eq, if_pos (by simp; omega), gd_pos (by omega), gd_pos (by rw [hl']; omega), gd_pos (by omega), gd_pos (by rw [hl']; omega), peq_rec, if_neg (by simp), w64 (by omega) (by omega), ih]
theorem rSame_refl (rs : List D_api_Record) (hl : rs.length ≤ 1000) : bitloftref28_Same rs rs = some true := by
  rw [bitloftref28_Same_eq, if_neg (by simp)]
  exact rSame_c1 rs hl rs.length 0 (by omega)
theorem counts_c1 (rs : List D_api_Record) (hr : rs.length ≤ 1000) (xs : List Int) (hl : xs.length ≤ 1000) : ∀ (k i : Nat), i + k = xs.length → bitloftlaw36_BoundCounts_c1 rs (i : Int) rs xs xs = some true
  | 0, i, e => by
    have hl' : Int.ofNat xs.length = (xs.length : Int) := rfl
    rw [bitloftlaw36_BoundCounts_c1_eq, if_neg (by simp; omega), rSame_refl rs hr]; rfl
  | k + 1, i, e => by
    have hl' : Int.ofNat xs.length = (xs.length : Int) := rfl
    have ih := counts_c1 rs hr xs hl k (i + 1) (by omega)
    rw [show ((i + 1 : Nat) : Int) = (i : Int) + 1 by omega] at ih
    rw [bitloftlaw36_BoundCounts_c1_eq, if_pos (by simp; omega), gd_pos (by omega), gd_pos (by rw [hl']; omega), gd_pos (by omega), gd_pos (by rw [hl']; omega), if_neg (by simp), w64 (by omega) (by omega), ih]
/-- Names that are short are few. -/
theorem great_c1 (rs : List D_api_Record) : ∀ (k i : Nat), i + k = rs.length → ∃ g, bitloftref28_GreatRecords_c1 rs (i : Int) = some g ∧ (g = false → rs.length ≤ 30)
  | 0, i, e => by
    have hl' : Int.ofNat rs.length = (rs.length : Int) := rfl
    refine ⟨decide ((rs.length : Int) > 30), ?_, fun h => by simp at h; omega⟩
    rw [bitloftref28_GreatRecords_c1_eq, if_neg (by simp; omega)]; rfl
  | k + 1, i, e => by
    have hl' : Int.ofNat rs.length = (rs.length : Int) := rfl
    rw [bitloftref28_GreatRecords_c1_eq, if_pos (by simp; omega)]
    by_cases h : i ≤ 30
    · rw [if_pos (by simp; omega), gd_pos (by omega), gd_pos (by rw [hl']; omega)]
      split
      · exact ⟨true, rfl, fun h => by cases h⟩
      · have ih := great_c1 rs k (i + 1) (by omega)
        rw [show ((i + 1 : Nat) : Int) = (i : Int) + 1 by omega] at ih
        rw [w64 (by omega) (by omega)]
        exact ih
    · rw [if_neg (by simp; omega)]
      exact ⟨decide ((rs.length : Int) > 30), rfl, fun h => by simp at h; omega⟩
theorem recs_ok {rs : List D_api_Record} (h : wfP (.slice T_api_Record) rs) : RecsOK rs := by
  refine ⟨?_, fun r hr => ?_⟩
  · have := h.1; simp [Go.maxLen] at this; omega
  · have := (h.2 r hr).1; simp [wfP, Go.maxLen] at this; omega
theorem bitloftlaw36_BoundCounts_true (x0 : pden T_api_Settings) (z0 : wfP T_api_Settings x0) (x1 : pden (.slice T_api_Record)) (z1 : wfP (.slice T_api_Record) x1) : bitloftlaw36_BoundCounts x0 x1 = some true := by
  have hR : RecsOK x1 := recs_ok z1
  obtain ⟨g, hg, hgl⟩ := great_c1 x1 x1.length 0 (by omega)
  have hg' : bitloftref28_GreatRecords x1 = some g := by rw [bitloftref28_GreatRecords_eq]; exact hg
  rw [bitloftlaw36_BoundCounts_eq, hg']
  simp only [Option.bind_some]
  cases g with
  | true => rw [if_pos rfl]
  | false =>
    have hl := hgl rfl
    obtain ⟨c1, r, c2⟩ := Count_spec x0 x1 hR
    rw [if_neg (by simp), gd_pos (by simp; omega), ← c1, c2, bSizes_spec x0 x1 hR hl, rSizes_spec x0 x1 hR, Greatest_spec x0 x1 hR, rGreatest_spec x0 x1 hR, Least_spec x0 x1 hR, rLeast_spec x0 x1 hR]
    simp only [Option.bind_some, bne_self_eq_false, Bool.false_eq_true, if_false, List.nil_append]
    refine counts_c1 x1 (by omega) _ ?_ _ 0 (Nat.zero_add _)
    split
    · simp
    · simp [lens]; omega
end Go.Ab

set_option linter.unusedVariables false
set_option linter.unusedSimpArgs false
set_option maxHeartbeats 1000000
namespace Go.Ab
attribute [local irreducible] IntKind.wrap
/-! ### 1. A head's bytes -/
def recB (r : D_api_Record) : List Int := (([IntKind.wrap .u8 (r.1.size : Int)] ++ ofStr r.1) ++ [IntKind.wrap .u8 (Int.fdiv r.2.1 256), IntKind.wrap .u8 r.2.1]) ++ List.take 20 (List.drop 0 r.2.2.1)
def recsB : List D_api_Record → List Int
  | [] => []
  | r :: rest => recB r ++ recsB rest
def frontB (a : D_api_Settings) (n : Int) : List Int := [66, 76, 70, 1, IntKind.wrap .u8 a.1, IntKind.wrap .u8 (Int.fdiv a.2.1 256), IntKind.wrap .u8 a.2.1, IntKind.wrap .u8 n]
def bodyB (a : D_api_Settings) (rs : List D_api_Record) : List Int := frontB a rs.length ++ recsB rs
def headB (a : D_api_Settings) (rs : List D_api_Record) : List Int := bodyB a rs ++ shaB (bodyB a rs)
/-- Sums of twenty bytes. -/
def SumsOK (rs : List D_api_Record) : Prop := ∀ r ∈ rs, r.2.2.1.length = 20 ∧ Bts r.2.2.1
theorem ofStr_bts (s : ByteArray) : Bts (ofStr s) := by
  intro x hx
  obtain ⟨b, _, rfl⟩ := List.mem_map.1 hx
  have := b.toNat_lt
  omega
theorem recB_len (r : D_api_Record) (h : r.2.2.1.length = 20) : (recB r).length = 23 + r.1.size := by
  simp only [recB, List.length_append, List.length_cons, List.length_nil, ofStr_len, List.length_take, List.drop_zero, h]
  omega
theorem recB_bts (r : D_api_Record) (h : Bts r.2.2.1) : Bts (recB r) :=
  Bts.append (Bts.append (Bts.append (Bts.cons (w8_b _) Bts.nil) (ofStr_bts _)) (Bts.cons (w8_b _) (Bts.cons (w8_b _) Bts.nil))) ((h.drop 0).take 20)
theorem recsB_len : ∀ (rs : List D_api_Record), SumsOK rs → ((recsB rs).length : Int) = hsum rs
  | [], _ => rfl
  | r :: rest, h => by
    have h1 := recB_len r (h r (by simp)).1
    have h2 := recsB_len rest (fun q hq => h q (by simp [hq]))
    simp only [recsB, hsum, List.length_append]
    omega
theorem recsB_bts : ∀ (rs : List D_api_Record), SumsOK rs → Bts (recsB rs)
  | [], _ => Bts.nil
  | r :: rest, h => (recB_bts r (h r (by simp)).2).append (recsB_bts rest (fun q hq => h q (by simp [hq])))
theorem frontB_bts (a : D_api_Settings) (n : Int) : Bts (frontB a n) := by
  unfold frontB
  repeat first | exact Bts.nil | refine Bts.cons (w8_b _) ?_ | refine Bts.cons (by omega) ?_
theorem bodyB_bts (a : D_api_Settings) (rs : List D_api_Record) (h : SumsOK rs) : Bts (bodyB a rs) := (frontB_bts _ _).append (recsB_bts rs h)
theorem headB_bts (a : D_api_Settings) (rs : List D_api_Record) (h : SumsOK rs) : Bts (headB a rs) := (bodyB_bts a rs h).append (shaB_bts _)
theorem headB_len (a : D_api_Settings) (rs : List D_api_Record) (h : SumsOK rs) : ((headB a rs).length : Int) = 28 + hsum rs := by
  have := recsB_len rs h
  simp only [headB, bodyB, List.length_append, shaB_len]
  have : (frontB a rs.length).length = 8 := rfl
  omega
/-! ### 2. The program writes it -/
theorem Write_c1 (rs : List D_api_Record) (hR : RecsV rs) (hS : SumsOK rs) : ∀ (k i : Nat) (h : List Int), i + k = rs.length → (h.length : Int) ≤ 100 * i → member_Write_c1 rs (rs.length : Int) (i : Int) h = some (h ++ recsB (rs.drop i), 0)
  | 0, i, h, e, hl => by
    rw [member_Write_c1_eq, if_neg (by simp; omega), List.drop_eq_nil_of_le (by omega)]; simp [recsB]
  | k + 1, i, h, e, hl => by
    have hlen := hR.len
    have hl' : Int.ofNat rs.length = (rs.length : Int) := rfl
    obtain ⟨d1, d2, d3⟩ := dropR_at (pzero T_api_Record : D_api_Record) (xs := rs) (i := i) (by omega)
    have hv := hR.each _ d3
    have hs := hS _ d3
    have hb := recB_len _ hs.1
    rw [member_Write_c1_eq, if_pos (by simp; omega), gd_pos (by omega), gd_pos (by rw [hl']; omega), Int.toNat_natCast]
    generalize (rs.getD i (pzero T_api_Record) : D_api_Record) = r at *
    have e1 : (((h ++ [IntKind.wrap .u8 (Int.ofNat r.1.size)]) ++ ofStr r.1) ++ [IntKind.wrap .u8 (Int.fdiv r.2.1 256), IntKind.wrap .u8 r.2.1]) ++ List.take 20 (List.drop 0 r.2.2.1) = h ++ recB r := by
      simp only [recB, List.append_assoc]; rfl
    have ho := ofStr_len r.1
    rw [gd_pos (by simp only [List.length_append, List.length_cons, List.length_nil]; omega), gd_pos (by simp only [List.length_append, List.length_cons, List.length_nil]; omega), gd_pos (by omega), gd_pos (by simp only [List.length_append, List.length_cons, List.length_nil]; omega), e1, gd_pos (by rw [List.length_append]; omega), w64 (by omega) (by omega)]
    have ih := Write_c1 rs hR hS k (i + 1) (h ++ recB r) (by omega) (by rw [List.length_append]; omega)
    rw [show ((i + 1 : Nat) : Int) = (i : Int) + 1 by omega] at ih
    rw [ih, d1, recsB, List.append_assoc]
theorem member_Write_spec (rs : List D_api_Record) (hR : RecsOK rs) (hS : SumsOK rs) : member_Write rs = some (if valid rs ≠ 0 then ([], valid rs) else (recsB rs, 0)) := by
  rw [member_Write_eq, member_Valid_spec rs hR]
  simp only [Option.bind_some]
  by_cases h : valid rs = 0
  · rw [if_neg (by simp [h]), if_neg (by simp [h])]
    exact Write_c1 rs (valid_zero h) hS rs.length 0 [] (by omega) (by simp)
  · rw [if_pos (by simpa using h), if_pos h]
theorem pack_Head_spec (a : D_api_Settings) (rs : List D_api_Record) (hR : RecsOK rs) (hS : SumsOK rs) : pack_Head a rs = some (if ask a rs ≠ 0 then ([], ask a rs) else (headB a rs, 0)) := by
  rw [pack_Head_eq, pack_Check_spec, member_Write_spec rs hR hS]
  simp only [Option.bind_some]
  by_cases h : chk a = 0
  · rw [if_neg (by simp [h])]
    have ha : ask a rs = valid rs := by unfold ask; rw [if_neg (by simp [h])]
    by_cases hv : valid rs = 0
    · rw [if_neg (show ¬ valid rs ≠ 0 by simp [hv]), if_neg (by simp), if_neg (by rw [ha]; simp [hv])]
      have hV := valid_zero hv
      have hlen := hV.len
      have hb := hsum_b rs hV.each
      have hr := recsB_len rs hS
      have hbl : (bodyB a rs).length = 8 + (recsB rs).length := by simp only [bodyB, List.length_append]; rfl
      have e1 : [(66 : Int), 76, 70, 1, IntKind.wrap .u8 a.1, IntKind.wrap .u8 (Int.fdiv a.2.1 256), IntKind.wrap .u8 a.2.1, IntKind.wrap .u8 (Int.ofNat rs.length)] ++ recsB rs = bodyB a rs := rfl
      simp only
      rw [gd_pos (by omega), e1, gd_pos (by omega), Sum_spec _ (bodyB_bts a rs hS), if_pos (by omega)]
      simp only [Option.bind_some]
      have e2 : List.take 20 (List.drop 0 (shaB (bodyB a rs))) = shaB (bodyB a rs) := by
        rw [List.drop_zero, List.take_of_length_le (by rw [shaB_len]; omega)]
      rw [e2, gd_pos (by rw [List.length_append, shaB_len]; omega)]
      rfl
    · rw [if_pos hv, if_pos (by simpa using hv), if_pos (by rw [ha]; exact hv), ha]
  · have ha : ask a rs = chk a := by unfold ask; rw [if_pos h]
    rw [if_pos (by simpa using h), if_pos (by rw [ha]; exact h), ha]
/-! ### 3. The reference -/
theorem Bytes_c1 (rs : List D_api_Record) (hR : RecsV rs) (hS : SumsOK rs) : ∀ (k i : Nat) (h : List Int), i + k = rs.length → (h.length : Int) ≤ 100 * i → bitloftref28_Bytes_c1 rs (i : Int) h = some (h ++ recsB (rs.drop i))
  | 0, i, h, e, hl => by
    have hl' : Int.ofNat rs.length = (rs.length : Int) := rfl
    rw [bitloftref28_Bytes_c1_eq, if_neg (by simp; omega), List.drop_eq_nil_of_le (by omega)]; simp [recsB]
  | k + 1, i, h, e, hl => by
    have hlen := hR.len
    have hl' : Int.ofNat rs.length = (rs.length : Int) := rfl
    obtain ⟨d1, d2, d3⟩ := dropR_at (pzero T_api_Record : D_api_Record) (xs := rs) (i := i) (by omega)
    have hv := hR.each _ d3
    have hs := hS _ d3
    have hb := recB_len _ hs.1
    rw [bitloftref28_Bytes_c1_eq, if_pos (by simp; omega), gd_pos (by omega), gd_pos (by rw [hl']; omega), Int.toNat_natCast]
    generalize (rs.getD i (pzero T_api_Record) : D_api_Record) = r at *
    have e1 : (((h ++ [IntKind.wrap .u8 (Int.ofNat r.1.size)]) ++ ofStr r.1) ++ [IntKind.wrap .u8 (Int.fdiv r.2.1 256), IntKind.wrap .u8 r.2.1]) ++ List.take 20 (List.drop 0 r.2.2.1) = h ++ recB r := by
      simp only [recB, List.append_assoc]; rfl
    have ho := ofStr_len r.1
    rw [gd_pos (by simp only [List.length_append, List.length_cons, List.length_nil]; omega), gd_pos (by simp only [List.length_append, List.length_cons, List.length_nil]; omega), gd_pos (by omega), gd_pos (by simp only [List.length_append, List.length_cons, List.length_nil]; omega), e1, gd_pos (by rw [List.length_append]; omega), w64 (by omega) (by omega)]
    have ih := Bytes_c1 rs hR hS k (i + 1) (h ++ recB r) (by omega) (by rw [List.length_append]; omega)
    rw [show ((i + 1 : Nat) : Int) = (i : Int) + 1 by omega] at ih
    rw [ih, d1, recsB, List.append_assoc]
theorem rBytes_spec (a : D_api_Settings) (rs : List D_api_Record) (hR : RecsV rs) (hS : SumsOK rs) : bitloftref30_Bytes a rs = some (headB a rs) := by
  have hb := hsum_b rs hR.each
  have hlen := hR.len
  have hr := recsB_len rs hS
  have hbl : (bodyB a rs).length = 8 + (recsB rs).length := by simp only [bodyB, List.length_append]; rfl
  have h1 : bitloftref28_Bytes rs = some (recsB rs) := by
    rw [bitloftref28_Bytes_eq]; exact Bytes_c1 rs hR hS rs.length 0 [] (by omega) (by simp)
  rw [bitloftref30_Bytes_eq, bitloftref30_Front_eq, gd_pos (by omega), h1]
  simp only [Option.bind_some]
  have e1 : [(66 : Int), 76, 70, 1, IntKind.wrap .u8 a.1, IntKind.wrap .u8 (Int.fdiv a.2.1 256), IntKind.wrap .u8 a.2.1, IntKind.wrap .u8 (Int.ofNat rs.length)] ++ recsB rs = bodyB a rs := rfl
  rw [e1, gd_pos (by omega), Of_spec _ (by omega)]
  simp only [Option.bind_some]
  have e2 : List.take 20 (List.drop 0 (shaB (bodyB a rs))) = shaB (bodyB a rs) := by
    rw [List.drop_zero, List.take_of_length_le (by rw [shaB_len]; omega)]
  rw [e2, gd_pos (by rw [List.length_append, shaB_len]; omega)]
  rfl
theorem rHead_spec (a : D_api_Settings) (rs : List D_api_Record) (hR : RecsOK rs) (hS : SumsOK rs) : bitloftref30_Head a rs = some (if ask a rs ≠ 0 then ([], ask a rs) else (headB a rs, 0)) := by
  rw [bitloftref30_Head_eq, ref30_Check_spec, ref28_Valid_spec rs hR]
  simp only [Option.bind_some]
  by_cases h : chk a = 0
  · rw [if_neg (by simp [h])]
    have ha : ask a rs = valid rs := by unfold ask; rw [if_neg (by simp [h])]
    by_cases hv : valid rs = 0
    · rw [if_neg (by simp [hv]), if_neg (by rw [ha]; simp [hv]), rBytes_spec a rs (valid_zero hv) hS]; rfl
    · rw [if_pos (by simpa using hv), if_pos (by rw [ha]; exact hv), ha]
  · have ha : ask a rs = chk a := by unfold ask; rw [if_pos h]
    rw [if_pos (by simpa using h), if_pos (by rw [ha]; exact h), ha]
end Go.Ab

set_option linter.unusedVariables false
set_option linter.unusedSimpArgs false
set_option maxHeartbeats 1000000
namespace Go.Ab
attribute [local irreducible] IntKind.wrap
/-! ### 4. Pieces by division -/
theorem pcs_ceil (i n s : Int) (hs : 1 ≤ s) (k : Nat) : ∀ off : Int, n - off ≤ k → off ≤ n + s - 1 → ((pcs i n s k off).length : Int) = (n - off + s - 1) / s := by
  induction k with
  | zero =>
    intro off h h1
    simp only [pcs, List.length_nil]
    exact (Int.ediv_eq_zero_of_lt (by omega) (by omega)).symm
  | succ k ih =>
    intro off h h1
    simp only [pcs]
    by_cases hc : off < n
    · rw [if_pos hc, List.length_cons]
      have e := ih (off + s) (by omega) (by omega)
      have : (n - off + s - 1) = (n - (off + s) + s - 1) + 1 * s := by omega
      rw [this, Int.add_mul_ediv_right _ _ (by omega), ← e]
      omega
    · rw [if_neg hc]
      exact (Int.ediv_eq_zero_of_lt (by omega) (by omega)).symm
theorem pcs_gsum (i n s : Int) (hs : 1 ≤ s) (k : Nat) : ∀ off : Int, n - off ≤ k → off ≤ n → gsum gG (pcs i n s k off) = 41 * ((pcs i n s k off).length : Int) + (n - off) := by
  induction k with
  | zero => intro off h h1; simp [pcs, gsum]; omega
  | succ k ih =>
    intro off h h1
    simp only [pcs]
    by_cases hc : off < n
    · rw [if_pos hc, List.length_cons, gsum]
      by_cases h2 : off + s ≤ n
      · rw [ih (off + s) (by omega) h2]
        simp only [gG]; split <;> omega
      · have : pcs i n s k (off + s) = [] := by
          cases k with
          | zero => rfl
          | succ k => simp only [pcs]; rw [if_neg (by omega)]
        rw [this]
        simp only [gG, gsum, List.length_nil]; split <;> omega
    · rw [if_neg hc]; simp [gsum]; omega
/-! ### 5. The program's longest length -/
theorem Longest_c1 (a : D_api_Settings) (rs : List D_api_Record) (hs : 16 ≤ a.2.1 ∧ a.2.1 ≤ 4096) (hR : RecsV rs) : ∀ (k i : Nat) (acc : Int), i + k = rs.length → 0 ≤ acc → acc ≤ 10000 + 1000000 * i →
    pack_Longest_c1 acc rs (rs.length : Int) (i : Int) a = some (acc + gsum gG (ap a.2.1 (i : Int) (rs.drop i)), 0)
  | 0, i, acc, e, h0, h1 => by
    rw [pack_Longest_c1_eq, if_neg (by simp; omega), List.drop_eq_nil_of_le (by omega)]; simp [ap, gsum]
  | k + 1, i, acc, e, h0, h1 => by
    have hlen := hR.len
    have hl' : Int.ofNat rs.length = (rs.length : Int) := rfl
    obtain ⟨d1, d2, d3⟩ := dropR_at (pzero T_api_Record : D_api_Record) (xs := rs) (i := i) (by omega)
    have hv := hR.each _ d3
    rw [pack_Longest_c1_eq, if_pos (by simp; omega), gd_pos (by omega), gd_pos (by rw [hl']; omega), gd_pos (by omega), Int.toNat_natCast]
    generalize hr : (rs.getD i (pzero T_api_Record) : D_api_Record) = r at *
    have hc := pcs_ceil (i : Int) r.2.1 a.2.1 (by omega) 8200 0 (by omega) (by omega)
    have hg := pcs_gsum (i : Int) r.2.1 a.2.1 (by omega) 8200 0 (by omega) hv.1
    have hn := pcs_len (i : Int) r.2.1 a.2.1 (by omega) 8200 0 hv.1 hv.1
    have ed : Int.tdiv (r.2.1 + a.2.1 - 1) a.2.1 = ((pcs (i : Int) r.2.1 a.2.1 8200 0).length : Int) := by
      rw [tdiv_nn (by omega), hc, Int.sub_zero]
    rw [w64 (x := r.2.1 + a.2.1) (by omega) (by omega), w64 (x := r.2.1 + a.2.1 - 1) (by omega) (by omega), ed, w64 (x := ((pcs (i : Int) r.2.1 a.2.1 8200 0).length : Int)) (by omega) (by omega)]
    rw [w64 (x := 41 * ((pcs (i : Int) r.2.1 a.2.1 8200 0).length : Int)) (by omega) (by omega), w64 (x := r.2.1 + 41 * ((pcs (i : Int) r.2.1 a.2.1 8200 0).length : Int)) (by omega) (by omega), w64 (x := acc + (r.2.1 + 41 * ((pcs (i : Int) r.2.1 a.2.1 8200 0).length : Int))) (by omega) (by omega), w64 (x := (i : Int) + 1) (by omega) (by omega)]
    have ih := Longest_c1 a rs hs hR k (i + 1) (acc + (r.2.1 + 41 * ((pcs (i : Int) r.2.1 a.2.1 8200 0).length : Int))) (by omega) (by omega) (by omega)
    rw [show ((i + 1 : Nat) : Int) = (i : Int) + 1 by omega] at ih
    rw [ih, d1, ap, gsum_append, hg]
    congr 2; omega
theorem pack_Longest_spec (a : D_api_Settings) (rs : List D_api_Record) (hR : RecsOK rs) (hS : SumsOK rs) : pack_Longest a rs = some (if ask a rs ≠ 0 then (0, ask a rs) else (lng gG a.2.1 rs, 0)) := by
  rw [pack_Longest_eq, pack_Head_spec a rs hR hS]
  simp only [Option.bind_some]
  by_cases h : ask a rs = 0
  · rw [if_neg (show ¬ ask a rs ≠ 0 by simp [h]), if_neg (show ¬ ask a rs ≠ 0 by simp [h]), if_neg (by simp)]
    obtain ⟨h1, h2⟩ := ask_zero h
    have hb := hsum_b rs h2.each
    have hlen := h2.len
    have hl := headB_len a rs hS
    have e1 : Int.ofNat (headB a rs).length = 28 + hsum rs := hl
    simp only [e1]
    exact Longest_c1 a rs h1 h2 rs.length 0 (28 + hsum rs) (by omega) (by omega) (by omega)
  · rw [if_pos h, if_pos h, if_pos (by simpa using h)]
/-! ### 6. The reference's pieces -/
theorem rSz_c1 (xs : List Int) (hx : ∀ x ∈ xs, 0 ≤ x) (hl : xs.length ≤ 16) : ∀ (k i : Nat), i + k = xs.length → bitloftref29_Sizes_c1 xs (i : Int) = bitloftref29_Sizes_c2 xs 8192 0
  | 0, i, e => by
    have hl' : Int.ofNat xs.length = (xs.length : Int) := rfl
    rw [bitloftref29_Sizes_c1_eq, hl', if_neg (by simp; omega), if_neg (by simp; omega)]
  | k + 1, i, e => by
    have hl' : Int.ofNat xs.length = (xs.length : Int) := rfl
    obtain ⟨d1, d2, d3⟩ := dropR_at (0 : Int) (xs := xs) (i := i) (by omega)
    have := hx _ d3
    have ih := rSz_c1 xs hx hl k (i + 1) (by omega)
    rw [show ((i + 1 : Nat) : Int) = (i : Int) + 1 by omega] at ih
    rw [bitloftref29_Sizes_c1_eq, hl', if_pos (by simp; omega), gd_pos (by omega), gd_pos (by omega), Int.toNat_natCast, if_neg (by rw [decide_eq_true_eq]; omega), w64 (by omega) (by omega), ih]
theorem rSz_c2 (rs : List D_api_Record) (hR : RecsV rs) : ∀ (k i : Nat) (left : Int), i + k = rs.length → left ≤ 8192 → tot (rs.drop i) ≤ left → bitloftref29_Sizes_c2 (szs rs) left (i : Int) = some 0
  | 0, i, left, e, h0, h1 => by
    have hl' : Int.ofNat (szs rs).length = (rs.length : Int) := by rw [szs_len]; rfl
    rw [bitloftref29_Sizes_c2_eq, hl', if_neg (by simp; omega)]
  | k + 1, i, left, e, h0, h1 => by
    have hlen := hR.len
    have hl' : Int.ofNat (szs rs).length = (rs.length : Int) := by rw [szs_len]; rfl
    obtain ⟨d1, d2, d3⟩ := dropR_at (pzero T_api_Record : D_api_Record) (xs := rs) (i := i) (by omega)
    have hv := hR.each _ d3
    have ht := tot_nn (rs.drop (i + 1)) (fun r hr => hR.each r (List.mem_of_mem_drop hr))
    rw [d1, tot] at h1
    rw [bitloftref29_Sizes_c2_eq, hl', if_pos (by simp; omega), gd_pos (by omega), gd_pos (by omega), Int.toNat_natCast, szs_get rs i (by omega), if_neg (by rw [decide_eq_true_eq]; omega), gd_pos (by omega), gd_pos (by omega), w64 (x := (i : Int) + 1) (by omega) (by omega), w64 (by omega) (by omega)]
    have ih := rSz_c2 rs hR k (i + 1) (left - (rs.getD i (pzero T_api_Record)).2.1) (by omega) (by omega) (by omega)
    rw [show ((i + 1 : Nat) : Int) = (i : Int) + 1 by omega] at ih
    exact ih
theorem rpcs_c2 (s : Int) (rs : List D_api_Record) (hs : 16 ≤ s ∧ s ≤ 4096) (hl : rs.length ≤ 16) (i : Nat) (hi : i < rs.length) (hn : 0 ≤ (rs.getD i (pzero T_api_Record)).2.1 ∧ (rs.getD i (pzero T_api_Record)).2.1 ≤ 8192) (k : Nat) : ∀ (off : Int) (h : List D_api_Piece), (rs.getD i (pzero T_api_Record)).2.1 - off ≤ k → 0 ≤ off → off ≤ 13000 → (h.length : Int) + (k : Int) ≤ 1000000 →
    bitloftref29_pieces_c2 (szs rs) s (i : Int) off h = bitloftref29_pieces_c1 (szs rs) s ((i : Int) + 1) (h ++ pcs (i : Int) (rs.getD i (pzero T_api_Record)).2.1 s k off) := by
  have hl' : Int.ofNat (szs rs).length = (rs.length : Int) := by rw [szs_len]; rfl
  induction k with
  | zero =>
    intro off h e h0 h1 h2
    have hc : ¬ off < (rs.getD i (pzero T_api_Record)).2.1 := by omega
    rw [bitloftref29_pieces_c2_eq, hl', gd_pos (by omega), gd_pos (by omega), Int.toNat_natCast, szs_get rs i hi, if_neg (by simpa using hc), w64 (by omega) (by omega)]
    simp only [pcs, List.append_nil]
  | succ k ih =>
    intro off h e h0 h1 h2
    rw [bitloftref29_pieces_c2_eq, hl', gd_pos (by omega), gd_pos (by omega), Int.toNat_natCast, szs_get rs i hi]
    by_cases hc : off < (rs.getD i (pzero T_api_Record)).2.1
    · have hm : (if (rs.getD i (pzero T_api_Record)).2.1 - off < s then (rs.getD i (pzero T_api_Record)).2.1 - off else s) = (if s < (rs.getD i (pzero T_api_Record)).2.1 - off then s else (rs.getD i (pzero T_api_Record)).2.1 - off) := by
        split <;> split <;> omega
      rw [if_pos (by simpa using hc), gd_pos (by omega), gd_pos (by omega), w64 (x := (rs.getD i (pzero T_api_Record)).2.1 - off) (by omega) (by omega), hm, gd_pos (by rw [List.length_append]; simp only [List.length_cons, List.length_nil]; omega), w64 (x := off + s) (by omega) (by omega)]
      rw [ih (off + s) _ (by omega) (by omega) (by omega) (by rw [List.length_append]; simp only [List.length_cons, List.length_nil]; omega)]
      simp only [pcs, if_pos hc, List.append_assoc, List.singleton_append]
    · rw [if_neg (by simpa using hc), w64 (by omega) (by omega)]
      simp only [pcs, if_neg hc, List.append_nil]
theorem rpcs_c1 (s : Int) (rs : List D_api_Record) (hs : 16 ≤ s ∧ s ≤ 4096) (hR : RecsV rs) : ∀ (k i : Nat) (h : List D_api_Piece), i + k = rs.length → (h.length : Int) ≤ 8192 * i → bitloftref29_pieces_c1 (szs rs) s (i : Int) h = some (h ++ ap s (i : Int) (rs.drop i))
  | 0, i, h, e, hl => by
    have hl' : Int.ofNat (szs rs).length = (rs.length : Int) := by rw [szs_len]; rfl
    rw [bitloftref29_pieces_c1_eq, hl', if_neg (by simp; omega), List.drop_eq_nil_of_le (by omega)]; simp [ap]
  | k + 1, i, h, e, hl => by
    have hlen := hR.len
    have hl' : Int.ofNat (szs rs).length = (rs.length : Int) := by rw [szs_len]; rfl
    obtain ⟨d1, d2, d3⟩ := dropR_at (pzero T_api_Record : D_api_Record) (xs := rs) (i := i) (by omega)
    have hv := hR.each _ d3
    have hp := pcs_len (i : Int) (rs.getD i (pzero T_api_Record)).2.1 s (by omega) 8200 0 hv.1 hv.1
    have e2 := rpcs_c2 s rs hs hlen i (by omega) ⟨hv.1, hv.2.1⟩ 8200 0 h (by omega) (by omega) (by omega) (by omega)
    rw [bitloftref29_pieces_c1_eq, hl', if_pos (by simp; omega), e2]
    have ih := rpcs_c1 s rs hs hR k (i + 1) (h ++ pcs (i : Int) (rs.getD i (pzero T_api_Record)).2.1 s 8200 0) (by omega) (by rw [List.length_append]; omega)
    rw [show ((i + 1 : Nat) : Int) = (i : Int) + 1 by omega] at ih
    rw [ih, d1, ap, List.append_assoc]
theorem ref29_Pieces_spec (s : Int) (rs : List D_api_Record) (hs : 16 ≤ s ∧ s ≤ 4096) (hR : RecsV rs) : bitloftref29_Pieces (szs rs) s = some (ap s 0 rs, 0) := by
  have hlen := hR.len
  have hz : bitloftref29_Sizes (szs rs) = some 0 := by
    have h1 := rSz_c1 (szs rs) (fun x hx => by
      obtain ⟨r, hr, rfl⟩ := List.mem_map.1 hx
      exact (hR.each r hr).1) (by rw [szs_len]; omega) (szs rs).length 0 (by omega)
    have h2 := rSz_c2 rs hR rs.length 0 8192 (by omega) (by omega) (by have := hR.tot; simpa using this)
    rw [bitloftref29_Sizes_eq]
    exact h1.trans h2
  have hp : bitloftref29_pieces (szs rs) s = some (ap s 0 rs) := by
    rw [bitloftref29_pieces_eq]
    exact rpcs_c1 s rs hs hR rs.length 0 [] (by omega) (by simp)
  rw [bitloftref29_Pieces_eq, hz, bitloftref29_Block_eq, if_pos (by simp; omega), hp]
  simp only [Option.bind_some]
  rw [if_neg (by simp), if_neg (by simp; omega)]
theorem rLong_c2 (ps : List D_api_Piece) (hp : ps.length ≤ 100000) (hm : ∀ p ∈ ps, 0 ≤ p.2.2.1 ∧ p.2.2.1 ≤ 8192) : ∀ (k j : Nat) (acc : Int), j + k = ps.length → 0 ≤ acc → acc ≤ 10000 + 9000 * j →
    bitloftref30_Longest_c2 acc (j : Int) ps = some (acc + gsum gG (ps.drop j), 0)
  | 0, j, acc, e, h0, h1 => by
    have hl' : Int.ofNat ps.length = (ps.length : Int) := rfl
    rw [bitloftref30_Longest_c2_eq, hl', if_neg (by simp; omega), List.drop_eq_nil_of_le (by omega)]; simp [gsum]
  | k + 1, j, acc, e, h0, h1 => by
    have hl' : Int.ofNat ps.length = (ps.length : Int) := rfl
    obtain ⟨d1, d2, d3⟩ := dropR_at (pzero T_api_Piece : D_api_Piece) (xs := ps) (i := j) (by omega)
    have hv := hm _ d3
    rw [bitloftref30_Longest_c2_eq, hl', if_pos (by simp; omega), gd_pos (by omega), gd_pos (by omega), Int.toNat_natCast, Nat.zero_add, w64 (x := (j : Int) + 1) (by omega) (by omega), w64 (x := (41 : Int) + (ps.getD j (pzero T_api_Piece)).2.2.1) (by omega) (by omega), w64 (by omega) (by omega)]
    have ih := rLong_c2 ps hp hm k (j + 1) (acc + (41 + (ps.getD j (pzero T_api_Piece)).2.2.1)) (by omega) (by omega) (by omega)
    rw [show ((j + 1 : Nat) : Int) = (j : Int) + 1 by omega] at ih
    rw [ih, d1, gsum]
    simp only [gG]
    congr 2; omega
end Go.Ab

set_option linter.unusedVariables false
set_option linter.unusedSimpArgs false
set_option maxHeartbeats 1000000
namespace Go.Ab
attribute [local irreducible] IntKind.wrap
theorem rLong_c1 (a : D_api_Settings) (rs : List D_api_Record) (hs : 16 ≤ a.2.1 ∧ a.2.1 ≤ 4096) (hR : RecsV rs) : ∀ (k i : Nat) (acc : Int), i + k = rs.length → 0 ≤ acc → acc ≤ 1000 + 100 * i →
    bitloftref30_Longest_c1 rs acc (i : Int) a (szs (rs.take i)) = some (acc + hsum (rs.drop i) + gsum gG (ap a.2.1 0 rs), 0)
  | 0, i, acc, e, h0, h1 => by
    have hl' : Int.ofNat rs.length = (rs.length : Int) := rfl
    have hlen := hR.len
    rw [bitloftref30_Longest_c1_eq, hl', if_neg (by simp; omega), List.drop_eq_nil_of_le (by omega), List.take_of_length_le (by omega), ref29_Pieces_spec _ rs hs hR]
    simp only [Option.bind_some]
    have e2 := rLong_c2 (ap a.2.1 0 rs) (by have := ap_small a.2.1 hs.1 rs hR; omega) (ap_m a.2.1 (by omega) rs 0 hR.each) (ap a.2.1 0 rs).length 0 acc (by omega) h0 (by omega)
    refine Eq.trans e2 ?_
    simp [hsum]
  | k + 1, i, acc, e, h0, h1 => by
    have hlen := hR.len
    have hl' : Int.ofNat rs.length = (rs.length : Int) := rfl
    obtain ⟨d1, d2, d3⟩ := dropR_at (pzero T_api_Record : D_api_Record) (xs := rs) (i := i) (by omega)
    have hv := hR.each _ d3
    have hsz : Int.ofNat (rs.getD i (pzero T_api_Record)).1.size = ((rs.getD i (pzero T_api_Record)).1.size : Int) := rfl
    have hz : szs (List.take i rs) ++ [(List.getD rs i (pzero T_api_Record)).2.1] = szs (List.take (i + 1) rs) := by rw [d2]; simp [szs]
    rw [bitloftref30_Longest_c1_eq, hl', if_pos (by simp; omega), gd_pos (by omega), gd_pos (by omega), gd_pos (by omega), gd_pos (by omega), Int.toNat_natCast, hsz, hz, gd_pos (by rw [szs_len, List.length_take]; omega), w64 (x := (23 : Int) + ((rs.getD i (pzero T_api_Record)).1.size : Int)) (by omega) (by omega), w64 (x := (i : Int) + 1) (by omega) (by omega), w64 (by omega) (by omega)]
    have ih := rLong_c1 a rs hs hR k (i + 1) (acc + (23 + ((rs.getD i (pzero T_api_Record)).1.size : Int))) (by omega) (by omega) (by omega)
    rw [show ((i + 1 : Nat) : Int) = (i : Int) + 1 by omega] at ih
    rw [ih, d1, hsum]
    congr 2; omega
theorem rLongest_spec (a : D_api_Settings) (rs : List D_api_Record) (hR : RecsOK rs) : bitloftref30_Longest a rs = some (if ask a rs ≠ 0 then (0, ask a rs) else (lng gG a.2.1 rs, 0)) := by
  rw [bitloftref30_Longest_eq, ref30_Check_spec, ref28_Valid_spec rs hR]
  simp only [Option.bind_some]
  by_cases h : chk a = 0
  · rw [if_neg (by simp [h])]
    have ha : ask a rs = valid rs := by unfold ask; rw [if_neg (by simp [h])]
    by_cases hv : valid rs = 0
    · rw [if_neg (by simp [hv]), if_neg (by rw [ha]; simp [hv])]
      obtain ⟨h1, h2⟩ := ask_zero (ha.trans hv)
      exact rLong_c1 a rs h1 h2 rs.length 0 28 (by omega) (by omega) (by omega)
    · rw [if_pos (by simpa using hv), if_pos (by rw [ha]; exact hv), ha]
  · have ha : ask a rs = chk a := by unfold ask; rw [if_pos h]
    rw [if_pos (by simpa using h), if_pos (by rw [ha]; exact h), ha]
theorem sums_ok {rs : List D_api_Record} (h : wfP (.slice T_api_Record) rs) : SumsOK rs :=
  fun r hr => ⟨(h.2 r hr).2.2.1.1, Bts.of_wf (h.2 r hr).2.2.1.2⟩
theorem great_some (rs : List D_api_Record) : ∃ g, bitloftref28_GreatRecords rs = some g := by
  obtain ⟨g, hg, _⟩ := great_c1 rs rs.length 0 (by omega)
  exact ⟨g, by rw [bitloftref28_GreatRecords_eq]; exact hg⟩
theorem bitloftlaw30_PackHeads_true (x0 : pden T_api_Settings) (z0 : wfP T_api_Settings x0) (x1 : pden (.slice T_api_Record)) (z1 : wfP (.slice T_api_Record) x1) : bitloftlaw30_PackHeads x0 x1 = some true := by
  have hR : RecsOK x1 := recs_ok z1
  have hS : SumsOK x1 := sums_ok z1
  obtain ⟨g, hg⟩ := great_some x1
  rw [bitloftlaw30_PackHeads_eq, hg, pack_Head_spec x0 x1 hR hS, rHead_spec x0 x1 hR hS, pack_Longest_spec x0 x1 hR hS, rLongest_spec x0 x1 hR, pack_Check_spec, ref30_Check_spec]
  simp only [Option.bind_some, beq_self_eq_true, if_true]
  cases g <;> rfl
end Go.Ab

set_option linter.unusedVariables false
set_option linter.unusedSimpArgs false
set_option maxHeartbeats 1000000
namespace Go.Ab
attribute [local irreducible] IntKind.wrap
/-- A header is right. -/
def hOK (h : D_api_BlockHead) : Prop := 0 ≤ h.2.1 ∧ h.2.1 < 16 ∧ 1 ≤ h.2.2.2.1 ∧ h.2.2.2.1 ≤ 4096 ∧ 0 ≤ h.2.2.1 ∧ h.2.2.1 + h.2.2.2.1 ≤ 8192 ∧ ((h.1 = 1 ∧ h.2.2.2.2.1 = h.2.2.2.1) ∨ (h.1 = 2 ∧ 0 < h.2.2.2.2.1 ∧ h.2.2.2.2.1 < h.2.2.2.1))
instance (h : D_api_BlockHead) : Decidable (hOK h) := by unfold hOK; infer_instance
def hC (h : D_api_BlockHead) : Int := if hOK h then 0 else 8
theorem header_Check_spec (h : D_api_BlockHead) : header_Check h = some (hC h) := by
  rw [header_Check_eq]
  obtain ⟨m, mem, off, raw, len, sum, u⟩ := h
  simp only [hC, decide_eq_true_eq, beq_iff_eq]
  by_cases hr : 1 ≤ raw ∧ raw ≤ 4096
  · rw [w64 (by omega) (by omega)]
    by_cases ok : hOK (m, mem, off, raw, len, sum, u)
    · rw [if_pos ok]; simp only [hOK] at ok
      rw [if_neg (by omega), if_neg (by omega), if_neg (by omega), if_neg (by omega), if_neg (by omega), if_neg (by omega)]
      rcases ok.2.2.2.2.2.2 with ⟨h1, h2⟩ | ⟨h1, h2, h3⟩
      · rw [if_pos h1, if_pos h2, if_pos h2]
      · rw [if_neg (by omega), if_pos h1, if_pos h2, if_pos h3]
    · rw [if_neg ok]; simp only [hOK] at ok
      by_cases h1 : mem < 0
      · rw [if_pos h1]
      by_cases h2 : mem ≥ 16
      · rw [if_neg h1, if_pos h2, if_pos h2]
      by_cases h3 : off < 0
      · rw [if_neg h1, if_neg h2, if_neg (by omega), if_neg (by omega), if_pos h3]
      by_cases h4 : off > 8192 - raw
      · rw [if_neg h1, if_neg h2, if_neg (by omega), if_neg (by omega), if_neg h3, if_pos h4]
      rw [if_neg h1, if_neg h2, if_neg (by omega), if_neg (by omega), if_neg h3, if_neg h4]
      by_cases h5 : m = 1
      · rw [if_pos h5, if_neg (by omega), if_neg (by omega)]
      by_cases h6 : m = 2
      · rw [if_neg h5, if_pos h6]
        by_cases h7 : len > 0
        · rw [if_pos h7, if_neg (by omega)]
        · rw [if_neg h7]
      · rw [if_neg h5, if_neg h6]
  · rw [if_neg (show ¬ hOK (m, mem, off, raw, len, sum, u) from fun ok => hr (by simp only [hOK] at ok; omega))]
    by_cases h1 : mem < 0
    · rw [if_pos h1]
    by_cases h2 : mem ≥ 16
    · rw [if_neg h1, if_pos h2, if_pos h2]
    by_cases h3 : raw < 1
    · rw [if_neg h1, if_neg h2, if_pos h3]
    · rw [if_neg h1, if_neg h2, if_neg h3, if_pos (by omega), if_pos (by omega)]
theorem ref26_Check_spec (h : D_api_BlockHead) : bitloftref26_Check h = some (hC h) := by
  rw [bitloftref26_Check_eq]
  obtain ⟨m, mem, off, raw, len, sum, u⟩ := h
  simp only [hC, decide_eq_true_eq, beq_iff_eq, Bool.not_eq_true', decide_eq_false_iff_not, beq_eq_false_iff_ne]
  by_cases hr : 1 ≤ raw ∧ raw ≤ 4096
  · rw [w64 (by omega) (by omega)]
    by_cases ok : hOK (m, mem, off, raw, len, sum, u)
    · rw [if_pos ok]; simp only [hOK] at ok
      rw [if_neg (by omega), if_neg (by omega), if_neg (by omega), if_neg (by omega), if_neg (by omega), if_neg (by omega)]
      rcases ok.2.2.2.2.2.2 with ⟨h1, h2⟩ | ⟨h1, h2, h3⟩
      · rw [if_pos h1, if_neg (by omega), if_neg (by omega)]
      · rw [if_neg (by omega), if_pos h1, if_pos (by omega), if_neg (by omega)]
    · rw [if_neg ok]; simp only [hOK] at ok
      by_cases h1 : mem < 0
      · rw [if_pos h1]
      by_cases h2 : mem ≥ 16
      · rw [if_neg h1, if_pos h2]
      by_cases h3 : off < 0
      · rw [if_neg h1, if_neg h2, if_neg (by omega), if_neg (by omega), if_pos h3]
      by_cases h4 : off > 8192 - raw
      · rw [if_neg h1, if_neg h2, if_neg (by omega), if_neg (by omega), if_neg h3, if_pos h4]
      rw [if_neg h1, if_neg h2, if_neg (by omega), if_neg (by omega), if_neg h3, if_neg h4]
      by_cases h5 : m = 1
      · rw [if_pos h5, if_neg (by omega), if_pos (by omega)]
      by_cases h6 : m = 2
      · rw [if_neg h5, if_pos h6]
        by_cases h7 : len ≥ 1
        · rw [if_pos h7, if_pos (by omega)]
        · rw [if_neg h7]
      · rw [if_neg h5, if_neg h6]
  · rw [if_neg (show ¬ hOK (m, mem, off, raw, len, sum, u) from fun ok => hr (by simp only [hOK] at ok; omega))]
    by_cases h1 : mem < 0
    · rw [if_pos h1]
    by_cases h2 : mem ≥ 16
    · rw [if_neg h1, if_pos h2]
    by_cases h3 : raw < 1
    · rw [if_neg h1, if_neg h2, if_pos h3]
    · rw [if_neg h1, if_neg h2, if_neg h3, if_pos (by omega)]
theorem hC_ne (h : D_api_BlockHead) : (hC h != 0) = true ↔ ¬ hOK h := by
  unfold hC; split <;> simp_all
end Go.Ab

set_option linter.unusedVariables false
set_option linter.unusedSimpArgs false
set_option maxHeartbeats 1000000
namespace Go.Ab
attribute [local irreducible] IntKind.wrap
/-! ### 1. Pieces of a listing -/
theorem list_pieces_s1 (a : D_api_Settings) (rs : List D_api_Record) (hs : 16 ≤ a.2.1 ∧ a.2.1 ≤ 4096) (hR : RecsV rs) : ∀ (k i : Nat), i + k = rs.length → list_pieces_c1 rs (rs.length : Int) (i : Int) a (szs (rs.take i)) = some (ap a.2.1 0 rs)
  | 0, i, e => by
    rw [list_pieces_c1_eq, if_neg (by simp; omega), List.take_of_length_le (by omega), Pieces_spec _ rs hs hR]; rfl
  | k + 1, i, e => by
    have hlen := hR.len
    have hl' : Int.ofNat rs.length = (rs.length : Int) := rfl
    obtain ⟨d1, d2, d3⟩ := dropR_at (pzero T_api_Record : D_api_Record) (xs := rs) (i := i) (by omega)
    have hz : szs (List.take i rs) ++ [(List.getD rs i (pzero T_api_Record)).2.1] = szs (List.take (i + 1) rs) := by rw [d2]; simp [szs]
    have ih := list_pieces_s1 a rs hs hR k (i + 1) (by omega)
    rw [show ((i + 1 : Nat) : Int) = (i : Int) + 1 by omega] at ih
    rw [list_pieces_c1_eq, if_pos (by simp; omega), gd_pos (by omega), gd_pos (by rw [hl']; omega), Int.toNat_natCast, hz, gd_pos (by rw [szs_len, List.length_take]; omega), w64 (by omega) (by omega), ih]
theorem list_pieces_spec (a : D_api_Settings) (rs : List D_api_Record) (hs : 16 ≤ a.2.1 ∧ a.2.1 ≤ 4096) (hR : RecsV rs) : list_pieces a rs = some (ap a.2.1 0 rs) := by
  rw [list_pieces_eq]; exact list_pieces_s1 a rs hs hR rs.length 0 (by omega)
theorem rPieces_c1 (a : D_api_Settings) (rs : List D_api_Record) (hs : 16 ≤ a.2.1 ∧ a.2.1 ≤ 4096) (hR : RecsV rs) : ∀ (k i : Nat), i + k = rs.length → bitloftref31_Pieces_c1 rs (i : Int) a (szs (rs.take i)) = some (ap a.2.1 0 rs)
  | 0, i, e => by
    have hl' : Int.ofNat rs.length = (rs.length : Int) := rfl
    rw [bitloftref31_Pieces_c1_eq, if_neg (by simp; omega), List.take_of_length_le (by omega), ref29_Pieces_spec _ rs hs hR]; rfl
  | k + 1, i, e => by
    have hlen := hR.len
    have hl' : Int.ofNat rs.length = (rs.length : Int) := rfl
    obtain ⟨d1, d2, d3⟩ := dropR_at (pzero T_api_Record : D_api_Record) (xs := rs) (i := i) (by omega)
    have hz : szs (List.take i rs) ++ [(List.getD rs i (pzero T_api_Record)).2.1] = szs (List.take (i + 1) rs) := by rw [d2]; simp [szs]
    have ih := rPieces_c1 a rs hs hR k (i + 1) (by omega)
    rw [show ((i + 1 : Nat) : Int) = (i : Int) + 1 by omega] at ih
    rw [bitloftref31_Pieces_c1_eq, if_pos (by simp; omega), gd_pos (by omega), gd_pos (by rw [hl']; omega), Int.toNat_natCast, hz, gd_pos (by rw [szs_len, List.length_take]; omega), w64 (by omega) (by omega), ih]
theorem rPieces_spec (a : D_api_Settings) (rs : List D_api_Record) (hs : 16 ≤ a.2.1 ∧ a.2.1 ≤ 4096) (hR : RecsV rs) : bitloftref31_Pieces a rs = some (ap a.2.1 0 rs) := by
  rw [bitloftref31_Pieces_eq]; exact rPieces_c1 a rs hs hR rs.length 0 (by omega)
theorem chk_zero' {a : D_api_Settings} (h : chk a = 0) : 16 ≤ a.2.1 ∧ a.2.1 ≤ 4096 := by
  unfold chk at h
  split at h <;> omega
/-! ### 2. The check of a listing -/
def isP (h : D_api_BlockHead) (p : D_api_Piece) : Prop := h.2.1 = p.1 ∧ h.2.2.1 = p.2.1 ∧ h.2.2.2.1 = p.2.2.1
instance (h : D_api_BlockHead) (p : D_api_Piece) : Decidable (isP h p) := by unfold isP; infer_instance
theorem list_is_spec (h : D_api_BlockHead) (p : D_api_Piece) : list_is h p = some (decide (isP h p)) := by
  rw [list_is_eq]
  congr 1
  simp only [peq, Bool.and_true]
  rw [Bool.eq_iff_iff, decide_eq_true_eq]
  simp only [Bool.and_eq_true, decide_eq_true_eq]
  exact Iff.rfl
theorem ref31_Is_spec (h : D_api_BlockHead) (p : D_api_Piece) : bitloftref31_Is h p = some (decide (isP h p)) := by
  rw [bitloftref31_Is_eq]
  unfold isP
  by_cases h1 : h.2.1 = p.1 <;> by_cases h2 : h.2.2.1 = p.2.1 <;> by_cases h3 : h.2.2.2.1 = p.2.2.1 <;> simp [h1, h2, h3]
def ckL : List D_api_BlockHead → List D_api_Piece → Int
  | h :: hs, p :: ps => if hOK h ∧ isP h p then ckL hs ps else 8
  | _, _ => 0
def lck (l : D_api_Listing) : Int :=
  if chk l.1 ≠ 0 then 8 else if valid l.2.1 ≠ 0 then 8 else if (ap l.1.2.1 0 l.2.1).length ≠ l.2.2.1.length then 8 else ckL l.2.2.1 (ap l.1.2.1 0 l.2.1)
theorem lCheck_c1 (hs : List D_api_BlockHead) (ps : List D_api_Piece) (hl : hs.length = ps.length) (hb : hs.length ≤ 1000000) : ∀ (k i : Nat), i + k = hs.length → list_Check_c1 hs (hs.length : Int) (i : Int) ps = some (ckL (hs.drop i) (ps.drop i))
  | 0, i, e => by
    rw [list_Check_c1_eq, if_neg (by simp; omega), List.drop_eq_nil_of_le (by omega)]; rfl
  | k + 1, i, e => by
    have hl' : Int.ofNat hs.length = (hs.length : Int) := rfl
    have hl2 : Int.ofNat ps.length = (ps.length : Int) := rfl
    obtain ⟨d1, d2, d3⟩ := dropR_at (pzero T_api_BlockHead : D_api_BlockHead) (xs := hs) (i := i) (by omega)
    obtain ⟨p1, p2, p3⟩ := dropR_at (pzero T_api_Piece : D_api_Piece) (xs := ps) (i := i) (by omega)
    have ih := lCheck_c1 hs ps hl hb k (i + 1) (by omega)
    rw [show ((i + 1 : Nat) : Int) = (i : Int) + 1 by omega] at ih
    rw [list_Check_c1_eq, if_pos (by simp; omega), gd_pos (by omega), gd_pos (by rw [hl']; omega), Int.toNat_natCast, Nat.zero_add, header_Check_spec]
    simp only [Option.bind_some, hC_ne]
    rw [d1, p1, ckL]
    generalize hs.getD i (pzero T_api_BlockHead) = h0
    generalize ps.getD i (pzero T_api_Piece) = p0
    by_cases h1 : hOK h0
    · rw [if_neg (by simpa using h1), gd_pos (by omega), gd_pos (by rw [hl2]; omega), list_is_spec]
      simp only [Option.bind_some]
      by_cases h2 : isP h0 p0
      · rw [if_neg (by simp [h2]), if_pos ⟨h1, h2⟩, w64 (by omega) (by omega), ih]
      · rw [if_pos (by simp [h2]), if_neg (fun h => h2 h.2)]
    · rw [if_pos h1, if_neg (fun h => h1 h.1)]
theorem rCheck_c1 (l : D_api_Listing) (ps : List D_api_Piece) (hl : l.2.2.1.length = ps.length) (hb : l.2.2.1.length ≤ 1000000) : ∀ (k i : Nat), i + k = l.2.2.1.length → bitloftref31_Check_c1 (i : Int) l ps = some (ckL (l.2.2.1.drop i) (ps.drop i))
  | 0, i, e => by
    have hl2 : Int.ofNat ps.length = (ps.length : Int) := rfl
    rw [bitloftref31_Check_c1_eq, if_neg (by simp; omega), List.drop_eq_nil_of_le (by omega)]; rfl
  | k + 1, i, e => by
    have hl' : Int.ofNat l.2.2.1.length = (l.2.2.1.length : Int) := rfl
    have hl2 : Int.ofNat ps.length = (ps.length : Int) := rfl
    obtain ⟨d1, d2, d3⟩ := dropR_at (pzero T_api_BlockHead : D_api_BlockHead) (xs := l.2.2.1) (i := i) (by omega)
    obtain ⟨p1, p2, p3⟩ := dropR_at (pzero T_api_Piece : D_api_Piece) (xs := ps) (i := i) (by omega)
    have ih := rCheck_c1 l ps hl hb k (i + 1) (by omega)
    rw [show ((i + 1 : Nat) : Int) = (i : Int) + 1 by omega] at ih
    rw [bitloftref31_Check_c1_eq, if_pos (by simp; omega), gd_pos (by omega), gd_pos (by rw [hl']; omega), Int.toNat_natCast, Nat.zero_add, ref26_Check_spec]
    simp only [Option.bind_some, hC_ne]
    rw [d1, p1, ckL]
    generalize l.2.2.1.getD i (pzero T_api_BlockHead) = h0
    generalize ps.getD i (pzero T_api_Piece) = p0
    by_cases h1 : hOK h0
    · rw [if_neg (by simpa using h1), gd_pos (by omega), gd_pos (by rw [hl']; omega), gd_pos (by omega), gd_pos (by rw [hl2]; omega), ref31_Is_spec]
      simp only [Option.bind_some]
      by_cases h2 : isP h0 p0
      · rw [if_neg (by simp [h2]), if_pos ⟨h1, h2⟩, w64 (by omega) (by omega), ih]
      · rw [if_pos (by simp [h2]), if_neg (fun h => h2 h.2)]
    · rw [if_pos h1, if_neg (fun h => h1 h.1)]
theorem list_Check_spec (l : D_api_Listing) (hR : RecsOK l.2.1) : list_Check l = some (lck l) := by
  rw [list_Check_eq, pack_Check_spec, member_Valid_spec _ hR]
  simp only [Option.bind_some, lck]
  by_cases hc : chk l.1 = 0
  · rw [if_neg (by simp [hc]), if_neg (show ¬ chk l.1 ≠ 0 by simp [hc])]
    by_cases hv : valid l.2.1 = 0
    · have h16 := chk_zero' hc
      have hV := valid_zero hv
      rw [if_neg (by simp [hv]), if_neg (show ¬ valid l.2.1 ≠ 0 by simp [hv]), list_pieces_spec l.1 l.2.1 h16 hV]
      simp only [Option.bind_some]
      have hsm := ap_small l.1.2.1 h16.1 l.2.1 hV
      by_cases hl : (ap l.1.2.1 0 l.2.1).length = l.2.2.1.length
      · rw [if_neg (by simp [hl]), if_neg (show ¬ (ap l.1.2.1 0 l.2.1).length ≠ l.2.2.1.length by simp [hl])]
        exact lCheck_c1 l.2.2.1 _ hl.symm (by omega) l.2.2.1.length 0 (by omega)
      · rw [if_pos (by simp; omega), if_pos hl]
    · rw [if_pos (by simpa using hv), if_pos hv]
  · rw [if_pos (by simpa using hc), if_pos hc]
theorem ref31_Check_spec (l : D_api_Listing) (hR : RecsOK l.2.1) : bitloftref31_Check l = some (lck l) := by
  rw [bitloftref31_Check_eq, ref30_Check_spec, ref28_Valid_spec _ hR]
  simp only [Option.bind_some, lck]
  by_cases hc : chk l.1 = 0
  · rw [if_neg (by simp [hc]), if_neg (show ¬ chk l.1 ≠ 0 by simp [hc])]
    by_cases hv : valid l.2.1 = 0
    · have h16 := chk_zero' hc
      have hV := valid_zero hv
      rw [if_neg (by simp [hv]), if_neg (show ¬ valid l.2.1 ≠ 0 by simp [hv]), rPieces_spec l.1 l.2.1 h16 hV]
      simp only [Option.bind_some]
      have hsm := ap_small l.1.2.1 h16.1 l.2.1 hV
      by_cases hl : (ap l.1.2.1 0 l.2.1).length = l.2.2.1.length
      · rw [if_neg (by simp [hl]), if_neg (show ¬ (ap l.1.2.1 0 l.2.1).length ≠ l.2.2.1.length by simp [hl])]
        exact rCheck_c1 l _ hl.symm (by omega) l.2.2.1.length 0 (by omega)
      · rw [if_pos (by simp; omega), if_pos hl]
    · rw [if_pos (by simpa using hv), if_pos hv]
  · rw [if_pos (by simpa using hc), if_pos hc]
theorem ckL_zero : ∀ (hs : List D_api_BlockHead) (ps : List D_api_Piece), hs.length = ps.length → ckL hs ps = 0 → ∀ h ∈ hs, hOK h
  | [], _, _, _, h, hh => by cases hh
  | h :: hs, [], hl, _, _, _ => by simp at hl
  | h :: hs, p :: ps, hl, hc, x, hx => by
    simp only [ckL] at hc
    split at hc
    · rename_i hok
      rcases List.mem_cons.1 hx with rfl | hx
      · exact hok.1
      · exact ckL_zero hs ps (by simpa using hl) hc x hx
    · omega
structure LstV (l : D_api_Listing) : Prop where
  blk : 16 ≤ l.1.2.1 ∧ l.1.2.1 ≤ 4096
  chk : chk l.1 = 0
  val : valid l.2.1 = 0
  recs : RecsV l.2.1
  len : l.2.2.1.length = (ap l.1.2.1 0 l.2.1).length
  hds : ∀ h ∈ l.2.2.1, hOK h
  ck : ckL l.2.2.1 (ap l.1.2.1 0 l.2.1) = 0
theorem lck_zero {l : D_api_Listing} (h : lck l = 0) : LstV l := by
  unfold lck at h
  split at h
  · omega
  · rename_i hc
    split at h
    · omega
    · rename_i hv
      split at h
      · omega
      · rename_i hl
        simp only [ne_eq, Decidable.not_not] at hc hv hl
        exact ⟨chk_zero' hc, hc, hv, valid_zero hv, hl.symm, ckL_zero _ _ hl.symm h, h⟩
theorem lck_ne {l : D_api_Listing} : lck l = 0 ∨ lck l = 8 := by
  have h : ∀ hs ps, ckL hs ps = 0 ∨ ckL hs ps = 8 := by
    intro hs
    induction hs with
    | nil => intro ps; left; rfl
    | cons x xs ih =>
      intro ps
      cases ps with
      | nil => left; rfl
      | cons p ps => simp only [ckL]; split; exact ih ps; right; rfl
  unfold lck
  split; right; rfl
  split; right; rfl
  split; right; rfl
  exact h _ _
/-! ### 3. Places -/
def plc : Int → List D_api_BlockHead → List Int
  | _, [] => []
  | at_, h :: r => at_ :: plc (at_ + (41 + h.2.2.2.2.1)) r
theorem plc_len : ∀ (hs : List D_api_BlockHead) (a : Int), (plc a hs).length = hs.length
  | [], _ => rfl
  | h :: r, a => by simp only [plc, List.length_cons, plc_len r]
theorem hOK_len' {h : D_api_BlockHead} (ok : hOK h) : 1 ≤ h.2.2.2.2.1 ∧ h.2.2.2.2.1 ≤ 4096 := by unfold hOK at ok; omega
theorem lPlaces_c1 (hs : List D_api_BlockHead) (hh : ∀ h ∈ hs, hOK h) (hb : hs.length ≤ 1000000) : ∀ (k i : Nat) (at_ : Int) (out : List Int), i + k = hs.length → 0 ≤ at_ → at_ ≤ 100000 + 5000 * i → out.length = i → list_Places_c1 at_ hs (hs.length : Int) (i : Int) out = some (out ++ plc at_ (hs.drop i), 0)
  | 0, i, at_, out, e, h0, h1, ho => by
    rw [list_Places_c1_eq, if_neg (by simp; omega), List.drop_eq_nil_of_le (by omega)]; simp [plc]
  | k + 1, i, at_, out, e, h0, h1, ho => by
    have hl' : Int.ofNat hs.length = (hs.length : Int) := rfl
    obtain ⟨d1, d2, d3⟩ := dropR_at (pzero T_api_BlockHead : D_api_BlockHead) (xs := hs) (i := i) (by omega)
    have hv := hOK_len' (hh _ d3)
    have ih := lPlaces_c1 hs hh hb k (i + 1) (at_ + (41 + (hs.getD i (pzero T_api_BlockHead)).2.2.2.2.1)) (out ++ [at_]) (by omega) (by omega) (by omega) (by simp; omega)
    rw [show ((i + 1 : Nat) : Int) = (i : Int) + 1 by omega] at ih
    rw [list_Places_c1_eq, if_pos (by simp; omega), gd_pos (by omega), gd_pos (by rw [hl']; omega), gd_pos (by simp only [List.length_append, List.length_cons, List.length_nil]; omega), Int.toNat_natCast, w64 (x := 41 + _) (by omega) (by omega), w64 (x := (i : Int) + 1) (by omega) (by omega), w64 (by omega) (by omega), ih, d1, plc, List.append_assoc]
    rfl
theorem rPlaces_c1 (l : D_api_Listing) (hh : ∀ h ∈ l.2.2.1, hOK h) (hb : l.2.2.1.length ≤ 1000000) : ∀ (k i : Nat) (at_ : Int) (out : List Int), i + k = l.2.2.1.length → 0 ≤ at_ → at_ ≤ 100000 + 5000 * i → out.length = i → bitloftref31_Places_c1 at_ (i : Int) l out = some (out ++ plc at_ (l.2.2.1.drop i), 0)
  | 0, i, at_, out, e, h0, h1, ho => by
    have hl' : Int.ofNat l.2.2.1.length = (l.2.2.1.length : Int) := rfl
    rw [bitloftref31_Places_c1_eq, if_neg (by simp; omega), List.drop_eq_nil_of_le (by omega)]; simp [plc]
  | k + 1, i, at_, out, e, h0, h1, ho => by
    have hl' : Int.ofNat l.2.2.1.length = (l.2.2.1.length : Int) := rfl
    obtain ⟨d1, d2, d3⟩ := dropR_at (pzero T_api_BlockHead : D_api_BlockHead) (xs := l.2.2.1) (i := i) (by omega)
    have hv := hOK_len' (hh _ d3)
    have ih := rPlaces_c1 l hh hb k (i + 1) (at_ + (41 + (l.2.2.1.getD i (pzero T_api_BlockHead)).2.2.2.2.1)) (out ++ [at_]) (by omega) (by omega) (by omega) (by simp; omega)
    rw [show ((i + 1 : Nat) : Int) = (i : Int) + 1 by omega] at ih
    rw [bitloftref31_Places_c1_eq, if_pos (by simp; omega), gd_pos (by simp only [List.length_append, List.length_cons, List.length_nil]; omega), gd_pos (by omega), gd_pos (by rw [hl']; omega), Int.toNat_natCast, w64 (x := 41 + _) (by omega) (by omega), w64 (x := (i : Int) + 1) (by omega) (by omega), w64 (by omega) (by omega), ih, d1, plc, List.append_assoc]
    rfl
/-- The places of a listing that is valid. -/
def pls (l : D_api_Listing) : List Int := plc (28 + hsum l.2.1) l.2.2.1
theorem list_Places_spec (l : D_api_Listing) (hR : RecsOK l.2.1) (hS : SumsOK l.2.1) : list_Places l = some (if lck l = 0 then (pls l, 0) else ([], 8)) := by
  rw [list_Places_eq, list_Check_spec l hR]
  simp only [Option.bind_some]
  rcases lck_ne (l := l) with h | h
  · have hL := lck_zero h
    have hsm := ap_small l.1.2.1 hL.blk.1 l.2.1 hL.recs
    have hb := hsum_b l.2.1 hL.recs.each
    have hlen := hL.recs.len
    have hll := hL.len
    rw [if_neg (by simp [h]), if_pos h, pack_Head_spec _ _ hR hS]
    have ha : ask l.1 l.2.1 = 0 := by unfold ask; rw [if_neg (by simp [hL.chk]), hL.val]
    rw [ha, if_neg (by simp)]
    simp only [Option.bind_some]
    have hh := headB_len l.1 l.2.1 hS
    have hh' : Int.ofNat (headB l.1 l.2.1).length = 28 + hsum l.2.1 := hh
    rw [hh']
    exact lPlaces_c1 l.2.2.1 hL.hds (by omega) l.2.2.1.length 0 _ [] (by omega) (by omega) (by omega) rfl
  · rw [if_pos (by simp [h]), h, if_neg (by decide)]
theorem ref31_Places_spec (l : D_api_Listing) (hR : RecsOK l.2.1) (hS : SumsOK l.2.1) : bitloftref31_Places l = some (if lck l = 0 then (pls l, 0) else ([], 8)) := by
  rw [bitloftref31_Places_eq, ref31_Check_spec l hR]
  simp only [Option.bind_some]
  rcases lck_ne (l := l) with h | h
  · have hL := lck_zero h
    have hsm := ap_small l.1.2.1 hL.blk.1 l.2.1 hL.recs
    have hb := hsum_b l.2.1 hL.recs.each
    have hlen := hL.recs.len
    have hll := hL.len
    rw [if_neg (by simp [h]), if_pos h, rBytes_spec _ _ hL.recs hS]
    simp only [Option.bind_some]
    have hh := headB_len l.1 l.2.1 hS
    have hh' : Int.ofNat (headB l.1 l.2.1).length = 28 + hsum l.2.1 := hh
    rw [hh']
    exact rPlaces_c1 l hL.hds (by omega) l.2.2.1.length 0 _ [] (by omega) (by omega) (by omega) rfl
  · rw [if_pos (by simp [h]), h, if_neg (by decide)]
theorem LPlaces_c1 (xs : List Int) (hb : xs.length ≤ 1000000) : ∀ (k i : Nat), i + k = xs.length → bitloftlaw31_ListPlaces_c1 (i : Int) xs xs = some true
  | 0, i, e => by
    have hl' : Int.ofNat xs.length = (xs.length : Int) := rfl
    rw [bitloftlaw31_ListPlaces_c1_eq, if_neg (by simp; omega)]
  | k + 1, i, e => by
    have hl' : Int.ofNat xs.length = (xs.length : Int) := rfl
    have ih := LPlaces_c1 xs hb k (i + 1) (by omega)
    rw [show ((i + 1 : Nat) : Int) = (i : Int) + 1 by omega] at ih
    rw [bitloftlaw31_ListPlaces_c1_eq, if_pos (by simp; omega), gd_pos (by omega), gd_pos (by rw [hl']; omega), gd_pos (by omega), gd_pos (by rw [hl']; omega), if_neg (by simp), w64 (by omega) (by omega), ih]
theorem pls_len {l : D_api_Listing} (h : lck l = 0) : (pls l).length ≤ 100000 := by
  have hL := lck_zero h
  have hsm := ap_small l.1.2.1 hL.blk.1 l.2.1 hL.recs
  have hll := hL.len
  rw [pls, plc_len]; omega
theorem bitloftlaw31_ListPlaces_true (x0 : pden T_api_Listing) (z0 : wfP T_api_Listing x0) : bitloftlaw31_ListPlaces x0 = some true := by
  have hR : RecsOK x0.2.1 := recs_ok z0.2.1
  have hS : SumsOK x0.2.1 := sums_ok z0.2.1
  obtain ⟨g, hg⟩ := great_some x0.2.1
  have hG : bitloftref31_Great x0 = some (if g then true else decide ((Int.ofNat (List.length x0.2.2.1)) > (700 : Int))) := by
    rw [bitloftref31_Great_eq, hg]
    cases g <;> rfl
  rw [bitloftlaw31_ListPlaces_eq, hG, list_Places_spec x0 hR hS, ref31_Places_spec x0 hR hS, list_Check_spec x0 hR, ref31_Check_spec x0 hR]
  simp only [Option.bind_some]
  by_cases hgt : (if g then true else decide ((Int.ofNat (List.length x0.2.2.1)) > (700 : Int))) = true
  · rw [if_pos hgt]
  · rw [if_neg hgt, if_neg (by simp), if_neg (by simp), if_neg (by simp)]
    by_cases h : lck x0 = 0
    · rw [if_pos h]
      exact LPlaces_c1 (pls x0) (by have := pls_len h; omega) _ 0 (Nat.zero_add _)
    · rw [if_neg h]
      exact LPlaces_c1 [] (by simp) 0 0 rfl
end Go.Ab

set_option linter.unusedVariables false
set_option linter.unusedSimpArgs false
set_option maxHeartbeats 1000000
namespace Go.Ab
attribute [local irreducible] IntKind.wrap
/-- The first eight bytes of a header. -/
def fr8 (h : D_api_BlockHead) : List Int := [h.1 % 256, h.2.1 % 256, (h.2.2.1 / 256) % 256, h.2.2.1 % 256, (h.2.2.2.1 / 256) % 256, h.2.2.2.1 % 256, (h.2.2.2.2.1 / 256) % 256, h.2.2.2.2.1 % 256]
theorem shr0 (a : Int) : shrBy .i64 a 0 = a := by rw [shr_i64 _ _ (by omega) (by omega)]; simp
theorem shr8 (a : Int) : shrBy .i64 a 8 = a / 256 := by rw [shr_i64 _ _ (by omega) (by omega)]; rfl
theorem wlit (n : Int) (h : -9223372036854775808 ≤ n ∧ n ≤ 9223372036854775807) : IntKind.wrap .i64 n = n := w64 h.1 h.2
theorem front_one (v18 : List Int) (v19 : Int) (h8 : List Int) (v : Int) (h0 : 0 ≤ v19) (h4 : v19 < 5) (hw : G_widths.getD v19.toNat 0 = 1) (hv : v18.getD v19.toNat 0 = v) (hl : h8.length ≤ 100) :
    header_front_c1 v18 v19 h8 = header_front_c1 v18 (v19 + 1) (h8 ++ [v % 256]) := by
  rw [header_front_c1_eq, if_pos (by simpa using h4), gd_pos h0, gd_pos h4, gd_pos h0, gd_pos h4, hw, hv]
  rw [header_front_c2_eq, if_pos (by decide), gd_pos h0, gd_pos h4, hw]
  rw [wlit ((1:Int) - 1) (by omega), wlit ((1:Int) - 1 - 0) (by omega), wlit ((8:Int) * (1 - 1 - 0)) (by omega), wlit ((0:Int)+1) (by omega)]
  rw [gd_pos (by omega), gd_pos (by simp; omega)]
  rw [header_front_c2_eq, if_neg (by decide), w64 (x := v19 + 1) (by omega) (by omega), wu8]
  rw [show (8 * (1 - 1 - 0) : Int) = 0 by decide, shr0]
theorem front_two (v18 : List Int) (v19 : Int) (h8 : List Int) (v : Int) (h0 : 0 ≤ v19) (h4 : v19 < 5) (hw : G_widths.getD v19.toNat 0 = 2) (hv : v18.getD v19.toNat 0 = v) (hl : h8.length ≤ 100) :
    header_front_c1 v18 v19 h8 = header_front_c1 v18 (v19 + 1) (h8 ++ [(v / 256) % 256, v % 256]) := by
  rw [header_front_c1_eq, if_pos (by simpa using h4), gd_pos h0, gd_pos h4, gd_pos h0, gd_pos h4, hw, hv]
  rw [header_front_c2_eq, if_pos (by decide), gd_pos h0, gd_pos h4, hw]
  rw [wlit ((2:Int) - 1) (by omega), wlit ((2:Int) - 1 - 0) (by omega), wlit ((8:Int) * (2 - 1 - 0)) (by omega), wlit ((0:Int)+1) (by omega)]
  rw [gd_pos (by omega), gd_pos (by simp; omega)]
  rw [header_front_c2_eq, if_pos (by decide), gd_pos h0, gd_pos h4, hw]
  rw [wlit ((2:Int) - 1) (by omega), wlit ((2:Int) - 1 - (0 + 1)) (by omega), wlit ((8:Int) * (2 - 1 - (0 + 1))) (by omega), wlit ((0:Int)+1+1) (by omega)]
  rw [gd_pos (by omega), gd_pos (by simp; omega)]
  rw [header_front_c2_eq, if_neg (by decide), w64 (x := v19 + 1) (by omega) (by omega), wu8, wu8]
  rw [show (8 * (2 - 1 - 0) : Int) = 8 by decide, show (8 * (2 - 1 - (0 + 1)) : Int) = 0 by decide, shr0, shr8]
  simp
theorem header_front_spec (h : D_api_BlockHead) (hm : 0 ≤ h.1 ∧ h.1 < 256) : header_front h = some (fr8 h) := by
  rw [header_front_eq, w64 (by omega) (by omega)]
  simp only [List.replicate, List.set_cons_zero, List.set_cons_succ]
  rw [front_one _ 0 _ h.1 (by decide) (by decide) (by decide) rfl (by decide)]
  rw [front_one _ (0+1) _ h.2.1 (by decide) (by decide) (by decide) rfl (by simp)]
  rw [front_two _ (0+1+1) _ h.2.2.1 (by decide) (by decide) (by decide) rfl (by simp)]
  rw [front_two _ (0+1+1+1) _ h.2.2.2.1 (by decide) (by decide) (by decide) rfl (by simp)]
  rw [front_two _ (0+1+1+1+1) _ h.2.2.2.2.1 (by decide) (by decide) (by decide) rfl (by simp)]
  rw [header_front_c1_eq, if_neg (by decide)]
  simp [fr8]
theorem ref26_Front_spec (h : D_api_BlockHead) (hm : 0 ≤ h.1 ∧ h.1 < 256) : bitloftref26_Front h = some (fr8 h) := by
  rw [bitloftref26_Front_eq]
  simp only [bitloftref26_two_eq, wu8, fdiv_pos _ (show (0:Int) < 256 by decide)]
  rw [gd_pos (by decide)]
  simp only [Option.bind_some]
  rw [gd_pos (by simp), gd_pos (by decide)]
  simp only [Option.bind_some]
  rw [gd_pos (by simp), gd_pos (by decide)]
  simp only [Option.bind_some]
  rw [gd_pos (by simp)]
  simp only [fr8, List.cons_append, List.nil_append]
  rw [Int.emod_eq_of_lt hm.1 hm.2]
end Go.Ab

set_option linter.unusedVariables false
set_option linter.unusedSimpArgs false
set_option maxHeartbeats 1000000
namespace Go.Ab
attribute [local irreducible] IntKind.wrap
/-! ### 1. What was found, and its check -/
def rightB (h : D_api_BlockHead) (raw : List Int) : Bool × Int :=
  if hOK h then (if (raw.length : Int) = h.2.2.2.1 then (peq (.arr 20 (.int .u8)) (shaB (fr8 h ++ raw)) h.2.2.2.2.2.1, 0) else (false, 0)) else (false, 8)
theorem fr8_len8 (h : D_api_BlockHead) : (fr8 h).length = 8 := rfl
theorem fr8_bts (h : D_api_BlockHead) : Bts (fr8 h) := by
  intro x hx
  simp only [fr8, List.mem_cons, List.not_mem_nil, or_false] at hx
  rcases hx with rfl | rfl | rfl | rfl | rfl | rfl | rfl | rfl <;> omega
theorem hOK_raw' {h : D_api_BlockHead} (ok : hOK h) : 1 ≤ h.2.2.2.1 ∧ h.2.2.2.1 ≤ 4096 := by unfold hOK at ok; omega
theorem header_Right_spec (h : D_api_BlockHead) (hm : 0 ≤ h.1 ∧ h.1 < 256) (raw : List Int) (hb : Bts raw) : header_Right h raw = some (rightB h raw) := by
  have hl' : Int.ofNat raw.length = (raw.length : Int) := rfl
  rw [header_Right_eq, header_Check_spec, hl']
  simp only [Option.bind_some, hC_ne, rightB]
  by_cases ok : hOK h
  · have hr := hOK_raw' ok
    rw [if_neg (fun k => k ok), if_pos ok]
    by_cases e : (raw.length : Int) = h.2.2.2.1
    · rw [if_pos (by simpa using e), if_pos e, header_digest_eq, header_front_spec h hm]
      simp only [Option.bind_some]
      have hlen : (fr8 h ++ raw).length = 8 + raw.length := by rw [List.length_append, fr8_len8]
      rw [gd_pos (by omega), Sum_spec _ ((fr8_bts h).append hb), if_pos (by omega)]
      rfl
    · rw [if_neg (by simpa using e), if_neg e]
  · rw [if_pos ok, if_neg ok]
    have : hC h = 8 := by unfold hC; rw [if_neg ok]
    rw [this]
theorem ref26_Right_spec (h : D_api_BlockHead) (hm : 0 ≤ h.1 ∧ h.1 < 256) (raw : List Int) (hb : Bts raw) : bitloftref26_Right h raw = some (rightB h raw) := by
  have hl' : Int.ofNat raw.length = (raw.length : Int) := rfl
  rw [bitloftref26_Right_eq, ref26_Check_spec, hl']
  simp only [Option.bind_some, hC_ne, rightB]
  by_cases ok : hOK h
  · have hr := hOK_raw' ok
    rw [if_neg (fun k => k ok), if_pos ok]
    by_cases e : (raw.length : Int) = h.2.2.2.1
    · rw [if_pos (by simpa using e), if_pos e, bitloftref26_Of_eq, ref26_Front_spec h hm]
      simp only [Option.bind_some]
      have hlen : (fr8 h ++ raw).length = 8 + raw.length := by rw [List.length_append, fr8_len8]
      rw [gd_pos (by omega), Of_spec _ (by omega)]
      rfl
    · rw [if_neg (by simpa using e), if_neg e]
  · rw [if_pos ok, if_neg ok]
    have : hC h = 8 := by unfold hC; rw [if_neg ok]
    rw [this]
/-- It is what its header says. -/
def fOK (f : D_api_Found) : Prop := hOK f.2.1 ∧ (f.2.2.1.length : Int) = f.2.1.2.2.2.1 ∧ peq (.arr 20 (.int .u8)) (shaB (fr8 f.2.1 ++ f.2.2.1)) f.2.1.2.2.2.2.2.1 = true ∧ 0 ≤ f.1
theorem fOK_iff (f : D_api_Found) : fOK f ↔ (rightB f.2.1 f.2.2.1).1 = true ∧ 0 ≤ f.1 := by
  unfold fOK rightB
  by_cases h1 : hOK f.2.1 <;> by_cases h2 : (f.2.2.1.length : Int) = f.2.1.2.2.2.1 <;> simp [h1, h2]
instance (f : D_api_Found) : Decidable (fOK f) := by unfold fOK; infer_instance
def FndOK (fs : List D_api_Found) : Prop := fs.length ≤ 1000 ∧ ∀ f ∈ fs, (0 ≤ f.2.1.1 ∧ f.2.1.1 < 256) ∧ Bts f.2.2.1
def allF : List D_api_Found → Int
  | [] => 0
  | f :: r => if fOK f then allF r else 8
def fck (rs : List D_api_Record) (fs : List D_api_Found) : Int := if valid rs ≠ 0 then valid rs else if fs.length > 600 then 4 else allF fs
theorem schk_c1 (fs : List D_api_Found) (hF : FndOK fs) : ∀ (k i : Nat), i + k = fs.length → salvage_check_c1 fs (fs.length : Int) (i : Int) = some (allF (fs.drop i))
  | 0, i, e => by
    rw [salvage_check_c1_eq, if_neg (by simp; omega), List.drop_eq_nil_of_le (by omega)]; rfl
  | k + 1, i, e => by
    have hb := hF.1
    have hl' : Int.ofNat fs.length = (fs.length : Int) := rfl
    obtain ⟨d1, d2, d3⟩ := dropR_at (pzero T_api_Found : D_api_Found) (xs := fs) (i := i) (by omega)
    have hv := hF.2 _ d3
    have ih := schk_c1 fs hF k (i + 1) (by omega)
    rw [show ((i + 1 : Nat) : Int) = (i : Int) + 1 by omega] at ih
    rw [salvage_check_c1_eq, if_pos (by simp; omega), gd_pos (by omega), gd_pos (by rw [hl']; omega), Int.toNat_natCast, d1]
    generalize fs.getD i (pzero T_api_Found) = f at *
    rw [header_Right_spec _ hv.1 _ hv.2]
    simp only [Option.bind_some, allF]
    by_cases h1 : (rightB f.2.1 f.2.2.1).1 = true
    · rw [if_neg (by rw [h1]; decide)]
      by_cases h2 : f.1 < 0
      · rw [if_pos (by simpa using h2), if_neg (fun k => by have := ((fOK_iff f).1 k).2; omega)]
      · rw [if_neg (by simpa using h2), w64 (by omega) (by omega), ih, if_pos ((fOK_iff f).2 ⟨h1, by omega⟩)]
    · rw [if_pos (by simpa using h1), if_neg (fun k => h1 ((fOK_iff f).1 k).1)]
theorem salvage_check_spec (rs : List D_api_Record) (hR : RecsOK rs) (fs : List D_api_Found) (hF : FndOK fs) : salvage_check rs fs = some (fck rs fs) := by
  rw [salvage_check_eq, member_Valid_spec rs hR]
  simp only [Option.bind_some, fck]
  by_cases hv : valid rs = 0
  · rw [if_neg (by simp [hv]), if_neg (show ¬ valid rs ≠ 0 from fun k => k hv)]
    by_cases hl : fs.length > 600
    · rw [if_pos (by simp; omega), if_pos hl]
    · rw [if_neg (by simp; omega), if_neg hl]
      exact schk_c1 fs hF fs.length 0 (by omega)
  · rw [if_pos (by simpa using hv), if_pos hv]
theorem rvalid_spec (f : D_api_Found) (hv : (0 ≤ f.2.1.1 ∧ f.2.1.1 < 256) ∧ Bts f.2.2.1) : bitloftref34_valid f = some (decide (fOK f)) := by
  rw [bitloftref34_valid_eq, ref26_Right_spec _ hv.1 _ hv.2]
  simp only [Option.bind_some]
  by_cases h0 : 0 ≤ f.1
  · rw [if_pos (by simpa using h0)]
    by_cases h1 : (rightB f.2.1 f.2.2.1).1 = true
    · have he : (rightB f.2.1 f.2.2.1).2 = 0 := by
        unfold rightB at h1 ⊢
        split
        · split <;> rfl
        · rename_i hn; rw [if_neg hn] at h1; cases h1
      rw [he, if_pos (by decide), h1, decide_eq_true ((fOK_iff f).2 ⟨h1, h0⟩)]
    · rw [decide_eq_false (fun k => h1 ((fOK_iff f).1 k).1), Bool.eq_false_iff.2 h1]
      split <;> rfl
  · rw [if_neg (by simpa using h0), decide_eq_false (fun k => h0 ((fOK_iff f).1 k).2)]
theorem rchk_c1 (fs : List D_api_Found) (hF : FndOK fs) : ∀ (k i : Nat), i + k = fs.length → bitloftref34_Asked_c1 fs (i : Int) = some (allF (fs.drop i))
  | 0, i, e => by
    have hl' : Int.ofNat fs.length = (fs.length : Int) := rfl
    rw [bitloftref34_Asked_c1_eq, if_neg (by simp; omega), List.drop_eq_nil_of_le (by omega)]; rfl
  | k + 1, i, e => by
    have hb := hF.1
    have hl' : Int.ofNat fs.length = (fs.length : Int) := rfl
    obtain ⟨d1, d2, d3⟩ := dropR_at (pzero T_api_Found : D_api_Found) (xs := fs) (i := i) (by omega)
    have hv := hF.2 _ d3
    have ih := rchk_c1 fs hF k (i + 1) (by omega)
    rw [show ((i + 1 : Nat) : Int) = (i : Int) + 1 by omega] at ih
    rw [bitloftref34_Asked_c1_eq, if_pos (by simp; omega), gd_pos (by omega), gd_pos (by rw [hl']; omega), Int.toNat_natCast, d1]
    generalize fs.getD i (pzero T_api_Found) = f at *
    rw [rvalid_spec f hv]
    simp only [Option.bind_some, allF]
    by_cases h1 : fOK f
    · rw [decide_eq_true h1, if_neg (by simp), w64 (by omega) (by omega), ih, if_pos h1]
    · rw [decide_eq_false h1, if_pos (by simp), if_neg h1]
theorem ref34_Asked_spec (rs : List D_api_Record) (hR : RecsOK rs) (fs : List D_api_Found) (hF : FndOK fs) : bitloftref34_Asked rs fs = some (fck rs fs) := by
  rw [bitloftref34_Asked_eq, ref28_Valid_spec rs hR]
  simp only [Option.bind_some, fck]
  by_cases hv : valid rs = 0
  · rw [if_neg (by simp [hv]), if_neg (show ¬ valid rs ≠ 0 from fun k => k hv)]
    by_cases hl : fs.length > 600
    · rw [if_pos (by simp; omega), if_pos hl]
    · rw [if_neg (by simp; omega), if_neg hl]
      exact rchk_c1 fs hF fs.length 0 (by omega)
  · rw [if_pos (by simpa using hv), if_pos hv]
end Go.Ab

set_option linter.unusedVariables false
set_option linter.unusedSimpArgs false
set_option maxHeartbeats 1000000
namespace Go.Ab
attribute [local irreducible] IntKind.wrap
open Classical
/-! ### 2. Parts -/
def partOf (f : D_api_Found) : D_api_Part := ((f.2.1.2.1, (f.2.1.2.2.1, (f.2.1.2.2.2.1, ()))), (f.2.2.1, ()))
/-- A part has this byte of a member. -/
def cov (q : D_api_Part) (k x c : Int) : Prop := q.1.1 = k ∧ q.1.2.1 ≤ x ∧ x < q.1.2.1 + (q.2.1.length : Int) ∧ q.2.1.getD (x - q.1.2.1).toNat 0 = c
def okAt (q p : D_api_Part) (i : Nat) : Prop := ∀ c, cov q p.1.1 (p.1.2.1 + i) c → c = p.2.1.getD i 0
def agr (out : List D_api_Part) (p : D_api_Part) : Prop := ∀ q ∈ out, ∀ i, i < p.2.1.length → okAt q p i
def wthn (rs : List D_api_Record) (f : D_api_Found) : Prop := f.2.1.2.1 < (rs.length : Int) ∧ f.2.1.2.2.1 + f.2.1.2.2.2.1 ≤ (rs.getD f.2.1.2.1.toNat (pzero T_api_Record)).2.1
noncomputable def prt (rs : List D_api_Record) : List D_api_Found → List D_api_Part → List D_api_Part
  | [], out => out
  | f :: fs, out => if wthn rs f ∧ agr out (partOf f) then prt rs fs (out ++ [partOf f]) else prt rs fs out
/-- A part that came from something right. -/
structure PtOK (p : D_api_Part) : Prop where
  mem : 0 ≤ p.1.1 ∧ p.1.1 < 16
  off : 0 ≤ p.1.2.1 ∧ p.1.2.1 ≤ 8192
  len : p.2.1.length ≤ 4096
theorem partOf_ok {f : D_api_Found} (h : fOK f) : PtOK (partOf f) := by
  obtain ⟨h1, h2, _, _⟩ := h
  unfold hOK at h1
  exact ⟨⟨by unfold partOf; simp only; omega, by unfold partOf; simp only; omega⟩, ⟨by unfold partOf; simp only; omega, by unfold partOf; simp only; omega⟩, by unfold partOf; simp only; omega⟩
/-! The reference -/
theorem agr_c2 (out : List D_api_Part) (hout : ∀ q ∈ out, PtOK q) (hl : out.length ≤ 1000) (p : D_api_Part) (hp : PtOK p) (j : Nat) (hj : j < out.length) : ∀ (k i : Nat), i + k = p.2.1.length →
    bitloftref34_agrees_c2 out (j : Int) (i : Int) p = if ∀ i', i ≤ i' → i' < p.2.1.length → okAt (out.getD j (pzero T_api_Part)) p i' then bitloftref34_agrees_c1 out ((j : Int) + 1) p else some false
  | 0, i, e => by
    rw [bitloftref34_agrees_c2_eq, if_neg (by simp; omega), if_pos (fun i' h1 h2 => by omega), w64 (by omega) (by omega)]
  | k + 1, i, e => by
    have hl' : Int.ofNat out.length = (out.length : Int) := rfl
    have hl2 : Int.ofNat p.2.1.length = (p.2.1.length : Int) := rfl
    obtain ⟨_, _, d3⟩ := dropR_at (pzero T_api_Part : D_api_Part) (xs := out) (i := j) hj
    have ih := agr_c2 out hout hl p hp j hj k (i + 1) (by omega)
    rw [show ((i + 1 : Nat) : Int) = (i : Int) + 1 by omega] at ih
    have hq := hout _ d3
    have h4 := hp.len; have h5 := hp.off; have h6 := hq.off; have h7 := hq.len
    rw [bitloftref34_agrees_c2_eq, if_pos (by simp; omega), gd_pos (by omega), gd_pos (by rw [hl']; omega), Int.toNat_natCast]
    generalize out.getD j (pzero T_api_Part) = q at *
    have hl3 : Int.ofNat q.2.1.length = (q.2.1.length : Int) := rfl
    -- one step
    have step : okAt q p i → (if ∀ i', i + 1 ≤ i' → i' < p.2.1.length → okAt q p i' then bitloftref34_agrees_c1 out ((j : Int) + 1) p else some false) = (if ∀ i', i ≤ i' → i' < p.2.1.length → okAt q p i' then bitloftref34_agrees_c1 out ((j : Int) + 1) p else some false) := fun ho => by
      by_cases h : ∀ i', i + 1 ≤ i' → i' < p.2.1.length → okAt q p i'
      · rw [if_pos h, if_pos (fun i' a b => by
          by_cases e : i' = i
          · rw [e]; exact ho
          · exact h i' (by omega) b)]
      · rw [if_neg h, if_neg (fun k => h (fun i' a b => k i' (by omega) b))]
    by_cases hm : q.1.1 = p.1.1
    · rw [if_pos (by simpa using hm), gd_pos (by omega), gd_pos (by rw [hl']; omega), w64 (x := p.1.2.1 + i) (by omega) (by omega), w64 (x := p.1.2.1 + i - q.1.2.1) (by omega) (by omega), w64 (x := (i : Int) + 1) (by omega) (by omega)]
      by_cases h0 : p.1.2.1 + i - q.1.2.1 ≥ 0
      · rw [if_pos (by simpa using h0), gd_pos (by omega), gd_pos (by rw [hl']; omega), hl3]
        by_cases h1 : p.1.2.1 + i - q.1.2.1 < (q.2.1.length : Int)
        · rw [if_pos (by simpa using h1), gd_pos (by omega), gd_pos (by rw [hl']; omega), gd_pos (by omega), gd_pos (by omega), gd_pos (by omega), gd_pos (by rw [hl2]; omega), Int.toNat_natCast]
          by_cases hc : q.2.1.getD (p.1.2.1 + i - q.1.2.1).toNat 0 = p.2.1.getD i 0
          · rw [if_neg (by rw [hc]; simp), ih]
            exact step (fun c h => by rw [← h.2.2.2, hc])
          · rw [if_pos (bne_iff_ne.2 hc), if_neg (fun k => hc (k i (Nat.le_refl _) (by omega) _ ⟨hm, by omega, by omega, rfl⟩))]
        · rw [if_neg (by simpa using h1), ih]
          exact step (fun c h => by have := h.2.2.1; omega)
      · rw [if_neg (by simpa using h0), ih]
        exact step (fun c h => by have := h.2.1; omega)
    · rw [if_neg (by simpa using hm), w64 (by omega) (by omega), if_pos (show ∀ i', i ≤ i' → i' < p.2.1.length → okAt q p i' from fun i' _ _ c h => absurd h.1 hm)]
theorem agr_c1 (out : List D_api_Part) (hout : ∀ q ∈ out, PtOK q) (hl : out.length ≤ 1000) (p : D_api_Part) (hp : PtOK p) : ∀ (k j : Nat), j + k = out.length → bitloftref34_agrees_c1 out (j : Int) p = some (decide (agr (out.drop j) p))
  | 0, j, e => by
    have hl' : Int.ofNat out.length = (out.length : Int) := rfl
    rw [bitloftref34_agrees_c1_eq, if_neg (by simp; omega), List.drop_eq_nil_of_le (by omega), decide_eq_true (show agr [] p from fun q hq => by cases hq)]
  | k + 1, j, e => by
    have hl' : Int.ofNat out.length = (out.length : Int) := rfl
    obtain ⟨d1, _, d3⟩ := dropR_at (pzero T_api_Part : D_api_Part) (xs := out) (i := j) (by omega)
    have ih := agr_c1 out hout hl p hp k (j + 1) (by omega)
    rw [show ((j + 1 : Nat) : Int) = (j : Int) + 1 by omega] at ih
    have h2 := agr_c2 out hout hl p hp j (by omega) p.2.1.length 0 (by omega)
    rw [bitloftref34_agrees_c1_eq, if_pos (by simp; omega)]
    refine Eq.trans h2 ?_
    rw [ih, d1]
    by_cases h : ∀ i', 0 ≤ i' → i' < p.2.1.length → okAt (out.getD j (pzero T_api_Part)) p i'
    · rw [if_pos h]
      congr 1
      rw [decide_eq_decide]
      constructor
      · intro ha q hq i hi
        rcases List.mem_cons.1 hq with rfl | hq
        · exact h i (by omega) hi
        · exact ha q hq i hi
      · intro ha q hq; exact ha q (List.mem_cons_of_mem _ hq)
    · rw [if_neg h, decide_eq_false (fun ha => h (fun i' _ hi => ha _ (List.mem_cons_self ..) i' hi))]
theorem sizes_c1 (rs : List D_api_Record) (hl : rs.length ≤ 1000) : ∀ (k i : Nat), i + k = rs.length → bitloftref34_sizes_c1 rs (i : Int) (szs (rs.take i)) = some (szs rs)
  | 0, i, e => by
    have hl' : Int.ofNat rs.length = (rs.length : Int) := rfl
    rw [bitloftref34_sizes_c1_eq, if_neg (by simp; omega), List.take_of_length_le (by omega)]
  | k + 1, i, e => by
    have hl' : Int.ofNat rs.length = (rs.length : Int) := rfl
    obtain ⟨d1, d2, d3⟩ := dropR_at (pzero T_api_Record : D_api_Record) (xs := rs) (i := i) (by omega)
    have hz : szs (List.take i rs) ++ [(List.getD rs i (pzero T_api_Record)).2.1] = szs (List.take (i + 1) rs) := by rw [d2]; simp [szs]
    have ih := sizes_c1 rs hl k (i + 1) (by omega)
    rw [show ((i + 1 : Nat) : Int) = (i : Int) + 1 by omega] at ih
    rw [bitloftref34_sizes_c1_eq, if_pos (by simp; omega), gd_pos (by omega), gd_pos (by rw [hl']; omega), Int.toNat_natCast, hz, gd_pos (by rw [szs_len, List.length_take]; omega), w64 (by omega) (by omega), ih]
theorem sizes_spec (rs : List D_api_Record) (hl : rs.length ≤ 1000) : bitloftref34_sizes rs = some (szs rs) := by
  rw [bitloftref34_sizes_eq]; exact sizes_c1 rs hl rs.length 0 (by omega)
theorem Within_spec (rs : List D_api_Record) (hR : RecsV rs) (f : D_api_Found) (hf : fOK f) : bitloftref29_Within (szs rs) (partOf f).1 = some (decide (wthn rs f)) := by
  have hl' : Int.ofNat (szs rs).length = (rs.length : Int) := by rw [szs_len]; rfl
  have hO := hf.1
  unfold hOK at hO
  rw [bitloftref29_Within_eq, hl']
  have key : ∀ b : Bool, (b = true ↔ wthn rs f) → some b = some (decide (wthn rs f)) := fun b h => by
    congr 1
    rw [Bool.eq_iff_iff, decide_eq_true_eq]; exact h
  have pm : (partOf f).1.1 = f.2.1.2.1 := rfl
  have po : (partOf f).1.2.1 = f.2.1.2.2.1 := rfl
  have pr : (partOf f).1.2.2.1 = f.2.1.2.2.2.1 := rfl
  have hw : wthn rs f ↔ (partOf f).1.1 < (rs.length : Int) ∧ (partOf f).1.2.1 + (partOf f).1.2.2.1 ≤ (rs.getD (partOf f).1.1.toNat (pzero T_api_Record)).2.1 := Iff.rfl
  generalize (partOf f).1.1 = m at *
  generalize (partOf f).1.2.1 = o at *
  generalize (partOf f).1.2.2.1 = r at *
  rw [if_pos (by rw [decide_eq_true_eq]; omega)]
  by_cases h1 : m < (rs.length : Int)
  · have hm : m.toNat < rs.length := by omega
    have hs := szs_get rs m.toNat hm
    have hv := hR.each _ (dropR_at (pzero T_api_Record : D_api_Record) hm).2.2
    rw [if_pos (by simpa using h1), if_pos (by rw [decide_eq_true_eq]; omega), if_pos (by rw [decide_eq_true_eq]; omega), gd_pos (by omega), gd_pos (by omega), hs]
    by_cases h2 : r ≤ (rs.getD m.toNat (pzero T_api_Record)).2.1
    · rw [if_pos (by rw [decide_eq_true_eq]; exact h2), gd_pos (by omega), gd_pos (by omega), w64 (by omega) (by omega)]
      refine key _ ?_
      rw [decide_eq_true_eq, hw]
      omega
    · rw [if_neg (by rw [decide_eq_true_eq]; exact h2)]
      exact key _ ⟨(fun h => by cases h), (fun h => by have := hw.1 h; omega)⟩
  · rw [if_neg (by simpa using h1)]
    exact key _ ⟨(fun h => by cases h), (fun h => absurd (hw.1 h).1 h1)⟩
theorem prt_len (rs : List D_api_Record) : ∀ (fs : List D_api_Found) (out : List D_api_Part), (prt rs fs out).length ≤ out.length + fs.length
  | [], out => by simp [prt]
  | f :: fs, out => by
    unfold prt
    split
    · have := prt_len rs fs (out ++ [partOf f]); simp at this ⊢; omega
    · have := prt_len rs fs out; simp at this ⊢; omega
theorem rParts_c1 (rs : List D_api_Record) (hR : RecsV rs) (fs : List D_api_Found) (hl : fs.length ≤ 700) (hF : ∀ f ∈ fs, fOK f) : ∀ (k i : Nat) (out : List D_api_Part), i + k = fs.length → out.length ≤ i → (∀ q ∈ out, PtOK q) → bitloftref34_Parts_c1 rs fs (i : Int) out = some (prt rs (fs.drop i) out, 0)
  | 0, i, out, e, ho, hq => by
    have hl' : Int.ofNat fs.length = (fs.length : Int) := rfl
    rw [bitloftref34_Parts_c1_eq, if_neg (by simp; omega), List.drop_eq_nil_of_le (by omega)]; rfl
  | k + 1, i, out, e, ho, hq => by
    have hl' : Int.ofNat fs.length = (fs.length : Int) := rfl
    have hrl := hR.len
    obtain ⟨d1, _, d3⟩ := dropR_at (pzero T_api_Found : D_api_Found) (xs := fs) (i := i) (by omega)
    have hf := hF _ d3
    have ih := fun out ho hq => rParts_c1 rs hR fs hl hF k (i + 1) out (by omega) ho hq
    rw [show ((i + 1 : Nat) : Int) = (i : Int) + 1 by omega] at ih
    rw [bitloftref34_Parts_c1_eq, if_pos (by simp; omega), gd_pos (by omega), gd_pos (by rw [hl']; omega), Int.toNat_natCast, d1, prt]
    generalize fs.getD i (pzero T_api_Found) = f at *
    have hp := partOf_ok hf
    have hpl := hp.len
    have e1 : bitloftref34_Part f = some (partOf f) := by
      rw [bitloftref34_Part_eq, List.nil_append, gd_pos (by show f.2.2.1.length * 1 ≤ _; have : (partOf f).2.1.length = f.2.2.1.length := rfl; omega)]; rfl
    have ea := agr_c1 out hq (by omega) (partOf f) hp out.length 0 (by omega)
    have ea' : bitloftref34_agrees out (partOf f) = some (decide (agr out (partOf f))) := by rw [bitloftref34_agrees_eq]; exact ea
    rw [e1, sizes_spec rs (by omega)]
    simp only [Option.bind_some]
    rw [Within_spec rs hR f hf, ea', w64 (by omega) (by omega)]
    simp only [Option.bind_some]
    by_cases hw : wthn rs f
    · rw [decide_eq_true hw, if_pos rfl]
      by_cases hg : agr out (partOf f)
      · rw [decide_eq_true hg, if_pos rfl, if_pos ⟨hw, hg⟩, gd_pos (by simp; omega)]
        exact ih _ (by simp; omega) (fun q h => by
          rcases List.mem_append.1 h with h | h
          · exact hq q h
          · rw [List.mem_singleton.1 h]; exact hp)
      · rw [decide_eq_false hg, if_neg (by simp), if_neg (fun k => hg k.2)]
        exact ih _ (by omega) hq
    · rw [decide_eq_false hw, if_neg (by simp), if_neg (fun k => hw k.1)]
      exact ih _ (by omega) hq
/-! The program -/
abbrev Pl := D_api_Settings
abbrev plEq : Pl → Pl → Bool := peq T_api_Settings
theorem plEq_iff (a b : Pl) : plEq a b = true ↔ a = b := ⟨fun h => peq_eq (t := T_api_Settings) (by decide) h, fun h => by subst h; simp [peq]⟩
def ky (k x : Int) : Pl := (k, (x, ()))
/-- What is kept by places is what the parts have. -/
def Mp (m : List (Pl × Int)) (out : List D_api_Part) : Prop := ∀ k x c, mget plEq (ky k x) m = some c ↔ ∃ q ∈ out, cov q k x c
theorem fits_c1 (data : List Int) (hd : data.length ≤ 5000) (b0 : List D_api_Record) (m : List (Pl × Int)) (f : D_api_Found) (h : D_api_BlockHead) (ho : 0 ≤ h.2.2.1 ∧ h.2.2.1 ≤ 8192) : ∀ (k i : Nat), i + k = data.length →
    salvage_Parts_1_c1 data (data.length : Int) (i : Int) b0 m f h = if ∀ i', i ≤ i' → i' < data.length → ∀ c, mget plEq (ky h.2.1 (h.2.2.1 + i')) m = some c → c = data.getD i' 0 then salvage_Parts_1_c2 f.2.2.1 (Int.ofNat f.2.2.1.length) 0 b0 m h else some (false, (b0, ((), m)))
  | 0, i, e => by
    rw [salvage_Parts_1_c1_eq, if_neg (by simp; omega), if_pos (fun i' a b => by omega)]
  | k + 1, i, e => by
    have hl' : Int.ofNat data.length = (data.length : Int) := rfl
    have ih := fits_c1 data hd b0 m f h ho k (i + 1) (by omega)
    rw [show ((i + 1 : Nat) : Int) = (i : Int) + 1 by omega] at ih
    rw [salvage_Parts_1_c1_eq, if_pos (by simp; omega), gd_pos (by omega), gd_pos (by rw [hl']; omega), Int.toNat_natCast, w64 (x := h.2.2.1 + i) (by omega) (by omega), w64 (x := (i : Int) + 1) (by omega) (by omega), ih]
    show (if (mget plEq (ky h.2.1 (h.2.2.1 + (i : Int))) m).isSome = true then _ else _) = _
    have step : (∀ c, mget plEq (ky h.2.1 (h.2.2.1 + (i : Int))) m = some c → c = data.getD i 0) → (if ∀ i', i + 1 ≤ i' → i' < data.length → ∀ c, mget plEq (ky h.2.1 (h.2.2.1 + i')) m = some c → c = data.getD i' 0 then salvage_Parts_1_c2 f.2.2.1 (Int.ofNat f.2.2.1.length) 0 b0 m h else some (false, (b0, ((), m)))) = (if ∀ i', i ≤ i' → i' < data.length → ∀ c, mget plEq (ky h.2.1 (h.2.2.1 + i')) m = some c → c = data.getD i' 0 then salvage_Parts_1_c2 f.2.2.1 (Int.ofNat f.2.2.1.length) 0 b0 m h else some (false, (b0, ((), m)))) := fun hh => by
      by_cases hc : ∀ i', i + 1 ≤ i' → i' < data.length → ∀ c, mget plEq (ky h.2.1 (h.2.2.1 + i')) m = some c → c = data.getD i' 0
      · rw [if_pos hc, if_pos (fun i' a b => by
          by_cases e : i' = i
          · rw [e]; exact hh
          · exact hc i' (by omega) b)]
      · rw [if_neg hc, if_neg (fun k => hc (fun i' a b => k i' (by omega) b))]
    cases hg : mget plEq (ky h.2.1 (h.2.2.1 + (i : Int))) m with
    | none =>
      rw [if_neg (by simp)]
      exact step (fun c hc => by rw [hg] at hc; cases hc)
    | some c0 =>
      rw [if_pos (by simp)]
      have hg' : mget (peq T_api_Settings) (h.2.1, (h.2.2.1 + (i : Int), ())) m = some c0 := hg
      rw [hg', Option.getD_some]
      by_cases hc : c0 = data.getD i 0
      · rw [if_neg (by rw [hc]; simp)]
        exact step (fun c h' => by rw [hg] at h'; injection h' with h'; rw [← h', hc])
      · rw [if_pos (bne_iff_ne.2 hc), if_neg (fun k => hc (k i (Nat.le_refl _) (by omega) c0 hg))]
/-- All bytes put in from place i on. -/
def putM (k o : Int) (data : List Int) : Nat → Nat → List (Pl × Int) → List (Pl × Int)
  | 0, _, m => m
  | n + 1, i, m => putM k o data n (i + 1) (mset plEq (ky k (o + i)) (data.getD i 0) m)
theorem fits_c2 (data : List Int) (hd : data.length ≤ 5000) (b0 : List D_api_Record) (h : D_api_BlockHead) (ho : 0 ≤ h.2.2.1 ∧ h.2.2.1 ≤ 8192) : ∀ (k i : Nat) (m : List (Pl × Int)), i + k = data.length →
    salvage_Parts_1_c2 data (data.length : Int) (i : Int) b0 m h = some (true, (b0, ((), putM h.2.1 h.2.2.1 data k i m)))
  | 0, i, m, e => by
    rw [salvage_Parts_1_c2_eq, if_neg (by simp; omega)]; rfl
  | k + 1, i, m, e => by
    have hl' : Int.ofNat data.length = (data.length : Int) := rfl
    have ih := fits_c2 data hd b0 h ho k (i + 1) (mset plEq (ky h.2.1 (h.2.2.1 + i)) (data.getD i 0) m) (by omega)
    rw [show ((i + 1 : Nat) : Int) = (i : Int) + 1 by omega] at ih
    rw [salvage_Parts_1_c2_eq, if_pos (by simp; omega), gd_pos (by omega), gd_pos (by rw [hl']; omega), Int.toNat_natCast, w64 (x := h.2.2.1 + i) (by omega) (by omega), w64 (x := (i : Int) + 1) (by omega) (by omega)]
    exact ih
theorem ky_inj {k x k' x' : Int} : ky k x = ky k' x' ↔ k = k' ∧ x = x' := by simp [ky]
theorem putM_get (k o : Int) (data : List Int) (k' x : Int) : ∀ (n i : Nat) (m : List (Pl × Int)), i + n = data.length → mget plEq (ky k' x) (putM k o data n i m) = if k' = k ∧ o + i ≤ x ∧ x < o + (data.length : Int) then some (data.getD (x - o).toNat 0) else mget plEq (ky k' x) m
  | 0, i, m, e => by
    unfold putM
    rw [if_neg (by omega)]
  | n + 1, i, m, e => by
    unfold putM
    rw [putM_get k o data k' x n (i + 1) _ (by omega), mget_mset plEq_iff]
    by_cases h1 : k' = k ∧ o + ((i + 1 : Nat) : Int) ≤ x ∧ x < o + (data.length : Int)
    · rw [if_pos h1, if_pos (by omega)]
    · rw [if_neg h1]
      by_cases h2 : k' = k ∧ x = o + i
      · rw [if_pos ((plEq_iff _ _).2 (ky_inj.2 h2)), if_pos (by omega), show (x - o).toNat = i by omega]
      · rw [if_neg (fun h => h2 (ky_inj.1 ((plEq_iff _ _).1 h)))]
        by_cases h3 : k' = k ∧ o + (i : Int) ≤ x ∧ x < o + (data.length : Int)
        · omega
        · rw [if_neg h3]
theorem fits_spec (rs : List D_api_Record) (hR : RecsV rs) (f : D_api_Found) (hf : fOK f) (m : List (Pl × Int)) (out : List D_api_Part) (hM : Mp m out) :
    ∃ m', salvage_Parts_1 f rs m = some (decide (wthn rs f ∧ agr out (partOf f)), (rs, ((), m'))) ∧ Mp m' (if wthn rs f ∧ agr out (partOf f) then out ++ [partOf f] else out) := by
  have hl' : Int.ofNat rs.length = (rs.length : Int) := rfl
  have hl2 : Int.ofNat f.2.2.1.length = (f.2.2.1.length : Int) := rfl
  have hO := hf.1
  have hlen := hf.2.1
  unfold hOK at hO
  rw [salvage_Parts_1_eq, hl']
  by_cases h1 : f.2.1.2.1 < (rs.length : Int)
  · have hm : f.2.1.2.1.toNat < rs.length := by omega
    have hv := hR.each _ (dropR_at (pzero T_api_Record : D_api_Record) hm).2.2
    rw [if_neg (by simpa using h1), gd_pos (by omega), gd_pos (by omega), w64 (by omega) (by omega)]
    by_cases h2 : f.2.1.2.2.1 + f.2.1.2.2.2.1 ≤ (rs.getD f.2.1.2.1.toNat (pzero T_api_Record)).2.1
    · have hw : wthn rs f := ⟨h1, h2⟩
      rw [if_neg (by rw [decide_eq_true_eq]; omega), hl2]
      have e1 := fits_c1 f.2.2.1 (by omega) rs m f f.2.1 ⟨by omega, by omega⟩ f.2.2.1.length 0 (by omega)
      have hag : (∀ i', 0 ≤ i' → i' < f.2.2.1.length → ∀ c, mget plEq (ky f.2.1.2.1 (f.2.1.2.2.1 + (i' : Nat))) m = some c → c = f.2.2.1.getD i' 0) ↔ agr out (partOf f) := by
        constructor
        · intro h q hq i hi c hc
          exact h i (by omega) hi c ((hM _ _ _).2 ⟨q, hq, hc⟩)
        · intro h i _ hi c hc
          obtain ⟨q, hq, hc⟩ := (hM _ _ _).1 hc
          exact h q hq i hi c hc
      by_cases hg : agr out (partOf f)
      · rw [if_pos (hag.2 hg)] at e1
        have e2 := fits_c2 f.2.2.1 (by omega) rs f.2.1 ⟨by omega, by omega⟩ f.2.2.1.length 0 m (by omega)
        refine ⟨_, by rw [decide_eq_true ⟨hw, hg⟩]; exact e1.trans (by rw [hl2]; exact e2), ?_⟩
        rw [if_pos ⟨hw, hg⟩]
        intro k x c
        rw [putM_get _ _ _ _ _ _ _ _ (Nat.zero_add _)]
        by_cases hc : k = f.2.1.2.1 ∧ f.2.1.2.2.1 + ((0 : Nat) : Int) ≤ x ∧ x < f.2.1.2.2.1 + (f.2.2.1.length : Int)
        · rw [if_pos hc]
          have hcov : cov (partOf f) k x (f.2.2.1.getD (x - f.2.1.2.2.1).toNat 0) := ⟨hc.1.symm, by show f.2.1.2.2.1 ≤ x; omega, hc.2.2, rfl⟩
          constructor
          · intro h
            injection h with h
            exact ⟨partOf f, by simp, h ▸ hcov⟩
          · rintro ⟨q, hq, hqc⟩
            rcases List.mem_append.1 hq with hq | hq
            · have := hg q hq (x - f.2.1.2.2.1).toNat (by show _ < f.2.2.1.length; omega) c (by
                show cov q f.2.1.2.1 (f.2.1.2.2.1 + ((x - f.2.1.2.2.1).toNat : Int)) c
                rw [← hc.1, show f.2.1.2.2.1 + ((x - f.2.1.2.2.1).toNat : Int) = x by omega]; exact hqc)
              rw [this]; rfl
            · rw [List.mem_singleton.1 hq] at hqc
              rw [← hqc.2.2.2]; rfl
        · rw [if_neg hc, hM]
          constructor
          · rintro ⟨q, hq, h⟩; exact ⟨q, by simp [hq], h⟩
          · rintro ⟨q, hq, h⟩
            rcases List.mem_append.1 hq with hq | hq
            · exact ⟨q, hq, h⟩
            · rw [List.mem_singleton.1 hq] at h
              have h3 : f.2.1.2.2.1 ≤ x := h.2.1
              exact absurd ⟨h.1.symm, by omega, h.2.2.1⟩ hc
      · rw [if_neg (fun k => hg (hag.1 k))] at e1
        refine ⟨m, by rw [decide_eq_false (fun k => hg k.2)]; exact e1, ?_⟩
        rw [if_neg (fun k => hg k.2)]; exact hM
    · rw [if_pos (by rw [decide_eq_true_eq]; omega)]
      refine ⟨m, by rw [decide_eq_false (fun k => h2 k.1.2)], ?_⟩
      rw [if_neg (fun k => h2 k.1.2)]; exact hM
  · rw [if_pos (by rw [decide_eq_true_eq]; omega)]
    refine ⟨m, by rw [decide_eq_false (fun k => h1 k.1.1)], ?_⟩
    rw [if_neg (fun k => h1 k.1.1)]; exact hM
theorem bytes_Clone_spec' (xs : List Int) (h : xs.length ≤ 1000000) : bytes_Clone xs = some xs := by
  rw [bytes_Clone_eq]
  refine anyv_eq false (by simp) (fun b hb => ?_)
  cases b with
  | true => rw [if_pos rfl, hb rfl]
  | false => rw [if_neg (by simp), gd_pos (by simp; omega)]; simp
theorem sParts_c1 (rs : List D_api_Record) (hR : RecsV rs) (fs : List D_api_Found) (hl : fs.length ≤ 700) (hF : ∀ f ∈ fs, fOK f) : ∀ (k i : Nat) (out : List D_api_Part) (m : List (Pl × Int)), i + k = fs.length → out.length ≤ i → Mp m out →
    salvage_Parts_c1 fs (fs.length : Int) (i : Int) rs out m = some (prt rs (fs.drop i) out, 0)
  | 0, i, out, m, e, ho, hM => by
    rw [salvage_Parts_c1_eq, if_neg (by simp; omega), List.drop_eq_nil_of_le (by omega)]; rfl
  | k + 1, i, out, m, e, ho, hM => by
    have hl' : Int.ofNat fs.length = (fs.length : Int) := rfl
    obtain ⟨d1, _, d3⟩ := dropR_at (pzero T_api_Found : D_api_Found) (xs := fs) (i := i) (by omega)
    have hf := hF _ d3
    have ih := fun out m ho hM => sParts_c1 rs hR fs hl hF k (i + 1) out m (by omega) ho hM
    rw [show ((i + 1 : Nat) : Int) = (i : Int) + 1 by omega] at ih
    rw [salvage_Parts_c1_eq, if_pos (by simp; omega), gd_pos (by omega), gd_pos (by rw [hl']; omega), Int.toNat_natCast, d1, prt, w64 (by omega) (by omega)]
    generalize fs.getD i (pzero T_api_Found) = f at *
    have hpl := (partOf_ok hf).len
    obtain ⟨m', h1, h2⟩ := fits_spec rs hR f hf m out hM
    rw [h1]
    simp only [Option.bind_some]
    by_cases hc : wthn rs f ∧ agr out (partOf f)
    · rw [if_pos hc] at h2
      rw [decide_eq_true hc, if_pos rfl, if_pos hc, bytes_Clone_spec' _ (by show f.2.2.1.length ≤ _; have : (partOf f).2.1.length = f.2.2.1.length := rfl; omega)]
      simp only [Option.bind_some]
      rw [gd_pos (by simp; omega)]
      exact ih _ m' (by simp; omega) h2
    · rw [if_neg hc] at h2
      rw [decide_eq_false hc, if_neg (by simp), if_neg hc]
      exact ih _ m' (by omega) h2
theorem allF_zero : ∀ (fs : List D_api_Found), allF fs = 0 → ∀ f ∈ fs, fOK f
  | [], _, f, hf => by cases hf
  | g :: fs, h, f, hf => by
    simp only [allF] at h
    split at h
    · rename_i hg
      rcases List.mem_cons.1 hf with rfl | hf
      · exact hg
      · exact allF_zero fs h f hf
    · omega
theorem fck_zero {rs : List D_api_Record} {fs : List D_api_Found} (h : fck rs fs = 0) : valid rs = 0 ∧ fs.length ≤ 600 ∧ ∀ f ∈ fs, fOK f := by
  unfold fck at h
  split at h
  · omega
  · split at h
    · omega
    · rename_i h1 h2
      exact ⟨by omega, by omega, allF_zero fs h⟩
noncomputable def prts (rs : List D_api_Record) (fs : List D_api_Found) : List D_api_Part × Int := if fck rs fs ≠ 0 then ([], fck rs fs) else (prt rs fs [], 0)
theorem salvage_Parts_spec (rs : List D_api_Record) (hR : RecsOK rs) (fs : List D_api_Found) (hF : FndOK fs) : salvage_Parts rs fs = some (prts rs fs) := by
  rw [salvage_Parts_eq, salvage_check_spec rs hR fs hF]
  simp only [Option.bind_some, prts]
  by_cases h : fck rs fs = 0
  · obtain ⟨h1, h2, h3⟩ := fck_zero h
    rw [if_neg (by simp [h]), if_neg (show ¬ fck rs fs ≠ 0 from fun k => k h)]
    exact sParts_c1 rs (valid_zero h1) fs (by omega) h3 fs.length 0 [] [] (by omega) (by simp) (fun k x c => by simp [mget])
  · rw [if_pos (by simpa using h), if_pos h]
theorem ref34_Parts_spec (rs : List D_api_Record) (hR : RecsOK rs) (fs : List D_api_Found) (hF : FndOK fs) : bitloftref34_Parts rs fs = some (prts rs fs) := by
  rw [bitloftref34_Parts_eq, ref34_Asked_spec rs hR fs hF]
  simp only [Option.bind_some, prts]
  by_cases h : fck rs fs = 0
  · obtain ⟨h1, h2, h3⟩ := fck_zero h
    rw [if_neg (by simp [h]), if_neg (show ¬ fck rs fs ≠ 0 from fun k => k h)]
    exact rParts_c1 rs (valid_zero h1) fs (by omega) h3 fs.length 0 [] (by omega) (by simp) (fun q hq => by cases hq)
  · rw [if_pos (by simpa using h), if_pos h]
end Go.Ab

set_option linter.unusedVariables false
set_option linter.unusedSimpArgs false
set_option maxHeartbeats 1000000
namespace Go.Ab
attribute [local irreducible] IntKind.wrap
open Classical
/-! ### 3. Bytes put in -/
def setD (d : List Int) (o : Nat) (pd : List Int) : Nat → List Int
  | 0 => d
  | n + 1 => (setD d o pd n).set (o + n) (pd.getD n 0)
def setT (t : List Bool) (o : Nat) : Nat → List Bool
  | 0 => t
  | n + 1 => (setT t o n).set (o + n) true
theorem setD_len (d : List Int) (o : Nat) (pd : List Int) : ∀ n, (setD d o pd n).length = d.length
  | 0 => rfl
  | n + 1 => by simp [setD, setD_len d o pd n]
theorem setT_len (t : List Bool) (o : Nat) : ∀ n, (setT t o n).length = t.length
  | 0 => rfl
  | n + 1 => by simp [setT, setT_len t o n]
theorem setD_splice (d : List Int) (o : Nat) (pd : List Int) : ∀ n, n ≤ pd.length → o + n ≤ d.length → setD d o pd n = splice d o (pd.take n)
  | 0, _, h => by simp [setD, splice]
  | n + 1, hn, h => by
    have e1 := (dropR_at (0 : Int) (xs := d) (i := o + n) (by omega)).1
    have e2 := (dropR_at (0 : Int) (xs := pd) (i := n) (by omega)).2.1
    have l1 : (pd.take n).length = n := by simp; omega
    have l2 : (d.take o ++ pd.take n).length = o + n := by rw [List.length_append, l1]; simp; omega
    rw [setD, setD_splice d o pd n (by omega) (by omega)]
    unfold splice
    rw [l1, e1, ← l2, set_mid, e2, List.length_append, l1]
    simp only [List.append_assoc, List.length_cons, List.length_nil, List.cons_append, List.nil_append]
    congr 4
    simp; omega
theorem setD_bts {d pd : List Int} (hd : Bts d) (hp : Bts pd) (o : Nat) : ∀ n, Bts (setD d o pd n)
  | 0 => hd
  | n + 1 => fun x hx => by
    rcases List.mem_or_eq_of_mem_set hx with h | h
    · exact setD_bts hd hp o n x h
    · rw [h]; exact bts_get hp n
abbrev iEq : Int → Int → Bool := peq (.int .i64)
theorem iEq_iff (a b : Int) : iEq a b = true ↔ a = b := by simp [peq]
/-- The places that are there. -/
def Rt (m : List (Int × Bool)) (t : List Bool) : Prop := (∀ x : Int, (mget iEq x m).isSome = true ↔ 0 ≤ x ∧ x < (t.length : Int) ∧ t.getD x.toNat false = true) ∧ m.length = t.countP id
theorem mset_len {α β : Type} {eq : α → α → Bool} (h : ∀ a b, eq a b = true ↔ a = b) (x : α) (v : β) : ∀ m : List (α × β), (mset eq x v m).length = m.length + if (mget eq x m).isSome then 0 else 1
  | [] => by simp [mset, mget]
  | e :: r => by
    have ih := mset_len h x v r
    by_cases hx : eq x e.1 = true
    · have h1 : mset eq x v (e :: r) = (x, v) :: r := if_pos hx
      have h2 : mget eq x (e :: r) = some e.2 := if_pos hx
      rw [h1, h2]; simp
    · have h1 : mset eq x v (e :: r) = e :: mset eq x v r := if_neg hx
      have h2 : mget eq x (e :: r) = mget eq x r := if_neg hx
      rw [h1, h2]
      simp only [List.length_cons, ih]; omega
theorem count_set : ∀ (t : List Bool) (i : Nat), i < t.length → (t.set i true).countP id = t.countP id + if t.getD i false then 0 else 1
  | [], i, h => by simp at h
  | b :: t, 0, h => by cases b <;> simp
  | b :: t, i + 1, h => by
    have := count_set t i (by simpa using h)
    simp only [List.set_cons_succ, List.countP_cons, List.getD_cons_succ, this]; omega
theorem Rt.set {m : List (Int × Bool)} {t : List Bool} (h : Rt m t) {i : Nat} (hi : i < t.length) : Rt (mset iEq (i : Int) true m) (t.set i true) := by
  refine ⟨fun x => ?_, ?_⟩
  · rw [mget_mset iEq_iff, List.length_set]
    by_cases hx : x = (i : Int)
    · rw [if_pos ((iEq_iff _ _).2 hx), hx, Int.toNat_natCast, List.getD_eq_getElem?_getD, List.getElem?_set_self hi]
      simp; omega
    · rw [if_neg (fun k => hx ((iEq_iff _ _).1 k)), h.1 x]
      constructor
      · rintro ⟨a, b, c⟩
        refine ⟨a, b, ?_⟩
        rw [List.getD_eq_getElem?_getD, List.getElem?_set_ne (by omega), ← List.getD_eq_getElem?_getD]; exact c
      · rintro ⟨a, b, c⟩
        refine ⟨a, b, ?_⟩
        rw [List.getD_eq_getElem?_getD, List.getElem?_set_ne (by omega), ← List.getD_eq_getElem?_getD] at c; exact c
  · rw [mset_len iEq_iff, count_set t i hi, h.2]
    congr 1
    have := h.1 (i : Int)
    rw [Int.toNat_natCast] at this
    by_cases hs : t.getD i false = true
    · rw [if_pos (this.2 ⟨by omega, by omega, hs⟩), if_pos hs]
    · rw [if_neg (fun k => hs (this.1 k).2.2), if_neg hs]
theorem Rt.nil (n : Nat) : Rt [] (List.replicate n false) := by
  refine ⟨fun x => ?_, by simp [List.countP_replicate]⟩
  simp only [mget, Option.isSome_none, Bool.false_eq_true, false_iff, not_and, List.length_replicate]
  intro _ _
  rw [List.getD_eq_getElem?_getD, List.getElem?_replicate]
  split <;> simp
/-! ### 4. One record -/
structure PtIn (rs : List D_api_Record) (q : D_api_Part) : Prop where
  mem : 0 ≤ q.1.1 ∧ q.1.1 < (rs.length : Int)
  off : 0 ≤ q.1.2.1
  fit : q.1.2.1 + (q.2.1.length : Int) ≤ (rs.getD q.1.1.toNat (pzero T_api_Record)).2.1
  bts : Bts q.2.1
theorem prt_in (rs : List D_api_Record) : ∀ (fs : List D_api_Found) (out : List D_api_Part), (∀ f ∈ fs, fOK f ∧ Bts f.2.2.1) → (∀ q ∈ out, PtIn rs q) → ∀ q ∈ prt rs fs out, PtIn rs q
  | [], out, _, h, q, hq => h q hq
  | f :: fs, out, hF, h, q, hq => by
    unfold prt at hq
    split at hq
    · rename_i hc
      refine prt_in rs fs _ (fun g hg => hF g (by simp [hg])) (fun p hp => ?_) q hq
      rcases List.mem_append.1 hp with hp | hp
      · exact h p hp
      · rw [List.mem_singleton.1 hp]
        obtain ⟨⟨h1, h2, _, _⟩, hb⟩ := hF f (by simp)
        unfold hOK at h1
        have hw := hc.1
        exact ⟨⟨by show 0 ≤ f.2.1.2.1; omega, hw.1⟩, by show 0 ≤ f.2.1.2.2.1; omega, by
          have := hw.2
          show f.2.1.2.2.1 + (f.2.2.1.length : Int) ≤ _
          rw [h2]; exact this, hb⟩
    · exact prt_in rs fs _ (fun g hg => hF g (by simp [hg])) h q hq
def fD (i : Int) : List D_api_Part → List Int → List Int
  | [], d => d
  | p :: ps, d => fD i ps (if p.1.1 = i then setD d p.1.2.1.toNat p.2.1 p.2.1.length else d)
def fT (i : Int) : List D_api_Part → List Bool → List Bool
  | [], t => t
  | p :: ps, t => fT i ps (if p.1.1 = i then setT t p.1.2.1.toNat p.2.1.length else t)
theorem fD_len (i : Int) : ∀ (ps : List D_api_Part) (d : List Int), (fD i ps d).length = d.length
  | [], d => rfl
  | p :: ps, d => by
    simp only [fD, fD_len i ps]
    split
    · rw [setD_len]
    · rfl
theorem fT_len (i : Int) : ∀ (ps : List D_api_Part) (t : List Bool), (fT i ps t).length = t.length
  | [], t => rfl
  | p :: ps, t => by
    simp only [fT, fT_len i ps]
    split
    · rw [setT_len]
    · rfl
theorem fD_bts (i : Int) : ∀ (ps : List D_api_Part) (d : List Int), (∀ q ∈ ps, Bts q.2.1) → Bts d → Bts (fD i ps d)
  | [], d, _, hd => hd
  | p :: ps, d, h, hd => by
    simp only [fD]
    refine fD_bts i ps _ (fun q hq => h q (by simp [hq])) ?_
    split
    · exact setD_bts hd (h p (by simp)) _ _
    · exact hd
section
variable (rs : List D_api_Record) (parts : List D_api_Part)
theorem sR_c3 (i : Int) (rl v42 : Int) (j : Nat) (hj : j ≤ 1000) (h9 : List D_api_Member) (h10 : List Bool) (r : D_api_Record) (d : List Int) (p : D_api_Part) (t : List Bool) (ho : 0 ≤ p.1.2.1) (hf : p.1.2.1 + (p.2.1.length : Int) ≤ (t.length : Int)) (ht : t.length ≤ 8192) : ∀ (k n : Nat) (m : List (Int × Bool)), n + k = p.2.1.length → Rt m (setT t p.1.2.1.toNat n) →
    ∃ m', Rt m' (setT t p.1.2.1.toNat p.2.1.length) ∧ salvage_Rebuild_c3 i rs rl i v42 (j : Int) (p.2.1.length : Int) (n : Int) parts h9 h10 m r d p = salvage_Rebuild_c2 i rs rl i v42 ((j : Int) + 1) parts h9 h10 m' r d
  | 0, n, m, e, hm => by
    have : n = p.2.1.length := by omega
    subst this
    exact ⟨m, hm, by rw [salvage_Rebuild_c3_eq, if_neg (by simp), w64 (by omega) (by omega)]⟩
  | k + 1, n, m, e, hm => by
    have hs := hm.set (i := p.1.2.1.toNat + n) (by rw [setT_len]; omega)
    obtain ⟨m', h1, h2⟩ := sR_c3 i rl v42 j hj h9 h10 r d p t ho hf ht k (n + 1) _ (by omega) hs
    refine ⟨m', h1, ?_⟩
    rw [salvage_Rebuild_c3_eq, if_pos (by simp; omega), w64 (x := p.1.2.1 + n) (by omega) (by omega), w64 (x := (n : Int) + 1) (by omega) (by omega)]
    rw [show ((n + 1 : Nat) : Int) = (n : Int) + 1 by omega, show ((p.1.2.1.toNat + n : Nat) : Int) = p.1.2.1 + n by omega] at h2
    exact h2
theorem sR_c2 (hps : parts.length ≤ 1000) (hin : ∀ q ∈ parts, PtIn rs q) (i : Nat) (rl : Int) (h9 : List D_api_Member) (h10 : List Bool) (r : D_api_Record) (hr : rs.getD i (pzero T_api_Record) = r) (hsz : 0 ≤ r.2.1 ∧ r.2.1 ≤ 8192) : ∀ (k j : Nat) (m : List (Int × Bool)) (d : List Int) (t : List Bool), j + k = parts.length → Rt m t → (d.length : Int) = r.2.1 → (t.length : Int) = r.2.1 →
    ∃ m', Rt m' (fT (i : Int) (parts.drop j) t) ∧ salvage_Rebuild_c2 (i : Int) rs rl (i : Int) (parts.length : Int) (j : Int) parts h9 h10 m r d = salvage_Rebuild_c2 (i : Int) rs rl (i : Int) (parts.length : Int) (parts.length : Int) parts h9 h10 m' r (fD (i : Int) (parts.drop j) d)
  | 0, j, m, d, t, e, hm, hd, ht => by
    have : j = parts.length := by omega
    subst this
    rw [List.drop_eq_nil_of_le (by omega)]
    exact ⟨m, hm, rfl⟩
  | k + 1, j, m, d, t, e, hm, hd, ht => by
    have hl' : Int.ofNat parts.length = (parts.length : Int) := rfl
    obtain ⟨d1, _, d3⟩ := dropR_at (pzero T_api_Part : D_api_Part) (xs := parts) (i := j) (by omega)
    have hp := hin _ d3
    rw [salvage_Rebuild_c2_eq, if_pos (by simp; omega), gd_pos (by omega), gd_pos (by rw [hl']; omega), Int.toNat_natCast, Nat.zero_add, d1]
    generalize parts.getD j (pzero T_api_Part) = p at *
    by_cases hpi : p.1.1 = (i : Int)
    · have hfit := hp.fit
      have hoff := hp.off
      rw [show p.1.1.toNat = i by omega, hr] at hfit
      have hl3 : Int.ofNat d.length = (d.length : Int) := rfl
      have hl4 : Int.ofNat p.2.1.length = (p.2.1.length : Int) := rfl
      rw [if_neg (by rw [hpi]; simp), gd_pos (by omega), gd_pos (by rw [hl3]; omega), Nat.zero_add, Nat.min_eq_left (by omega), List.take_of_length_le (Nat.le_refl _), hl4]
      have e1 : splice d p.1.2.1.toNat p.2.1 = setD d p.1.2.1.toNat p.2.1 p.2.1.length := by
        rw [setD_splice d _ _ _ (Nat.le_refl _) (by omega), List.take_of_length_le (Nat.le_refl _)]
      rw [e1]
      obtain ⟨m1, g1, g2⟩ := sR_c3 rs parts (i : Int) rl (parts.length : Int) j (by omega) h9 h10 r (setD d p.1.2.1.toNat p.2.1 p.2.1.length) p t hoff (by omega) (by omega) p.2.1.length 0 m (by omega) hm
      obtain ⟨m2, k1, k2⟩ := sR_c2 hps hin i rl h9 h10 r hr hsz k (j + 1) m1 (setD d p.1.2.1.toNat p.2.1 p.2.1.length) _ (by omega) g1 (by rw [setD_len]; exact hd) (by rw [setT_len]; exact ht)
      rw [show ((j + 1 : Nat) : Int) = (j : Int) + 1 by omega] at k2
      refine ⟨m2, by rw [fT, if_pos hpi]; exact k1, ?_⟩
      rw [fD, if_pos hpi]
      exact g2.trans k2
    · obtain ⟨m2, k1, k2⟩ := sR_c2 hps hin i rl h9 h10 r hr hsz k (j + 1) m d t (by omega) hm hd ht
      rw [show ((j + 1 : Nat) : Int) = (j : Int) + 1 by omega] at k2
      refine ⟨m2, by rw [fT, if_neg hpi]; exact k1, ?_⟩
      rw [fD, if_neg hpi, if_pos (bne_iff_ne.2 hpi), w64 (by omega) (by omega)]
      exact k2
def zD (r : D_api_Record) : List Int := List.replicate r.2.1.toNat 0
def zT (r : D_api_Record) : List Bool := List.replicate r.2.1.toNat false
def mem1 (i : Nat) (r : D_api_Record) : D_api_Member := (r.1, (fD (i : Int) parts (zD r), ()))
noncomputable def who1 (i : Nat) (r : D_api_Record) : Bool := (fT (i : Int) parts (zT r)).all id && peq (.arr 20 (.int .u8)) (shaB (fD (i : Int) parts (zD r))) r.2.2.1
noncomputable def rebW : Nat → List D_api_Record → List Bool
  | _, [] => []
  | i, r :: q => who1 parts i r :: rebW (i + 1) q
def rebM : Nat → List D_api_Record → List D_api_Member
  | _, [] => []
  | i, r :: q => mem1 parts i r :: rebM (i + 1) q
theorem rebM_len : ∀ (q : List D_api_Record) (i : Nat), (rebM parts i q).length = q.length
  | [], _ => rfl
  | r :: q, i => by simp [rebM, rebM_len q]
theorem rebW_len : ∀ (q : List D_api_Record) (i : Nat), (rebW parts i q).length = q.length
  | [], _ => rfl
  | r :: q, i => by simp [rebW, rebW_len q]
theorem all_count (t : List Bool) : t.countP id = t.length ↔ t.all id = true := by
  rw [List.countP_eq_length, List.all_eq_true]
theorem sR_c1 (hps : parts.length ≤ 1000) (hR : RecsV rs) (hin : ∀ q ∈ parts, PtIn rs q) : ∀ (k i : Nat) (h9 : List D_api_Member) (h10 : List Bool) (m : List (Int × Bool)), i + k = rs.length → h9.length = i → h10.length = i →
    salvage_Rebuild_c1 rs (rs.length : Int) (i : Int) parts h9 h10 m = some (h9 ++ rebM parts i (rs.drop i), (h10 ++ rebW parts i (rs.drop i), 0))
  | 0, i, h9, h10, m, e, e9, e10 => by
    rw [salvage_Rebuild_c1_eq, if_neg (by simp; omega), List.drop_eq_nil_of_le (by omega)]; simp [rebM, rebW]
  | k + 1, i, h9, h10, m, e, e9, e10 => by
    have hl' : Int.ofNat rs.length = (rs.length : Int) := rfl
    have hl2 : Int.ofNat parts.length = (parts.length : Int) := rfl
    have hlen := hR.len
    obtain ⟨d1, _, d3⟩ := dropR_at (pzero T_api_Record : D_api_Record) (xs := rs) (i := i) (by omega)
    have hv := hR.each _ d3
    have ih := fun h9 h10 m e9 e10 => sR_c1 hps hR hin k (i + 1) h9 h10 m (by omega) e9 e10
    rw [show ((i + 1 : Nat) : Int) = (i : Int) + 1 by omega] at ih
    rw [salvage_Rebuild_c1_eq, if_pos (by simp; omega), gd_pos (by omega), gd_pos (by rw [hl']; omega), Int.toNat_natCast, d1]
    generalize hr : rs.getD i (pzero T_api_Record) = r at *
    rw [gd_pos rfl, gd_pos hv.1, gd_pos (by omega), gd_pos (by omega), hl2]
    have hzd : (zD r).length = r.2.1.toNat := by simp [zD]
    have hzt : (zT r).length = r.2.1.toNat := by simp [zT]
    obtain ⟨m1, g1, g2⟩ := sR_c2 rs parts hps hin i (rs.length : Int) h9 h10 r hr ⟨hv.1, hv.2.1⟩ parts.length 0 [] (zD r) (zT r) (by omega) (Rt.nil _) (by omega) (by omega)
    refine Eq.trans g2 ?_
    rw [List.drop_zero] at g1 ⊢
    have hdl := fD_len (i : Int) parts (zD r)
    have htl := fT_len (i : Int) parts (zT r)
    have hbt : Bts (fD (i : Int) parts (zD r)) := fD_bts _ _ _ (fun q hq => (hin q hq).bts) (fun x hx => by rw [List.eq_of_mem_replicate hx]; omega)
    rw [salvage_Rebuild_c2_eq, if_neg (by simp), Sum_spec _ hbt, if_pos (by omega)]
    simp only [Option.bind_some]
    have hm := g1.2
    rw [gd_pos (by simp; omega), w64 (by omega) (by omega)]
    have hw : who1 parts i r = ((fT (i : Int) parts (zT r)).all id && peq (.arr 20 (.int .u8)) (shaB (fD (i : Int) parts (zD r))) r.2.2.1) := rfl
    by_cases ha : (fT (i : Int) parts (zT r)).all id = true
    · have hc := (all_count _).2 ha
      have : (Int.ofNat m1.length == r.2.1) = true := by
        have : Int.ofNat m1.length = (m1.length : Int) := rfl
        rw [this, beq_iff_eq]; omega
      rw [if_pos this, gd_pos (by simp; omega), ih _ _ _ (by simp; omega) (by simp; omega), rebM, rebW, hw, ha, Bool.true_and]
      simp [mem1]
    · have hc : ¬ (fT (i : Int) parts (zT r)).countP id = (fT (i : Int) parts (zT r)).length := fun k => ha ((all_count _).1 k)
      have : ¬ (Int.ofNat m1.length == r.2.1) = true := by
        have : Int.ofNat m1.length = (m1.length : Int) := rfl
        rw [this, beq_iff_eq]; omega
      rw [if_neg this, gd_pos (by simp; omega), ih _ _ _ (by simp; omega) (by simp; omega), rebM, rebW, hw, Bool.eq_false_iff.2 ha, Bool.false_and]
      simp [mem1]
/-! The reference -/
theorem rR_c3 (hps : parts.length ≤ 1000) (hin : ∀ q ∈ parts, PtIn rs q) (i : Nat) (j : Nat) (hj : j < parts.length) (h9 : List D_api_Member) (h10 : List Bool) (d : List Int) (t : List Bool) (hpi : (parts.getD j (pzero T_api_Part)).1.1 = (i : Int)) (hd : (d.length : Int) = (rs.getD i (pzero T_api_Record)).2.1) (ht : t.length = d.length) (hd8 : d.length ≤ 8192) : ∀ (k n : Nat), n + k = (parts.getD j (pzero T_api_Part)).2.1.length →
    bitloftref34_Rebuild_c3 rs (i : Int) (j : Int) (n : Int) parts h9 h10 (setD d (parts.getD j (pzero T_api_Part)).1.2.1.toNat (parts.getD j (pzero T_api_Part)).2.1 n) (setT t (parts.getD j (pzero T_api_Part)).1.2.1.toNat n) =
      bitloftref34_Rebuild_c2 rs (i : Int) ((j : Int) + 1) parts h9 h10 (setD d (parts.getD j (pzero T_api_Part)).1.2.1.toNat (parts.getD j (pzero T_api_Part)).2.1 (parts.getD j (pzero T_api_Part)).2.1.length) (setT t (parts.getD j (pzero T_api_Part)).1.2.1.toNat (parts.getD j (pzero T_api_Part)).2.1.length)
  | 0, n, e => by
    have hl' : Int.ofNat parts.length = (parts.length : Int) := rfl
    have : n = (parts.getD j (pzero T_api_Part)).2.1.length := by omega
    subst this
    rw [bitloftref34_Rebuild_c3_eq, gd_pos (by omega), gd_pos (by rw [hl']; omega), Int.toNat_natCast, Nat.zero_add, if_neg (by simp), w64 (by omega) (by omega)]
  | k + 1, n, e => by
    have hl' : Int.ofNat parts.length = (parts.length : Int) := rfl
    have hp := hin _ (dropR_at (pzero T_api_Part : D_api_Part) hj).2.2
    have ih := rR_c3 hps hin i j hj h9 h10 d t hpi hd ht hd8 k (n + 1) (by omega)
    rw [show ((n + 1 : Nat) : Int) = (n : Int) + 1 by omega] at ih
    rw [bitloftref34_Rebuild_c3_eq, gd_pos (by omega), gd_pos (by rw [hl']; omega), Int.toNat_natCast, Nat.zero_add]
    generalize parts.getD j (pzero T_api_Part) = p at *
    have hfit := hp.fit
    have hoff := hp.off
    rw [show p.1.1.toNat = i by omega] at hfit
    have hl3 : Int.ofNat p.2.1.length = (p.2.1.length : Int) := rfl
    have hsd := setD_len d p.1.2.1.toNat p.2.1 n
    have hst := setT_len t p.1.2.1.toNat n
    have hl4 : Int.ofNat (setD d p.1.2.1.toNat p.2.1 n).length = (d.length : Int) := by rw [hsd]; rfl
    have hl5 : Int.ofNat (setT t p.1.2.1.toNat n).length = (d.length : Int) := by rw [hst, ht]; rfl
    rw [if_pos (by simp; omega), gd_pos (by omega), gd_pos (by rw [hl']; omega), if_pos (by rw [hpi]; simp), gd_pos (by omega), gd_pos (by rw [hl']; omega), gd_pos (by omega), gd_pos (by rw [hl']; omega), gd_pos (by omega), gd_pos (by rw [hl']; omega), gd_pos (by omega), gd_pos (by rw [hl3]; omega), w64 (x := p.1.2.1 + n) (by omega) (by omega), gd_pos (by omega), gd_pos (by rw [hl4]; omega), gd_pos (by omega), gd_pos (by rw [hl5]; omega), Int.toNat_natCast, Nat.zero_add, w64 (by omega) (by omega), show (p.1.2.1 + (n : Int)).toNat = p.1.2.1.toNat + n by omega]
    exact ih
theorem rR_c2 (hps : parts.length ≤ 1000) (hin : ∀ q ∈ parts, PtIn rs q) (i : Nat) (h9 : List D_api_Member) (h10 : List Bool) : ∀ (k j : Nat) (d : List Int) (t : List Bool), j + k = parts.length → (d.length : Int) = (rs.getD i (pzero T_api_Record)).2.1 → t.length = d.length → d.length ≤ 8192 →
    bitloftref34_Rebuild_c2 rs (i : Int) (j : Int) parts h9 h10 d t = bitloftref34_Rebuild_c2 rs (i : Int) (parts.length : Int) parts h9 h10 (fD (i : Int) (parts.drop j) d) (fT (i : Int) (parts.drop j) t)
  | 0, j, d, t, e, hd, ht, h8 => by
    have : j = parts.length := by omega
    subst this
    rw [List.drop_eq_nil_of_le (by omega)]; rfl
  | k + 1, j, d, t, e, hd, ht, h8 => by
    have hl' : Int.ofNat parts.length = (parts.length : Int) := rfl
    obtain ⟨d1, _, d3⟩ := dropR_at (pzero T_api_Part : D_api_Part) (xs := parts) (i := j) (by omega)
    have hp := hin _ d3
    rw [bitloftref34_Rebuild_c2_eq, if_pos (by simp; omega), d1, fD, fT]
    by_cases hpi : (parts.getD j (pzero T_api_Part)).1.1 = (i : Int)
    · have e3 := rR_c3 rs parts hps hin i j (by omega) h9 h10 d t hpi hd ht h8 _ 0 (Nat.zero_add _)
      have ih := rR_c2 hps hin i h9 h10 k (j + 1) (setD d (parts.getD j (pzero T_api_Part)).1.2.1.toNat (parts.getD j (pzero T_api_Part)).2.1 (parts.getD j (pzero T_api_Part)).2.1.length) (setT t (parts.getD j (pzero T_api_Part)).1.2.1.toNat (parts.getD j (pzero T_api_Part)).2.1.length) (by omega) (by rw [setD_len]; exact hd) (by rw [setD_len, setT_len]; exact ht) (by rw [setD_len]; exact h8)
      rw [show ((j + 1 : Nat) : Int) = (j : Int) + 1 by omega] at ih
      rw [if_pos hpi, if_pos hpi]
      exact e3.trans ih
    · have ih := rR_c2 hps hin i h9 h10 k (j + 1) d t (by omega) hd ht h8
      rw [show ((j + 1 : Nat) : Int) = (j : Int) + 1 by omega] at ih
      rw [if_neg hpi, if_neg hpi, ← ih, bitloftref34_Rebuild_c3_eq, gd_pos (by omega), gd_pos (by rw [hl']; omega), Int.toNat_natCast, Nat.zero_add]
      by_cases h0 : (0 : Int) < Int.ofNat (List.length (parts.getD j (pzero T_api_Part)).2.1)
      · rw [if_pos (by rw [decide_eq_true_eq]; exact h0), gd_pos (by omega), gd_pos (by rw [hl']; omega), if_neg (fun k => hpi (beq_iff_eq.1 k)), w64 (by omega) (by omega)]
      · rw [if_neg (by rw [decide_eq_true_eq]; exact h0), w64 (by omega) (by omega)]
theorem rR_c4 (i : Nat) (hi : i < rs.length) (hl : rs.length ≤ 16) (h9 : List D_api_Member) (h10 : List Bool) (e9 : h9.length = i) (e10 : h10.length = i) (d : List Int) (t : List Bool) (ht : t.length ≤ 8192) : ∀ (k n : Nat) (b : Bool), n + k = t.length →
    bitloftref34_Rebuild_c4 rs (i : Int) b (n : Int) parts h9 h10 d t = bitloftref34_Rebuild_c1 rs ((i : Int) + 1) parts (h9 ++ [((rs.getD i (pzero T_api_Record)).1, (d, ()))]) (h10 ++ [b && (t.drop n).all id])
  | 0, n, b, e => by
    have hl' : Int.ofNat rs.length = (rs.length : Int) := rfl
    rw [bitloftref34_Rebuild_c4_eq, if_neg (by simp; omega), gd_pos (by omega), gd_pos (by rw [hl']; omega), Int.toNat_natCast, gd_pos (by simp; omega), gd_pos (by simp; omega), w64 (by omega) (by omega), List.drop_eq_nil_of_le (by omega)]
    simp
  | k + 1, n, b, e => by
    have hl2 : Int.ofNat t.length = (t.length : Int) := rfl
    obtain ⟨d1, _, _⟩ := dropR_at false (xs := t) (i := n) (by omega)
    have ih := fun b => rR_c4 i hi hl h9 h10 e9 e10 d t ht k (n + 1) b (by omega)
    rw [show ((n + 1 : Nat) : Int) = (n : Int) + 1 by omega] at ih
    rw [bitloftref34_Rebuild_c4_eq, if_pos (by simp; omega), gd_pos (by omega), gd_pos (by rw [hl2]; omega), Int.toNat_natCast, Nat.zero_add, w64 (by omega) (by omega), ih, ih, d1]
    cases b <;> simp
theorem rR_c1 (hps : parts.length ≤ 1000) (hR : RecsV rs) (hin : ∀ q ∈ parts, PtIn rs q) : ∀ (k i : Nat) (h9 : List D_api_Member) (h10 : List Bool), i + k = rs.length → h9.length = i → h10.length = i →
    bitloftref34_Rebuild_c1 rs (i : Int) parts h9 h10 = some (h9 ++ rebM parts i (rs.drop i), (h10 ++ rebW parts i (rs.drop i), 0))
  | 0, i, h9, h10, e, e9, e10 => by
    have hl' : Int.ofNat rs.length = (rs.length : Int) := rfl
    rw [bitloftref34_Rebuild_c1_eq, if_neg (by simp; omega), List.drop_eq_nil_of_le (by omega)]; simp [rebM, rebW]
  | k + 1, i, h9, h10, e, e9, e10 => by
    have hl' : Int.ofNat rs.length = (rs.length : Int) := rfl
    have hlen := hR.len
    obtain ⟨d1, _, d3⟩ := dropR_at (pzero T_api_Record : D_api_Record) (xs := rs) (i := i) (by omega)
    have hv := hR.each _ d3
    have ih := fun h9 h10 e9 e10 => rR_c1 hps hR hin k (i + 1) h9 h10 (by omega) e9 e10
    rw [show ((i + 1 : Nat) : Int) = (i : Int) + 1 by omega] at ih
    have hzd : (zD (rs.getD i (pzero T_api_Record))).length = (rs.getD i (pzero T_api_Record)).2.1.toNat := by unfold zD; rw [List.length_replicate]
    have hzt : (zT (rs.getD i (pzero T_api_Record))).length = (rs.getD i (pzero T_api_Record)).2.1.toNat := by unfold zT; rw [List.length_replicate]
    have e2 := rR_c2 rs parts hps hin i h9 h10 parts.length 0 (zD (rs.getD i (pzero T_api_Record))) (zT (rs.getD i (pzero T_api_Record))) (by omega) (by omega) (by omega) (by omega)
    rw [bitloftref34_Rebuild_c1_eq, if_pos (by simp; omega), gd_pos (by omega), gd_pos (by rw [hl']; omega), Int.toNat_natCast, d1]
    rw [gd_pos rfl, gd_pos hv.1, gd_pos (by omega), gd_pos (by omega), gd_pos (by omega), gd_pos (by rw [hl']; omega), gd_pos rfl, gd_pos hv.1, gd_pos (by omega), gd_pos (by omega)]
    refine Eq.trans e2 ?_
    rw [List.drop_zero]
    have hdl := fD_len (i : Int) parts (zD (rs.getD i (pzero T_api_Record)))
    have htl := fT_len (i : Int) parts (zT (rs.getD i (pzero T_api_Record)))
    rw [bitloftref34_Rebuild_c2_eq, if_neg (by simp), Of_spec _ (by omega)]
    simp only [Option.bind_some]
    rw [gd_pos (by omega), gd_pos (by rw [hl']; omega), Int.toNat_natCast]
    have e4 := rR_c4 rs parts i (by omega) hlen h9 h10 e9 e10 (fD (i : Int) parts (zD (rs.getD i (pzero T_api_Record)))) (fT (i : Int) parts (zT (rs.getD i (pzero T_api_Record)))) (by omega) _ 0 (peq (.arr 20 (.int .u8)) (shaB (fD (i : Int) parts (zD (rs.getD i (pzero T_api_Record))))) (rs.getD i (pzero T_api_Record)).2.2.1) (Nat.zero_add _)
    refine Eq.trans e4 ?_
    rw [ih _ _ (by simp; omega) (by simp; omega), rebM, rebW, List.drop_zero, Bool.and_comm]
    simp only [List.append_assoc, List.cons_append, List.nil_append]
    rfl
end
noncomputable def reb (rs : List D_api_Record) (fs : List D_api_Found) : List D_api_Member × List Bool × Int :=
  if fck rs fs ≠ 0 then ([], ([], fck rs fs)) else (rebM (prt rs fs []) 0 rs, (rebW (prt rs fs []) 0 rs, 0))
theorem prts_in {rs : List D_api_Record} {fs : List D_api_Found} (hF : FndOK fs) (h : fck rs fs = 0) : (∀ q ∈ prt rs fs [], PtIn rs q) ∧ (prt rs fs []).length ≤ 1000 := by
  obtain ⟨h1, h2, h3⟩ := fck_zero h
  refine ⟨prt_in rs fs [] (fun f hf => ⟨h3 f hf, (hF.2 f hf).2⟩) (fun q hq => by cases hq), ?_⟩
  have := prt_len rs fs []
  simp at this; omega
theorem salvage_Rebuild_spec (rs : List D_api_Record) (hR : RecsOK rs) (fs : List D_api_Found) (hF : FndOK fs) : salvage_Rebuild rs fs = some (reb rs fs) := by
  rw [salvage_Rebuild_eq, salvage_Parts_spec rs hR fs hF]
  simp only [Option.bind_some, prts, reb]
  by_cases h : fck rs fs = 0
  · obtain ⟨h1, _, _⟩ := fck_zero h
    obtain ⟨h4, h5⟩ := prts_in hF h
    rw [if_neg (show ¬ fck rs fs ≠ 0 from fun k => k h), if_neg (show ¬ fck rs fs ≠ 0 from fun k => k h), if_neg (show ¬ ((0 : Int) != 0) = true by decide)]
    exact sR_c1 rs _ h5 (valid_zero h1) h4 rs.length 0 [] [] [] (by omega) rfl rfl
  · rw [if_pos h, if_pos h, if_pos (bne_iff_ne.2 h)]
theorem ref34_Rebuild_spec (rs : List D_api_Record) (hR : RecsOK rs) (fs : List D_api_Found) (hF : FndOK fs) : bitloftref34_Rebuild rs fs = some (reb rs fs) := by
  rw [bitloftref34_Rebuild_eq, ref34_Parts_spec rs hR fs hF]
  simp only [Option.bind_some, prts, reb]
  by_cases h : fck rs fs = 0
  · obtain ⟨h1, _, _⟩ := fck_zero h
    obtain ⟨h4, h5⟩ := prts_in hF h
    rw [if_neg (show ¬ fck rs fs ≠ 0 from fun k => k h), if_neg (show ¬ fck rs fs ≠ 0 from fun k => k h), if_neg (show ¬ ((0 : Int) != 0) = true by decide)]
    exact rR_c1 rs _ h5 (valid_zero h1) h4 rs.length 0 [] [] (by omega) rfl rfl
  · rw [if_pos h, if_pos h, if_pos (bne_iff_ne.2 h)]
/-! ### 5. The law -/
theorem SameParts_refl (xs : List D_api_Part) (hl : xs.length ≤ 1000) : bitloftref29_SameParts xs xs = some true := by
  have c1 : ∀ (k i : Nat), i + k = xs.length → bitloftref29_SameParts_c1 xs xs (i : Int) = some true := by
    intro k
    induction k with
    | zero => intro i e; rw [bitloftref29_SameParts_c1_eq, if_neg (by simp; omega)]
    | succ k ih =>
      intro i e
      have hl' : Int.ofNat xs.length = (xs.length : Int) := rfl
      have ih := ih (i + 1) (by omega)
      rw [show ((i + 1 : Nat) : Int) = (i : Int) + 1 by omega] at ih
      have hp : ∀ p : D_api_Piece, peq T_api_Piece p p = true := fun p => by simp [peq]
      rw [bitloftref29_SameParts_c1_eq, if_pos (by simp; omega), gd_pos (by omega), gd_pos (by rw [hl']; omega), gd_pos (by omega), gd_pos (by rw [hl']; omega), hp, if_neg (by simp), gd_pos (by omega), gd_pos (by rw [hl']; omega), gd_pos (by omega), gd_pos (by rw [hl']; omega), if_neg (by simp), w64 (by omega) (by omega), ih]
  rw [bitloftref29_SameParts_eq, if_neg (by simp)]
  exact c1 xs.length 0 (by omega)
theorem SameMembers_refl (xs : List D_api_Member) (hl : xs.length ≤ 1000) : bitloftref28_SameMembers xs xs = some true := by
  have c1 : ∀ (k i : Nat), i + k = xs.length → bitloftref28_SameMembers_c1 xs xs (i : Int) = some true := by
    intro k
    induction k with
    | zero => intro i e; rw [bitloftref28_SameMembers_c1_eq, if_neg (by simp; omega)]
    | succ k ih =>
      intro i e
      have hl' : Int.ofNat xs.length = (xs.length : Int) := rfl
      have ih := ih (i + 1) (by omega)
      rw [show ((i + 1 : Nat) : Int) = (i : Int) + 1 by omega] at ih
      rw [bitloftref28_SameMembers_c1_eq, if_pos (by simp; omega), gd_pos (by omega), gd_pos (by rw [hl']; omega), gd_pos (by omega), gd_pos (by rw [hl']; omega), if_neg (by simp), gd_pos (by omega), gd_pos (by rw [hl']; omega), gd_pos (by omega), gd_pos (by rw [hl']; omega), if_neg (by simp), w64 (by omega) (by omega), ih]
  rw [bitloftref28_SameMembers_eq, if_neg (by simp)]
  exact c1 xs.length 0 (by omega)
theorem SameBools_refl (xs : List Bool) (hl : xs.length ≤ 1000) : bitloftref33_SameBools xs xs = some true := by
  have c1 : ∀ (k i : Nat), i + k = xs.length → bitloftref33_SameBools_c1 xs xs (i : Int) = some true := by
    intro k
    induction k with
    | zero => intro i e; rw [bitloftref33_SameBools_c1_eq, if_neg (by simp; omega)]
    | succ k ih =>
      intro i e
      have hl' : Int.ofNat xs.length = (xs.length : Int) := rfl
      have ih := ih (i + 1) (by omega)
      rw [show ((i + 1 : Nat) : Int) = (i : Int) + 1 by omega] at ih
      rw [bitloftref33_SameBools_c1_eq, if_pos (by simp; omega), gd_pos (by omega), gd_pos (by rw [hl']; omega), gd_pos (by omega), gd_pos (by rw [hl']; omega), if_neg (by simp), w64 (by omega) (by omega), ih]
  rw [bitloftref33_SameBools_eq, if_neg (by simp)]
  exact c1 xs.length 0 (by omega)
theorem great34 (fs : List D_api_Found) : ∀ (k i : Nat), i + k = fs.length → ∃ g, bitloftref34_Great_c1 fs (i : Int) = some g ∧ (g = false → fs.length ≤ 620)
  | 0, i, e => by
    have hl' : Int.ofNat fs.length = (fs.length : Int) := rfl
    rw [bitloftref34_Great_c1_eq, if_neg (by simp; omega), hl']
    split
    · split
      · exact ⟨true, rfl, fun h => by cases h⟩
      · exact ⟨_, rfl, fun h => by simp at h; omega⟩
    · exact ⟨_, rfl, fun h => by simp at h; omega⟩
  | k + 1, i, e => by
    have hl' : Int.ofNat fs.length = (fs.length : Int) := rfl
    rw [bitloftref34_Great_c1_eq, if_pos (by simp; omega)]
    by_cases h : i ≤ 30
    · rw [if_pos (by simp; omega), gd_pos (by omega), gd_pos (by rw [hl']; omega)]
      split
      · exact ⟨true, rfl, fun h => by cases h⟩
      · have ih := great34 fs k (i + 1) (by omega)
        rw [show ((i + 1 : Nat) : Int) = (i : Int) + 1 by omega] at ih
        rw [w64 (by omega) (by omega)]
        exact ih
    · rw [if_neg (by simp; omega), hl']
      split
      · split
        · exact ⟨true, rfl, fun h => by cases h⟩
        · exact ⟨_, rfl, fun h => by simp at h; omega⟩
      · exact ⟨_, rfl, fun h => by simp at h; omega⟩
theorem bitloftlaw34_SalvageBuilds_true (x0 : pden (.slice T_api_Record)) (z0 : wfP (.slice T_api_Record) x0) (x1 : pden (.slice T_api_Found)) (z1 : wfP (.slice T_api_Found) x1) : bitloftlaw34_SalvageBuilds x0 x1 = some true := by
  have hR : RecsOK x0 := recs_ok z0
  obtain ⟨g, hg⟩ := great_some x0
  obtain ⟨g2, hg2, hgl⟩ := great34 x1 x1.length 0 (by omega)
  have hg2' : bitloftref34_Great x1 = some g2 := by rw [bitloftref34_Great_eq]; exact hg2
  rw [bitloftlaw34_SalvageBuilds_eq, hg]
  simp only [Option.bind_some]
  cases g with
  | true => rfl
  | false =>
    rw [if_neg (by simp), hg2']
    simp only [Option.bind_some]
    cases g2 with
    | true => rfl
    | false =>
      have hl := hgl rfl
      have hF : FndOK x1 := ⟨by omega, fun f hf => ⟨wf_u8 (z1.2 f hf).2.1.1, Bts.of_wf (z1.2 f hf).2.2.1.2⟩⟩
      rw [if_neg (by simp), salvage_Parts_spec x0 hR x1 hF, ref34_Parts_spec x0 hR x1 hF, salvage_Rebuild_spec x0 hR x1 hF, ref34_Rebuild_spec x0 hR x1 hF]
      simp only [Option.bind_some]
      have b1 : (prts x0 x1).1.length ≤ 1000 := by
        unfold prts
        split
        · simp
        · rename_i h; exact (prts_in hF (by simpa using h)).2
      have b2 : (reb x0 x1).1.length ≤ 1000 ∧ (reb x0 x1).2.1.length ≤ 1000 := by
        unfold reb
        split
        · simp
        · rename_i h
          have := (valid_zero (fck_zero (show fck x0 x1 = 0 by simpa using h)).1).len
          simp only [rebM_len, rebW_len]; omega
      rw [SameParts_refl _ b1, SameMembers_refl _ b2.1, SameBools_refl _ b2.2]
      simp
end Go.Ab
