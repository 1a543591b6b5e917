/-
  An abstract machine over the model's code and its soundness; what the functions compute, as plain functions (printed by a program of this repo's own, checked here by the kernel); plain laws of them: part 6. Helper text, no statement of the claim stands here.
-/
import Derived.Test.YtgdhbgphdojmoaaGreatDoorTxtHe
import Derived.Lib.IndexMore
/-
  What the law leans on, of several chains of plain texts.
-/
set_option linter.unusedVariables false
set_option linter.unusedSimpArgs false
set_option maxHeartbeats 1000000
set_option maxRecDepth 10000
namespace Go.Ab
open Go
abbrev qUb : Ty := .pair (.int .i64) (.pair (.int .i64) .unit)
abbrev qha : Type := Int × (Int × Unit)
attribute [local irreducible] IntKind.wrap
def U32 (x : Int) : Prop := 0 ≤ x ∧ x < 4294967296
theorem qOu (v : BitVec 32) : IntKind.wrap .u32 (v.toNat : Int) = v.toNat := by
  have := v.isLt
  rw [qAG]; omega
theorem qnG (v : BitVec 32) : BitVec.ofInt 32 (v.toNat : Int) = v := by
  apply BitVec.eq_of_toNat_eq
  rw [BitVec.toNat_ofInt]
  have := v.isLt
  omega
theorem bX (x y : Int) : qYa .u32 x y = ((BitVec.ofInt 32 x ^^^ BitVec.ofInt 32 y).toNat : Int) := qOu _
theorem bO (x y : Int) : qFc .u32 x y = ((BitVec.ofInt 32 x ||| BitVec.ofInt 32 y).toNat : Int) := qOu _
theorem bA (x y : Int) : qeb .u32 x y = ((BitVec.ofInt 32 x &&& BitVec.ofInt 32 y).toNat : Int) := qOu _
theorem w_u (x : Int) : U32 (IntKind.wrap .u32 x) := by rw [qAG]; unfold U32; omega
theorem qXG (b c d : Int) : qYa .u32 d (qeb .u32 b (qYa .u32 c d)) = qFc .u32 (qeb .u32 b c) (qeb .u32 (qYa .u32 4294967295 b) d) := by
  simp only [bX, bO, bA, qnG]
  congr 2
  have h1 : BitVec.ofInt 32 4294967295 = BitVec.allOnes 32 := by decide
  rw [h1]
  ext i hi
  simp only [BitVec.getElem_xor, BitVec.getElem_and, BitVec.getElem_or, BitVec.getElem_allOnes]
  cases (BitVec.ofInt 32 b)[i] <;> cases (BitVec.ofInt 32 c)[i] <;> cases (BitVec.ofInt 32 d)[i] <;> rfl
theorem qVF (b c d : Int) : qFc .u32 (qeb .u32 b c) (qeb .u32 d (qFc .u32 b c)) = qFc .u32 (qFc .u32 (qeb .u32 b c) (qeb .u32 b d)) (qeb .u32 c d) := by
  simp only [bX, bO, bA, qnG]
  congr 2
  ext i hi
  simp only [BitVec.getElem_xor, BitVec.getElem_and, BitVec.getElem_or]
  cases (BitVec.ofInt 32 b)[i] <;> cases (BitVec.ofInt 32 c)[i] <;> cases (BitVec.ofInt 32 d)[i] <;> rfl
def rot (a : Int) (s : Int) : Int := qFc .u32 (IntKind.wrap .u32 (qKE .u32 a s)) (qQi .u32 a (32 - s))
theorem qWE {x b : Int} (hx : U32 x) (hb : 0 ≤ b ∧ b < 256) : qFc .u32 (IntKind.wrap .u32 (x * 256)) (IntKind.wrap .u32 b) = IntKind.wrap .u32 (IntKind.wrap .u32 (x * 256) + IntKind.wrap .u32 b) := by
  rw [bO]
  simp only [qAG]
  have h1 : b % 4294967296 = b := by omega
  rw [h1]
  obtain ⟨n, rfl⟩ := Int.eq_ofNat_of_zero_le hb.1
  obtain ⟨q, hq⟩ : ∃ q : Nat, (x * 256) % 4294967296 = ((2 ^ 8 * q : Nat) : Int) ∧ 2 ^ 8 * q < 4294967296 := by
    refine ⟨(x % 16777216).toNat, ?_, ?_⟩ <;> simp <;> omega
  have hn : n < 2 ^ 8 := by omega
  rw [hq.1]
  have e : ∀ m : Nat, m < 4294967296 → (BitVec.ofInt 32 (m : Int)).toNat = m := fun m hm => by
    rw [BitVec.toNat_ofInt]; omega
  rw [BitVec.toNat_or, e _ hq.2, e n (by omega), ← Nat.two_pow_add_eq_or_of_lt hn]
  have := hq.2
  omega
theorem qsr (a : Int) : qCa a 1 = some (rot a 1) ∧ qCa a 5 = some (rot a 5) ∧ qCa a 30 = some (rot a 30) := by
  have h1 : qeb .u64 (IntKind.wrap .u64 1) 31 = 1 := by kernel_rfl
  have h5 : qeb .u64 (IntKind.wrap .u64 5) 31 = 5 := by kernel_rfl
  have h30 : qeb .u64 (IntKind.wrap .u64 30) 31 = 30 := by kernel_rfl
  have w1 : IntKind.wrap .u64 ((32 : Int) - 1) = 32 - 1 := by kernel_rfl
  have w5 : IntKind.wrap .u64 ((32 : Int) - 5) = 32 - 5 := by kernel_rfl
  have w30 : IntKind.wrap .u64 ((32 : Int) - 30) = 32 - 30 := by kernel_rfl
  refine ⟨?_, ?_, ?_⟩ <;> rw [qDi]
  · rw [h1, w1, qea (by omega), qea (by omega)]; rfl
  · rw [h5, w5, qea (by omega), qea (by omega)]; rfl
  · rw [h30, w30, qea (by omega), qea (by omega)]; rfl
theorem qar (a s : Int) (h : 0 ≤ s ∧ s ≤ 32) : qTc a s = some (rot a s) := by
  rw [qnm, w64 (by omega) (by omega), qea (by omega), qea (by omega)]; rfl
def qZG (n : Int) : Int := IntKind.wrap .u64 (IntKind.wrap .u64 n * 8)
def qkq (n : Int) : Nat → List Int
  | 0 => []
  | k + 1 => IntKind.wrap .u8 (qQi .u64 (qZG n) (8 * (k : Int))) :: qkq n k
def qty (n : Int) : List Int := [128] ++ List.replicate ((119 - n % 64) % 64).toNat 0 ++ qkq n 8
theorem qZu (n : Int) : ∀ k, (qkq n k).length = k
  | 0 => rfl
  | k + 1 => by simp [qkq, qZu n k]
theorem qtF (x : Int) : 0 ≤ IntKind.wrap .u8 x ∧ IntKind.wrap .u8 x < 256 := by rw [wu8]; omega
theorem qav (n : Int) : ∀ k, Bts (qkq n k)
  | 0 => Bts.nil
  | k + 1 => Bts.cons (qtF _) (qav n k)
theorem qvD (n : Int) : Bts (qty n) := by
  refine Bts.append (Bts.append (Bts.cons (by omega) Bts.nil) (fun x hx => ?_)) (qav n 8)
  have := (List.mem_replicate.1 hx).2; omega
theorem qsy (n : Int) (h : 0 ≤ n) : ((n + (qty n).length) % 64 = 0 ∧ (qty n).length ≤ 72) := by
  simp only [qty, List.length_append, List.length_cons, List.length_nil, List.length_replicate, qZu]
  omega
theorem qvk (n : Int) : ∀ (k : Nat) (h : List Int), k ≤ 8 → h.length + k ≤ 1000 → qAl n (8 * (k : Int) - 8) h = some (h ++ qkq n k)
  | 0, h, hk, hl => by
    rw [qOn, if_neg (by simp)]
    simp [qkq]
  | k + 1, h, hk, hl => by
    have e : 8 * ((k + 1 : Nat) : Int) - 8 = 8 * (k : Int) := by omega
    rw [e, qOn, if_pos (by simp; omega), qea (by omega), qea (by simp; omega), w64 (by omega) (by omega), qvk n k _ (by omega) (by simp; omega)]
    simp [qkq, qZG]
theorem qcv (n : Int) (h : 0 ≤ n) : qMw n = some (qty n) := by
  rw [qrz, qea (by omega), qea (by omega), quj h, w64 (by omega) (by omega), quj (by omega), qea (by omega), qea (by omega), qea (by omega), qea (by simp; omega)]
  have := qvk n 8 ([128] ++ List.replicate ((119 - n % 64) % 64).toNat 0) (by omega) (by simp; omega)
  exact this
theorem qCr (n : Int) : ∀ (k : Nat) (h : List Int), k ≤ 8 → h.length + k ≤ 1000 → qHb n ((k : Int) - 1) h = some (h ++ qkq n k)
  | 0, h, hk, hl => by
    rw [qZd, if_neg (by simp)]
    simp [qkq]
  | k + 1, h, hk, hl => by
    have e : ((k + 1 : Nat) : Int) - 1 = (k : Int) := by omega
    rw [e, qZd, if_pos (by simp), w64 (x := 8 * (k : Int)) (by omega) (by omega), qea (by omega), qea (by simp; omega), w64 (x := (k : Int) - 1) (by omega) (by omega), qCr n k _ (by omega) (by simp; omega)]
    have e2 : (8 : Int) * IntKind.wrap .u64 n = IntKind.wrap .u64 n * 8 := Int.mul_comm _ _
    simp [qkq, qZG, e2]
theorem qDr (n : Int) (hn : 0 ≤ n ∧ n ≤ 1000000000) : ∀ (j : Nat) (h : List Int), j < 64 → h.length + j ≤ 200 → (n + h.length + 8 + j) % 64 = 0 → qIb n h = some (h ++ List.replicate j 0 ++ qkq n 8)
  | 0, h, hj, hl, hm => by
    rw [qae, qea (by omega)]
    have hl' : Int.ofNat h.length = (h.length : Int) := rfl
    rw [hl', w64 (x := n + (h.length : Int)) (by omega) (by omega), w64 (by omega) (by omega), quj (by omega), if_neg (by simp; omega)]
    have := qCr n 8 h (by omega) (by omega)
    simpa using this
  | j + 1, h, hj, hl, hm => by
    rw [qae, qea (by omega)]
    have hl' : Int.ofNat h.length = (h.length : Int) := rfl
    rw [hl', w64 (x := n + (h.length : Int)) (by omega) (by omega), w64 (by omega) (by omega), quj (by omega), if_pos (by simp; omega), qea (by simp; omega), qDr n hn j (h ++ [0]) (by omega) (by simp; omega) (by simp; omega)]
    simp [List.replicate_succ]
theorem qvv (n : Int) (hn : 0 ≤ n ∧ n ≤ 1000000000) : qoe n = some (qty n) := by
  rw [qVj, qDr n hn ((119 - n % 64) % 64).toNat [128] (by omega) (by simp; omega) (by simp; omega)]
  rfl
theorem qdA (a b : List Int) (h : a.length + b.length ≤ 1000000) : qXc [a, b] = some (a ++ b) := by
  have ha : Int.ofNat a.length = (a.length : Int) := rfl
  have hb : Int.ofNat b.length = (b.length : Int) := rfl
  rw [qUh]
  rw [qyb, if_pos (by simp), qea (by omega), qea (by simp)]
  simp only [List.getD_cons_zero, Int.toNat_zero, ha]
  rw [w64 (x := 0 + (a.length : Int)) (by omega) (by omega), if_neg (by simp), w64 (x := 0 + 1) (by omega) (by omega)]
  rw [qyb, if_pos (by simp), qea (by omega), qea (by simp)]
  simp only [show (0 + 1 : Int).toNat = 1 from rfl, List.getD_cons_succ, List.getD_cons_zero, hb]
  rw [w64 (x := 0 + (a.length : Int) + (b.length : Int)) (by omega) (by omega), if_neg (by simp <;> omega), w64 (x := 0 + 1 + 1) (by omega) (by omega)]
  rw [qyb, if_neg (by simp)]
  have hg : ∃ r, qzd (0 + (a.length : Int) + (b.length : Int)) = some (r, 0, 0) := by
    rw [qOi, if_neg (by simp; omega), w64 (by omega) (by omega)]
    by_cases hz : (0 + (a.length : Int) + (b.length : Int)) - 0 > 0
    · rw [if_pos (by simpa using hz), qea (by omega), qea (by omega), qea (by omega), qea (by omega), qea (by omega), qea (by simp; omega), qea (by omega), qea (by simp; omega)]
      exact ⟨_, rfl⟩
    · rw [if_neg (by simpa using hz)]; exact ⟨_, rfl⟩
  obtain ⟨r, hr⟩ := hg
  rw [hr]
  simp only [Option.bind_some]
  rw [qZg, if_pos (by simp), qea (by omega), qea (by simp), qea (by simp; omega), w64 (by omega) (by omega)]
  simp only [List.getD_cons_zero, Int.toNat_zero, List.take_zero, List.nil_append]
  rw [qcd, if_pos (by simp), qea (by omega), qea (by simp), qea (by simp; omega), w64 (by omega) (by omega)]
  rw [qcd, if_neg (by simp)]
  rfl
def bt (x b : Int) : Int := IntKind.wrap .u32 (IntKind.wrap .u32 (x * 256) + IntKind.wrap .u32 b)
theorem qYG (x b : Int) : U32 (bt x b) := w_u _
def qHE (b : List Int) (t : Nat) : Int := bt (bt (bt (IntKind.wrap .u32 (b.getD (4 * t) 0)) (b.getD (4 * t + 1) 0)) (b.getD (4 * t + 2) 0)) (b.getD (4 * t + 3) 0)
def qYj (b : List Int) (t : Nat) : Nat → List Int
  | 0 => []
  | k + 1 => qHE b t :: qYj b (t + 1) k
theorem qQe (b : List Int) : ∀ (k t : Nat), (qYj b t k).length = k
  | 0, t => rfl
  | k + 1, t => by simp [qYj, qQe b k]
theorem qjC (b : List Int) (hb : b.length = 64) (x y : List Int) : ∀ (k t : Nat) (h : List Int), t + k = 16 → h.length = t → qLc b (t : Int) x y h = qEb 16 x y (h ++ qYj b t k)
  | 0, t, h, e, hl => by
    rw [qXf, if_neg (by simp; omega)]
    simp [qYj]
  | k + 1, t, h, e, hl => by
    have hb' : Int.ofNat b.length = 64 := by rw [hb]; rfl
    have e0 : ((4 : Int) * (t : Int)).toNat = 4 * t := by omega
    have e1 : ((4 : Int) * (t : Int) + 1).toNat = 4 * t + 1 := by omega
    have e2 : ((4 : Int) * (t : Int) + 2).toNat = 4 * t + 2 := by omega
    have e3 : ((4 : Int) * (t : Int) + 3).toNat = 4 * t + 3 := by omega
    rw [qXf, if_pos (by simp; omega), hb']
    simp only [w64 (x := 4 * (t : Int)) (by omega) (by omega), w64 (x := 4 * (t : Int) + 1) (by omega) (by omega), w64 (x := 4 * (t : Int) + 2) (by omega) (by omega), w64 (x := 4 * (t : Int) + 3) (by omega) (by omega), w64 (x := (t : Int) + 1) (by omega) (by omega), e0, e1, e2, e3]
    rw [qea (by omega), qea (by omega), qea (by omega), qea (by omega), qea (by omega), qea (by omega), qea (by omega), qea (by omega), qea (by simp; omega)]
    have ih := qjC b hb x y k (t + 1) (h ++ [qHE b t]) (by omega) (by simp; omega)
    have ec : ((t + 1 : Nat) : Int) = (t : Int) + 1 := by omega
    rw [ec] at ih
    simp only [List.append_assoc, List.singleton_append] at ih
    exact ih
theorem qSm (W : List Int) (x v : Int) (R : List Int) : (W ++ x :: R).set W.length v = W ++ v :: R := by
  induction W with
  | nil => rfl
  | cons a W ih => simp [ih]
theorem qSB (W : List Int) (x : Int) (R : List Int) : (W ++ x :: R).getD W.length 0 = x := by
  induction W with
  | nil => rfl
  | cons a W ih => simp
theorem qMx {b : List Int} (h : Bts b) (i : Nat) : 0 ≤ b.getD i 0 ∧ b.getD i 0 < 256 := by
  rw [List.getD_eq_getElem?_getD]
  cases hi : b[i]? with
  | none => simp
  | some x => exact h x (List.mem_of_getElem? hi)
theorem qIu (b : List Int) (hb : b.length = 64) (hB : Bts b) (x y W R : List Int) (i t : Nat) (v : Int) (hv : U32 v) (hi : i < 64) (ht : i / 4 = t) (hW : W.length = t) :
    qyh b 64 (i : Int) x y (W ++ v :: R) = qyh b 64 ((i : Int) + 1) x y (W ++ bt v (b.getD i 0) :: R) := by
  have hb' : Int.ofNat b.length = 64 := by rw [hb]; rfl
  have e : (IntKind.wrap .i64 (Int.tdiv (i : Int) 4)) = (t : Int) := by
    rw [qHw (by omega), w64 (by omega) (by omega)]; omega
  rw [qRp, if_pos (by simp; omega), hb', e]
  rw [qea (by omega), qea (by omega), qea (by omega), qea (by omega), qea (by omega), qea (by omega), qea (by omega), qea (by omega), qea (by omega)]
  have et : ((t : Int)).toNat = W.length := by omega
  have ei : ((i : Int)).toNat = i := by omega
  rw [et, ei, qSB, qSm, qWE hv (qMx hB i), w64 (x := (i : Int) + 1) (by omega) (by omega)]
  rfl
theorem qhG (b : List Int) (hb : b.length = 64) (hB : Bts b) (x y : List Int) : ∀ (k t : Nat) (W : List Int), t + k = 16 → W.length = t →
    qyh b 64 (4 * (t : Int)) x y (W ++ List.replicate k 0) = qyh b 64 64 x y (W ++ qYj b t k)
  | 0, t, W, e, hl => by
    have : 4 * (t : Int) = 64 := by omega
    rw [this]; rfl
  | k + 1, t, W, e, hl => by
    have c : ∀ j : Nat, ((4 * t + j : Nat) : Int) = 4 * (t : Int) + (j : Int) := fun j => by omega
    have s0 := qIu b hb hB x y W (List.replicate k 0) (4 * t) t 0 (by unfold U32; omega) (by omega) (by omega) hl
    have s1 := qIu b hb hB x y W (List.replicate k 0) (4 * t + 1) t (bt 0 (b.getD (4 * t) 0)) (qYG _ _) (by omega) (by omega) hl
    have s2 := qIu b hb hB x y W (List.replicate k 0) (4 * t + 2) t (bt (bt 0 (b.getD (4 * t) 0)) (b.getD (4 * t + 1) 0)) (qYG _ _) (by omega) (by omega) hl
    have s3 := qIu b hb hB x y W (List.replicate k 0) (4 * t + 3) t (bt (bt (bt 0 (b.getD (4 * t) 0)) (b.getD (4 * t + 1) 0)) (b.getD (4 * t + 2) 0)) (qYG _ _) (by omega) (by omega) hl
    rw [show ((4 * t : Nat) : Int) = 4 * (t : Int) by omega] at s0
    rw [show ((4 * t + 1 : Nat) : Int) = 4 * (t : Int) + 1 by omega] at s1
    rw [show ((4 * t + 2 : Nat) : Int) = 4 * (t : Int) + 1 + 1 by omega] at s2
    rw [show ((4 * t + 3 : Nat) : Int) = 4 * (t : Int) + 1 + 1 + 1 by omega] at s3
    have h0 : bt 0 (b.getD (4 * t) 0) = IntKind.wrap .u32 (b.getD (4 * t) 0) := by
      have := qMx hB (4 * t)
      simp only [bt, qAG]; omega
    rw [List.replicate_succ, s0, s1, s2, s3, h0]
    have ih := qhG b hb hB x y k (t + 1) (W ++ [qHE b t]) (by omega) (by simp; omega)
    rw [show 4 * ((t + 1 : Nat) : Int) = 4 * (t : Int) + 1 + 1 + 1 + 1 by omega] at ih
    simp only [List.append_assoc, List.singleton_append] at ih
    exact ih
def qDD (a b c d : Int) : Int := rot (qYa .u32 (qYa .u32 (qYa .u32 a b) c) d) 1
def sch : Nat → List Int → List Int
  | 0, h => h
  | k + 1, h => sch k (h ++ [qDD (h.getD (h.length - 3) 0) (h.getD (h.length - 8) 0) (h.getD (h.length - 14) 0) (h.getD (h.length - 16) 0)])
theorem qNA : ∀ (k : Nat) (h : List Int), (sch k h).length = h.length + k
  | 0, h => rfl
  | k + 1, h => by rw [sch, qNA k]; simp; omega
theorem qQk {h r : List Int} {t : Nat} (ht : t < h.length) : (h ++ r).getD t 0 = h.getD t 0 := by
  simp [List.getD_eq_getElem?_getD, List.getElem?_append_left ht]
theorem qTm : ∀ (k : Nat) (h : List Int) (t : Nat), t < h.length → (sch k h).getD t 0 = h.getD t 0
  | 0, h, t, ht => rfl
  | k + 1, h, t, ht => by
    rw [sch, qTm k _ t (by simp; omega), qQk ht]
theorem qdE : ∀ (k : Nat) (h : List Int) (t : Nat), 16 ≤ h.length → h.length ≤ t → t < h.length + k →
    (sch k h).getD t 0 = qDD ((sch k h).getD (t - 3) 0) ((sch k h).getD (t - 8) 0) ((sch k h).getD (t - 14) 0) ((sch k h).getD (t - 16) 0)
  | 0, h, t, h1, h2, h3 => by omega
  | k + 1, h, t, h1, h2, h3 => by
    by_cases he : t = h.length
    · subst he
      rw [sch]
      rw [qTm k _ h.length (by simp), qTm k _ (h.length - 3) (by simp; omega), qTm k _ (h.length - 8) (by simp; omega), qTm k _ (h.length - 14) (by simp; omega), qTm k _ (h.length - 16) (by simp; omega)]
      rw [qSB, qQk (by omega), qQk (by omega), qQk (by omega), qQk (by omega)]
    · rw [sch]
      exact qdE k _ t (by simp; omega) (by simp; omega) (by simp; omega)
theorem qiC (x y : List Int) : ∀ (k t : Nat) (h : List Int), t + k = 80 → 16 ≤ t → h.length = t → qEb (t : Int) x y h = qDb 0 x y (sch k h) x
  | 0, t, h, e, h1, hl => by
    rw [qWf, if_neg (by simp; omega)]; rfl
  | k + 1, t, h, e, h1, hl => by
    have hl' : Int.ofNat h.length = (t : Int) := by rw [hl]; rfl
    rw [qWf, if_pos (by simp; omega), hl']
    simp only [w64 (x := (t : Int) - 3) (by omega) (by omega), w64 (x := (t : Int) - 8) (by omega) (by omega), w64 (x := (t : Int) - 14) (by omega) (by omega), w64 (x := (t : Int) - 16) (by omega) (by omega), w64 (x := (t : Int) + 1) (by omega) (by omega)]
    rw [qea (by omega), qea (by omega), qea (by omega), qea (by omega), qea (by omega), qea (by omega), qea (by omega), qea (by omega)]
    rw [show 0 + ((t : Int) - 3).toNat = h.length - 3 by omega, show 0 + ((t : Int) - 8).toNat = h.length - 8 by omega, show 0 + ((t : Int) - 14).toNat = h.length - 14 by omega, show 0 + ((t : Int) - 16).toNat = h.length - 16 by omega]
    rw [qar _ 1 (by omega)]
    simp only [Option.bind_some]
    rw [qea (by simp; omega)]
    have ih := qiC x y k (t + 1) (h ++ [qDD (h.getD (h.length - 3) 0) (h.getD (h.length - 8) 0) (h.getD (h.length - 14) 0) (h.getD (h.length - 16) 0)]) (by omega) (by omega) (by simp; omega)
    rw [show ((t + 1 : Nat) : Int) = (t : Int) + 1 by omega] at ih
    exact ih
def ff (t : Nat) (b c d : Int) : Int × Int :=
  if t < 20 then (qFc .u32 (qeb .u32 b c) (qeb .u32 (qYa .u32 4294967295 b) d), 1518500249)
  else if t < 40 then (qYa .u32 (qYa .u32 b c) d, 1859775393)
  else if t < 60 then (qFc .u32 (qFc .u32 (qeb .u32 b c) (qeb .u32 b d)) (qeb .u32 c d), 2400959708)
  else (qYa .u32 (qYa .u32 b c) d, 3395469782)
theorem qqB (t : Nat) (b c d : Int) : qsg (t : Int) b c d = some (ff t b c d) := by
  rw [qom]
  unfold ff
  by_cases h1 : t < 20
  · rw [if_pos (by simp; omega), if_pos h1]
  · rw [if_neg (by simp; omega), if_neg h1]
    by_cases h2 : t < 40
    · rw [if_pos (by simp; omega), if_pos h2]
    · rw [if_neg (by simp; omega), if_neg h2]
      by_cases h3 : t < 60
      · rw [if_pos (by simp; omega), if_pos h3]
      · rw [if_neg (by simp; omega), if_neg h3]
theorem qED (t : Nat) (b c d : Int) (ht : t < 80) : qZt (IntKind.wrap .i64 (Int.tdiv (t : Int) 20)) b c d = some (ff t b c d).1 ∧ G_quarters.getD (IntKind.wrap .i64 (Int.tdiv (t : Int) 20)).toNat 0 = (ff t b c d).2 ∧ 0 ≤ IntKind.wrap .i64 (Int.tdiv (t : Int) 20) ∧ IntKind.wrap .i64 (Int.tdiv (t : Int) 20) < 4 := by
  have e : IntKind.wrap .i64 (Int.tdiv (t : Int) 20) = ((t / 20 : Nat) : Int) := by
    rw [qHw (by omega), w64 (by omega) (by omega)]; omega
  rw [e, qsz]
  unfold ff
  by_cases h1 : t < 20
  · have : t / 20 = 0 := by omega
    rw [this, if_pos (by simp), if_pos h1, qXG]
    exact ⟨rfl, rfl, by omega, by omega⟩
  · rw [if_neg h1]
    by_cases h2 : t < 40
    · have : t / 20 = 1 := by omega
      rw [this, if_neg (by simp), if_neg (by simp), if_pos h2]
      exact ⟨rfl, rfl, by omega, by omega⟩
    · rw [if_neg h2]
      by_cases h3 : t < 60
      · have : t / 20 = 2 := by omega
        rw [this, if_neg (by simp), if_pos (by simp), if_pos h3, qVF]
        exact ⟨rfl, rfl, by omega, by omega⟩
      · have : t / 20 = 3 := by omega
        rw [this, if_neg (by simp), if_neg (by simp), if_neg h3]
        exact ⟨rfl, rfl, by omega, by omega⟩
structure S5 where
  a : Int
  b : Int
  c : Int
  d : Int
  e : Int
def S5.l (s : S5) : List Int := [s.a, s.b, s.c, s.d, s.e]
def rd (t : Nat) (w : Int) (s : S5) : S5 :=
  ⟨IntKind.wrap .u32 (IntKind.wrap .u32 (IntKind.wrap .u32 (IntKind.wrap .u32 (rot s.a 5 + (ff t s.b s.c s.d).1) + s.e) + (ff t s.b s.c s.d).2) + w), s.a, rot s.b 30, s.c, s.d⟩
def qCG (W : List Int) : Nat → Nat → S5 → S5
  | 0, _, s => s
  | k + 1, t, s => qCG W k (t + 1) (rd t (W.getD t 0) s)
theorem qhC (x y W : List Int) (hW : W.length = 80) : ∀ (k t : Nat) (s : S5), t + k = 80 → qDb (t : Int) x y W s.l = qCb 0 x y (qCG W k t s).l
  | 0, t, s, e => by
    rw [qVf, if_neg (by simp; omega)]; rfl
  | k + 1, t, s, e => by
    have hl' : Int.ofNat W.length = 80 := by rw [hW]; rfl
    have g0 : s.l.getD 0 0 = s.a := rfl
    have g1 : s.l.getD 1 0 = s.b := rfl
    have g2 : s.l.getD 2 0 = s.c := rfl
    have g3 : s.l.getD 3 0 = s.d := rfl
    have g4 : s.l.getD 4 0 = s.e := rfl
    rw [qVf, if_pos (by simp; omega), hl']
    simp only [g0, g1, g2, g3, g4, qqB, qar _ 5 (by omega), qar _ 30 (by omega), Option.bind_some, w64 (x := (t : Int) + 1) (by omega) (by omega), show 0 + ((t : Int)).toNat = t by omega]
    repeat rw [qea (by omega)]
    have ih := qhC x y W hW k (t + 1) (rd t (W.getD t 0) s) (by omega)
    rw [show ((t + 1 : Nat) : Int) = (t : Int) + 1 by omega] at ih
    exact ih
def qnH (x : List Int) (s : S5) : List Int := [IntKind.wrap .u32 (x.getD 0 0 + s.a), IntKind.wrap .u32 (x.getD 1 0 + s.b), IntKind.wrap .u32 (x.getD 2 0 + s.c), IntKind.wrap .u32 (x.getD 3 0 + s.d), IntKind.wrap .u32 (x.getD 4 0 + s.e)]
theorem qhF (y : List Int) (x s : S5) : qCb 0 x.l y s.l = some (qnH x.l s) := by
  have g : ∀ s : S5, s.l.getD 0 0 = s.a ∧ s.l.getD 1 0 = s.b ∧ s.l.getD 2 0 = s.c ∧ s.l.getD 3 0 = s.d ∧ s.l.getD 4 0 = s.e := fun s => ⟨rfl, rfl, rfl, rfl, rfl⟩
  have n1 : IntKind.wrap .i64 (0 + 1) = 1 := by kernel_rfl
  have n2 : IntKind.wrap .i64 (1 + 1) = 2 := by kernel_rfl
  have n3 : IntKind.wrap .i64 (2 + 1) = 3 := by kernel_rfl
  have n4 : IntKind.wrap .i64 (3 + 1) = 4 := by kernel_rfl
  have n5 : IntKind.wrap .i64 (4 + 1) = 5 := by kernel_rfl
  rw [qNa, if_pos (by simp), n1]
  repeat rw [qea (by omega)]
  rw [qNa, if_pos (by simp), n2]
  repeat rw [qea (by omega)]
  rw [qNa, if_pos (by simp), n3]
  repeat rw [qea (by omega)]
  rw [qNa, if_pos (by simp), n4]
  repeat rw [qea (by omega)]
  rw [qNa, if_pos (by simp), n5]
  repeat rw [qea (by omega)]
  rw [qNa, if_neg (by simp)]
  rfl
def blk (x : S5) (b : List Int) : S5 :=
  let s := qCG (sch 64 (qYj b 0 16)) 80 0 x
  ⟨IntKind.wrap .u32 (x.a + s.a), IntKind.wrap .u32 (x.b + s.b), IntKind.wrap .u32 (x.c + s.c), IntKind.wrap .u32 (x.d + s.d), IntKind.wrap .u32 (x.e + s.e)⟩
theorem qWC (x : S5) (b : List Int) (hb : b.length = 64) : qtg x.l b = some (blk x b).l := by
  have h1 := qjC b hb x.l (List.replicate 5 0) 16 0 [] rfl rfl
  have h2 := qiC x.l (List.replicate 5 0) 64 16 (qYj b 0 16) rfl (by omega) (qQe b 16 0)
  have h3 := qhC x.l (List.replicate 5 0) (sch 64 (qYj b 0 16)) (by rw [qNA, qQe]) 80 0 x rfl
  rw [qqm]
  refine h1.trans ?_
  rw [List.nil_append]
  refine Eq.trans h2 (Eq.trans h3 ?_)
  rw [qhF]; rfl
def qbH (W : List Int) (t : Nat) (r : List Int) : Prop := r.length = 16 ∧ ∀ i, i < max t 16 → max t 16 ≤ i + 16 → r.getD (i % 16) 0 = W.getD i 0
theorem qJy {r : List Int} {i j : Nat} {v : Int} (hi : i < r.length) : (r.set i v).getD j 0 = if i = j then v else r.getD j 0 := by
  simp only [List.getD_eq_getElem?_getD, List.getElem?_set]
  by_cases h : i = j
  · subst h; simp [hi]
  · simp [h]
theorem qjF (x y W : List Int) (hW : ∀ t, 16 ≤ t → t < 80 → W.getD t 0 = qDD (W.getD (t - 3) 0) (W.getD (t - 8) 0) (W.getD (t - 14) 0) (W.getD (t - 16) 0)) :
    ∀ (k t : Nat) (s : S5) (r : List Int), t + k = 80 → qbH W t r → qwk s.a s.b s.c s.d s.e (t : Int) x y r = some (qnH x (qCG W k t s))
  | 0, t, s, r, e, hr => by
    rw [qQp, if_neg (by simp; omega)]
    repeat rw [qea (by omega)]
    rfl
  | k + 1, t, s, r, e, hr => by
    obtain ⟨m1, m2, m3, m4⟩ := qED t s.b s.c s.d (by omega)
    obtain ⟨r1, r5, r30⟩ := qsr s.a
    obtain ⟨_, _, q30⟩ := qsr s.b
    have et : (Int.tmod (t : Int) 16) = ((t % 16 : Nat) : Int) := by rw [quj (by omega)]; omega
    have ett : (((t % 16 : Nat) : Int)).toNat = t % 16 := by omega
    rw [qQp, if_pos (by simp; omega)]
    by_cases h16 : 16 ≤ t
    · have e13 : (Int.tmod (IntKind.wrap .i64 ((t : Int) + 13)) 16) = (((t - 3) % 16 : Nat) : Int) := by rw [w64 (by omega) (by omega), quj (by omega)]; omega
      have e8 : (Int.tmod (IntKind.wrap .i64 ((t : Int) + 8)) 16) = (((t - 8) % 16 : Nat) : Int) := by rw [w64 (by omega) (by omega), quj (by omega)]; omega
      have e2 : (Int.tmod (IntKind.wrap .i64 ((t : Int) + 2)) 16) = (((t - 14) % 16 : Nat) : Int) := by rw [w64 (by omega) (by omega), quj (by omega)]; omega
      have e0 : t % 16 = (t - 16) % 16 := by omega
      have v13 := hr.2 (t - 3) (by omega) (by omega)
      have v8 := hr.2 (t - 8) (by omega) (by omega)
      have v2 := hr.2 (t - 14) (by omega) (by omega)
      have v0 := hr.2 (t - 16) (by omega) (by omega)
      rw [← e0] at v0
      have hn : rot (qYa .u32 (qYa .u32 (qYa .u32 (r.getD ((t - 3) % 16) 0) (r.getD ((t - 8) % 16) 0)) (r.getD ((t - 14) % 16) 0)) (r.getD (t % 16) 0)) 1 = W.getD t 0 := by
        rw [v13, v8, v2, v0, hW t h16 (by omega)]; rfl
      rw [if_pos (by simp; omega)]
      simp only [et, e13, e8, e2, (qsr _).1, r5, q30, m1, m2, Option.bind_some, w64 (x := (t : Int) + 1) (by omega) (by omega), Int.toNat_natCast, hn]
      repeat rw [qea (by omega)]
      have hr' : qbH W (t + 1) (r.set (t % 16) (W.getD t 0)) := by
        refine ⟨by simp [hr.1], fun i h1 h2 => ?_⟩
        rw [qJy (by rw [hr.1]; omega)]
        by_cases hi : i = t
        · subst hi; rw [if_pos rfl]
        · rw [if_neg (by omega)]
          exact hr.2 i (by omega) (by omega)
      have hg : (r.set (t % 16) (W.getD t 0)).getD (t % 16) 0 = W.getD t 0 := by
        rw [qJy (by rw [hr.1]; omega), if_pos rfl]
      have ih := qjF x y W hW k (t + 1) (rd t (W.getD t 0) s) _ (by omega) hr'
      rw [show ((t + 1 : Nat) : Int) = (t : Int) + 1 by omega] at ih
      rw [hg]
      exact ih
    · have v0 := hr.2 t (by omega) (by omega)
      rw [if_neg (by simp; omega)]
      simp only [et, r5, q30, m1, m2, Option.bind_some, w64 (x := (t : Int) + 1) (by omega) (by omega), Int.toNat_natCast, v0]
      repeat rw [qea (by omega)]
      have hr' : qbH W (t + 1) r := ⟨hr.1, fun i h1 h2 => hr.2 i (by omega) (by omega)⟩
      have ih := qjF x y W hW k (t + 1) (rd t (W.getD t 0) s) _ (by omega) hr'
      rw [show ((t + 1 : Nat) : Int) = (t : Int) + 1 by omega] at ih
      exact ih
theorem qiF (x : S5) (b : List Int) (hb : 64 ≤ b.length) (hB : Bts b) : qLA x.l b = some (blk x (b.take 64)).l := by
  have hl : (b.take 64).length = 64 := by simp; omega
  have hl' : Int.ofNat (b.take 64).length = 64 := by rw [hl]; rfl
  rw [qKA, qea (by omega), qea (by simp; omega), hl']
  have h1 := qhG (b.take 64) hl (hB.take 64) x.l (List.replicate 5 0) 16 0 [] rfl rfl
  refine Eq.trans h1 ?_
  rw [List.nil_append, qRp, if_neg (by simp)]
  repeat rw [qea (by omega)]
  have hW : ∀ t, 16 ≤ t → t < 80 → _ := fun t h1 h2 => qdE 64 (qYj (b.take 64) 0 16) t (by rw [qQe]; omega) (by rw [qQe]; exact h1) (by rw [qQe]; omega)
  have h2 := qjF x.l (List.replicate 5 0) (sch 64 (qYj (b.take 64) 0 16)) hW 80 0 x (qYj (b.take 64) 0 16) rfl ⟨qQe _ _ _, fun i h1 h2 => by
    have hi : i < 16 := by omega
    rw [qTm 64 _ i (by rw [qQe]; exact hi), Nat.mod_eq_of_lt hi]⟩
  refine Eq.trans h2 ?_
  rfl
def qFh (l : List Int) (i : Nat) : Int := IntKind.wrap .u8 (qQi .u32 (l.getD (i / 4) 0) (24 - 8 * ((i % 4 : Nat) : Int)))
def qxD (l : List Int) (t : Nat) : Nat → List Int
  | 0 => []
  | k + 1 => qFh l t :: qxD l (t + 1) k
theorem quy (l : List Int) : ∀ (k t : Nat), (qxD l t k).length = k
  | 0, t => rfl
  | k + 1, t => by simp [qxD, quy l k]
theorem qvy (l : List Int) : ∀ (k t : Nat), Bts (qxD l t k)
  | 0, t => Bts.nil
  | k + 1, t => Bts.cons (qtF _) (qvy l k _)
theorem qSF (x l : List Int) : ∀ (k t : Nat) (P : List Int), t + k = 20 → P.length = t → qtd (t : Int) x l (P ++ List.replicate k 0) = some (P ++ qxD l t k)
  | 0, t, P, e, hl => by
    rw [qWg, if_neg (by simp; omega)]; rfl
  | k + 1, t, P, e, hl => by
    have e1 : IntKind.wrap .i64 (Int.tdiv (t : Int) 4) = ((t / 4 : Nat) : Int) := by
      rw [qHw (by omega), w64 (by omega) (by omega)]; omega
    have e2 : IntKind.wrap .i64 (8 * (Int.tmod (t : Int) 4)) = 8 * ((t % 4 : Nat) : Int) := by
      rw [quj (by omega), w64 (by omega) (by omega)]; omega
    have e3 : IntKind.wrap .i64 (24 - 8 * ((t % 4 : Nat) : Int)) = 24 - 8 * ((t % 4 : Nat) : Int) := w64 (by omega) (by omega)
    rw [qWg, if_pos (by simp; omega), e1, e2, e3, w64 (x := (t : Int) + 1) (by omega) (by omega)]
    repeat rw [qea (by omega)]
    rw [show ((t : Int)).toNat = P.length by omega, show (((t / 4 : Nat) : Int)).toNat = t / 4 by omega, List.replicate_succ, qSm]
    have ih := qSF x l k (t + 1) (P ++ [qFh l t]) (by omega) (by simp; omega)
    rw [show ((t + 1 : Nat) : Int) = (t : Int) + 1 by omega] at ih
    simp only [List.append_assoc, List.singleton_append] at ih
    exact ih
theorem qaE (l : List Int) : ∀ (k t : Nat) (P : List Int), t + k = 5 → P.length = 4 * t → qBl l (t : Int) (P ++ List.replicate (4 * k) 0) = some (P ++ qxD l (4 * t) (4 * k), 0)
  | 0, t, P, e, hl => by
    rw [qPn, if_neg (by simp; omega)]; rfl
  | k + 1, t, P, e, hl => by
    rw [qPn, if_pos (by simp; omega)]
    simp only [w64 (x := 4 * (t : Int)) (by omega) (by omega), w64 (x := 4 * (t : Int) + 1) (by omega) (by omega), w64 (x := 4 * (t : Int) + 2) (by omega) (by omega), w64 (x := 4 * (t : Int) + 3) (by omega) (by omega), w64 (x := (t : Int) + 1) (by omega) (by omega)]
    repeat rw [qea (by omega)]
    rw [show ((t : Int)).toNat = t by omega, show (4 * (t : Int)).toNat = P.length by omega]
    have s0 : IntKind.wrap .u8 (Int.fdiv (l.getD t 0) 16777216) = qFh l (4 * t) := by
      unfold qFh qQi
      rw [show 4 * t / 4 = t by omega, show 4 * t % 4 = 0 by omega]; rfl
    have s1 : IntKind.wrap .u8 (Int.fdiv (l.getD t 0) 65536) = qFh l (4 * t + 1) := by
      unfold qFh qQi
      rw [show (4 * t + 1) / 4 = t by omega, show (4 * t + 1) % 4 = 1 by omega]; rfl
    have s2 : IntKind.wrap .u8 (Int.fdiv (l.getD t 0) 256) = qFh l (4 * t + 2) := by
      unfold qFh qQi
      rw [show (4 * t + 2) / 4 = t by omega, show (4 * t + 2) % 4 = 2 by omega]; rfl
    have s3 : IntKind.wrap .u8 (l.getD t 0) = qFh l (4 * t + 3) := by
      unfold qFh qQi
      rw [show (4 * t + 3) / 4 = t by omega, show (4 * t + 3) % 4 = 3 by omega]
      have : (2 : Int) ^ (min ((24 : Int) - 8 * ((3 : Nat) : Int)).toNat (IntKind.bits .u32)) = 1 := rfl
      rw [this, Int.fdiv_one]
    rw [s0, s1, s2, s3, show 4 * (k + 1) = 4 * k + 1 + 1 + 1 + 1 by omega, List.replicate_succ, List.replicate_succ, List.replicate_succ, List.replicate_succ, qSm]
    have a1 := qSm (P ++ [qFh l (4 * t)]) 0 (qFh l (4 * t + 1)) (0 :: 0 :: List.replicate (4 * k) 0)
    have a2 := qSm (P ++ [qFh l (4 * t), qFh l (4 * t + 1)]) 0 (qFh l (4 * t + 2)) (0 :: List.replicate (4 * k) 0)
    have a3 := qSm (P ++ [qFh l (4 * t), qFh l (4 * t + 1), qFh l (4 * t + 2)]) 0 (qFh l (4 * t + 3)) (List.replicate (4 * k) 0)
    simp only [List.append_assoc, List.cons_append, List.nil_append, List.length_append, List.length_cons, List.length_nil] at a1 a2 a3
    rw [show (4 * (t : Int) + 1).toNat = P.length + (0 + 1) by omega, a1, show (4 * (t : Int) + 2).toNat = P.length + (0 + 1 + 1) by omega, a2, show (4 * (t : Int) + 3).toNat = P.length + (0 + 1 + 1 + 1) by omega, a3]
    have ih := qaE l k (t + 1) (P ++ [qFh l (4 * t), qFh l (4 * t + 1), qFh l (4 * t + 2), qFh l (4 * t + 3)]) (by omega) (by simp; omega)
    rw [show ((t + 1 : Nat) : Int) = (t : Int) + 1 by omega] at ih
    simp only [List.append_assoc, List.cons_append, List.nil_append] at ih
    exact ih
def qoG : Nat → S5 → List Int → S5
  | 0, x, _ => x
  | k + 1, x, m => qoG k (blk x (m.take 64)) (m.drop 64)
theorem qbE : ∀ (k : Nat) (x : S5) (m : List Int), m.length = 64 * k → Bts m → qCl m (List.replicate 20 0) x.l = some (qxD (qoG k x m).l 0 20, 0)
  | 0, x, m, hl, hB => by
    obtain rfl : m = [] := List.eq_nil_of_length_eq_zero (by omega)
    rw [qQn, if_neg (by simp)]
    exact qaE x.l 5 0 [] rfl rfl
  | k + 1, x, m, hl, hB => by
    rw [qQn, if_pos (by rw [decide_eq_true_eq]; have : Int.ofNat m.length = (m.length : Int) := rfl; omega), qiF x m (by omega) hB]
    simp only [Option.bind_some]
    rw [qea (by omega), qea (by simp; omega)]
    exact qbE k _ (m.drop 64) (by simp; omega) (hB.drop 64)
theorem qTF (x0 m : List Int) (K : Nat) (hm : m.length = 64 * K) (hK : K ≤ 100000) : ∀ (k t : Nat) (x : S5), t + k = K → qud (64 * (t : Int)) x0 m x.l = some (qxD (qoG k x (m.drop (64 * t))).l 0 20)
  | 0, t, x, e => by
    have hl : Int.ofNat m.length = (64 * K : Nat) := by rw [hm]; rfl
    rw [qXg, hl, if_neg (by simp; omega)]
    exact qSF x0 x.l 20 0 [] rfl rfl
  | k + 1, t, x, e => by
    have hl : Int.ofNat m.length = (64 * K : Nat) := by rw [hm]; rfl
    rw [qXg, hl, if_pos (by simp; omega), w64 (by omega) (by omega)]
    repeat rw [qea (by omega)]
    rw [show (64 * (t : Int) + 64).toNat - (64 * (t : Int)).toNat = 64 by omega, show 0 + (64 * (t : Int)).toNat = 64 * t by omega, qWC x _ (by simp; omega)]
    simp only [Option.bind_some]
    have ih := qTF x0 m K hm hK k (t + 1) (blk x ((m.drop (64 * t)).take 64)) (by omega)
    rw [show 64 * ((t + 1 : Nat) : Int) = 64 * (t : Int) + 64 by omega] at ih
    rw [ih]
    simp only [qoG, List.drop_drop]
    rw [show 64 * (t + 1) = 64 * t + 64 by omega]
def iv : S5 := ⟨1732584193, 4023233417, 2562383102, 271733878, 3285377520⟩
def qGg (a : List Int) : List Int := qxD (qoG ((a ++ qty a.length).length / 64) iv (a ++ qty a.length)).l 0 20
theorem qqf (a : List Int) : (qGg a).length = 20 := quy _ _ _
theorem qMq (a : List Int) : Bts (qGg a) := qvy _ _ _
theorem qJs (a : List Int) (h : a.length ≤ 1000000) : qub a = some (qGg a) := by
  have hp := qsy (a.length : Int) (by omega)
  have ha : Int.ofNat a.length = (a.length : Int) := rfl
  rw [qPo, qea (by simp; omega), ha, qvv _ ⟨by omega, by omega⟩]
  simp only [Option.bind_some, qsl, List.nil_append]
  rw [qea (by simp; omega)]
  have hm : (a ++ qty a.length).length = 64 * ((a ++ qty a.length).length / 64) := by
    simp only [List.length_append]; omega
  exact qTF (List.replicate 20 0) (a ++ qty a.length) _ hm (by simp only [List.length_append]; omega) _ 0 iv (by omega)
theorem qRo (a : List Int) (hB : Bts a) : qYo a = some (if a.length ≤ 20000 then (qGg a, 0) else (List.replicate 20 0, 4)) := by
  have ha : Int.ofNat a.length = (a.length : Int) := rfl
  rw [qtz, ha]
  by_cases h : a.length ≤ 20000
  · have hp := qsy (a.length : Int) (by omega)
    rw [if_neg (by simp; omega), if_pos h, qcv _ (by omega)]
    simp only [Option.bind_some]
    rw [qdA _ _ (by omega)]
    simp only [Option.bind_some]
    have hm : (a ++ qty a.length).length = 64 * ((a ++ qty a.length).length / 64) := by
      simp only [List.length_append]; omega
    exact qbE _ iv (a ++ qty a.length) hm (hB.append (qvD _))
  · rw [if_pos (by simp; omega), if_neg h]
def Tot {α : Type} (x : Option α) (P : α → Prop) : Prop := ∃ r, x = some r ∧ P r
theorem Tot.so {α : Type} {r : α} {P : α → Prop} (h : P r) : Tot (some r) P := ⟨r, rfl, h⟩
theorem Tot.of_eq {α : Type} {x : Option α} {r : α} {P : α → Prop} (e : x = some r) (h : P r) : Tot x P := ⟨r, e, h⟩
theorem Tot.mono {α : Type} {x : Option α} {P Q : α → Prop} (h : Tot x P) (k : ∀ r, P r → Q r) : Tot x Q := by
  obtain ⟨r, e, p⟩ := h; exact ⟨r, e, k r p⟩
theorem Tot.b {α β : Type} {x : Option α} {f : α → Option β} {P : α → Prop} {Q : β → Prop} (h : Tot x P) (k : ∀ r, P r → Tot (f r) Q) : Tot (x.bind f) Q := by
  obtain ⟨r, e, p⟩ := h; obtain ⟨s, e', q⟩ := k r p; exact ⟨s, by rw [e, Option.bind_some, e'], q⟩
theorem Tot.be {α β : Type} {x : Option α} {f : α → Option β} {v : α} {Q : β → Prop} (h : x = some v) (k : Tot (f v) Q) : Tot (x.bind f) Q := by
  subst h; exact k
theorem Tot.g {α : Type} {p : Prop} {x : Option α} {Q : α → Prop} (h : p) (k : Tot x Q) : Tot (gd p x) Q := by rw [qea h]; exact k
theorem Tot.it {α : Type} {c : Prop} {i : Decidable c} {x y : Option α} {Q : α → Prop} (h1 : c → Tot x Q) (h2 : ¬c → Tot y Q) : Tot (@ite _ c i x y) Q := by
  by_cases h : c
  · rw [if_pos h]; exact h1 h
  · rw [if_neg h]; exact h2 h
theorem Tot.ifd {α : Type} {p : Prop} {d : Decidable p} {i : Decidable (@decide p d = true)} {x y : Option α} {Q : α → Prop} (h1 : p → Tot x Q) (h2 : ¬p → Tot y Q) : Tot (@ite _ (@decide p d = true) i x y) Q :=
  Tot.it (fun h => h1 (of_decide_eq_true h)) (fun h => h2 (fun hp => h (decide_eq_true hp)))
theorem Tot.ifd_pos {α : Type} {p : Prop} {d : Decidable p} {i : Decidable (@decide p d = true)} {x y : Option α} {Q : α → Prop} (h : p) (h1 : Tot x Q) : Tot (@ite _ (@decide p d = true) i x y) Q :=
  Tot.ifd (fun _ => h1) (fun k => absurd h k)
theorem Tot.ifd_neg {α : Type} {p : Prop} {d : Decidable p} {i : Decidable (@decide p d = true)} {x y : Option α} {Q : α → Prop} (h : ¬p) (h1 : Tot y Q) : Tot (@ite _ (@decide p d = true) i x y) Q :=
  Tot.ifd (fun k => absurd k h) (fun _ => h1)
theorem Tot.ifne {α : Type} {a b : Int} {i : Decidable ((a != b) = true)} {x y : Option α} {Q : α → Prop} (h1 : a ≠ b → Tot x Q) (h2 : a = b → Tot y Q) : Tot (@ite _ ((a != b) = true) i x y) Q :=
  Tot.it (fun h => h1 (by simpa using h)) (fun h => h2 (by simpa using h))
theorem Tot.ifne_pos {α : Type} {a b : Int} {i : Decidable ((a != b) = true)} {x y : Option α} {Q : α → Prop} (h : a ≠ b) (h1 : Tot x Q) : Tot (@ite _ ((a != b) = true) i x y) Q :=
  Tot.ifne (fun _ => h1) (fun k => absurd k h)
theorem Tot.ifne_neg {α : Type} {a b : Int} {i : Decidable ((a != b) = true)} {x y : Option α} {Q : α → Prop} (h : a = b) (h1 : Tot y Q) : Tot (@ite _ ((a != b) = true) i x y) Q :=
  Tot.ifne (fun k => absurd h k) (fun _ => h1)
theorem Tot.ifeq {α : Type} {a b : Int} {i : Decidable ((a == b) = true)} {x y : Option α} {Q : α → Prop} (h1 : a = b → Tot x Q) (h2 : a ≠ b → Tot y Q) : Tot (@ite _ ((a == b) = true) i x y) Q :=
  Tot.it (fun h => h1 (by simpa using h)) (fun h => h2 (by simpa using h))
theorem Tot.ifeq_pos {α : Type} {a b : Int} {i : Decidable ((a == b) = true)} {x y : Option α} {Q : α → Prop} (h : a = b) (h1 : Tot x Q) : Tot (@ite _ ((a == b) = true) i x y) Q :=
  Tot.ifeq (fun _ => h1) (fun k => absurd h k)
theorem Tot.ifeq_neg {α : Type} {a b : Int} {i : Decidable ((a == b) = true)} {x y : Option α} {Q : α → Prop} (h : a ≠ b) (h1 : Tot y Q) : Tot (@ite _ ((a == b) = true) i x y) Q :=
  Tot.ifeq (fun k => absurd k h) (fun _ => h1)
theorem Tot.iff_ {α : Type} {i : Decidable (false = true)} {x y : Option α} {Q : α → Prop} (h : Tot y Q) : Tot (@ite _ (false = true) i x y) Q := Tot.it (fun k => absurd k Bool.false_ne_true) (fun _ => h)
theorem Tot.ift_ {α : Type} {i : Decidable (true = true)} {x y : Option α} {Q : α → Prop} (h : Tot x Q) : Tot (@ite _ (true = true) i x y) Q := Tot.it (fun _ => h) (fun k => absurd rfl k)
theorem Tot.ifn {α : Type} {b : Bool} {i : Decidable ((not b) = true)} {x y : Option α} {Q : α → Prop} (h1 : b = false → Tot x Q) (h2 : b = true → Tot y Q) : Tot (@ite _ ((not b) = true) i x y) Q :=
  Tot.it (fun h => h1 (by simpa using h)) (fun h => h2 (by simpa using h))
theorem Tot.eq {α : Type} {x : Option α} {v : α} (h : Tot x fun r => r = v) : x = some v := by obtain ⟨r, e, p⟩ := h; rw [e, p]
theorem qsH {l : Int} (h0 : 0 ≤ l) (h1 : l ≤ 7) : l = 0 ∨ l = 1 ∨ l = 2 ∨ l = 3 ∨ l = 4 ∨ l = 5 ∨ l = 6 ∨ l = 7 := by omega
def plT (l : Int) : Int := 2 ^ (4 + l.toNat)
theorem qNF {l : Int} (h0 : 0 ≤ l) (h1 : l ≤ 7) : 16 ≤ plT l ∧ plT l ≤ 2048 := by
  rcases qsH h0 h1 with rfl | rfl | rfl | rfl | rfl | rfl | rfl | rfl <;> decide
theorem qAC {α : Type} (l : List α) (s : Nat) (hs : s ≤ 64) (hl : l.length ≤ 1048576) :
    (qIC (fun (r1 : Bool) => r1 = true → l = []) fun (r1 : Bool) =>
      if r1 = true then some ([]) else gd ((List.length ([] ++ l)) * s ≤ 140737488355328) <| some ([] ++ l)) = some l := by
  refine qKp false (by simp) (fun r hr => ?_)
  by_cases h : r = true
  · rw [if_pos h, hr h]
  · rw [if_neg h, qea (by
      rw [List.nil_append]
      exact Nat.le_trans (Nat.mul_le_mul hl hs) (by decide)), List.nil_append]
theorem qGo (l : List Int) (h : l.length ≤ 1048576) : qKe l = some l := by rw [qIi]; exact qAC l 1 (by decide) h
theorem quh {α : Type} {P : α → Prop} {l : List α} {d : α} (h : ∀ x ∈ l, P x) (i : Nat) (hi : i < l.length) : P (l.getD i d) := by
  rw [List.getD_eq_getElem?_getD, List.getElem?_eq_getElem hi]; exact h _ (List.getElem_mem hi)
theorem qRv {α : Type} {P : α → Prop} {l : List α} {d : α} (h : ∀ x ∈ l, P x) (hd : P d) (i : Nat) : P (l.getD i d) := by
  by_cases hi : i < l.length
  · exact quh h i hi
  · rw [List.getD_eq_getElem?_getD, List.getElem?_eq_none (by omega)]; exact hd
def WfSl (l : Int) (s : List Int) : Prop := ∀ x ∈ s, 0 ≤ x ∧ x < plT l
theorem WfSl.at {l : Int} {s : List Int} (h : WfSl l s) (h2 : 0 ≤ l ∧ l ≤ 7) (i : Nat) : 0 ≤ s.getD i 0 ∧ s.getD i 0 < plT l :=
  qRv (P := fun x => 0 ≤ x ∧ x < plT l) h ⟨by omega, by have := qNF h2.1 h2.2; omega⟩ i
theorem qDk {α : Type} {eq : α → α → Bool} (h : ∀ x, eq x x = true) : ∀ l : List α, qUu eq l l = true
  | [] => rfl
  | x :: l => by rw [qUu, h, qDk h l]; rfl
def hOK (h : qda) : Prop := 0 ≤ h.2.1 ∧ h.2.1 < 16 ∧ 1 ≤ h.2.2.2.1 ∧ h.2.2.2.1 ≤ 4096 ∧ 0 ≤ h.2.2.1 ∧ h.2.2.1 + h.2.2.2.1 ≤ 8192 ∧ ((h.1 = 1 ∧ h.2.2.2.2.1 = h.2.2.2.1) ∨ (h.1 = 2 ∧ 0 < h.2.2.2.2.1 ∧ h.2.2.2.2.1 < h.2.2.2.1))
instance (h : qda) : Decidable (hOK h) := by unfold hOK; infer_instance
def hC (h : qda) : Int := if hOK h then 0 else 8
theorem qRc (h : qda) : qVe h = some (hC h) := by
  rw [qis]
  obtain ⟨m, mem, off, raw, len, sum, u⟩ := h
  simp only [hC, decide_eq_true_eq, beq_iff_eq]
  by_cases hr : 1 ≤ raw ∧ raw ≤ 4096
  · rw [w64 (by omega) (by omega)]
    by_cases ok : hOK (m, mem, off, raw, len, sum, u)
    · rw [if_pos ok]; simp only [hOK] at ok
      rw [if_neg (by omega), if_neg (by omega), if_neg (by omega), if_neg (by omega), if_neg (by omega), if_neg (by omega)]
      rcases ok.2.2.2.2.2.2 with ⟨h1, h2⟩ | ⟨h1, h2, h3⟩
      · rw [if_pos h1, if_pos h2, if_pos h2]
      · rw [if_neg (by omega), if_pos h1, if_pos h2, if_pos h3]
    · rw [if_neg ok]; simp only [hOK] at ok
      by_cases h1 : mem < 0
      · rw [if_pos h1]
      by_cases h2 : mem ≥ 16
      · rw [if_neg h1, if_pos h2, if_pos h2]
      by_cases h3 : off < 0
      · rw [if_neg h1, if_neg h2, if_neg (by omega), if_neg (by omega), if_pos h3]
      by_cases h4 : off > 8192 - raw
      · rw [if_neg h1, if_neg h2, if_neg (by omega), if_neg (by omega), if_neg h3, if_pos h4]
      rw [if_neg h1, if_neg h2, if_neg (by omega), if_neg (by omega), if_neg h3, if_neg h4]
      by_cases h5 : m = 1
      · rw [if_pos h5, if_neg (by omega), if_neg (by omega)]
      by_cases h6 : m = 2
      · rw [if_neg h5, if_pos h6]
        by_cases h7 : len > 0
        · rw [if_pos h7, if_neg (by omega)]
        · rw [if_neg h7]
      · rw [if_neg h5, if_neg h6]
  · rw [if_neg (show ¬ hOK (m, mem, off, raw, len, sum, u) from fun ok => hr (by simp only [hOK] at ok; omega))]
    by_cases h1 : mem < 0
    · rw [if_pos h1]
    by_cases h2 : mem ≥ 16
    · rw [if_neg h1, if_pos h2, if_pos h2]
    by_cases h3 : raw < 1
    · rw [if_neg h1, if_neg h2, if_pos h3]
    · rw [if_neg h1, if_neg h2, if_neg h3, if_pos (by omega), if_pos (by omega)]
theorem qbk (h : qda) : qrd h = some (hC h) := by
  rw [qpl]
  obtain ⟨m, mem, off, raw, len, sum, u⟩ := h
  simp only [hC, decide_eq_true_eq, beq_iff_eq, Bool.not_eq_true', decide_eq_false_iff_not, beq_eq_false_iff_ne]
  by_cases hr : 1 ≤ raw ∧ raw ≤ 4096
  · rw [w64 (by omega) (by omega)]
    by_cases ok : hOK (m, mem, off, raw, len, sum, u)
    · rw [if_pos ok]; simp only [hOK] at ok
      rw [if_neg (by omega), if_neg (by omega), if_neg (by omega), if_neg (by omega), if_neg (by omega), if_neg (by omega)]
      rcases ok.2.2.2.2.2.2 with ⟨h1, h2⟩ | ⟨h1, h2, h3⟩
      · rw [if_pos h1, if_neg (by omega), if_neg (by omega)]
      · rw [if_neg (by omega), if_pos h1, if_pos (by omega), if_neg (by omega)]
    · rw [if_neg ok]; simp only [hOK] at ok
      by_cases h1 : mem < 0
      · rw [if_pos h1]
      by_cases h2 : mem ≥ 16
      · rw [if_neg h1, if_pos h2]
      by_cases h3 : off < 0
      · rw [if_neg h1, if_neg h2, if_neg (by omega), if_neg (by omega), if_pos h3]
      by_cases h4 : off > 8192 - raw
      · rw [if_neg h1, if_neg h2, if_neg (by omega), if_neg (by omega), if_neg h3, if_pos h4]
      rw [if_neg h1, if_neg h2, if_neg (by omega), if_neg (by omega), if_neg h3, if_neg h4]
      by_cases h5 : m = 1
      · rw [if_pos h5, if_neg (by omega), if_pos (by omega)]
      by_cases h6 : m = 2
      · rw [if_neg h5, if_pos h6]
        by_cases h7 : len ≥ 1
        · rw [if_pos h7, if_pos (by omega)]
        · rw [if_neg h7]
      · rw [if_neg h5, if_neg h6]
  · rw [if_neg (show ¬ hOK (m, mem, off, raw, len, sum, u) from fun ok => hr (by simp only [hOK] at ok; omega))]
    by_cases h1 : mem < 0
    · rw [if_pos h1]
    by_cases h2 : mem ≥ 16
    · rw [if_neg h1, if_pos h2]
    by_cases h3 : raw < 1
    · rw [if_neg h1, if_neg h2, if_pos h3]
    · rw [if_neg h1, if_neg h2, if_neg h3, if_pos (by omega)]
def bC (b : qoa) : Int := if hOK b.1 ∧ (b.2.1.length : Int) = b.1.2.2.2.2.1 then 0 else 8
theorem qQz (h : qda) : (hC h != 0) = true ↔ ¬ hOK h := by
  unfold hC; split <;> simp_all
theorem qGq (b : qoa) : qqn b = some (bC b) := by
  rw [qst, qRc]
  simp only [Option.bind_some, qQz]
  simp only [bC, bne_iff_ne, ne_eq, Int.ofNat_eq_natCast]
  by_cases h1 : hOK b.1 <;> by_cases h2 : (b.2.1.length : Int) = b.1.2.2.2.2.1 <;> simp [h1, h2]
def fr8 (h : qda) : List Int := [h.1 % 256, h.2.1 % 256, (h.2.2.1 / 256) % 256, h.2.2.1 % 256, (h.2.2.2.1 / 256) % 256, h.2.2.2.1 % 256, (h.2.2.2.2.1 / 256) % 256, h.2.2.2.2.1 % 256]
theorem qkH (a : Int) : qQi .i64 a 0 = a := by rw [qHA _ _ (by omega) (by omega)]; simp
theorem qpH (a : Int) : qQi .i64 a 8 = a / 256 := by rw [qHA _ _ (by omega) (by omega)]; rfl
theorem qrA (n : Int) (h : -9223372036854775808 ≤ n ∧ n ≤ 9223372036854775807) : IntKind.wrap .i64 n = n := w64 h.1 h.2
theorem qSv (v18 : List Int) (v19 : Int) (h8 : List Int) (v : Int) (h0 : 0 ≤ v19) (h4 : v19 < 5) (hw : G_widths.getD v19.toNat 0 = 1) (hv : v18.getD v19.toNat 0 = v) (hl : h8.length ≤ 100) :
    qPb v18 v19 h8 = qPb v18 (v19 + 1) (h8 ++ [v % 256]) := by
  rw [qzf, if_pos (by simpa using h4), qea h0, qea h4, qea h0, qea h4, hw, hv]
  rw [qnc, if_pos (by decide), qea h0, qea h4, hw]
  rw [qrA ((1:Int) - 1) (by omega), qrA ((1:Int) - 1 - 0) (by omega), qrA ((8:Int) * (1 - 1 - 0)) (by omega), qrA ((0:Int)+1) (by omega)]
  rw [qea (by omega), qea (by simp; omega)]
  rw [qnc, if_neg (by decide), w64 (x := v19 + 1) (by omega) (by omega), wu8]
  rw [show (8 * (1 - 1 - 0) : Int) = 0 by decide, qkH]
theorem qks (v18 : List Int) (v19 : Int) (h8 : List Int) (v : Int) (h0 : 0 ≤ v19) (h4 : v19 < 5) (hw : G_widths.getD v19.toNat 0 = 2) (hv : v18.getD v19.toNat 0 = v) (hl : h8.length ≤ 100) :
    qPb v18 v19 h8 = qPb v18 (v19 + 1) (h8 ++ [(v / 256) % 256, v % 256]) := by
  rw [qzf, if_pos (by simpa using h4), qea h0, qea h4, qea h0, qea h4, hw, hv]
  rw [qnc, if_pos (by decide), qea h0, qea h4, hw]
  rw [qrA ((2:Int) - 1) (by omega), qrA ((2:Int) - 1 - 0) (by omega), qrA ((8:Int) * (2 - 1 - 0)) (by omega), qrA ((0:Int)+1) (by omega)]
  rw [qea (by omega), qea (by simp; omega)]
  rw [qnc, if_pos (by decide), qea h0, qea h4, hw]
  rw [qrA ((2:Int) - 1) (by omega), qrA ((2:Int) - 1 - (0 + 1)) (by omega), qrA ((8:Int) * (2 - 1 - (0 + 1))) (by omega), qrA ((0:Int)+1+1) (by omega)]
  rw [qea (by omega), qea (by simp; omega)]
  rw [qnc, if_neg (by decide), w64 (x := v19 + 1) (by omega) (by omega), wu8, wu8]
  rw [show (8 * (2 - 1 - 0) : Int) = 8 by decide, show (8 * (2 - 1 - (0 + 1)) : Int) = 0 by decide, qkH, qpH]
  simp
theorem qaj (h : qda) (hm : 0 ≤ h.1 ∧ h.1 < 256) : qNk h = some (fr8 h) := by
  rw [qfs, w64 (by omega) (by omega)]
  simp only [List.replicate, List.set_cons_zero, List.set_cons_succ]
  rw [qSv _ 0 _ h.1 (by decide) (by decide) (by decide) rfl (by decide)]
  rw [qSv _ (0+1) _ h.2.1 (by decide) (by decide) (by decide) rfl (by simp)]
  rw [qks _ (0+1+1) _ h.2.2.1 (by decide) (by decide) (by decide) rfl (by simp)]
  rw [qks _ (0+1+1+1) _ h.2.2.2.1 (by decide) (by decide) (by decide) rfl (by simp)]
  rw [qks _ (0+1+1+1+1) _ h.2.2.2.2.1 (by decide) (by decide) (by decide) rfl (by simp)]
  rw [qzf, if_neg (by decide)]
  simp [fr8]
theorem qak (h : qda) (hm : 0 ≤ h.1 ∧ h.1 < 256) : qqd h = some (fr8 h) := by
  rw [qol]
  simp only [qAn, wu8, qwo _ (show (0:Int) < 256 by decide)]
  rw [qea (by decide)]
  simp only [Option.bind_some]
  rw [qea (by simp), qea (by decide)]
  simp only [Option.bind_some]
  rw [qea (by simp), qea (by decide)]
  simp only [Option.bind_some]
  rw [qea (by simp)]
  simp only [fr8, List.cons_append, List.nil_append]
  rw [Int.emod_eq_of_lt hm.1 hm.2]
def mark : List Int := [183, 98, 105, 116, 108, 111, 102, 116, 32, 98, 108, 107, 10]
theorem qVi : qki = some mark := by rw [qTr, qea (by decide)]; rfl
theorem qah : qsd = some mark := by rw [qrl]; rfl
def hB (h : qda) : List Int := fr8 h ++ h.2.2.2.2.2.1
theorem qjn (h : qda) : (fr8 h).length = 8 := rfl
def bB (b : qoa) : List Int := mark ++ hB b.1 ++ b.2.1
def bWf (b : qoa) : Prop := (0 ≤ b.1.1 ∧ b.1.1 < 256) ∧ b.1.2.2.2.2.2.1.length = 20
theorem qwy (a b : Nat) (ha : a < 4294967296) (hb : b < 256) : qFc .i64 ((a : Int) * 256) (b : Int) = (a : Int) * 256 + b := by
  unfold qFc
  have h1 : BitVec.ofInt 64 ((a : Int) * 256) = BitVec.ofNat 64 (a * 256) := by
    rw [show (a : Int) * 256 = ((a * 256 : Nat) : Int) by omega]; exact BitVec.ofInt_natCast _ _
  have h2 : BitVec.ofInt 64 (b : Int) = BitVec.ofNat 64 b := BitVec.ofInt_natCast _ _
  show IntKind.wrap .i64 ((BitVec.ofInt 64 ((a : Int) * 256) ||| BitVec.ofInt 64 (b : Int)).toNat : Int) = _
  rw [h1, h2, BitVec.toNat_or, BitVec.toNat_ofNat, BitVec.toNat_ofNat, Nat.mod_eq_of_lt (by omega), Nat.mod_eq_of_lt (by omega)]
  have h3 := Nat.two_pow_add_eq_or_of_lt (i := 8) (b := b) (by omega) a
  rw [show a * 256 = 2 ^ 8 * a by omega, ← h3, w64 (by omega) (by omega)]
  omega
theorem qAD {x y : Int} (hx : 0 ≤ x ∧ x < 4294967296) (hy : 0 ≤ y ∧ y < 256) : qFc .i64 (x * 256) y = x * 256 + y := by
  obtain ⟨a, rfl⟩ := Int.eq_ofNat_of_zero_le hx.1
  obtain ⟨b, rfl⟩ := Int.eq_ofNat_of_zero_le hy.1
  exact qwy a b (by omega) (by omega)
theorem qQv {α : Type} (xs : List α) (i : Nat) (x d : α) (h : i < xs.length) : (xs.set i x).getD i d = x := by
  simp [List.getD, h]
theorem Bts.getD {xs : List Int} (h : Bts xs) (i : Nat) : 0 ≤ xs.getD i 0 ∧ xs.getD i 0 < 256 := by
  by_cases hi : i < xs.length
  · simp only [List.getD_eq_getElem?_getD, List.getElem?_eq_getElem hi, Option.getD_some]; exact h _ (List.getElem_mem hi)
  · simp [List.getD_eq_getElem?_getD, List.getElem?_eq_none (by omega : xs.length ≤ i)]
theorem qfp (v0 : List Int) (v5 v17 v18 : Int) (b8 : qda) (b9 : List Int) (h0 : 0 ≤ v5) (h5 : v5 < 5) (hlt : v18 < v17) (h18 : 0 ≤ v18) (h17 : v17 ≤ 2) (hb : Bts v0) (hl : 0 < v0.length) (hx : 0 ≤ b9.getD v5.toNat 0 ∧ b9.getD v5.toNat 0 < 256) :
    qEd v0 v5 G_widths v5 v17 v18 b8 b9 = qEd (v0.drop 1) v5 G_widths v5 v17 (v18 + 1) b8 (b9.set v5.toNat (b9.getD v5.toNat 0 * 256 + v0.getD 0 0)) := by
  have hy := hb.getD 0
  rw [qAf, if_pos (by simpa using hlt)]
  rw [qea h0, qea h5, qea (by decide), qea (by decide), qea (by simp only [Int.ofNat_eq_natCast]; omega), qea h0, qea h5, qea (by decide), qea (by simp only [Int.ofNat_eq_natCast]; omega)]
  rw [w64 (x := v18 + 1) (by omega) (by omega), w64 (x := b9.getD v5.toNat 0 * 256) (by omega) (by omega), w64 (x := v0.getD 0 0) (by omega) (by omega), qAD ⟨hx.1, by omega⟩ hy]
theorem quv (v0 : List Int) (v5 : Int) (b8 : qda) (b9 : List Int) (h0 : 0 ≤ v5) (h5 : v5 < 5) (hw : G_widths.getD v5.toNat 0 = 1) (hb : Bts v0) (hl : 0 < v0.length) (hx : b9.getD v5.toNat 0 = 0) (hn : b9.length = 5) :
    qQb v0 G_widths v5 b8 b9 = qQb (v0.drop 1) G_widths (v5 + 1) b8 (b9.set v5.toNat (v0.getD 0 0)) := by
  rw [qBf, if_pos (by simpa using h5), qea h0, qea h5, hw, qfp v0 v5 1 0 b8 b9 h0 h5 (by decide) (by decide) (by decide) hb hl (by rw [hx]; decide)]
  rw [qAf, if_neg (by decide), w64 (x := v5 + 1) (by omega) (by omega), hx, Int.zero_mul, Int.zero_add]
theorem qBr (v0 : List Int) (v5 : Int) (b8 : qda) (b9 : List Int) (h0 : 0 ≤ v5) (h5 : v5 < 5) (hw : G_widths.getD v5.toNat 0 = 2) (hb : Bts v0) (hl : 1 < v0.length) (hx : b9.getD v5.toNat 0 = 0) (hn : b9.length = 5) :
    qQb v0 G_widths v5 b8 b9 = qQb (v0.drop 2) G_widths (v5 + 1) b8 (b9.set v5.toNat (v0.getD 0 0 * 256 + v0.getD 1 0)) := by
  have hy := hb.getD 0
  have hi : v5.toNat < b9.length := by omega
  have hg : (v0.drop 1).getD 0 0 = v0.getD 1 0 := by simp [List.getD_eq_getElem?_getD]
  rw [qBf, if_pos (by simpa using h5), qea h0, qea h5, hw, qfp v0 v5 2 0 b8 b9 h0 h5 (by decide) (by decide) (by decide) hb (by omega) (by rw [hx]; decide)]
  rw [hx, Int.zero_mul, Int.zero_add (v0.getD 0 0)]
  rw [qfp (v0.drop 1) v5 2 (0 + 1) b8 _ h0 h5 (by decide) (by decide) (by decide) (hb.drop 1) (by simp; omega) (by rw [qQv _ _ _ _ hi]; exact hy)]
  rw [qAf, if_neg (by decide), w64 (x := v5 + 1) (by omega) (by omega), qQv _ _ _ _ hi, List.set_set, List.drop_drop, hg]
def zH : qda := (0, (0, (0, (0, (0, (List.replicate 20 0, ()))))))
def pH (a : List Int) : qda := (a.getD 0 0, (a.getD 1 0, (a.getD 2 0 * 256 + a.getD 3 0, (a.getD 4 0 * 256 + a.getD 5 0, (a.getD 6 0 * 256 + a.getD 7 0, (a.drop 8, ()))))))
def pP (a : List Int) : qda × Int := if a.length = 28 ∧ hOK (pH a) then (pH a, 0) else (zH, 12)
theorem qfC (a : List Int) (k i : Nat) : (a.drop k).getD i 0 = a.getD (k + i) 0 := by simp [List.getD_eq_getElem?_getD]
theorem qbj (a : List Int) (hb : Bts a) : qPk a = some (pP a) := by
  rw [qhs]
  by_cases hl : a.length = 28
  · rw [if_neg (by simp [hl])]
    have hrep : (List.replicate 5 (0:Int)) = [0,0,0,0,0] := rfl
    rw [hrep]
    rw [quv a 0 _ _ (by decide) (by decide) (by decide) hb (by omega) (by decide) (by decide)]
    rw [quv (a.drop 1) (0+1) _ _ (by decide) (by decide) (by decide) (hb.drop 1) (by simp; omega) (by simp) (by simp)]
    rw [qBr _ (0+1+1) _ _ (by decide) (by decide) (by decide) ((hb.drop 1).drop 1) (by simp; omega) (by simp) (by simp)]
    rw [qBr _ (0+1+1+1) _ _ (by decide) (by decide) (by decide) (((hb.drop 1).drop 1).drop 2) (by simp; omega) (by simp) (by simp)]
    rw [qBr _ (0+1+1+1+1) _ _ (by decide) (by decide) (by decide) ((((hb.drop 1).drop 1).drop 2).drop 2) (by simp; omega) (by simp) (by simp)]
    rw [qBf, if_neg (by decide)]
    iterate 10 rw [qea (by decide)]
    simp only [List.drop_drop, qfC]
    have h0 := hb.getD 0
    have hsp : qkd (List.replicate 20 (0:Int)) 0 (List.take (min (List.drop (1 + 1 + 2 + 2 + 2) a).length 20) (List.drop (1 + 1 + 2 + 2 + 2) a)) = a.drop 8 := by
      have hln : (a.drop 8).length = 20 := by simp [hl]
      show qkd (List.replicate 20 (0:Int)) 0 (List.take (min (a.drop 8).length 20) (a.drop 8)) = a.drop 8
      rw [hln, List.take_of_length_le (by omega)]
      unfold qkd
      simp [hl]
    rw [hsp]
    have e0 : (([0,0,0,0,0] : List Int).set (Int.toNat 0) (a.getD 0 0) |>.set (Int.toNat (0+1)) (a.getD (1+0) 0) |>.set (Int.toNat (0+1+1)) (a.getD (1+1+0) 0 * 256 + a.getD (1+1+1) 0) |>.set (Int.toNat (0+1+1+1)) (a.getD (1+1+2+0) 0 * 256 + a.getD (1+1+2+1) 0) |>.set (Int.toNat (0+1+1+1+1)) (a.getD (1+1+2+2+0) 0 * 256 + a.getD (1+1+2+2+1) 0)) = [a.getD 0 0, a.getD 1 0, a.getD 2 0 * 256 + a.getD 3 0, a.getD 4 0 * 256 + a.getD 5 0, a.getD 6 0 * 256 + a.getD 7 0] := rfl
    rw [e0]
    simp only [List.getD_cons_zero, List.getD_cons_succ, wu8, Int.emod_eq_of_lt h0.1 h0.2]
    rw [qRc]
    show (some (hC (pH a))).bind _ = _
    simp only [Option.bind_some, qQz]
    unfold pP
    by_cases ok : hOK (pH a)
    · rw [if_neg (by simpa using ok), if_pos ⟨hl, ok⟩]; rfl
    · rw [if_pos ok, if_neg (fun h => ok h.2)]; rfl
  · rw [if_pos (by simp; omega)]
    unfold pP
    rw [if_neg (fun h => hl h.1)]; rfl
theorem qRq : Bts mark := by
  intro x hx
  simp [mark] at hx
  omega
theorem qdb : mark.length = 13 := rfl
theorem qCm (a : List Int) (hb : Bts a) (h1 : 41 ≤ a.length) (h2 : a.length ≤ 50000) : qUr a 0 = some (decide (a.take 13 = mark), 0) := by
  rw [qCv, qJk, if_neg (by simp; omega), if_neg (by decide), if_neg (by simp)]
  simp only [Option.bind_some]
  rw [if_neg (by decide), qea (by decide), qea (by simp), qVi]
  simp only [Option.bind_some]
  rw [qqi, if_pos (by simp [qdb]; omega), qea (by simp), qea (by simp [qdb]; omega), qLm]
  simp only [Option.bind_some]
  rw [qND ((hb.drop _).take _) qRq]
  rfl
def rdK (a : List Int) : qoa × Int × Int :=
  if a.length > 50000 then ((zH, ([], ())), (0, 4)) else if a.length < 41 then ((zH, ([], ())), (0, 18))
  else if a.take 13 ≠ mark ∨ ¬ hOK (pH ((a.drop 13).take 28)) then ((zH, ([], ())), (0, 12))
  else if (a.length : Int) < 41 + (pH ((a.drop 13).take 28)).2.2.2.2.1 then ((zH, ([], ())), (0, 18))
  else ((pH ((a.drop 13).take 28), ((a.drop 41).take (pH ((a.drop 13).take 28)).2.2.2.2.1.toNat, ())), (41 + (pH ((a.drop 13).take 28)).2.2.2.2.1, 0))
theorem qCf {h : qda} (ok : hOK h) : 1 ≤ h.2.2.2.2.1 ∧ h.2.2.2.2.1 ≤ 4096 := by unfold hOK at ok; omega
theorem qwD (a : List Int) (h : 41 ≤ a.length) : pP ((a.drop 13).take 28) = if hOK (pH ((a.drop 13).take 28)) then (pH ((a.drop 13).take 28), 0) else (zH, 12) := by
  have hl : ((a.drop 13).take 28).length = 28 := by simp; omega
  unfold pP
  simp only [hl, true_and]
theorem qBs (a : List Int) (hb : Bts a) : qnj a = some (rdK a) := by
  rw [qHo]
  unfold rdK
  by_cases h1 : a.length > 50000
  · rw [if_pos (by simp; omega), if_pos h1]; rfl
  rw [if_neg (by simp; omega), if_neg h1]
  by_cases h2 : a.length < 41
  · rw [if_pos (by simp; omega), if_pos h2]; rfl
  rw [if_neg (by simp; omega), if_neg h2, qea (by decide), qea (by decide), qea (by simp only [Int.ofNat_eq_natCast]; omega), qbj _ ((hb.drop _).take _), qwD a (by omega), qCm a hb (by omega) (by omega)]
  simp only [Option.bind_some]
  by_cases h3 : a.take 13 = mark
  · by_cases ok : hOK (pH ((a.drop 13).take 28))
    · have hlen := qCf ok
      rw [if_pos ok, if_neg (by simp [h3]), if_neg (by simp), if_neg (show ¬ (a.take 13 ≠ mark ∨ ¬ hOK (pH ((a.drop 13).take 28))) from fun h => h.elim (fun h => h h3) (fun h => h ok))]
      generalize pH ((a.drop 13).take 28) = h at ok hlen ⊢
      simp only
      rw [w64 (x := 41 + h.2.2.2.2.1) (by omega) (by omega)]
      by_cases h4 : (a.length : Int) < 41 + h.2.2.2.2.1
      · rw [if_pos (by simpa using h4), if_pos h4]; rfl
      · rw [if_neg (by simpa using h4), if_neg h4, qea (by decide), qea (by omega), qea (by simp only [Int.ofNat_eq_natCast]; omega), qGo _ (by simp; omega)]
        have e : Int.toNat (41 + h.2.2.2.2.1) - 41 = h.2.2.2.2.1.toNat := by omega
        simp only [Option.bind_some, e]
    · rw [if_neg ok, if_neg (by simp [h3]), if_pos (by simp), if_pos (show (a.take 13 ≠ mark ∨ ¬ hOK (pH ((a.drop 13).take 28))) from .inr ok)]; rfl
  · rw [if_pos (by simp [h3]), if_pos (show (a.take 13 ≠ mark ∨ ¬ hOK (pH ((a.drop 13).take 28))) from .inl h3)]; rfl
theorem qrx (h : qda) : Bts (fr8 h) := by
  intro x hx
  simp only [fr8, List.mem_cons, List.not_mem_nil, or_false] at hx
  omega
theorem qqo (h : qda) (hm : 0 ≤ h.1 ∧ h.1 < 256) (raw : List Int) (hb : Bts raw) (hl : raw.length ≤ 19000) : qKj h raw = some (qGg (fr8 h ++ raw)) := by
  rw [qek, qaj h hm, Option.bind_some]
  have hL : (fr8 h ++ raw).length = raw.length + 8 := by rw [List.length_append, qjn]; omega
  rw [qea (by rw [hL]; omega), qRo _ (Bts.append (qrx h) hb), if_pos (by rw [hL]; omega), Option.bind_some]
def qDF (m a1 a2 raw len : Int) (z : List Int) : qda := (m, (a1, (a2, (raw, (len, (qGg (fr8 (m, (a1, (a2, (raw, (len, (List.replicate 20 0, ())))))) ++ z), ()))))))
def qzi (a1 a2 : Int) (z : List Int) : qoa := (qDF 1 a1 a2 z.length z.length z, (z, ()))
def mOK (a1 a2 : Int) (z : List Int) : Prop := 0 ≤ a1 ∧ a1 < 16 ∧ 1 ≤ z.length ∧ z.length ≤ 4096 ∧ 0 ≤ a2 ∧ a2 + z.length ≤ 8192
instance (a1 a2 : Int) (z : List Int) : Decidable (mOK a1 a2 z) := by unfold mOK; infer_instance
theorem qGt {a1 a2 : Int} {z : List Int} (h : mOK a1 a2 z) (s : List Int) : hOK (1, (a1, (a2, ((z.length : Int), ((z.length : Int), (s, ())))))) := by
  unfold mOK at h
  exact ⟨h.1, h.2.1, by simp only; omega, by simp only; omega, h.2.2.2.2.1, h.2.2.2.2.2, Or.inl ⟨rfl, rfl⟩⟩
def zB : qoa := ((0, (0, (0, (0, (0, ((List.replicate 20 0), ())))))), ([], ()))
theorem qOv (l : Int) : qSj l = some (decide (0 ≤ l ∧ l ≤ 7)) := by
  rw [qFq]
  by_cases h : 0 ≤ l
  · rw [if_pos (by simpa using h)]
    exact congrArg some (by simp [h])
  · rw [if_neg (by simpa using h)]
    exact congrArg some (by simp [h])
theorem qtk {a1 a2 : Int} {z : List Int} (hm : mOK a1 a2 z) : bC (qzi a1 a2 z) = 0 := if_pos ⟨qGt hm _, rfl⟩
theorem qRe (a1 a2 : Int) (z : List Int) : bWf (qzi a1 a2 z) := ⟨⟨by show (0:Int) ≤ 1; decide, by show (1:Int) < 256; decide⟩, qqf _⟩
theorem qUE {x : List Int} (hb : Bts x) : 0 ≤ (pH x).1 ∧ (pH x).1 < 256 := Bts.getD hb 0
theorem qlB {xs ys : List Int} : qUu (peq (.int .u8)) xs ys = true → xs = ys := by
  intro h
  induction xs generalizing ys with
  | nil => cases ys with
    | nil => rfl
    | cons y ys => exact absurd h (by simp [qUu])
  | cons x xs ih => cases ys with
    | nil => exact absurd h (by simp [qUu])
    | cons y ys =>
      rw [qUu, Bool.and_eq_true] at h
      have h1 : x = y := by have := h.1; rw [peq] at this; exact of_decide_eq_true this
      rw [h1, ih h.2]
theorem quD (xs ys : List Int) : qUu (peq (.int .u8)) xs ys = decide (xs = ys) := by
  by_cases h : xs = ys
  · subst h
    rw [decide_eq_true rfl]
    exact qDk (fun x => by rw [peq]; exact decide_eq_true rfl) _
  · rw [decide_eq_false h]
    cases hq : qUu (peq (.int .u8)) xs ys with
    | false => rfl
    | true => exact absurd (qlB hq) h
theorem qgt {h : qda} (ok : hOK h) (hm : 0 ≤ h.1 ∧ h.1 < 256) {z : List Int} (hb : Bts z) (hl : (z.length : Int) = h.2.2.2.1) : qOg h z = some (decide (qGg (fr8 h ++ z) = h.2.2.2.2.2.1), 0) := by
  have hz : z.length ≤ 4096 := by unfold hOK at ok; omega
  have hc : hC h = 0 := if_pos ok
  rw [qOk]
  refine Tot.eq (Tot.be (qRc h) (Tot.ifne_neg hc (Tot.ifeq_pos hl (Tot.be (qqo h hm z hb (by omega)) (Tot.so ?_)))))
  rw [peq, quD]
theorem qLp {l : Int} {b : qoa} (hl : 0 ≤ l ∧ l ≤ 7) (h1 : b.1.1 = 1) (hc : bC b = 0) (hb : Bts b.2.1) : qoj l b = some (if qGg (fr8 b.1 ++ b.2.1) = b.1.2.2.2.2.2.1 then (b.2.1, 0) else ([], 22)) := by
  have ok : hOK b.1 ∧ (b.2.1.length : Int) = b.1.2.2.2.2.1 := by
    unfold bC at hc; split at hc
    · assumption
    · cases hc
  have hlen : b.1.2.2.2.2.1 = b.1.2.2.2.1 := by
    rcases ok.1.2.2.2.2.2.2 with h | h
    · exact h.2
    · omega
  have hz : b.2.1.length ≤ 4096 := by have := ok.1.2.2.2.1; omega
  rw [qqw]
  refine Tot.eq (Tot.be (qGq b) (Tot.ifne_neg hc (Tot.be (qOv l) ?_)))
  rw [decide_eq_true hl]
  refine Tot.ifn (fun k => absurd k (by decide)) (fun _ => Tot.be (qGo _ (by omega)) (Tot.ifeq_neg (by omega) (Tot.be (qgt ok.1 (by omega) hb (by omega)) ?_)))
  by_cases hs : qGg (fr8 b.1 ++ b.2.1) = b.1.2.2.2.2.2.1
  · rw [if_pos hs, decide_eq_true hs]
    exact Tot.ifn (fun k => absurd k (by decide)) (fun _ => Tot.so rfl)
  · rw [if_neg hs, decide_eq_false hs]
    exact Tot.ifn (fun _ => Tot.so rfl) (fun k => absurd k (by decide))
theorem qbo (h : qda) (hm : 0 ≤ h.1 ∧ h.1 < 256) {z : List Int} (hl : z.length ≤ 100000) : qJd h z = some (qGg (fr8 h ++ z)) := by
  have hL : (fr8 h ++ z).length = z.length + 8 := by rw [List.length_append, qjn]; omega
  rw [qOo]
  exact Tot.eq (Tot.be (qak h hm) (Tot.g (by rw [hL]; omega) (Tot.be (qJs _ (by rw [hL]; omega)) (Tot.so rfl))))
instance (h : qda) : Decidable (hOK h) := by unfold hOK; infer_instance
theorem qqq (b : qoa) : qpd b = some (bC b) := by
  rw [qll, qbk]
  simp only [Option.bind_some, qQz]
  simp only [bC, bne_iff_ne, ne_eq, Int.ofNat_eq_natCast]
  by_cases h1 : hOK b.1 <;> by_cases h2 : (b.2.1.length : Int) = b.1.2.2.2.2.1 <;> simp [h1, h2]
instance (a1 a2 : Int) (z : List Int) : Decidable (mOK a1 a2 z) := by unfold mOK; infer_instance
theorem qrq (h : qda) (hm : 0 ≤ h.1 ∧ h.1 < 256) (hs : h.2.2.2.2.2.1.length = 20) : qUf h = some (hB h) := by
  rw [qql, qak h hm]
  simp only [Option.bind_some]
  rw [qea (by simp [qjn]; omega)]
  simp only [hB, List.drop_zero]
  rw [List.take_of_length_le (by omega)]
theorem qLx {xs ys : List Int} (hx : Bts xs) (hy : Bts ys) (h : Lib.bytesOf xs = Lib.bytesOf ys) : xs = ys := by
  induction xs generalizing ys with
  | nil => cases ys with
    | nil => rfl
    | cons y ys => simp [Lib.bytesOf] at h
  | cons x xs ih => cases ys with
    | nil => simp [Lib.bytesOf] at h
    | cons y ys =>
      simp only [Lib.bytesOf, List.map_cons, List.cons.injEq] at h
      have h1 := hx x List.mem_cons_self
      have h2 := hy y List.mem_cons_self
      have e := congrArg UInt8.toNat h.1
      simp only [UInt8.toNat_ofNat'] at e
      have : x = y := by omega
      rw [this, ih (fun z hz => hx z (List.mem_cons_of_mem _ hz)) (fun z hz => hy z (List.mem_cons_of_mem _ hz)) h.2]
theorem qXE {s t : List Int} (hs : Bts s) (ht : Bts t) (j : Nat) : Lib.occAt (Lib.bytesOf s) (Lib.bytesOf t) j = true ↔ (s.drop j).take t.length = t := by
  unfold Lib.occAt
  rw [List.isPrefixOf_iff_prefix, List.prefix_iff_eq_take]
  have e1 : (Lib.bytesOf t).length = t.length := List.length_map ..
  have e2 : List.take t.length (List.drop j (Lib.bytesOf s)) = Lib.bytesOf ((s.drop j).take t.length) := by
    unfold Lib.bytesOf
    rw [List.map_take, List.map_drop]
  rw [e1, e2]
  constructor
  · intro h
    exact (qLx ht ((hs.drop _).take _) h).symm
  · intro h
    rw [h]
def qto (s : List Int) : Prop := s.take 13 = mark
instance (s : List Int) : Decidable (qto s) := by unfold qto; infer_instance
theorem qso {s : List Int} (h : qto s) : 13 ≤ s.length := by
  have := congrArg List.length h
  rw [List.length_take, qdb] at this
  omega
theorem qVC {b : List Int} (hb : Bts b) (hl : b.length ≤ 50000) {k : Nat} (hk : k ≤ b.length) :
    (qBc b k = some (0, 6) ∧ ∀ j, ¬ qto ((b.drop k).drop j)) ∨ ∃ i : Nat, qBc b k = some (((k + i : Nat) : Int), 0) ∧ k + i ≤ b.length ∧ qto ((b.drop k).drop i) ∧ ∀ j, j < i → ¬ qto ((b.drop k).drop j) := by
  have hI : qPh (b.drop k) mark = some (ixB (b.drop k) mark) := by
    unfold qPh
    exact Tot.eq (Tot.g (by rw [List.length_drop]; omega) (Tot.g (by rw [qdb]; decide) (Tot.g (by rw [qdb]; decide) (Tot.g ⟨hb.drop k, qRq⟩ (Tot.so rfl)))))
  have hF : qBc b k = some (if ixB (b.drop k) mark < 0 then (0, 6) else (IntKind.wrap .i64 ((k : Int) + ixB (b.drop k) mark), 0)) := by
    have hchk : qji b k = some 0 := by
      rw [qJk]
      simp only [Int.ofNat_eq_natCast]
      exact Tot.eq (Tot.ifd_neg (by omega) (Tot.ifd_neg (by omega) (Tot.ifd_neg (by omega) (Tot.so rfl))))
    rw [qZs]
    simp only [Int.ofNat_eq_natCast]
    have e : (k : Int).toNat = k := Int.toNat_natCast k
    refine Tot.eq (Tot.be hchk (Tot.ifne_neg rfl (Tot.g (by omega) (Tot.g (by omega) (Tot.be qVi ?_)))))
    rw [e]
    refine Tot.be hI ?_
    exact Tot.ifd (fun h => Tot.so (by rw [if_pos h])) (fun h => Tot.so (by rw [if_neg h]))
  have hocc := fun j => qXE (hb.drop k) qRq j
  rcases Lib.index_spec (Lib.bytesOf (b.drop k)) (Lib.bytesOf mark) with ⟨h1, h2⟩ | ⟨i, h1, h2, h3, h4⟩
  · left
    have hx : ixB (b.drop k) mark = -1 := h1
    rw [hF, hx, if_pos (by decide)]
    refine ⟨rfl, fun j hj => ?_⟩
    have hlj := qso hj
    have e1 : (Lib.bytesOf (b.drop k)).length = (b.drop k).length := List.length_map ..
    rw [List.length_drop] at hlj
    have := h2 j (by omega)
    rw [(hocc j).2 (by rw [qdb]; exact hj)] at this
    cases this
  · right
    have hx : ixB (b.drop k) mark = i := h1
    have e1 : (Lib.bytesOf (b.drop k)).length = (b.drop k).length := List.length_map ..
    rw [e1, List.length_drop] at h2
    refine ⟨i, ?_, by omega, ?_, fun j hj hh => ?_⟩
    · rw [hF, hx, if_neg (by omega), w64 (by omega) (by omega)]
      exact congrArg some (Prod.ext (by simp only; omega) rfl)
    · have := (hocc i).1 h3
      rw [qdb] at this
      exact this
    · have := h4 j hj
      rw [(hocc j).2 (by rw [qdb]; exact hh)] at this
      cases this
noncomputable def qFo (l : Int) (s : List Int) : Option (qda × List Int × Nat) :=
  if qto s ∧ (rdK s).2.2 = 0 then
    match qoj l (rdK s).1 with
    | some r => if r.2 = 0 then some ((rdK s).1.1, r.1, (rdK s).2.1.toNat) else none
    | none => none
  else none
noncomputable def sv (l : Int) : Nat → List Int → Nat → List qpa
  | 0, _, _ => []
  | n + 1, s, k => match s with
    | [] => []
    | x :: s' => match qFo l (x :: s') with
      | some c => ((k : Int), (c.1, (c.2.1, ()))) :: sv l n ((x :: s').drop c.2.2) (k + c.2.2)
      | none => sv l n s' (k + 1)
theorem qwr {s : List Int} (h : (rdK s).2.2 = 0) : 41 ≤ s.length ∧ s.length ≤ 50000 ∧ qto s ∧ hOK (rdK s).1.1 ∧ (rdK s).2.1 = 41 + (rdK s).1.1.2.2.2.2.1 ∧ (rdK s).2.1 ≤ s.length ∧ (rdK s).1.2.1 = (s.drop 41).take (rdK s).1.1.2.2.2.2.1.toNat ∧ (rdK s).1.1 = pH ((s.drop 13).take 28) := by
  unfold rdK at h ⊢
  by_cases h1 : s.length > 50000
  · rw [if_pos h1] at h; exact absurd h (by decide)
  rw [if_neg h1] at h ⊢
  by_cases h2 : s.length < 41
  · rw [if_pos h2] at h; exact absurd h (by decide)
  rw [if_neg h2] at h ⊢
  by_cases h3 : s.take 13 ≠ mark ∨ ¬ hOK (pH ((s.drop 13).take 28))
  · rw [if_pos h3] at h; exact absurd h (by decide)
  rw [if_neg h3] at h ⊢
  by_cases h4 : (s.length : Int) < 41 + (pH ((s.drop 13).take 28)).2.2.2.2.1
  · rw [if_pos h4] at h; exact absurd h (by decide)
  rw [if_neg h4]
  exact ⟨by omega, by omega, Classical.byContradiction fun k => h3 (Or.inl k), Classical.byContradiction fun k => h3 (Or.inr k), rfl, by simp only; omega, rfl, rfl⟩
theorem qEo {l : Int} {s : List Int} {c : qda × List Int × Nat} (h : qFo l s = some c) : 42 ≤ c.2.2 ∧ c.2.2 ≤ s.length ∧ qto s := by
  unfold qFo at h
  by_cases h1 : qto s ∧ (rdK s).2.2 = 0
  · rw [if_pos h1] at h
    have hk := qwr h1.2
    have hl := qCf hk.2.2.2.1
    split at h
    · split at h
      · have := Option.some.inj h
        subst this
        simp only
        exact ⟨by omega, by omega, h1.1⟩
      · cases h
    · cases h
  · rw [if_neg h1] at h; cases h
theorem qIw (l : Int) : ∀ (n m : Nat) (s : List Int) (k : Nat), s.length ≤ n → s.length ≤ m → sv l n s k = sv l m s k
  | 0, 0, s, k, h1, h2 => rfl
  | 0, m + 1, s, k, h1, h2 => by
    obtain rfl : s = [] := List.length_eq_zero_iff.1 (by omega)
    rfl
  | n + 1, 0, s, k, h1, h2 => by
    obtain rfl : s = [] := List.length_eq_zero_iff.1 (by omega)
    rfl
  | n + 1, m + 1, s, k, h1, h2 => by
    cases s with
    | nil => rfl
    | cons x s' =>
      simp only [List.length_cons] at h1 h2
      simp only [sv]
      cases hc : qFo l (x :: s') with
      | some c =>
        have := qEo hc
        simp only
        rw [qIw l n m _ _ (by rw [List.length_drop, List.length_cons]; omega) (by rw [List.length_drop, List.length_cons]; omega)]
      | none =>
        simp only
        exact qIw l n m s' _ (by omega) (by omega)
noncomputable def svA (l : Int) (s : List Int) (k : Nat) : List qpa := sv l s.length s k
theorem qdy {l : Int} {s : List Int} {c : qda × List Int × Nat} (h : qFo l s = some c) (k : Nat) : svA l s k = ((k : Int), (c.1, (c.2.1, ()))) :: svA l (s.drop c.2.2) (k + c.2.2) := by
  have hl := qEo h
  cases s with
  | nil => simp only [List.length_nil] at hl; omega
  | cons x s' =>
    unfold svA
    rw [List.length_cons]
    simp only [sv, h]
    rw [qIw l s'.length _ _ _ (by rw [List.length_drop, List.length_cons]; omega) (Nat.le_refl _)]
theorem qKq {l : Int} {s : List Int} (h : qFo l s = none) (k : Nat) : svA l s k = svA l (s.drop 1) (k + 1) := by
  cases s with
  | nil => rfl
  | cons x s' =>
    unfold svA
    rw [List.length_cons]
    simp only [sv, h]
    rfl
theorem qTD {l : Int} {s : List Int} (h : ¬ qto s) : qFo l s = none := by
  unfold qFo
  rw [if_neg (fun k => h k.1)]
theorem qVt {l : Int} : ∀ (i : Nat) (s : List Int) (k : Nat), (∀ j, j < i → ¬ qto (s.drop j)) → svA l s k = svA l (s.drop i) (k + i)
  | 0, s, k, h => rfl
  | i + 1, s, k, h => by
    have h0 := h 0 (by omega)
    rw [List.drop_zero] at h0
    rw [qKq (qTD h0), qVt i (s.drop 1) (k + 1) (fun j hj => by
      have := h (j + 1) (by omega)
      rw [List.drop_drop, Nat.add_comm 1 j]; exact this), List.drop_drop]
    have e1 : 1 + i = i + 1 := by omega
    have e2 : k + 1 + i = k + (i + 1) := by omega
    rw [e1, e2]
theorem qCA {l : Int} {s : List Int} (h : ∀ j, ¬ qto (s.drop j)) (k : Nat) : svA l s k = [] := by
  rw [qVt s.length s k (fun j _ => h j), List.drop_of_length_le (Nat.le_refl _)]
  rfl
theorem qPF {h : qda} (ok : hOK h) (hs : h.2.2.2.2.2.1.length = 20) : pH (hB h) = h := by
  obtain ⟨m, mem, off, raw, len, sum, u⟩ := h
  have e : pH (hB (m, mem, off, raw, len, sum, u)) = (m % 256, (mem % 256, (off / 256 % 256 * 256 + off % 256, (raw / 256 % 256 * 256 + raw % 256, (len / 256 % 256 * 256 + len % 256, (sum, ())))))) := rfl
  rw [e]
  unfold hOK at ok
  simp only at ok
  have e1 : m % 256 = m := by omega
  have e2 : mem % 256 = mem := by omega
  have e3 : off / 256 % 256 * 256 + off % 256 = off := by omega
  have e4 : raw / 256 % 256 * 256 + raw % 256 = raw := by omega
  have e5 : len / 256 % 256 * 256 + len % 256 = len := by omega
  rw [e1, e2, e3, e4, e5]
theorem qMG {b : qoa} {more : List Int} (hc : bC b = 0) (hw : bWf b) (hl : more.length ≤ 40000) : rdK (bB b ++ more) = (b, (b.1.2.2.2.2.1 + 41, 0)) := by
  have ok : hOK b.1 ∧ (b.2.1.length : Int) = b.1.2.2.2.2.1 := by
    unfold bC at hc; split at hc
    · assumption
    · cases hc
  have hlen := qCf ok.1
  have hhl : (hB b.1).length = 28 := by unfold hB; rw [List.length_append, qjn, hw.2]
  have hL : (bB b ++ more).length = 41 + b.2.1.length + more.length := by
    unfold bB; simp only [List.length_append, qdb, hhl]
  have hw13 : (bB b ++ more).take 13 = mark := by
    unfold bB
    rw [List.append_assoc, List.append_assoc, List.take_append_of_le_length (by rw [qdb]; omega)]
    rfl
  have qto : ((bB b ++ more).drop 13).take 28 = hB b.1 := by
    unfold bB
    rw [List.append_assoc, List.append_assoc, List.drop_append_of_le_length (by rw [qdb]; omega), List.drop_of_length_le (by rw [qdb]; omega), List.nil_append, List.take_append_of_le_length (by omega), List.take_of_length_le (by omega)]
  have hd41 : (bB b ++ more).drop 41 = b.2.1 ++ more := by
    have e : bB b ++ more = (mark ++ hB b.1) ++ (b.2.1 ++ more) := by unfold bB; simp only [List.append_assoc]
    have e2 : (mark ++ hB b.1).length = 41 := by rw [List.length_append, qdb, hhl]
    rw [e, List.drop_append_of_le_length (by omega), List.drop_of_length_le (by omega), List.nil_append]
  unfold rdK
  rw [qto, qPF ok.1 hw.2, if_neg (show ¬ (bB b ++ more).length > 50000 by omega), if_neg (show ¬ (bB b ++ more).length < 41 by omega), if_neg (fun h => h.elim (fun h => h hw13) (fun h => h ok.1)), if_neg (by omega), hd41]
  have e : b.1.2.2.2.2.1.toNat = b.2.1.length := by omega
  rw [e, List.take_append_of_le_length (Nat.le_refl _), List.take_length, Int.add_comm]
theorem b7 : Bts [7] := Bts.cons (by decide) Bts.nil
theorem qPp (b : List Int) (i : Nat) (hi : i + 13 ≤ b.length) (hl : b.length ≤ 100000) : ∀ (d n : Nat), 13 - n = d → n ≤ 13 → qkb b (i : Int) (n : Int) mark = some (decide ((b.drop (i + n)).take (13 - n) = mark.drop n))
  | 0, n, hd, hn => by
    have : n = 13 := by omega
    subst this
    rw [qpb, if_neg (by decide)]
    simp [mark]
  | d + 1, n, hd, hn => by
    have hlt : i + n < b.length := by omega
    have hm : n < mark.length := by rw [qdb]; omega
    rw [qpb]
    simp only [Int.ofNat_eq_natCast]
    rw [if_pos (by simp; omega), w64 (x := (i : Int) + (n : Int)) (by omega) (by omega), qea (by omega), qea (by omega), qea (by omega), qea (by rw [qdb]; omega), w64 (x := (n : Int) + 1) (by omega) (by omega)]
    have e1 : Int.toNat ((i : Int) + (n : Int)) = i + n := by omega
    have ih := qPp b i hi hl d (n + 1) (by omega) (by omega)
    simp only [Int.natCast_add, show ((1 : Nat) : Int) = 1 from rfl] at ih
    simp only [e1, Int.toNat_natCast, Nat.zero_add]
    rw [ih]
    have g1 : b.getD (i + n) 0 = b[i + n] := by simp [List.getD_eq_getElem?_getD, hlt]
    have g2 : mark.getD n 0 = mark[n] := by simp [List.getD_eq_getElem?_getD, hm]
    rw [g1, g2, List.drop_eq_getElem_cons hlt, List.drop_eq_getElem_cons hm, show 13 - n = (13 - (n + 1)) + 1 by omega, List.take_succ_cons]
    by_cases he : b[i + n] = mark[n]
    · rw [if_neg (by simp [he]), he]
      congr 1
      rw [decide_eq_decide]
      exact ⟨fun h => by rw [← h]; rfl, fun h => (List.cons.inj h).2⟩
    · rw [if_pos (by simpa using he)]
      have : ¬ (b[i + n] :: List.take (13 - (n + 1)) (List.drop (i + n + 1) b) = mark[n] :: List.drop (n + 1) mark) := fun h => he (List.cons.inj h).1
      rw [decide_eq_false this]
theorem qMC (b : List Int) (hl : b.length ≤ 100000) {i : Nat} (hi : i ≤ b.length) : qTb b i = some (decide (qto (b.drop i))) := by
  rw [qeg]
  simp (disch := omega) only [Int.ofNat_eq_natCast, w64 (x := (b.length : Int) - (i : Int))]
  refine Tot.eq (Tot.be qah (Tot.ifd_neg (by omega) (Tot.ifd_neg (by omega) (Tot.ifd (fun h => ?_) (fun h => ?_)))))
  · refine Tot.so ?_
    rw [decide_eq_false]
    intro hh
    have := qso hh
    rw [List.length_drop] at this
    omega
  · have := qPp b i (by omega) hl 13 0 rfl (by omega)
    rw [show ((0 : Nat) : Int) = 0 from rfl] at this
    exact Tot.of_eq this rfl
theorem qHy {b : List Int} {i : Nat} (h : qto (b.drop i)) : b.getD i 0 = 183 := by
  have h13 := qso h
  rw [List.length_drop] at h13
  have : ((b.drop i).take 13).getD 0 0 = mark.getD 0 0 := by rw [h]
  have e : (b.drop i) = b[i]'(by omega) :: b.drop (i + 1) := List.drop_eq_getElem_cons (by omega)
  rw [e] at this
  rw [List.getD_eq_getElem?_getD, List.getElem?_eq_getElem (by omega)]
  exact this
def pls (b : List Int) : Nat → Nat → List Int
  | 0, _ => []
  | n + 1, k => if qto (b.drop k) then (k : Int) :: pls b n (k + 1) else pls b n (k + 1)
theorem qJl (b : List Int) (hl : b.length ≤ 100000) : ∀ (n k : Nat) (out : List Int), k + n = b.length → out.length ≤ k → qQa b (k : Int) out = some (out ++ pls b n k)
  | 0, k, out, hk, ho => by
    rw [qxe, if_neg (by rw [decide_eq_true_eq]; simp only [Int.ofNat_eq_natCast]; omega)]
    exact congrArg some (List.append_nil _).symm
  | n + 1, k, out, hk, ho => by
    rw [qxe]
    simp only [Int.ofNat_eq_natCast]
    have e : (k : Int).toNat = k := Int.toNat_natCast k
    have e2 : (k : Int) + 1 = ((k + 1 : Nat) : Int) := by omega
    rw [w64 (x := (k : Int) + 1) (by omega) (by omega), e, e2]
    unfold pls
    refine Tot.eq (Tot.ifd_pos (by omega) (Tot.g (by omega) (Tot.g (by omega) (Tot.ifeq (fun h => Tot.be (qMC b hl (by omega)) ?_) (fun h => ?_)))))
    · by_cases hh : qto (b.drop k)
      · rw [decide_eq_true hh, if_pos hh]
        refine Tot.ift_ (Tot.g (by rw [List.length_append, List.length_singleton]; omega) (Tot.of_eq (qJl b hl n (k + 1) (out ++ [(k : Int)]) (by omega) (by rw [List.length_append, List.length_singleton]; omega)) ?_))
        rw [List.append_assoc]; rfl
      · rw [decide_eq_false hh, if_neg hh]
        exact Tot.iff_ (Tot.of_eq (qJl b hl n (k + 1) out (by omega) (by omega)) rfl)
    · rw [if_neg (fun hh => h (qHy hh))]
      exact Tot.of_eq (qJl b hl n (k + 1) out (by omega) (by omega)) rfl
theorem qNC (b : List Int) (hl : b.length ≤ 100000) : qbd b = some (pls b b.length 0) := by
  rw [qok]
  exact qJl b hl b.length 0 [] (by omega) (Nat.le_refl _)
theorem qbx (b : List Int) : ∀ (n k : Nat) (x : Int), x ∈ pls b n k → ∃ j : Nat, x = j ∧ k ≤ j ∧ j < k + n ∧ qto (b.drop j)
  | 0, k, x, h => by cases h
  | n + 1, k, x, h => by
    unfold pls at h
    by_cases hh : qto (b.drop k)
    · rw [if_pos hh] at h
      rcases List.mem_cons.1 h with rfl | h
      · exact ⟨k, rfl, Nat.le_refl _, by omega, hh⟩
      · obtain ⟨j, a, c, d, e⟩ := qbx b n (k + 1) x h
        exact ⟨j, a, by omega, by omega, e⟩
    · rw [if_neg hh] at h
      obtain ⟨j, a, c, d, e⟩ := qbx b n (k + 1) x h
      exact ⟨j, a, by omega, by omega, e⟩
theorem qHn (S : List Int) (n : Nat) (x : Int) (h : n < S.length) : (S.set n x).take (n + 1) = S.take n ++ [x] := by
  rw [List.take_succ_eq_append_getElem (by simpa using h), List.take_set, List.set_eq_of_length_le (by simp; omega)]
  simp
theorem qUG (a b : ByteArray) : (ByteArray.toList a == ByteArray.toList b) = decide (a = b) := by
  rw [Bool.eq_iff_iff, beq_iff_eq, decide_eq_true_eq]
  exact ⟨fun h => toList_inj h, fun h => by rw [h]⟩
theorem qNg (s : ByteArray) : (qob s).length = s.size := by
  unfold qob
  rw [List.length_map, Array.length_toList]; rfl
def okC (x : Int) : Bool := decide (33 ≤ x) && decide (x ≤ 126)
def qGz (s : ByteArray) : Bool := (qob s).all okC && decide (1 ≤ s.size) && decide (s.size ≤ 40)
theorem qgC {xs : List Int} {i : Nat} (h : i < xs.length) : xs.drop i = xs.getD i 0 :: xs.drop (i + 1) := by
  rw [List.drop_eq_getElem_cons h, List.getD_eq_getElem?_getD, List.getElem?_eq_getElem h]; rfl
theorem qNv (s : ByteArray) (hs : s.size ≤ 9223372036854775807) : ∀ (k i : Nat), i + k = s.size → qAe s (s.size : Int) (i : Int) = some (((qob s).drop i).all okC && decide (1 ≤ s.size) && decide (s.size ≤ 40))
  | 0, i, e => by
    have hd : (qob s).drop i = [] := List.drop_eq_nil_of_le (by rw [qNg]; omega)
    rw [qGh, if_neg (by simp; omega), hd]
    have hl : Int.ofNat s.size = (s.size : Int) := rfl
    rw [hl]
    by_cases h : 1 ≤ s.size
    · rw [if_pos (by simp; omega)]
      simp [h]; omega
    · rw [if_neg (by rw [decide_eq_true_eq]; omega)]
      simp [h]
  | k + 1, i, e => by
    have hi : i < (qob s).length := by rw [qNg]; omega
    have hb : qaD s ((i : Int)).toNat = (qob s).getD i 0 := by rw [Int.toNat_natCast]; rfl
    rw [qGh, if_pos (by simp; omega), qea (by omega), qea (by omega), hb, qgC hi, w64 (by omega) (by omega)]
    have ih := qNv s hs k (i + 1) (by omega)
    rw [show ((i + 1 : Nat) : Int) = (i : Int) + 1 by omega] at ih
    by_cases h1 : (qob s).getD i 0 ≤ 32
    · rw [if_pos (by simpa using h1)]
      have : okC ((qob s).getD i 0) = false := by simp only [okC, Bool.and_eq_false_iff, decide_eq_false_iff_not]; left; omega
      simp only [List.all_cons, this, Bool.false_and]
    · rw [if_neg (by simpa using h1), qea (by omega), qea (by omega)]
      by_cases h2 : (qob s).getD i 0 > 126
      · rw [if_pos (by simpa using h2)]
        have : okC ((qob s).getD i 0) = false := by simp only [okC, Bool.and_eq_false_iff, decide_eq_false_iff_not]; right; omega
        simp only [List.all_cons, this, Bool.false_and]
      · rw [if_neg (by simpa using h2), ih]
        have : okC ((qob s).getD i 0) = true := by simp only [okC, Bool.and_eq_true, decide_eq_true_eq]; omega
        simp only [List.all_cons, this, Bool.true_and]
theorem qlo (s : ByteArray) (hs : s.size ≤ 9223372036854775807) : qEj s = some (qGz s) := by
  rw [quq]
  exact qNv s hs s.size 0 (by omega)
theorem qRC (s : ByteArray) (hs : s.size ≤ 9223372036854775807) : ∀ (k i : Nat), i + k = s.size → qJc s (i : Int) = some (((qob s).drop i).all okC)
  | 0, i, e => by
    have hd : (qob s).drop i = [] := List.drop_eq_nil_of_le (by rw [qNg]; omega)
    rw [qPf, if_neg (by simp; omega), hd]
    rfl
  | k + 1, i, e => by
    have hi : i < (qob s).length := by rw [qNg]; omega
    have hb : qaD s ((i : Int)).toNat = (qob s).getD i 0 := by rw [Int.toNat_natCast]; rfl
    rw [qPf, if_pos (by simp; omega), qea (by omega), qea (by omega), hb, qgC hi, w64 (by omega) (by omega)]
    have ih := qRC s hs k (i + 1) (by omega)
    rw [show ((i + 1 : Nat) : Int) = (i : Int) + 1 by omega] at ih
    by_cases h1 : (qob s).getD i 0 < 33
    · rw [if_pos (by simpa using h1)]
      have : okC ((qob s).getD i 0) = false := by simp only [okC, Bool.and_eq_false_iff, decide_eq_false_iff_not]; left; omega
      simp only [List.all_cons, this, Bool.false_and]
    · rw [if_neg (by simpa using h1), qea (by omega), qea (by omega)]
      by_cases h2 : (qob s).getD i 0 > 126
      · rw [if_pos (by simpa using h2)]
        have : okC ((qob s).getD i 0) = false := by simp only [okC, Bool.and_eq_false_iff, decide_eq_false_iff_not]; right; omega
        simp only [List.all_cons, this, Bool.false_and]
      · rw [if_neg (by simpa using h2), ih]
        have : okC ((qob s).getD i 0) = true := by simp only [okC, Bool.and_eq_true, decide_eq_true_eq]; omega
        simp only [List.all_cons, this, Bool.true_and]
theorem qBk (s : ByteArray) (hs : s.size ≤ 9223372036854775807) : qTd s = some (qGz s) := by
  have hl : Int.ofNat s.size = (s.size : Int) := rfl
  rw [qdm, hl]
  unfold qGz
  by_cases h1 : s.size < 1
  · rw [if_pos (by simp; omega)]
    have : ¬ 1 ≤ s.size := by omega
    simp [this]
  · rw [if_neg (by simp; omega)]
    by_cases h2 : s.size > 40
    · rw [if_pos (by simp; omega)]
      have : ¬ s.size ≤ 40 := by omega
      simp [this]
    · rw [if_neg (by simp; omega)]
      have := qRC s hs s.size 0 (by omega)
      refine this.trans ?_
      have h3 : 1 ≤ s.size := by omega
      have h4 : s.size ≤ 40 := by omega
      simp [h3, h4]
theorem qio {α β : Type} {eq : α → α → Bool} (h : ∀ a b, eq a b = true ↔ a = b) (x y : α) (v : β) : ∀ m : List (α × β), qrj eq x (qVs eq y v m) = if eq x y then some v else qrj eq x m
  | [] => by simp [qVs, qrj]
  | e :: r => by
    simp only [qVs]
    by_cases hy : eq y e.1 = true
    · have := (h _ _).1 hy
      simp only [hy, if_true, qrj]
      by_cases hx : eq x y = true
      · simp [hx]
      · have : eq x e.1 = false := by rw [← this]; simpa using hx
        simp [hx, this]
    · simp only [hy, Bool.false_eq_true, if_false, qrj, qio h x y v r]
      by_cases hx : eq x y = true
      · have e1 := (h _ _).1 hx
        subst e1
        simp [hx, hy]
      · simp [hx]
theorem qkB (a b : ByteArray) : peq .str a b = decide (a = b) := qUG a b
def qCw (x : ByteArray) (xs : List ByteArray) : Bool := xs.any fun y => decide (x = y)
theorem qgx (x y : ByteArray) (xs : List ByteArray) : qCw x (xs ++ [y]) = (qCw x xs || decide (x = y)) := by simp [qCw]
def qAx (seen : List ByteArray) : List ByteArray → Bool
  | [] => false
  | x :: r => qCw x seen || qAx (seen ++ [x]) r
theorem qFu {xs : List ByteArray} {i : Nat} (h : i < xs.length) : xs.drop i = xs.getD i ByteArray.empty :: xs.drop (i + 1) ∧ xs.take (i + 1) = xs.take i ++ [xs.getD i ByteArray.empty] := by
  have e : xs.getD i ByteArray.empty = xs[i] := by rw [List.getD_eq_getElem?_getD, List.getElem?_eq_getElem h]; rfl
  rw [e]
  exact ⟨List.drop_eq_getElem_cons h, by rw [List.take_add_one, List.getElem?_eq_getElem h]; rfl⟩
theorem qay (xs : List ByteArray) (hx : xs.length ≤ 9223372036854775807) : ∀ (k i : Nat) (m : List (ByteArray × Bool)), i + k = xs.length → (∀ x, Option.getD (qrj (peq .str) x m) false = qCw x (xs.take i)) → qvf xs (xs.length : Int) (i : Int) m = some (qAx (xs.take i) (xs.drop i))
  | 0, i, m, e, hm => by
    rw [qgi, if_neg (by simp; omega), List.drop_eq_nil_of_le (by omega)]; rfl
  | k + 1, i, m, e, hm => by
    have hl : Int.ofNat xs.length = (xs.length : Int) := rfl
    obtain ⟨d1, d2⟩ := qFu (xs := xs) (i := i) (by omega)
    rw [qgi, if_pos (by simp; omega), qea (by omega), qea (by rw [hl]; omega), Int.toNat_natCast, hm, d1, qAx]
    by_cases h : qCw (xs.getD i ByteArray.empty) (xs.take i) = true
    · rw [if_pos h, h]; rfl
    · rw [if_neg h, w64 (by omega) (by omega)]
      have ih := qay xs hx k (i + 1) (qVs (peq .str) (xs.getD i ByteArray.empty) true m) (by omega) (fun x => by
        rw [qio (fun a b => by rw [qkB]; simp), d2, qkB, qgx, ← hm]
        by_cases hx : x = xs.getD i ByteArray.empty
        · rw [if_pos (by simp [hx])]; simp [hx]
        · rw [decide_eq_false hx, if_neg (by simp), Bool.or_false])
      rw [show ((i + 1 : Nat) : Int) = (i : Int) + 1 by omega] at ih
      rw [ih, d2, Bool.eq_false_iff.2 h]; rfl
theorem qkp (xs : List ByteArray) (hx : xs.length ≤ 9223372036854775807) : qGk xs = some (qAx [] xs) := by
  rw [qMr]
  exact qay xs hx xs.length 0 [] (by omega) (fun x => by simp [qrj, qCw])
def qVu (r : qaa) : Bool := !qGz r.1 || decide (r.2.1 < 0) || decide (r.2.1 > 8192) || (r.2.1 == 0 && !peq (.arr 20 (.int .u8)) r.2.2.1 (qGg []))
def vld (acc : Int) (nm : List ByteArray) : List qaa → Int
  | [] => if acc > 8192 then 4 else if qAx [] nm then 14 else 0
  | r :: rest => if qVu r then 8 else vld (acc + r.2.1) (nm ++ [r.1]) rest
def qGe (rs : List qaa) : Int := if rs.length > 16 then 4 else vld 0 [] rs
def RecsOK (rs : List qaa) : Prop := rs.length ≤ 9223372036854775807 ∧ ∀ r ∈ rs, r.1.size ≤ 9223372036854775807
theorem qDa {α : Type} {xs : List α} {i : Nat} (d : α) (h : i < xs.length) : xs.drop i = xs.getD i d :: xs.drop (i + 1) ∧ xs.take (i + 1) = xs.take i ++ [xs.getD i d] ∧ xs.getD i d ∈ xs := by
  have e : xs.getD i d = xs[i] := by rw [List.getD_eq_getElem?_getD, List.getElem?_eq_getElem h]; rfl
  rw [e]
  exact ⟨List.drop_eq_getElem_cons h, by rw [List.take_add_one, List.getElem?_eq_getElem h]; rfl, List.getElem_mem h⟩
theorem qbA : qFj [] = some (qGg []) := by
  rw [qvq, qRo [] Bts.nil]; rfl
theorem qwG : qub [] = some (qGg []) := qJs [] (by simp)
theorem qdz (rs : List qaa) (hR : RecsOK rs) (hn : rs.length ≤ 16) : ∀ (k i : Nat) (acc : Int) (nm : List ByteArray), i + k = rs.length → nm.length = i → 0 ≤ acc → acc ≤ 8192 * i → qCd acc rs (rs.length : Int) (i : Int) nm = some (vld acc nm (rs.drop i))
  | 0, i, acc, nm, e, hl, a0, a1 => by
    rw [qii, if_neg (by simp; omega), List.drop_eq_nil_of_le (by omega), vld]
    by_cases h : acc > 8192
    · rw [if_pos (by simpa using h), if_pos h]
    · rw [if_neg (by simpa using h), if_neg h, qkp _ (by omega)]
      simp only [Option.bind_some]
      by_cases h : qAx [] nm = true
      · rw [if_pos h, if_pos h]
      · rw [if_neg h, if_neg h]
  | k + 1, i, acc, nm, e, hl, a0, a1 => by
    have hl' : Int.ofNat rs.length = (rs.length : Int) := rfl
    obtain ⟨d1, d2, d3⟩ := qDa (qla qba : qaa) (xs := rs) (i := i) (by omega)
    rw [qii, if_pos (by simp; omega), qea (by omega), qea (by rw [hl']; omega), Int.toNat_natCast, d1, vld]
    generalize hr : (List.getD rs i (qla qba) : qaa) = r at d3 ⊢
    rw [qlo _ (hR.2 r d3)]
    simp only [Option.bind_some, qbA]
    by_cases h1 : qGz r.1 = true
    · rw [if_neg (by simp [h1])]
      by_cases h2 : r.2.1 < 0
      · rw [if_pos (by simpa using h2), if_pos (by simp [qVu, h2])]
      · rw [if_neg (by simpa using h2)]
        by_cases h3 : r.2.1 > 8192
        · rw [if_pos (by simpa using h3), if_pos (by simp [qVu, h3])]
        · rw [if_neg (by simpa using h3)]
          have ih := qdz rs hR hn k (i + 1) (acc + r.2.1) (nm ++ [r.1]) (by omega) (by simp; omega) (by omega) (by omega)
          rw [show ((i + 1 : Nat) : Int) = (i : Int) + 1 by omega] at ih
          rw [w64 (x := (i : Int) + 1) (by omega) (by omega), w64 (x := acc + r.2.1) (by omega) (by omega), ih]
          by_cases h4 : r.2.1 = 0
          · rw [if_pos (by simp [h4])]
            by_cases h5 : peq (.arr 20 (.int .u8)) r.2.2.1 (qGg []) = true
            · rw [if_neg (by simp [h5]), qea (by simp; omega), if_neg (by simp [qVu, h1, h4, h5])]
            · rw [if_pos (by simpa using h5), if_pos (by simp [qVu, h4, h5])]
          · rw [if_neg (by simpa using h4), qea (by simp; omega), if_neg (by simp [qVu, h1, h4]; omega)]
    · rw [if_pos (by simpa using h1), if_pos (by simp [qVu, h1])]
theorem qOd (rs : List qaa) (hR : RecsOK rs) : qSe rs = some (qGe rs) := by
  have hl : Int.ofNat rs.length = (rs.length : Int) := rfl
  rw [qQr, hl, qGe]
  by_cases h : rs.length > 16
  · rw [if_pos (by simp; omega), if_pos h]
  · rw [if_neg (by simp; omega), if_neg h]
    exact qdz rs hR (by omega) rs.length 0 0 [] (by omega) rfl (by omega) (by omega)
def names (rs : List qaa) : List ByteArray := rs.map (·.1)
theorem qAv (rs : List qaa) (i : Nat) (h : i < rs.length) : (rs.getD i (qla qba)).1 = (names rs).getD i ByteArray.empty := by
  unfold names
  simp only [List.getD_eq_getElem?_getD, List.getElem?_map, List.getElem?_eq_getElem h, Option.map_some, Option.getD_some]
theorem qBv {x : ByteArray} {xs : List ByteArray} {j i : Nat} (h : j < i) (hi : i ≤ xs.length) : qCw x ((xs.take i).drop j) = (decide (x = xs.getD j ByteArray.empty) || qCw x ((xs.take i).drop (j + 1))) := by
  have hl : j < (xs.take i).length := by rw [List.length_take]; omega
  have e : xs.getD j ByteArray.empty = (xs.take i)[j] := by
    rw [List.getD_eq_getElem?_getD, List.getElem_take, List.getElem?_eq_getElem (by omega)]; rfl
  rw [List.drop_eq_getElem_cons hl, e]
  simp [qCw]
theorem qbz (rs : List qaa) (hn : rs.length ≤ 16) (i : Nat) (hi : i < rs.length) : ∀ (k j : Nat), j + k = i → qtc rs (i : Int) (j : Int) = if qCw ((names rs).getD i ByteArray.empty) (((names rs).take i).drop j) then some 14 else qrb rs ((i : Int) + 1)
  | 0, j, e => by
    have hd : ((names rs).take i).drop j = [] := List.drop_eq_nil_of_le (by rw [List.length_take]; omega)
    rw [qcf, if_neg (by simp; omega), hd, w64 (by omega) (by omega)]
    simp [qCw]
  | k + 1, j, e => by
    have hl' : Int.ofNat rs.length = (rs.length : Int) := rfl
    have hnl : (names rs).length = rs.length := by simp [names]
    have ih := qbz rs hn i hi k (j + 1) (by omega)
    rw [show ((j + 1 : Nat) : Int) = (j : Int) + 1 by omega] at ih
    rw [qcf, if_pos (by simp; omega), qea (by omega), qea (by rw [hl']; omega), qea (by omega), qea (by rw [hl']; omega), Int.toNat_natCast, Int.toNat_natCast, qAv rs j (by omega), qAv rs i hi, w64 (x := (j : Int) + 1) (by omega) (by omega), ih, qBv (j := j) (i := i) (by omega) (by omega), qUG]
    by_cases h : (names rs).getD j ByteArray.empty = (names rs).getD i ByteArray.empty
    · rw [decide_eq_true h, decide_eq_true h.symm]; simp
    · rw [decide_eq_false h, decide_eq_false (fun e => h e.symm)]; simp
theorem qcz (rs : List qaa) (hn : rs.length ≤ 16) : ∀ (k i : Nat), i + k = rs.length → qrb rs (i : Int) = some (if qAx ((names rs).take i) ((names rs).drop i) then 14 else 0)
  | 0, i, e => by
    have hnl : (names rs).length = rs.length := by simp [names]
    rw [qdf, if_neg (by simp; omega), List.drop_eq_nil_of_le (by omega)]; rfl
  | k + 1, i, e => by
    have hnl : (names rs).length = rs.length := by simp [names]
    obtain ⟨d1, d2⟩ := qFu (xs := names rs) (i := i) (by omega)
    have ih := qcz rs hn k (i + 1) (by omega)
    rw [show ((i + 1 : Nat) : Int) = (i : Int) + 1 by omega] at ih
    have h3 := qbz rs hn i (by omega) i 0 (by omega)
    rw [qdf, if_pos (by simp; omega)]
    refine Eq.trans h3 ?_
    rw [ih, List.drop_zero, d1, qAx, ← d2]
    cases qCw ((names rs).getD i ByteArray.empty) ((names rs).take i) <;> simp
theorem qYp (rs : List qaa) (hR : RecsOK rs) (hn : rs.length ≤ 16) : ∀ (k i : Nat) (acc : Int), i + k = rs.length → 0 ≤ acc → acc ≤ 8192 * i → qsb rs acc (i : Int) = some (vld acc (names (rs.take i)) (rs.drop i))
  | 0, i, acc, e, a0, a1 => by
    have hl' : Int.ofNat rs.length = (rs.length : Int) := rfl
    rw [qef, if_neg (by simp; omega), List.drop_eq_nil_of_le (by omega), vld, List.take_of_length_le (by omega)]
    by_cases h : acc > 8192
    · rw [if_pos (by simpa using h), if_pos h]
    · rw [if_neg (by simpa using h), if_neg h]
      exact qcz rs hn rs.length 0 (by omega)
  | k + 1, i, acc, e, a0, a1 => by
    have hl' : Int.ofNat rs.length = (rs.length : Int) := rfl
    obtain ⟨d1, d2, d3⟩ := qDa (qla qba : qaa) (xs := rs) (i := i) (by omega)
    have ih := fun a h0 h1 => qYp rs hR hn k (i + 1) a (by omega) h0 h1
    rw [show ((i + 1 : Nat) : Int) = (i : Int) + 1 by omega, d2] at ih
    rw [qef, if_pos (by simp; omega), qea (by omega), qea (by rw [hl']; omega), Int.toNat_natCast, d1, vld]
    have hnm : names (List.take i rs ++ [List.getD rs i (qla qba)]) = names (List.take i rs) ++ [(List.getD rs i (qla qba)).1] := by simp [names]
    rw [hnm] at ih
    generalize hr : (List.getD rs i (qla qba) : qaa) = r at d3 ih ⊢
    rw [qBk _ (hR.2 r d3)]
    simp only [Option.bind_some, qwG]
    by_cases h1 : qGz r.1 = true
    · rw [if_neg (by simp [h1])]
      by_cases h2 : r.2.1 < 0
      · rw [if_pos (by simpa using h2), if_pos (by simp [qVu, h2])]
      · rw [if_neg (by simpa using h2)]
        by_cases h3 : r.2.1 > 8192
        · rw [if_pos (by simpa using h3), if_pos (by simp [qVu, h3])]
        · rw [if_neg (by simpa using h3)]
          rw [w64 (x := (i : Int) + 1) (by omega) (by omega), w64 (x := acc + r.2.1) (by omega) (by omega), ih _ (by omega) (by omega)]
          by_cases h4 : r.2.1 = 0
          · rw [if_pos (by simp [h4])]
            by_cases h5 : peq (.arr 20 (.int .u8)) r.2.2.1 (qGg []) = true
            · rw [if_neg (by simp [h5]), if_neg (by simp [qVu, h1, h4, h5])]
            · rw [if_pos (by simpa using h5), if_pos (by simp [qVu, h4, h5])]
          · rw [if_neg (by simpa using h4), if_neg (by simp [qVu, h1, h4]; omega)]
    · rw [if_pos (by simpa using h1), if_pos (by simp [qVu, h1])]
theorem qpq (rs : List qaa) (hR : RecsOK rs) : qMf rs = some (qGe rs) := by
  have hl : Int.ofNat rs.length = (rs.length : Int) := rfl
  rw [qgl, hl, qGe]
  by_cases h : rs.length > 16
  · rw [if_pos (by simp; omega), if_pos h]
  · rw [if_neg (by simp; omega), if_neg h]
    exact qYp rs hR (by omega) rs.length 0 0 (by omega) (by omega) (by omega)
def tot : List qaa → Int
  | [] => 0
  | r :: rest => r.2.1 + tot rest
structure RecsV (rs : List qaa) : Prop where
  len : rs.length ≤ 16
  each : ∀ r ∈ rs, 0 ≤ r.2.1 ∧ r.2.1 ≤ 8192 ∧ r.1.size ≤ 40
  tot : tot rs ≤ 8192
theorem qXx : ∀ (rs : List qaa) (acc : Int) (nm : List ByteArray), vld acc nm rs = 0 → (∀ r ∈ rs, 0 ≤ r.2.1 ∧ r.2.1 ≤ 8192 ∧ r.1.size ≤ 40) ∧ acc + tot rs ≤ 8192
  | [], acc, nm, h => by
    simp only [vld] at h
    by_cases h1 : acc > 8192
    · rw [if_pos h1] at h; omega
    · exact ⟨fun r hr => (by cases hr), by simp only [tot]; omega⟩
  | r :: rest, acc, nm, h => by
    simp only [vld] at h
    by_cases hb : qVu r = true
    · rw [if_pos hb] at h; omega
    · rw [if_neg hb] at h
      obtain ⟨h1, h2⟩ := qXx rest _ _ h
      simp only [qVu, qGz, Bool.or_eq_true, Bool.not_eq_true', Bool.and_eq_false_iff, decide_eq_true_eq, decide_eq_false_iff_not, not_or] at hb
      refine ⟨fun q hq => ?_, by simp only [tot]; omega⟩
      rcases List.mem_cons.1 hq with rfl | hq
      · have := hb.1.1.1.2
        exact ⟨by omega, by omega, by omega⟩
      · exact h1 q hq
theorem qhb {rs : List qaa} (h : qGe rs = 0) : RecsV rs := by
  unfold qGe at h
  split at h
  · omega
  · obtain ⟨h1, h2⟩ := qXx rs 0 [] h
    exact ⟨by omega, h1, by omega⟩
instance (h : qda) : Decidable (hOK h) := by unfold hOK; infer_instance
def isP (h : qda) (p : qfa) : Prop := h.2.1 = p.1 ∧ h.2.2.1 = p.2.1 ∧ h.2.2.2.1 = p.2.2.1
instance (h : qda) (p : qfa) : Decidable (isP h p) := by unfold isP; infer_instance
def qgv (h : qda) (raw : List Int) : Bool × Int :=
  if hOK h then (if (raw.length : Int) = h.2.2.2.1 then (peq (.arr 20 (.int .u8)) (qGg (fr8 h ++ raw)) h.2.2.2.2.2.1, 0) else (false, 0)) else (false, 8)
theorem qLD (h : qda) : (fr8 h).length = 8 := rfl
theorem qJD {h : qda} (ok : hOK h) : 1 ≤ h.2.2.2.1 ∧ h.2.2.2.1 ≤ 4096 := by unfold hOK at ok; omega
theorem qqp (h : qda) (hm : 0 ≤ h.1 ∧ h.1 < 256) (raw : List Int) (hb : Bts raw) : qOg h raw = some (qgv h raw) := by
  have hl' : Int.ofNat raw.length = (raw.length : Int) := rfl
  rw [qOk, qRc, hl']
  simp only [Option.bind_some, qQz, qgv]
  by_cases ok : hOK h
  · have hr := qJD ok
    rw [if_neg (fun k => k ok), if_pos ok]
    by_cases e : (raw.length : Int) = h.2.2.2.1
    · rw [if_pos (by simpa using e), if_pos e, qek, qaj h hm]
      simp only [Option.bind_some]
      have hlen : (fr8 h ++ raw).length = 8 + raw.length := by rw [List.length_append, qLD]
      rw [qea (by omega), qRo _ ((qrx h).append hb), if_pos (by omega)]
      rfl
    · rw [if_neg (by simpa using e), if_neg e]
  · rw [if_pos ok, if_neg ok]
    have : hC h = 8 := by unfold hC; rw [if_neg ok]
    rw [this]
def fOK (f : qpa) : Prop := hOK f.2.1 ∧ (f.2.2.1.length : Int) = f.2.1.2.2.2.1 ∧ peq (.arr 20 (.int .u8)) (qGg (fr8 f.2.1 ++ f.2.2.1)) f.2.1.2.2.2.2.2.1 = true ∧ 0 ≤ f.1
theorem qwx (f : qpa) : fOK f ↔ (qgv f.2.1 f.2.2.1).1 = true ∧ 0 ≤ f.1 := by
  unfold fOK qgv
  by_cases h1 : hOK f.2.1 <;> by_cases h2 : (f.2.2.1.length : Int) = f.2.1.2.2.2.1 <;> simp [h1, h2]
instance (f : qpa) : Decidable (fOK f) := by unfold fOK; infer_instance
def qpA (fs : List qpa) : Prop := fs.length ≤ 2000 ∧ ∀ f ∈ fs, (0 ≤ f.2.1.1 ∧ f.2.1.1 < 256) ∧ Bts f.2.2.1
def qEE : List qpa → Int
  | [] => 0
  | f :: r => if fOK f then qEE r else 8
def fck (rs : List qaa) (fs : List qpa) : Int := if qGe rs ≠ 0 then qGe rs else if fs.length > 600 then 4 else qEE fs
theorem qMA (fs : List qpa) (hF : qpA fs) : ∀ (k i : Nat), i + k = fs.length → qze fs (fs.length : Int) (i : Int) = some (qEE (fs.drop i))
  | 0, i, e => by
    rw [qzh, if_neg (by simp; omega), List.drop_eq_nil_of_le (by omega)]; rfl
  | k + 1, i, e => by
    have hb := hF.1
    have hl' : Int.ofNat fs.length = (fs.length : Int) := rfl
    obtain ⟨d1, d2, d3⟩ := qDa (qla qva : qpa) (xs := fs) (i := i) (by omega)
    have hv := hF.2 _ d3
    have ih := qMA fs hF k (i + 1) (by omega)
    rw [show ((i + 1 : Nat) : Int) = (i : Int) + 1 by omega] at ih
    rw [qzh, if_pos (by simp; omega), qea (by omega), qea (by rw [hl']; omega), Int.toNat_natCast, d1]
    generalize fs.getD i (qla qva) = f at *
    rw [qqp _ hv.1 _ hv.2]
    simp only [Option.bind_some, qEE]
    by_cases h1 : (qgv f.2.1 f.2.2.1).1 = true
    · rw [if_neg (by rw [h1]; decide)]
      by_cases h2 : f.1 < 0
      · rw [if_pos (by simpa using h2), if_neg (fun k => by have := ((qwx f).1 k).2; omega)]
      · rw [if_neg (by simpa using h2), w64 (by omega) (by omega), ih, if_pos ((qwx f).2 ⟨h1, by omega⟩)]
    · rw [if_pos (by simpa using h1), if_neg (fun k => h1 ((qwx f).1 k).1)]
theorem qTn (rs : List qaa) (hR : RecsOK rs) (fs : List qpa) (hF : qpA fs) : qzj rs fs = some (fck rs fs) := by
  rw [qmq, qOd rs hR]
  simp only [Option.bind_some, fck]
  by_cases hv : qGe rs = 0
  · rw [if_neg (by simp [hv]), if_neg (show ¬ qGe rs ≠ 0 from fun k => k hv)]
    by_cases hl : fs.length > 600
    · rw [if_pos (by simp; omega), if_pos hl]
    · rw [if_neg (by simp; omega), if_neg hl]
      exact qMA fs hF fs.length 0 (by omega)
  · rw [if_pos (by simpa using hv), if_pos hv]
open Classical
def qXd (f : qpa) : qra := ((f.2.1.2.1, (f.2.1.2.2.1, (f.2.1.2.2.2.1, ()))), (f.2.2.1, ()))
def cov (q : qra) (k x c : Int) : Prop := q.1.1 = k ∧ q.1.2.1 ≤ x ∧ x < q.1.2.1 + (q.2.1.length : Int) ∧ q.2.1.getD (x - q.1.2.1).toNat 0 = c
def qrH (q p : qra) (i : Nat) : Prop := ∀ c, cov q p.1.1 (p.1.2.1 + i) c → c = p.2.1.getD i 0
def agr (out : List qra) (p : qra) : Prop := ∀ q ∈ out, ∀ i, i < p.2.1.length → qrH q p i
def qsF (rs : List qaa) (f : qpa) : Prop := f.2.1.2.1 < (rs.length : Int) ∧ f.2.1.2.2.1 + f.2.1.2.2.2.1 ≤ (rs.getD f.2.1.2.1.toNat (qla qba)).2.1
noncomputable def prt (rs : List qaa) : List qpa → List qra → List qra
  | [], out => out
  | f :: fs, out => if qsF rs f ∧ agr out (qXd f) then prt rs fs (out ++ [qXd f]) else prt rs fs out
structure PtOK (p : qra) : Prop where
  mem : 0 ≤ p.1.1 ∧ p.1.1 < 16
  off : 0 ≤ p.1.2.1 ∧ p.1.2.1 ≤ 8192
  len : p.2.1.length ≤ 4096
theorem qsB {f : qpa} (h : fOK f) : PtOK (qXd f) := by
  obtain ⟨h1, h2, _, _⟩ := h
  unfold hOK at h1
  exact ⟨⟨by unfold qXd; simp only; omega, by unfold qXd; simp only; omega⟩, ⟨by unfold qXd; simp only; omega, by unfold qXd; simp only; omega⟩, by unfold qXd; simp only; omega⟩
theorem qax (rs : List qaa) : ∀ (fs : List qpa) (out : List qra), (prt rs fs out).length ≤ out.length + fs.length
  | [], out => by simp [prt]
  | f :: fs, out => by
    unfold prt
    split
    · have := qax rs fs (out ++ [qXd f]); simp at this ⊢; omega
    · have := qax rs fs out; simp at this ⊢; omega
abbrev Pl := qna
abbrev qry : Pl → Pl → Bool := peq qqa
theorem qhu (a b : Pl) : qry a b = true ↔ a = b := ⟨fun h => qEt (t := qqa) (by decide) h, fun h => by subst h; simp [peq]⟩
def ky (k x : Int) : Pl := (k, (x, ()))
def Mp (m : List (Pl × Int)) (out : List qra) : Prop := ∀ k x c, qrj qry (ky k x) m = some c ↔ ∃ q ∈ out, cov q k x c
theorem qXB (data : List Int) (hd : data.length ≤ 5000) (b0 : List qaa) (m : List (Pl × Int)) (f : qpa) (h : qda) (ho : 0 ≤ h.2.2.1 ∧ h.2.2.1 ≤ 8192) : ∀ (k i : Nat), i + k = data.length →
    qlc data (data.length : Int) (i : Int) b0 m f h = if ∀ i', i ≤ i' → i' < data.length → ∀ c, qrj qry (ky h.2.1 (h.2.2.1 + i')) m = some c → c = data.getD i' 0 then qcb f.2.2.1 (Int.ofNat f.2.2.1.length) 0 b0 m h else some (false, (b0, ((), m)))
  | 0, i, e => by
    rw [qMg, if_neg (by simp; omega), if_pos (fun i' a b => by omega)]
  | k + 1, i, e => by
    have hl' : Int.ofNat data.length = (data.length : Int) := rfl
    have ih := qXB data hd b0 m f h ho k (i + 1) (by omega)
    rw [show ((i + 1 : Nat) : Int) = (i : Int) + 1 by omega] at ih
    rw [qMg, if_pos (by simp; omega), qea (by omega), qea (by rw [hl']; omega), Int.toNat_natCast, w64 (x := h.2.2.1 + i) (by omega) (by omega), w64 (x := (i : Int) + 1) (by omega) (by omega), ih]
    show (if (qrj qry (ky h.2.1 (h.2.2.1 + (i : Int))) m).isSome = true then _ else _) = _
    have step : (∀ c, qrj qry (ky h.2.1 (h.2.2.1 + (i : Int))) m = some c → c = data.getD i 0) → (if ∀ i', i + 1 ≤ i' → i' < data.length → ∀ c, qrj qry (ky h.2.1 (h.2.2.1 + i')) m = some c → c = data.getD i' 0 then qcb f.2.2.1 (Int.ofNat f.2.2.1.length) 0 b0 m h else some (false, (b0, ((), m)))) = (if ∀ i', i ≤ i' → i' < data.length → ∀ c, qrj qry (ky h.2.1 (h.2.2.1 + i')) m = some c → c = data.getD i' 0 then qcb f.2.2.1 (Int.ofNat f.2.2.1.length) 0 b0 m h else some (false, (b0, ((), m)))) := fun hh => by
      by_cases hc : ∀ i', i + 1 ≤ i' → i' < data.length → ∀ c, qrj qry (ky h.2.1 (h.2.2.1 + i')) m = some c → c = data.getD i' 0
      · rw [if_pos hc, if_pos (fun i' a b => by
          by_cases e : i' = i
          · rw [e]; exact hh
          · exact hc i' (by omega) b)]
      · rw [if_neg hc, if_neg (fun k => hc (fun i' a b => k i' (by omega) b))]
    cases hg : qrj qry (ky h.2.1 (h.2.2.1 + (i : Int))) m with
    | none =>
      rw [if_neg (by simp)]
      exact step (fun c hc => by rw [hg] at hc; cases hc)
    | some c0 =>
      rw [if_pos (by simp)]
      have hg' : qrj (peq qqa) (h.2.1, (h.2.2.1 + (i : Int), ())) m = some c0 := hg
      rw [hg', Option.getD_some]
      by_cases hc : c0 = data.getD i 0
      · rw [if_neg (by rw [hc]; simp)]
        exact step (fun c h' => by rw [hg] at h'; injection h' with h'; rw [← h', hc])
      · rw [if_pos (bne_iff_ne.2 hc), if_neg (fun k => hc (k i (Nat.le_refl _) (by omega) c0 hg))]
def qLF (k o : Int) (data : List Int) : Nat → Nat → List (Pl × Int) → List (Pl × Int)
  | 0, _, m => m
  | n + 1, i, m => qLF k o data n (i + 1) (qVs qry (ky k (o + i)) (data.getD i 0) m)
theorem qWB (data : List Int) (hd : data.length ≤ 5000) (b0 : List qaa) (h : qda) (ho : 0 ≤ h.2.2.1 ∧ h.2.2.1 ≤ 8192) : ∀ (k i : Nat) (m : List (Pl × Int)), i + k = data.length →
    qcb data (data.length : Int) (i : Int) b0 m h = some (true, (b0, ((), qLF h.2.1 h.2.2.1 data k i m)))
  | 0, i, m, e => by
    rw [qLg, if_neg (by simp; omega)]; rfl
  | k + 1, i, m, e => by
    have hl' : Int.ofNat data.length = (data.length : Int) := rfl
    have ih := qWB data hd b0 h ho k (i + 1) (qVs qry (ky h.2.1 (h.2.2.1 + i)) (data.getD i 0) m) (by omega)
    rw [show ((i + 1 : Nat) : Int) = (i : Int) + 1 by omega] at ih
    rw [qLg, if_pos (by simp; omega), qea (by omega), qea (by rw [hl']; omega), Int.toNat_natCast, w64 (x := h.2.2.1 + i) (by omega) (by omega), w64 (x := (i : Int) + 1) (by omega) (by omega)]
    exact ih
theorem ky_inj {k x k' x' : Int} : ky k x = ky k' x' ↔ k = k' ∧ x = x' := by simp [ky]
theorem qqy (k o : Int) (data : List Int) (k' x : Int) : ∀ (n i : Nat) (m : List (Pl × Int)), i + n = data.length → qrj qry (ky k' x) (qLF k o data n i m) = if k' = k ∧ o + i ≤ x ∧ x < o + (data.length : Int) then some (data.getD (x - o).toNat 0) else qrj qry (ky k' x) m
  | 0, i, m, e => by
    unfold qLF
    rw [if_neg (by omega)]
  | n + 1, i, m, e => by
    unfold qLF
    rw [qqy k o data k' x n (i + 1) _ (by omega), qio qhu]
    by_cases h1 : k' = k ∧ o + ((i + 1 : Nat) : Int) ≤ x ∧ x < o + (data.length : Int)
    · rw [if_pos h1, if_pos (by omega)]
    · rw [if_neg h1]
      by_cases h2 : k' = k ∧ x = o + i
      · rw [if_pos ((qhu _ _).2 (ky_inj.2 h2)), if_pos (by omega), show (x - o).toNat = i by omega]
      · rw [if_neg (fun h => h2 (ky_inj.1 ((qhu _ _).1 h)))]
        by_cases h3 : k' = k ∧ o + (i : Int) ≤ x ∧ x < o + (data.length : Int)
        · omega
        · rw [if_neg h3]
theorem qVB (rs : List qaa) (hR : RecsV rs) (f : qpa) (hf : fOK f) (m : List (Pl × Int)) (out : List qra) (hM : Mp m out) :
    ∃ m', qCh f rs m = some (decide (qsF rs f ∧ agr out (qXd f)), (rs, ((), m'))) ∧ Mp m' (if qsF rs f ∧ agr out (qXd f) then out ++ [qXd f] else out) := by
  have hl' : Int.ofNat rs.length = (rs.length : Int) := rfl
  have hl2 : Int.ofNat f.2.2.1.length = (f.2.2.1.length : Int) := rfl
  have hO := hf.1
  have hlen := hf.2.1
  unfold hOK at hO
  rw [qXn, hl']
  by_cases h1 : f.2.1.2.1 < (rs.length : Int)
  · have hm : f.2.1.2.1.toNat < rs.length := by omega
    have hv := hR.each _ (qDa (qla qba : qaa) hm).2.2
    rw [if_neg (by simpa using h1), qea (by omega), qea (by omega), w64 (by omega) (by omega)]
    by_cases h2 : f.2.1.2.2.1 + f.2.1.2.2.2.1 ≤ (rs.getD f.2.1.2.1.toNat (qla qba)).2.1
    · have hw : qsF rs f := ⟨h1, h2⟩
      rw [if_neg (by rw [decide_eq_true_eq]; omega), hl2]
      have e1 := qXB f.2.2.1 (by omega) rs m f f.2.1 ⟨by omega, by omega⟩ f.2.2.1.length 0 (by omega)
      have hag : (∀ i', 0 ≤ i' → i' < f.2.2.1.length → ∀ c, qrj qry (ky f.2.1.2.1 (f.2.1.2.2.1 + (i' : Nat))) m = some c → c = f.2.2.1.getD i' 0) ↔ agr out (qXd f) := by
        constructor
        · intro h q hq i hi c hc
          exact h i (by omega) hi c ((hM _ _ _).2 ⟨q, hq, hc⟩)
        · intro h i _ hi c hc
          obtain ⟨q, hq, hc⟩ := (hM _ _ _).1 hc
          exact h q hq i hi c hc
      by_cases hg : agr out (qXd f)
      · rw [if_pos (hag.2 hg)] at e1
        have e2 := qWB f.2.2.1 (by omega) rs f.2.1 ⟨by omega, by omega⟩ f.2.2.1.length 0 m (by omega)
        refine ⟨_, by rw [decide_eq_true ⟨hw, hg⟩]; exact e1.trans (by rw [hl2]; exact e2), ?_⟩
        rw [if_pos ⟨hw, hg⟩]
        intro k x c
        rw [qqy _ _ _ _ _ _ _ _ (Nat.zero_add _)]
        by_cases hc : k = f.2.1.2.1 ∧ f.2.1.2.2.1 + ((0 : Nat) : Int) ≤ x ∧ x < f.2.1.2.2.1 + (f.2.2.1.length : Int)
        · rw [if_pos hc]
          have hcov : cov (qXd f) k x (f.2.2.1.getD (x - f.2.1.2.2.1).toNat 0) := ⟨hc.1.symm, by show f.2.1.2.2.1 ≤ x; omega, hc.2.2, rfl⟩
          constructor
          · intro h
            injection h with h
            exact ⟨qXd f, by simp, h ▸ hcov⟩
          · rintro ⟨q, hq, hqc⟩
            rcases List.mem_append.1 hq with hq | hq
            · have := hg q hq (x - f.2.1.2.2.1).toNat (by show _ < f.2.2.1.length; omega) c (by
                show cov q f.2.1.2.1 (f.2.1.2.2.1 + ((x - f.2.1.2.2.1).toNat : Int)) c
                rw [← hc.1, show f.2.1.2.2.1 + ((x - f.2.1.2.2.1).toNat : Int) = x by omega]; exact hqc)
              rw [this]; rfl
            · rw [List.mem_singleton.1 hq] at hqc
              rw [← hqc.2.2.2]; rfl
        · rw [if_neg hc, hM]
          constructor
          · rintro ⟨q, hq, h⟩; exact ⟨q, by simp [hq], h⟩
          · rintro ⟨q, hq, h⟩
            rcases List.mem_append.1 hq with hq | hq
            · exact ⟨q, hq, h⟩
            · rw [List.mem_singleton.1 hq] at h
              have h3 : f.2.1.2.2.1 ≤ x := h.2.1
              exact absurd ⟨h.1.symm, by omega, h.2.2.1⟩ hc
      · rw [if_neg (fun k => hg (hag.1 k))] at e1
        refine ⟨m, by rw [decide_eq_false (fun k => hg k.2)]; exact e1, ?_⟩
        rw [if_neg (fun k => hg k.2)]; exact hM
    · rw [if_pos (by rw [decide_eq_true_eq]; omega)]
      refine ⟨m, by rw [decide_eq_false (fun k => h2 k.1.2)], ?_⟩
      rw [if_neg (fun k => h2 k.1.2)]; exact hM
  · rw [if_pos (by rw [decide_eq_true_eq]; omega)]
    refine ⟨m, by rw [decide_eq_false (fun k => h1 k.1.1)], ?_⟩
    rw [if_neg (fun k => h1 k.1.1)]; exact hM
theorem qEp (xs : List Int) (h : xs.length ≤ 1000000) : qKe xs = some xs := by
  rw [qIi]
  refine qKp false (by simp) (fun b hb => ?_)
  cases b with
  | true => rw [if_pos rfl, hb rfl]
  | false => rw [if_neg (by simp), qea (by simp; omega)]; simp
theorem qdv (rs : List qaa) (hR : RecsV rs) (fs : List qpa) (hl : fs.length ≤ 700) (hF : ∀ f ∈ fs, fOK f) : ∀ (k i : Nat) (out : List qra) (m : List (Pl × Int)), i + k = fs.length → out.length ≤ i → Mp m out →
    qdd fs (fs.length : Int) (i : Int) rs out m = some (prt rs (fs.drop i) out, 0)
  | 0, i, out, m, e, ho, hM => by
    rw [qBh, if_neg (by simp; omega), List.drop_eq_nil_of_le (by omega)]; rfl
  | k + 1, i, out, m, e, ho, hM => by
    have hl' : Int.ofNat fs.length = (fs.length : Int) := rfl
    obtain ⟨d1, _, d3⟩ := qDa (qla qva : qpa) (xs := fs) (i := i) (by omega)
    have hf := hF _ d3
    have ih := fun out m ho hM => qdv rs hR fs hl hF k (i + 1) out m (by omega) ho hM
    rw [show ((i + 1 : Nat) : Int) = (i : Int) + 1 by omega] at ih
    rw [qBh, if_pos (by simp; omega), qea (by omega), qea (by rw [hl']; omega), Int.toNat_natCast, d1, prt, w64 (by omega) (by omega)]
    generalize fs.getD i (qla qva) = f at *
    have hpl := (qsB hf).len
    obtain ⟨m', h1, h2⟩ := qVB rs hR f hf m out hM
    rw [h1]
    simp only [Option.bind_some]
    by_cases hc : qsF rs f ∧ agr out (qXd f)
    · rw [if_pos hc] at h2
      rw [decide_eq_true hc, if_pos rfl, if_pos hc, qEp _ (by show f.2.2.1.length ≤ _; have : (qXd f).2.1.length = f.2.2.1.length := rfl; omega)]
      simp only [Option.bind_some]
      rw [qea (by simp; omega)]
      exact ih _ m' (by simp; omega) h2
    · rw [if_neg hc] at h2
      rw [decide_eq_false hc, if_neg (by simp), if_neg hc]
      exact ih _ m' (by omega) h2
theorem qvw : ∀ (fs : List qpa), qEE fs = 0 → ∀ f ∈ fs, fOK f
  | [], _, f, hf => by cases hf
  | g :: fs, h, f, hf => by
    simp only [qEE] at h
    split at h
    · rename_i hg
      rcases List.mem_cons.1 hf with rfl | hf
      · exact hg
      · exact qvw fs h f hf
    · omega
theorem qzu {rs : List qaa} {fs : List qpa} (h : fck rs fs = 0) : qGe rs = 0 ∧ fs.length ≤ 600 ∧ ∀ f ∈ fs, fOK f := by
  unfold fck at h
  split at h
  · omega
  · split at h
    · omega
    · rename_i h1 h2
      exact ⟨by omega, by omega, qvw fs h⟩
noncomputable def qNG (rs : List qaa) (fs : List qpa) : List qra × Int := if fck rs fs ≠ 0 then ([], fck rs fs) else (prt rs fs [], 0)
theorem qWn (rs : List qaa) (hR : RecsOK rs) (fs : List qpa) (hF : qpA fs) : qAj rs fs = some (qNG rs fs) := by
  rw [qnq, qTn rs hR fs hF]
  simp only [Option.bind_some, qNG]
  by_cases h : fck rs fs = 0
  · obtain ⟨h1, h2, h3⟩ := qzu h
    rw [if_neg (by simp [h]), if_neg (show ¬ fck rs fs ≠ 0 from fun k => k h)]
    exact qdv rs (qhb h1) fs (by omega) h3 fs.length 0 [] [] (by omega) (by simp) (fun k x c => by simp [qrj])
  · rw [if_pos (by simpa using h), if_pos h]
open Classical
def quz (d : List Int) (o : Nat) (pd : List Int) : Nat → List Int
  | 0 => d
  | n + 1 => (quz d o pd n).set (o + n) (pd.getD n 0)
def qcE (t : List Bool) (o : Nat) : Nat → List Bool
  | 0 => t
  | n + 1 => (qcE t o n).set (o + n) true
theorem qDl (d : List Int) (o : Nat) (pd : List Int) : ∀ n, (quz d o pd n).length = d.length
  | 0 => rfl
  | n + 1 => by simp [quz, qDl d o pd n]
theorem qZh (t : List Bool) (o : Nat) : ∀ n, (qcE t o n).length = t.length
  | 0 => rfl
  | n + 1 => by simp [qcE, qZh t o n]
theorem qkr (d : List Int) (o : Nat) (pd : List Int) : ∀ n, n ≤ pd.length → o + n ≤ d.length → quz d o pd n = qkd d o (pd.take n)
  | 0, _, h => by simp [quz, qkd]
  | n + 1, hn, h => by
    have e1 := (qDa (0 : Int) (xs := d) (i := o + n) (by omega)).1
    have e2 := (qDa (0 : Int) (xs := pd) (i := n) (by omega)).2.1
    have l1 : (pd.take n).length = n := by simp; omega
    have l2 : (d.take o ++ pd.take n).length = o + n := by rw [List.length_append, l1]; simp; omega
    rw [quz, qkr d o pd n (by omega) (by omega)]
    unfold qkd
    rw [l1, e1, ← l2, qSm, e2, List.length_append, l1]
    simp only [List.append_assoc, List.length_cons, List.length_nil, List.cons_append, List.nil_append]
    congr 4
    simp; omega
theorem qiy {d pd : List Int} (hd : Bts d) (hp : Bts pd) (o : Nat) : ∀ n, Bts (quz d o pd n)
  | 0 => hd
  | n + 1 => fun x hx => by
    rcases List.mem_or_eq_of_mem_set hx with h | h
    · exact qiy hd hp o n x h
    · rw [h]; exact qMx hp n
abbrev iEq : Int → Int → Bool := peq (.int .i64)
theorem qyu (a b : Int) : iEq a b = true ↔ a = b := by simp [peq]
def Rt (m : List (Int × Bool)) (t : List Bool) : Prop := (∀ x : Int, (qrj iEq x m).isSome = true ↔ 0 ≤ x ∧ x < (t.length : Int) ∧ t.getD x.toNat false = true) ∧ m.length = t.countP id
theorem qzy {α β : Type} {eq : α → α → Bool} (h : ∀ a b, eq a b = true ↔ a = b) (x : α) (v : β) : ∀ m : List (α × β), (qVs eq x v m).length = m.length + if (qrj eq x m).isSome then 0 else 1
  | [] => by simp [qVs, qrj]
  | e :: r => by
    have ih := qzy h x v r
    by_cases hx : eq x e.1 = true
    · have h1 : qVs eq x v (e :: r) = (x, v) :: r := if_pos hx
      have h2 : qrj eq x (e :: r) = some e.2 := if_pos hx
      rw [h1, h2]; simp
    · have h1 : qVs eq x v (e :: r) = e :: qVs eq x v r := if_neg hx
      have h2 : qrj eq x (e :: r) = qrj eq x r := if_neg hx
      rw [h1, h2]
      simp only [List.length_cons, ih]; omega
theorem qiw : ∀ (t : List Bool) (i : Nat), i < t.length → (t.set i true).countP id = t.countP id + if t.getD i false then 0 else 1
  | [], i, h => by simp at h
  | b :: t, 0, h => by cases b <;> simp
  | b :: t, i + 1, h => by
    have := qiw t i (by simpa using h)
    simp only [List.set_cons_succ, List.countP_cons, List.getD_cons_succ, this]; omega
theorem Rt.set {m : List (Int × Bool)} {t : List Bool} (h : Rt m t) {i : Nat} (hi : i < t.length) : Rt (qVs iEq (i : Int) true m) (t.set i true) := by
  refine ⟨fun x => ?_, ?_⟩
  · rw [qio qyu, List.length_set]
    by_cases hx : x = (i : Int)
    · rw [if_pos ((qyu _ _).2 hx), hx, Int.toNat_natCast, List.getD_eq_getElem?_getD, List.getElem?_set_self hi]
      simp; omega
    · rw [if_neg (fun k => hx ((qyu _ _).1 k)), h.1 x]
      constructor
      · rintro ⟨a, b, c⟩
        refine ⟨a, b, ?_⟩
        rw [List.getD_eq_getElem?_getD, List.getElem?_set_ne (by omega), ← List.getD_eq_getElem?_getD]; exact c
      · rintro ⟨a, b, c⟩
        refine ⟨a, b, ?_⟩
        rw [List.getD_eq_getElem?_getD, List.getElem?_set_ne (by omega), ← List.getD_eq_getElem?_getD] at c; exact c
  · rw [qzy qyu, qiw t i hi, h.2]
    congr 1
    have := h.1 (i : Int)
    rw [Int.toNat_natCast] at this
    by_cases hs : t.getD i false = true
    · rw [if_pos (this.2 ⟨by omega, by omega, hs⟩), if_pos hs]
    · rw [if_neg (fun k => hs (this.1 k).2.2), if_neg hs]
theorem Rt.nil (n : Nat) : Rt [] (List.replicate n false) := by
  refine ⟨fun x => ?_, by simp [List.countP_replicate]⟩
  simp only [qrj, Option.isSome_none, Bool.false_eq_true, false_iff, not_and, List.length_replicate]
  intro _ _
  rw [List.getD_eq_getElem?_getD, List.getElem?_replicate]
  split <;> simp
structure PtIn (rs : List qaa) (q : qra) : Prop where
  mem : 0 ≤ q.1.1 ∧ q.1.1 < (rs.length : Int)
  off : 0 ≤ q.1.2.1
  fit : q.1.2.1 + (q.2.1.length : Int) ≤ (rs.getD q.1.1.toNat (qla qba)).2.1
  bts : Bts q.2.1
theorem qhB (rs : List qaa) : ∀ (fs : List qpa) (out : List qra), (∀ f ∈ fs, fOK f ∧ Bts f.2.2.1) → (∀ q ∈ out, PtIn rs q) → ∀ q ∈ prt rs fs out, PtIn rs q
  | [], out, _, h, q, hq => h q hq
  | f :: fs, out, hF, h, q, hq => by
    unfold prt at hq
    split at hq
    · rename_i hc
      refine qhB rs fs _ (fun g hg => hF g (by simp [hg])) (fun p hp => ?_) q hq
      rcases List.mem_append.1 hp with hp | hp
      · exact h p hp
      · rw [List.mem_singleton.1 hp]
        obtain ⟨⟨h1, h2, _, _⟩, hb⟩ := hF f (by simp)
        unfold hOK at h1
        have hw := hc.1
        exact ⟨⟨by show 0 ≤ f.2.1.2.1; omega, hw.1⟩, by show 0 ≤ f.2.1.2.2.1; omega, by
          have := hw.2
          show f.2.1.2.2.1 + (f.2.2.1.length : Int) ≤ _
          rw [h2]; exact this, hb⟩
    · exact qhB rs fs _ (fun g hg => hF g (by simp [hg])) h q hq
def fD (i : Int) : List qra → List Int → List Int
  | [], d => d
  | p :: ps, d => fD i ps (if p.1.1 = i then quz d p.1.2.1.toNat p.2.1 p.2.1.length else d)
def fT (i : Int) : List qra → List Bool → List Bool
  | [], t => t
  | p :: ps, t => fT i ps (if p.1.1 = i then qcE t p.1.2.1.toNat p.2.1.length else t)
theorem qbC (i : Int) : ∀ (ps : List qra) (d : List Int), (fD i ps d).length = d.length
  | [], d => rfl
  | p :: ps, d => by
    simp only [fD, qbC i ps]
    split
    · rw [qDl]
    · rfl
theorem qaC (i : Int) : ∀ (ps : List qra) (t : List Bool), (fT i ps t).length = t.length
  | [], t => rfl
  | p :: ps, t => by
    simp only [fT, qaC i ps]
    split
    · rw [qZh]
    · rfl
theorem qxE (i : Int) : ∀ (ps : List qra) (d : List Int), (∀ q ∈ ps, Bts q.2.1) → Bts d → Bts (fD i ps d)
  | [], d, _, hd => hd
  | p :: ps, d, h, hd => by
    simp only [fD]
    refine qxE i ps _ (fun q hq => h q (by simp [hq])) ?_
    split
    · exact qiy hd (h p (by simp)) _ _
    · exact hd
section
variable (rs : List qaa) (parts : List qra)
theorem qEF (i : Int) (rl v42 : Int) (j : Nat) (hj : j ≤ 1000) (h9 : List qia) (h10 : List Bool) (r : qaa) (d : List Int) (p : qra) (t : List Bool) (ho : 0 ≤ p.1.2.1) (hf : p.1.2.1 + (p.2.1.length : Int) ≤ (t.length : Int)) (ht : t.length ≤ 8192) : ∀ (k n : Nat) (m : List (Int × Bool)), n + k = p.2.1.length → Rt m (qcE t p.1.2.1.toNat n) →
    ∃ m', Rt m' (qcE t p.1.2.1.toNat p.2.1.length) ∧ qld i rs rl i v42 (j : Int) (p.2.1.length : Int) (n : Int) parts h9 h10 m r d p = qbb i rs rl i v42 ((j : Int) + 1) parts h9 h10 m' r d
  | 0, n, m, e, hm => by
    have : n = p.2.1.length := by omega
    subst this
    exact ⟨m, hm, by rw [qIg, if_neg (by simp), w64 (by omega) (by omega)]⟩
  | k + 1, n, m, e, hm => by
    have hs := hm.set (i := p.1.2.1.toNat + n) (by rw [qZh]; omega)
    obtain ⟨m', h1, h2⟩ := qEF i rl v42 j hj h9 h10 r d p t ho hf ht k (n + 1) _ (by omega) hs
    refine ⟨m', h1, ?_⟩
    rw [qIg, if_pos (by simp; omega), w64 (x := p.1.2.1 + n) (by omega) (by omega), w64 (x := (n : Int) + 1) (by omega) (by omega)]
    rw [show ((n + 1 : Nat) : Int) = (n : Int) + 1 by omega, show ((p.1.2.1.toNat + n : Nat) : Int) = p.1.2.1 + n by omega] at h2
    exact h2
theorem qLE (hps : parts.length ≤ 1000) (hin : ∀ q ∈ parts, PtIn rs q) (i : Nat) (rl : Int) (h9 : List qia) (h10 : List Bool) (r : qaa) (hr : rs.getD i (qla qba) = r) (hsz : 0 ≤ r.2.1 ∧ r.2.1 ≤ 8192) : ∀ (k j : Nat) (m : List (Int × Bool)) (d : List Int) (t : List Bool), j + k = parts.length → Rt m t → (d.length : Int) = r.2.1 → (t.length : Int) = r.2.1 →
    ∃ m', Rt m' (fT (i : Int) (parts.drop j) t) ∧ qbb (i : Int) rs rl (i : Int) (parts.length : Int) (j : Int) parts h9 h10 m r d = qbb (i : Int) rs rl (i : Int) (parts.length : Int) (parts.length : Int) parts h9 h10 m' r (fD (i : Int) (parts.drop j) d)
  | 0, j, m, d, t, e, hm, hd, ht => by
    have : j = parts.length := by omega
    subst this
    rw [List.drop_eq_nil_of_le (by omega)]
    exact ⟨m, hm, rfl⟩
  | k + 1, j, m, d, t, e, hm, hd, ht => by
    have hl' : Int.ofNat parts.length = (parts.length : Int) := rfl
    obtain ⟨d1, _, d3⟩ := qDa (qla qya : qra) (xs := parts) (i := j) (by omega)
    have hp := hin _ d3
    rw [qJg, if_pos (by simp; omega), qea (by omega), qea (by rw [hl']; omega), Int.toNat_natCast, Nat.zero_add, d1]
    generalize parts.getD j (qla qya) = p at *
    by_cases hpi : p.1.1 = (i : Int)
    · have hfit := hp.fit
      have hoff := hp.off
      rw [show p.1.1.toNat = i by omega, hr] at hfit
      have hl3 : Int.ofNat d.length = (d.length : Int) := rfl
      have hl4 : Int.ofNat p.2.1.length = (p.2.1.length : Int) := rfl
      rw [if_neg (by rw [hpi]; simp), qea (by omega), qea (by rw [hl3]; omega), Nat.zero_add, Nat.min_eq_left (by omega), List.take_of_length_le (Nat.le_refl _), hl4]
      have e1 : qkd d p.1.2.1.toNat p.2.1 = quz d p.1.2.1.toNat p.2.1 p.2.1.length := by
        rw [qkr d _ _ _ (Nat.le_refl _) (by omega), List.take_of_length_le (Nat.le_refl _)]
      rw [e1]
      obtain ⟨m1, g1, g2⟩ := qEF rs parts (i : Int) rl (parts.length : Int) j (by omega) h9 h10 r (quz d p.1.2.1.toNat p.2.1 p.2.1.length) p t hoff (by omega) (by omega) p.2.1.length 0 m (by omega) hm
      obtain ⟨m2, k1, k2⟩ := qLE hps hin i rl h9 h10 r hr hsz k (j + 1) m1 (quz d p.1.2.1.toNat p.2.1 p.2.1.length) _ (by omega) g1 (by rw [qDl]; exact hd) (by rw [qZh]; exact ht)
      rw [show ((j + 1 : Nat) : Int) = (j : Int) + 1 by omega] at k2
      refine ⟨m2, by rw [fT, if_pos hpi]; exact k1, ?_⟩
      rw [fD, if_pos hpi]
      exact g2.trans k2
    · obtain ⟨m2, k1, k2⟩ := qLE hps hin i rl h9 h10 r hr hsz k (j + 1) m d t (by omega) hm hd ht
      rw [show ((j + 1 : Nat) : Int) = (j : Int) + 1 by omega] at k2
      refine ⟨m2, by rw [fT, if_neg hpi]; exact k1, ?_⟩
      rw [fD, if_neg hpi, if_pos (bne_iff_ne.2 hpi), w64 (by omega) (by omega)]
      exact k2
def zD (r : qaa) : List Int := List.replicate r.2.1.toNat 0
def zT (r : qaa) : List Bool := List.replicate r.2.1.toNat false
def qUF (i : Nat) (r : qaa) : qia := (r.1, (fD (i : Int) parts (zD r), ()))
noncomputable def qDw (i : Nat) (r : qaa) : Bool := (fT (i : Int) parts (zT r)).all id && peq (.arr 20 (.int .u8)) (qGg (fD (i : Int) parts (zD r))) r.2.2.1
noncomputable def qly : Nat → List qaa → List Bool
  | _, [] => []
  | i, r :: q => qDw parts i r :: qly (i + 1) q
def qmy : Nat → List qaa → List qia
  | _, [] => []
  | i, r :: q => qUF parts i r :: qmy (i + 1) q
theorem qtw (t : List Bool) : t.countP id = t.length ↔ t.all id = true := by
  rw [List.countP_eq_length, List.all_eq_true]
theorem qFF (hps : parts.length ≤ 1000) (hR : RecsV rs) (hin : ∀ q ∈ parts, PtIn rs q) : ∀ (k i : Nat) (h9 : List qia) (h10 : List Bool) (m : List (Int × Bool)), i + k = rs.length → h9.length = i → h10.length = i →
    qkc rs (rs.length : Int) (i : Int) parts h9 h10 m = some (h9 ++ qmy parts i (rs.drop i), (h10 ++ qly parts i (rs.drop i), 0))
  | 0, i, h9, h10, m, e, e9, e10 => by
    rw [qKg, if_neg (by simp; omega), List.drop_eq_nil_of_le (by omega)]; simp [qmy, qly]
  | k + 1, i, h9, h10, m, e, e9, e10 => by
    have hl' : Int.ofNat rs.length = (rs.length : Int) := rfl
    have hl2 : Int.ofNat parts.length = (parts.length : Int) := rfl
    have hlen := hR.len
    obtain ⟨d1, _, d3⟩ := qDa (qla qba : qaa) (xs := rs) (i := i) (by omega)
    have hv := hR.each _ d3
    have ih := fun h9 h10 m e9 e10 => qFF hps hR hin k (i + 1) h9 h10 m (by omega) e9 e10
    rw [show ((i + 1 : Nat) : Int) = (i : Int) + 1 by omega] at ih
    rw [qKg, if_pos (by simp; omega), qea (by omega), qea (by rw [hl']; omega), Int.toNat_natCast, d1]
    generalize hr : rs.getD i (qla qba) = r at *
    rw [qea rfl, qea hv.1, qea (by omega), qea (by omega), hl2]
    have hzd : (zD r).length = r.2.1.toNat := by simp [zD]
    have hzt : (zT r).length = r.2.1.toNat := by simp [zT]
    obtain ⟨m1, g1, g2⟩ := qLE rs parts hps hin i (rs.length : Int) h9 h10 r hr ⟨hv.1, hv.2.1⟩ parts.length 0 [] (zD r) (zT r) (by omega) (Rt.nil _) (by omega) (by omega)
    refine Eq.trans g2 ?_
    rw [List.drop_zero] at g1 ⊢
    have hdl := qbC (i : Int) parts (zD r)
    have htl := qaC (i : Int) parts (zT r)
    have hbt : Bts (fD (i : Int) parts (zD r)) := qxE _ _ _ (fun q hq => (hin q hq).bts) (fun x hx => by rw [List.eq_of_mem_replicate hx]; omega)
    rw [qJg, if_neg (by simp), qRo _ hbt, if_pos (by omega)]
    simp only [Option.bind_some]
    have hm := g1.2
    rw [qea (by simp; omega), w64 (by omega) (by omega)]
    have hw : qDw parts i r = ((fT (i : Int) parts (zT r)).all id && peq (.arr 20 (.int .u8)) (qGg (fD (i : Int) parts (zD r))) r.2.2.1) := rfl
    by_cases ha : (fT (i : Int) parts (zT r)).all id = true
    · have hc := (qtw _).2 ha
      have : (Int.ofNat m1.length == r.2.1) = true := by
        have : Int.ofNat m1.length = (m1.length : Int) := rfl
        rw [this, beq_iff_eq]; omega
      rw [if_pos this, qea (by simp; omega), ih _ _ _ (by simp; omega) (by simp; omega), qmy, qly, hw, ha, Bool.true_and]
      simp [qUF]
    · have hc : ¬ (fT (i : Int) parts (zT r)).countP id = (fT (i : Int) parts (zT r)).length := fun k => ha ((qtw _).1 k)
      have : ¬ (Int.ofNat m1.length == r.2.1) = true := by
        have : Int.ofNat m1.length = (m1.length : Int) := rfl
        rw [this, beq_iff_eq]; omega
      rw [if_neg this, qea (by simp; omega), ih _ _ _ (by simp; omega) (by simp; omega), qmy, qly, hw, Bool.eq_false_iff.2 ha, Bool.false_and]
      simp [qUF]
end
noncomputable def reb (rs : List qaa) (fs : List qpa) : List qia × List Bool × Int :=
  if fck rs fs ≠ 0 then ([], ([], fck rs fs)) else (qmy (prt rs fs []) 0 rs, (qly (prt rs fs []) 0 rs, 0))
theorem qSE {rs : List qaa} {fs : List qpa} (hF : qpA fs) (h : fck rs fs = 0) : (∀ q ∈ prt rs fs [], PtIn rs q) ∧ (prt rs fs []).length ≤ 1000 := by
  obtain ⟨h1, h2, h3⟩ := qzu h
  refine ⟨qhB rs fs [] (fun f hf => ⟨h3 f hf, (hF.2 f hf).2⟩) (fun q hq => by cases hq), ?_⟩
  have := qax rs fs []
  simp at this; omega
theorem qMl (rs : List qaa) (hR : RecsOK rs) (fs : List qpa) (hF : qpA fs) : qAh rs fs = some (reb rs fs) := by
  rw [qVn, qWn rs hR fs hF]
  simp only [Option.bind_some, qNG, reb]
  by_cases h : fck rs fs = 0
  · obtain ⟨h1, _, _⟩ := qzu h
    obtain ⟨h4, h5⟩ := qSE hF h
    rw [if_neg (show ¬ fck rs fs ≠ 0 from fun k => k h), if_neg (show ¬ fck rs fs ≠ 0 from fun k => k h), if_neg (show ¬ ((0 : Int) != 0) = true by decide)]
    exact qFF rs _ h5 (qhb h1) h4 rs.length 0 [] [] [] (by omega) rfl rfl
  · rw [if_pos h, if_pos h, if_pos (bne_iff_ne.2 h)]
open Classical
theorem qhy (d : List Int) (o : Nat) (pd : List Int) (x : Nat) : ∀ n, o + n ≤ d.length → (quz d o pd n).getD x 0 = if o ≤ x ∧ x < o + n then pd.getD (x - o) 0 else d.getD x 0
  | 0, h => by rw [if_neg (by omega)]; rfl
  | n + 1, h => by
    have ih := qhy d o pd x n (by omega)
    have hl := qDl d o pd n
    rw [quz]
    by_cases hx : x = o + n
    · subst hx
      rw [if_pos (by omega), List.getD_eq_getElem?_getD, List.getElem?_set_self (by omega)]
      rw [show o + n - o = n by omega]; rfl
    · rw [List.getD_eq_getElem?_getD, List.getElem?_set_ne (by omega), ← List.getD_eq_getElem?_getD, ih]
      by_cases hc : o ≤ x ∧ x < o + n
      · rw [if_pos hc, if_pos (by omega)]
      · rw [if_neg hc, if_neg (by omega)]
theorem qau (t : List Bool) (o : Nat) (x : Nat) : ∀ n, o + n ≤ t.length → (qcE t o n).getD x false = if o ≤ x ∧ x < o + n then true else t.getD x false
  | 0, h => by rw [if_neg (by omega)]; rfl
  | n + 1, h => by
    have ih := qau t o x n (by omega)
    have hl := qZh t o n
    rw [qcE]
    by_cases hx : x = o + n
    · subst hx
      rw [if_pos (by omega), List.getD_eq_getElem?_getD, List.getElem?_set_self (by omega)]; rfl
    · rw [List.getD_eq_getElem?_getD, List.getElem?_set_ne (by omega), ← List.getD_eq_getElem?_getD, ih]
      by_cases hc : o ≤ x ∧ x < o + n
      · rw [if_pos hc, if_pos (by omega)]
      · rw [if_neg hc, if_neg (by omega)]
def qoH (i : Int) (ps : List qra) (d : List Int) (t : List Bool) : Prop := ∀ x : Nat, x < t.length → t.getD x false = true → ∃ q ∈ ps, cov q i x (d.getD x 0)
theorem qXt (rs : List qaa) (i : Nat) : ∀ (ps pre : List qra) (d : List Int) (t : List Bool), (∀ q ∈ ps, PtIn rs q) → (d.length : Int) = (rs.getD i (qla qba)).2.1 → t.length = d.length → qoH (i : Int) pre d t → qoH (i : Int) (pre ++ ps) (fD (i : Int) ps d) (fT (i : Int) ps t)
  | [], pre, d, t, _, _, _, h => by rw [List.append_nil]; exact h
  | p :: ps, pre, d, t, hin, hd, ht, h => by
    have e : pre ++ p :: ps = (pre ++ [p]) ++ ps := by rw [List.append_assoc]; rfl
    rw [e, fD, fT]
    have hp := hin p List.mem_cons_self
    by_cases hpi : p.1.1 = (i : Int)
    · rw [if_pos hpi, if_pos hpi]
      have hfit := hp.fit
      rw [hpi, Int.toNat_natCast, ← hd] at hfit
      have ho := hp.off
      have h1 : p.1.2.1.toNat + p.2.1.length ≤ d.length := by omega
      refine qXt rs i ps _ _ _ (fun q hq => hin q (List.mem_cons_of_mem _ hq)) (by rw [qDl]; exact hd) (by rw [qDl, qZh]; exact ht) (fun x hx hT => ?_)
      rw [qZh] at hx
      rw [qau t _ x _ (by omega)] at hT
      rw [qhy d _ _ x _ h1]
      by_cases hc : p.1.2.1.toNat ≤ x ∧ x < p.1.2.1.toNat + p.2.1.length
      · rw [if_pos hc]
        refine ⟨p, List.mem_append_right _ List.mem_cons_self, hpi, by omega, by omega, ?_⟩
        rw [show ((x : Int) - p.1.2.1).toNat = x - p.1.2.1.toNat by omega]
      · rw [if_neg hc] at hT ⊢
        obtain ⟨q, hq, hcv⟩ := h x hx hT
        exact ⟨q, List.mem_append_left _ hq, hcv⟩
    · rw [if_neg hpi, if_neg hpi]
      refine qXt rs i ps _ _ _ (fun q hq => hin q (List.mem_cons_of_mem _ hq)) hd ht (fun x hx hT => ?_)
      obtain ⟨q, hq, hcv⟩ := h x hx hT
      exact ⟨q, List.mem_append_left _ hq, hcv⟩
theorem qjs {t : List Bool} (h : t.all id = true) {x : Nat} (hx : x < t.length) : t.getD x false = true := by
  rw [List.getD_eq_getElem?_getD, List.getElem?_eq_getElem hx]
  exact List.all_eq_true.1 h _ (List.getElem_mem hx)
theorem qRx {t : List Bool} (h : ∀ x, x < t.length → t.getD x false = true) : t.all id = true := by
  refine List.all_eq_true.2 (fun b hb => ?_)
  obtain ⟨x, hx, e⟩ := List.mem_iff_getElem.1 hb
  have := h x hx
  rw [List.getD_eq_getElem?_getD, List.getElem?_eq_getElem hx] at this
  rw [← e]; exact this
theorem qno {a b : List Int} (hl : a.length = b.length) (h : ∀ x, x < a.length → a.getD x 0 = b.getD x 0) : a = b := by
  refine List.ext_getElem hl (fun x h1 h2 => ?_)
  have := h x h1
  rw [List.getD_eq_getElem?_getD, List.getD_eq_getElem?_getD, List.getElem?_eq_getElem h1, List.getElem?_eq_getElem h2] at this
  exact this
theorem qWt (a : List Int) : peq (.arr 20 (.int .u8)) a a = true := by
  simp only [peq]
  exact qDk (fun y => by simp) _
def chk (a : qna) : Int := if 0 ≤ a.1 ∧ a.1 ≤ 7 ∧ 16 ≤ a.2.1 ∧ a.2.1 ≤ 4096 then 0 else 2
theorem qEh (a : qna) : qSi a = some (chk a) := by
  rw [qiu, chk]
  by_cases h1 : a.1 < 0
  · rw [if_pos (by simpa using h1), if_neg (by omega)]
  · rw [if_neg (by simpa using h1)]
    by_cases h2 : a.1 > 7
    · rw [if_pos (by simpa using h2), if_neg (by omega)]
    · rw [if_neg (by simpa using h2)]
      by_cases h3 : a.2.1 < 16
      · rw [if_pos (by simpa using h3), if_neg (by omega)]
      · rw [if_neg (by simpa using h3)]
        by_cases h4 : a.2.1 > 4096
        · rw [if_pos (by simpa using h4), if_neg (by omega)]
        · rw [if_neg (by simpa using h4), if_pos (by omega)]
theorem qoq (a : qna) : qJf a = some (chk a) := by
  rw [qbl, chk, qHd]
  by_cases h1 : a.1 < 0
  · rw [if_pos (by simpa using h1), if_neg (by omega)]
  · rw [if_neg (by simpa using h1)]
    by_cases h2 : a.1 > 7
    · rw [if_pos (by simpa using h2), if_neg (by omega)]
    · rw [if_neg (by simpa using h2)]
      by_cases h3 : a.2.1 ≥ 16
      · rw [if_pos (by simpa using h3)]
        simp only [Option.bind_some]
        by_cases h4 : a.2.1 ≤ 4096
        · rw [if_neg (by simpa using h4), if_pos (by omega)]
        · rw [if_pos (by simpa using h4), if_neg (by omega)]
      · rw [if_neg (by simpa using h3)]
        simp only [Option.bind_some]
        rw [if_pos (by simp), if_neg (by omega)]
def ask (a : qna) (rs : List qaa) : Int := if chk a ≠ 0 then chk a else qGe rs
theorem qAA : ∀ (rs : List qaa), (∀ r ∈ rs, 0 ≤ r.2.1 ∧ r.2.1 ≤ 8192 ∧ r.1.size ≤ 40) → 0 ≤ tot rs
  | [], _ => by simp [tot]
  | r :: rest, h => by
    have h1 := h r (by simp)
    have h2 := qAA rest (fun q hq => h q (by simp [hq]))
    simp only [tot]; omega
def pcs (i n s : Int) : Nat → Int → List qfa
  | 0, _ => []
  | k + 1, off => if off < n then (i, (off, ((if s < n - off then s else n - off), ()))) :: pcs i n s k (off + s) else []
theorem qzr (i n s : Int) (hs : 1 ≤ s) : ∀ (k : Nat) (off : Int), 0 ≤ n → off ≤ n → ((pcs i n s k off).length : Int) ≤ n - off
  | 0, off, _, h => by simp [pcs]; omega
  | k + 1, off, hn, h => by
    simp only [pcs]
    by_cases h1 : off < n
    · rw [if_pos h1]
      by_cases h2 : off + s ≤ n
      · have := qzr i n s hs k (off + s) hn h2
        simp only [List.length_cons]; omega
      · have : pcs i n s k (off + s) = [] := by
          cases k with
          | zero => rfl
          | succ k => simp only [pcs]; rw [if_neg (by omega)]
        rw [this]; simp; omega
    · rw [if_neg h1]; simp; omega
def ap (s : Int) : Int → List qaa → List qfa
  | _, [] => []
  | i, r :: rest => pcs i r.2.1 s 8200 0 ++ ap s (i + 1) rest
def szs (rs : List qaa) : List Int := rs.map (·.2.1)
theorem qer (rs : List qaa) (i : Nat) (h : i < rs.length) : (szs rs).getD i 0 = (rs.getD i (qla qba)).2.1 := by
  unfold szs
  simp only [List.getD_eq_getElem?_getD, List.getElem?_map, List.getElem?_eq_getElem h, Option.map_some, Option.getD_some]
theorem qhg (rs : List qaa) : (szs rs).length = rs.length := by simp [szs]
theorem qOC (s i n : Int) (xs : List Int) (v23 v24 : Int) (hs : 16 ≤ s ∧ s ≤ 4096) (hn : 0 ≤ n ∧ n ≤ 8192) (k : Nat) : ∀ (off : Int) (h : List qfa), n - off ≤ k → 0 ≤ off → off ≤ 13000 → (h.length : Int) + (k : Int) ≤ 1000000 →
    qof s i n off xs v23 v24 h = qyd s xs v23 (IntKind.wrap .i64 (v24 + 1)) (h ++ pcs i n s k off) := by
  induction k with
  | zero =>
    intro off h e h0 h1 hl
    have hc : ¬ off < n := by omega
    rw [qXh, if_neg (by simpa using hc)]
    simp only [pcs, List.append_nil]
  | succ k ih =>
    intro off h e h0 h1 hl
    rw [qXh]
    by_cases hc : off < n
    · rw [if_pos (by simpa using hc), qea (by simp; omega), w64 (x := n - off) (by omega) (by omega), w64 (x := off + s) (by omega) (by omega)]
      rw [ih (off + s) _ (by omega) (by omega) (by omega) (by simp; omega)]
      simp only [pcs, if_pos hc, List.append_assoc, List.singleton_append]
    · rw [if_neg (by simpa using hc)]
      simp only [pcs, if_neg hc, List.append_nil]
theorem qyw (s : Int) (rs : List qaa) (hs : 16 ≤ s ∧ s ≤ 4096) (hR : RecsV rs) : ∀ (k i : Nat) (h : List qfa), i + k = rs.length → (h.length : Int) ≤ 8192 * i →
    qyd s (szs rs) (rs.length : Int) (i : Int) h = some (h ++ ap s i (rs.drop i), 0)
  | 0, i, h, e, hl => by
    rw [qYh, if_neg (by simp; omega), List.drop_eq_nil_of_le (by omega)]
    simp [ap]
  | k + 1, i, h, e, hl => by
    have hlen := hR.len
    obtain ⟨d1, d2, d3⟩ := qDa (qla qba : qaa) (xs := rs) (i := i) (by omega)
    have hl' : Int.ofNat (szs rs).length = (rs.length : Int) := by rw [qhg]; rfl
    have hv := hR.each _ d3
    rw [qYh, if_pos (by simp; omega), qea (by omega), qea (by rw [hl']; omega), Int.toNat_natCast, qer rs i (by omega)]
    rw [qOC s i _ (szs rs) _ _ hs ⟨hv.1, hv.2.1⟩ 8200 0 h (by omega) (by omega) (by omega) (by omega), w64 (by omega) (by omega)]
    have hp := qzr (i : Int) (rs.getD i (qla qba)).2.1 s (by omega) 8200 0 hv.1 hv.1
    have ih := qyw s rs hs hR k (i + 1) (h ++ pcs (i : Int) (rs.getD i (qla qba)).2.1 s 8200 0) (by omega) (by rw [List.length_append]; omega)
    rw [show ((i + 1 : Nat) : Int) = (i : Int) + 1 by omega] at ih
    rw [ih, d1, ap, List.append_assoc]
theorem qez (xs : List Int) (hx : ∀ x ∈ xs, 0 ≤ x) (hl : xs.length ≤ 1000) : ∀ (k i : Nat), i + k = xs.length → qZa xs (xs.length : Int) (i : Int) = some (-1)
  | 0, i, e => by rw [qWc, if_neg (by simp; omega)]
  | k + 1, i, e => by
    have hl' : Int.ofNat xs.length = (xs.length : Int) := rfl
    obtain ⟨d1, d2, d3⟩ := qDa (0 : Int) (xs := xs) (i := i) (by omega)
    have := hx _ d3
    have ih := qez xs hx hl k (i + 1) (by omega)
    rw [show ((i + 1 : Nat) : Int) = (i : Int) + 1 by omega] at ih
    rw [qWc, if_pos (by simp; omega), qea (by omega), qea (by rw [hl']; omega), Int.toNat_natCast, qlq]
    simp only [Option.bind_some]
    rw [if_neg (by simp only [decide_eq_true_eq]; omega), w64 (by omega) (by omega), ih]
theorem qSy (rs : List qaa) (hR : RecsV rs) : ∀ (k i : Nat) (acc : Int), i + k = rs.length → 0 ≤ acc → acc + tot (rs.drop i) ≤ 8192 → qvg acc (szs rs) (rs.length : Int) (i : Int) = some 0
  | 0, i, acc, e, h0, h1 => by rw [qNi, if_neg (by simp; omega)]
  | k + 1, i, acc, e, h0, h1 => by
    have hlen := hR.len
    have hl' : Int.ofNat (szs rs).length = (rs.length : Int) := by rw [qhg]; rfl
    obtain ⟨d1, d2, d3⟩ := qDa (qla qba : qaa) (xs := rs) (i := i) (by omega)
    have hv := hR.each _ d3
    have ht := qAA (rs.drop (i + 1)) (fun r hr => hR.each r (List.mem_of_mem_drop hr))
    rw [d1, tot] at h1
    rw [qNi, if_pos (by simp; omega), qea (by omega), qea (by rw [hl']; omega), Int.toNat_natCast, qer rs i (by omega)]
    rw [if_neg (show ¬ (8193 : Int) < (rs.getD i (qla qba)).2.1 by omega), w64 (by omega) (by omega), if_neg (by simp only [decide_eq_true_eq]; omega), w64 (by omega) (by omega)]
    have ih := qSy rs hR k (i + 1) (acc + (rs.getD i (qla qba)).2.1) (by omega) (by omega) (by omega)
    rw [show ((i + 1 : Nat) : Int) = (i : Int) + 1 by omega] at ih
    exact ih
theorem qVx (s : Int) (rs : List qaa) (hs : 16 ≤ s ∧ s ≤ 4096) (hR : RecsV rs) : quk (szs rs) s = some (ap s 0 rs, 0) := by
  have hlen := hR.len
  have hl' : Int.ofNat (szs rs).length = (rs.length : Int) := by rw [qhg]; rfl
  have hc : qNm (szs rs) = some 0 := by
    have hi := qez (szs rs) (fun x hx => by
      obtain ⟨r, hr, rfl⟩ := List.mem_map.1 hx
      exact (hR.each r hr).1) (by rw [qhg]; omega) (szs rs).length 0 (by omega)
    have hi' : qOc (szs rs) = some (-1) := by rw [qxh]; exact hi
    rw [qNs, qFg, hi']
    simp only [Option.bind_some]
    rw [if_neg (by simp), hl', if_neg (by simp; omega)]
    exact qSy rs hR rs.length 0 0 (by omega) (by omega) (by have := hR.tot; simp; omega)
  rw [qir, hc]
  simp only [Option.bind_some]
  rw [if_neg (by simp), if_neg (by simp; omega), if_neg (by simp; omega), hl']
  exact qyw s rs hs hR rs.length 0 [] (by omega) (by simp)
theorem qoB (i n s : Int) : ∀ (k : Nat) (off : Int), (pcs i n s k off).length = (pcs 0 n s k off).length
  | 0, off => rfl
  | k + 1, off => by
    simp only [pcs]
    by_cases h : off < n
    · rw [if_pos h, if_pos h]; simp only [List.length_cons, qoB i n s k]
    · rw [if_neg h, if_neg h]
def pcn (s : Int) (r : qaa) : Int := ((pcs 0 r.2.1 s 8200 0).length : Int)
def qaF (s : Int) (rs : List qaa) : List Int := rs.map (pcn s)
def qkD : List Int → Int
  | [] => 0
  | x :: r => x + qkD r
theorem qBE (s : Int) : ∀ (rs : List qaa) (i : Int), ((ap s i rs).length : Int) = qkD (qaF s rs)
  | [], i => rfl
  | r :: rest, i => by
    have := qBE s rest (i + 1)
    simp only [ap, List.length_append, qaF, List.map_cons, qkD, qoB i, pcn] at this ⊢
    omega
theorem qXF (s : Int) (hs : 16 ≤ s) (rs : List qaa) (hR : RecsV rs) : ∀ x ∈ qaF s rs, 0 ≤ x ∧ x ≤ 9000 := by
  intro x hx
  obtain ⟨r, hr, rfl⟩ := List.mem_map.1 hx
  have hv := hR.each r hr
  have := qzr 0 r.2.1 s (by omega) 8200 0 hv.1 hv.1
  unfold pcn
  omega
theorem qYq (s : Int) (hs : 16 ≤ s) (rs : List qaa) (hR : RecsV rs) : ((ap s 0 rs).length : Int) ≤ 100000 := by
  have h1 := qBE s rs 0
  have h2 : ∀ xs : List Int, (∀ x ∈ xs, 0 ≤ x ∧ x ≤ 9000) → qkD xs ≤ 9000 * (xs.length : Int) := by
    intro xs
    induction xs with
    | nil => intro _; simp [qkD]
    | cons x xs ih =>
      intro h
      have := h x (by simp)
      have := ih (fun y hy => h y (by simp [hy]))
      simp only [qkD, List.length_cons]; omega
  have h3 := h2 (qaF s rs) (qXF s hs rs hR)
  have h4 := hR.tot
  have h5 : ∀ rs : List qaa, (∀ r ∈ rs, 0 ≤ r.2.1 ∧ r.2.1 ≤ 8192 ∧ r.1.size ≤ 40) → qkD (qaF s rs) ≤ tot rs := by
    intro rs
    induction rs with
    | nil => intro _; simp [qaF, qkD, tot]
    | cons r rs ih =>
      intro h
      have hv := h r (by simp)
      have := ih (fun y hy => h y (by simp [hy]))
      have hp := qzr 0 r.2.1 s (by omega) 8200 0 hv.1 hv.1
      simp only [qaF, List.map_cons, qkD, tot, pcn] at this ⊢
      omega
  have := h5 rs hR.each
  omega
def qLB : List qaa → Int
  | [] => 0
  | r :: rest => 23 + (r.1.size : Int) + qLB rest
theorem qGy : ∀ (rs : List qaa), (∀ r ∈ rs, 0 ≤ r.2.1 ∧ r.2.1 ≤ 8192 ∧ r.1.size ≤ 40) → 0 ≤ qLB rs ∧ qLB rs ≤ 100 * (rs.length : Int)
  | [], _ => by simp [qLB]
  | r :: rest, h => by
    have h1 := h r (by simp)
    have h2 := qGy rest (fun q hq => h q (by simp [hq]))
    simp only [qLB, List.length_cons]; omega
def qlv (r : qaa) : List Int := (([IntKind.wrap .u8 (r.1.size : Int)] ++ qob r.1) ++ [IntKind.wrap .u8 (Int.fdiv r.2.1 256), IntKind.wrap .u8 r.2.1]) ++ List.take 20 (List.drop 0 r.2.2.1)
def qMa : List qaa → List Int
  | [] => []
  | r :: rest => qlv r ++ qMa rest
def qls (a : qna) (n : Int) : List Int := [66, 76, 70, 1, IntKind.wrap .u8 a.1, IntKind.wrap .u8 (Int.fdiv a.2.1 256), IntKind.wrap .u8 a.2.1, IntKind.wrap .u8 n]
def qnf (a : qna) (rs : List qaa) : List Int := qls a rs.length ++ qMa rs
def qIh (a : qna) (rs : List qaa) : List Int := qnf a rs ++ qGg (qnf a rs)
def SumsOK (rs : List qaa) : Prop := ∀ r ∈ rs, r.2.2.1.length = 20 ∧ Bts r.2.2.1
theorem qyv (s : ByteArray) : Bts (qob s) := by
  intro x hx
  obtain ⟨b, _, rfl⟩ := List.mem_map.1 hx
  have := b.toNat_lt
  omega
theorem qBj (r : qaa) (h : r.2.2.1.length = 20) : (qlv r).length = 23 + r.1.size := by
  simp only [qlv, List.length_append, List.length_cons, List.length_nil, qNg, List.length_take, List.drop_zero, h]
  omega
theorem qrD (r : qaa) (h : Bts r.2.2.1) : Bts (qlv r) :=
  Bts.append (Bts.append (Bts.append (Bts.cons (qtF _) Bts.nil) (qyv _)) (Bts.cons (qtF _) (Bts.cons (qtF _) Bts.nil))) ((h.drop 0).take 20)
theorem qCk : ∀ (rs : List qaa), SumsOK rs → ((qMa rs).length : Int) = qLB rs
  | [], _ => rfl
  | r :: rest, h => by
    have h1 := qBj r (h r (by simp)).1
    have h2 := qCk rest (fun q hq => h q (by simp [hq]))
    simp only [qMa, qLB, List.length_append]
    omega
theorem qkv : ∀ (rs : List qaa), SumsOK rs → Bts (qMa rs)
  | [], _ => Bts.nil
  | r :: rest, h => (qrD r (h r (by simp)).2).append (qkv rest (fun q hq => h q (by simp [hq])))
theorem qRz (a : qna) (n : Int) : Bts (qls a n) := by
  unfold qls
  repeat first | exact Bts.nil | refine Bts.cons (qtF _) ?_ | refine Bts.cons (by omega) ?_
theorem qpw (a : qna) (rs : List qaa) (h : SumsOK rs) : Bts (qnf a rs) := (qRz _ _).append (qkv rs h)
theorem qPv (a : qna) (rs : List qaa) (h : SumsOK rs) : Bts (qIh a rs) := (qpw a rs h).append (qMq _)
theorem qOB (a : qna) (rs : List qaa) (h : SumsOK rs) : ((qIh a rs).length : Int) = 28 + qLB rs := by
  have := qCk rs h
  simp only [qIh, qnf, List.length_append, qqf]
  have : (qls a rs.length).length = 8 := rfl
  omega
theorem qaz (rs : List qaa) (hR : RecsV rs) (hS : SumsOK rs) : ∀ (k i : Nat) (h : List Int), i + k = rs.length → (h.length : Int) ≤ 100 * i → qxf rs (rs.length : Int) (i : Int) h = some (h ++ qMa (rs.drop i), 0)
  | 0, i, h, e, hl => by
    rw [qhi, if_neg (by simp; omega), List.drop_eq_nil_of_le (by omega)]; simp [qMa]
  | k + 1, i, h, e, hl => by
    have hlen := hR.len
    have hl' : Int.ofNat rs.length = (rs.length : Int) := rfl
    obtain ⟨d1, d2, d3⟩ := qDa (qla qba : qaa) (xs := rs) (i := i) (by omega)
    have hv := hR.each _ d3
    have hs := hS _ d3
    have hb := qBj _ hs.1
    rw [qhi, if_pos (by simp; omega), qea (by omega), qea (by rw [hl']; omega), Int.toNat_natCast]
    generalize (rs.getD i (qla qba) : qaa) = r at *
    have e1 : (((h ++ [IntKind.wrap .u8 (Int.ofNat r.1.size)]) ++ qob r.1) ++ [IntKind.wrap .u8 (Int.fdiv r.2.1 256), IntKind.wrap .u8 r.2.1]) ++ List.take 20 (List.drop 0 r.2.2.1) = h ++ qlv r := by
      simp only [qlv, List.append_assoc]; rfl
    have ho := qNg r.1
    rw [qea (by simp only [List.length_append, List.length_cons, List.length_nil]; omega), qea (by simp only [List.length_append, List.length_cons, List.length_nil]; omega), qea (by omega), qea (by simp only [List.length_append, List.length_cons, List.length_nil]; omega), e1, qea (by rw [List.length_append]; omega), w64 (by omega) (by omega)]
    have ih := qaz rs hR hS k (i + 1) (h ++ qlv r) (by omega) (by rw [List.length_append]; omega)
    rw [show ((i + 1 : Nat) : Int) = (i : Int) + 1 by omega] at ih
    rw [ih, d1, qMa, List.append_assoc]
theorem qlp (rs : List qaa) (hR : RecsOK rs) (hS : SumsOK rs) : qIk rs = some (if qGe rs ≠ 0 then ([], qGe rs) else (qMa rs, 0)) := by
  rw [qPr, qOd rs hR]
  simp only [Option.bind_some]
  by_cases h : qGe rs = 0
  · rw [if_neg (by simp [h]), if_neg (by simp [h])]
    exact qaz rs (qhb h) hS rs.length 0 [] (by omega) (by simp)
  · rw [if_pos (by simpa using h), if_pos h]
theorem qzm (a : qna) (rs : List qaa) (hR : RecsOK rs) (hS : SumsOK rs) : qfo a rs = some (if ask a rs ≠ 0 then ([], ask a rs) else (qIh a rs, 0)) := by
  rw [qwv, qEh, qlp rs hR hS]
  simp only [Option.bind_some]
  by_cases h : chk a = 0
  · rw [if_neg (by simp [h])]
    have ha : ask a rs = qGe rs := by unfold ask; rw [if_neg (by simp [h])]
    by_cases hv : qGe rs = 0
    · rw [if_neg (show ¬ qGe rs ≠ 0 by simp [hv]), if_neg (by simp), if_neg (by rw [ha]; simp [hv])]
      have hV := qhb hv
      have hlen := hV.len
      have hb := qGy rs hV.each
      have hr := qCk rs hS
      have hbl : (qnf a rs).length = 8 + (qMa rs).length := by simp only [qnf, List.length_append]; rfl
      have e1 : [(66 : Int), 76, 70, 1, IntKind.wrap .u8 a.1, IntKind.wrap .u8 (Int.fdiv a.2.1 256), IntKind.wrap .u8 a.2.1, IntKind.wrap .u8 (Int.ofNat rs.length)] ++ qMa rs = qnf a rs := rfl
      simp only
      rw [qea (by omega), e1, qea (by omega), qRo _ (qpw a rs hS), if_pos (by omega)]
      simp only [Option.bind_some]
      have e2 : List.take 20 (List.drop 0 (qGg (qnf a rs))) = qGg (qnf a rs) := by
        rw [List.drop_zero, List.take_of_length_le (by rw [qqf]; omega)]
      rw [e2, qea (by rw [List.length_append, qqf]; omega)]
      rfl
    · rw [if_pos hv, if_pos (by simpa using hv), if_pos (by rw [ha]; exact hv), ha]
  · have ha : ask a rs = chk a := by unfold ask; rw [if_pos h]
    rw [if_pos (by simpa using h), if_pos (by rw [ha]; exact h), ha]
theorem qlz (rs : List qaa) (hR : RecsV rs) (hS : SumsOK rs) : ∀ (k i : Nat) (h : List Int), i + k = rs.length → (h.length : Int) ≤ 100 * i → qxc rs (i : Int) h = some (h ++ qMa (rs.drop i))
  | 0, i, h, e, hl => by
    have hl' : Int.ofNat rs.length = (rs.length : Int) := rfl
    rw [qkf, if_neg (by simp; omega), List.drop_eq_nil_of_le (by omega)]; simp [qMa]
  | k + 1, i, h, e, hl => by
    have hlen := hR.len
    have hl' : Int.ofNat rs.length = (rs.length : Int) := rfl
    obtain ⟨d1, d2, d3⟩ := qDa (qla qba : qaa) (xs := rs) (i := i) (by omega)
    have hv := hR.each _ d3
    have hs := hS _ d3
    have hb := qBj _ hs.1
    rw [qkf, if_pos (by simp; omega), qea (by omega), qea (by rw [hl']; omega), Int.toNat_natCast]
    generalize (rs.getD i (qla qba) : qaa) = r at *
    have e1 : (((h ++ [IntKind.wrap .u8 (Int.ofNat r.1.size)]) ++ qob r.1) ++ [IntKind.wrap .u8 (Int.fdiv r.2.1 256), IntKind.wrap .u8 r.2.1]) ++ List.take 20 (List.drop 0 r.2.2.1) = h ++ qlv r := by
      simp only [qlv, List.append_assoc]; rfl
    have ho := qNg r.1
    rw [qea (by simp only [List.length_append, List.length_cons, List.length_nil]; omega), qea (by simp only [List.length_append, List.length_cons, List.length_nil]; omega), qea (by omega), qea (by simp only [List.length_append, List.length_cons, List.length_nil]; omega), e1, qea (by rw [List.length_append]; omega), w64 (by omega) (by omega)]
    have ih := qlz rs hR hS k (i + 1) (h ++ qlv r) (by omega) (by rw [List.length_append]; omega)
    rw [show ((i + 1 : Nat) : Int) = (i : Int) + 1 by omega] at ih
    rw [ih, d1, qMa, List.append_assoc]
theorem qXw (a : qna) (rs : List qaa) (hR : RecsV rs) (hS : SumsOK rs) : qKf a rs = some (qIh a rs) := by
  have hb := qGy rs hR.each
  have hlen := hR.len
  have hr := qCk rs hS
  have hbl : (qnf a rs).length = 8 + (qMa rs).length := by simp only [qnf, List.length_append]; rfl
  have h1 : qQf rs = some (qMa rs) := by
    rw [qjl]; exact qlz rs hR hS rs.length 0 [] (by omega) (by simp)
  rw [qcl, qal, qea (by omega), h1]
  simp only [Option.bind_some]
  have e1 : [(66 : Int), 76, 70, 1, IntKind.wrap .u8 a.1, IntKind.wrap .u8 (Int.fdiv a.2.1 256), IntKind.wrap .u8 a.2.1, IntKind.wrap .u8 (Int.ofNat rs.length)] ++ qMa rs = qnf a rs := rfl
  rw [e1, qea (by omega), qJs _ (by omega)]
  simp only [Option.bind_some]
  have e2 : List.take 20 (List.drop 0 (qGg (qnf a rs))) = qGg (qnf a rs) := by
    rw [List.drop_zero, List.take_of_length_le (by rw [qqf]; omega)]
  rw [e2, qea (by rw [List.length_append, qqf]; omega)]
  rfl
theorem qjE (xs : List Int) (hx : ∀ x ∈ xs, 0 ≤ x) (hl : xs.length ≤ 16) : ∀ (k i : Nat), i + k = xs.length → qrc xs (i : Int) = qqb xs 8192 0
  | 0, i, e => by
    have hl' : Int.ofNat xs.length = (xs.length : Int) := rfl
    rw [qbf, hl', if_neg (by simp; omega), if_neg (by simp; omega)]
  | k + 1, i, e => by
    have hl' : Int.ofNat xs.length = (xs.length : Int) := rfl
    obtain ⟨d1, d2, d3⟩ := qDa (0 : Int) (xs := xs) (i := i) (by omega)
    have := hx _ d3
    have ih := qjE xs hx hl k (i + 1) (by omega)
    rw [show ((i + 1 : Nat) : Int) = (i : Int) + 1 by omega] at ih
    rw [qbf, hl', if_pos (by simp; omega), qea (by omega), qea (by omega), Int.toNat_natCast, if_neg (by rw [decide_eq_true_eq]; omega), w64 (by omega) (by omega), ih]
theorem qiE (rs : List qaa) (hR : RecsV rs) : ∀ (k i : Nat) (left : Int), i + k = rs.length → left ≤ 8192 → tot (rs.drop i) ≤ left → qqb (szs rs) left (i : Int) = some 0
  | 0, i, left, e, h0, h1 => by
    have hl' : Int.ofNat (szs rs).length = (rs.length : Int) := by rw [qhg]; rfl
    rw [qaf, hl', if_neg (by simp; omega)]
  | k + 1, i, left, e, h0, h1 => by
    have hlen := hR.len
    have hl' : Int.ofNat (szs rs).length = (rs.length : Int) := by rw [qhg]; rfl
    obtain ⟨d1, d2, d3⟩ := qDa (qla qba : qaa) (xs := rs) (i := i) (by omega)
    have hv := hR.each _ d3
    have ht := qAA (rs.drop (i + 1)) (fun r hr => hR.each r (List.mem_of_mem_drop hr))
    rw [d1, tot] at h1
    rw [qaf, hl', if_pos (by simp; omega), qea (by omega), qea (by omega), Int.toNat_natCast, qer rs i (by omega), if_neg (by rw [decide_eq_true_eq]; omega), qea (by omega), qea (by omega), w64 (x := (i : Int) + 1) (by omega) (by omega), w64 (by omega) (by omega)]
    have ih := qiE rs hR k (i + 1) (left - (rs.getD i (qla qba)).2.1) (by omega) (by omega) (by omega)
    rw [show ((i + 1 : Nat) : Int) = (i : Int) + 1 by omega] at ih
    exact ih
theorem qNE (s : Int) (rs : List qaa) (hs : 16 ≤ s ∧ s ≤ 4096) (hl : rs.length ≤ 16) (i : Nat) (hi : i < rs.length) (hn : 0 ≤ (rs.getD i (qla qba)).2.1 ∧ (rs.getD i (qla qba)).2.1 ≤ 8192) (k : Nat) : ∀ (off : Int) (h : List qfa), (rs.getD i (qla qba)).2.1 - off ≤ k → 0 ≤ off → off ≤ 13000 → (h.length : Int) + (k : Int) ≤ 1000000 →
    qXb (szs rs) s (i : Int) off h = qjb (szs rs) s ((i : Int) + 1) (h ++ pcs (i : Int) (rs.getD i (qla qba)).2.1 s k off) := by
  have hl' : Int.ofNat (szs rs).length = (rs.length : Int) := by rw [qhg]; rfl
  induction k with
  | zero =>
    intro off h e h0 h1 h2
    have hc : ¬ off < (rs.getD i (qla qba)).2.1 := by omega
    rw [qve, hl', qea (by omega), qea (by omega), Int.toNat_natCast, qer rs i hi, if_neg (by simpa using hc), w64 (by omega) (by omega)]
    simp only [pcs, List.append_nil]
  | succ k ih =>
    intro off h e h0 h1 h2
    rw [qve, hl', qea (by omega), qea (by omega), Int.toNat_natCast, qer rs i hi]
    by_cases hc : off < (rs.getD i (qla qba)).2.1
    · have hm : (if (rs.getD i (qla qba)).2.1 - off < s then (rs.getD i (qla qba)).2.1 - off else s) = (if s < (rs.getD i (qla qba)).2.1 - off then s else (rs.getD i (qla qba)).2.1 - off) := by
        split <;> split <;> omega
      rw [if_pos (by simpa using hc), qea (by omega), qea (by omega), w64 (x := (rs.getD i (qla qba)).2.1 - off) (by omega) (by omega), hm, qea (by rw [List.length_append]; simp only [List.length_cons, List.length_nil]; omega), w64 (x := off + s) (by omega) (by omega)]
      rw [ih (off + s) _ (by omega) (by omega) (by omega) (by rw [List.length_append]; simp only [List.length_cons, List.length_nil]; omega)]
      simp only [pcs, if_pos hc, List.append_assoc, List.singleton_append]
    · rw [if_neg (by simpa using hc), w64 (by omega) (by omega)]
      simp only [pcs, if_neg hc, List.append_nil]
theorem qRw (s : Int) (rs : List qaa) (hs : 16 ≤ s ∧ s ≤ 4096) (hR : RecsV rs) : ∀ (k i : Nat) (h : List qfa), i + k = rs.length → (h.length : Int) ≤ 8192 * i → qjb (szs rs) s (i : Int) h = some (h ++ ap s (i : Int) (rs.drop i))
  | 0, i, h, e, hl => by
    have hl' : Int.ofNat (szs rs).length = (rs.length : Int) := by rw [qhg]; rfl
    rw [qwe, hl', if_neg (by simp; omega), List.drop_eq_nil_of_le (by omega)]; simp [ap]
  | k + 1, i, h, e, hl => by
    have hlen := hR.len
    have hl' : Int.ofNat (szs rs).length = (rs.length : Int) := by rw [qhg]; rfl
    obtain ⟨d1, d2, d3⟩ := qDa (qla qba : qaa) (xs := rs) (i := i) (by omega)
    have hv := hR.each _ d3
    have hp := qzr (i : Int) (rs.getD i (qla qba)).2.1 s (by omega) 8200 0 hv.1 hv.1
    have e2 := qNE s rs hs hlen i (by omega) ⟨hv.1, hv.2.1⟩ 8200 0 h (by omega) (by omega) (by omega) (by omega)
    rw [qwe, hl', if_pos (by simp; omega), e2]
    have ih := qRw s rs hs hR k (i + 1) (h ++ pcs (i : Int) (rs.getD i (qla qba)).2.1 s 8200 0) (by omega) (by rw [List.length_append]; omega)
    rw [show ((i + 1 : Nat) : Int) = (i : Int) + 1 by omega] at ih
    rw [ih, d1, ap, List.append_assoc]
theorem qep (s : Int) (rs : List qaa) (hs : 16 ≤ s ∧ s ≤ 4096) (hR : RecsV rs) : qNe (szs rs) s = some (ap s 0 rs, 0) := by
  have hlen := hR.len
  have hz : qnd (szs rs) = some 0 := by
    have h1 := qjE (szs rs) (fun x hx => by
      obtain ⟨r, hr, rfl⟩ := List.mem_map.1 hx
      exact (hR.each r hr).1) (by rw [qhg]; omega) (szs rs).length 0 (by omega)
    have h2 := qiE rs hR rs.length 0 8192 (by omega) (by omega) (by have := hR.tot; simpa using this)
    rw [qdl]
    exact h1.trans h2
  have hp : qRb (szs rs) s = some (ap s 0 rs) := by
    rw [qbg]
    exact qRw s rs hs hR rs.length 0 [] (by omega) (by simp)
  rw [qlk, hz, qHd, if_pos (by simp; omega), hp]
  simp only [Option.bind_some]
  rw [if_neg (by simp), if_neg (by simp; omega)]
instance (h : qda) : Decidable (hOK h) := by unfold hOK; infer_instance
theorem qEm (a : qna) (rs : List qaa) (hs : 16 ≤ a.2.1 ∧ a.2.1 ≤ 4096) (hR : RecsV rs) : ∀ (k i : Nat), i + k = rs.length → qzg rs (rs.length : Int) (i : Int) a (szs (rs.take i)) = some (ap a.2.1 0 rs)
  | 0, i, e => by
    rw [qXi, if_neg (by simp; omega), List.take_of_length_le (by omega), qVx _ rs hs hR]; rfl
  | k + 1, i, e => by
    have hlen := hR.len
    have hl' : Int.ofNat rs.length = (rs.length : Int) := rfl
    obtain ⟨d1, d2, d3⟩ := qDa (qla qba : qaa) (xs := rs) (i := i) (by omega)
    have hz : szs (List.take i rs) ++ [(List.getD rs i (qla qba)).2.1] = szs (List.take (i + 1) rs) := by rw [d2]; simp [szs]
    have ih := qEm a rs hs hR k (i + 1) (by omega)
    rw [show ((i + 1 : Nat) : Int) = (i : Int) + 1 by omega] at ih
    rw [qXi, if_pos (by simp; omega), qea (by omega), qea (by rw [hl']; omega), Int.toNat_natCast, hz, qea (by rw [qhg, List.length_take]; omega), w64 (by omega) (by omega), ih]
theorem qck (a : qna) (rs : List qaa) (hs : 16 ≤ a.2.1 ∧ a.2.1 ≤ 4096) (hR : RecsV rs) : qGj a rs = some (ap a.2.1 0 rs) := by
  rw [qbt]; exact qEm a rs hs hR rs.length 0 (by omega)
theorem qDt (a : qna) (rs : List qaa) (hs : 16 ≤ a.2.1 ∧ a.2.1 ≤ 4096) (hR : RecsV rs) : ∀ (k i : Nat), i + k = rs.length → qVb rs (i : Int) a (szs (rs.take i)) = some (ap a.2.1 0 rs)
  | 0, i, e => by
    have hl' : Int.ofNat rs.length = (rs.length : Int) := rfl
    rw [qte, if_neg (by simp; omega), List.take_of_length_le (by omega), qep _ rs hs hR]; rfl
  | k + 1, i, e => by
    have hlen := hR.len
    have hl' : Int.ofNat rs.length = (rs.length : Int) := rfl
    obtain ⟨d1, d2, d3⟩ := qDa (qla qba : qaa) (xs := rs) (i := i) (by omega)
    have hz : szs (List.take i rs) ++ [(List.getD rs i (qla qba)).2.1] = szs (List.take (i + 1) rs) := by rw [d2]; simp [szs]
    have ih := qDt a rs hs hR k (i + 1) (by omega)
    rw [show ((i + 1 : Nat) : Int) = (i : Int) + 1 by omega] at ih
    rw [qte, if_pos (by simp; omega), qea (by omega), qea (by rw [hl']; omega), Int.toNat_natCast, hz, qea (by rw [qhg, List.length_take]; omega), w64 (by omega) (by omega), ih]
theorem qov (a : qna) (rs : List qaa) (hs : 16 ≤ a.2.1 ∧ a.2.1 ≤ 4096) (hR : RecsV rs) : qLe a rs = some (ap a.2.1 0 rs) := by
  rw [qjk]; exact qDt a rs hs hR rs.length 0 (by omega)
theorem qvs {a : qna} (h : chk a = 0) : 16 ≤ a.2.1 ∧ a.2.1 ≤ 4096 := by
  unfold chk at h
  split at h <;> omega
instance (h : qda) (p : qfa) : Decidable (isP h p) := by unfold isP; infer_instance
theorem qcq (h : qda) (p : qfa) : qqu h p = some (decide (isP h p)) := by
  rw [qLz]
  congr 1
  simp only [peq, Bool.and_true]
  rw [Bool.eq_iff_iff, decide_eq_true_eq]
  simp only [Bool.and_eq_true, decide_eq_true_eq]
  exact Iff.rfl
theorem qdu (h : qda) (p : qfa) : qQh h p = some (decide (isP h p)) := by
  rw [qJo]
  unfold isP
  by_cases h1 : h.2.1 = p.1 <;> by_cases h2 : h.2.2.1 = p.2.1 <;> by_cases h3 : h.2.2.2.1 = p.2.2.1 <;> simp [h1, h2, h3]
def ckL : List qda → List qfa → Int
  | h :: hs, p :: ps => if hOK h ∧ isP h p then ckL hs ps else 8
  | _, _ => 0
def lck (l : qta) : Int :=
  if chk l.1 ≠ 0 then 8 else if qGe l.2.1 ≠ 0 then 8 else if (ap l.1.2.1 0 l.2.1).length ≠ l.2.2.1.length then 8 else ckL l.2.2.1 (ap l.1.2.1 0 l.2.1)
theorem qLv (hs : List qda) (ps : List qfa) (hl : hs.length = ps.length) (hb : hs.length ≤ 1000000) : ∀ (k i : Nat), i + k = hs.length → qth hs (hs.length : Int) (i : Int) ps = some (ckL (hs.drop i) (ps.drop i))
  | 0, i, e => by
    rw [qdk, if_neg (by simp; omega), List.drop_eq_nil_of_le (by omega)]; rfl
  | k + 1, i, e => by
    have hl' : Int.ofNat hs.length = (hs.length : Int) := rfl
    have hl2 : Int.ofNat ps.length = (ps.length : Int) := rfl
    obtain ⟨d1, d2, d3⟩ := qDa (qla qma : qda) (xs := hs) (i := i) (by omega)
    obtain ⟨p1, p2, p3⟩ := qDa (qla qga : qfa) (xs := ps) (i := i) (by omega)
    have ih := qLv hs ps hl hb k (i + 1) (by omega)
    rw [show ((i + 1 : Nat) : Int) = (i : Int) + 1 by omega] at ih
    rw [qdk, if_pos (by simp; omega), qea (by omega), qea (by rw [hl']; omega), Int.toNat_natCast, Nat.zero_add, qRc]
    simp only [Option.bind_some, qQz]
    rw [d1, p1, ckL]
    generalize hs.getD i (qla qma) = h0
    generalize ps.getD i (qla qga) = p0
    by_cases h1 : hOK h0
    · rw [if_neg (by simpa using h1), qea (by omega), qea (by rw [hl2]; omega), qcq]
      simp only [Option.bind_some]
      by_cases h2 : isP h0 p0
      · rw [if_neg (by simp [h2]), if_pos ⟨h1, h2⟩, w64 (by omega) (by omega), ih]
      · rw [if_pos (by simp [h2]), if_neg (fun h => h2 h.2)]
    · rw [if_pos h1, if_neg (fun h => h1 h.1)]
theorem qas (l : qta) (hR : RecsOK l.2.1) : qop l = some (lck l) := by
  rw [quu, qEh, qOd _ hR]
  simp only [Option.bind_some, lck]
  by_cases hc : chk l.1 = 0
  · rw [if_neg (by simp [hc]), if_neg (show ¬ chk l.1 ≠ 0 by simp [hc])]
    by_cases hv : qGe l.2.1 = 0
    · have h16 := qvs hc
      have hV := qhb hv
      rw [if_neg (by simp [hv]), if_neg (show ¬ qGe l.2.1 ≠ 0 by simp [hv]), qck l.1 l.2.1 h16 hV]
      simp only [Option.bind_some]
      have hsm := qYq l.1.2.1 h16.1 l.2.1 hV
      by_cases hl : (ap l.1.2.1 0 l.2.1).length = l.2.2.1.length
      · rw [if_neg (by simp [hl]), if_neg (show ¬ (ap l.1.2.1 0 l.2.1).length ≠ l.2.2.1.length by simp [hl])]
        exact qLv l.2.2.1 _ hl.symm (by omega) l.2.2.1.length 0 (by omega)
      · rw [if_pos (by simp; omega), if_pos hl]
    · rw [if_pos (by simpa using hv), if_pos hv]
  · rw [if_pos (by simpa using hc), if_pos hc]
theorem qRy : ∀ (hs : List qda) (ps : List qfa), hs.length = ps.length → ckL hs ps = 0 → ∀ h ∈ hs, hOK h
  | [], _, _, _, h, hh => by cases hh
  | h :: hs, [], hl, _, _, _ => by simp at hl
  | h :: hs, p :: ps, hl, hc, x, hx => by
    simp only [ckL] at hc
    split at hc
    · rename_i hok
      rcases List.mem_cons.1 hx with rfl | hx
      · exact hok.1
      · exact qRy hs ps (by simpa using hl) hc x hx
    · omega
structure LstV (l : qta) : Prop where
  blk : 16 ≤ l.1.2.1 ∧ l.1.2.1 ≤ 4096
  chk : chk l.1 = 0
  val : qGe l.2.1 = 0
  recs : RecsV l.2.1
  len : l.2.2.1.length = (ap l.1.2.1 0 l.2.1).length
  hds : ∀ h ∈ l.2.2.1, hOK h
  ck : ckL l.2.2.1 (ap l.1.2.1 0 l.2.1) = 0
theorem qHD {l : qta} (h : lck l = 0) : LstV l := by
  unfold lck at h
  split at h
  · omega
  · rename_i hc
    split at h
    · omega
    · rename_i hv
      split at h
      · omega
      · rename_i hl
        simp only [ne_eq, Decidable.not_not] at hc hv hl
        exact ⟨qvs hc, hc, hv, qhb hv, hl.symm, qRy _ _ hl.symm h, h⟩
theorem qYF {l : qta} : lck l = 0 ∨ lck l = 8 := by
  have h : ∀ hs ps, ckL hs ps = 0 ∨ ckL hs ps = 8 := by
    intro hs
    induction hs with
    | nil => intro ps; left; rfl
    | cons x xs ih =>
      intro ps
      cases ps with
      | nil => left; rfl
      | cons p ps => simp only [ckL]; split; exact ih ps; right; rfl
  unfold lck
  split; right; rfl
  split; right; rfl
  split; right; rfl
  exact h _ _
def plc : Int → List qda → List Int
  | _, [] => []
  | at_, h :: r => at_ :: plc (at_ + (41 + h.2.2.2.2.1)) r
theorem qdx : ∀ (hs : List qda) (a : Int), (plc a hs).length = hs.length
  | [], _ => rfl
  | h :: r, a => by simp only [plc, List.length_cons, qdx r]
theorem qKD {h : qda} (ok : hOK h) : 1 ≤ h.2.2.2.2.1 ∧ h.2.2.2.2.1 ≤ 4096 := by unfold hOK at ok; omega
theorem qLt (hs : List qda) (hh : ∀ h ∈ hs, hOK h) (hb : hs.length ≤ 1000000) : ∀ (k i : Nat) (at_ : Int) (out : List Int), i + k = hs.length → 0 ≤ at_ → at_ ≤ 100000 + 5000 * i → out.length = i → qAg at_ hs (hs.length : Int) (i : Int) out = some (out ++ plc at_ (hs.drop i), 0)
  | 0, i, at_, out, e, h0, h1, ho => by
    rw [qYi, if_neg (by simp; omega), List.drop_eq_nil_of_le (by omega)]; simp [plc]
  | k + 1, i, at_, out, e, h0, h1, ho => by
    have hl' : Int.ofNat hs.length = (hs.length : Int) := rfl
    obtain ⟨d1, d2, d3⟩ := qDa (qla qma : qda) (xs := hs) (i := i) (by omega)
    have hv := qKD (hh _ d3)
    have ih := qLt hs hh hb k (i + 1) (at_ + (41 + (hs.getD i (qla qma)).2.2.2.2.1)) (out ++ [at_]) (by omega) (by omega) (by omega) (by simp; omega)
    rw [show ((i + 1 : Nat) : Int) = (i : Int) + 1 by omega] at ih
    rw [qYi, if_pos (by simp; omega), qea (by omega), qea (by rw [hl']; omega), qea (by simp only [List.length_append, List.length_cons, List.length_nil]; omega), Int.toNat_natCast, w64 (x := 41 + _) (by omega) (by omega), w64 (x := (i : Int) + 1) (by omega) (by omega), w64 (by omega) (by omega), ih, d1, plc, List.append_assoc]
    rfl
def qMF (l : qta) : List Int := plc (28 + qLB l.2.1) l.2.2.1
theorem qyq (l : qta) (hR : RecsOK l.2.1) (hS : SumsOK l.2.1) : qIj l = some (if lck l = 0 then (qMF l, 0) else ([], 8)) := by
  rw [qct, qas l hR]
  simp only [Option.bind_some]
  rcases qYF (l := l) with h | h
  · have hL := qHD h
    have hsm := qYq l.1.2.1 hL.blk.1 l.2.1 hL.recs
    have hb := qGy l.2.1 hL.recs.each
    have hlen := hL.recs.len
    have hll := hL.len
    rw [if_neg (by simp [h]), if_pos h, qzm _ _ hR hS]
    have ha : ask l.1 l.2.1 = 0 := by unfold ask; rw [if_neg (by simp [hL.chk]), hL.val]
    rw [ha, if_neg (by simp)]
    simp only [Option.bind_some]
    have hh := qOB l.1 l.2.1 hS
    have hh' : Int.ofNat (qIh l.1 l.2.1).length = 28 + qLB l.2.1 := hh
    rw [hh']
    exact qLt l.2.2.1 hL.hds (by omega) l.2.2.1.length 0 _ [] (by omega) (by omega) (by omega) rfl
  · rw [if_pos (by simp [h]), h, if_neg (by decide)]
theorem qxy {x y : Int} (hx : 0 ≤ x ∧ x < 4294967296) (hy : 0 ≤ y ∧ y < 256) : qFc .i64 (x * 256) y = x * 256 + y := by
  obtain ⟨a, rfl⟩ := Int.eq_ofNat_of_zero_le hx.1
  obtain ⟨b, rfl⟩ := Int.eq_ofNat_of_zero_le hy.1
  exact qwy a b (by omega) (by omega)
theorem qbq (v0 : List Int) (hl : v0.length = 28) (b8 : qda) (m mem off raw len : Int) : ∀ (d n : Nat) (S : List Int), 20 - n = d → n ≤ 20 → S.length = 20 → S.take n = (v0.drop 8).take n →
    qyc v0 (n : Int) b8 (m, (mem, (off, (raw, (len, (S, ())))))) = some (if hOK (m, (mem, (off, (raw, (len, (v0.drop 8, ())))))) then ((m, (mem, (off, (raw, (len, (v0.drop 8, ())))))), 0) else (zH, 12))
  | 0, n, S, hd, hn, hS, ht => by
    have hS' : S = v0.drop 8 := by
      rw [List.take_of_length_le (by omega), List.take_of_length_le (by simp; omega)] at ht; exact ht
    subst hS'
    rw [qlf, if_neg (by simp; omega), qbk]
    simp only [Option.bind_some, qQz]
    by_cases ok : hOK (m, (mem, (off, (raw, (len, (v0.drop 8, ()))))))
    · rw [if_neg (by simpa using ok), if_pos ok]
    · rw [if_pos ok, if_neg ok]; rfl
  | d + 1, n, S, hd, hn, hS, ht => by
    rw [qlf, if_pos (by simp; omega), w64 (x := 8 + (n : Int)) (by omega) (by omega), qea (by omega), qea (by simp only [Int.ofNat_eq_natCast]; omega), qea (by omega), qea (by omega), w64 (x := (n : Int) + 1) (by omega) (by omega)]
    have e1 : Int.toNat (8 + (n : Int)) = 8 + n := by omega
    simp only [e1, Int.toNat_natCast]
    have := qbq v0 hl b8 m mem off raw len d (n + 1) (S.set n (v0.getD (8 + n) 0)) (by omega) (by omega) (by simpa using hS) (by
      rw [qHn _ _ _ (by omega), ht, List.take_succ_eq_append_getElem (by simp; omega)]
      have h8 : 8 + n < v0.length := by omega
      simp [List.getD_eq_getElem?_getD, h8])
    exact this
theorem qZj (a : List Int) (hb : Bts a) : qTf a = some (pP a) := by
  rw [qnl]
  by_cases hl : a.length = 28
  · rw [if_neg (by simp [hl])]
    repeat rw [qea (by first | decide | (simp only [Int.ofNat_eq_natCast]; omega))]
    have h1 := hb.getD 1; have h2 := hb.getD 2; have h3 := hb.getD 3; have h4 := hb.getD 4; have h5 := hb.getD 5; have h6 := hb.getD 6; have h7 := hb.getD 7
    rw [w64 (x := a.getD 1 0) (by omega) (by omega), w64 (x := a.getD 2 0) (by omega) (by omega), w64 (x := a.getD 3 0) (by omega) (by omega), w64 (x := a.getD 4 0) (by omega) (by omega), w64 (x := a.getD 5 0) (by omega) (by omega), w64 (x := a.getD 6 0) (by omega) (by omega), w64 (x := a.getD 7 0) (by omega) (by omega)]
    rw [w64 (x := a.getD 2 0 * 256) (by omega) (by omega), w64 (x := a.getD 4 0 * 256) (by omega) (by omega), w64 (x := a.getD 6 0 * 256) (by omega) (by omega)]
    rw [w64 (x := a.getD 2 0 * 256 + a.getD 3 0) (by omega) (by omega), w64 (x := a.getD 4 0 * 256 + a.getD 5 0) (by omega) (by omega), w64 (x := a.getD 6 0 * 256 + a.getD 7 0) (by omega) (by omega)]
    have := qbq a hl zH (a.getD 0 0) (a.getD 1 0) (a.getD 2 0 * 256 + a.getD 3 0) (a.getD 4 0 * 256 + a.getD 5 0) (a.getD 6 0 * 256 + a.getD 7 0) 20 0 (List.replicate 20 0) rfl (by omega) (by simp) (by simp)
    refine Eq.trans this ?_
    show some (if hOK (pH a) then (pH a, (0 : Int)) else (zH, 12)) = _
    unfold pP
    by_cases ok : hOK (pH a)
    · rw [if_pos (show hOK (pH a) from ok), if_pos ⟨hl, ok⟩]
    · rw [if_neg (show ¬ hOK (pH a) from ok), if_neg (fun h => ok h.2)]
  · rw [if_pos (by simp; omega)]
    unfold pP
    rw [if_neg (fun h => hl h.1)]; rfl
theorem qgr (v0 : List Int) (h1 : 41 ≤ v0.length) (h2 : v0.length ≤ 50000) : ∀ (d n : Nat), 13 - n = d → n ≤ 13 → qkb v0 0 (n : Int) mark = some (decide ((v0.drop n).take (13 - n) = mark.drop n))
  | 0, n, hd, hn => by
    have : n = 13 := by omega
    subst this
    rw [qpb, if_neg (by decide)]
    simp [mark]
  | d + 1, n, hd, hn => by
    have hlt : n < v0.length := by omega
    have hm : n < mark.length := by rw [qdb]; omega
    rw [qpb, if_pos (by simp; omega), w64 (x := 0 + (n : Int)) (by omega) (by omega), qea (by omega), qea (by simp only [Int.ofNat_eq_natCast]; omega), qea (by omega), qea (by simp only [Int.ofNat_eq_natCast]; omega), w64 (x := (n : Int) + 1) (by omega) (by omega)]
    have e1 : Int.toNat (0 + (n : Int)) = n := by omega
    have ih := qgr v0 h1 h2 d (n + 1) (by omega) (by omega)
    simp only [Int.natCast_add, show ((1 : Nat) : Int) = 1 from rfl] at ih
    simp only [e1, Int.toNat_natCast, Nat.zero_add]
    rw [ih]
    have g1 : v0.getD n 0 = v0[n] := by simp [List.getD_eq_getElem?_getD, hlt]
    have g2 : mark.getD n 0 = mark[n] := by simp [List.getD_eq_getElem?_getD, hm]
    rw [g1, g2, List.drop_eq_getElem_cons hlt, List.drop_eq_getElem_cons hm, show 13 - n = (13 - (n + 1)) + 1 by omega, List.take_succ_cons]
    by_cases he : v0[n] = mark[n]
    · rw [if_neg (by simp [he]), he]
      congr 1
      rw [decide_eq_decide]
      exact ⟨fun h => by rw [h], fun h => (List.cons.inj h).2⟩
    · rw [if_pos (by simpa using he)]
      have : ¬ (v0[n] :: List.take (13 - (n + 1)) (List.drop (n + 1) v0) = mark[n] :: List.drop (n + 1) mark) := fun h => he (List.cons.inj h).1
      rw [decide_eq_false this]
theorem qTx (a : List Int) (h1 : 41 ≤ a.length) (h2 : a.length ≤ 50000) : qTb a 0 = some (decide (a.take 13 = mark)) := by
  rw [qeg, qah]
  simp only [Option.bind_some]
  rw [if_neg (by decide), if_neg (by simp), if_neg (by simp only [decide_eq_true_eq, Int.ofNat_eq_natCast]; rw [w64 (by omega) (by omega)]; omega)]
  have := qgr a h1 h2 13 0 rfl (by omega)
  rw [show ((0 : Nat) : Int) = 0 from rfl] at this
  rw [this]
  rfl
theorem qEq (xs : List Int) (h : xs.length ≤ 1000000) : qKe xs = some xs := by
  rw [qIi]
  refine qKp false (by simp) (fun b hb => ?_)
  cases b with
  | true => rw [if_pos rfl, hb rfl]
  | false => rw [if_neg (by simp), qea (by simp; omega)]; simp
def rdB (a : List Int) : qoa × Int × Int :=
  if a.length > 50000 then ((zH, ([], ())), (0, 4)) else if a.length < 41 then ((zH, ([], ())), (0, 18))
  else if a.take 13 ≠ mark ∨ ¬ hOK (pH ((a.drop 13).take 28)) then ((zH, ([], ())), (0, 12))
  else if (a.length : Int) < 41 + (pH ((a.drop 13).take 28)).2.2.2.2.1 then ((zH, ([], ())), (0, 18))
  else ((pH ((a.drop 13).take 28), ((a.drop 41).take (pH ((a.drop 13).take 28)).2.2.2.2.1.toNat, ())), (41 + (pH ((a.drop 13).take 28)).2.2.2.2.1, 0))
theorem qFp (a : List Int) (hb : Bts a) : qnj a = some (rdB a) := by
  rw [qHo]
  unfold rdB
  by_cases h1 : a.length > 50000
  · rw [if_pos (by simp; omega), if_pos h1]; rfl
  rw [if_neg (by simp; omega), if_neg h1]
  by_cases h2 : a.length < 41
  · rw [if_pos (by simp; omega), if_pos h2]; rfl
  rw [if_neg (by simp; omega), if_neg h2, qea (by decide), qea (by decide), qea (by simp only [Int.ofNat_eq_natCast]; omega), qbj _ ((hb.drop _).take _), qwD a (by omega), qCm a hb (by omega) (by omega)]
  simp only [Option.bind_some]
  by_cases h3 : a.take 13 = mark
  · by_cases ok : hOK (pH ((a.drop 13).take 28))
    · have hlen := qCf ok
      rw [if_pos ok, if_neg (by simp [h3]), if_neg (by simp), if_neg (show ¬ (a.take 13 ≠ mark ∨ ¬ hOK (pH ((a.drop 13).take 28))) from fun h => h.elim (fun h => h h3) (fun h => h ok))]
      generalize pH ((a.drop 13).take 28) = h at ok hlen ⊢
      simp only
      rw [w64 (x := 41 + h.2.2.2.2.1) (by omega) (by omega)]
      by_cases h4 : (a.length : Int) < 41 + h.2.2.2.2.1
      · rw [if_pos (by simpa using h4), if_pos h4]; rfl
      · rw [if_neg (by simpa using h4), if_neg h4, qea (by decide), qea (by omega), qea (by simp only [Int.ofNat_eq_natCast]; omega), qEq _ (by simp; omega)]
        have e : Int.toNat (41 + h.2.2.2.2.1) - 41 = h.2.2.2.2.1.toNat := by omega
        simp only [Option.bind_some, e]
    · rw [if_neg ok, if_neg (by simp [h3]), if_pos (by simp), if_pos (show (a.take 13 ≠ mark ∨ ¬ hOK (pH ((a.drop 13).take 28))) from .inr ok)]; rfl
  · rw [if_pos (by simp [h3]), if_pos (show (a.take 13 ≠ mark ∨ ¬ hOK (pH ((a.drop 13).take 28))) from .inl h3)]; rfl
theorem qur (a : List Int) (hb : Bts a) : qrg a = some (rdB a) := by
  rw [qgm]
  unfold rdB
  by_cases h1 : a.length > 50000
  · rw [if_pos (by simp; omega), if_pos h1]; rfl
  rw [if_neg (by simp; omega), if_neg h1, qdg]
  by_cases h2 : a.length < 41
  · rw [if_pos (by simp; omega), if_pos h2]; rfl
  rw [if_neg (by simp; omega), if_neg h2, qea (by decide), qea (by decide), qea (by simp only [Int.ofNat_eq_natCast]; omega), qZj _ ((hb.drop _).take _), qwD a (by omega), qTx a (by omega) (by omega)]
  simp only [Option.bind_some]
  by_cases h3 : a.take 13 = mark
  · by_cases ok : hOK (pH ((a.drop 13).take 28))
    · have hlen := qCf ok
      rw [if_pos ok, if_neg (by simp [h3]), if_neg (by simp), if_neg (show ¬ (a.take 13 ≠ mark ∨ ¬ hOK (pH ((a.drop 13).take 28))) from fun h => h.elim (fun h => h h3) (fun h => h ok))]
      generalize pH ((a.drop 13).take 28) = h at ok hlen ⊢
      simp only [Int.ofNat_eq_natCast, decide_eq_true_eq]
      rw [w64 (x := 41 + h.2.2.2.2.1) (by omega) (by omega), w64 (x := (a.length : Int) - 41) (by omega) (by omega)]
      by_cases h4 : (a.length : Int) < 41 + h.2.2.2.2.1
      · rw [if_pos (by omega), if_pos h4]; rfl
      · rw [if_neg (by omega), if_neg h4, qea (by decide), qea (by omega), qea (by omega), qea (by simp; omega)]
        have e : Int.toNat (41 + h.2.2.2.2.1) - 41 = h.2.2.2.2.1.toNat := by omega
        simp only [Option.bind_some, e, List.nil_append]
    · rw [if_neg ok, if_neg (by simp [h3]), if_pos (by simp), if_pos (show (a.take 13 ≠ mark ∨ ¬ hOK (pH ((a.drop 13).take 28))) from .inr ok)]; rfl
  · rw [if_pos (by simp [h3]), if_pos (show (a.take 13 ≠ mark ∨ ¬ hOK (pH ((a.drop 13).take 28))) from .inl h3)]; rfl
def rK (a : List Int) (p : Nat) : Nat := (a.getD p 0).toNat
def rF (a : List Int) (p : Nat) : Prop := p < a.length ∧ p + 1 + rK a p + 22 ≤ a.length
instance (a : List Int) (p : Nat) : Decidable (rF a p) := by unfold rF; infer_instance
def rR (a : List Int) (p : Nat) : qaa :=
  (qEg ((a.drop (p + 1)).take (rK a p)), (a.getD (p + 1 + rK a p) 0 * 256 + a.getD (p + 2 + rK a p) 0, ((a.drop (p + 3 + rK a p)).take 20, ())))
def qfu (a : List Int) : Nat → Nat → List qaa → List qaa × Int × Int
  | 0, p, acc => if qGe acc ≠ 0 then ([], (0, 12)) else (acc, ((p : Int), 0))
  | n + 1, p, acc => if rF a p then qfu a n (p + rK a p + 23) (acc ++ [rR a p]) else ([], (0, 18))
theorem qCz {a : List Int} (hb : Bts a) (p : Nat) : a.getD p 0 = (rK a p : Int) ∧ rK a p < 256 := by
  have := hb.getD p
  unfold rK; omega
theorem qXo (a : List Int) (p n i : Nat) (h : i < n) : ((a.drop p).take n).getD i 0 = a.getD (p + i) 0 := by
  simp only [List.getD_eq_getElem?_getD, List.getElem?_take, List.getElem?_drop, if_pos h]
theorem qGn (a : List Int) (hl : a.length ≤ 100000) (p n : Nat) (hp : p ≤ a.length) (hn : n ≤ 1000) :
    qwb (n : Int) ((a, ((p : Int), ())), ()) = some (if p + n ≤ a.length then ((a.drop p).take n, (none, ((a, (((p + n : Nat) : Int), ())), ()))) else ([], (some 18, ((a, ((p : Int), ())), ())))) := by
  have hl' : Int.ofNat a.length = (a.length : Int) := rfl
  rw [qHk]
  simp only [hl']
  rw [w64 (x := (a.length : Int) - p) (by omega) (by omega), w64 (x := (p : Int) + n) (by omega) (by omega), w64 (x := (p : Int) + n - n) (by omega) (by omega)]
  by_cases h : p + n ≤ a.length
  · have e1 : ((p : Int) + n).toNat = p + n := by omega
    have e2 : ((p : Int) + n - n).toNat = p := by omega
    rw [if_neg (by simp; omega), qea (by omega), qea (by omega), qea (by omega), if_pos h, e1, e2, Nat.add_sub_cancel_left]
    rfl
  · rw [if_pos (by simp; omega), if_neg h]
theorem qWA (a : List Int) (hb : Bts a) (hl : a.length ≤ 100000) (p : Nat) (hf : rF a p) :
    qGc ((a, ((p : Int), ())), ()) = some (rR a p, (none, ((a, (((p + rK a p + 23 : Nat) : Int), ())), ()))) := by
  obtain ⟨h1, h2⟩ := hf
  obtain ⟨ek, hk⟩ := qCz hb p
  have t1 : qwb (1 : Int) ((a, ((p : Int), ())), ()) = _ := qGn a hl p 1 (by omega) (by omega)
  have t2 := qGn a hl (p + 1) (rK a p + 22) (by omega) (by omega)
  rw [if_pos (by omega)] at t1
  rw [if_pos (by omega)] at t2
  rw [qwf, t1]
  simp only [Option.bind_some]
  have l1 : ((a.drop p).take 1).length = 1 := by simp; omega
  have g1 : ((a.drop p).take 1).getD 0 0 = (rK a p : Int) := by rw [qXo _ _ _ _ (by omega)]; exact ek
  rw [if_neg (by simp), qea (by omega), qea (by rw [l1]; decide), g1, w64 (x := (rK a p : Int)) (by omega) (by omega), w64 (x := (rK a p : Int) + 22) (by omega) (by omega), show (rK a p : Int) + 22 = ((rK a p + 22 : Nat) : Int) by omega, t2]
  simp only [Option.bind_some]
  have l2 : Int.ofNat ((a.drop (p + 1)).take (rK a p + 22)).length = (rK a p : Int) + 22 := by
    have : ((a.drop (p + 1)).take (rK a p + 22)).length = rK a p + 22 := by simp; omega
    rw [this]; simp
  rw [l2, w64 (x := (rK a p : Int) + 1) (by omega) (by omega), w64 (x := (rK a p : Int) + 2) (by omega) (by omega)]
  rw [if_neg (by simp), qea (by omega), qea (by rw [l1]; decide), qea (by omega), qea (by omega), qea (by omega), qea (by omega), qea (by omega), qea (by omega), qea (by omega), qea (by omega), qea (by omega)]
  have n1 : ((rK a p : Int)).toNat = rK a p := by omega
  have n2 : ((rK a p : Int) + 1).toNat = rK a p + 1 := by omega
  have n3 : ((rK a p : Int) + 2).toNat = rK a p + 2 := by omega
  rw [n1, n2, n3, qXo _ _ _ _ (by omega), qXo _ _ _ _ (by omega)]
  have b1 := hb.getD (p + 1 + rK a p)
  have b2 := hb.getD (p + 1 + (rK a p + 1))
  rw [w64 (x := a.getD (p + 1 + rK a p) 0) (by omega) (by omega), w64 (x := a.getD (p + 1 + (rK a p + 1)) 0) (by omega) (by omega), w64 (x := a.getD (p + 1 + rK a p) 0 * 256) (by omega) (by omega), qxy (by omega) b2]
  have e1 : List.take (rK a p) ((a.drop (p + 1)).take (rK a p + 22)) = (a.drop (p + 1)).take (rK a p) := by rw [List.take_take, Nat.min_eq_left (by omega)]
  have e2 : List.drop (rK a p + 2) ((a.drop (p + 1)).take (rK a p + 22)) = (a.drop (p + 3 + rK a p)).take 20 := by
    rw [List.drop_take, List.drop_drop, show rK a p + 22 - (rK a p + 2) = 20 by omega, show p + 1 + (rK a p + 2) = p + 3 + rK a p by omega]
  have l3 : ((a.drop (p + 3 + rK a p)).take 20).length = 20 := by simp; omega
  rw [e1, e2, l3]
  have e3 : qkd (List.replicate 20 (0 : Int)) 0 (List.take (min 20 20) ((a.drop (p + 3 + rK a p)).take 20)) = (a.drop (p + 3 + rK a p)).take 20 := by
    rw [show min 20 20 = 20 from rfl, List.take_of_length_le (by omega), qkd, l3]
    simp
  rw [e3]
  unfold rR
  rw [show p + 1 + (rK a p + 1) = p + 2 + rK a p by omega, show p + 1 + (rK a p + 22) = p + rK a p + 23 by omega]
theorem qXA (a : List Int) (hb : Bts a) (hl : a.length ≤ 100000) (p : Nat) (hp : p ≤ a.length) (hf : ¬ rF a p) :
    ∃ x s, qGc ((a, ((p : Int), ())), ()) = some (x, (some 18, s)) := by
  obtain ⟨ek, hk⟩ := qCz hb p
  have t1 : qwb (1 : Int) ((a, ((p : Int), ())), ()) = _ := qGn a hl p 1 (by omega) (by omega)
  rw [qwf, t1]
  simp only [Option.bind_some]
  by_cases h1 : p + 1 ≤ a.length
  · have t2 := qGn a hl (p + 1) (rK a p + 22) (by omega) (by omega)
    rw [if_neg (by unfold rF at hf; omega)] at t2
    have l1 : ((a.drop p).take 1).length = 1 := by simp; omega
    have g1 : ((a.drop p).take 1).getD 0 0 = (rK a p : Int) := by rw [qXo _ _ _ _ (by omega)]; exact ek
    rw [if_pos h1]
    simp only
    rw [if_neg (by simp), qea (by omega), qea (by rw [l1]; decide), g1, w64 (x := (rK a p : Int)) (by omega) (by omega), w64 (x := (rK a p : Int) + 22) (by omega) (by omega), show (rK a p : Int) + 22 = ((rK a p + 22 : Nat) : Int) by omega, t2]
    exact ⟨_, _, rfl⟩
  · rw [if_neg h1]
    exact ⟨_, _, rfl⟩
theorem qsD (a : List Int) (hb : Bts a) (p : Nat) (hf : rF a p) : (rR a p).1.size = rK a p ∧ (rR a p).2.2.1.length = 20 ∧ Bts (rR a p).2.2.1 := by
  obtain ⟨h1, h2⟩ := hf
  refine ⟨?_, ?_, (hb.drop _).take _⟩
  · unfold rR; rw [qpz]; simp; omega
  · unfold rR; simp; omega
theorem RecsOK.snoc {l : List qaa} {r : qaa} (h : RecsOK l) (hl : l.length < 9223372036854775807) (hr : r.1.size ≤ 9223372036854775807) : RecsOK (l ++ [r]) :=
  ⟨by simp; omega, fun q hq => by
    rcases List.mem_append.1 hq with hq | hq
    · exact h.2 q hq
    · rw [List.mem_singleton.1 hq]; exact hr⟩
theorem SumsOK.snoc {l : List qaa} {r : qaa} (h : SumsOK l) (hr : r.2.2.1.length = 20 ∧ Bts r.2.2.1) : SumsOK (l ++ [r]) := fun q hq => by
  rcases List.mem_append.1 hq with hq | hq
  · exact h q hq
  · rw [List.mem_singleton.1 hq]; exact hr
theorem qBy (a : List Int) (hb : Bts a) (hl : a.length ≤ 100000) (N : Nat) (hN : N ≤ 16) : ∀ (n i p : Nat) (acc : List qaa), i + n = N → acc.length = i → p ≤ a.length → RecsOK acc →
    qyg (N : Int) (i : Int) ((a, ((p : Int), ())), ()) acc = some (qfu a n p acc)
  | 0, i, p, acc, e, hi, hp, hR => by
    rw [qTi, if_neg (by simp; omega), qOd acc hR]
    simp only [Option.bind_some, qfu]
    by_cases h : qGe acc = 0
    · rw [if_neg (by simp [h]), if_neg (by simp [h])]
    · rw [if_pos (by simpa using h), if_pos h]
  | n + 1, i, p, acc, e, hi, hp, hR => by
    rw [qTi, if_pos (by simp; omega), qfu]
    by_cases hf : rF a p
    · have hr := qsD a hb p hf
      have hk := qCz hb p
      rw [qWA a hb hl p hf, if_pos hf]
      simp only [Option.bind_some, qkt]
      rw [if_neg (by simp), qea (by simp; omega), w64 (by omega) (by omega)]
      have ih := qBy a hb hl N hN n (i + 1) (p + rK a p + 23) (acc ++ [rR a p]) (by omega) (by simp; omega) (by unfold rF at hf; omega) (hR.snoc (by omega) (by omega))
      rw [show ((i + 1 : Nat) : Int) = (i : Int) + 1 by omega] at ih
      exact ih
    · obtain ⟨x, s, hx⟩ := qXA a hb hl p hp hf
      rw [hx, if_neg hf]
      simp only [Option.bind_some, qjt]
      rw [if_pos trivial]
def rdM (a : List Int) (n : Int) : List qaa × Int × Int := if n < 0 ∨ n > 16 then ([], (0, 2)) else if a.length > 50000 then ([], (0, 4)) else qfu a n.toNat 0 []
theorem RecsOK.nil : RecsOK [] := ⟨by simp, fun _ h => by cases h⟩
theorem SumsOK.nil : SumsOK [] := fun _ h => by cases h
theorem qwq (a : List Int) (hb : Bts a) (n : Int) : qfn a n = some (rdM a n) := by
  rw [qYs, rdM]
  by_cases h1 : n < 0
  · rw [if_pos (by simpa using h1), if_pos (.inl h1)]
  · rw [if_neg (by simpa using h1)]
    by_cases h2 : n > 16
    · rw [if_pos (by simpa using h2), if_pos (.inr h2)]
    · rw [if_neg (by simpa using h2), if_neg (show ¬ (n < 0 ∨ n > 16) by omega)]
      by_cases h3 : a.length > 50000
      · rw [if_pos (by simp; omega), if_pos h3]
      · rw [if_neg (by simp; omega), if_neg h3]
        have := qBy a hb (by omega) n.toNat (by omega) n.toNat 0 0 [] (by omega) rfl (by omega) .nil
        rw [show ((n.toNat : Nat) : Int) = n by omega] at this
        exact this
theorem qny (a : List Int) (hl : a.length ≤ 100000) (N i : Int) (p k : Nat) (hp : p + 1 + k + 22 ≤ a.length) (hk : k < 256) (acc : List qaa) (hacc : acc.length ≤ 1000) (nm : ByteArray) (sz : Int) (hi : 0 ≤ i ∧ i ≤ 1000) : ∀ (d j : Nat) (S : List Int), 20 - j = d → j ≤ 20 → S.length = 20 → S.take j = ((a.drop (p + 3 + k)).take 20).take j →
    qIc a N (p : Int) i (k : Int) (j : Int) acc (nm, (sz, (S, ()))) = qBb a N ((p + k + 23 : Nat) : Int) (i + 1) (acc ++ [(nm, (sz, ((a.drop (p + 3 + k)).take 20, ())))])
  | 0, j, S, hd, hj, hS, ht => by
    have : j = 20 := by omega
    subst this
    have l3 : ((a.drop (p + 3 + k)).take 20).length = 20 := by simp; omega
    rw [List.take_of_length_le (by omega), List.take_of_length_le (by omega)] at ht
    rw [qNf, if_neg (by simp), qea (by simp; omega), w64 (x := (k : Int) + 23) (by omega) (by omega), w64 (x := (p : Int) + (k + 23)) (by omega) (by omega), w64 (x := i + 1) (by omega) (by omega), ht]
    congr 1
  | d + 1, j, S, hd, hj, hS, ht => by
    have hl' : Int.ofNat a.length = (a.length : Int) := rfl
    rw [qNf, if_pos (by simp; omega), w64 (x := (p : Int) + 3) (by omega) (by omega), w64 (x := (p : Int) + 3 + k) (by omega) (by omega), w64 (x := (p : Int) + 3 + k + j) (by omega) (by omega), w64 (x := (j : Int) + 1) (by omega) (by omega), qea (by omega), qea (by rw [hl']; omega), qea (by omega), qea (by omega)]
    have e1 : ((p : Int) + 3 + k + j).toNat = p + 3 + k + j := by omega
    rw [e1, Int.toNat_natCast]
    have ih := qny a hl N i p k hp hk acc hacc nm sz hi d (j + 1) (S.set j (a.getD (p + 3 + k + j) 0)) (by omega) (by omega) (by simpa using hS) (by
      rw [qHn _ _ _ (by omega), ht, List.take_succ_eq_append_getElem (l := (a.drop (p + 3 + k)).take 20) (by simp; omega)]
      congr 2
      rw [List.getElem_take, List.getElem_drop, List.getD_eq_getElem?_getD, List.getElem?_eq_getElem (by omega)]
      rfl)
    rw [show ((j + 1 : Nat) : Int) = (j : Int) + 1 by omega] at ih
    exact ih
theorem qoy (a : List Int) (hb : Bts a) (hl : a.length ≤ 100000) (N : Nat) (hN : N ≤ 16) : ∀ (n i p : Nat) (acc : List qaa), i + n = N → acc.length = i → p ≤ a.length → RecsOK acc →
    qBb a (N : Int) (p : Int) (i : Int) acc = some (qfu a n p acc)
  | 0, i, p, acc, e, hi, hp, hR => by
    rw [qOf, if_neg (by simp; omega), qpq acc hR]
    simp only [Option.bind_some, qfu]
    by_cases h : qGe acc = 0
    · rw [if_neg (by simp [h]), if_neg (by simp [h])]
    · rw [if_pos (by simpa using h), if_pos h]
  | n + 1, i, p, acc, e, hi, hp, hR => by
    have hl' : Int.ofNat a.length = (a.length : Int) := rfl
    obtain ⟨ek, hk⟩ := qCz hb p
    rw [qOf, if_pos (by simp; omega), qfu, hl']
    by_cases h1 : p < a.length
    · rw [if_neg (by simp; omega), qea (by omega), qea (by omega), Int.toNat_natCast, ek]
      rw [w64 (x := (rK a p : Int)) (by omega) (by omega), w64 (x := (a.length : Int) - p) (by omega) (by omega), w64 (x := (a.length : Int) - p - 1) (by omega) (by omega), w64 (x := (rK a p : Int) + 22) (by omega) (by omega)]
      by_cases hf : rF a p
      · have h2 : p + 1 + rK a p + 22 ≤ a.length := hf.2
        have hr := qsD a hb p hf
        have b1 := hb.getD (p + 1 + rK a p)
        have b2 := hb.getD (p + 2 + rK a p)
        rw [if_neg (by simp; omega), if_pos hf, w64 (x := (p : Int) + 1) (by omega) (by omega), w64 (x := (p : Int) + 1 + rK a p) (by omega) (by omega), w64 (x := (p : Int) + 2) (by omega) (by omega), w64 (x := (p : Int) + 2 + rK a p) (by omega) (by omega)]
        have n1 : ((p : Int) + 1 + rK a p).toNat = p + 1 + rK a p := by omega
        have n2 : ((p : Int) + 2 + rK a p).toNat = p + 2 + rK a p := by omega
        have n3 : ((p : Int) + 1).toNat = p + 1 := by omega
        rw [qea (by omega), qea (by omega), qea (by omega), qea (by omega), qea (by omega), qea (by omega), qea (by omega), qea (by omega), qea (by omega), qea (by omega), n1, n2, n3, Nat.add_sub_cancel_left]
        rw [w64 (x := a.getD (p + 1 + rK a p) 0) (by omega) (by omega), w64 (x := a.getD (p + 2 + rK a p) 0) (by omega) (by omega), w64 (x := a.getD (p + 1 + rK a p) 0 * 256) (by omega) (by omega), w64 (x := a.getD (p + 1 + rK a p) 0 * 256 + a.getD (p + 2 + rK a p) 0) (by omega) (by omega)]
        have e2 := qny a hl (N : Int) (i : Int) p (rK a p) h2 hk acc (by omega) (qEg ((a.drop (p + 1)).take (rK a p))) (a.getD (p + 1 + rK a p) 0 * 256 + a.getD (p + 2 + rK a p) 0) (by omega) 20 0 (List.replicate 20 0) (by omega) (by omega) (by simp) (by simp)
        refine Eq.trans e2 ?_
        have ih := qoy a hb hl N hN n (i + 1) (p + rK a p + 23) (acc ++ [rR a p]) (by omega) (by simp; omega) (by omega) (hR.snoc (by omega) (by omega))
        rw [show ((i + 1 : Nat) : Int) = (i : Int) + 1 by omega] at ih
        exact ih
      · rw [if_pos (by unfold rF at hf; simp; omega), if_neg hf]
    · rw [if_pos (by simp; omega), if_neg (by unfold rF; omega)]
theorem qtr (a : List Int) (hb : Bts a) (n : Int) : qqg a n = some (rdM a n) := by
  rw [qcm, rdM]
  by_cases h1 : n < 0
  · rw [if_pos (by simpa using h1), if_pos (.inl h1)]
  · rw [if_neg (by simpa using h1)]
    by_cases h2 : n > 16
    · rw [if_pos (by simpa using h2), if_pos (.inr h2)]
    · rw [if_neg (by simpa using h2), if_neg (show ¬ (n < 0 ∨ n > 16) by omega)]
      by_cases h3 : a.length > 50000
      · rw [if_pos (by simp; omega), if_pos h3]
      · rw [if_neg (by simp; omega), if_neg h3]
        have := qoy a hb (by omega) n.toNat (by omega) n.toNat 0 0 [] (by omega) rfl (by omega) .nil
        rw [show ((n.toNat : Nat) : Int) = n by omega] at this
        exact this
theorem qxd {α : Type} (l : List α) (m n : Nat) : l.take (m + n) = l.take m ++ (l.drop m).take n := List.take_add
theorem qlg (a : List Int) (p : Nat) (h : p < a.length) : (a.drop p).take 1 = [a.getD p 0] := by
  rw [(qDa (0 : Int) h).1]; rfl
theorem qQE (a : List Int) (hb : Bts a) (p : Nat) (hf : rF a p) : qlv (rR a p) = (a.drop p).take (rK a p + 23) := by
  obtain ⟨h1, h2⟩ := hf
  obtain ⟨ek, hk⟩ := qCz hb p
  have hs := (qsD a hb p ⟨h1, h2⟩).1
  have b1 := hb.getD (p + 1 + rK a p)
  have b2 := hb.getD (p + 2 + rK a p)
  have e1 : IntKind.wrap .u8 ((rR a p).1.size : Int) = (rK a p : Int) := by rw [hs, wu8]; omega
  have e2 : qob (rR a p).1 = (a.drop (p + 1)).take (rK a p) := qCj ((hb.drop _).take _)
  have e3 : IntKind.wrap .u8 (Int.fdiv (rR a p).2.1 256) = a.getD (p + 1 + rK a p) 0 := by
    show IntKind.wrap .u8 (Int.fdiv (a.getD (p + 1 + rK a p) 0 * 256 + a.getD (p + 2 + rK a p) 0) 256) = _
    rw [wu8, qwo _ (by omega)]; omega
  have e4 : IntKind.wrap .u8 (rR a p).2.1 = a.getD (p + 2 + rK a p) 0 := by
    show IntKind.wrap .u8 (a.getD (p + 1 + rK a p) 0 * 256 + a.getD (p + 2 + rK a p) 0) = _
    rw [wu8]; omega
  have e5 : List.take 20 (List.drop 0 (rR a p).2.2.1) = (a.drop (p + 3 + rK a p)).take 20 := by
    show List.take 20 (List.drop 0 ((a.drop (p + 3 + rK a p)).take 20)) = _
    rw [List.drop_zero, List.take_take]; rfl
  unfold qlv
  rw [e1, e2, e3, e4, e5, show rK a p + 23 = 1 + (rK a p + (1 + (1 + 20))) by omega, qxd, qxd, qxd, qxd, List.drop_drop, List.drop_drop, List.drop_drop, List.drop_drop, qlg a p h1, qlg a (p + 1 + rK a p) (by omega), show p + 1 + rK a p + 1 = p + 2 + rK a p by omega, qlg a (p + 2 + rK a p) (by omega), show p + 2 + rK a p + 1 = p + 3 + rK a p by omega, ek]
  simp only [List.append_assoc, List.cons_append, List.nil_append]
theorem qZp : ∀ (l m : List qaa), qMa (l ++ m) = qMa l ++ qMa m
  | [], m => rfl
  | r :: l, m => by simp only [List.cons_append, qMa, qZp l m, List.append_assoc]
structure ReadOK (a : List Int) (n : Nat) (l : List qaa) (q : Nat) : Prop where
  le : q ≤ a.length
  bytes : qMa l = a.take q
  val : qGe l = 0
  sums : SumsOK l
  recs : RecsOK l
  len : l.length = n
theorem qcB (a : List Int) (hb : Bts a) : ∀ (n p : Nat) (acc l : List qaa) (q : Int), qfu a n p acc = (l, (q, 0)) → p ≤ a.length → qMa acc = a.take p → SumsOK acc → RecsOK acc → acc.length + n ≤ 1000 →
    ∃ q' : Nat, q = q' ∧ ReadOK a (acc.length + n) l q' ∧ p ≤ q'
  | 0, p, acc, l, q, h, hp, hB, hS, hR, hn => by
    simp only [qfu] at h
    split at h
    · simp at h
    · rename_i hv
      simp only [Prod.mk.injEq] at h
      obtain ⟨rfl, rfl, _⟩ := h
      exact ⟨p, rfl, ⟨hp, hB, by simpa using hv, hS, hR, rfl⟩, Nat.le_refl _⟩
  | n + 1, p, acc, l, q, h, hp, hB, hS, hR, hn => by
    simp only [qfu] at h
    split at h
    · rename_i hf
      have hr := qsD a hb p hf
      have hk := qCz hb p
      obtain ⟨h1, h2⟩ := id hf
      obtain ⟨q', e, hO, hle⟩ := qcB a hb n _ _ l q h (by omega) (by
        rw [qZp, hB, show qMa [rR a p] = qlv (rR a p) ++ [] from rfl, List.append_nil, qQE a hb p hf, show p + rK a p + 23 = p + (rK a p + 23) by omega, qxd a p]) (hS.snoc hr.2) (hR.snoc (by omega) (by omega)) (by simp; omega)
      rw [show (acc ++ [rR a p]).length + n = acc.length + (n + 1) by simp; omega] at hO
      exact ⟨q', e, hO, by omega⟩
    · simp at h
def sH (a : List Int) : qna := (a.getD 4 0, (a.getD 5 0 * 256 + a.getD 6 0, ()))
def hdE (e : Int) : qna × List qaa × Int × Int := ((0, (0, ())), ([], (0, e)))
def magic : List Int := [66, 76, 70, 1]
def hdP (a : List Int) : qna × List qaa × Int × Int :=
  if a.length > 50000 then hdE 4 else if a.length < 8 then hdE 18
  else if a.take 4 ≠ magic ∨ chk (sH a) ≠ 0 ∨ a.getD 7 0 > 16 then hdE 12
  else if (rdM (a.drop 8) (a.getD 7 0)).2.2 ≠ 0 then hdE (rdM (a.drop 8) (a.getD 7 0)).2.2
  else if (a.length : Int) - 8 - (rdM (a.drop 8) (a.getD 7 0)).2.1 < 20 then hdE 18
  else if (a.drop (8 + (rdM (a.drop 8) (a.getD 7 0)).2.1.toNat)).take 20 ≠ qGg (a.take (8 + (rdM (a.drop 8) (a.getD 7 0)).2.1.toNat)) then hdE 22
  else (sH a, ((rdM (a.drop 8) (a.getD 7 0)).1, (28 + (rdM (a.drop 8) (a.getD 7 0)).2.1, 0)))
theorem qMm (a b : List Int) (ha : Bts a) (hb : Bts b) : qGd a b = some (decide (a.take b.length = b)) := by
  rw [qqi]
  by_cases h : b.length ≤ a.length
  · rw [if_pos (by simp; omega), qea (by simp), qea (by simp; omega), qLm, qND (ha.take _) hb]; rfl
  · rw [if_neg (by simp; omega)]
    have : ¬ a.take b.length = b := fun e => by
      have := congrArg List.length e
      simp at this; omega
    simp [this]
theorem qGD (a : List Int) (hb : Bts a) : (ByteArray.toList (qEg (List.take 4 a)) == ByteArray.toList (ByteArray.mk #[66, 76, 70, 1])) = decide (a.take 4 = magic) := by
  have : ByteArray.mk #[66, 76, 70, 1] = qEg magic := rfl
  rw [this, qND (hb.take _) (by intro x hx; simp [magic] at hx; omega)]
theorem qdB {a : List Int} (hb : Bts a) (hl : a.length ≤ 50000) {n : Int} (hn : 0 ≤ n ∧ n ≤ 16) (h : (rdM a n).2.2 = 0) : ∃ q : Nat, (rdM a n).2.1 = q ∧ ReadOK a n.toNat (rdM a n).1 q := by
  have e : rdM a n = qfu a n.toNat 0 [] := by unfold rdM; rw [if_neg (by omega), if_neg (by omega)]
  rw [e] at h ⊢
  obtain ⟨q, e1, e2, _⟩ := qcB a hb n.toNat 0 [] (qfu a n.toNat 0 []).1 (qfu a n.toNat 0 []).2.1 (by rw [← h]) (by omega) rfl .nil .nil (by simp; omega)
  rw [show ([] : List qaa).length + n.toNat = n.toNat by simp] at e2
  exact ⟨q, e1, e2⟩
theorem qhA {a : List Int} (hb : Bts a) (h8 : 8 ≤ a.length) (hm : a.take 4 = magic) (hc : chk (sH a) = 0) (h7 : a.getD 7 0 ≤ 16) {l : List qaa} {q : Nat} (hO : ReadOK (a.drop 8) (a.getD 7 0).toNat l q) : qnf (sH a) l = a.take (8 + q) := by
  have b4 := hb.getD 4
  have b5 := hb.getD 5
  have b6 := hb.getD 6
  have b7 := hb.getD 7
  have e1 : IntKind.wrap .u8 (sH a).1 = a.getD 4 0 := by show IntKind.wrap .u8 (a.getD 4 0) = _; rw [wu8]; omega
  have e2 : IntKind.wrap .u8 (Int.fdiv (sH a).2.1 256) = a.getD 5 0 := by
    show IntKind.wrap .u8 (Int.fdiv (a.getD 5 0 * 256 + a.getD 6 0) 256) = _
    rw [wu8, qwo _ (by omega)]; omega
  have e3 : IntKind.wrap .u8 (sH a).2.1 = a.getD 6 0 := by
    show IntKind.wrap .u8 (a.getD 5 0 * 256 + a.getD 6 0) = _
    rw [wu8]; omega
  have e4 : IntKind.wrap .u8 (l.length : Int) = a.getD 7 0 := by rw [hO.len, wu8]; omega
  unfold qnf qls
  rw [e1, e2, e3, e4, hO.bytes, qxd, show (8 : Nat) = 4 + (1 + (1 + (1 + 1))) from rfl, qxd a 4, qxd, qxd, qxd, List.drop_drop, List.drop_drop, List.drop_drop, qlg a 4 (by omega), qlg a (4 + 1) (by omega), qlg a (4 + 1 + 1) (by omega), qlg a (4 + 1 + 1 + 1) (by omega), hm]
  rfl
theorem qet (a : List Int) (hb : Bts a) : qZr a = some (hdP a) := by
  have hl' : Int.ofNat a.length = (a.length : Int) := rfl
  rw [qGv, hl']
  unfold hdP
  by_cases h1 : a.length > 50000
  · rw [if_pos (by simp; omega), if_pos h1]; rfl
  rw [if_neg (by simp; omega), if_neg h1]
  by_cases h2 : a.length < 8
  · rw [if_pos (by simp; omega), if_pos h2]; rfl
  have b4 := hb.getD 4
  have b5 := hb.getD 5
  have b6 := hb.getD 6
  have b7 := hb.getD 7
  rw [if_neg (by simp; omega), if_neg h2, qea (by decide), qea (by omega), qea (by decide), qea (by omega), qea (by decide), qea (by decide), qea (by omega), qMm a _ hb (by intro x hx; simp at hx; omega)]
  simp only [Option.bind_some]
  rw [w64 (x := a.getD 4 0) (by omega) (by omega), w64 (x := a.getD 5 0) (by omega) (by omega), w64 (x := a.getD 6 0) (by omega) (by omega), w64 (x := a.getD 7 0) (by omega) (by omega), w64 (x := a.getD 5 0 * 256) (by omega) (by omega), qxy (by omega) b6]
  have es : ((a.getD 4 0, (a.getD 5 0 * 256 + a.getD 6 0, ())) : qna) = sH a := rfl
  have em : ([66, 76, 70, 1] : List Int) = magic := rfl
  rw [es, em, show magic.length = 4 from rfl]
  by_cases hm : a.take 4 = magic
  · rw [if_neg (by simp [hm]), qEh]
    simp only [Option.bind_some]
    by_cases hc : chk (sH a) = 0
    · rw [if_neg (by simp [hc]), qea (by decide), qea (by omega)]
      by_cases h7 : a.getD 7 0 > 16
      · rw [if_pos (by simpa using h7), if_pos (.inr (.inr h7))]; rfl
      · rw [if_neg (by simpa using h7), if_neg (show ¬ (a.take 4 ≠ magic ∨ chk (sH a) ≠ 0 ∨ a.getD 7 0 > 16) from fun h => by rcases h with h | h | h; exact h hm; exact h hc; exact h7 h), qea (by decide), qea (by omega), qea (by decide), qea (by omega), qwq _ (hb.drop 8)]
        simp only [Option.bind_some]
        by_cases hr : (rdM (a.drop 8) (a.getD 7 0)).2.2 = 0
        · obtain ⟨q, hq, hO⟩ := qdB (hb.drop 8) (by simp; omega) ⟨b7.1, by omega⟩ hr
          have hle := hO.le
          rw [List.length_drop] at hle
          have hbody := qhA hb (by omega) hm hc (by omega) hO
          have ha : ask (sH a) (rdM (a.drop 8) (a.getD 7 0)).1 = 0 := by unfold ask; rw [if_neg (by simp [hc]), hO.val]
          rw [if_neg (by rw [hr]; decide), if_neg (show ¬ (rdM (a.drop 8) (a.getD 7 0)).2.2 ≠ 0 from fun h => h hr), qzm _ _ hO.recs hO.sums, ha, if_neg (by simp)]
          simp only [Option.bind_some]
          rw [hq, w64 (x := (a.length : Int) - 8) (by omega) (by omega), w64 (x := (a.length : Int) - 8 - q) (by omega) (by omega), Int.toNat_natCast]
          by_cases h20 : (a.length : Int) - 8 - q < 20
          · rw [if_pos (by simpa using h20), if_pos h20]; rfl
          · rw [if_neg (by simpa using h20), if_neg h20, qMm a _ hb (qPv _ _ hO.sums)]
            simp only [Option.bind_some]
            have hhl : (qIh (sH a) (rdM (a.drop 8) (a.getD 7 0)).1).length = 8 + q + 20 := by
              unfold qIh; rw [List.length_append, qqf, hbody]; simp; omega
            have hiff : a.take (qIh (sH a) (rdM (a.drop 8) (a.getD 7 0)).1).length = qIh (sH a) (rdM (a.drop 8) (a.getD 7 0)).1 ↔ (a.drop (8 + q)).take 20 = qGg (a.take (8 + q)) := by
              rw [hhl, qxd]
              unfold qIh
              rw [hbody]
              constructor
              · intro h; exact List.append_cancel_left h
              · intro h; rw [h]
            by_cases hs : (a.drop (8 + q)).take 20 = qGg (a.take (8 + q))
            · rw [if_neg (by rw [decide_eq_true (hiff.2 hs)]; decide), if_neg (show ¬ (a.drop (8 + q)).take 20 ≠ qGg (a.take (8 + q)) by simp [hs]), hhl]
              congr 3
              simp; omega
            · rw [if_pos (by rw [decide_eq_false (fun h => hs (hiff.1 h))]; rfl), if_pos hs]; rfl
        · rw [if_pos (bne_iff_ne.2 hr), if_pos hr]; rfl
    · rw [if_pos (by simpa using hc), if_pos (.inr (.inl hc))]; rfl
  · rw [if_pos (by simp [hm]), if_pos (.inl hm)]; rfl
theorem qpv (a : List Int) (hb : Bts a) : qng a = some (hdP a) := by
  have hl' : Int.ofNat a.length = (a.length : Int) := rfl
  rw [qTl, hl']
  unfold hdP
  by_cases h1 : a.length > 50000
  · rw [if_pos (by simp; omega), if_pos h1]; rfl
  rw [if_neg (by simp; omega), if_neg h1]
  by_cases h2 : a.length < 8
  · rw [if_pos (by simp; omega), if_pos h2]; rfl
  have b4 := hb.getD 4
  have b5 := hb.getD 5
  have b6 := hb.getD 6
  have b7 := hb.getD 7
  rw [if_neg (by simp; omega), if_neg h2, qea (by decide), qea (by omega), qea (by decide), qea (by omega), qea (by decide), qea (by decide), qea (by omega), qea (by decide), qea (by omega), qGD a hb]
  rw [w64 (x := a.getD 4 0) (by omega) (by omega), w64 (x := a.getD 5 0) (by omega) (by omega), w64 (x := a.getD 6 0) (by omega) (by omega), w64 (x := a.getD 7 0) (by omega) (by omega), w64 (x := a.getD 5 0 * 256) (by omega) (by omega), w64 (x := a.getD 5 0 * 256 + a.getD 6 0) (by omega) (by omega)]
  have es : ((a.getD 4 0, (a.getD 5 0 * 256 + a.getD 6 0, ())) : qna) = sH a := rfl
  rw [es]
  by_cases hm : a.take 4 = magic
  · rw [if_neg (by simp [hm]), qoq]
    simp only [Option.bind_some]
    by_cases hc : chk (sH a) = 0
    · rw [if_neg (by simp [hc]), qea (by decide), qea (by omega)]
      by_cases h7 : a.getD 7 0 > 16
      · rw [if_pos (by simpa using h7), if_pos (.inr (.inr h7))]; rfl
      · rw [if_neg (by simpa using h7), if_neg (show ¬ (a.take 4 ≠ magic ∨ chk (sH a) ≠ 0 ∨ a.getD 7 0 > 16) from fun h => by rcases h with h | h | h; exact h hm; exact h hc; exact h7 h), qea (by decide), qea (by omega), qea (by decide), qea (by omega), qtr _ (hb.drop 8)]
        simp only [Option.bind_some]
        by_cases hr : (rdM (a.drop 8) (a.getD 7 0)).2.2 = 0
        · obtain ⟨q, hq, hO⟩ := qdB (hb.drop 8) (by simp; omega) ⟨b7.1, by omega⟩ hr
          have hle := hO.le
          rw [List.length_drop] at hle
          rw [if_neg (by rw [hr]; decide), if_neg (show ¬ (rdM (a.drop 8) (a.getD 7 0)).2.2 ≠ 0 from fun h => h hr)]
          rw [hq, w64 (x := (a.length : Int) - 8) (by omega) (by omega), w64 (x := (a.length : Int) - 8 - q) (by omega) (by omega), Int.toNat_natCast]
          by_cases h20 : (a.length : Int) - 8 - q < 20
          · rw [if_pos (by simpa using h20), if_pos h20]; rfl
          · rw [if_neg (by simpa using h20), if_neg h20, w64 (x := (8 : Int) + q) (by omega) (by omega), w64 (x := (28 : Int) + q) (by omega) (by omega), qea (by omega), qea (by omega)]
            have n1 : ((8 : Int) + q).toNat = 8 + q := by omega
            have n2 : ((28 : Int) + q).toNat - (8 + q) = 20 := by omega
            rw [n1, n2, qJs _ (by simp; omega)]
            simp only [Option.bind_some]
            have e0 : List.take 20 (List.drop 0 (qGg (a.take (8 + q)))) = qGg (a.take (8 + q)) := by
              rw [List.drop_zero, List.take_of_length_le (by rw [qqf]; omega)]
            rw [qea (by omega), qea (by omega), qea (by omega), e0, qND (qMq _) ((hb.drop _).take _)]
            by_cases hs : (a.drop (8 + q)).take 20 = qGg (a.take (8 + q))
            · rw [if_neg (by simp [hs]), if_neg (show ¬ (a.drop (8 + q)).take 20 ≠ qGg (a.take (8 + q)) by simp [hs])]
            · rw [if_pos (by simp only [Bool.not_eq_true', decide_eq_false_iff_not]; exact fun h => hs h.symm), if_pos hs]; rfl
        · rw [if_pos (bne_iff_ne.2 hr), if_pos hr]; rfl
    · rw [if_pos (by simpa using hc), if_pos (.inr (.inl hc))]; rfl
  · rw [if_pos (by simp [hm]), if_pos (.inl hm)]; rfl
def zL : qta := ((0, (0, ())), ([], ([], ())))
def qPx (a : List Int) (s : qna) (rs : List qaa) : List qfa → Nat → List qda → List qoa → qta × List qoa × Int
  | [], p, hs, bs => if p < a.length then (zL, ([], 12)) else ((s, (rs, (hs, ()))), (bs, 0))
  | x :: ps, p, hs, bs => if (rdB (a.drop p)).2.2 ≠ 0 then (zL, ([], (rdB (a.drop p)).2.2)) else if ¬ isP (rdB (a.drop p)).1.1 x then (zL, ([], 32))
    else qPx a s rs ps (p + (rdB (a.drop p)).2.1.toNat) (hs ++ [(rdB (a.drop p)).1.1]) (bs ++ [(rdB (a.drop p)).1])
def qSx (a : List Int) : qta × List qoa × Int :=
  if (hdP a).2.2.2 ≠ 0 then (zL, ([], (hdP a).2.2.2)) else qPx a (hdP a).1 (hdP a).2.1 (ap (hdP a).1.2.1 0 (hdP a).2.1) (hdP a).2.2.1.toNat [] []
theorem qeB {c : List Int} (h : (rdB c).2.2 = 0) : hOK (rdB c).1.1 ∧ (rdB c).2.1 = 41 + (rdB c).1.1.2.2.2.2.1 ∧ (rdB c).2.1 ≤ c.length ∧ 41 ≤ c.length ∧ c.length ≤ 50000 ∧ c.take 13 = mark ∧
    rdB c = ((pH ((c.drop 13).take 28), ((c.drop 41).take (pH ((c.drop 13).take 28)).2.2.2.2.1.toNat, ())), (41 + (pH ((c.drop 13).take 28)).2.2.2.2.1, 0)) := by
  unfold rdB at h ⊢
  by_cases h1 : c.length > 50000
  · rw [if_pos h1] at h; simp at h
  · rw [if_neg h1] at h ⊢
    by_cases h2 : c.length < 41
    · rw [if_pos h2] at h; simp at h
    · rw [if_neg h2] at h ⊢
      by_cases h3 : c.take 13 ≠ mark ∨ ¬ hOK (pH ((c.drop 13).take 28))
      · rw [if_pos h3] at h; simp at h
      · rw [if_neg h3] at h ⊢
        by_cases h4 : (c.length : Int) < 41 + (pH ((c.drop 13).take 28)).2.2.2.2.1
        · rw [if_pos h4] at h; simp at h
        · rw [if_neg h4]
          simp only [ne_eq, not_or, Decidable.not_not] at h3
          exact ⟨h3.2, rfl, by simp only; omega, by omega, by omega, h3.1, rfl⟩
structure HeadOK (a : List Int) (l : List qaa) (q : Nat) : Prop where
  eq : hdP a = (sH a, (l, (28 + (q : Int), 0)))
  le : 28 + q ≤ a.length
  big : a.length ≤ 50000
  magic : a.take 4 = magic
  chk : chk (sH a) = 0
  seven : a.getD 7 0 ≤ 16
  nn : 0 ≤ a.getD 7 0
  read : ReadOK (a.drop 8) (a.getD 7 0).toNat l q
  sum : (a.drop (8 + q)).take 20 = qGg (a.take (8 + q))
  rd : qfu (a.drop 8) (a.getD 7 0).toNat 0 [] = (l, ((q : Int), 0))
theorem qQB {a : List Int} (hb : Bts a) (h : (hdP a).2.2.2 = 0) : ∃ l q, HeadOK a l q := by
  have b7 := hb.getD 7
  unfold hdP at h
  by_cases h1 : a.length > 50000
  · rw [if_pos h1] at h; simp [hdE] at h
  rw [if_neg h1] at h
  by_cases h2 : a.length < 8
  · rw [if_pos h2] at h; simp [hdE] at h
  rw [if_neg h2] at h
  by_cases h3 : a.take 4 ≠ magic ∨ chk (sH a) ≠ 0 ∨ a.getD 7 0 > 16
  · rw [if_pos h3] at h; simp [hdE] at h
  rw [if_neg h3] at h
  have h3' := h3
  simp only [ne_eq, not_or, Decidable.not_not] at h3'
  obtain ⟨m1, m2, m3⟩ := h3'
  by_cases hr : (rdM (a.drop 8) (a.getD 7 0)).2.2 = 0
  · obtain ⟨q, hq, hO⟩ := qdB (hb.drop 8) (by simp; omega) ⟨b7.1, by omega⟩ hr
    have hle := hO.le
    rw [List.length_drop] at hle
    rw [if_neg (fun h => h hr)] at h
    by_cases h20 : (a.length : Int) - 8 - (rdM (a.drop 8) (a.getD 7 0)).2.1 < 20
    · rw [if_pos h20] at h; simp [hdE] at h
    rw [if_neg h20] at h
    have hqn : (rdM (a.drop 8) (a.getD 7 0)).2.1.toNat = q := by omega
    by_cases hs : (a.drop (8 + (rdM (a.drop 8) (a.getD 7 0)).2.1.toNat)).take 20 ≠ qGg (a.take (8 + (rdM (a.drop 8) (a.getD 7 0)).2.1.toNat))
    · rw [if_pos hs] at h; simp [hdE] at h
    refine ⟨_, q, ?_, by omega, by omega, m1, m2, by omega, b7.1, hO, ?_, ?_⟩
    · unfold hdP
      rw [if_neg h1, if_neg h2, if_neg h3, if_neg (fun h => h hr), if_neg h20, if_neg hs, hq]
    · rw [hqn] at hs; simpa using hs
    · have e : rdM (a.drop 8) (a.getD 7 0) = qfu (a.drop 8) (a.getD 7 0).toNat 0 [] := by unfold rdM; rw [if_neg (by omega), if_neg (by simp; omega)]
      rw [← e, ← hq]
      exact Prod.ext rfl (Prod.ext rfl hr)
  · rw [if_pos hr] at h; exact absurd h hr
theorem HeadOK.recsV {a l q} (h : HeadOK a l q) : RecsV l := qhb h.read.val
theorem HeadOK.blk {a l q} (h : HeadOK a l q) : 16 ≤ (sH a).2.1 ∧ (sH a).2.1 ≤ 4096 := qvs h.chk
theorem qDE (a : List Int) (hb : Bts a) (hl : a.length ≤ 50000) (s t : qna) (rs x1 : List qaa) (x2 : List qda) (ps : List qfa) (hps : ps.length ≤ 100000) : ∀ (k i p : Nat) (hs : List qda) (bs : List qoa), i + k = ps.length → p ≤ a.length → hs.length = i → bs.length = i →
    qHj a (p : Int) (ps.length : Int) (i : Int) t () s () bs ps x1 x2 rs hs = some (qPx a s rs (ps.drop i) p hs bs)
  | 0, i, p, hs, bs, e, hp, h1, h2 => by
    have hl' : Int.ofNat a.length = (a.length : Int) := rfl
    rw [qFm, if_neg (by simp; omega), List.drop_eq_nil_of_le (by omega), qPx, hl']
    by_cases h : p < a.length
    · rw [if_pos (by simp; omega), if_pos h]; rfl
    · rw [if_neg (by simp; omega), if_neg h]
  | k + 1, i, p, hs, bs, e, hp, h1, h2 => by
    have hl' : Int.ofNat a.length = (a.length : Int) := rfl
    have hl2 : Int.ofNat ps.length = (ps.length : Int) := rfl
    obtain ⟨d1, d2, d3⟩ := qDa (qla qga : qfa) (xs := ps) (i := i) (by omega)
    rw [qFm, if_pos (by simp; omega), qea (by omega), qea (by omega), qea (by omega), qea (by omega), Int.toNat_natCast, Int.toNat_natCast, qFp _ (hb.drop p), Nat.zero_add]
    simp only [Option.bind_some]
    rw [d1, qPx]
    generalize ps.getD i (qla qga) = pc
    by_cases hr : (rdB (a.drop p)).2.2 = 0
    · have hk := qeB hr
      have hlen := qCf hk.1
      have hle := hk.2.2.1
      rw [List.length_drop] at hle
      rw [if_neg (by rw [hr]; decide), if_neg (fun h => h hr), qcq]
      simp only [Option.bind_some]
      by_cases hi : isP (rdB (a.drop p)).1.1 pc
      · rw [if_neg (by rw [decide_eq_true hi]; decide), if_neg (fun h => h hi), qea (by simp; omega), qea (by simp; omega), w64 (by omega) (by omega), w64 (by omega) (by omega)]
        have ih := qDE a hb hl s t rs x1 x2 ps hps k (i + 1) (p + (rdB (a.drop p)).2.1.toNat) (hs ++ [(rdB (a.drop p)).1.1]) (bs ++ [(rdB (a.drop p)).1]) (by omega) (by omega) (by simp; omega) (by simp; omega)
        rw [show ((i + 1 : Nat) : Int) = (i : Int) + 1 by omega, show ((p + (rdB (a.drop p)).2.1.toNat : Nat) : Int) = (p : Int) + (rdB (a.drop p)).2.1 by omega] at ih
        exact ih
      · rw [if_pos (by rw [decide_eq_false hi]; rfl), if_pos hi]; rfl
    · rw [if_pos (bne_iff_ne.2 hr), if_pos hr]; rfl
theorem qru (a : List Int) (hb : Bts a) : qsu a = some (qSx a) := by
  rw [qix, qet a hb]
  simp only [Option.bind_some, qSx]
  by_cases h : (hdP a).2.2.2 = 0
  · obtain ⟨l, q, hO⟩ := qQB hb h
    rw [if_neg (by rw [h]; decide), if_neg (fun k => k h), hO.eq]
    simp only
    have hle := hO.le
    have hsm := qYq (sH a).2.1 hO.blk.1 l hO.recsV
    rw [qck _ _ hO.blk hO.recsV]
    simp only [Option.bind_some]
    have := qDE a hb hO.big (sH a) (0, (0, ())) l [] [] (ap (sH a).2.1 0 l) (by omega) _ 0 (28 + q) [] [] (Nat.zero_add _) (by omega) rfl rfl
    rw [show ((28 + (q : Int))).toNat = 28 + q by omega]
    exact this
  · rw [if_pos (bne_iff_ne.2 h), if_pos h]; rfl
theorem qfB (a : List Int) (hb : Bts a) (hl : a.length ≤ 50000) (s t : qna) (rs x1 : List qaa) (x2 : List qda) (ps : List qfa) (hps : ps.length ≤ 100000) : ∀ (k i p : Nat) (hs : List qda) (bs : List qoa), i + k = ps.length → p ≤ a.length → hs.length = i → bs.length = i →
    qWb a (p : Int) (i : Int) t () s () bs ps x1 x2 rs hs = some (qPx a s rs (ps.drop i) p hs bs)
  | 0, i, p, hs, bs, e, hp, h1, h2 => by
    have hl' : Int.ofNat a.length = (a.length : Int) := rfl
    have hl2 : Int.ofNat ps.length = (ps.length : Int) := rfl
    rw [que, if_neg (by simp; omega), List.drop_eq_nil_of_le (by omega), qPx, hl']
    by_cases h : p < a.length
    · rw [if_pos (by simp; omega), if_pos h]; rfl
    · rw [if_neg (by simp; omega), if_neg h]
  | k + 1, i, p, hs, bs, e, hp, h1, h2 => by
    have hl' : Int.ofNat a.length = (a.length : Int) := rfl
    have hl2 : Int.ofNat ps.length = (ps.length : Int) := rfl
    obtain ⟨d1, d2, d3⟩ := qDa (qla qga : qfa) (xs := ps) (i := i) (by omega)
    rw [que, if_pos (by simp; omega), qea (by omega), qea (by omega), Int.toNat_natCast, Int.toNat_natCast, qur _ (hb.drop p), Nat.zero_add]
    simp only [Option.bind_some]
    rw [d1, qPx]
    generalize ps.getD i (qla qga) = pc
    by_cases hr : (rdB (a.drop p)).2.2 = 0
    · have hk := qeB hr
      have hlen := qCf hk.1
      have hle := hk.2.2.1
      rw [List.length_drop] at hle
      rw [if_neg (by rw [hr]; decide), if_neg (fun h => h hr), qea (by omega), qea (by omega), qdu]
      simp only [Option.bind_some]
      by_cases hi : isP (rdB (a.drop p)).1.1 pc
      · rw [if_neg (by rw [decide_eq_true hi]; decide), if_neg (fun h => h hi), qea (by simp; omega), qea (by simp; omega), w64 (by omega) (by omega), w64 (by omega) (by omega)]
        have ih := qfB a hb hl s t rs x1 x2 ps hps k (i + 1) (p + (rdB (a.drop p)).2.1.toNat) (hs ++ [(rdB (a.drop p)).1.1]) (bs ++ [(rdB (a.drop p)).1]) (by omega) (by omega) (by simp; omega) (by simp; omega)
        rw [show ((i + 1 : Nat) : Int) = (i : Int) + 1 by omega, show ((p + (rdB (a.drop p)).2.1.toNat : Nat) : Int) = (p : Int) + (rdB (a.drop p)).2.1 by omega] at ih
        exact ih
      · rw [if_pos (by rw [decide_eq_false hi]; rfl), if_pos hi]; rfl
    · rw [if_pos (bne_iff_ne.2 hr), if_pos hr]; rfl
theorem qqv (a : List Int) (hb : Bts a) : qMe a = some (qSx a) := by
  rw [qkk, qpv a hb]
  simp only [Option.bind_some, qSx]
  by_cases h : (hdP a).2.2.2 = 0
  · obtain ⟨l, q, hO⟩ := qQB hb h
    rw [if_neg (by rw [h]; decide), if_neg (fun k => k h), hO.eq]
    simp only
    have hle := hO.le
    have hsm := qYq (sH a).2.1 hO.blk.1 l hO.recsV
    rw [qov _ _ hO.blk hO.recsV]
    simp only [Option.bind_some]
    have := qfB a hb hO.big (sH a) (0, (0, ())) l [] [] (ap (sH a).2.1 0 l) (by omega) _ 0 (28 + q) [] [] (Nat.zero_add _) (by omega) rfl rfl
    rw [show ((28 + (q : Int))).toNat = 28 + q by omega]
    exact this
  · rw [if_pos (bne_iff_ne.2 h), if_pos h]; rfl
theorem qdt (a : List Int) (hb : Bts a) : qoo a = some ((qSx a).1, (qSx a).2.2) := by rw [qFv, qru a hb]; rfl
theorem qBz (a : List Int) (hb : Bts a) : qSd a = some ((qSx a).1, (qSx a).2.2) := by rw [qSl, qqv a hb]; rfl
def Std (a : List Int) (e : Nat) : Nat → List qda → List qoa → Prop
  | p, h :: hs, x :: bs => rdB (a.drop p) = (x, (41 + h.2.2.2.2.1, 0)) ∧ x.1 = h ∧ hOK h ∧ p ≤ a.length ∧ Std a e (p + (41 + h.2.2.2.2.1).toNat) hs bs
  | p, [], [] => p = e
  | _, _, _ => False
theorem qFC (a : List Int) (s : qna) (rs : List qaa) : ∀ (ps : List qfa) (p : Nat) (hs : List qda) (bs : List qoa), p ≤ a.length → (qPx a s rs ps p hs bs).2.2 = 0 →
    ∃ hs' bs', qPx a s rs ps p hs bs = ((s, (rs, (hs ++ hs', ()))), (bs ++ bs', 0)) ∧ Std a a.length p hs' bs' ∧ hs'.length = ps.length ∧ bs'.length = ps.length ∧ ckL hs' ps = 0
  | [], p, hs, bs, hp, h => by
    simp only [qPx] at h ⊢
    by_cases hlt : p < a.length
    · rw [if_pos hlt] at h; simp at h
    · rw [if_neg hlt]
      exact ⟨[], [], by simp, by unfold Std; omega, rfl, rfl, rfl⟩
  | x :: ps, p, hs, bs, hp, h => by
    simp only [qPx] at h ⊢
    by_cases hr : (rdB (a.drop p)).2.2 = 0
    · have hk := qeB hr
      have hlen := qCf hk.1
      have hle := hk.2.2.1
      rw [List.length_drop] at hle
      rw [if_neg (fun k => k hr)] at h ⊢
      by_cases hi : isP (rdB (a.drop p)).1.1 x
      · rw [if_neg (fun k => k hi)] at h ⊢
        obtain ⟨hs', bs', e1, e2, e3, e4, e5⟩ := qFC a s rs ps _ _ _ (by omega) h
        refine ⟨(rdB (a.drop p)).1.1 :: hs', (rdB (a.drop p)).1 :: bs', by rw [e1]; simp, ?_, by simp [e3], by simp [e4], ?_⟩
        · refine ⟨Prod.ext rfl (Prod.ext hk.2.1 hr), rfl, hk.1, hp, ?_⟩
          rw [← hk.2.1]; exact e2
        · simp only [ckL]; rw [if_pos ⟨hk.1, hi⟩]; exact e5
      · rw [if_pos hi] at h; simp at h
    · rw [if_pos hr] at h; exact absurd h hr
structure AllOK (a : List Int) (rs : List qaa) (q : Nat) (hs : List qda) (bs : List qoa) : Prop where
  head : HeadOK a rs q
  eq : qSx a = ((sH a, (rs, (hs, ()))), (bs, 0))
  std : Std a a.length (28 + q) hs bs
  hlen : hs.length = (ap (sH a).2.1 0 rs).length
  blen : bs.length = (ap (sH a).2.1 0 rs).length
  ck : ckL hs (ap (sH a).2.1 0 rs) = 0
theorem qoF {a : List Int} (hb : Bts a) (h : (qSx a).2.2 = 0) : ∃ rs q hs bs, AllOK a rs q hs bs := by
  unfold qSx at h
  by_cases hh : (hdP a).2.2.2 = 0
  · obtain ⟨l, q, hO⟩ := qQB hb hh
    rw [if_neg (fun k => k hh), hO.eq] at h
    simp only at h
    rw [show ((28 + (q : Int))).toNat = 28 + q by omega] at h
    obtain ⟨hs, bs, e1, e2, e3, e4, e5⟩ := qFC a _ _ _ _ _ _ hO.le h
    refine ⟨l, q, hs, bs, hO, ?_, e2, e3, e4, e5⟩
    unfold qSx
    rw [if_neg (fun k => k hh), hO.eq]
    simp only
    rw [show ((28 + (q : Int))).toNat = 28 + q by omega, e1]
    simp
  · rw [if_pos hh] at h; exact absurd h hh
def s2 : qna := (2, (16, ()))
theorem qWD {a : List Int} {rs q hs bs} (h : AllOK a rs q hs bs) : lck (sH a, (rs, (hs, ()))) = 0 := by
  unfold lck
  rw [if_neg (fun k => k h.head.chk), if_neg (fun k => k h.head.read.val), if_neg (fun k => k h.hlen.symm)]
  exact h.ck
theorem qEu {α : Type} (z : α) {xs : List α} {i : Nat} (h : i < xs.length) : xs.drop i = xs.getD i z :: xs.drop (i + 1) ∧ xs.getD i z ∈ xs := by
  have e : xs.getD i z = xs[i] := by simp [List.getD_eq_getElem?_getD, List.getElem?_eq_getElem h]
  rw [e]
  exact ⟨List.drop_eq_getElem_cons h, List.getElem_mem h⟩
def HVc (k p n : Int) (m : Nat) : Prop :=
  0 ≤ p ∧ ((k = 1 ∧ 0 ≤ n ∧ n < 256 ∧ m = 0) ∨ (k = 2 ∧ 0 ≤ n ∧ m = 0) ∨ (k = 3 ∧ n = 0 ∧ m ≤ 200) ∨ (k = 4 ∧ n = 0 ∧ m = 0))
instance (k p n : Int) (m : Nat) : Decidable (HVc k p n m) := by unfold HVc; infer_instance
def HV (h : qka) : Prop := HVc h.1 h.2.1 h.2.2.1 h.2.2.2.1.length
instance (h : qka) : Decidable (HV h) := by unfold HV; infer_instance
theorem qnz (k p n : Int) (m : Nat) : (if (k == (1 : Int)) = true then
    if (decide (p ≥ (0 : Int))) = true then
      if (decide (n ≥ (0 : Int))) = true then
        if (decide (n < (256 : Int))) = true then some ((Int.ofNat m) == (0 : Int)) else some (false)
      else some (false)
    else some (false)
  else
    if (k == (2 : Int)) = true then
      if (decide (p ≥ (0 : Int))) = true then
        if (decide (n ≥ (0 : Int))) = true then some ((Int.ofNat m) == (0 : Int)) else some (false)
      else some (false)
    else
      if (k == (3 : Int)) = true then
        if (decide (p ≥ (0 : Int))) = true then
          if (n == (0 : Int)) = true then some (decide ((Int.ofNat m) ≤ (200 : Int))) else some (false)
        else some (false)
      else
        if (k == (4 : Int)) = true then
          if (decide (p ≥ (0 : Int))) = true then
            if (n == (0 : Int)) = true then some ((Int.ofNat m) == (0 : Int)) else some (false)
          else some (false)
        else some (false)) = some (decide (HVc k p n m)) := by
  have hm : Int.ofNat m = (m : Int) := rfl
  simp only [decide_eq_true_eq, beq_iff_eq, hm]
  repeat' split
  all_goals
    refine congrArg some (Bool.eq_iff_iff.2 (Iff.trans ?_ decide_eq_true_iff.symm))
    unfold HVc
    simp only [decide_eq_true_eq, beq_iff_eq, bne_iff_ne, ne_eq, Bool.false_eq_true, false_iff] at *
    omega
theorem qup (h : qka) : qTk h = some (decide (HV h)) := by
  rw [qps]; exact qnz h.1 h.2.1 h.2.2.1 h.2.2.2.1.length
theorem qPw (k p n : Int) (m : Nat) : (if (decide (p < (0 : Int))) = true then some (false)
  else
    if (decide ((Int.ofNat m) > (0 : Int))) = true then
      if (k != (3 : Int)) = true then some (false)
      else
        if (k == (1 : Int)) = true then
          if (decide (n ≥ (0 : Int))) = true then some (decide (n ≤ (255 : Int))) else some (false)
        else
          if (k == (2 : Int)) = true then some (decide (n ≥ (0 : Int)))
          else
            if (k == (3 : Int)) = true then
              if (n == (0 : Int)) = true then some (decide ((Int.ofNat m) ≤ (200 : Int))) else some (false)
            else
              if (k == (4 : Int)) = true then some (n == (0 : Int)) else some (false)
    else
      if (k == (1 : Int)) = true then
        if (decide (n ≥ (0 : Int))) = true then some (decide (n ≤ (255 : Int))) else some (false)
      else
        if (k == (2 : Int)) = true then some (decide (n ≥ (0 : Int)))
        else
          if (k == (3 : Int)) = true then
            if (n == (0 : Int)) = true then some (decide ((Int.ofNat m) ≤ (200 : Int))) else some (false)
          else
            if (k == (4 : Int)) = true then some (n == (0 : Int)) else some (false)) = some (decide (HVc k p n m)) := by
  have hm : Int.ofNat m = (m : Int) := rfl
  simp only [decide_eq_true_eq, beq_iff_eq, bne_iff_ne, hm]
  repeat' split
  all_goals
    refine congrArg some (Bool.eq_iff_iff.2 (Iff.trans ?_ decide_eq_true_iff.symm))
    unfold HVc
    simp only [decide_eq_true_eq, beq_iff_eq, bne_iff_ne, ne_eq, Bool.false_eq_true, false_iff] at *
    omega
theorem qRs (h : qka) : qDf h = some (decide (HV h)) := by
  rw [qUk]; exact qPw h.1 h.2.1 h.2.2.1 h.2.2.2.1.length
def qRg (l : List qka) : Int := if 20 < l.length then 4 else if ∀ h ∈ l, HV h then 0 else 8
theorem qFy (l : List qka) (hl : l.length ≤ 20) : ∀ (k i : Nat), i + k = l.length → ∃ r : Int, qEa l (l.length : Int) (i : Int) = some r ∧ (0 ≤ r ↔ ¬ ∀ h ∈ l.drop i, HV h)
  | 0, i, e => ⟨-1, by rw [qmb, if_neg (by simp; omega)], by rw [List.drop_of_length_le (by omega)]; simp⟩
  | k + 1, i, e => by
    obtain ⟨d1, d2⟩ := qEu (qla T_api_Harm : qka) (xs := l) (i := i) (by omega)
    obtain ⟨r, h1, h2⟩ := qFy l hl k (i + 1) (by omega)
    rw [show ((i + 1 : Nat) : Int) = (i : Int) + 1 by omega] at h1
    have hl' : Int.ofNat l.length = (l.length : Int) := rfl
    rw [qmb, if_pos (by simp; omega), qea (by omega), qea (by rw [hl']; omega), Int.toNat_natCast, qxp, qup, d1]
    generalize List.getD l i (qla T_api_Harm) = h at *
    simp only [Option.bind_some, List.forall_mem_cons]
    by_cases hv : HV h
    · rw [if_neg (by simp [hv]), w64 (by omega) (by omega), h1]
      exact ⟨r, rfl, by simp only [hv, true_and]; exact h2⟩
    · rw [if_pos (by simp [hv])]
      exact ⟨i, rfl, by simp [hv]⟩
theorem qmg (l : List qka) : qQg l = some (qRg l) := by
  have hl' : Int.ofNat l.length = (l.length : Int) := rfl
  rw [qrs]
  unfold qRg
  by_cases h : 20 < l.length
  · rw [if_pos (by simp; omega), if_pos h]
  · rw [if_neg (by simp; omega), if_neg h, qvd, qge]
    obtain ⟨r, h1, h2⟩ := qFy l (by omega) l.length 0 (by omega)
    rw [hl', show (0 : Int) = ((0 : Nat) : Int) from rfl, h1]
    rw [List.drop_zero] at h2
    simp only [Option.bind_some]
    by_cases hv : ∀ h ∈ l, HV h
    · rw [if_neg (by simp only [decide_eq_true_eq]; exact fun h3 => (h2.1 h3) hv), if_pos hv]
    · rw [if_pos (by simp only [decide_eq_true_eq]; exact h2.2 hv), if_neg hv]
theorem qnv (l : List qka) (hl : l.length ≤ 20) : ∀ (k i : Nat), i + k = l.length → qpc l (i : Int) = some (if ∀ h ∈ l.drop i, HV h then 0 else 8)
  | 0, i, e => by rw [qYe, if_neg (by simp; omega), List.drop_of_length_le (by omega), if_pos (by simp)]
  | k + 1, i, e => by
    obtain ⟨d1, d2⟩ := qEu (qla T_api_Harm : qka) (xs := l) (i := i) (by omega)
    have h1 := qnv l hl k (i + 1) (by omega)
    rw [show ((i + 1 : Nat) : Int) = (i : Int) + 1 by omega] at h1
    have hl' : Int.ofNat l.length = (l.length : Int) := rfl
    rw [qYe, if_pos (by simp; omega), qea (by omega), qea (by rw [hl']; omega), Int.toNat_natCast, qRs, d1]
    generalize List.getD l i (qla T_api_Harm) = h at *
    simp only [Option.bind_some, List.forall_mem_cons]
    by_cases hv : HV h
    · rw [if_neg (by simp [hv]), w64 (by omega) (by omega), h1]
      simp only [hv, true_and]
    · rw [if_pos (by simp [hv]), if_neg (fun h3 => hv h3.1)]
theorem qSs (l : List qka) : qFf l = some (qRg l) := by
  rw [qWk]
  unfold qRg
  by_cases h : 20 < l.length
  · rw [if_pos (by simp; omega), if_pos h]
  · have h1 := qnv l (by omega) l.length 0 (by omega)
    rw [List.drop_zero] at h1
    rw [if_neg (by simp; omega), if_neg h]
    exact h1
def st {α : Type} (f : Int → α) (l : List α) (h : qka) : Option (List α) :=
  if h.1 = 1 then if h.2.1 < l.length then some (l.set h.2.1.toNat (f h.2.2.1)) else none
  else if h.1 = 2 then if h.2.1 ≤ l.length ∧ h.2.2.1 ≤ l.length - h.2.1 then some (l.take h.2.1.toNat ++ l.drop (h.2.1 + h.2.2.1).toNat) else none
  else if h.1 = 3 then if h.2.1 ≤ l.length ∧ l.length + (h.2.2.2.1.length : Int) ≤ 50000 then some (l.take h.2.1.toNat ++ h.2.2.2.1.map f ++ l.drop h.2.1.toNat) else none
  else if h.2.1 ≤ l.length then some (l.take h.2.1.toNat) else none
def sts {α : Type} (f : Int → α) : List α → List qka → Option (List α)
  | l, [] => some l
  | l, h :: r => (st f l h).bind fun l' => sts f l' r
theorem qBF {α β : Type} (f : Int → α) (g : α → β) (l : List α) (h : qka) : (st f l h).map (List.map g) = st (fun x => g (f x)) (l.map g) h := by
  unfold st
  simp only [List.length_map]
  repeat' split
  all_goals simp [List.map_set, List.map_take, List.map_drop]
theorem qJw {α β : Type} (f : Int → α) (g : α → β) : ∀ (l : List α) (hs : List qka), (sts f l hs).map (List.map g) = sts (fun x => g (f x)) (l.map g) hs
  | l, [] => rfl
  | l, h :: r => by
    simp only [sts]
    rw [← qBF]
    cases st f l h with
    | none => rfl
    | some l' => exact qJw f g l' r
theorem qIn {α : Type} {f : Int → α} {l l' : List α} {h : qka} (hv : HV h) (hl : l.length ≤ 50000) (e : st f l h = some l') : l'.length ≤ 50000 := by
  unfold st at e
  have h0 := hv.1
  have h2 : h.1 = 2 → (0 : Int) ≤ h.2.2.1 := fun hk => by
    rcases hv.2 with hh | hh | hh | hh
    · exact hh.2.1
    · exact hh.2.1
    · rw [hh.2.1]; decide
    · rw [hh.2.1]; decide
  repeat' split at e
  all_goals first | (injection e with e; subst e; simp only [List.length_set, List.length_append, List.length_take, List.length_drop, List.length_map]; omega) | cases e | (injection e with e; subst e; simp only [List.length_append, List.length_take, List.length_drop]; have h3 := h2 (by assumption); omega)
theorem qKw {α : Type} {f : Int → α} : ∀ {l l' : List α} {hs : List qka}, (∀ h ∈ hs, HV h) → l.length ≤ 50000 → sts f l hs = some l' → l'.length ≤ 50000
  | l, l', [], _, hl, e => by injection e with e; subst e; exact hl
  | l, l', h :: r, hv, hl, e => by
    simp only [sts] at e
    cases h1 : st f l h with
    | none => rw [h1] at e; cases e
    | some l1 => rw [h1] at e; exact qKw (fun h hh => hv h (List.mem_cons_of_mem _ hh)) (qIn (hv h List.mem_cons_self) hl h1) e
theorem qqz {α : Type} (z : α) {xs : List α} {i : Nat} (h : i < xs.length) : xs.take (i + 1) = xs.take i ++ [xs.getD i z] := by
  have e : xs.getD i z = xs[i] := by simp [List.getD_eq_getElem?_getD, List.getElem?_eq_getElem h]
  rw [e, List.take_add_one, List.getElem?_eq_getElem h]; rfl
theorem qBG {n : Int} (h0 : 0 ≤ n) (h1 : n < 256) : IntKind.wrap .u8 n = n := by rw [wu8, Int.emod_eq_of_lt h0 h1]
def ps (n : Int) (h : qka) : Prop := (h.1 = 1 ∧ h.2.1 < n) ∨ (h.1 = 2 ∧ h.2.1 ≤ n ∧ h.2.2.1 ≤ n - h.2.1) ∨ (h.1 = 3 ∧ h.2.1 ≤ n ∧ n + (h.2.2.2.1.length : Int) ≤ 50000) ∨ (h.1 = 4 ∧ h.2.1 ≤ n)
instance (n : Int) (h : qka) : Decidable (ps n h) := by unfold ps; infer_instance
theorem qsh {n : Int} {h : qka} (hv : HV h) (h0 : 0 ≤ n) (h1 : n ≤ 50000) : qSc n h = some (decide (ps n h)) := by
  rw [qyo]
  obtain ⟨hp, hv⟩ := hv
  have hof : Int.ofNat h.2.2.2.1.length = (h.2.2.2.1.length : Int) := rfl
  rcases hv with ⟨hk, hn0, hn1, hm⟩ | ⟨hk, hn0, hm⟩ | ⟨hk, hn0, hm⟩ | ⟨hk, hn0, hm⟩
  · rw [if_pos (by rw [hk]; rfl)]
    refine congrArg some (decide_eq_decide.2 ?_)
    unfold ps
    rw [hk]
    simp
  · rw [if_neg (by rw [hk]; decide), if_pos (by rw [hk]; rfl)]
    have e : ps n h ↔ (h.2.1 ≤ n ∧ h.2.2.1 ≤ n - h.2.1) := by unfold ps; rw [hk]; simp
    by_cases h2 : h.2.1 ≤ n
    · rw [if_pos (decide_eq_true h2), w64 (by omega) (by omega)]
      refine congrArg some (decide_eq_decide.2 ?_)
      rw [e]
      exact ⟨fun h => ⟨h2, h⟩, fun h => h.2⟩
    · rw [if_neg (by simp only [decide_eq_true_eq]; exact h2)]
      refine congrArg some (decide_eq_false ?_).symm
      rw [e]; exact fun h => h2 h.1
  · rw [if_neg (by rw [hk]; decide), if_neg (by rw [hk]; decide), if_pos (by rw [hk]; rfl), hof]
    have e : ps n h ↔ (h.2.1 ≤ n ∧ n + (h.2.2.2.1.length : Int) ≤ 50000) := by unfold ps; rw [hk]; simp
    by_cases h2 : h.2.1 ≤ n
    · rw [if_pos (decide_eq_true h2), w64 (by omega) (by omega)]
      refine congrArg some (decide_eq_decide.2 ?_)
      rw [e]
      exact ⟨fun h => ⟨h2, h⟩, fun h => h.2⟩
    · rw [if_neg (by simp only [decide_eq_true_eq]; exact h2)]
      refine congrArg some (decide_eq_false ?_).symm
      rw [e]; exact fun h => h2 h.1
  · rw [if_neg (by rw [hk]; decide), if_neg (by rw [hk]; decide), if_neg (by rw [hk]; decide)]
    refine congrArg some (decide_eq_decide.2 ?_)
    unfold ps
    rw [hk]
    simp
theorem ps1 {n : Int} {h : qka} (hk : h.1 = 1) (hp : ps n h) : h.2.1 < n := by
  unfold ps at hp; rw [hk] at hp; simpa using hp
theorem ps2 {n : Int} {h : qka} (hk : h.1 = 2) (hp : ps n h) : h.2.1 ≤ n ∧ h.2.2.1 ≤ n - h.2.1 := by
  unfold ps at hp; rw [hk] at hp; simpa using hp
theorem ps3 {n : Int} {h : qka} (hk : h.1 = 3) (hp : ps n h) : h.2.1 ≤ n ∧ n + (h.2.2.2.1.length : Int) ≤ 50000 := by
  unfold ps at hp; rw [hk] at hp; simpa using hp
theorem ps4 {n : Int} {h : qka} (hk : h.1 = 4) (hp : ps n h) : h.2.1 ≤ n := by
  unfold ps at hp; rw [hk] at hp; simpa using hp
section
variable {α : Type} (f : Int → α) (l : List α) {h : qka}
theorem st1 (hk : h.1 = 1) (hq : h.2.1 < (l.length : Int)) : st f l h = some (l.set h.2.1.toNat (f h.2.2.1)) := by
  unfold st; rw [if_pos hk, if_pos hq]
theorem st2 (hk : h.1 = 2) (hq : h.2.1 ≤ (l.length : Int) ∧ h.2.2.1 ≤ (l.length : Int) - h.2.1) : st f l h = some (l.take h.2.1.toNat ++ l.drop (h.2.1 + h.2.2.1).toNat) := by
  unfold st; rw [if_neg (by rw [hk]; decide), if_pos hk, if_pos hq]
theorem st3 (hk : h.1 = 3) (hq : h.2.1 ≤ (l.length : Int) ∧ (l.length : Int) + (h.2.2.2.1.length : Int) ≤ 50000) : st f l h = some (l.take h.2.1.toNat ++ h.2.2.2.1.map f ++ l.drop h.2.1.toNat) := by
  unfold st; rw [if_neg (by rw [hk]; decide), if_neg (by rw [hk]; decide), if_pos hk, if_pos hq]
theorem st4 (hk : h.1 = 4) (hq : h.2.1 ≤ (l.length : Int)) : st f l h = some (l.take h.2.1.toNat) := by
  unfold st; rw [if_neg (by rw [hk]; decide), if_neg (by rw [hk]; decide), if_neg (by rw [hk]; decide), if_pos hq]
theorem stN (hv : HV h) (hp : ¬ ps (l.length : Int) h) : st f l h = none := by
  unfold ps at hp
  unfold st
  rcases hv.2 with ⟨hk, _⟩ | ⟨hk, _⟩ | ⟨hk, _⟩ | ⟨hk, _⟩ <;> rw [hk] at hp ⊢ <;> simp only [true_and, false_and, or_false, false_or, reduceCtorEq, Int.reduceEq] at hp ⊢
  · rw [if_pos trivial, if_neg hp]
  · rw [if_neg (by decide), if_pos trivial, if_neg hp]
  · rw [if_neg (by decide), if_neg (by decide), if_pos trivial, if_neg hp]
  · rw [if_neg (by decide), if_neg (by decide), if_neg (by decide), if_neg hp]
end
def qtB : Option (List Int) → List Int × Int
  | some r => (r, 0)
  | none => ([], 16)
def fB : Int → Int := fun x => x
theorem qFG (x : Int) : qhd x = some (fB x) := by rw [qyp]; rfl
theorem qjG (l : List Int) (hl : l.length ≤ 50000) : qid l = some l := by
  rw [qBi]
  refine qKp false (fun h => by cases h) fun r hr => ?_
  cases r with
  | true => rw [if_pos rfl, hr rfl]
  | false => rw [if_neg (by simp), qea (by simp; omega)]; rfl
theorem delB {l : List Int} {p n : Int} (hp : 0 ≤ p) (hn : 0 ≤ n) (h : p + n ≤ l.length) (hl : l.length ≤ 50000) : qgc l p (IntKind.wrap .i64 (p + n)) = some (l.take p.toNat ++ l.drop (p + n).toNat) := by
  rw [w64 (by omega) (by omega)]
  unfold qgc
  rw [if_pos (by omega)]
theorem qmH {l bs : List Int} {p : Int} (hp : 0 ≤ p) (h : p ≤ l.length) (hl : l.length ≤ 50000) (hb : bs.length ≤ 200) : qib l p bs = some (l.take p.toNat ++ bs ++ l.drop p.toNat) := by
  unfold qib
  rw [if_pos (by omega)]
theorem qoi (hs : List qka) (a b : Int) (bs : List Int) (hb : bs.length ≤ 200) (l : List Int) (h : qka) : ∀ (k j : Nat), j + k = bs.length →
    qQd hs a b bs (bs.length : Int) (j : Int) l h ((bs.take j).map fB) = (qib l h.2.1 (bs.map fB)).bind fun r => qFa hs a (IntKind.wrap .i64 (b + 1)) r
  | 0, j, e => by rw [qjh, if_neg (by simp; omega), show bs.take j = bs from List.take_of_length_le (by omega)]
  | k + 1, j, e => by
    have ih := qoi hs a b bs hb l h k (j + 1) (by omega)
    rw [show ((j + 1 : Nat) : Int) = (j : Int) + 1 by omega] at ih
    have hz : (bs.take j).map fB ++ [fB (List.getD bs j 0)] = (bs.take (j + 1)).map fB := by
      rw [qqz (0 : Int) (show j < bs.length by omega), List.map_append]; rfl
    rw [qjh, if_pos (by simp; omega), qea (by omega), qea (by simp; omega), Int.toNat_natCast, qFG]
    simp only [Option.bind_some]
    rw [hz, qea (by rw [List.length_map, List.length_take]; omega), w64 (by omega) (by omega), ih]
theorem qni (o n : Nat) (hs : List qka) (a b : Int) (bs : List Int) (hb : bs.length ≤ 200) (l : List Int) (h : qka) : ∀ (k j : Nat), j + k = bs.length →
    qPd o n hs a b bs (bs.length : Int) (j : Int) l h ((bs.take j).map fB) = (qib (List.take n (List.drop o l)) h.2.1 (bs.map fB)).bind fun r => qFa hs a (IntKind.wrap .i64 (b + 1)) r
  | 0, j, e => by rw [qhh, if_neg (by simp; omega), show bs.take j = bs from List.take_of_length_le (by omega)]
  | k + 1, j, e => by
    have ih := qni o n hs a b bs hb l h k (j + 1) (by omega)
    rw [show ((j + 1 : Nat) : Int) = (j : Int) + 1 by omega] at ih
    have hz : (bs.take j).map fB ++ [fB (List.getD bs j 0)] = (bs.take (j + 1)).map fB := by
      rw [qqz (0 : Int) (show j < bs.length by omega), List.map_append]; rfl
    rw [qhh, if_pos (by simp; omega), qea (by omega), qea (by simp; omega), Int.toNat_natCast, qFG]
    simp only [Option.bind_some]
    rw [hz, qea (by rw [List.length_map, List.length_take]; omega), w64 (by omega) (by omega), ih]
theorem qgh (hs : List qka) (hl : hs.length ≤ 20) (hv : ∀ h ∈ hs, HV h) : ∀ (k i : Nat), i + k = hs.length →
    (∀ l : List Int, l.length ≤ 50000 → qFa hs (hs.length : Int) (i : Int) l = some (qtB (sts fB l (hs.drop i)))) ∧
    (∀ (o n : Nat) (l : List Int), o + n ≤ l.length → n ≤ 50000 → qNb o n hs (hs.length : Int) (i : Int) l = some (qtB (sts fB (List.take n (List.drop o l)) (hs.drop i))))
  | 0, i, e => by
    constructor
    · intro l h1
      rw [qkh, if_neg (by simp; omega), show hs.drop i = [] from List.drop_of_length_le (by omega)]; rfl
    · intro o n l h1 h2
      rw [qih, if_neg (by simp; omega), show hs.drop i = [] from List.drop_of_length_le (by omega)]; rfl
  | k + 1, i, e => by
    obtain ⟨d1, d2⟩ := qEu (qla T_api_Harm : qka) (xs := hs) (i := i) (by omega)
    obtain ⟨ih1, ih3⟩ := qgh hs hl hv k (i + 1) (by omega)
    have hl' : Int.ofNat hs.length = (hs.length : Int) := rfl
    have hi : ((i + 1 : Nat) : Int) = (i : Int) + 1 := by omega
    rw [hi] at ih1 ih3
    have hvh := hv _ d2
    rw [d1]
    constructor
    · intro l h1
      have hll : Int.ofNat l.length = (l.length : Int) := rfl
      rw [qkh, if_pos (by simp; omega), qea (by omega), qea (by rw [hl']; omega), Int.toNat_natCast, hll]
      generalize List.getD hs i (qla T_api_Harm) = h at *
      rw [qsh hvh (by omega) (by omega)]
      simp only [Option.bind_some, sts]
      by_cases hp : ps (l.length : Int) h
      · rw [if_neg (by simp [hp])]
        rcases hvh.2 with ⟨hk, hn0, hn1, hm⟩ | ⟨hk, hn0, hm⟩ | ⟨hk, hn0, hm⟩ | ⟨hk, hn0, hm⟩
        · have hq := ps1 hk hp
          rw [if_pos (by rw [hk]; rfl), qFG]
          simp only [Option.bind_some]
          rw [qea hvh.1, qea hq, w64 (by omega) (by omega), Nat.zero_add, qBG hn0 hn1, st1 _ _ hk hq, ih1 _ (by rw [List.length_set]; exact h1)]; rfl
        · have hq := ps2 hk hp
          rw [if_neg (by rw [hk]; decide), if_pos (by rw [hk]; rfl), delB hvh.1 hn0 (by omega) h1]
          simp only [Option.bind_some]
          have h2 := st2 fB l hk hq
          rw [w64 (by omega) (by omega), ih1 _ (qIn hvh h1 h2), h2]; rfl
        · have hq := ps3 hk hp
          have hc2 := qoi hs (hs.length : Int) (i : Int) h.2.2.2.1 hm l h h.2.2.2.1.length 0 (by omega)
          have h2 := st3 fB l hk hq
          rw [if_neg (by rw [hk]; decide), if_neg (by rw [hk]; decide), if_pos (by rw [hk]; rfl)]
          refine Eq.trans hc2 ?_
          rw [qmH hvh.1 hq.1 h1 (by rw [List.length_map]; exact hm)]
          simp only [Option.bind_some]
          rw [w64 (by omega) (by omega), ih1 _ (qIn hvh h1 h2), h2]; rfl
        · have hq := ps4 hk hp
          rw [if_neg (by rw [hk]; decide), if_neg (by rw [hk]; decide), if_neg (by rw [hk]; decide), if_pos (by rw [hk]; rfl), qea hvh.1, qea hq, w64 (by omega) (by omega), st4 _ _ hk hq, Nat.sub_zero,
            ih3 0 _ l (by have := hq; have := hvh.1; omega) (by have := hq; have := hvh.1; omega)]; rfl
      · rw [if_pos (by simp [hp]), stN _ _ hvh hp]; rfl
    · intro o n l hon h1
      have hll : Int.ofNat n = (n : Int) := rfl
      have hzl : (List.take n (List.drop o l)).length = n := by rw [List.length_take, List.length_drop]; omega
      rw [qih, if_pos (by simp; omega), qea (by omega), qea (by rw [hl']; omega), Int.toNat_natCast, hll]
      generalize List.getD hs i (qla T_api_Harm) = h at *
      rw [qsh hvh (by omega) (by omega)]
      simp only [Option.bind_some, sts]
      generalize hz : List.take n (List.drop o l) = z at *
      rw [show (n : Int) = (z.length : Int) by rw [hzl]]
      have h1' : z.length ≤ 50000 := by omega
      by_cases hp : ps (z.length : Int) h
      · rw [if_neg (by simp [hp])]
        rcases hvh.2 with ⟨hk, hn0, hn1, hm⟩ | ⟨hk, hn0, hm⟩ | ⟨hk, hn0, hm⟩ | ⟨hk, hn0, hm⟩
        · have hq := ps1 hk hp
          rw [if_pos (by rw [hk]; rfl), qFG]
          simp only [Option.bind_some]
          rw [qea hvh.1, qea hq, w64 (by omega) (by omega), qBG hn0 hn1, st1 _ _ hk hq, ih3 _ _ _ (by rw [List.length_set]; exact hon) h1, List.drop_set, if_neg (by omega), Nat.add_sub_cancel_left, List.take_set, hz]; rfl
        · have hq := ps2 hk hp
          rw [if_neg (by rw [hk]; decide), if_pos (by rw [hk]; rfl), delB hvh.1 hn0 (by omega) h1']
          simp only [Option.bind_some]
          have h2 := st2 fB z hk hq
          rw [w64 (by omega) (by omega), ih1 _ (qIn hvh h1' h2), h2]; rfl
        · have hq := ps3 hk hp
          have hc2 := qni o n hs (hs.length : Int) (i : Int) h.2.2.2.1 hm l h h.2.2.2.1.length 0 (by omega)
          have h2 := st3 fB z hk hq
          rw [hz] at hc2
          rw [if_neg (by rw [hk]; decide), if_neg (by rw [hk]; decide), if_pos (by rw [hk]; rfl)]
          refine Eq.trans hc2 ?_
          rw [qmH hvh.1 hq.1 h1' (by rw [List.length_map]; exact hm)]
          simp only [Option.bind_some]
          rw [w64 (by omega) (by omega), ih1 _ (qIn hvh h1' h2), h2]; rfl
        · have hq := ps4 hk hp
          rw [if_neg (by rw [hk]; decide), if_neg (by rw [hk]; decide), if_neg (by rw [hk]; decide), if_pos (by rw [hk]; rfl), qea hvh.1, qea hq, w64 (by omega) (by omega), st4 _ _ hk hq, Nat.sub_zero, Nat.add_zero,
            ih3 o _ l (by have := hq; have := hvh.1; omega) (by have := hq; have := hvh.1; omega), ← hz, List.take_take, Nat.min_eq_left (by have := hq; have := hvh.1; omega)]; rfl
      · rw [if_pos (by simp [hp]), stN _ _ hvh hp]; rfl
theorem qmn (l : List Int) (hs : List qka) (hl : hs.length ≤ 20) (hv : ∀ h ∈ hs, HV h) (h1 : l.length ≤ 50000) : qFi l hs = some (qtB (sts fB l hs)) := by
  rw [qvp, qjG l h1]
  exact (qgh hs hl hv hs.length 0 (by omega)).1 l h1
def fI : Int → Int := fun _ => -1
theorem qEG (x : Int) : qjc x = some (fI x) := by rw [qon]; rfl
theorem qiG (l : List Int) (hl : l.length ≤ 50000) : qie l = some l := by
  rw [qxj]
  refine qKp false (fun h => by cases h) fun r hr => ?_
  cases r with
  | true => rw [if_pos rfl, hr rfl]
  | false => rw [if_neg (by simp), qea (by simp; omega)]; rfl
theorem delI {l : List Int} {p n : Int} (hp : 0 ≤ p) (hn : 0 ≤ n) (h : p + n ≤ l.length) (hl : l.length ≤ 50000) : qMb l p (IntKind.wrap .i64 (p + n)) = some (l.take p.toNat ++ l.drop (p + n).toNat) := by
  rw [w64 (by omega) (by omega)]
  unfold qMb
  rw [if_pos (by omega)]
theorem qlH {l bs : List Int} {p : Int} (hp : 0 ≤ p) (h : p ≤ l.length) (hl : l.length ≤ 50000) (hb : bs.length ≤ 200) : qTa l p bs = some (l.take p.toNat ++ bs ++ l.drop p.toNat) := by
  unfold qTa
  rw [if_pos (by omega)]
theorem qij (hs : List qka) (a b : Int) (bs : List Int) (hb : bs.length ≤ 200) (l : List Int) (h : qka) : ∀ (k j : Nat), j + k = bs.length →
    qCe hs a b bs (bs.length : Int) (j : Int) l h ((bs.take j).map fI) = (qTa l h.2.1 (bs.map fI)).bind fun r => qIa hs a (IntKind.wrap .i64 (b + 1)) r
  | 0, j, e => by rw [qMh, if_neg (by simp; omega), show bs.take j = bs from List.take_of_length_le (by omega)]
  | k + 1, j, e => by
    have ih := qij hs a b bs hb l h k (j + 1) (by omega)
    rw [show ((j + 1 : Nat) : Int) = (j : Int) + 1 by omega] at ih
    have hz : (bs.take j).map fI ++ [fI (List.getD bs j 0)] = (bs.take (j + 1)).map fI := by
      rw [qqz (0 : Int) (show j < bs.length by omega), List.map_append]; rfl
    rw [qMh, if_pos (by simp; omega), qea (by omega), qea (by simp; omega), Int.toNat_natCast, qEG]
    simp only [Option.bind_some]
    rw [hz, qea (by rw [List.length_map, List.length_take]; omega), w64 (by omega) (by omega), ih]
theorem qhj (o n : Nat) (hs : List qka) (a b : Int) (bs : List Int) (hb : bs.length ≤ 200) (l : List Int) (h : qka) : ∀ (k j : Nat), j + k = bs.length →
    qBe o n hs a b bs (bs.length : Int) (j : Int) l h ((bs.take j).map fI) = (qTa (List.take n (List.drop o l)) h.2.1 (bs.map fI)).bind fun r => qIa hs a (IntKind.wrap .i64 (b + 1)) r
  | 0, j, e => by rw [qKh, if_neg (by simp; omega), show bs.take j = bs from List.take_of_length_le (by omega)]
  | k + 1, j, e => by
    have ih := qhj o n hs a b bs hb l h k (j + 1) (by omega)
    rw [show ((j + 1 : Nat) : Int) = (j : Int) + 1 by omega] at ih
    have hz : (bs.take j).map fI ++ [fI (List.getD bs j 0)] = (bs.take (j + 1)).map fI := by
      rw [qqz (0 : Int) (show j < bs.length by omega), List.map_append]; rfl
    rw [qKh, if_pos (by simp; omega), qea (by omega), qea (by simp; omega), Int.toNat_natCast, qEG]
    simp only [Option.bind_some]
    rw [hz, qea (by rw [List.length_map, List.length_take]; omega), w64 (by omega) (by omega), ih]
theorem qJh (hs : List qka) (hl : hs.length ≤ 20) (hv : ∀ h ∈ hs, HV h) : ∀ (k i : Nat), i + k = hs.length →
    (∀ l : List Int, l.length ≤ 50000 → qIa hs (hs.length : Int) (i : Int) l = some (qtB (sts fI l (hs.drop i)))) ∧
    (∀ (o n : Nat) (l : List Int), o + n ≤ l.length → n ≤ 50000 → qic o n hs (hs.length : Int) (i : Int) l = some (qtB (sts fI (List.take n (List.drop o l)) (hs.drop i))))
  | 0, i, e => by
    constructor
    · intro l h1
      rw [qNh, if_neg (by simp; omega), show hs.drop i = [] from List.drop_of_length_le (by omega)]; rfl
    · intro o n l h1 h2
      rw [qLh, if_neg (by simp; omega), show hs.drop i = [] from List.drop_of_length_le (by omega)]; rfl
  | k + 1, i, e => by
    obtain ⟨d1, d2⟩ := qEu (qla T_api_Harm : qka) (xs := hs) (i := i) (by omega)
    obtain ⟨ih1, ih3⟩ := qJh hs hl hv k (i + 1) (by omega)
    have hl' : Int.ofNat hs.length = (hs.length : Int) := rfl
    have hi : ((i + 1 : Nat) : Int) = (i : Int) + 1 := by omega
    rw [hi] at ih1 ih3
    have hvh := hv _ d2
    rw [d1]
    constructor
    · intro l h1
      have hll : Int.ofNat l.length = (l.length : Int) := rfl
      rw [qNh, if_pos (by simp; omega), qea (by omega), qea (by rw [hl']; omega), Int.toNat_natCast, hll]
      generalize List.getD hs i (qla T_api_Harm) = h at *
      rw [qsh hvh (by omega) (by omega)]
      simp only [Option.bind_some, sts]
      by_cases hp : ps (l.length : Int) h
      · rw [if_neg (by simp [hp])]
        rcases hvh.2 with ⟨hk, hn0, hn1, hm⟩ | ⟨hk, hn0, hm⟩ | ⟨hk, hn0, hm⟩ | ⟨hk, hn0, hm⟩
        · have hq := ps1 hk hp
          rw [if_pos (by rw [hk]; rfl), qEG]
          simp only [Option.bind_some]
          rw [qea hvh.1, qea hq, w64 (by omega) (by omega), Nat.zero_add, qBG hn0 hn1, st1 _ _ hk hq, ih1 _ (by rw [List.length_set]; exact h1)]; rfl
        · have hq := ps2 hk hp
          rw [if_neg (by rw [hk]; decide), if_pos (by rw [hk]; rfl), delI hvh.1 hn0 (by omega) h1]
          simp only [Option.bind_some]
          have h2 := st2 fI l hk hq
          rw [w64 (by omega) (by omega), ih1 _ (qIn hvh h1 h2), h2]; rfl
        · have hq := ps3 hk hp
          have hc2 := qij hs (hs.length : Int) (i : Int) h.2.2.2.1 hm l h h.2.2.2.1.length 0 (by omega)
          have h2 := st3 fI l hk hq
          rw [if_neg (by rw [hk]; decide), if_neg (by rw [hk]; decide), if_pos (by rw [hk]; rfl)]
          refine Eq.trans hc2 ?_
          rw [qlH hvh.1 hq.1 h1 (by rw [List.length_map]; exact hm)]
          simp only [Option.bind_some]
          rw [w64 (by omega) (by omega), ih1 _ (qIn hvh h1 h2), h2]; rfl
        · have hq := ps4 hk hp
          rw [if_neg (by rw [hk]; decide), if_neg (by rw [hk]; decide), if_neg (by rw [hk]; decide), if_pos (by rw [hk]; rfl), qea hvh.1, qea hq, w64 (by omega) (by omega), st4 _ _ hk hq, Nat.sub_zero,
            ih3 0 _ l (by have := hq; have := hvh.1; omega) (by have := hq; have := hvh.1; omega)]; rfl
      · rw [if_pos (by simp [hp]), stN _ _ hvh hp]; rfl
    · intro o n l hon h1
      have hll : Int.ofNat n = (n : Int) := rfl
      have hzl : (List.take n (List.drop o l)).length = n := by rw [List.length_take, List.length_drop]; omega
      rw [qLh, if_pos (by simp; omega), qea (by omega), qea (by rw [hl']; omega), Int.toNat_natCast, hll]
      generalize List.getD hs i (qla T_api_Harm) = h at *
      rw [qsh hvh (by omega) (by omega)]
      simp only [Option.bind_some, sts]
      generalize hz : List.take n (List.drop o l) = z at *
      rw [show (n : Int) = (z.length : Int) by rw [hzl]]
      have h1' : z.length ≤ 50000 := by omega
      by_cases hp : ps (z.length : Int) h
      · rw [if_neg (by simp [hp])]
        rcases hvh.2 with ⟨hk, hn0, hn1, hm⟩ | ⟨hk, hn0, hm⟩ | ⟨hk, hn0, hm⟩ | ⟨hk, hn0, hm⟩
        · have hq := ps1 hk hp
          rw [if_pos (by rw [hk]; rfl), qEG]
          simp only [Option.bind_some]
          rw [qea hvh.1, qea hq, w64 (by omega) (by omega), qBG hn0 hn1, st1 _ _ hk hq, ih3 _ _ _ (by rw [List.length_set]; exact hon) h1, List.drop_set, if_neg (by omega), Nat.add_sub_cancel_left, List.take_set, hz]; rfl
        · have hq := ps2 hk hp
          rw [if_neg (by rw [hk]; decide), if_pos (by rw [hk]; rfl), delI hvh.1 hn0 (by omega) h1']
          simp only [Option.bind_some]
          have h2 := st2 fI z hk hq
          rw [w64 (by omega) (by omega), ih1 _ (qIn hvh h1' h2), h2]; rfl
        · have hq := ps3 hk hp
          have hc2 := qhj o n hs (hs.length : Int) (i : Int) h.2.2.2.1 hm l h h.2.2.2.1.length 0 (by omega)
          have h2 := st3 fI z hk hq
          rw [hz] at hc2
          rw [if_neg (by rw [hk]; decide), if_neg (by rw [hk]; decide), if_pos (by rw [hk]; rfl)]
          refine Eq.trans hc2 ?_
          rw [qlH hvh.1 hq.1 h1' (by rw [List.length_map]; exact hm)]
          simp only [Option.bind_some]
          rw [w64 (by omega) (by omega), ih1 _ (qIn hvh h1' h2), h2]; rfl
        · have hq := ps4 hk hp
          rw [if_neg (by rw [hk]; decide), if_neg (by rw [hk]; decide), if_neg (by rw [hk]; decide), if_pos (by rw [hk]; rfl), qea hvh.1, qea hq, w64 (by omega) (by omega), st4 _ _ hk hq, Nat.sub_zero, Nat.add_zero,
            ih3 o _ l (by have := hq; have := hvh.1; omega) (by have := hq; have := hvh.1; omega), ← hz, List.take_take, Nat.min_eq_left (by have := hq; have := hvh.1; omega)]; rfl
      · rw [if_pos (by simp [hp]), stN _ _ hvh hp]; rfl
theorem qAo (l : List Int) (hs : List qka) (hl : hs.length ≤ 20) (hv : ∀ h ∈ hs, HV h) (h1 : l.length ≤ 50000) : qvh l hs = some (qtB (sts fI l hs)) := by
  rw [qzq, qiG l h1]
  exact (qJh hs hl hv hs.length 0 (by omega)).1 l h1
def fC : Int → qha := fun b => (b, (-1, ()))
def cells : List Int → Int → List qha
  | [], _ => []
  | x :: r, i => (x, (i, ())) :: cells r (i + 1)
def qVo : Int → Nat → List Int
  | _, 0 => []
  | i, n + 1 => i :: qVo (i + 1) n
theorem qlw : ∀ (l : List Int) (i : Int), (cells l i).length = l.length
  | [], _ => rfl
  | x :: r, i => by simp [cells, qlw r]
theorem qsj : ∀ (n : Nat) (i : Int), (qVo i n).length = n
  | 0, _ => rfl
  | n + 1, i => by simp [qVo, qsj n]
theorem qmw : ∀ (l : List Int) (i : Int), (cells l i).map (fun c => c.1) = l
  | [], _ => rfl
  | x :: r, i => by simp only [cells, List.map_cons, qmw r]
theorem qkw : ∀ (l : List Int) (i : Int), (cells l i).map (fun c => c.2.1) = qVo i l.length
  | [], _ => rfl
  | x :: r, i => by simp only [cells, List.map_cons, qkw r, List.length_cons, qVo]
theorem qTt : ∀ (n : Nat) (i : Int), qVo i (n + 1) = qVo i n ++ [i + n]
  | 0, i => by simp [qVo]
  | n + 1, i => by
    rw [qVo, qTt n (i + 1), qVo]
    simp only [List.cons_append]
    rw [show i + 1 + (n : Int) = i + ((n + 1 : Nat) : Int) by omega]
theorem qkG {l : List qka} (h : qRg l = 0) : l.length ≤ 20 ∧ ∀ x ∈ l, HV x := by
  unfold qRg at h
  split at h
  · cases h
  · split at h
    · rename_i h1 h2; exact ⟨by omega, h2⟩
    · cases h
def app (b : List Int) (l : List qka) : List Int × Int :=
  if qRg l ≠ 0 then ([], qRg l) else if 50000 < b.length then ([], 4) else qtB (sts fB b l)
def org (n : Int) (l : List qka) : List Int × Int :=
  if qRg l ≠ 0 then ([], qRg l) else if n < 0 ∨ 50000 < n then ([], 2) else qtB (sts fI (qVo 0 n.toNat) l)
theorem qRt (b : List Int) (l : List qka) : qpi b l = some (app b l) := by
  rw [qts, qmg]
  simp only [Option.bind_some]
  unfold app
  by_cases h : qRg l = 0
  · obtain ⟨h1, h2⟩ := qkG h
    rw [if_neg (by rw [h]; decide), if_neg (show ¬ qRg l ≠ 0 from fun k => k h)]
    by_cases hb : 50000 < b.length
    · rw [if_pos (by simp; omega), if_pos hb]
    · rw [if_neg (by simp; omega), if_neg hb, qmn b l h1 h2 (by omega)]; rfl
  · rw [if_pos (bne_iff_ne.2 h), if_pos h]
theorem qiq (hs : List qka) (n : Nat) (hn : n ≤ 50000) : ∀ (k j : Nat), j + k = n → qRd hs (n : Int) (j : Int) (qVo 0 j ++ List.replicate k 0) = (qvh (qVo 0 n) hs).bind fun r => some r
  | 0, j, e => by
    rw [qlh, if_neg (by simp; omega)]
    obtain rfl : j = n := by omega
    rw [List.replicate_zero, List.append_nil]
  | k + 1, j, e => by
    have ih := qiq hs n hn k (j + 1) (by omega)
    rw [show ((j + 1 : Nat) : Int) = (j : Int) + 1 by omega] at ih
    have hs2 : List.set (qVo 0 j ++ List.replicate (k + 1) 0) j (j : Int) = qVo 0 (j + 1) ++ List.replicate k 0 := by
      rw [List.set_append_right _ _ (by rw [qsj]; omega), qsj, Nat.sub_self, List.replicate_succ, List.set_cons_zero, qTt, List.append_assoc, Int.zero_add]; rfl
    have hof : Int.ofNat (qVo 0 j ++ List.replicate (k + 1) (0 : Int)).length = (n : Int) := by
      rw [List.length_append, qsj, List.length_replicate]
      show ((j + (k + 1) : Nat) : Int) = n
      omega
    rw [qlh, if_pos (by simp; omega), qea (by omega), qea (by rw [hof]; omega), Int.toNat_natCast, Nat.zero_add, hs2, w64 (by omega) (by omega), ih]
theorem qzl (n : Int) (l : List qka) : qDc n l = some (org n l) := by
  rw [qwp, qmg]
  simp only [Option.bind_some]
  unfold org
  by_cases h : qRg l = 0
  · obtain ⟨h1, h2⟩ := qkG h
    rw [if_neg (by rw [h]; decide), if_neg (show ¬ qRg l ≠ 0 from fun k => k h)]
    by_cases hn : n < 0
    · rw [if_pos (decide_eq_true hn), if_pos (.inl hn)]
    · by_cases hn2 : 50000 < n
      · rw [if_neg (by simp only [decide_eq_true_eq]; exact hn), if_pos (decide_eq_true hn2), if_pos (.inr hn2)]
      · rw [if_neg (by simp only [decide_eq_true_eq]; exact hn), if_neg (by simp only [decide_eq_true_eq]; omega), if_neg (by omega), qea trivial, qea (by omega), qea (by omega), qea (by omega)]
        have hf := qiq l n.toNat (by omega) n.toNat 0 (by omega)
        rw [qAo _ l h1 h2 (by rw [qsj]; omega)] at hf
        rw [List.length_replicate]
        exact hf
  · rw [if_pos (bne_iff_ne.2 h), if_pos h]
theorem qIs (l : List Int) (hl : l.length ≤ 140737488355328) : ∀ (k i : Nat), i + k = l.length → qxb l l (i : Int) = some true
  | 0, i, e => by rw [qKd, if_neg (by simp; omega)]
  | k + 1, i, e => by
    have ih := qIs l hl k (i + 1) (by omega)
    rw [show ((i + 1 : Nat) : Int) = (i : Int) + 1 by omega] at ih
    have hof : Int.ofNat l.length = (l.length : Int) := rfl
    rw [qKd, if_pos (by simp; omega), qea (by omega), qea (by rw [hof]; omega), qea (by omega), qea (by rw [hof]; omega), if_neg (by simp), w64 (by omega) (by omega), ih]
theorem qSu (l : List Int) (hl : l.length ≤ 140737488355328) : qLd l l = some true := by
  rw [qqj, if_neg (by simp)]
  exact qIs l hl l.length 0 (by omega)
theorem qfz (l : List qka) (hl : l.length ≤ Go.maxLen) : ∀ (k i : Nat), i + k = l.length → ∃ g, qoc l (i : Int) = some g ∧ (g = false → ∀ h ∈ l.drop i, h.2.2.2.1.length ≤ 300)
  | 0, i, e => ⟨_, by rw [qXe, if_neg (by simp; omega)], by rw [show l.drop i = [] from List.drop_of_length_le (by omega)]; simp⟩
  | k + 1, i, e => by
    obtain ⟨d1, d2⟩ := qEu (qla T_api_Harm : qka) (xs := l) (i := i) (by omega)
    obtain ⟨g, ih, ih2⟩ := qfz l hl k (i + 1) (by omega)
    rw [show ((i + 1 : Nat) : Int) = (i : Int) + 1 by omega] at ih
    have hof : Int.ofNat l.length = (l.length : Int) := rfl
    unfold Go.maxLen at hl
    rw [qXe, if_pos (by simp; omega), qea (by omega), qea (by rw [hof]; omega), Int.toNat_natCast, d1]
    generalize List.getD l i (qla T_api_Harm) = h at *
    by_cases hh : 300 < h.2.2.2.1.length
    · rw [if_pos (decide_eq_true (by show (h.2.2.2.1.length : Int) > 300; omega))]
      exact ⟨true, rfl, fun h => by cases h⟩
    · rw [if_neg (by simp only [decide_eq_true_eq]; show ¬ (h.2.2.2.1.length : Int) > 300; omega), w64 (by omega) (by omega), ih]
      refine ⟨g, rfl, fun hg x hx => ?_⟩
      rcases List.mem_cons.1 hx with rfl | hx
      · omega
      · exact ih2 hg x hx
theorem qoA (l : List qka) (hl : l.length ≤ Go.maxLen) : ∃ g, qEf l = some g := by
  obtain ⟨g, h, _⟩ := qfz l hl l.length 0 (by omega)
  exact ⟨g, by rw [qVk]; exact h⟩
theorem qyD {o : Option (List Int)} (h : ∀ r, o = some r → r.length ≤ 50000) : (qtB o).1.length ≤ 50000 := by
  cases o with
  | none => exact Nat.zero_le _
  | some r => exact h r rfl
theorem qVE (n : Int) (l : List qka) : (org n l).1.length ≤ 50000 := by
  unfold org
  by_cases h : qRg l = 0
  · obtain ⟨h1, h2⟩ := qkG h
    rw [if_neg (show ¬ qRg l ≠ 0 from fun k => k h)]
    split
    · exact Nat.zero_le _
    · exact qyD fun r hr => qKw h2 (by rw [qsj]; omega) hr
  · rw [if_pos h]; exact Nat.zero_le _
def idx : List Int → Int → Int → Int
  | [], _, _ => -1
  | y :: r, x, i => if x = y then i else idx r x (i + 1)
theorem qQt (o : List Int) (x : Int) (ho : o.length ≤ 50000) : ∀ (k i : Nat), i + k = o.length → qFb o x (o.length : Int) (i : Int) = some (idx (o.drop i) x i)
  | 0, i, e => by rw [qVd, if_neg (by simp; omega), show o.drop i = [] from List.drop_of_length_le (by omega)]; rfl
  | k + 1, i, e => by
    obtain ⟨d1, d2⟩ := qEu (0 : Int) (xs := o) (i := i) (by omega)
    have ih := qQt o x ho k (i + 1) (by omega)
    rw [show ((i + 1 : Nat) : Int) = (i : Int) + 1 by omega] at ih
    have hof : Int.ofNat o.length = (o.length : Int) := rfl
    rw [qVd, if_pos (by simp; omega), qea (by omega), qea (by rw [hof]; omega), Int.toNat_natCast, d1]
    generalize List.getD o i 0 = y at *
    by_cases h : x = y
    · rw [if_pos (beq_iff_eq.2 h)]; simp only [idx]; rw [if_pos h]
    · rw [if_neg (fun k => h (beq_iff_eq.1 k)), w64 (by omega) (by omega), ih]; simp only [idx]; rw [if_neg h]
theorem qnA (o : List Int) (x : Int) (ho : o.length ≤ 50000) : qfe o x = some (idx o x 0) := by
  rw [qvj]; exact qQt o x ho o.length 0 (by omega)
theorem quE : ∀ (o : List Int) (x i : Int), idx o x i = -1 ∨ ∃ k : Nat, k < o.length ∧ idx o x i = i + k ∧ o.getD k 0 = x
  | [], x, i => .inl rfl
  | y :: r, x, i => by
    simp only [idx]
    by_cases h : x = y
    · rw [if_pos h]; exact .inr ⟨0, by simp, by simp, by simpa using h.symm⟩
    · rw [if_neg h]
      rcases quE r x (i + 1) with h1 | ⟨k, h1, h2, h3⟩
      · exact .inl h1
      · exact .inr ⟨k + 1, by simp only [List.length_cons]; omega, by omega, by simpa using h3⟩
def lf (o : List Int) (p : qfa) : Option Int :=
  let a := idx o p.2.1 0
  if a < 0 then none else if (o.length : Int) < a + p.2.2.1 then none else if (o.drop a.toNat).take p.2.2.1.toNat = qVo p.2.1 p.2.2.1.toNat then some a else none
def lfs (o : List Int) : List qfa → Int → List qfa
  | [], _ => []
  | p :: r, i => match lf o p with
    | some a => (i, (a, (p.2.2.1, ()))) :: lfs o r (i + 1)
    | none => lfs o r (i + 1)
def RG (n : Int) (p : qfa) : Prop := (0 : Int) ≤ p.2.1 ∧ (1 : Int) ≤ p.2.2.1 ∧ (p.2.1 : Int) + p.2.2.1 ≤ n
instance (n : Int) (p : qfa) : Decidable (RG n p) := by unfold RG; infer_instance
theorem qDB (o : List Int) : ∀ (l : List qfa) (i : Int), (lfs o l i).length ≤ l.length
  | [], _ => Nat.le_refl _
  | p :: r, i => by
    simp only [lfs]
    have := qDB o r (i + 1)
    split <;> simp only [List.length_cons] <;> omega
theorem qEB (o : List Int) (i a : Int) (rs : List qfa) (c d : Int) (z : List Int) (hz : z.length ≤ 50000) (h8 : List qfa) (p : qfa) (hp0 : (0 : Int) ≤ p.2.1) (hp1 : (p.2.1 : Int) ≤ 50000) : ∀ (k j : Nat) (fl : Bool), j + k = z.length → fl = decide (z.take j = qVo p.2.1 j) →
    qgd o i a fl rs c d z (z.length : Int) (j : Int) h8 p = qgd o i a (decide (z = qVo p.2.1 z.length)) rs c d z (z.length : Int) (z.length : Int) h8 p
  | 0, j, fl, e, hf => by
    obtain rfl : j = z.length := by omega
    rw [List.take_length] at hf
    rw [hf]
  | k + 1, j, fl, e, hf => by
    have hof : Int.ofNat z.length = (z.length : Int) := rfl
    have hq : decide (z.take (j + 1) = qVo p.2.1 (j + 1)) = (fl && (z.getD j 0 == p.2.1 + (j : Int))) := by
      rw [qqz (0 : Int) (show j < z.length by omega), qTt, hf, Bool.eq_iff_iff]
      simp only [decide_eq_true_eq, Bool.and_eq_true, beq_iff_eq]
      constructor
      · intro h
        have := List.append_inj h (by rw [List.length_take, qsj]; omega)
        exact ⟨this.1, by simpa using this.2⟩
      · rintro ⟨h1, h2⟩
        rw [h1, h2]
    have ih := qEB o i a rs c d z hz h8 p hp0 hp1 k (j + 1) _ (by omega) rfl
    rw [show ((j + 1 : Nat) : Int) = (j : Int) + 1 by omega, hq] at ih
    rw [qfj o i a fl, if_pos (by simp; omega), qea (by omega), qea (by rw [hof]; omega), Int.toNat_natCast, w64 (x := (j : Int) + 1) (by omega) (by omega)]
    cases fl with
    | true =>
      rw [if_pos rfl, w64 (by omega) (by omega)]
      rw [Bool.true_and] at ih
      exact ih
    | false =>
      rw [if_neg (by simp)]
      rw [Bool.false_and] at ih
      exact ih
theorem qFB (o : List Int) (ho : o.length ≤ 50000) (rs : List qfa) (hr : rs.length ≤ 600) (n : Int) (hn : n ≤ 50000) (hg : ∀ p ∈ rs, RG n p) : ∀ (k i : Nat) (acc : List qfa), i + k = rs.length → acc.length ≤ i →
    qCc o rs (rs.length : Int) (i : Int) acc = some (acc ++ lfs o (rs.drop i) i)
  | 0, i, acc, e, ha => by rw [qgj, if_neg (by simp; omega), show rs.drop i = [] from List.drop_of_length_le (by omega)]; simp [lfs]
  | k + 1, i, acc, e, ha => by
    obtain ⟨d1, d2⟩ := qEu (qla qga : qfa) (xs := rs) (i := i) (by omega)
    have hgp := hg _ d2
    have ih := fun acc ha => qFB o ho rs hr n hn hg k (i + 1) acc (by omega) ha
    rw [show ((i + 1 : Nat) : Int) = (i : Int) + 1 by omega] at ih
    have hof : Int.ofNat rs.length = (rs.length : Int) := rfl
    have hofo : Int.ofNat o.length = (o.length : Int) := rfl
    rw [qgj, if_pos (by simp; omega), qea (by omega), qea (by rw [hof]; omega), Int.toNat_natCast, d1, hofo]
    generalize List.getD rs i (qla qga) = p at *
    obtain ⟨g1, g2, g3⟩ := hgp
    rw [qnA o _ ho]
    simp only [Option.bind_some, lfs]
    unfold lf
    simp only
    rw [w64 (x := (i : Int) + 1) (by omega) (by omega)]
    rcases quE o p.2.1 0 with h1 | ⟨q, h1, h2, h3⟩
    · rw [h1, if_pos (by decide), if_pos (by decide), ih acc (by omega)]
    · rw [h2, Int.zero_add, if_neg (by simp only [decide_eq_true_eq]; omega), if_neg (show ¬ ((q : Int) < 0) by omega), w64 (x := (q : Int) + p.2.2.1) (by omega) (by omega)]
      by_cases h4 : (o.length : Int) < (q : Int) + p.2.2.1
      · rw [if_pos (decide_eq_true h4), if_pos h4, ih acc (by omega)]
      · have hz : List.take (((q : Int) + p.2.2.1).toNat - (q : Int).toNat) (List.drop (q : Int).toNat o) = (o.drop q).take p.2.2.1.toNat := by
          rw [Int.toNat_natCast]; congr 1; omega
        have hzl : ((o.drop q).take p.2.2.1.toNat).length = p.2.2.1.toNat := by rw [List.length_take, List.length_drop]; omega
        rw [if_neg (by simp only [decide_eq_true_eq]; exact h4), if_neg h4, qea (by omega), qea (by omega), qea (by omega), hz, Int.toNat_natCast]
        generalize (o.drop q).take p.2.2.1.toNat = z at *
        have hc2 := qEB o (i : Int) (q : Int) rs (rs.length : Int) (i : Int) z (by omega) acc p g1 (by omega) z.length 0 true (by omega) (by simp [qVo])
        refine Eq.trans hc2 ?_
        rw [qfj, if_neg (by simp), hzl, w64 (x := (i : Int) + 1) (by omega) (by omega)]
        by_cases h5 : z = qVo p.2.1 p.2.2.1.toNat
        · rw [if_pos (decide_eq_true h5), if_pos h5, qea (by simp only [List.length_append, List.length_singleton]; omega), ih _ (by simp only [List.length_append, List.length_singleton]; omega), List.append_assoc]; rfl
        · rw [if_neg (by simp only [decide_eq_true_eq]; exact h5), if_neg h5, ih acc (by omega)]
theorem qIv (o : List Int) (ho : o.length ≤ 50000) (rs : List qfa) (hr : rs.length ≤ 600) (n : Int) (hn : n ≤ 50000) (hg : ∀ p ∈ rs, RG n p) : qFd rs o = some (lfs o rs 0) := by
  rw [qqt]
  exact qFB o ho rs hr n hn hg rs.length 0 [] (by omega) (Nat.le_refl _)
def srv (rs : List qfa) (n : Int) (l : List qka) : List qfa × Int :=
  if (org n l).2 ≠ 0 then ([], (org n l).2) else if 600 < rs.length then ([], 4) else if ∀ p ∈ rs, RG n p then (lfs (org n l).1 rs 0, 0) else ([], 8)
theorem qQF {n : Int} {l : List qka} (h : (org n l).2 = 0) : qRg l = 0 ∧ 0 ≤ n ∧ n ≤ 50000 := by
  unfold org at h
  by_cases hc : qRg l = 0
  · rw [if_neg (show ¬ qRg l ≠ 0 from fun k => k hc)] at h
    by_cases hn : n < 0 ∨ 50000 < n
    · rw [if_pos hn] at h; cases h
    · exact ⟨hc, by omega, by omega⟩
  · rw [if_pos hc] at h; exact absurd h hc
theorem qDA (rs : List qfa) (hr : rs.length ≤ 600) (n : Int) (hn0 : 0 ≤ n) (hn : n ≤ 50000) (o : List Int) (ho : o.length ≤ 50000) : ∀ (k i : Nat), i + k = rs.length → (∀ p ∈ rs.take i, RG n p) →
    qYc rs n o rs (rs.length : Int) (i : Int) = some (if ∀ p ∈ rs, RG n p then (lfs o rs 0, 0) else ([], 8))
  | 0, i, e, hg => by
    rw [show rs.take i = rs from List.take_of_length_le (by omega)] at hg
    rw [qag, if_neg (by simp; omega), qIv o ho rs hr n hn hg, if_pos hg]; rfl
  | k + 1, i, e, hg => by
    obtain ⟨d1, d2⟩ := qEu (qla qga : qfa) (xs := rs) (i := i) (by omega)
    have ht := qqz (qla qga : qfa) (xs := rs) (i := i) (by omega)
    have hof : Int.ofNat rs.length = (rs.length : Int) := rfl
    rw [qag, if_pos (by simp; omega), qea (by omega), qea (by rw [hof]; omega), Int.toNat_natCast]
    have ih := qDA rs hr n hn0 hn o ho k (i + 1) (by omega)
    rw [ht, show ((i + 1 : Nat) : Int) = (i : Int) + 1 by omega] at ih
    generalize List.getD rs i (qla qga) = p at *
    have bad : ¬ RG n p → (some (if ∀ p ∈ rs, RG n p then (lfs o rs 0, 0) else ([], 8)) : Option (List qfa × Int)) = some ([], 8) := fun h => by
      rw [if_neg (fun h2 => h (h2 p d2))]
    by_cases h1 : (p.2.1 : Int) < 0
    · rw [if_pos (decide_eq_true h1), bad (fun h => by have := h.1; omega)]
    · rw [if_neg (by simp only [decide_eq_true_eq]; exact h1)]
      by_cases h2 : (p.2.2.1 : Int) < 1
      · rw [if_pos (decide_eq_true h2), bad (fun h => by have := h.2.1; omega)]
      · rw [if_neg (by simp only [decide_eq_true_eq]; exact h2)]
        by_cases h3 : (p.2.1 : Int) > n
        · rw [if_pos (decide_eq_true h3), bad (fun h => by have h5 := h.2.1; have h6 := h.2.2; omega)]
        · rw [if_neg (by simp only [decide_eq_true_eq]; exact h3), w64 (x := n - p.2.1) (by omega) (by omega)]
          by_cases h4 : (p.2.2.1 : Int) > n - p.2.1
          · rw [if_pos (decide_eq_true h4), bad (fun h => by have h6 := h.2.2; omega)]
          · rw [if_neg (by simp only [decide_eq_true_eq]; exact h4), w64 (by omega) (by omega)]
            exact ih (fun q hq => by
              rcases List.mem_append.1 hq with hq | hq
              · exact hg q hq
              · rw [List.mem_singleton.1 hq]; exact ⟨by omega, by omega, by omega⟩)
theorem qtt (rs : List qfa) (n : Int) (l : List qka) : qbh rs n l = some (srv rs n l) := by
  rw [qnn, qzl]
  simp only [Option.bind_some]
  unfold srv
  by_cases h : (org n l).2 = 0
  · obtain ⟨_, h0, h1⟩ := qQF h
    rw [if_neg (by rw [h]; decide), if_neg (show ¬ (org n l).2 ≠ 0 from fun k => k h)]
    by_cases hr : 600 < rs.length
    · rw [if_pos (by simp; omega), if_pos hr]
    · rw [if_neg (by simp; omega), if_neg hr]
      exact qDA rs (by omega) n h0 h1 _ (qVE n l) rs.length 0 (by omega) (by simp)
  · rw [if_pos (bne_iff_ne.2 h), if_pos h]
theorem qjA : qZf = some true := by
  rw [qvl, qea (by decide), qea (by decide), qRt, qzl, qtt]
  have e1 : app [(97 : Int), (98 : Int), (99 : Int), (100 : Int)] [((3 : Int), ((1 : Int), ((0 : Int), ([(120 : Int)], ())))), ((2 : Int), ((2 : Int), ((1 : Int), ([], ())))), ((1 : Int), ((0 : Int), ((121 : Int), ([], ()))))] = ([121, 120, 99, 100], 0) := by kernel_rfl
  have e2 : org (4 : Int) [((3 : Int), ((1 : Int), ((0 : Int), ([(120 : Int)], ())))), ((2 : Int), ((2 : Int), ((1 : Int), ([], ())))), ((1 : Int), ((0 : Int), ((121 : Int), ([], ()))))] = ([-1, -1, 2, 3], 0) := by kernel_rfl
  have e3 : srv [((0 : Int), ((2 : Int), ((2 : Int), ()))), ((0 : Int), ((1 : Int), ((2 : Int), ())))] (4 : Int) [((3 : Int), ((1 : Int), ((0 : Int), ([(120 : Int)], ())))), ((2 : Int), ((2 : Int), ((1 : Int), ([], ())))), ((1 : Int), ((0 : Int), ((121 : Int), ([], ()))))] = ([((0 : Int), ((2 : Int), ((2 : Int), ())))], 0) := by kernel_rfl
  rw [e1, e2, e3]
  have e4 : qpg [((0 : Int), ((2 : Int), ((2 : Int), ())))] [((0 : Int), ((2 : Int), ((2 : Int), ())))] = some true := by
    rw [qam, if_neg (by decide), qLf, if_pos (by decide), qea (by decide), qea (by decide), qea (by decide), qea (by decide), if_neg (by decide), w64 (by decide) (by decide), qLf, if_neg (by decide)]
  have e5 : (ByteArray.toList (qEg [(121 : Int), 120, 99, 100]) == ByteArray.toList (ByteArray.mk #[121, 120, 99, 100])) = true := by decide +kernel
  simp only [Option.bind_some, qSu [(-1 : Int), -1, 2, 3] (by decide), e4, e5, beq_self_eq_true, if_true]
theorem qzE {b : List Int} {l : List qka} (h : qRg l = 0) (hb : b.length ≤ 50000) : app b l = qtB (sts fB b l) := by
  unfold app; rw [if_neg (show ¬ qRg l ≠ 0 from fun k => k h), if_neg (by omega)]
theorem qzD {n : Nat} {l : List qka} (h : qRg l = 0) (hn : n ≤ 50000) : org (n : Int) l = qtB (sts fI (qVo 0 n) l) := by
  unfold org; rw [if_neg (show ¬ qRg l ≠ 0 from fun k => k h), if_neg (by omega), Int.toNat_natCast]
def GD (b : List Int) (cs : List qha) : Prop :=
  (∀ c ∈ cs, (c.2.1 : Int) = -1 ∨ ((0 : Int) ≤ c.2.1 ∧ (c.2.1 : Int) < b.length ∧ (c.1 : Int) = b.getD (c.2.1 : Int).toNat 0)) ∧ cs.Pairwise fun a c => (0 : Int) ≤ a.2.1 → (0 : Int) ≤ c.2.1 → (a.2.1 : Int) < c.2.1
theorem qgz {b : List Int} {cs us : List qha} {i j : Nat} (h : GD b cs) (hij : i ≤ j) (hu : ∀ u ∈ us, (u.2.1 : Int) = -1) : GD b (cs.take i ++ us ++ cs.drop j) := by
  obtain ⟨h1, h2⟩ := h
  have hp := h2
  rw [← List.take_append_drop i cs, List.pairwise_append] at hp
  obtain ⟨p1, p2, p3⟩ := hp
  have hd : cs.drop j = (cs.drop i).drop (j - i) := by rw [List.drop_drop]; congr 1; omega
  refine ⟨fun c hc => ?_, ?_⟩
  · rcases List.mem_append.1 hc with hc | hc
    · rcases List.mem_append.1 hc with hc | hc
      · exact h1 c (List.mem_of_mem_take hc)
      · exact .inl (hu c hc)
    · exact h1 c (List.mem_of_mem_drop hc)
  · refine List.pairwise_append.2 ⟨List.pairwise_append.2 ⟨p1, ?_, fun a _ u hx _ h0 => ?_⟩, ?_, fun a ha c hc => ?_⟩
    · exact List.Pairwise.imp_of_mem (R := fun _ _ => True) (fun hx _ _ h0 => by have := hu _ hx; omega) (List.pairwise_of_forall (fun _ _ => trivial))
    · have := hu u hx; omega
    · rw [hd]; exact p2.sublist (List.drop_sublist _ _)
    · have hc' : c ∈ cs.drop i := by rw [hd] at hc; exact List.mem_of_mem_drop hc
      rcases List.mem_append.1 ha with ha | ha
      · exact p3 a ha c hc'
      · intro h0; have := hu a ha; omega
theorem qdH {b : List Int} {cs cs' : List qha} {h : qka} (hv : HV h) (hg : GD b cs) (e : st fC cs h = some cs') : GD b cs' := by
  have hp := hv.1
  by_cases hq : ps (cs.length : Int) h
  · rcases hv.2 with ⟨hk, hn0, hn1, hm⟩ | ⟨hk, hn0, hm⟩ | ⟨hk, hn0, hm⟩ | ⟨hk, hn0, hm⟩
    · have h1 := ps1 hk hq
      rw [st1 _ _ hk h1] at e; injection e with e; subst e
      rw [List.set_eq_take_append_cons_drop, if_pos (by omega)]
      have := qgz (us := [fC h.2.2.1]) (i := h.2.1.toNat) (j := h.2.1.toNat + 1) hg (by omega) (fun u hu => by rw [List.mem_singleton.1 hu]; rfl)
      rw [List.append_assoc] at this
      exact this
    · have h1 := ps2 hk hq
      rw [st2 _ _ hk h1] at e; injection e with e; subst e
      have := qgz (us := []) (i := h.2.1.toNat) (j := (h.2.1 + h.2.2.1).toNat) hg (by omega) (fun u hu => by cases hu)
      rw [List.append_nil] at this
      exact this
    · have h1 := ps3 hk hq
      rw [st3 _ _ hk h1] at e; injection e with e; subst e
      exact qgz hg (Nat.le_refl _) (fun u hu => by obtain ⟨x, _, rfl⟩ := List.mem_map.1 hu; rfl)
    · have h1 := ps4 hk hq
      rw [st4 _ _ hk h1] at e; injection e with e; subst e
      have := qgz (us := []) (i := h.2.1.toNat) (j := cs.length) hg (by omega) (fun u hu => by cases hu)
      rw [List.append_nil, List.drop_length, List.append_nil] at this
      exact this
  · rw [stN _ _ hv hq] at e; cases e
theorem qFE {b : List Int} : ∀ {cs cs' : List qha} {hs : List qka}, (∀ h ∈ hs, HV h) → GD b cs → sts fC cs hs = some cs' → GD b cs'
  | cs, cs', [], _, hg, e => by injection e with e; subst e; exact hg
  | cs, cs', h :: r, hv, hg, e => by
    simp only [sts] at e
    cases h1 : st fC cs h with
    | none => rw [h1] at e; cases e
    | some c1 => rw [h1] at e; exact qFE (fun h hh => hv h (List.mem_cons_of_mem _ hh)) (qdH (hv h List.mem_cons_self) hg h1) e
theorem qxs : ∀ (l : List Int) (i : Int) (c : qha), c ∈ cells l i → ∃ k : Nat, k < l.length ∧ (c.2.1 : Int) = i + k ∧ (c.1 : Int) = l.getD k 0
  | [], i, c, h => by cases h
  | x :: r, i, c, h => by
    rcases List.mem_cons.1 h with rfl | h
    · exact ⟨0, by simp, by simp, by simp⟩
    · obtain ⟨k, h1, h2, h3⟩ := qxs r (i + 1) c h
      exact ⟨k + 1, by simp only [List.length_cons]; omega, by omega, by simpa using h3⟩
theorem qTy : ∀ (l : List Int) (i : Int), (cells l i).Pairwise fun a c => (0 : Int) ≤ a.2.1 → (0 : Int) ≤ c.2.1 → (a.2.1 : Int) < c.2.1
  | [], i => List.Pairwise.nil
  | x :: r, i => by
    refine List.Pairwise.cons (fun c hc _ _ => ?_) (qTy r (i + 1))
    obtain ⟨k, _, h2, _⟩ := qxs r (i + 1) c hc
    show i < c.2.1
    omega
theorem qXD (b : List Int) : GD b (cells b 0) := by
  refine ⟨fun c hc => ?_, qTy b 0⟩
  obtain ⟨k, h1, h2, h3⟩ := qxs b 0 c hc
  right
  rw [h2, h3]
  refine ⟨by omega, by omega, by congr 1; omega⟩
theorem qmF {b : List Int} {l : List qka} (hc : qRg l = 0) (hb : b.length ≤ 50000) :
    (app b l = ([], 16) ∧ org (b.length : Int) l = ([], 16)) ∨ ∃ cs : List qha, app b l = (cs.map (fun c : qha => c.1), 0) ∧ org (b.length : Int) l = (cs.map (fun c : qha => c.2.1), 0) ∧ GD b cs ∧ (l = [] → cs = cells b 0) ∧ cs.length ≤ 50000 := by
  obtain ⟨c1, c2⟩ := qkG hc
  have m1 := qJw fC (fun c : qha => c.1) (cells b 0) l
  have m2 := qJw fC (fun c : qha => c.2.1) (cells b 0) l
  rw [qmw] at m1
  rw [qkw] at m2
  have m1' : sts fB b l = Option.map (List.map fun c : qha => c.1) (sts fC (cells b 0) l) := m1.symm
  have m2' : sts fI (qVo 0 b.length) l = Option.map (List.map fun c : qha => c.2.1) (sts fC (cells b 0) l) := m2.symm
  rw [qzE hc hb, qzD hc hb, m1', m2']
  cases e : sts fC (cells b 0) l with
  | none => exact .inl ⟨rfl, rfl⟩
  | some cs => exact .inr ⟨cs, rfl, rfl, qFE c2 (qXD b) e, fun hl => by subst hl; injection e with e; exact e.symm, qKw c2 (by rw [qlw]; exact hb) e⟩
theorem qUq {α : Type} (f : α → Int) (z : α) (l : List α) (j : Nat) (h : j < l.length) : (l.map f).getD j 0 = f (l.getD j z) := by
  simp [List.getD_eq_getElem?_getD, List.getElem?_eq_getElem h]
theorem qfH {b : List Int} {cs : List qha} (h : GD b cs) {j : Nat} (hj : j < cs.length) :
    (cs.map (fun c : qha => c.2.1)).getD j 0 = -1 ∨ (0 ≤ (cs.map (fun c : qha => c.2.1)).getD j 0 ∧ (cs.map (fun c : qha => c.2.1)).getD j 0 < b.length ∧ (cs.map (fun c : qha => c.1)).getD j 0 = b.getD ((cs.map (fun c : qha => c.2.1)).getD j 0).toNat 0) := by
  rw [qUq _ (qla qUb : qha) cs j hj, qUq _ (qla qUb : qha) cs j hj]
  exact h.1 _ (qEu _ hj).2
theorem qeH {b : List Int} {cs : List qha} (h : GD b cs) {i j : Nat} (hij : i < j) (hj : j < cs.length) (h0 : 0 ≤ (cs.map (fun c : qha => c.2.1)).getD i 0) (h1 : 0 ≤ (cs.map (fun c : qha => c.2.1)).getD j 0) :
    (cs.map (fun c : qha => c.2.1)).getD i 0 < (cs.map (fun c : qha => c.2.1)).getD j 0 := by
  rw [qUq _ (qla qUb : qha) cs i (by omega)] at h0 ⊢
  rw [qUq _ (qla qUb : qha) cs j hj] at h1 ⊢
  have hp := List.pairwise_iff_getElem.1 h.2 i j (by omega) hj hij
  have e : ∀ k (hk : k < cs.length), cs.getD k (qla qUb : qha) = cs[k] := fun k hk => by simp [List.getD_eq_getElem?_getD, List.getElem?_eq_getElem hk]
  rw [e i (by omega)] at h0 ⊢
  rw [e j hj] at h1 ⊢
  exact hp h0 h1
theorem qZx : ∀ (n : Nat) (i : Int) (j : Nat), j < n → (qVo i n).getD j 0 = i + j
  | 0, i, j, h => by omega
  | n + 1, i, 0, h => by simp [qVo]
  | n + 1, i, j + 1, h => by
    have := qZx n (i + 1) j (by omega)
    simp only [qVo, List.getD_cons_succ]
    rw [this]; omega
abbrev Zp : qfa := qla qga
theorem qZE {o : List Int} {p : qfa} {a : Int} (hr : (1 : Int) ≤ p.2.2.1) (h : lf o p = some a) :
    0 ≤ a ∧ a + p.2.2.1 ≤ (o.length : Int) ∧ ∀ k : Nat, (k : Int) < p.2.2.1 → o.getD (a.toNat + k) 0 = p.2.1 + k := by
  unfold lf at h
  simp only at h
  generalize idx o p.2.1 0 = q at h
  by_cases h1 : q < 0
  · rw [if_pos h1] at h; cases h
  · rw [if_neg h1] at h
    by_cases h2 : (o.length : Int) < q + p.2.2.1
    · rw [if_pos h2] at h; cases h
    · rw [if_neg h2] at h
      split at h
      · rename_i h3
        injection h with h; subst h
        refine ⟨by omega, by omega, fun k hk => ?_⟩
        have h4 := qZx p.2.2.1.toNat p.2.1 k (by omega)
        rw [← h3] at h4
        rw [← h4]
        simp only [List.getD_eq_getElem?_getD, List.getElem?_take, List.getElem?_drop]
        rw [if_pos (by omega)]
      · cases h
theorem qlx (o : List Int) : ∀ (l : List qfa) (i : Int) (s : qfa), s ∈ lfs o l i → ∃ k : Nat, k < l.length ∧ (s.1 : Int) = i + k ∧ s.2.2.1 = (l.getD k Zp).2.2.1 ∧ lf o (l.getD k Zp) = some s.2.1
  | [], i, s, h => by cases h
  | p :: r, i, s, h => by
    simp only [lfs] at h
    have rest : s ∈ lfs o r (i + 1) → ∃ k : Nat, k < (p :: r).length ∧ (s.1 : Int) = i + k ∧ s.2.2.1 = ((p :: r).getD k Zp).2.2.1 ∧ lf o ((p :: r).getD k Zp) = some s.2.1 := fun h => by
      obtain ⟨k, h1, h2, h3, h4⟩ := qlx o r (i + 1) s h
      exact ⟨k + 1, by simp only [List.length_cons]; omega, by omega, by rw [List.getD_cons_succ]; exact h3, by rw [List.getD_cons_succ]; exact h4⟩
    split at h
    · rename_i a ha
      rcases List.mem_cons.1 h with rfl | h
      · exact ⟨0, by simp, by simp, rfl, ha⟩
      · exact rest h
    · exact rest h
theorem qCy (o : List Int) : ∀ (l : List qfa) (i : Int), (lfs o l i).Pairwise fun a c => (a.1 : Int) < c.1
  | [], i => List.Pairwise.nil
  | p :: r, i => by
    simp only [lfs]
    split
    · refine List.Pairwise.cons (fun c hc => ?_) (qCy o r (i + 1))
      obtain ⟨k, _, h2, _⟩ := qlx o r (i + 1) c hc
      show i < c.1
      omega
    · exact qCy o r (i + 1)
theorem qiD {b : List Int} {cs : List qha} (hgd : GD b cs) {a a' r r' f f' : Int} (hr : 1 ≤ r) (hr' : 1 ≤ r') (hf : 0 ≤ f) (hf' : 0 ≤ f') (ha : 0 ≤ a) (ha' : 0 ≤ a') (hl : a + r ≤ (cs.length : Int)) (hl' : a' + r' ≤ (cs.length : Int))
    (h : ∀ t : Nat, (t : Int) < r → (cs.map (fun c : qha => c.2.1)).getD (a.toNat + t) 0 = f + t) (h' : ∀ t : Nat, (t : Int) < r' → (cs.map (fun c : qha => c.2.1)).getD (a'.toNat + t) 0 = f' + t)
    (hap : f + r ≤ f') : a + r ≤ a' := by
  refine Decidable.byContradiction fun hn => ?_
  have e1 := h (r.toNat - 1) (by omega)
  have e2 := h' 0 (by omega)
  rw [Nat.add_zero] at e2
  by_cases heq : a'.toNat = a.toNat + (r.toNat - 1)
  · rw [heq, e1] at e2; omega
  · have := qeH hgd (i := a'.toNat) (j := a.toNat + (r.toNat - 1)) (by omega) (by omega) (by rw [e2]; omega) (by rw [e1]; omega)
    rw [e1, e2] at this
    omega
end Go.Ab
