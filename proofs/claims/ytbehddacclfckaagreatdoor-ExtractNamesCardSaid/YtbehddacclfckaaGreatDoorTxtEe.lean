/-
  An abstract machine over the model's code and its soundness; what the functions compute, as plain functions (printed by a program of this repo's own, checked here by the kernel); plain laws of them: part 5. Helper text, no statement of the claim stands here.
-/
import Derived.Test.YtbehddacclfckaaGreatDoorTxtEd
/-
  What the law leans on, of several chains of plain texts.
-/
set_option linter.unusedVariables false
set_option linter.unusedSimpArgs false
set_option maxHeartbeats 1000000
set_option maxRecDepth 10000
namespace Go.Ab
open Go
attribute [local irreducible] IntKind.wrap
def U32 (x : Int) : Prop := 0 ≤ x ∧ x < 4294967296
theorem qlr (v : BitVec 32) : IntKind.wrap .u32 (v.toNat : Int) = v.toNat := by
  have := v.isLt
  rw [qtC]; omega
theorem qiC (v : BitVec 32) : BitVec.ofInt 32 (v.toNat : Int) = v := by
  apply BitVec.eq_of_toNat_eq
  rw [BitVec.toNat_ofInt]
  have := v.isLt
  omega
theorem bX (x y : Int) : qnb .u32 x y = ((BitVec.ofInt 32 x ^^^ BitVec.ofInt 32 y).toNat : Int) := qlr _
theorem bO (x y : Int) : qrc .u32 x y = ((BitVec.ofInt 32 x ||| BitVec.ofInt 32 y).toNat : Int) := qlr _
theorem bA (x y : Int) : qqb .u32 x y = ((BitVec.ofInt 32 x &&& BitVec.ofInt 32 y).toNat : Int) := qlr _
theorem w_u (x : Int) : U32 (IntKind.wrap .u32 x) := by rw [qtC]; unfold U32; omega
theorem qYC (b c d : Int) : qnb .u32 d (qqb .u32 b (qnb .u32 c d)) = qrc .u32 (qqb .u32 b c) (qqb .u32 (qnb .u32 4294967295 b) d) := by
  simp only [bX, bO, bA, qiC]
  congr 2
  have h1 : BitVec.ofInt 32 4294967295 = BitVec.allOnes 32 := by decide
  rw [h1]
  ext i hi
  simp only [BitVec.getElem_xor, BitVec.getElem_and, BitVec.getElem_or, BitVec.getElem_allOnes]
  cases (BitVec.ofInt 32 b)[i] <;> cases (BitVec.ofInt 32 c)[i] <;> cases (BitVec.ofInt 32 d)[i] <;> rfl
theorem qPB (b c d : Int) : qrc .u32 (qqb .u32 b c) (qqb .u32 d (qrc .u32 b c)) = qrc .u32 (qrc .u32 (qqb .u32 b c) (qqb .u32 b d)) (qqb .u32 c d) := by
  simp only [bX, bO, bA, qiC]
  congr 2
  ext i hi
  simp only [BitVec.getElem_xor, BitVec.getElem_and, BitVec.getElem_or]
  cases (BitVec.ofInt 32 b)[i] <;> cases (BitVec.ofInt 32 c)[i] <;> cases (BitVec.ofInt 32 d)[i] <;> rfl
def rot (a : Int) (s : Int) : Int := qrc .u32 (IntKind.wrap .u32 (qDA .u32 a s)) (qnh .u32 a (32 - s))
theorem qRA {x b : Int} (hx : U32 x) (hb : 0 ≤ b ∧ b < 256) : qrc .u32 (IntKind.wrap .u32 (x * 256)) (IntKind.wrap .u32 b) = IntKind.wrap .u32 (IntKind.wrap .u32 (x * 256) + IntKind.wrap .u32 b) := by
  rw [bO]
  simp only [qtC]
  have h1 : b % 4294967296 = b := by omega
  rw [h1]
  obtain ⟨n, rfl⟩ := Int.eq_ofNat_of_zero_le hb.1
  obtain ⟨q, hq⟩ : ∃ q : Nat, (x * 256) % 4294967296 = ((2 ^ 8 * q : Nat) : Int) ∧ 2 ^ 8 * q < 4294967296 := by
    refine ⟨(x % 16777216).toNat, ?_, ?_⟩ <;> simp <;> omega
  have hn : n < 2 ^ 8 := by omega
  rw [hq.1]
  have e : ∀ m : Nat, m < 4294967296 → (BitVec.ofInt 32 (m : Int)).toNat = m := fun m hm => by
    rw [BitVec.toNat_ofInt]; omega
  rw [BitVec.toNat_or, e _ hq.2, e n (by omega), ← Nat.two_pow_add_eq_or_of_lt hn]
  have := hq.2
  omega
theorem qPn (a : Int) : qKa a 1 = some (rot a 1) ∧ qKa a 5 = some (rot a 5) ∧ qKa a 30 = some (rot a 30) := by
  have h1 : qqb .u64 (IntKind.wrap .u64 1) 31 = 1 := by kernel_rfl
  have h5 : qqb .u64 (IntKind.wrap .u64 5) 31 = 5 := by kernel_rfl
  have h30 : qqb .u64 (IntKind.wrap .u64 30) 31 = 30 := by kernel_rfl
  have w1 : IntKind.wrap .u64 ((32 : Int) - 1) = 32 - 1 := by kernel_rfl
  have w5 : IntKind.wrap .u64 ((32 : Int) - 5) = 32 - 5 := by kernel_rfl
  have w30 : IntKind.wrap .u64 ((32 : Int) - 30) = 32 - 30 := by kernel_rfl
  refine ⟨?_, ?_, ?_⟩ <;> rw [qfh]
  · rw [h1, w1, qea (by omega), qea (by omega)]; rfl
  · rw [h5, w5, qea (by omega), qea (by omega)]; rfl
  · rw [h30, w30, qea (by omega), qea (by omega)]; rfl
theorem qxn (a s : Int) (h : 0 ≤ s ∧ s ≤ 32) : qDc a s = some (rot a s) := by
  rw [qQj, w64 (by omega) (by omega), qea (by omega), qea (by omega)]; rfl
def qaD (n : Int) : Int := IntKind.wrap .u64 (IntKind.wrap .u64 n * 8)
def qMm (n : Int) : Nat → List Int
  | 0 => []
  | k + 1 => IntKind.wrap .u8 (qnh .u64 (qaD n) (8 * (k : Int))) :: qMm n k
def qzu (n : Int) : List Int := [128] ++ List.replicate ((119 - n % 64) % 64).toNat 0 ++ qMm n 8
theorem qwr (n : Int) : ∀ k, (qMm n k).length = k
  | 0 => rfl
  | k + 1 => by simp [qMm, qwr n k]
theorem qrB (x : Int) : 0 ≤ IntKind.wrap .u8 x ∧ IntKind.wrap .u8 x < 256 := by rw [wu8]; omega
theorem qxr (n : Int) : ∀ k, Bts (qMm n k)
  | 0 => Bts.nil
  | k + 1 => Bts.cons (qrB _) (qxr n k)
theorem qnz (n : Int) : Bts (qzu n) := by
  refine Bts.append (Bts.append (Bts.cons (by omega) Bts.nil) (fun x hx => ?_)) (qxr n 8)
  have := (List.mem_replicate.1 hx).2; omega
theorem qyu (n : Int) (h : 0 ≤ n) : ((n + (qzu n).length) % 64 = 0 ∧ (qzu n).length ≤ 72) := by
  simp only [qzu, List.length_append, List.length_cons, List.length_nil, List.length_replicate, qwr]
  omega
theorem qDi (n : Int) : ∀ (k : Nat) (h : List Int), k ≤ 8 → h.length + k ≤ 1000 → qwj n (8 * (k : Int) - 8) h = some (h ++ qMm n k)
  | 0, h, hk, hl => by
    rw [qRk, if_neg (by simp)]
    simp [qMm]
  | k + 1, h, hk, hl => by
    have e : 8 * ((k + 1 : Nat) : Int) - 8 = 8 * (k : Int) := by omega
    rw [e, qRk, if_pos (by simp; omega), qea (by omega), qea (by simp; omega), w64 (by omega) (by omega), qDi n k _ (by omega) (by simp; omega)]
    simp [qMm, qaD]
theorem qAr (n : Int) (h : 0 ≤ n) : qZs n = some (qzu n) := by
  rw [qwv, qea (by omega), qea (by omega), qGh h, w64 (by omega) (by omega), qGh (by omega), qea (by omega), qea (by omega), qea (by omega), qea (by simp; omega)]
  have := qDi n 8 ([128] ++ List.replicate ((119 - n % 64) % 64).toNat 0) (by omega) (by simp; omega)
  exact this
theorem qco (n : Int) : ∀ (k : Nat) (h : List Int), k ≤ 8 → h.length + k ≤ 1000 → qTb n ((k : Int) - 1) h = some (h ++ qMm n k)
  | 0, h, hk, hl => by
    rw [qDd, if_neg (by simp)]
    simp [qMm]
  | k + 1, h, hk, hl => by
    have e : ((k + 1 : Nat) : Int) - 1 = (k : Int) := by omega
    rw [e, qDd, if_pos (by simp), w64 (x := 8 * (k : Int)) (by omega) (by omega), qea (by omega), qea (by simp; omega), w64 (x := (k : Int) - 1) (by omega) (by omega), qco n k _ (by omega) (by simp; omega)]
    have e2 : (8 : Int) * IntKind.wrap .u64 n = IntKind.wrap .u64 n * 8 := Int.mul_comm _ _
    simp [qMm, qaD, e2]
theorem qdo (n : Int) (hn : 0 ≤ n ∧ n ≤ 1000000000) : ∀ (j : Nat) (h : List Int), j < 64 → h.length + j ≤ 200 → (n + h.length + 8 + j) % 64 = 0 → qUb n h = some (h ++ List.replicate j 0 ++ qMm n 8)
  | 0, h, hj, hl, hm => by
    rw [qEd, qea (by omega)]
    have hl' : Int.ofNat h.length = (h.length : Int) := rfl
    rw [hl', w64 (x := n + (h.length : Int)) (by omega) (by omega), w64 (by omega) (by omega), qGh (by omega), if_neg (by simp; omega)]
    have := qco n 8 h (by omega) (by omega)
    simpa using this
  | j + 1, h, hj, hl, hm => by
    rw [qEd, qea (by omega)]
    have hl' : Int.ofNat h.length = (h.length : Int) := rfl
    rw [hl', w64 (x := n + (h.length : Int)) (by omega) (by omega), w64 (by omega) (by omega), qGh (by omega), if_pos (by simp; omega), qea (by simp; omega), qdo n hn j (h ++ [0]) (by omega) (by simp; omega) (by simp; omega)]
    simp [List.replicate_succ]
theorem qOr (n : Int) (hn : 0 ≤ n ∧ n ≤ 1000000000) : qKd n = some (qzu n) := by
  rw [qgi, qdo n hn ((119 - n % 64) % 64).toNat [128] (by omega) (by simp; omega) (by simp; omega)]
  rfl
theorem qmw (a b : List Int) (h : a.length + b.length ≤ 1000000) : qJc [a, b] = some (a ++ b) := by
  have ha : Int.ofNat a.length = (a.length : Int) := rfl
  have hb : Int.ofNat b.length = (b.length : Int) := rfl
  rw [qDg]
  rw [qNb, if_pos (by simp), qea (by omega), qea (by simp)]
  simp only [List.getD_cons_zero, Int.toNat_zero, ha]
  rw [w64 (x := 0 + (a.length : Int)) (by omega) (by omega), if_neg (by simp), w64 (x := 0 + 1) (by omega) (by omega)]
  rw [qNb, if_pos (by simp), qea (by omega), qea (by simp)]
  simp only [show (0 + 1 : Int).toNat = 1 from rfl, List.getD_cons_succ, List.getD_cons_zero, hb]
  rw [w64 (x := 0 + (a.length : Int) + (b.length : Int)) (by omega) (by omega), if_neg (by simp <;> omega), w64 (x := 0 + 1 + 1) (by omega) (by omega)]
  rw [qNb, if_neg (by simp)]
  have hg : ∃ r, qmd (0 + (a.length : Int) + (b.length : Int)) = some (r, 0, 0) := by
    rw [qmh, if_neg (by simp; omega), w64 (by omega) (by omega)]
    by_cases hz : (0 + (a.length : Int) + (b.length : Int)) - 0 > 0
    · rw [if_pos (by simpa using hz), qea (by omega), qea (by omega), qea (by omega), qea (by omega), qea (by omega), qea (by simp; omega), qea (by omega), qea (by simp; omega)]
      exact ⟨_, rfl⟩
    · rw [if_neg (by simpa using hz)]; exact ⟨_, rfl⟩
  obtain ⟨r, hr⟩ := hg
  rw [hr]
  simp only [Option.bind_some]
  rw [qLf, if_pos (by simp), qea (by omega), qea (by simp), qea (by simp; omega), w64 (by omega) (by omega)]
  simp only [List.getD_cons_zero, Int.toNat_zero, List.take_zero, List.nil_append]
  rw [qPc, if_pos (by simp), qea (by omega), qea (by simp), qea (by simp; omega), w64 (by omega) (by omega)]
  rw [qPc, if_neg (by simp)]
  rfl
def bt (x b : Int) : Int := IntKind.wrap .u32 (IntKind.wrap .u32 (x * 256) + IntKind.wrap .u32 b)
theorem qZC (x b : Int) : U32 (bt x b) := w_u _
def qyA (b : List Int) (t : Nat) : Int := bt (bt (bt (IntKind.wrap .u32 (b.getD (4 * t) 0)) (b.getD (4 * t + 1) 0)) (b.getD (4 * t + 2) 0)) (b.getD (4 * t + 3) 0)
def qhi (b : List Int) (t : Nat) : Nat → List Int
  | 0 => []
  | k + 1 => qyA b t :: qhi b (t + 1) k
theorem qee (b : List Int) : ∀ (k t : Nat), (qhi b t k).length = k
  | 0, t => rfl
  | k + 1, t => by simp [qhi, qee b k]
theorem qky (b : List Int) (hb : b.length = 64) (x y : List Int) : ∀ (k t : Nat) (h : List Int), t + k = 16 → h.length = t → qwc b (t : Int) x y h = qQb 16 x y (h ++ qhi b t k)
  | 0, t, h, e, hl => by
    rw [qTe, if_neg (by simp; omega)]
    simp [qhi]
  | k + 1, t, h, e, hl => by
    have hb' : Int.ofNat b.length = 64 := by rw [hb]; rfl
    have e0 : ((4 : Int) * (t : Int)).toNat = 4 * t := by omega
    have e1 : ((4 : Int) * (t : Int) + 1).toNat = 4 * t + 1 := by omega
    have e2 : ((4 : Int) * (t : Int) + 2).toNat = 4 * t + 2 := by omega
    have e3 : ((4 : Int) * (t : Int) + 3).toNat = 4 * t + 3 := by omega
    rw [qTe, if_pos (by simp; omega), hb']
    simp only [w64 (x := 4 * (t : Int)) (by omega) (by omega), w64 (x := 4 * (t : Int) + 1) (by omega) (by omega), w64 (x := 4 * (t : Int) + 2) (by omega) (by omega), w64 (x := 4 * (t : Int) + 3) (by omega) (by omega), w64 (x := (t : Int) + 1) (by omega) (by omega), e0, e1, e2, e3]
    rw [qea (by omega), qea (by omega), qea (by omega), qea (by omega), qea (by omega), qea (by omega), qea (by omega), qea (by omega), qea (by simp; omega)]
    have ih := qky b hb x y k (t + 1) (h ++ [qyA b t]) (by omega) (by simp; omega)
    have ec : ((t + 1 : Nat) : Int) = (t : Int) + 1 := by omega
    rw [ec] at ih
    simp only [List.append_assoc, List.singleton_append] at ih
    exact ih
theorem qJl (W : List Int) (x v : Int) (R : List Int) : (W ++ x :: R).set W.length v = W ++ v :: R := by
  induction W with
  | nil => rfl
  | cons a W ih => simp [ih]
theorem qRx (W : List Int) (x : Int) (R : List Int) : (W ++ x :: R).getD W.length 0 = x := by
  induction W with
  | nil => rfl
  | cons a W ih => simp
theorem qEy {b : List Int} (h : Bts b) (i : Nat) : 0 ≤ b.getD i 0 ∧ b.getD i 0 < 256 := by
  rw [List.getD_eq_getElem?_getD]
  cases hi : b[i]? with
  | none => simp
  | some x => exact h x (List.mem_of_getElem? hi)
theorem qer (b : List Int) (hb : b.length = 64) (hB : Bts b) (x y W R : List Int) (i t : Nat) (v : Int) (hv : U32 v) (hi : i < 64) (ht : i / 4 = t) (hW : W.length = t) :
    qhg b 64 (i : Int) x y (W ++ v :: R) = qhg b 64 ((i : Int) + 1) x y (W ++ bt v (b.getD i 0) :: R) := by
  have hb' : Int.ofNat b.length = 64 := by rw [hb]; rfl
  have e : (IntKind.wrap .i64 (Int.tdiv (i : Int) 4)) = (t : Int) := by
    rw [qYs (by omega), w64 (by omega) (by omega)]; omega
  rw [qvm, if_pos (by simp; omega), hb', e]
  rw [qea (by omega), qea (by omega), qea (by omega), qea (by omega), qea (by omega), qea (by omega), qea (by omega), qea (by omega), qea (by omega)]
  have et : ((t : Int)).toNat = W.length := by omega
  have ei : ((i : Int)).toNat = i := by omega
  rw [et, ei, qRx, qJl, qRA hv (qEy hB i), w64 (x := (i : Int) + 1) (by omega) (by omega)]
  rfl
theorem qfC (b : List Int) (hb : b.length = 64) (hB : Bts b) (x y : List Int) : ∀ (k t : Nat) (W : List Int), t + k = 16 → W.length = t →
    qhg b 64 (4 * (t : Int)) x y (W ++ List.replicate k 0) = qhg b 64 64 x y (W ++ qhi b t k)
  | 0, t, W, e, hl => by
    have : 4 * (t : Int) = 64 := by omega
    rw [this]; rfl
  | k + 1, t, W, e, hl => by
    have c : ∀ j : Nat, ((4 * t + j : Nat) : Int) = 4 * (t : Int) + (j : Int) := fun j => by omega
    have s0 := qer b hb hB x y W (List.replicate k 0) (4 * t) t 0 (by unfold U32; omega) (by omega) (by omega) hl
    have s1 := qer b hb hB x y W (List.replicate k 0) (4 * t + 1) t (bt 0 (b.getD (4 * t) 0)) (qZC _ _) (by omega) (by omega) hl
    have s2 := qer b hb hB x y W (List.replicate k 0) (4 * t + 2) t (bt (bt 0 (b.getD (4 * t) 0)) (b.getD (4 * t + 1) 0)) (qZC _ _) (by omega) (by omega) hl
    have s3 := qer b hb hB x y W (List.replicate k 0) (4 * t + 3) t (bt (bt (bt 0 (b.getD (4 * t) 0)) (b.getD (4 * t + 1) 0)) (b.getD (4 * t + 2) 0)) (qZC _ _) (by omega) (by omega) hl
    rw [show ((4 * t : Nat) : Int) = 4 * (t : Int) by omega] at s0
    rw [show ((4 * t + 1 : Nat) : Int) = 4 * (t : Int) + 1 by omega] at s1
    rw [show ((4 * t + 2 : Nat) : Int) = 4 * (t : Int) + 1 + 1 by omega] at s2
    rw [show ((4 * t + 3 : Nat) : Int) = 4 * (t : Int) + 1 + 1 + 1 by omega] at s3
    have h0 : bt 0 (b.getD (4 * t) 0) = IntKind.wrap .u32 (b.getD (4 * t) 0) := by
      have := qEy hB (4 * t)
      simp only [bt, qtC]; omega
    rw [List.replicate_succ, s0, s1, s2, s3, h0]
    have ih := qfC b hb hB x y k (t + 1) (W ++ [qyA b t]) (by omega) (by simp; omega)
    rw [show 4 * ((t + 1 : Nat) : Int) = 4 * (t : Int) + 1 + 1 + 1 + 1 by omega] at ih
    simp only [List.append_assoc, List.singleton_append] at ih
    exact ih
def qtz (a b c d : Int) : Int := rot (qnb .u32 (qnb .u32 (qnb .u32 a b) c) d) 1
def sch : Nat → List Int → List Int
  | 0, h => h
  | k + 1, h => sch k (h ++ [qtz (h.getD (h.length - 3) 0) (h.getD (h.length - 8) 0) (h.getD (h.length - 14) 0) (h.getD (h.length - 16) 0)])
theorem qQw : ∀ (k : Nat) (h : List Int), (sch k h).length = h.length + k
  | 0, h => rfl
  | k + 1, h => by rw [sch, qQw k]; simp; omega
theorem qcj {h r : List Int} {t : Nat} (ht : t < h.length) : (h ++ r).getD t 0 = h.getD t 0 := by
  simp [List.getD_eq_getElem?_getD, List.getElem?_append_left ht]
theorem qok : ∀ (k : Nat) (h : List Int) (t : Nat), t < h.length → (sch k h).getD t 0 = h.getD t 0
  | 0, h, t, ht => rfl
  | k + 1, h, t, ht => by
    rw [sch, qok k _ t (by simp; omega), qcj ht]
theorem qRz : ∀ (k : Nat) (h : List Int) (t : Nat), 16 ≤ h.length → h.length ≤ t → t < h.length + k →
    (sch k h).getD t 0 = qtz ((sch k h).getD (t - 3) 0) ((sch k h).getD (t - 8) 0) ((sch k h).getD (t - 14) 0) ((sch k h).getD (t - 16) 0)
  | 0, h, t, h1, h2, h3 => by omega
  | k + 1, h, t, h1, h2, h3 => by
    by_cases he : t = h.length
    · subst he
      rw [sch]
      rw [qok k _ h.length (by simp), qok k _ (h.length - 3) (by simp; omega), qok k _ (h.length - 8) (by simp; omega), qok k _ (h.length - 14) (by simp; omega), qok k _ (h.length - 16) (by simp; omega)]
      rw [qRx, qcj (by omega), qcj (by omega), qcj (by omega), qcj (by omega)]
    · rw [sch]
      exact qRz k _ t (by simp; omega) (by simp; omega) (by simp; omega)
theorem qjy (x y : List Int) : ∀ (k t : Nat) (h : List Int), t + k = 80 → 16 ≤ t → h.length = t → qQb (t : Int) x y h = qPb 0 x y (sch k h) x
  | 0, t, h, e, h1, hl => by
    rw [qSe, if_neg (by simp; omega)]; rfl
  | k + 1, t, h, e, h1, hl => by
    have hl' : Int.ofNat h.length = (t : Int) := by rw [hl]; rfl
    rw [qSe, if_pos (by simp; omega), hl']
    simp only [w64 (x := (t : Int) - 3) (by omega) (by omega), w64 (x := (t : Int) - 8) (by omega) (by omega), w64 (x := (t : Int) - 14) (by omega) (by omega), w64 (x := (t : Int) - 16) (by omega) (by omega), w64 (x := (t : Int) + 1) (by omega) (by omega)]
    rw [qea (by omega), qea (by omega), qea (by omega), qea (by omega), qea (by omega), qea (by omega), qea (by omega), qea (by omega)]
    rw [show 0 + ((t : Int) - 3).toNat = h.length - 3 by omega, show 0 + ((t : Int) - 8).toNat = h.length - 8 by omega, show 0 + ((t : Int) - 14).toNat = h.length - 14 by omega, show 0 + ((t : Int) - 16).toNat = h.length - 16 by omega]
    rw [qxn _ 1 (by omega)]
    simp only [Option.bind_some]
    rw [qea (by simp; omega)]
    have ih := qjy x y k (t + 1) (h ++ [qtz (h.getD (h.length - 3) 0) (h.getD (h.length - 8) 0) (h.getD (h.length - 14) 0) (h.getD (h.length - 16) 0)]) (by omega) (by omega) (by simp; omega)
    rw [show ((t + 1 : Nat) : Int) = (t : Int) + 1 by omega] at ih
    exact ih
def ff (t : Nat) (b c d : Int) : Int × Int :=
  if t < 20 then (qrc .u32 (qqb .u32 b c) (qqb .u32 (qnb .u32 4294967295 b) d), 1518500249)
  else if t < 40 then (qnb .u32 (qnb .u32 b c) d, 1859775393)
  else if t < 60 then (qrc .u32 (qrc .u32 (qqb .u32 b c) (qqb .u32 b d)) (qqb .u32 c d), 2400959708)
  else (qnb .u32 (qnb .u32 b c) d, 3395469782)
theorem qox (t : Nat) (b c d : Int) : qgf (t : Int) b c d = some (ff t b c d) := by
  rw [qRj]
  unfold ff
  by_cases h1 : t < 20
  · rw [if_pos (by simp; omega), if_pos h1]
  · rw [if_neg (by simp; omega), if_neg h1]
    by_cases h2 : t < 40
    · rw [if_pos (by simp; omega), if_pos h2]
    · rw [if_neg (by simp; omega), if_neg h2]
      by_cases h3 : t < 60
      · rw [if_pos (by simp; omega), if_pos h3]
      · rw [if_neg (by simp; omega), if_neg h3]
theorem quz (t : Nat) (b c d : Int) (ht : t < 80) : qoq (IntKind.wrap .i64 (Int.tdiv (t : Int) 20)) b c d = some (ff t b c d).1 ∧ G_quarters.getD (IntKind.wrap .i64 (Int.tdiv (t : Int) 20)).toNat 0 = (ff t b c d).2 ∧ 0 ≤ IntKind.wrap .i64 (Int.tdiv (t : Int) 20) ∧ IntKind.wrap .i64 (Int.tdiv (t : Int) 20) < 4 := by
  have e : IntKind.wrap .i64 (Int.tdiv (t : Int) 20) = ((t / 20 : Nat) : Int) := by
    rw [qYs (by omega), w64 (by omega) (by omega)]; omega
  rw [e, qxv]
  unfold ff
  by_cases h1 : t < 20
  · have : t / 20 = 0 := by omega
    rw [this, if_pos (by simp), if_pos h1, qYC]
    exact ⟨rfl, rfl, by omega, by omega⟩
  · rw [if_neg h1]
    by_cases h2 : t < 40
    · have : t / 20 = 1 := by omega
      rw [this, if_neg (by simp), if_neg (by simp), if_pos h2]
      exact ⟨rfl, rfl, by omega, by omega⟩
    · rw [if_neg h2]
      by_cases h3 : t < 60
      · have : t / 20 = 2 := by omega
        rw [this, if_neg (by simp), if_pos (by simp), if_pos h3, qPB]
        exact ⟨rfl, rfl, by omega, by omega⟩
      · have : t / 20 = 3 := by omega
        rw [this, if_neg (by simp), if_neg (by simp), if_neg h3]
        exact ⟨rfl, rfl, by omega, by omega⟩
structure S5 where
  a : Int
  b : Int
  c : Int
  d : Int
  e : Int
def S5.l (s : S5) : List Int := [s.a, s.b, s.c, s.d, s.e]
def rd (t : Nat) (w : Int) (s : S5) : S5 :=
  ⟨IntKind.wrap .u32 (IntKind.wrap .u32 (IntKind.wrap .u32 (IntKind.wrap .u32 (rot s.a 5 + (ff t s.b s.c s.d).1) + s.e) + (ff t s.b s.c s.d).2) + w), s.a, rot s.b 30, s.c, s.d⟩
def quC (W : List Int) : Nat → Nat → S5 → S5
  | 0, _, s => s
  | k + 1, t, s => quC W k (t + 1) (rd t (W.getD t 0) s)
theorem qiy (x y W : List Int) (hW : W.length = 80) : ∀ (k t : Nat) (s : S5), t + k = 80 → qPb (t : Int) x y W s.l = qOb 0 x y (quC W k t s).l
  | 0, t, s, e => by
    rw [qRe, if_neg (by simp; omega)]; rfl
  | k + 1, t, s, e => by
    have hl' : Int.ofNat W.length = 80 := by rw [hW]; rfl
    have g0 : s.l.getD 0 0 = s.a := rfl
    have g1 : s.l.getD 1 0 = s.b := rfl
    have g2 : s.l.getD 2 0 = s.c := rfl
    have g3 : s.l.getD 3 0 = s.d := rfl
    have g4 : s.l.getD 4 0 = s.e := rfl
    rw [qRe, if_pos (by simp; omega), hl']
    simp only [g0, g1, g2, g3, g4, qox, qxn _ 5 (by omega), qxn _ 30 (by omega), Option.bind_some, w64 (x := (t : Int) + 1) (by omega) (by omega), show 0 + ((t : Int)).toNat = t by omega]
    repeat rw [qea (by omega)]
    have ih := qiy x y W hW k (t + 1) (rd t (W.getD t 0) s) (by omega)
    rw [show ((t + 1 : Nat) : Int) = (t : Int) + 1 by omega] at ih
    exact ih
def qvD (x : List Int) (s : S5) : List Int := [IntKind.wrap .u32 (x.getD 0 0 + s.a), IntKind.wrap .u32 (x.getD 1 0 + s.b), IntKind.wrap .u32 (x.getD 2 0 + s.c), IntKind.wrap .u32 (x.getD 3 0 + s.d), IntKind.wrap .u32 (x.getD 4 0 + s.e)]
theorem qeB (y : List Int) (x s : S5) : qOb 0 x.l y s.l = some (qvD x.l s) := by
  have g : ∀ s : S5, s.l.getD 0 0 = s.a ∧ s.l.getD 1 0 = s.b ∧ s.l.getD 2 0 = s.c ∧ s.l.getD 3 0 = s.d ∧ s.l.getD 4 0 = s.e := fun s => ⟨rfl, rfl, rfl, rfl, rfl⟩
  have n1 : IntKind.wrap .i64 (0 + 1) = 1 := by kernel_rfl
  have n2 : IntKind.wrap .i64 (1 + 1) = 2 := by kernel_rfl
  have n3 : IntKind.wrap .i64 (2 + 1) = 3 := by kernel_rfl
  have n4 : IntKind.wrap .i64 (3 + 1) = 4 := by kernel_rfl
  have n5 : IntKind.wrap .i64 (4 + 1) = 5 := by kernel_rfl
  rw [qZa, if_pos (by simp), n1]
  repeat rw [qea (by omega)]
  rw [qZa, if_pos (by simp), n2]
  repeat rw [qea (by omega)]
  rw [qZa, if_pos (by simp), n3]
  repeat rw [qea (by omega)]
  rw [qZa, if_pos (by simp), n4]
  repeat rw [qea (by omega)]
  rw [qZa, if_pos (by simp), n5]
  repeat rw [qea (by omega)]
  rw [qZa, if_neg (by simp)]
  rfl
def blk (x : S5) (b : List Int) : S5 :=
  let s := quC (sch 64 (qhi b 0 16)) 80 0 x
  ⟨IntKind.wrap .u32 (x.a + s.a), IntKind.wrap .u32 (x.b + s.b), IntKind.wrap .u32 (x.c + s.c), IntKind.wrap .u32 (x.d + s.d), IntKind.wrap .u32 (x.e + s.e)⟩
theorem qRy (x : S5) (b : List Int) (hb : b.length = 64) : qif x.l b = some (blk x b).l := by
  have h1 := qky b hb x.l (List.replicate 5 0) 16 0 [] rfl rfl
  have h2 := qjy x.l (List.replicate 5 0) 64 16 (qhi b 0 16) rfl (by omega) (qee b 16 0)
  have h3 := qiy x.l (List.replicate 5 0) (sch 64 (qhi b 0 16)) (by rw [qQw, qee]) 80 0 x rfl
  rw [qTj]
  refine h1.trans ?_
  rw [List.nil_append]
  refine Eq.trans h2 (Eq.trans h3 ?_)
  rw [qeB]; rfl
def qdD (W : List Int) (t : Nat) (r : List Int) : Prop := r.length = 16 ∧ ∀ i, i < max t 16 → max t 16 ≤ i + 16 → r.getD (i % 16) 0 = W.getD i 0
theorem qPu {r : List Int} {i j : Nat} {v : Int} (hi : i < r.length) : (r.set i v).getD j 0 = if i = j then v else r.getD j 0 := by
  simp only [List.getD_eq_getElem?_getD, List.getElem?_set]
  by_cases h : i = j
  · subst h; simp [hi]
  · simp [h]
theorem qgB (x y W : List Int) (hW : ∀ t, 16 ≤ t → t < 80 → W.getD t 0 = qtz (W.getD (t - 3) 0) (W.getD (t - 8) 0) (W.getD (t - 14) 0) (W.getD (t - 16) 0)) :
    ∀ (k t : Nat) (s : S5) (r : List Int), t + k = 80 → qdD W t r → qEi s.a s.b s.c s.d s.e (t : Int) x y r = some (qvD x (quC W k t s))
  | 0, t, s, r, e, hr => by
    rw [qum, if_neg (by simp; omega)]
    repeat rw [qea (by omega)]
    rfl
  | k + 1, t, s, r, e, hr => by
    obtain ⟨m1, m2, m3, m4⟩ := quz t s.b s.c s.d (by omega)
    obtain ⟨r1, r5, r30⟩ := qPn s.a
    obtain ⟨_, _, q30⟩ := qPn s.b
    have et : (Int.tmod (t : Int) 16) = ((t % 16 : Nat) : Int) := by rw [qGh (by omega)]; omega
    have ett : (((t % 16 : Nat) : Int)).toNat = t % 16 := by omega
    rw [qum, if_pos (by simp; omega)]
    by_cases h16 : 16 ≤ t
    · have e13 : (Int.tmod (IntKind.wrap .i64 ((t : Int) + 13)) 16) = (((t - 3) % 16 : Nat) : Int) := by rw [w64 (by omega) (by omega), qGh (by omega)]; omega
      have e8 : (Int.tmod (IntKind.wrap .i64 ((t : Int) + 8)) 16) = (((t - 8) % 16 : Nat) : Int) := by rw [w64 (by omega) (by omega), qGh (by omega)]; omega
      have e2 : (Int.tmod (IntKind.wrap .i64 ((t : Int) + 2)) 16) = (((t - 14) % 16 : Nat) : Int) := by rw [w64 (by omega) (by omega), qGh (by omega)]; omega
      have e0 : t % 16 = (t - 16) % 16 := by omega
      have v13 := hr.2 (t - 3) (by omega) (by omega)
      have v8 := hr.2 (t - 8) (by omega) (by omega)
      have v2 := hr.2 (t - 14) (by omega) (by omega)
      have v0 := hr.2 (t - 16) (by omega) (by omega)
      rw [← e0] at v0
      have hn : rot (qnb .u32 (qnb .u32 (qnb .u32 (r.getD ((t - 3) % 16) 0) (r.getD ((t - 8) % 16) 0)) (r.getD ((t - 14) % 16) 0)) (r.getD (t % 16) 0)) 1 = W.getD t 0 := by
        rw [v13, v8, v2, v0, hW t h16 (by omega)]; rfl
      rw [if_pos (by simp; omega)]
      simp only [et, e13, e8, e2, (qPn _).1, r5, q30, m1, m2, Option.bind_some, w64 (x := (t : Int) + 1) (by omega) (by omega), Int.toNat_natCast, hn]
      repeat rw [qea (by omega)]
      have hr' : qdD W (t + 1) (r.set (t % 16) (W.getD t 0)) := by
        refine ⟨by simp [hr.1], fun i h1 h2 => ?_⟩
        rw [qPu (by rw [hr.1]; omega)]
        by_cases hi : i = t
        · subst hi; rw [if_pos rfl]
        · rw [if_neg (by omega)]
          exact hr.2 i (by omega) (by omega)
      have hg : (r.set (t % 16) (W.getD t 0)).getD (t % 16) 0 = W.getD t 0 := by
        rw [qPu (by rw [hr.1]; omega), if_pos rfl]
      have ih := qgB x y W hW k (t + 1) (rd t (W.getD t 0) s) _ (by omega) hr'
      rw [show ((t + 1 : Nat) : Int) = (t : Int) + 1 by omega] at ih
      rw [hg]
      exact ih
    · have v0 := hr.2 t (by omega) (by omega)
      rw [if_neg (by simp; omega)]
      simp only [et, r5, q30, m1, m2, Option.bind_some, w64 (x := (t : Int) + 1) (by omega) (by omega), Int.toNat_natCast, v0]
      repeat rw [qea (by omega)]
      have hr' : qdD W (t + 1) r := ⟨hr.1, fun i h1 h2 => hr.2 i (by omega) (by omega)⟩
      have ih := qgB x y W hW k (t + 1) (rd t (W.getD t 0) s) _ (by omega) hr'
      rw [show ((t + 1 : Nat) : Int) = (t : Int) + 1 by omega] at ih
      exact ih
theorem qfB (x : S5) (b : List Int) (hb : 64 ≤ b.length) (hB : Bts b) : qPw x.l b = some (blk x (b.take 64)).l := by
  have hl : (b.take 64).length = 64 := by simp; omega
  have hl' : Int.ofNat (b.take 64).length = 64 := by rw [hl]; rfl
  rw [qOw, qea (by omega), qea (by simp; omega), hl']
  have h1 := qfC (b.take 64) hl (hB.take 64) x.l (List.replicate 5 0) 16 0 [] rfl rfl
  refine Eq.trans h1 ?_
  rw [List.nil_append, qvm, if_neg (by simp)]
  repeat rw [qea (by omega)]
  have hW : ∀ t, 16 ≤ t → t < 80 → _ := fun t h1 h2 => qRz 64 (qhi (b.take 64) 0 16) t (by rw [qee]; omega) (by rw [qee]; exact h1) (by rw [qee]; omega)
  have h2 := qgB x.l (List.replicate 5 0) (sch 64 (qhi (b.take 64) 0 16)) hW 80 0 x (qhi (b.take 64) 0 16) rfl ⟨qee _ _ _, fun i h1 h2 => by
    have hi : i < 16 := by omega
    rw [qok 64 _ i (by rw [qee]; exact hi), Nat.mod_eq_of_lt hi]⟩
  refine Eq.trans h2 ?_
  rfl
def qlg (l : List Int) (i : Nat) : Int := IntKind.wrap .u8 (qnh .u32 (l.getD (i / 4) 0) (24 - 8 * ((i % 4 : Nat) : Int)))
def qoz (l : List Int) (t : Nat) : Nat → List Int
  | 0 => []
  | k + 1 => qlg l t :: qoz l (t + 1) k
theorem qAu (l : List Int) : ∀ (k t : Nat), (qoz l t k).length = k
  | 0, t => rfl
  | k + 1, t => by simp [qoz, qAu l k]
theorem qBu (l : List Int) : ∀ (k t : Nat), Bts (qoz l t k)
  | 0, t => Bts.nil
  | k + 1, t => Bts.cons (qrB _) (qBu l k _)
theorem qNB (x l : List Int) : ∀ (k t : Nat) (P : List Int), t + k = 20 → P.length = t → qad (t : Int) x l (P ++ List.replicate k 0) = some (P ++ qoz l t k)
  | 0, t, P, e, hl => by
    rw [qGf, if_neg (by simp; omega)]; rfl
  | k + 1, t, P, e, hl => by
    have e1 : IntKind.wrap .i64 (Int.tdiv (t : Int) 4) = ((t / 4 : Nat) : Int) := by
      rw [qYs (by omega), w64 (by omega) (by omega)]; omega
    have e2 : IntKind.wrap .i64 (8 * (Int.tmod (t : Int) 4)) = 8 * ((t % 4 : Nat) : Int) := by
      rw [qGh (by omega), w64 (by omega) (by omega)]; omega
    have e3 : IntKind.wrap .i64 (24 - 8 * ((t % 4 : Nat) : Int)) = 24 - 8 * ((t % 4 : Nat) : Int) := w64 (by omega) (by omega)
    rw [qGf, if_pos (by simp; omega), e1, e2, e3, w64 (x := (t : Int) + 1) (by omega) (by omega)]
    repeat rw [qea (by omega)]
    rw [show ((t : Int)).toNat = P.length by omega, show (((t / 4 : Nat) : Int)).toNat = t / 4 by omega, List.replicate_succ, qJl]
    have ih := qNB x l k (t + 1) (P ++ [qlg l t]) (by omega) (by simp; omega)
    rw [show ((t + 1 : Nat) : Int) = (t : Int) + 1 by omega] at ih
    simp only [List.append_assoc, List.singleton_append] at ih
    exact ih
theorem qOz (l : List Int) : ∀ (k t : Nat) (P : List Int), t + k = 5 → P.length = 4 * t → qxj l (t : Int) (P ++ List.replicate (4 * k) 0) = some (P ++ qoz l (4 * t) (4 * k), 0)
  | 0, t, P, e, hl => by
    rw [qSk, if_neg (by simp; omega)]; rfl
  | k + 1, t, P, e, hl => by
    rw [qSk, if_pos (by simp; omega)]
    simp only [w64 (x := 4 * (t : Int)) (by omega) (by omega), w64 (x := 4 * (t : Int) + 1) (by omega) (by omega), w64 (x := 4 * (t : Int) + 2) (by omega) (by omega), w64 (x := 4 * (t : Int) + 3) (by omega) (by omega), w64 (x := (t : Int) + 1) (by omega) (by omega)]
    repeat rw [qea (by omega)]
    rw [show ((t : Int)).toNat = t by omega, show (4 * (t : Int)).toNat = P.length by omega]
    have s0 : IntKind.wrap .u8 (Int.fdiv (l.getD t 0) 16777216) = qlg l (4 * t) := by
      unfold qlg qnh
      rw [show 4 * t / 4 = t by omega, show 4 * t % 4 = 0 by omega]; rfl
    have s1 : IntKind.wrap .u8 (Int.fdiv (l.getD t 0) 65536) = qlg l (4 * t + 1) := by
      unfold qlg qnh
      rw [show (4 * t + 1) / 4 = t by omega, show (4 * t + 1) % 4 = 1 by omega]; rfl
    have s2 : IntKind.wrap .u8 (Int.fdiv (l.getD t 0) 256) = qlg l (4 * t + 2) := by
      unfold qlg qnh
      rw [show (4 * t + 2) / 4 = t by omega, show (4 * t + 2) % 4 = 2 by omega]; rfl
    have s3 : IntKind.wrap .u8 (l.getD t 0) = qlg l (4 * t + 3) := by
      unfold qlg qnh
      rw [show (4 * t + 3) / 4 = t by omega, show (4 * t + 3) % 4 = 3 by omega]
      have : (2 : Int) ^ (min ((24 : Int) - 8 * ((3 : Nat) : Int)).toNat (IntKind.bits .u32)) = 1 := rfl
      rw [this, Int.fdiv_one]
    rw [s0, s1, s2, s3, show 4 * (k + 1) = 4 * k + 1 + 1 + 1 + 1 by omega, List.replicate_succ, List.replicate_succ, List.replicate_succ, List.replicate_succ, qJl]
    have a1 := qJl (P ++ [qlg l (4 * t)]) 0 (qlg l (4 * t + 1)) (0 :: 0 :: List.replicate (4 * k) 0)
    have a2 := qJl (P ++ [qlg l (4 * t), qlg l (4 * t + 1)]) 0 (qlg l (4 * t + 2)) (0 :: List.replicate (4 * k) 0)
    have a3 := qJl (P ++ [qlg l (4 * t), qlg l (4 * t + 1), qlg l (4 * t + 2)]) 0 (qlg l (4 * t + 3)) (List.replicate (4 * k) 0)
    simp only [List.append_assoc, List.cons_append, List.nil_append, List.length_append, List.length_cons, List.length_nil] at a1 a2 a3
    rw [show (4 * (t : Int) + 1).toNat = P.length + (0 + 1) by omega, a1, show (4 * (t : Int) + 2).toNat = P.length + (0 + 1 + 1) by omega, a2, show (4 * (t : Int) + 3).toNat = P.length + (0 + 1 + 1 + 1) by omega, a3]
    have ih := qOz l k (t + 1) (P ++ [qlg l (4 * t), qlg l (4 * t + 1), qlg l (4 * t + 2), qlg l (4 * t + 3)]) (by omega) (by simp; omega)
    rw [show ((t + 1 : Nat) : Int) = (t : Int) + 1 by omega] at ih
    simp only [List.append_assoc, List.cons_append, List.nil_append] at ih
    exact ih
def qnC : Nat → S5 → List Int → S5
  | 0, x, _ => x
  | k + 1, x, m => qnC k (blk x (m.take 64)) (m.drop 64)
theorem qPz : ∀ (k : Nat) (x : S5) (m : List Int), m.length = 64 * k → Bts m → qyj m (List.replicate 20 0) x.l = some (qoz (qnC k x m).l 0 20, 0)
  | 0, x, m, hl, hB => by
    obtain rfl : m = [] := List.eq_nil_of_length_eq_zero (by omega)
    rw [qTk, if_neg (by simp)]
    exact qOz x.l 5 0 [] rfl rfl
  | k + 1, x, m, hl, hB => by
    rw [qTk, if_pos (by rw [decide_eq_true_eq]; have : Int.ofNat m.length = (m.length : Int) := rfl; omega), qfB x m (by omega) hB]
    simp only [Option.bind_some]
    rw [qea (by omega), qea (by simp; omega)]
    exact qPz k _ (m.drop 64) (by simp; omega) (hB.drop 64)
theorem qOB (x0 m : List Int) (K : Nat) (hm : m.length = 64 * K) (hK : K ≤ 100000) : ∀ (k t : Nat) (x : S5), t + k = K → qbd (64 * (t : Int)) x0 m x.l = some (qoz (qnC k x (m.drop (64 * t))).l 0 20)
  | 0, t, x, e => by
    have hl : Int.ofNat m.length = (64 * K : Nat) := by rw [hm]; rfl
    rw [qHf, hl, if_neg (by simp; omega)]
    exact qNB x0 x.l 20 0 [] rfl rfl
  | k + 1, t, x, e => by
    have hl : Int.ofNat m.length = (64 * K : Nat) := by rw [hm]; rfl
    rw [qHf, hl, if_pos (by simp; omega), w64 (by omega) (by omega)]
    repeat rw [qea (by omega)]
    rw [show (64 * (t : Int) + 64).toNat - (64 * (t : Int)).toNat = 64 by omega, show 0 + (64 * (t : Int)).toNat = 64 * t by omega, qRy x _ (by simp; omega)]
    simp only [Option.bind_some]
    have ih := qOB x0 m K hm hK k (t + 1) (blk x ((m.drop (64 * t)).take 64)) (by omega)
    rw [show 64 * ((t + 1 : Nat) : Int) = 64 * (t : Int) + 64 by omega] at ih
    rw [ih]
    simp only [qnC, List.drop_drop]
    rw [show 64 * (t + 1) = 64 * t + 64 by omega]
def iv : S5 := ⟨1732584193, 4023233417, 2562383102, 271733878, 3285377520⟩
def qjh (a : List Int) : List Int := qoz (qnC ((a ++ qzu a.length).length / 64) iv (a ++ qzu a.length)).l 0 20
theorem qkf (a : List Int) : (qjh a).length = 20 := qAu _ _ _
theorem qlu (a : List Int) : Bts (qjh a) := qBu _ _ _
theorem qau (a : List Int) (h : a.length ≤ 1000000) : qud a = some (qjh a) := by
  have hp := qyu (a.length : Int) (by omega)
  have ha : Int.ofNat a.length = (a.length : Int) := rfl
  rw [qAl, qea (by simp; omega), ha, qOr _ ⟨by omega, by omega⟩]
  simp only [Option.bind_some, qqj, List.nil_append]
  rw [qea (by simp; omega)]
  have hm : (a ++ qzu a.length).length = 64 * ((a ++ qzu a.length).length / 64) := by
    simp only [List.length_append]; omega
  exact qOB (List.replicate 20 0) (a ++ qzu a.length) _ hm (by simp only [List.length_append]; omega) _ 0 iv (by omega)
theorem qtn (a : List Int) (hB : Bts a) : qIl a = some (if a.length ≤ 20000 then (qjh a, 0) else (List.replicate 20 0, 4)) := by
  have ha : Int.ofNat a.length = (a.length : Int) := rfl
  rw [qyv, ha]
  by_cases h : a.length ≤ 20000
  · have hp := qyu (a.length : Int) (by omega)
    rw [if_neg (by simp; omega), if_pos h, qAr _ (by omega)]
    simp only [Option.bind_some]
    rw [qmw _ _ (by omega)]
    simp only [Option.bind_some]
    have hm : (a ++ qzu a.length).length = 64 * ((a ++ qzu a.length).length / 64) := by
      simp only [List.length_append]; omega
    exact qPz _ iv (a ++ qzu a.length) hm (hB.append (qnz _))
  · rw [if_pos (by simp; omega), if_neg h]
def Tot {α : Type} (x : Option α) (P : α → Prop) : Prop := ∃ r, x = some r ∧ P r
theorem Tot.so {α : Type} {r : α} {P : α → Prop} (h : P r) : Tot (some r) P := ⟨r, rfl, h⟩
theorem Tot.of_eq {α : Type} {x : Option α} {r : α} {P : α → Prop} (e : x = some r) (h : P r) : Tot x P := ⟨r, e, h⟩
theorem Tot.mono {α : Type} {x : Option α} {P Q : α → Prop} (h : Tot x P) (k : ∀ r, P r → Q r) : Tot x Q := by
  obtain ⟨r, e, p⟩ := h; exact ⟨r, e, k r p⟩
theorem Tot.b {α β : Type} {x : Option α} {f : α → Option β} {P : α → Prop} {Q : β → Prop} (h : Tot x P) (k : ∀ r, P r → Tot (f r) Q) : Tot (x.bind f) Q := by
  obtain ⟨r, e, p⟩ := h; obtain ⟨s, e', q⟩ := k r p; exact ⟨s, by rw [e, Option.bind_some, e'], q⟩
theorem Tot.be {α β : Type} {x : Option α} {f : α → Option β} {v : α} {Q : β → Prop} (h : x = some v) (k : Tot (f v) Q) : Tot (x.bind f) Q := by
  subst h; exact k
theorem Tot.g {α : Type} {p : Prop} {x : Option α} {Q : α → Prop} (h : p) (k : Tot x Q) : Tot (gd p x) Q := by rw [qea h]; exact k
theorem Tot.it {α : Type} {c : Prop} {i : Decidable c} {x y : Option α} {Q : α → Prop} (h1 : c → Tot x Q) (h2 : ¬c → Tot y Q) : Tot (@ite _ c i x y) Q := by
  by_cases h : c
  · rw [if_pos h]; exact h1 h
  · rw [if_neg h]; exact h2 h
theorem Tot.ifd {α : Type} {p : Prop} {d : Decidable p} {i : Decidable (@decide p d = true)} {x y : Option α} {Q : α → Prop} (h1 : p → Tot x Q) (h2 : ¬p → Tot y Q) : Tot (@ite _ (@decide p d = true) i x y) Q :=
  Tot.it (fun h => h1 (of_decide_eq_true h)) (fun h => h2 (fun hp => h (decide_eq_true hp)))
theorem Tot.ifd_pos {α : Type} {p : Prop} {d : Decidable p} {i : Decidable (@decide p d = true)} {x y : Option α} {Q : α → Prop} (h : p) (h1 : Tot x Q) : Tot (@ite _ (@decide p d = true) i x y) Q :=
  Tot.ifd (fun _ => h1) (fun k => absurd h k)
theorem Tot.ifd_neg {α : Type} {p : Prop} {d : Decidable p} {i : Decidable (@decide p d = true)} {x y : Option α} {Q : α → Prop} (h : ¬p) (h1 : Tot y Q) : Tot (@ite _ (@decide p d = true) i x y) Q :=
  Tot.ifd (fun k => absurd k h) (fun _ => h1)
theorem Tot.ifne {α : Type} {a b : Int} {i : Decidable ((a != b) = true)} {x y : Option α} {Q : α → Prop} (h1 : a ≠ b → Tot x Q) (h2 : a = b → Tot y Q) : Tot (@ite _ ((a != b) = true) i x y) Q :=
  Tot.it (fun h => h1 (by simpa using h)) (fun h => h2 (by simpa using h))
theorem Tot.ifne_neg {α : Type} {a b : Int} {i : Decidable ((a != b) = true)} {x y : Option α} {Q : α → Prop} (h : a = b) (h1 : Tot y Q) : Tot (@ite _ ((a != b) = true) i x y) Q :=
  Tot.ifne (fun k => absurd h k) (fun _ => h1)
theorem Tot.ifeq {α : Type} {a b : Int} {i : Decidable ((a == b) = true)} {x y : Option α} {Q : α → Prop} (h1 : a = b → Tot x Q) (h2 : a ≠ b → Tot y Q) : Tot (@ite _ ((a == b) = true) i x y) Q :=
  Tot.it (fun h => h1 (by simpa using h)) (fun h => h2 (by simpa using h))
theorem Tot.ifeq_pos {α : Type} {a b : Int} {i : Decidable ((a == b) = true)} {x y : Option α} {Q : α → Prop} (h : a = b) (h1 : Tot x Q) : Tot (@ite _ ((a == b) = true) i x y) Q :=
  Tot.ifeq (fun _ => h1) (fun k => absurd h k)
theorem Tot.ifeq_neg {α : Type} {a b : Int} {i : Decidable ((a == b) = true)} {x y : Option α} {Q : α → Prop} (h : a ≠ b) (h1 : Tot y Q) : Tot (@ite _ ((a == b) = true) i x y) Q :=
  Tot.ifeq (fun k => absurd k h) (fun _ => h1)
theorem Tot.ifn {α : Type} {b : Bool} {i : Decidable ((not b) = true)} {x y : Option α} {Q : α → Prop} (h1 : b = false → Tot x Q) (h2 : b = true → Tot y Q) : Tot (@ite _ ((not b) = true) i x y) Q :=
  Tot.it (fun h => h1 (by simpa using h)) (fun h => h2 (by simpa using h))
theorem Tot.eq {α : Type} {x : Option α} {v : α} (h : Tot x fun r => r = v) : x = some v := by obtain ⟨r, e, p⟩ := h; rw [e, p]
theorem qyy {α : Type} (l : List α) (s : Nat) (hs : s ≤ 64) (hl : l.length ≤ 1048576) :
    (qHy (fun (r1 : Bool) => r1 = true → l = []) fun (r1 : Bool) =>
      if r1 = true then some ([]) else gd ((List.length ([] ++ l)) * s ≤ 140737488355328) <| some ([] ++ l)) = some l := by
  refine qfp false (by simp) (fun r hr => ?_)
  by_cases h : r = true
  · rw [if_pos h, hr h]
  · rw [if_neg h, qea (by
      rw [List.nil_append]
      exact Nat.le_trans (Nat.mul_le_mul hl hs) (by decide)), List.nil_append]
theorem qtl (l : List Int) (h : l.length ≤ 1048576) : qvg l = some l := by rw [qkk]; exact qyy l 1 (by decide) h
theorem qRq {α : Type} {P : α → Prop} {l : List α} {d : α} (h : ∀ x ∈ l, P x) (i : Nat) (hi : i < l.length) : P (l.getD i d) := by
  rw [List.getD_eq_getElem?_getD, List.getElem?_eq_getElem hi]; exact h _ (List.getElem_mem hi)
theorem qSx {α : Type} {P : α → Prop} {l : List α} {d : α} (h : ∀ x ∈ l, P x) (hd : P d) (i : Nat) : P (l.getD i d) := by
  by_cases hi : i < l.length
  · exact qRq h i hi
  · rw [List.getD_eq_getElem?_getD, List.getElem?_eq_none (by omega)]; exact hd
theorem qXn {α : Type} {eq : α → α → Bool} (h : ∀ x, eq x x = true) : ∀ l : List α, qtr eq l l = true
  | [] => rfl
  | x :: l => by rw [qtr, h, qXn h l]; rfl
def hOK (h : qga) : Prop := 0 ≤ h.2.1 ∧ h.2.1 < 16 ∧ 1 ≤ h.2.2.2.1 ∧ h.2.2.2.1 ≤ 4096 ∧ 0 ≤ h.2.2.1 ∧ h.2.2.1 + h.2.2.2.1 ≤ 8192 ∧ ((h.1 = 1 ∧ h.2.2.2.2.1 = h.2.2.2.1) ∨ (h.1 = 2 ∧ 0 < h.2.2.2.2.1 ∧ h.2.2.2.2.1 < h.2.2.2.1))
instance (h : qga) : Decidable (hOK h) := by unfold hOK; infer_instance
def hC (h : qga) : Int := if hOK h then 0 else 8
theorem qzd (h : qga) : qhe h = some (hC h) := by
  rw [qNo]
  obtain ⟨m, mem, off, raw, len, sum, u⟩ := h
  simp only [hC, decide_eq_true_eq, beq_iff_eq]
  by_cases hr : 1 ≤ raw ∧ raw ≤ 4096
  · rw [w64 (by omega) (by omega)]
    by_cases ok : hOK (m, mem, off, raw, len, sum, u)
    · rw [if_pos ok]; simp only [hOK] at ok
      rw [if_neg (by omega), if_neg (by omega), if_neg (by omega), if_neg (by omega), if_neg (by omega), if_neg (by omega)]
      rcases ok.2.2.2.2.2.2 with ⟨h1, h2⟩ | ⟨h1, h2, h3⟩
      · rw [if_pos h1, if_pos h2, if_pos h2]
      · rw [if_neg (by omega), if_pos h1, if_pos h2, if_pos h3]
    · rw [if_neg ok]; simp only [hOK] at ok
      by_cases h1 : mem < 0
      · rw [if_pos h1]
      by_cases h2 : mem ≥ 16
      · rw [if_neg h1, if_pos h2, if_pos h2]
      by_cases h3 : off < 0
      · rw [if_neg h1, if_neg h2, if_neg (by omega), if_neg (by omega), if_pos h3]
      by_cases h4 : off > 8192 - raw
      · rw [if_neg h1, if_neg h2, if_neg (by omega), if_neg (by omega), if_neg h3, if_pos h4]
      rw [if_neg h1, if_neg h2, if_neg (by omega), if_neg (by omega), if_neg h3, if_neg h4]
      by_cases h5 : m = 1
      · rw [if_pos h5, if_neg (by omega), if_neg (by omega)]
      by_cases h6 : m = 2
      · rw [if_neg h5, if_pos h6]
        by_cases h7 : len > 0
        · rw [if_pos h7, if_neg (by omega)]
        · rw [if_neg h7]
      · rw [if_neg h5, if_neg h6]
  · rw [if_neg (show ¬ hOK (m, mem, off, raw, len, sum, u) from fun ok => hr (by simp only [hOK] at ok; omega))]
    by_cases h1 : mem < 0
    · rw [if_pos h1]
    by_cases h2 : mem ≥ 16
    · rw [if_neg h1, if_pos h2, if_pos h2]
    by_cases h3 : raw < 1
    · rw [if_neg h1, if_neg h2, if_pos h3]
    · rw [if_neg h1, if_neg h2, if_neg h3, if_pos (by omega), if_pos (by omega)]
def bC (b : qca) : Int := if hOK b.1 ∧ (b.2.1.length : Int) = b.1.2.2.2.2.1 then 0 else 8
theorem qWA (h : qga) : (hC h != 0) = true ↔ ¬ hOK h := by
  unfold hC; split <;> simp_all
theorem qfn (b : qca) : qEk b = some (bC b) := by
  rw [qOp, qzd]
  simp only [Option.bind_some, qWA]
  simp only [bC, bne_iff_ne, ne_eq, Int.ofNat_eq_natCast]
  by_cases h1 : hOK b.1 <;> by_cases h2 : (b.2.1.length : Int) = b.1.2.2.2.2.1 <;> simp [h1, h2]
def fr8 (h : qga) : List Int := [h.1 % 256, h.2.1 % 256, (h.2.2.1 / 256) % 256, h.2.2.1 % 256, (h.2.2.2.1 / 256) % 256, h.2.2.2.1 % 256, (h.2.2.2.2.1 / 256) % 256, h.2.2.2.2.1 % 256]
theorem qjD (a : Int) : qnh .i64 a 0 = a := by rw [qLw _ _ (by omega) (by omega)]; simp
theorem qxD (a : Int) : qnh .i64 a 8 = a / 256 := by rw [qLw _ _ (by omega) (by omega)]; rfl
theorem qww (n : Int) (h : -9223372036854775808 ≤ n ∧ n ≤ 9223372036854775807) : IntKind.wrap .i64 n = n := w64 h.1 h.2
theorem qms (v18 : List Int) (v19 : Int) (h8 : List Int) (v : Int) (h0 : 0 ≤ v19) (h4 : v19 < 5) (hw : G_widths.getD v19.toNat 0 = 1) (hv : v18.getD v19.toNat 0 = v) (hl : h8.length ≤ 100) :
    qbc v18 v19 h8 = qbc v18 (v19 + 1) (h8 ++ [v % 256]) := by
  rw [qDe, if_pos (by simpa using h4), qea h0, qea h4, qea h0, qea h4, hw, hv]
  rw [qmc, if_pos (by decide), qea h0, qea h4, hw]
  rw [qww ((1:Int) - 1) (by omega), qww ((1:Int) - 1 - 0) (by omega), qww ((8:Int) * (1 - 1 - 0)) (by omega), qww ((0:Int)+1) (by omega)]
  rw [qea (by omega), qea (by simp; omega)]
  rw [qmc, if_neg (by decide), w64 (x := v19 + 1) (by omega) (by omega), wu8]
  rw [show (8 * (1 - 1 - 0) : Int) = 0 by decide, qjD]
theorem qQo (v18 : List Int) (v19 : Int) (h8 : List Int) (v : Int) (h0 : 0 ≤ v19) (h4 : v19 < 5) (hw : G_widths.getD v19.toNat 0 = 2) (hv : v18.getD v19.toNat 0 = v) (hl : h8.length ≤ 100) :
    qbc v18 v19 h8 = qbc v18 (v19 + 1) (h8 ++ [(v / 256) % 256, v % 256]) := by
  rw [qDe, if_pos (by simpa using h4), qea h0, qea h4, qea h0, qea h4, hw, hv]
  rw [qmc, if_pos (by decide), qea h0, qea h4, hw]
  rw [qww ((2:Int) - 1) (by omega), qww ((2:Int) - 1 - 0) (by omega), qww ((8:Int) * (2 - 1 - 0)) (by omega), qww ((0:Int)+1) (by omega)]
  rw [qea (by omega), qea (by simp; omega)]
  rw [qmc, if_pos (by decide), qea h0, qea h4, hw]
  rw [qww ((2:Int) - 1) (by omega), qww ((2:Int) - 1 - (0 + 1)) (by omega), qww ((8:Int) * (2 - 1 - (0 + 1))) (by omega), qww ((0:Int)+1+1) (by omega)]
  rw [qea (by omega), qea (by simp; omega)]
  rw [qmc, if_neg (by decide), w64 (x := v19 + 1) (by omega) (by omega), wu8, wu8]
  rw [show (8 * (2 - 1 - 0) : Int) = 8 by decide, show (8 * (2 - 1 - (0 + 1)) : Int) = 0 by decide, qjD, qxD]
  simp
theorem qbm (h : qga) (hm : 0 ≤ h.1 ∧ h.1 < 256) : qZi h = some (fr8 h) := by
  rw [qJo, w64 (by omega) (by omega)]
  simp only [List.replicate, List.set_cons_zero, List.set_cons_succ]
  rw [qms _ 0 _ h.1 (by decide) (by decide) (by decide) rfl (by decide)]
  rw [qms _ (0+1) _ h.2.1 (by decide) (by decide) (by decide) rfl (by simp)]
  rw [qQo _ (0+1+1) _ h.2.2.1 (by decide) (by decide) (by decide) rfl (by simp)]
  rw [qQo _ (0+1+1+1) _ h.2.2.2.1 (by decide) (by decide) (by decide) rfl (by simp)]
  rw [qQo _ (0+1+1+1+1) _ h.2.2.2.2.1 (by decide) (by decide) (by decide) rfl (by simp)]
  rw [qDe, if_neg (by decide)]
  simp [fr8]
theorem qii (h : qga) (hm : 0 ≤ h.1 ∧ h.1 < 256) : qZc h = some (fr8 h) := by
  rw [qnj]
  simp only [qGk, wu8, qll _ (show (0:Int) < 256 by decide)]
  rw [qea (by decide)]
  simp only [Option.bind_some]
  rw [qea (by simp), qea (by decide)]
  simp only [Option.bind_some]
  rw [qea (by simp), qea (by decide)]
  simp only [Option.bind_some]
  rw [qea (by simp)]
  simp only [fr8, List.cons_append, List.nil_append]
  rw [Int.emod_eq_of_lt hm.1 hm.2]
def mark : List Int := [183, 98, 105, 116, 108, 111, 102, 116, 32, 98, 108, 107, 10]
theorem qWl : qWi = some mark := by rw [qwo, qea (by decide)]; rfl
theorem qRm : qQe = some mark := by rw [qpj]; rfl
def hB (h : qga) : List Int := fr8 h ++ h.2.2.2.2.2.1
theorem qdm (h : qga) : (fr8 h).length = 8 := rfl
def bB (b : qca) : List Int := mark ++ hB b.1 ++ b.2.1
def bWf (b : qca) : Prop := (0 ≤ b.1.1 ∧ b.1.1 < 256) ∧ b.1.2.2.2.2.2.1.length = 20
theorem qCu (a b : Nat) (ha : a < 4294967296) (hb : b < 256) : qrc .i64 ((a : Int) * 256) (b : Int) = (a : Int) * 256 + b := by
  unfold qrc
  have h1 : BitVec.ofInt 64 ((a : Int) * 256) = BitVec.ofNat 64 (a * 256) := by
    rw [show (a : Int) * 256 = ((a * 256 : Nat) : Int) by omega]; exact BitVec.ofInt_natCast _ _
  have h2 : BitVec.ofInt 64 (b : Int) = BitVec.ofNat 64 b := BitVec.ofInt_natCast _ _
  show IntKind.wrap .i64 ((BitVec.ofInt 64 ((a : Int) * 256) ||| BitVec.ofInt 64 (b : Int)).toNat : Int) = _
  rw [h1, h2, BitVec.toNat_or, BitVec.toNat_ofNat, BitVec.toNat_ofNat, Nat.mod_eq_of_lt (by omega), Nat.mod_eq_of_lt (by omega)]
  have h3 := Nat.two_pow_add_eq_or_of_lt (i := 8) (b := b) (by omega) a
  rw [show a * 256 = 2 ^ 8 * a by omega, ← h3, w64 (by omega) (by omega)]
  omega
theorem qpz {x y : Int} (hx : 0 ≤ x ∧ x < 4294967296) (hy : 0 ≤ y ∧ y < 256) : qrc .i64 (x * 256) y = x * 256 + y := by
  obtain ⟨a, rfl⟩ := Int.eq_ofNat_of_zero_le hx.1
  obtain ⟨b, rfl⟩ := Int.eq_ofNat_of_zero_le hy.1
  exact qCu a b (by omega) (by omega)
theorem qls {α : Type} (xs : List α) (i : Nat) (x d : α) (h : i < xs.length) : (xs.set i x).getD i d = x := by
  simp [List.getD, h]
theorem Bts.getD {xs : List Int} (h : Bts xs) (i : Nat) : 0 ≤ xs.getD i 0 ∧ xs.getD i 0 < 256 := by
  by_cases hi : i < xs.length
  · simp only [List.getD_eq_getElem?_getD, List.getElem?_eq_getElem hi, Option.getD_some]; exact h _ (List.getElem_mem hi)
  · simp [List.getD_eq_getElem?_getD, List.getElem?_eq_none (by omega : xs.length ≤ i)]
theorem qNl (v0 : List Int) (v5 v17 v18 : Int) (b8 : qga) (b9 : List Int) (h0 : 0 ≤ v5) (h5 : v5 < 5) (hlt : v18 < v17) (h18 : 0 ≤ v18) (h17 : v17 ≤ 2) (hb : Bts v0) (hl : 0 < v0.length) (hx : 0 ≤ b9.getD v5.toNat 0 ∧ b9.getD v5.toNat 0 < 256) :
    qqd v0 v5 G_widths v5 v17 v18 b8 b9 = qqd (v0.drop 1) v5 G_widths v5 v17 (v18 + 1) b8 (b9.set v5.toNat (b9.getD v5.toNat 0 * 256 + v0.getD 0 0)) := by
  have hy := hb.getD 0
  rw [qEe, if_pos (by simpa using hlt)]
  rw [qea h0, qea h5, qea (by decide), qea (by decide), qea (by simp only [Int.ofNat_eq_natCast]; omega), qea h0, qea h5, qea (by decide), qea (by simp only [Int.ofNat_eq_natCast]; omega)]
  rw [w64 (x := v18 + 1) (by omega) (by omega), w64 (x := b9.getD v5.toNat 0 * 256) (by omega) (by omega), w64 (x := v0.getD 0 0) (by omega) (by omega), qpz ⟨hx.1, by omega⟩ hy]
theorem qNr (v0 : List Int) (v5 : Int) (b8 : qga) (b9 : List Int) (h0 : 0 ≤ v5) (h5 : v5 < 5) (hw : G_widths.getD v5.toNat 0 = 1) (hb : Bts v0) (hl : 0 < v0.length) (hx : b9.getD v5.toNat 0 = 0) (hn : b9.length = 5) :
    qcc v0 G_widths v5 b8 b9 = qcc (v0.drop 1) G_widths (v5 + 1) b8 (b9.set v5.toNat (v0.getD 0 0)) := by
  rw [qFe, if_pos (by simpa using h5), qea h0, qea h5, hw, qNl v0 v5 1 0 b8 b9 h0 h5 (by decide) (by decide) (by decide) hb hl (by rw [hx]; decide)]
  rw [qEe, if_neg (by decide), w64 (x := v5 + 1) (by omega) (by omega), hx, Int.zero_mul, Int.zero_add]
theorem qbo (v0 : List Int) (v5 : Int) (b8 : qga) (b9 : List Int) (h0 : 0 ≤ v5) (h5 : v5 < 5) (hw : G_widths.getD v5.toNat 0 = 2) (hb : Bts v0) (hl : 1 < v0.length) (hx : b9.getD v5.toNat 0 = 0) (hn : b9.length = 5) :
    qcc v0 G_widths v5 b8 b9 = qcc (v0.drop 2) G_widths (v5 + 1) b8 (b9.set v5.toNat (v0.getD 0 0 * 256 + v0.getD 1 0)) := by
  have hy := hb.getD 0
  have hi : v5.toNat < b9.length := by omega
  have hg : (v0.drop 1).getD 0 0 = v0.getD 1 0 := by simp [List.getD_eq_getElem?_getD]
  rw [qFe, if_pos (by simpa using h5), qea h0, qea h5, hw, qNl v0 v5 2 0 b8 b9 h0 h5 (by decide) (by decide) (by decide) hb (by omega) (by rw [hx]; decide)]
  rw [hx, Int.zero_mul, Int.zero_add (v0.getD 0 0)]
  rw [qNl (v0.drop 1) v5 2 (0 + 1) b8 _ h0 h5 (by decide) (by decide) (by decide) (hb.drop 1) (by simp; omega) (by rw [qls _ _ _ _ hi]; exact hy)]
  rw [qEe, if_neg (by decide), w64 (x := v5 + 1) (by omega) (by omega), qls _ _ _ _ hi, List.set_set, List.drop_drop, hg]
def zH : qga := (0, (0, (0, (0, (0, (List.replicate 20 0, ()))))))
def pH (a : List Int) : qga := (a.getD 0 0, (a.getD 1 0, (a.getD 2 0 * 256 + a.getD 3 0, (a.getD 4 0 * 256 + a.getD 5 0, (a.getD 6 0 * 256 + a.getD 7 0, (a.drop 8, ()))))))
def pP (a : List Int) : qga × Int := if a.length = 28 ∧ hOK (pH a) then (pH a, 0) else (zH, 12)
theorem qgy (a : List Int) (k i : Nat) : (a.drop k).getD i 0 = a.getD (k + i) 0 := by simp [List.getD_eq_getElem?_getD]
theorem qvh (a : List Int) (hb : Bts a) : qbj a = some (pP a) := by
  rw [qMo]
  by_cases hl : a.length = 28
  · rw [if_neg (by simp [hl])]
    have hrep : (List.replicate 5 (0:Int)) = [0,0,0,0,0] := rfl
    rw [hrep]
    rw [qNr a 0 _ _ (by decide) (by decide) (by decide) hb (by omega) (by decide) (by decide)]
    rw [qNr (a.drop 1) (0+1) _ _ (by decide) (by decide) (by decide) (hb.drop 1) (by simp; omega) (by simp) (by simp)]
    rw [qbo _ (0+1+1) _ _ (by decide) (by decide) (by decide) ((hb.drop 1).drop 1) (by simp; omega) (by simp) (by simp)]
    rw [qbo _ (0+1+1+1) _ _ (by decide) (by decide) (by decide) (((hb.drop 1).drop 1).drop 2) (by simp; omega) (by simp) (by simp)]
    rw [qbo _ (0+1+1+1+1) _ _ (by decide) (by decide) (by decide) ((((hb.drop 1).drop 1).drop 2).drop 2) (by simp; omega) (by simp) (by simp)]
    rw [qFe, if_neg (by decide)]
    iterate 10 rw [qea (by decide)]
    simp only [List.drop_drop, qgy]
    have h0 := hb.getD 0
    have hsp : qZb (List.replicate 20 (0:Int)) 0 (List.take (min (List.drop (1 + 1 + 2 + 2 + 2) a).length 20) (List.drop (1 + 1 + 2 + 2 + 2) a)) = a.drop 8 := by
      have hln : (a.drop 8).length = 20 := by simp [hl]
      show qZb (List.replicate 20 (0:Int)) 0 (List.take (min (a.drop 8).length 20) (a.drop 8)) = a.drop 8
      rw [hln, List.take_of_length_le (by omega)]
      unfold qZb
      simp [hl]
    rw [hsp]
    have e0 : (([0,0,0,0,0] : List Int).set (Int.toNat 0) (a.getD 0 0) |>.set (Int.toNat (0+1)) (a.getD (1+0) 0) |>.set (Int.toNat (0+1+1)) (a.getD (1+1+0) 0 * 256 + a.getD (1+1+1) 0) |>.set (Int.toNat (0+1+1+1)) (a.getD (1+1+2+0) 0 * 256 + a.getD (1+1+2+1) 0) |>.set (Int.toNat (0+1+1+1+1)) (a.getD (1+1+2+2+0) 0 * 256 + a.getD (1+1+2+2+1) 0)) = [a.getD 0 0, a.getD 1 0, a.getD 2 0 * 256 + a.getD 3 0, a.getD 4 0 * 256 + a.getD 5 0, a.getD 6 0 * 256 + a.getD 7 0] := rfl
    rw [e0]
    simp only [List.getD_cons_zero, List.getD_cons_succ, wu8, Int.emod_eq_of_lt h0.1 h0.2]
    rw [qzd]
    show (some (hC (pH a))).bind _ = _
    simp only [Option.bind_some, qWA]
    unfold pP
    by_cases ok : hOK (pH a)
    · rw [if_neg (by simpa using ok), if_pos ⟨hl, ok⟩]; rfl
    · rw [if_pos ok, if_neg (fun h => ok h.2)]; rfl
  · rw [if_pos (by simp; omega)]
    unfold pP
    rw [if_neg (fun h => hl h.1)]; rfl
theorem qvz : Bts mark := by
  intro x hx
  simp [mark] at hx
  omega
theorem qSf : mark.length = 13 := rfl
theorem qak (a : List Int) (hb : Bts a) (h1 : 41 ≤ a.length) (h2 : a.length ≤ 50000) : qxo a 0 = some (decide (a.take 13 = mark), 0) := by
  rw [qWr, qvo, if_neg (by simp; omega), if_neg (by decide), if_neg (by simp)]
  simp only [Option.bind_some]
  rw [if_neg (by decide), qea (by decide), qea (by simp), qWl]
  simp only [Option.bind_some]
  rw [qXg, if_pos (by simp [qSf]; omega), qea (by simp), qea (by simp [qSf]; omega), qjk]
  simp only [Option.bind_some]
  rw [qdC ((hb.drop _).take _) qvz]
  rfl
def rdK (a : List Int) : qca × Int × Int :=
  if a.length > 50000 then ((zH, ([], ())), (0, 4)) else if a.length < 41 then ((zH, ([], ())), (0, 18))
  else if a.take 13 ≠ mark ∨ ¬ hOK (pH ((a.drop 13).take 28)) then ((zH, ([], ())), (0, 12))
  else if (a.length : Int) < 41 + (pH ((a.drop 13).take 28)).2.2.2.2.1 then ((zH, ([], ())), (0, 18))
  else ((pH ((a.drop 13).take 28), ((a.drop 41).take (pH ((a.drop 13).take 28)).2.2.2.2.1.toNat, ())), (41 + (pH ((a.drop 13).take 28)).2.2.2.2.1, 0))
theorem qAk {h : qga} (ok : hOK h) : 1 ≤ h.2.2.2.2.1 ∧ h.2.2.2.2.1 ≤ 4096 := by unfold hOK at ok; omega
theorem qIB (a : List Int) (h : 41 ≤ a.length) : pP ((a.drop 13).take 28) = if hOK (pH ((a.drop 13).take 28)) then (pH ((a.drop 13).take 28), 0) else (zH, 12) := by
  have hl : ((a.drop 13).take 28).length = 28 := by simp; omega
  unfold pP
  simp only [hl, true_and]
theorem qep (a : List Int) (hb : Bts a) : qEh a = some (rdK a) := by
  rw [qvl]
  unfold rdK
  by_cases h1 : a.length > 50000
  · rw [if_pos (by simp; omega), if_pos h1]; rfl
  rw [if_neg (by simp; omega), if_neg h1]
  by_cases h2 : a.length < 41
  · rw [if_pos (by simp; omega), if_pos h2]; rfl
  rw [if_neg (by simp; omega), if_neg h2, qea (by decide), qea (by decide), qea (by simp only [Int.ofNat_eq_natCast]; omega), qvh _ ((hb.drop _).take _), qIB a (by omega), qak a hb (by omega) (by omega)]
  simp only [Option.bind_some]
  by_cases h3 : a.take 13 = mark
  · by_cases ok : hOK (pH ((a.drop 13).take 28))
    · have hlen := qAk ok
      rw [if_pos ok, if_neg (by simp [h3]), if_neg (by simp), if_neg (show ¬ (a.take 13 ≠ mark ∨ ¬ hOK (pH ((a.drop 13).take 28))) from fun h => h.elim (fun h => h h3) (fun h => h ok))]
      generalize pH ((a.drop 13).take 28) = h at ok hlen ⊢
      simp only
      rw [w64 (x := 41 + h.2.2.2.2.1) (by omega) (by omega)]
      by_cases h4 : (a.length : Int) < 41 + h.2.2.2.2.1
      · rw [if_pos (by simpa using h4), if_pos h4]; rfl
      · rw [if_neg (by simpa using h4), if_neg h4, qea (by decide), qea (by omega), qea (by simp only [Int.ofNat_eq_natCast]; omega), qtl _ (by simp; omega)]
        have e : Int.toNat (41 + h.2.2.2.2.1) - 41 = h.2.2.2.2.1.toNat := by omega
        simp only [Option.bind_some, e]
    · rw [if_neg ok, if_neg (by simp [h3]), if_pos (by simp), if_pos (show (a.take 13 ≠ mark ∨ ¬ hOK (pH ((a.drop 13).take 28))) from .inr ok)]; rfl
  · rw [if_pos (by simp [h3]), if_pos (show (a.take 13 ≠ mark ∨ ¬ hOK (pH ((a.drop 13).take 28))) from .inl h3)]; rfl
theorem qXA (h : qga) : Bts (fr8 h) := by
  intro x hx
  simp only [fr8, List.mem_cons, List.not_mem_nil, or_false] at hx
  omega
theorem qil (h : qga) (hm : 0 ≤ h.1 ∧ h.1 < 256) (raw : List Int) (hb : Bts raw) (hl : raw.length ≤ 19000) : qbi h raw = some (qjh (fr8 h ++ raw)) := by
  rw [qan, qbm h hm, Option.bind_some]
  have hL : (fr8 h ++ raw).length = raw.length + 8 := by rw [List.length_append, qdm]; omega
  rw [qea (by rw [hL]; omega), qtn _ (Bts.append (qXA h) hb), if_pos (by rw [hL]; omega), Option.bind_some]
def qBB (m a1 a2 raw len : Int) (z : List Int) : qga := (m, (a1, (a2, (raw, (len, (qjh (fr8 (m, (a1, (a2, (raw, (len, (List.replicate 20 0, ())))))) ++ z), ()))))))
def qZf (a1 a2 : Int) (z : List Int) : qca := (qBB 1 a1 a2 z.length z.length z, (z, ()))
def mOK (a1 a2 : Int) (z : List Int) : Prop := 0 ≤ a1 ∧ a1 < 16 ∧ 1 ≤ z.length ∧ z.length ≤ 4096 ∧ 0 ≤ a2 ∧ a2 + z.length ≤ 8192
instance (a1 a2 : Int) (z : List Int) : Decidable (mOK a1 a2 z) := by unfold mOK; infer_instance
theorem qPv {a1 a2 : Int} {z : List Int} (h : mOK a1 a2 z) (s : List Int) : hOK (1, (a1, (a2, ((z.length : Int), ((z.length : Int), (s, ())))))) := by
  unfold mOK at h
  exact ⟨h.1, h.2.1, by simp only; omega, by simp only; omega, h.2.2.2.2.1, h.2.2.2.2.2, Or.inl ⟨rfl, rfl⟩⟩
theorem qjs (l : Int) : qfi l = some (decide (0 ≤ l ∧ l ≤ 7)) := by
  rw [qen]
  by_cases h : 0 ≤ l
  · rw [if_pos (by simpa using h)]
    exact congrArg some (by simp [h])
  · rw [if_neg (by simpa using h)]
    exact congrArg some (by simp [h])
theorem qIw {a1 a2 : Int} {z : List Int} (hm : mOK a1 a2 z) : bC (qZf a1 a2 z) = 0 := if_pos ⟨qPv hm _, rfl⟩
theorem qvj (a1 a2 : Int) (z : List Int) : bWf (qZf a1 a2 z) := ⟨⟨by show (0:Int) ≤ 1; decide, by show (1:Int) < 256; decide⟩, qkf _⟩
theorem qkx {xs ys : List Int} : qtr (peq (.int .u8)) xs ys = true → xs = ys := by
  intro h
  induction xs generalizing ys with
  | nil => cases ys with
    | nil => rfl
    | cons y ys => exact absurd h (by simp [qtr])
  | cons x xs ih => cases ys with
    | nil => exact absurd h (by simp [qtr])
    | cons y ys =>
      rw [qtr, Bool.and_eq_true] at h
      have h1 : x = y := by have := h.1; rw [peq] at this; exact of_decide_eq_true this
      rw [h1, ih h.2]
theorem qlz (xs ys : List Int) : qtr (peq (.int .u8)) xs ys = decide (xs = ys) := by
  by_cases h : xs = ys
  · subst h
    rw [decide_eq_true rfl]
    exact qXn (fun x => by rw [peq]; exact decide_eq_true rfl) _
  · rw [decide_eq_false h]
    cases hq : qtr (peq (.int .u8)) xs ys with
    | false => rfl
    | true => exact absurd (qkx hq) h
theorem qEp {h : qga} (ok : hOK h) (hm : 0 ≤ h.1 ∧ h.1 < 256) {z : List Int} (hb : Bts z) (hl : (z.length : Int) = h.2.2.2.1) : qaj h z = some (decide (qjh (fr8 h ++ z) = h.2.2.2.2.2.1), 0) := by
  have hz : z.length ≤ 4096 := by unfold hOK at ok; omega
  have hc : hC h = 0 := if_pos ok
  rw [qLo]
  refine Tot.eq (Tot.be (qzd h) (Tot.ifne_neg hc (Tot.ifeq_pos hl (Tot.be (qil h hm z hb (by omega)) (Tot.so ?_)))))
  rw [peq, qlz]
theorem qtw {l : Int} {b : qca} (hl : 0 ≤ l ∧ l ≤ 7) (h1 : b.1.1 = 1) (hc : bC b = 0) (hb : Bts b.2.1) : qwl l b = some (if qjh (fr8 b.1 ++ b.2.1) = b.1.2.2.2.2.2.1 then (b.2.1, 0) else ([], 22)) := by
  have ok : hOK b.1 ∧ (b.2.1.length : Int) = b.1.2.2.2.2.1 := by
    unfold bC at hc; split at hc
    · assumption
    · cases hc
  have hlen : b.1.2.2.2.2.1 = b.1.2.2.2.1 := by
    rcases ok.1.2.2.2.2.2.2 with h | h
    · exact h.2
    · omega
  have hz : b.2.1.length ≤ 4096 := by have := ok.1.2.2.2.1; omega
  rw [qIs]
  refine Tot.eq (Tot.be (qfn b) (Tot.ifne_neg hc (Tot.be (qjs l) ?_)))
  rw [decide_eq_true hl]
  refine Tot.ifn (fun k => absurd k (by decide)) (fun _ => Tot.be (qtl _ (by omega)) (Tot.ifeq_neg (by omega) (Tot.be (qEp ok.1 (by omega) hb (by omega)) ?_)))
  by_cases hs : qjh (fr8 b.1 ++ b.2.1) = b.1.2.2.2.2.2.1
  · rw [if_pos hs, decide_eq_true hs]
    exact Tot.ifn (fun k => absurd k (by decide)) (fun _ => Tot.so rfl)
  · rw [if_neg hs, decide_eq_false hs]
    exact Tot.ifn (fun _ => Tot.so rfl) (fun k => absurd k (by decide))
theorem qrq (h : qga) (hm : 0 ≤ h.1 ∧ h.1 < 256) {z : List Int} (hl : z.length ≤ 100000) : qOe h z = some (qjh (fr8 h ++ z)) := by
  have hL : (fr8 h ++ z).length = z.length + 8 := by rw [List.length_append, qdm]; omega
  rw [qzl]
  exact Tot.eq (Tot.be (qii h hm) (Tot.g (by rw [hL]; omega) (Tot.be (qau _ (by rw [hL]; omega)) (Tot.so rfl))))
instance (h : qga) : Decidable (hOK h) := by unfold hOK; infer_instance
instance (a1 a2 : Int) (z : List Int) : Decidable (mOK a1 a2 z) := by unfold mOK; infer_instance
theorem qQm (h : qga) (hm : 0 ≤ h.1 ∧ h.1 < 256) (hs : h.2.2.2.2.2.1.length = 20) : qPe h = some (hB h) := by
  rw [qoj, qii h hm]
  simp only [Option.bind_some]
  rw [qea (by simp [qdm]; omega)]
  simp only [hB, List.drop_zero]
  rw [List.take_of_length_le (by omega)]
def qzC (s : List Int) : Prop := s.take 13 = mark
instance (s : List Int) : Decidable (qzC s) := by unfold qzC; infer_instance
theorem qMC {h : qga} (ok : hOK h) (hs : h.2.2.2.2.2.1.length = 20) : pH (hB h) = h := by
  obtain ⟨m, mem, off, raw, len, sum, u⟩ := h
  have e : pH (hB (m, mem, off, raw, len, sum, u)) = (m % 256, (mem % 256, (off / 256 % 256 * 256 + off % 256, (raw / 256 % 256 * 256 + raw % 256, (len / 256 % 256 * 256 + len % 256, (sum, ())))))) := rfl
  rw [e]
  unfold hOK at ok
  simp only at ok
  have e1 : m % 256 = m := by omega
  have e2 : mem % 256 = mem := by omega
  have e3 : off / 256 % 256 * 256 + off % 256 = off := by omega
  have e4 : raw / 256 % 256 * 256 + raw % 256 = raw := by omega
  have e5 : len / 256 % 256 * 256 + len % 256 = len := by omega
  rw [e1, e2, e3, e4, e5]
theorem qFC {b : qca} {more : List Int} (hc : bC b = 0) (hw : bWf b) (hl : more.length ≤ 40000) : rdK (bB b ++ more) = (b, (b.1.2.2.2.2.1 + 41, 0)) := by
  have ok : hOK b.1 ∧ (b.2.1.length : Int) = b.1.2.2.2.2.1 := by
    unfold bC at hc; split at hc
    · assumption
    · cases hc
  have hlen := qAk ok.1
  have hhl : (hB b.1).length = 28 := by unfold hB; rw [List.length_append, qdm, hw.2]
  have hL : (bB b ++ more).length = 41 + b.2.1.length + more.length := by
    unfold bB; simp only [List.length_append, qSf, hhl]
  have hw13 : (bB b ++ more).take 13 = mark := by
    unfold bB
    rw [List.append_assoc, List.append_assoc, List.take_append_of_le_length (by rw [qSf]; omega)]
    rfl
  have qzC : ((bB b ++ more).drop 13).take 28 = hB b.1 := by
    unfold bB
    rw [List.append_assoc, List.append_assoc, List.drop_append_of_le_length (by rw [qSf]; omega), List.drop_of_length_le (by rw [qSf]; omega), List.nil_append, List.take_append_of_le_length (by omega), List.take_of_length_le (by omega)]
  have hd41 : (bB b ++ more).drop 41 = b.2.1 ++ more := by
    have e : bB b ++ more = (mark ++ hB b.1) ++ (b.2.1 ++ more) := by unfold bB; simp only [List.append_assoc]
    have e2 : (mark ++ hB b.1).length = 41 := by rw [List.length_append, qSf, hhl]
    rw [e, List.drop_append_of_le_length (by omega), List.drop_of_length_le (by omega), List.nil_append]
  unfold rdK
  rw [qzC, qMC ok.1 hw.2, if_neg (show ¬ (bB b ++ more).length > 50000 by omega), if_neg (show ¬ (bB b ++ more).length < 41 by omega), if_neg (fun h => h.elim (fun h => h hw13) (fun h => h ok.1)), if_neg (by omega), hd41]
  have e : b.1.2.2.2.2.1.toNat = b.2.1.length := by omega
  rw [e, List.take_append_of_le_length (Nat.le_refl _), List.take_length, Int.add_comm]
theorem b7 : Bts [7] := Bts.cons (by decide) Bts.nil
theorem qtD (a b : ByteArray) : (ByteArray.toList a == ByteArray.toList b) = decide (a = b) := by
  rw [Bool.eq_iff_iff, beq_iff_eq, decide_eq_true_eq]
  exact ⟨fun h => toList_inj h, fun h => by rw [h]⟩
theorem qzf (s : ByteArray) : (qDb s).length = s.size := by
  unfold qDb
  rw [List.length_map, Array.length_toList]; rfl
def okC (x : Int) : Bool := decide (33 ≤ x) && decide (x ≤ 126)
def qxw (s : ByteArray) : Bool := (qDb s).all okC && decide (1 ≤ s.size) && decide (s.size ≤ 40)
theorem qhy {xs : List Int} {i : Nat} (h : i < xs.length) : xs.drop i = xs.getD i 0 :: xs.drop (i + 1) := by
  rw [List.drop_eq_getElem_cons h, List.getD_eq_getElem?_getD, List.getElem?_eq_getElem h]; rfl
theorem qis (s : ByteArray) (hs : s.size ≤ 9223372036854775807) : ∀ (k i : Nat), i + k = s.size → qTd s (s.size : Int) (i : Int) = some (((qDb s).drop i).all okC && decide (1 ≤ s.size) && decide (s.size ≤ 40))
  | 0, i, e => by
    have hd : (qDb s).drop i = [] := List.drop_eq_nil_of_le (by rw [qzf]; omega)
    rw [qng, if_neg (by simp; omega), hd]
    have hl : Int.ofNat s.size = (s.size : Int) := rfl
    rw [hl]
    by_cases h : 1 ≤ s.size
    · rw [if_pos (by simp; omega)]
      simp [h]; omega
    · rw [if_neg (by rw [decide_eq_true_eq]; omega)]
      simp [h]
  | k + 1, i, e => by
    have hi : i < (qDb s).length := by rw [qzf]; omega
    have hb : qJm s ((i : Int)).toNat = (qDb s).getD i 0 := by rw [Int.toNat_natCast]; rfl
    rw [qng, if_pos (by simp; omega), qea (by omega), qea (by omega), hb, qhy hi, w64 (by omega) (by omega)]
    have ih := qis s hs k (i + 1) (by omega)
    rw [show ((i + 1 : Nat) : Int) = (i : Int) + 1 by omega] at ih
    by_cases h1 : (qDb s).getD i 0 ≤ 32
    · rw [if_pos (by simpa using h1)]
      have : okC ((qDb s).getD i 0) = false := by simp only [okC, Bool.and_eq_false_iff, decide_eq_false_iff_not]; left; omega
      simp only [List.all_cons, this, Bool.false_and]
    · rw [if_neg (by simpa using h1), qea (by omega), qea (by omega)]
      by_cases h2 : (qDb s).getD i 0 > 126
      · rw [if_pos (by simpa using h2)]
        have : okC ((qDb s).getD i 0) = false := by simp only [okC, Bool.and_eq_false_iff, decide_eq_false_iff_not]; right; omega
        simp only [List.all_cons, this, Bool.false_and]
      · rw [if_neg (by simpa using h2), ih]
        have : okC ((qDb s).getD i 0) = true := by simp only [okC, Bool.and_eq_true, decide_eq_true_eq]; omega
        simp only [List.all_cons, this, Bool.true_and]
theorem qdl (s : ByteArray) (hs : s.size ≤ 9223372036854775807) : qUh s = some (qxw s) := by
  rw [qVm]
  exact qis s hs s.size 0 (by omega)
theorem qPy (s : ByteArray) (hs : s.size ≤ 9223372036854775807) : ∀ (k i : Nat), i + k = s.size → qvc s (i : Int) = some (((qDb s).drop i).all okC)
  | 0, i, e => by
    have hd : (qDb s).drop i = [] := List.drop_eq_nil_of_le (by rw [qzf]; omega)
    rw [qLe, if_neg (by simp; omega), hd]
    rfl
  | k + 1, i, e => by
    have hi : i < (qDb s).length := by rw [qzf]; omega
    have hb : qJm s ((i : Int)).toNat = (qDb s).getD i 0 := by rw [Int.toNat_natCast]; rfl
    rw [qLe, if_pos (by simp; omega), qea (by omega), qea (by omega), hb, qhy hi, w64 (by omega) (by omega)]
    have ih := qPy s hs k (i + 1) (by omega)
    rw [show ((i + 1 : Nat) : Int) = (i : Int) + 1 by omega] at ih
    by_cases h1 : (qDb s).getD i 0 < 33
    · rw [if_pos (by simpa using h1)]
      have : okC ((qDb s).getD i 0) = false := by simp only [okC, Bool.and_eq_false_iff, decide_eq_false_iff_not]; left; omega
      simp only [List.all_cons, this, Bool.false_and]
    · rw [if_neg (by simpa using h1), qea (by omega), qea (by omega)]
      by_cases h2 : (qDb s).getD i 0 > 126
      · rw [if_pos (by simpa using h2)]
        have : okC ((qDb s).getD i 0) = false := by simp only [okC, Bool.and_eq_false_iff, decide_eq_false_iff_not]; right; omega
        simp only [List.all_cons, this, Bool.false_and]
      · rw [if_neg (by simpa using h2), ih]
        have : okC ((qDb s).getD i 0) = true := by simp only [okC, Bool.and_eq_true, decide_eq_true_eq]; omega
        simp only [List.all_cons, this, Bool.true_and]
theorem qRn (s : ByteArray) (hs : s.size ≤ 9223372036854775807) : qff s = some (qxw s) := by
  have hl : Int.ofNat s.size = (s.size : Int) := rfl
  rw [qJj, hl]
  unfold qxw
  by_cases h1 : s.size < 1
  · rw [if_pos (by simp; omega)]
    have : ¬ 1 ≤ s.size := by omega
    simp [this]
  · rw [if_neg (by simp; omega)]
    by_cases h2 : s.size > 40
    · rw [if_pos (by simp; omega)]
      have : ¬ s.size ≤ 40 := by omega
      simp [this]
    · rw [if_neg (by simp; omega)]
      have := qPy s hs s.size 0 (by omega)
      refine this.trans ?_
      have h3 : 1 ≤ s.size := by omega
      have h4 : s.size ≤ 40 := by omega
      simp [h3, h4]
theorem qmo {α β : Type} {eq : α → α → Bool} (h : ∀ a b, eq a b = true ↔ a = b) (x y : α) (v : β) : ∀ m : List (α × β), qTm eq x (qUr eq y v m) = if eq x y then some v else qTm eq x m
  | [] => by simp [qUr, qTm]
  | e :: r => by
    simp only [qUr]
    by_cases hy : eq y e.1 = true
    · have := (h _ _).1 hy
      simp only [hy, if_true, qTm]
      by_cases hx : eq x y = true
      · simp [hx]
      · have : eq x e.1 = false := by rw [← this]; simpa using hx
        simp [hx, this]
    · simp only [hy, Bool.false_eq_true, if_false, qTm, qmo h x y v r]
      by_cases hx : eq x y = true
      · have e1 := (h _ _).1 hx
        subst e1
        simp [hx, hy]
      · simp [hx]
theorem qjx (a b : ByteArray) : peq .str a b = decide (a = b) := qtD a b
def qNv (x : ByteArray) (xs : List ByteArray) : Bool := xs.any fun y => decide (x = y)
theorem qpt (x y : ByteArray) (xs : List ByteArray) : qNv x (xs ++ [y]) = (qNv x xs || decide (x = y)) := by simp [qNv]
def qbw (seen : List ByteArray) : List ByteArray → Bool
  | [] => false
  | x :: r => qNv x seen || qbw (seen ++ [x]) r
theorem qXu {xs : List ByteArray} {i : Nat} (h : i < xs.length) : xs.drop i = xs.getD i ByteArray.empty :: xs.drop (i + 1) ∧ xs.take (i + 1) = xs.take i ++ [xs.getD i ByteArray.empty] := by
  have e : xs.getD i ByteArray.empty = xs[i] := by rw [List.getD_eq_getElem?_getD, List.getElem?_eq_getElem h]; rfl
  rw [e]
  exact ⟨List.drop_eq_getElem_cons h, by rw [List.take_add_one, List.getElem?_eq_getElem h]; rfl⟩
theorem qhu (xs : List ByteArray) (hx : xs.length ≤ 9223372036854775807) : ∀ (k i : Nat) (m : List (ByteArray × Bool)), i + k = xs.length → (∀ x, Option.getD (qTm (peq .str) x m) false = qNv x (xs.take i)) → qye xs (xs.length : Int) (i : Int) m = some (qbw (xs.take i) (xs.drop i))
  | 0, i, m, e, hm => by
    rw [qPg, if_neg (by simp; omega), List.drop_eq_nil_of_le (by omega)]; rfl
  | k + 1, i, m, e, hm => by
    have hl : Int.ofNat xs.length = (xs.length : Int) := rfl
    obtain ⟨d1, d2⟩ := qXu (xs := xs) (i := i) (by omega)
    rw [qPg, if_pos (by simp; omega), qea (by omega), qea (by rw [hl]; omega), Int.toNat_natCast, hm, d1, qbw]
    by_cases h : qNv (xs.getD i ByteArray.empty) (xs.take i) = true
    · rw [if_pos h, h]; rfl
    · rw [if_neg h, w64 (by omega) (by omega)]
      have ih := qhu xs hx k (i + 1) (qUr (peq .str) (xs.getD i ByteArray.empty) true m) (by omega) (fun x => by
        rw [qmo (fun a b => by rw [qjx]; simp), d2, qjx, qpt, ← hm]
        by_cases hx : x = xs.getD i ByteArray.empty
        · rw [if_pos (by simp [hx])]; simp [hx]
        · rw [decide_eq_false hx, if_neg (by simp), Bool.or_false])
      rw [show ((i + 1 : Nat) : Int) = (i : Int) + 1 by omega] at ih
      rw [ih, d2, Bool.eq_false_iff.2 h]; rfl
theorem qTl (xs : List ByteArray) (hx : xs.length ≤ 9223372036854775807) : qRi xs = some (qbw [] xs) := by
  rw [qno]
  exact qhu xs hx xs.length 0 [] (by omega) (fun x => by simp [qTm, qNv])
def qzw (r : qaa) : Bool := !qxw r.1 || decide (r.2.1 < 0) || decide (r.2.1 > 8192) || (r.2.1 == 0 && !peq (.arr 20 (.int .u8)) r.2.2.1 (qjh []))
def vld (acc : Int) (nm : List ByteArray) : List qaa → Int
  | [] => if acc > 8192 then 4 else if qbw [] nm then 14 else 0
  | r :: rest => if qzw r then 8 else vld (acc + r.2.1) (nm ++ [r.1]) rest
def qoe (rs : List qaa) : Int := if rs.length > 16 then 4 else vld 0 [] rs
def RecsOK (rs : List qaa) : Prop := rs.length ≤ 9223372036854775807 ∧ ∀ r ∈ rs, r.1.size ≤ 9223372036854775807
theorem qJa {α : Type} {xs : List α} {i : Nat} (d : α) (h : i < xs.length) : xs.drop i = xs.getD i d :: xs.drop (i + 1) ∧ xs.take (i + 1) = xs.take i ++ [xs.getD i d] ∧ xs.getD i d ∈ xs := by
  have e : xs.getD i d = xs[i] := by rw [List.getD_eq_getElem?_getD, List.getElem?_eq_getElem h]; rfl
  rw [e]
  exact ⟨List.drop_eq_getElem_cons h, by rw [List.take_add_one, List.getElem?_eq_getElem h]; rfl, List.getElem_mem h⟩
theorem qkw : qVh [] = some (qjh []) := by
  rw [qWm, qtn [] Bts.nil]; rfl
theorem qjv (rs : List qaa) (hR : RecsOK rs) (hn : rs.length ≤ 16) : ∀ (k i : Nat) (acc : Int) (nm : List ByteArray), i + k = rs.length → nm.length = i → 0 ≤ acc → acc ≤ 8192 * i → qod acc rs (rs.length : Int) (i : Int) nm = some (vld acc nm (rs.drop i))
  | 0, i, acc, nm, e, hl, a0, a1 => by
    rw [qRg, if_neg (by simp; omega), List.drop_eq_nil_of_le (by omega), vld]
    by_cases h : acc > 8192
    · rw [if_pos (by simpa using h), if_pos h]
    · rw [if_neg (by simpa using h), if_neg h, qTl _ (by omega)]
      simp only [Option.bind_some]
      by_cases h : qbw [] nm = true
      · rw [if_pos h, if_pos h]
      · rw [if_neg h, if_neg h]
  | k + 1, i, acc, nm, e, hl, a0, a1 => by
    have hl' : Int.ofNat rs.length = (rs.length : Int) := rfl
    obtain ⟨d1, d2, d3⟩ := qJa (qja qba : qaa) (xs := rs) (i := i) (by omega)
    rw [qRg, if_pos (by simp; omega), qea (by omega), qea (by rw [hl']; omega), Int.toNat_natCast, d1, vld]
    generalize hr : (List.getD rs i (qja qba) : qaa) = r at d3 ⊢
    rw [qdl _ (hR.2 r d3)]
    simp only [Option.bind_some, qkw]
    by_cases h1 : qxw r.1 = true
    · rw [if_neg (by simp [h1])]
      by_cases h2 : r.2.1 < 0
      · rw [if_pos (by simpa using h2), if_pos (by simp [qzw, h2])]
      · rw [if_neg (by simpa using h2)]
        by_cases h3 : r.2.1 > 8192
        · rw [if_pos (by simpa using h3), if_pos (by simp [qzw, h3])]
        · rw [if_neg (by simpa using h3)]
          have ih := qjv rs hR hn k (i + 1) (acc + r.2.1) (nm ++ [r.1]) (by omega) (by simp; omega) (by omega) (by omega)
          rw [show ((i + 1 : Nat) : Int) = (i : Int) + 1 by omega] at ih
          rw [w64 (x := (i : Int) + 1) (by omega) (by omega), w64 (x := acc + r.2.1) (by omega) (by omega), ih]
          by_cases h4 : r.2.1 = 0
          · rw [if_pos (by simp [h4])]
            by_cases h5 : peq (.arr 20 (.int .u8)) r.2.2.1 (qjh []) = true
            · rw [if_neg (by simp [h5]), qea (by simp; omega), if_neg (by simp [qzw, h1, h4, h5])]
            · rw [if_pos (by simpa using h5), if_pos (by simp [qzw, h4, h5])]
          · rw [if_neg (by simpa using h4), qea (by simp; omega), if_neg (by simp [qzw, h1, h4]; omega)]
    · rw [if_pos (by simpa using h1), if_pos (by simp [qzw, h1])]
theorem qzc (rs : List qaa) (hR : RecsOK rs) : qpd rs = some (qoe rs) := by
  have hl : Int.ofNat rs.length = (rs.length : Int) := rfl
  rw [qro, hl, qoe]
  by_cases h : rs.length > 16
  · rw [if_pos (by simp; omega), if_pos h]
  · rw [if_neg (by simp; omega), if_neg h]
    exact qjv rs hR (by omega) rs.length 0 0 [] (by omega) rfl (by omega) (by omega)
def names (rs : List qaa) : List ByteArray := rs.map (·.1)
theorem qDx {x : ByteArray} {xs : List ByteArray} {j i : Nat} (h : j < i) (hi : i ≤ xs.length) : qNv x ((xs.take i).drop j) = (decide (x = xs.getD j ByteArray.empty) || qNv x ((xs.take i).drop (j + 1))) := by
  have hl : j < (xs.take i).length := by rw [List.length_take]; omega
  have e : xs.getD j ByteArray.empty = (xs.take i)[j] := by
    rw [List.getD_eq_getElem?_getD, List.getElem_take, List.getElem?_eq_getElem (by omega)]; rfl
  rw [List.drop_eq_getElem_cons hl, e]
  simp [qNv]
def tot : List qaa → Int
  | [] => 0
  | r :: rest => r.2.1 + tot rest
structure RecsV (rs : List qaa) : Prop where
  len : rs.length ≤ 16
  each : ∀ r ∈ rs, 0 ≤ r.2.1 ∧ r.2.1 ≤ 8192 ∧ r.1.size ≤ 40
  tot : tot rs ≤ 8192
theorem qfu : ∀ (rs : List qaa) (acc : Int) (nm : List ByteArray), vld acc nm rs = 0 → (∀ r ∈ rs, 0 ≤ r.2.1 ∧ r.2.1 ≤ 8192 ∧ r.1.size ≤ 40) ∧ acc + tot rs ≤ 8192
  | [], acc, nm, h => by
    simp only [vld] at h
    by_cases h1 : acc > 8192
    · rw [if_pos h1] at h; omega
    · exact ⟨fun r hr => (by cases hr), by simp only [tot]; omega⟩
  | r :: rest, acc, nm, h => by
    simp only [vld] at h
    by_cases hb : qzw r = true
    · rw [if_pos hb] at h; omega
    · rw [if_neg hb] at h
      obtain ⟨h1, h2⟩ := qfu rest _ _ h
      simp only [qzw, qxw, Bool.or_eq_true, Bool.not_eq_true', Bool.and_eq_false_iff, decide_eq_true_eq, decide_eq_false_iff_not, not_or] at hb
      refine ⟨fun q hq => ?_, by simp only [tot]; omega⟩
      rcases List.mem_cons.1 hq with rfl | hq
      · have := hb.1.1.1.2
        exact ⟨by omega, by omega, by omega⟩
      · exact h1 q hq
theorem qxc {rs : List qaa} (h : qoe rs = 0) : RecsV rs := by
  unfold qoe at h
  split at h
  · omega
  · obtain ⟨h1, h2⟩ := qfu rs 0 [] h
    exact ⟨by omega, h1, by omega⟩
instance (h : qga) : Decidable (hOK h) := by unfold hOK; infer_instance
def isP (h : qga) (p : qfa) : Prop := h.2.1 = p.1 ∧ h.2.2.1 = p.2.1 ∧ h.2.2.2.1 = p.2.2.1
instance (h : qga) (p : qfa) : Decidable (isP h p) := by unfold isP; infer_instance
open Classical
open Classical
abbrev iEq : Int → Int → Bool := peq (.int .i64)
theorem qQq (a b : Int) : iEq a b = true ↔ a = b := by simp [peq]
def Rt (m : List (Int × Bool)) (t : List Bool) : Prop := (∀ x : Int, (qTm iEq x m).isSome = true ↔ 0 ≤ x ∧ x < (t.length : Int) ∧ t.getD x.toNat false = true) ∧ m.length = t.countP id
theorem qJu {α β : Type} {eq : α → α → Bool} (h : ∀ a b, eq a b = true ↔ a = b) (x : α) (v : β) : ∀ m : List (α × β), (qUr eq x v m).length = m.length + if (qTm eq x m).isSome then 0 else 1
  | [] => by simp [qUr, qTm]
  | e :: r => by
    have ih := qJu h x v r
    by_cases hx : eq x e.1 = true
    · have h1 : qUr eq x v (e :: r) = (x, v) :: r := if_pos hx
      have h2 : qTm eq x (e :: r) = some e.2 := if_pos hx
      rw [h1, h2]; simp
    · have h1 : qUr eq x v (e :: r) = e :: qUr eq x v r := if_neg hx
      have h2 : qTm eq x (e :: r) = qTm eq x r := if_neg hx
      rw [h1, h2]
      simp only [List.length_cons, ih]; omega
theorem qBs : ∀ (t : List Bool) (i : Nat), i < t.length → (t.set i true).countP id = t.countP id + if t.getD i false then 0 else 1
  | [], i, h => by simp at h
  | b :: t, 0, h => by cases b <;> simp
  | b :: t, i + 1, h => by
    have := qBs t i (by simpa using h)
    simp only [List.set_cons_succ, List.countP_cons, List.getD_cons_succ, this]; omega
theorem Rt.set {m : List (Int × Bool)} {t : List Bool} (h : Rt m t) {i : Nat} (hi : i < t.length) : Rt (qUr iEq (i : Int) true m) (t.set i true) := by
  refine ⟨fun x => ?_, ?_⟩
  · rw [qmo qQq, List.length_set]
    by_cases hx : x = (i : Int)
    · rw [if_pos ((qQq _ _).2 hx), hx, Int.toNat_natCast, List.getD_eq_getElem?_getD, List.getElem?_set_self hi]
      simp; omega
    · rw [if_neg (fun k => hx ((qQq _ _).1 k)), h.1 x]
      constructor
      · rintro ⟨a, b, c⟩
        refine ⟨a, b, ?_⟩
        rw [List.getD_eq_getElem?_getD, List.getElem?_set_ne (by omega), ← List.getD_eq_getElem?_getD]; exact c
      · rintro ⟨a, b, c⟩
        refine ⟨a, b, ?_⟩
        rw [List.getD_eq_getElem?_getD, List.getElem?_set_ne (by omega), ← List.getD_eq_getElem?_getD] at c; exact c
  · rw [qJu qQq, qBs t i hi, h.2]
    congr 1
    have := h.1 (i : Int)
    rw [Int.toNat_natCast] at this
    by_cases hs : t.getD i false = true
    · rw [if_pos (this.2 ⟨by omega, by omega, hs⟩), if_pos hs]
    · rw [if_neg (fun k => hs (this.1 k).2.2), if_neg hs]
theorem Rt.nil (n : Nat) : Rt [] (List.replicate n false) := by
  refine ⟨fun x => ?_, by simp [List.countP_replicate]⟩
  simp only [qTm, Option.isSome_none, Bool.false_eq_true, false_iff, not_and, List.length_replicate]
  intro _ _
  rw [List.getD_eq_getElem?_getD, List.getElem?_replicate]
  split <;> simp
open Classical
theorem qZy (a : List Int) : peq (.arr 20 (.int .u8)) a a = true := by
  simp only [peq]
  exact qXn (fun y => by simp) _
def chk (a : qpa) : Int := if 0 ≤ a.1 ∧ a.1 ≤ 7 ∧ 16 ≤ a.2.1 ∧ a.2.1 ≤ 4096 then 0 else 2
theorem qkg (a : qpa) : qoh a = some (chk a) := by
  rw [qvq, chk]
  by_cases h1 : a.1 < 0
  · rw [if_pos (by simpa using h1), if_neg (by omega)]
  · rw [if_neg (by simpa using h1)]
    by_cases h2 : a.1 > 7
    · rw [if_pos (by simpa using h2), if_neg (by omega)]
    · rw [if_neg (by simpa using h2)]
      by_cases h3 : a.2.1 < 16
      · rw [if_pos (by simpa using h3), if_neg (by omega)]
      · rw [if_neg (by simpa using h3)]
        by_cases h4 : a.2.1 > 4096
        · rw [if_pos (by simpa using h4), if_neg (by omega)]
        · rw [if_neg (by simpa using h4), if_pos (by omega)]
def ask (a : qpa) (rs : List qaa) : Int := if chk a ≠ 0 then chk a else qoe rs
theorem qNz : ∀ (rs : List qaa), (∀ r ∈ rs, 0 ≤ r.2.1 ∧ r.2.1 ≤ 8192 ∧ r.1.size ≤ 40) → 0 ≤ tot rs
  | [], _ => by simp [tot]
  | r :: rest, h => by
    have h1 := h r (by simp)
    have h2 := qNz rest (fun q hq => h q (by simp [hq]))
    simp only [tot]; omega
def pcs (i n s : Int) : Nat → Int → List qfa
  | 0, _ => []
  | k + 1, off => if off < n then (i, (off, ((if s < n - off then s else n - off), ()))) :: pcs i n s k (off + s) else []
theorem qYn (i n s : Int) (hs : 1 ≤ s) : ∀ (k : Nat) (off : Int), 0 ≤ n → off ≤ n → ((pcs i n s k off).length : Int) ≤ n - off
  | 0, off, _, h => by simp [pcs]; omega
  | k + 1, off, hn, h => by
    simp only [pcs]
    by_cases h1 : off < n
    · rw [if_pos h1]
      by_cases h2 : off + s ≤ n
      · have := qYn i n s hs k (off + s) hn h2
        simp only [List.length_cons]; omega
      · have : pcs i n s k (off + s) = [] := by
          cases k with
          | zero => rfl
          | succ k => simp only [pcs]; rw [if_neg (by omega)]
        rw [this]; simp; omega
    · rw [if_neg h1]; simp; omega
def ap (s : Int) : Int → List qaa → List qfa
  | _, [] => []
  | i, r :: rest => pcs i r.2.1 s 8200 0 ++ ap s (i + 1) rest
def szs (rs : List qaa) : List Int := rs.map (·.2.1)
theorem qGw (rs : List qaa) (i : Nat) (h : i < rs.length) : (szs rs).getD i 0 = (rs.getD i (qja qba)).2.1 := by
  unfold szs
  simp only [List.getD_eq_getElem?_getD, List.getElem?_map, List.getElem?_eq_getElem h, Option.map_some, Option.getD_some]
theorem qHh (rs : List qaa) : (szs rs).length = rs.length := by simp [szs]
theorem qNy (s i n : Int) (xs : List Int) (v23 v24 : Int) (hs : 16 ≤ s ∧ s ≤ 4096) (hn : 0 ≤ n ∧ n ≤ 8192) (k : Nat) : ∀ (off : Int) (h : List qfa), n - off ≤ k → 0 ≤ off → off ≤ 13000 → (h.length : Int) + (k : Int) ≤ 1000000 →
    que s i n off xs v23 v24 h = qid s xs v23 (IntKind.wrap .i64 (v24 + 1)) (h ++ pcs i n s k off) := by
  induction k with
  | zero =>
    intro off h e h0 h1 hl
    have hc : ¬ off < n := by omega
    rw [qIg, if_neg (by simpa using hc)]
    simp only [pcs, List.append_nil]
  | succ k ih =>
    intro off h e h0 h1 hl
    rw [qIg]
    by_cases hc : off < n
    · rw [if_pos (by simpa using hc), qea (by simp; omega), w64 (x := n - off) (by omega) (by omega), w64 (x := off + s) (by omega) (by omega)]
      rw [ih (off + s) _ (by omega) (by omega) (by omega) (by simp; omega)]
      simp only [pcs, if_pos hc, List.append_assoc, List.singleton_append]
    · rw [if_neg (by simpa using hc)]
      simp only [pcs, if_neg hc, List.append_nil]
theorem qMs (s : Int) (rs : List qaa) (hs : 16 ≤ s ∧ s ≤ 4096) (hR : RecsV rs) : ∀ (k i : Nat) (h : List qfa), i + k = rs.length → (h.length : Int) ≤ 8192 * i →
    qid s (szs rs) (rs.length : Int) (i : Int) h = some (h ++ ap s i (rs.drop i), 0)
  | 0, i, h, e, hl => by
    rw [qJg, if_neg (by simp; omega), List.drop_eq_nil_of_le (by omega)]
    simp [ap]
  | k + 1, i, h, e, hl => by
    have hlen := hR.len
    obtain ⟨d1, d2, d3⟩ := qJa (qja qba : qaa) (xs := rs) (i := i) (by omega)
    have hl' : Int.ofNat (szs rs).length = (rs.length : Int) := by rw [qHh]; rfl
    have hv := hR.each _ d3
    rw [qJg, if_pos (by simp; omega), qea (by omega), qea (by rw [hl']; omega), Int.toNat_natCast, qGw rs i (by omega)]
    rw [qNy s i _ (szs rs) _ _ hs ⟨hv.1, hv.2.1⟩ 8200 0 h (by omega) (by omega) (by omega) (by omega), w64 (by omega) (by omega)]
    have hp := qYn (i : Int) (rs.getD i (qja qba)).2.1 s (by omega) 8200 0 hv.1 hv.1
    have ih := qMs s rs hs hR k (i + 1) (h ++ pcs (i : Int) (rs.getD i (qja qba)).2.1 s 8200 0) (by omega) (by rw [List.length_append]; omega)
    rw [show ((i + 1 : Nat) : Int) = (i : Int) + 1 by omega] at ih
    rw [ih, d1, ap, List.append_assoc]
theorem qkv (xs : List Int) (hx : ∀ x ∈ xs, 0 ≤ x) (hl : xs.length ≤ 1000) : ∀ (k i : Nat), i + k = xs.length → qob xs (xs.length : Int) (i : Int) = some (-1)
  | 0, i, e => by rw [qEc, if_neg (by simp; omega)]
  | k + 1, i, e => by
    have hl' : Int.ofNat xs.length = (xs.length : Int) := rfl
    obtain ⟨d1, d2, d3⟩ := qJa (0 : Int) (xs := xs) (i := i) (by omega)
    have := hx _ d3
    have ih := qkv xs hx hl k (i + 1) (by omega)
    rw [show ((i + 1 : Nat) : Int) = (i : Int) + 1 by omega] at ih
    rw [qEc, if_pos (by simp; omega), qea (by omega), qea (by rw [hl']; omega), Int.toNat_natCast, qPm]
    simp only [Option.bind_some]
    rw [if_neg (by simp only [decide_eq_true_eq]; omega), w64 (by omega) (by omega), ih]
theorem qbv (rs : List qaa) (hR : RecsV rs) : ∀ (k i : Nat) (acc : Int), i + k = rs.length → 0 ≤ acc → acc + tot (rs.drop i) ≤ 8192 → qjf acc (szs rs) (rs.length : Int) (i : Int) = some 0
  | 0, i, acc, e, h0, h1 => by rw [qlh, if_neg (by simp; omega)]
  | k + 1, i, acc, e, h0, h1 => by
    have hlen := hR.len
    have hl' : Int.ofNat (szs rs).length = (rs.length : Int) := by rw [qHh]; rfl
    obtain ⟨d1, d2, d3⟩ := qJa (qja qba : qaa) (xs := rs) (i := i) (by omega)
    have hv := hR.each _ d3
    have ht := qNz (rs.drop (i + 1)) (fun r hr => hR.each r (List.mem_of_mem_drop hr))
    rw [d1, tot] at h1
    rw [qlh, if_pos (by simp; omega), qea (by omega), qea (by rw [hl']; omega), Int.toNat_natCast, qGw rs i (by omega)]
    rw [if_neg (show ¬ (8193 : Int) < (rs.getD i (qja qba)).2.1 by omega), w64 (by omega) (by omega), if_neg (by simp only [decide_eq_true_eq]; omega), w64 (by omega) (by omega)]
    have ih := qbv rs hR k (i + 1) (acc + (rs.getD i (qja qba)).2.1) (by omega) (by omega) (by omega)
    rw [show ((i + 1 : Nat) : Int) = (i : Int) + 1 by omega] at ih
    exact ih
theorem qZt (s : Int) (rs : List qaa) (hs : 16 ≤ s ∧ s ≤ 4096) (hR : RecsV rs) : qCi (szs rs) s = some (ap s 0 rs, 0) := by
  have hlen := hR.len
  have hl' : Int.ofNat (szs rs).length = (rs.length : Int) := by rw [qHh]; rfl
  have hc : qnk (szs rs) = some 0 := by
    have hi := qkv (szs rs) (fun x hx => by
      obtain ⟨r, hr, rfl⟩ := List.mem_map.1 hx
      exact (hR.each r hr).1) (by rw [qHh]; omega) (szs rs).length 0 (by omega)
    have hi' : qyc (szs rs) = some (-1) := by rw [qgg]; exact hi
    rw [qop, qxf, hi']
    simp only [Option.bind_some]
    rw [if_neg (by simp), hl', if_neg (by simp; omega)]
    exact qbv rs hR rs.length 0 0 (by omega) (by omega) (by have := hR.tot; simp; omega)
  rw [qGn, hc]
  simp only [Option.bind_some]
  rw [if_neg (by simp), if_neg (by simp; omega), if_neg (by simp; omega), hl']
  exact qMs s rs hs hR rs.length 0 [] (by omega) (by simp)
theorem qnx (i n s : Int) : ∀ (k : Nat) (off : Int), (pcs i n s k off).length = (pcs 0 n s k off).length
  | 0, off => rfl
  | k + 1, off => by
    simp only [pcs]
    by_cases h : off < n
    · rw [if_pos h, if_pos h]; simp only [List.length_cons, qnx i n s k]
    · rw [if_neg h, if_neg h]
def pcn (s : Int) (r : qaa) : Int := ((pcs 0 r.2.1 s 8200 0).length : Int)
def qUA (s : Int) (rs : List qaa) : List Int := rs.map (pcn s)
def qaz : List Int → Int
  | [] => 0
  | x :: r => x + qaz r
theorem qtA (s : Int) : ∀ (rs : List qaa) (i : Int), ((ap s i rs).length : Int) = qaz (qUA s rs)
  | [], i => rfl
  | r :: rest, i => by
    have := qtA s rest (i + 1)
    simp only [ap, List.length_append, qUA, List.map_cons, qaz, qnx i, pcn] at this ⊢
    omega
theorem qRB (s : Int) (hs : 16 ≤ s) (rs : List qaa) (hR : RecsV rs) : ∀ x ∈ qUA s rs, 0 ≤ x ∧ x ≤ 9000 := by
  intro x hx
  obtain ⟨r, hr, rfl⟩ := List.mem_map.1 hx
  have hv := hR.each r hr
  have := qYn 0 r.2.1 s (by omega) 8200 0 hv.1 hv.1
  unfold pcn
  omega
theorem qqr (s : Int) (hs : 16 ≤ s) (rs : List qaa) (hR : RecsV rs) : ((ap s 0 rs).length : Int) ≤ 100000 := by
  have h1 := qtA s rs 0
  have h2 : ∀ xs : List Int, (∀ x ∈ xs, 0 ≤ x ∧ x ≤ 9000) → qaz xs ≤ 9000 * (xs.length : Int) := by
    intro xs
    induction xs with
    | nil => intro _; simp [qaz]
    | cons x xs ih =>
      intro h
      have := h x (by simp)
      have := ih (fun y hy => h y (by simp [hy]))
      simp only [qaz, List.length_cons]; omega
  have h3 := h2 (qUA s rs) (qRB s hs rs hR)
  have h4 := hR.tot
  have h5 : ∀ rs : List qaa, (∀ r ∈ rs, 0 ≤ r.2.1 ∧ r.2.1 ≤ 8192 ∧ r.1.size ≤ 40) → qaz (qUA s rs) ≤ tot rs := by
    intro rs
    induction rs with
    | nil => intro _; simp [qUA, qaz, tot]
    | cons r rs ih =>
      intro h
      have hv := h r (by simp)
      have := ih (fun y hy => h y (by simp [hy]))
      have hp := qYn 0 r.2.1 s (by omega) 8200 0 hv.1 hv.1
      simp only [qUA, List.map_cons, qaz, tot, pcn] at this ⊢
      omega
  have := h5 rs hR.each
  omega
def qzt : List qaa → Int
  | [] => 0
  | r :: rest => 23 + (r.1.size : Int) + qzt rest
theorem qOu : ∀ (rs : List qaa), (∀ r ∈ rs, 0 ≤ r.2.1 ∧ r.2.1 ≤ 8192 ∧ r.1.size ≤ 40) → 0 ≤ qzt rs ∧ qzt rs ≤ 100 * (rs.length : Int)
  | [], _ => by simp [qzt]
  | r :: rest, h => by
    have h1 := h r (by simp)
    have h2 := qOu rest (fun q hq => h q (by simp [hq]))
    simp only [qzt, List.length_cons]; omega
def qJr (r : qaa) : List Int := (([IntKind.wrap .u8 (r.1.size : Int)] ++ qDb r.1) ++ [IntKind.wrap .u8 (Int.fdiv r.2.1 256), IntKind.wrap .u8 r.2.1]) ++ List.take 20 (List.drop 0 r.2.2.1)
def qCb : List qaa → List Int
  | [] => []
  | r :: rest => qJr r ++ qCb rest
def qRo (a : qpa) (n : Int) : List Int := [66, 76, 70, 1, IntKind.wrap .u8 a.1, IntKind.wrap .u8 (Int.fdiv a.2.1 256), IntKind.wrap .u8 a.2.1, IntKind.wrap .u8 n]
def qte (a : qpa) (rs : List qaa) : List Int := qRo a rs.length ++ qCb rs
def qDf (a : qpa) (rs : List qaa) : List Int := qte a rs ++ qjh (qte a rs)
def SumsOK (rs : List qaa) : Prop := ∀ r ∈ rs, r.2.2.1.length = 20 ∧ Bts r.2.2.1
theorem qSr (s : ByteArray) : Bts (qDb s) := by
  intro x hx
  obtain ⟨b, _, rfl⟩ := List.mem_map.1 hx
  have := b.toNat_lt
  omega
theorem qQh (r : qaa) (h : r.2.2.1.length = 20) : (qJr r).length = 23 + r.1.size := by
  simp only [qJr, List.length_append, List.length_cons, List.length_nil, qzf, List.length_take, List.drop_zero, h]
  omega
theorem qhz (r : qaa) (h : Bts r.2.2.1) : Bts (qJr r) :=
  Bts.append (Bts.append (Bts.append (Bts.cons (qrB _) Bts.nil) (qSr _)) (Bts.cons (qrB _) (Bts.cons (qrB _) Bts.nil))) ((h.drop 0).take 20)
theorem qNi : ∀ (rs : List qaa), SumsOK rs → ((qCb rs).length : Int) = qzt rs
  | [], _ => rfl
  | r :: rest, h => by
    have h1 := qQh r (h r (by simp)).1
    have h2 := qNi rest (fun q hq => h q (by simp [hq]))
    simp only [qCb, qzt, List.length_append]
    omega
theorem qIr : ∀ (rs : List qaa), SumsOK rs → Bts (qCb rs)
  | [], _ => Bts.nil
  | r :: rest, h => (qhz r (h r (by simp)).2).append (qIr rest (fun q hq => h q (by simp [hq])))
theorem qXv (a : qpa) (n : Int) : Bts (qRo a n) := by
  unfold qRo
  repeat first | exact Bts.nil | refine Bts.cons (qrB _) ?_ | refine Bts.cons (by omega) ?_
theorem qHs (a : qpa) (rs : List qaa) (h : SumsOK rs) : Bts (qte a rs) := (qXv _ _).append (qIr rs h)
theorem qOx (a : qpa) (rs : List qaa) (h : SumsOK rs) : Bts (qDf a rs) := (qHs a rs h).append (qlu _)
theorem qNx (a : qpa) (rs : List qaa) (h : SumsOK rs) : ((qDf a rs).length : Int) = 28 + qzt rs := by
  have := qNi rs h
  simp only [qDf, qte, List.length_append, qkf]
  have : (qRo a rs.length).length = 8 := rfl
  omega
theorem qiv (rs : List qaa) (hR : RecsV rs) (hS : SumsOK rs) : ∀ (k i : Nat) (h : List Int), i + k = rs.length → (h.length : Int) ≤ 100 * i → qAe rs (rs.length : Int) (i : Int) h = some (h ++ qCb (rs.drop i), 0)
  | 0, i, h, e, hl => by
    rw [qQg, if_neg (by simp; omega), List.drop_eq_nil_of_le (by omega)]; simp [qCb]
  | k + 1, i, h, e, hl => by
    have hlen := hR.len
    have hl' : Int.ofNat rs.length = (rs.length : Int) := rfl
    obtain ⟨d1, d2, d3⟩ := qJa (qja qba : qaa) (xs := rs) (i := i) (by omega)
    have hv := hR.each _ d3
    have hs := hS _ d3
    have hb := qQh _ hs.1
    rw [qQg, if_pos (by simp; omega), qea (by omega), qea (by rw [hl']; omega), Int.toNat_natCast]
    generalize (rs.getD i (qja qba) : qaa) = r at *
    have e1 : (((h ++ [IntKind.wrap .u8 (Int.ofNat r.1.size)]) ++ qDb r.1) ++ [IntKind.wrap .u8 (Int.fdiv r.2.1 256), IntKind.wrap .u8 r.2.1]) ++ List.take 20 (List.drop 0 r.2.2.1) = h ++ qJr r := by
      simp only [qJr, List.append_assoc]; rfl
    have ho := qzf r.1
    rw [qea (by simp only [List.length_append, List.length_cons, List.length_nil]; omega), qea (by simp only [List.length_append, List.length_cons, List.length_nil]; omega), qea (by omega), qea (by simp only [List.length_append, List.length_cons, List.length_nil]; omega), e1, qea (by rw [List.length_append]; omega), w64 (by omega) (by omega)]
    have ih := qiv rs hR hS k (i + 1) (h ++ qJr r) (by omega) (by rw [List.length_append]; omega)
    rw [show ((i + 1 : Nat) : Int) = (i : Int) + 1 by omega] at ih
    rw [ih, d1, qCb, List.append_assoc]
theorem qUl (rs : List qaa) (hR : RecsOK rs) (hS : SumsOK rs) : qTi rs = some (if qoe rs ≠ 0 then ([], qoe rs) else (qCb rs, 0)) := by
  rw [qqo, qzc rs hR]
  simp only [Option.bind_some]
  by_cases h : qoe rs = 0
  · rw [if_neg (by simp [h]), if_neg (by simp [h])]
    exact qiv rs (qxc h) hS rs.length 0 [] (by omega) (by simp)
  · rw [if_pos (by simpa using h), if_pos h]
theorem qYj (a : qpa) (rs : List qaa) (hR : RecsOK rs) (hS : SumsOK rs) : qZk a rs = some (if ask a rs ≠ 0 then ([], ask a rs) else (qDf a rs, 0)) := by
  rw [qPr, qkg, qUl rs hR hS]
  simp only [Option.bind_some]
  by_cases h : chk a = 0
  · rw [if_neg (by simp [h])]
    have ha : ask a rs = qoe rs := by unfold ask; rw [if_neg (by simp [h])]
    by_cases hv : qoe rs = 0
    · rw [if_neg (show ¬ qoe rs ≠ 0 by simp [hv]), if_neg (by simp), if_neg (by rw [ha]; simp [hv])]
      have hV := qxc hv
      have hlen := hV.len
      have hb := qOu rs hV.each
      have hr := qNi rs hS
      have hbl : (qte a rs).length = 8 + (qCb rs).length := by simp only [qte, List.length_append]; rfl
      have e1 : [(66 : Int), 76, 70, 1, IntKind.wrap .u8 a.1, IntKind.wrap .u8 (Int.fdiv a.2.1 256), IntKind.wrap .u8 a.2.1, IntKind.wrap .u8 (Int.ofNat rs.length)] ++ qCb rs = qte a rs := rfl
      simp only
      rw [qea (by omega), e1, qea (by omega), qtn _ (qHs a rs hS), if_pos (by omega)]
      simp only [Option.bind_some]
      have e2 : List.take 20 (List.drop 0 (qjh (qte a rs))) = qjh (qte a rs) := by
        rw [List.drop_zero, List.take_of_length_le (by rw [qkf]; omega)]
      rw [e2, qea (by rw [List.length_append, qkf]; omega)]
      rfl
    · rw [if_pos hv, if_pos (by simpa using hv), if_pos (by rw [ha]; exact hv), ha]
  · have ha : ask a rs = chk a := by unfold ask; rw [if_pos h]
    rw [if_pos (by simpa using h), if_pos (by rw [ha]; exact h), ha]
theorem qpv (rs : List qaa) (hR : RecsV rs) (hS : SumsOK rs) : ∀ (k i : Nat) (h : List Int), i + k = rs.length → (h.length : Int) ≤ 100 * i → qpc rs (i : Int) h = some (h ++ qCb (rs.drop i))
  | 0, i, h, e, hl => by
    have hl' : Int.ofNat rs.length = (rs.length : Int) := rfl
    rw [qne, if_neg (by simp; omega), List.drop_eq_nil_of_le (by omega)]; simp [qCb]
  | k + 1, i, h, e, hl => by
    have hlen := hR.len
    have hl' : Int.ofNat rs.length = (rs.length : Int) := rfl
    obtain ⟨d1, d2, d3⟩ := qJa (qja qba : qaa) (xs := rs) (i := i) (by omega)
    have hv := hR.each _ d3
    have hs := hS _ d3
    have hb := qQh _ hs.1
    rw [qne, if_pos (by simp; omega), qea (by omega), qea (by rw [hl']; omega), Int.toNat_natCast]
    generalize (rs.getD i (qja qba) : qaa) = r at *
    have e1 : (((h ++ [IntKind.wrap .u8 (Int.ofNat r.1.size)]) ++ qDb r.1) ++ [IntKind.wrap .u8 (Int.fdiv r.2.1 256), IntKind.wrap .u8 r.2.1]) ++ List.take 20 (List.drop 0 r.2.2.1) = h ++ qJr r := by
      simp only [qJr, List.append_assoc]; rfl
    have ho := qzf r.1
    rw [qea (by simp only [List.length_append, List.length_cons, List.length_nil]; omega), qea (by simp only [List.length_append, List.length_cons, List.length_nil]; omega), qea (by omega), qea (by simp only [List.length_append, List.length_cons, List.length_nil]; omega), e1, qea (by rw [List.length_append]; omega), w64 (by omega) (by omega)]
    have ih := qpv rs hR hS k (i + 1) (h ++ qJr r) (by omega) (by rw [List.length_append]; omega)
    rw [show ((i + 1 : Nat) : Int) = (i : Int) + 1 by omega] at ih
    rw [ih, d1, qCb, List.append_assoc]
theorem qTn (a : qpa) (rs : List qaa) (hR : RecsV rs) (hS : SumsOK rs) : qKb a rs = some (qDf a rs) := by
  have hb := qOu rs hR.each
  have hlen := hR.len
  have hr := qNi rs hS
  have hbl : (qte a rs).length = 8 + (qCb rs).length := by simp only [qte, List.length_append]; rfl
  have h1 : qMe rs = some (qCb rs) := by
    rw [qlj]; exact qpv rs hR hS rs.length 0 [] (by omega) (by simp)
  rw [qij, qhj, qea (by omega), h1]
  simp only [Option.bind_some]
  have e1 : [(66 : Int), 76, 70, 1, IntKind.wrap .u8 a.1, IntKind.wrap .u8 (Int.fdiv a.2.1 256), IntKind.wrap .u8 a.2.1, IntKind.wrap .u8 (Int.ofNat rs.length)] ++ qCb rs = qte a rs := rfl
  rw [e1, qea (by omega), qau _ (by omega)]
  simp only [Option.bind_some]
  have e2 : List.take 20 (List.drop 0 (qjh (qte a rs))) = qjh (qte a rs) := by
    rw [List.drop_zero, List.take_of_length_le (by rw [qkf]; omega)]
  rw [e2, qea (by rw [List.length_append, qkf]; omega)]
  rfl
instance (h : qga) : Decidable (hOK h) := by unfold hOK; infer_instance
theorem qck (a : qpa) (rs : List qaa) (hs : 16 ≤ a.2.1 ∧ a.2.1 ≤ 4096) (hR : RecsV rs) : ∀ (k i : Nat), i + k = rs.length → qpf rs (rs.length : Int) (i : Int) a (szs (rs.take i)) = some (ap a.2.1 0 rs)
  | 0, i, e => by
    rw [qth, if_neg (by simp; omega), List.take_of_length_le (by omega), qZt _ rs hs hR]; rfl
  | k + 1, i, e => by
    have hlen := hR.len
    have hl' : Int.ofNat rs.length = (rs.length : Int) := rfl
    obtain ⟨d1, d2, d3⟩ := qJa (qja qba : qaa) (xs := rs) (i := i) (by omega)
    have hz : szs (List.take i rs) ++ [(List.getD rs i (qja qba)).2.1] = szs (List.take (i + 1) rs) := by rw [d2]; simp [szs]
    have ih := qck a rs hs hR k (i + 1) (by omega)
    rw [show ((i + 1 : Nat) : Int) = (i : Int) + 1 by omega] at ih
    rw [qth, if_pos (by simp; omega), qea (by omega), qea (by rw [hl']; omega), Int.toNat_natCast, hz, qea (by rw [qHh, List.length_take]; omega), w64 (by omega) (by omega), ih]
theorem qli (a : qpa) (rs : List qaa) (hs : 16 ≤ a.2.1 ∧ a.2.1 ≤ 4096) (hR : RecsV rs) : qXh a rs = some (ap a.2.1 0 rs) := by
  rw [qzp]; exact qck a rs hs hR rs.length 0 (by omega)
theorem qZo {a : qpa} (h : chk a = 0) : 16 ≤ a.2.1 ∧ a.2.1 ≤ 4096 := by
  unfold chk at h
  split at h <;> omega
instance (h : qga) (p : qfa) : Decidable (isP h p) := by unfold isP; infer_instance
theorem qEm (h : qga) (p : qfa) : qHq h p = some (decide (isP h p)) := by
  rw [qQv]
  congr 1
  simp only [peq, Bool.and_true]
  rw [Bool.eq_iff_iff, decide_eq_true_eq]
  simp only [Bool.and_eq_true, decide_eq_true_eq]
  exact Iff.rfl
def ckL : List qga → List qfa → Int
  | h :: hs, p :: ps => if hOK h ∧ isP h p then ckL hs ps else 8
  | _, _ => 0
def lck (l : qua) : Int :=
  if chk l.1 ≠ 0 then 8 else if qoe l.2.1 ≠ 0 then 8 else if (ap l.1.2.1 0 l.2.1).length ≠ l.2.2.1.length then 8 else ckL l.2.2.1 (ap l.1.2.1 0 l.2.1)
theorem qgs (hs : List qga) (ps : List qfa) (hl : hs.length = ps.length) (hb : hs.length ≤ 1000000) : ∀ (k i : Nat), i + k = hs.length → qTf hs (hs.length : Int) (i : Int) ps = some (ckL (hs.drop i) (ps.drop i))
  | 0, i, e => by
    rw [qni, if_neg (by simp; omega), List.drop_eq_nil_of_le (by omega)]; rfl
  | k + 1, i, e => by
    have hl' : Int.ofNat hs.length = (hs.length : Int) := rfl
    have hl2 : Int.ofNat ps.length = (ps.length : Int) := rfl
    obtain ⟨d1, d2, d3⟩ := qJa (qja qta : qga) (xs := hs) (i := i) (by omega)
    obtain ⟨p1, p2, p3⟩ := qJa (qja qda : qfa) (xs := ps) (i := i) (by omega)
    have ih := qgs hs ps hl hb k (i + 1) (by omega)
    rw [show ((i + 1 : Nat) : Int) = (i : Int) + 1 by omega] at ih
    rw [qni, if_pos (by simp; omega), qea (by omega), qea (by rw [hl']; omega), Int.toNat_natCast, Nat.zero_add, qzd]
    simp only [Option.bind_some, qWA]
    rw [d1, p1, ckL]
    generalize hs.getD i (qja qta) = h0
    generalize ps.getD i (qja qda) = p0
    by_cases h1 : hOK h0
    · rw [if_neg (by simpa using h1), qea (by omega), qea (by rw [hl2]; omega), qEm]
      simp only [Option.bind_some]
      by_cases h2 : isP h0 p0
      · rw [if_neg (by simp [h2]), if_pos ⟨h1, h2⟩, w64 (by omega) (by omega), ih]
      · rw [if_pos (by simp [h2]), if_neg (fun h => h2 h.2)]
    · rw [if_pos h1, if_neg (fun h => h1 h.1)]
theorem qEo (l : qua) (hR : RecsOK l.2.1) : qam l = some (lck l) := by
  rw [qLq, qkg, qzc _ hR]
  simp only [Option.bind_some, lck]
  by_cases hc : chk l.1 = 0
  · rw [if_neg (by simp [hc]), if_neg (show ¬ chk l.1 ≠ 0 by simp [hc])]
    by_cases hv : qoe l.2.1 = 0
    · have h16 := qZo hc
      have hV := qxc hv
      rw [if_neg (by simp [hv]), if_neg (show ¬ qoe l.2.1 ≠ 0 by simp [hv]), qli l.1 l.2.1 h16 hV]
      simp only [Option.bind_some]
      have hsm := qqr l.1.2.1 h16.1 l.2.1 hV
      by_cases hl : (ap l.1.2.1 0 l.2.1).length = l.2.2.1.length
      · rw [if_neg (by simp [hl]), if_neg (show ¬ (ap l.1.2.1 0 l.2.1).length ≠ l.2.2.1.length by simp [hl])]
        exact qgs l.2.2.1 _ hl.symm (by omega) l.2.2.1.length 0 (by omega)
      · rw [if_pos (by simp; omega), if_pos hl]
    · rw [if_pos (by simpa using hv), if_pos hv]
  · rw [if_pos (by simpa using hc), if_pos hc]
theorem qav : ∀ (hs : List qga) (ps : List qfa), hs.length = ps.length → ckL hs ps = 0 → ∀ h ∈ hs, hOK h
  | [], _, _, _, h, hh => by cases hh
  | h :: hs, [], hl, _, _, _ => by simp at hl
  | h :: hs, p :: ps, hl, hc, x, hx => by
    simp only [ckL] at hc
    split at hc
    · rename_i hok
      rcases List.mem_cons.1 hx with rfl | hx
      · exact hok.1
      · exact qav hs ps (by simpa using hl) hc x hx
    · omega
structure LstV (l : qua) : Prop where
  blk : 16 ≤ l.1.2.1 ∧ l.1.2.1 ≤ 4096
  chk : chk l.1 = 0
  val : qoe l.2.1 = 0
  recs : RecsV l.2.1
  len : l.2.2.1.length = (ap l.1.2.1 0 l.2.1).length
  hds : ∀ h ∈ l.2.2.1, hOK h
  ck : ckL l.2.2.1 (ap l.1.2.1 0 l.2.1) = 0
theorem qxz {l : qua} (h : lck l = 0) : LstV l := by
  unfold lck at h
  split at h
  · omega
  · rename_i hc
    split at h
    · omega
    · rename_i hv
      split at h
      · omega
      · rename_i hl
        simp only [ne_eq, Decidable.not_not] at hc hv hl
        exact ⟨qZo hc, hc, hv, qxc hv, hl.symm, qav _ _ hl.symm h, h⟩
theorem qSB {l : qua} : lck l = 0 ∨ lck l = 8 := by
  have h : ∀ hs ps, ckL hs ps = 0 ∨ ckL hs ps = 8 := by
    intro hs
    induction hs with
    | nil => intro ps; left; rfl
    | cons x xs ih =>
      intro ps
      cases ps with
      | nil => left; rfl
      | cons p ps => simp only [ckL]; split; exact ih ps; right; rfl
  unfold lck
  split; right; rfl
  split; right; rfl
  split; right; rfl
  exact h _ _
def plc : Int → List qga → List Int
  | _, [] => []
  | at_, h :: r => at_ :: plc (at_ + (41 + h.2.2.2.2.1)) r
theorem qzz {h : qga} (ok : hOK h) : 1 ≤ h.2.2.2.2.1 ∧ h.2.2.2.2.1 ≤ 4096 := by unfold hOK at ok; omega
theorem qdq (hs : List qga) (hh : ∀ h ∈ hs, hOK h) (hb : hs.length ≤ 1000000) : ∀ (k i : Nat) (at_ : Int) (out : List Int), i + k = hs.length → 0 ≤ at_ → at_ ≤ 100000 + 5000 * i → out.length = i → qqf at_ hs (hs.length : Int) (i : Int) out = some (out ++ plc at_ (hs.drop i), 0)
  | 0, i, at_, out, e, h0, h1, ho => by
    rw [quh, if_neg (by simp; omega), List.drop_eq_nil_of_le (by omega)]; simp [plc]
  | k + 1, i, at_, out, e, h0, h1, ho => by
    have hl' : Int.ofNat hs.length = (hs.length : Int) := rfl
    obtain ⟨d1, d2, d3⟩ := qJa (qja qta : qga) (xs := hs) (i := i) (by omega)
    have hv := qzz (hh _ d3)
    have ih := qdq hs hh hb k (i + 1) (at_ + (41 + (hs.getD i (qja qta)).2.2.2.2.1)) (out ++ [at_]) (by omega) (by omega) (by omega) (by simp; omega)
    rw [show ((i + 1 : Nat) : Int) = (i : Int) + 1 by omega] at ih
    rw [quh, if_pos (by simp; omega), qea (by omega), qea (by rw [hl']; omega), qea (by simp only [List.length_append, List.length_cons, List.length_nil]; omega), Int.toNat_natCast, w64 (x := 41 + _) (by omega) (by omega), w64 (x := (i : Int) + 1) (by omega) (by omega), w64 (by omega) (by omega), ih, d1, plc, List.append_assoc]
    rfl
def qKr (l : qua) : List Int := plc (28 + qzt l.2.1) l.2.2.1
theorem qmi (l : qua) (hR : RecsOK l.2.1) (hS : SumsOK l.2.1) : qZh l = some (if lck l = 0 then (qKr l, 0) else ([], 8)) := by
  rw [qAp, qEo l hR]
  simp only [Option.bind_some]
  rcases qSB (l := l) with h | h
  · have hL := qxz h
    have hsm := qqr l.1.2.1 hL.blk.1 l.2.1 hL.recs
    have hb := qOu l.2.1 hL.recs.each
    have hlen := hL.recs.len
    have hll := hL.len
    rw [if_neg (by simp [h]), if_pos h, qYj _ _ hR hS]
    have ha : ask l.1 l.2.1 = 0 := by unfold ask; rw [if_neg (by simp [hL.chk]), hL.val]
    rw [ha, if_neg (by simp)]
    simp only [Option.bind_some]
    have hh := qNx l.1 l.2.1 hS
    have hh' : Int.ofNat (qDf l.1 l.2.1).length = 28 + qzt l.2.1 := hh
    rw [hh']
    exact qdq l.2.2.1 hL.hds (by omega) l.2.2.1.length 0 _ [] (by omega) (by omega) (by omega) rfl
  · rw [if_pos (by simp [h]), h, if_neg (by decide)]
theorem qDu {x y : Int} (hx : 0 ≤ x ∧ x < 4294967296) (hy : 0 ≤ y ∧ y < 256) : qrc .i64 (x * 256) y = x * 256 + y := by
  obtain ⟨a, rfl⟩ := Int.eq_ofNat_of_zero_le hx.1
  obtain ⟨b, rfl⟩ := Int.eq_ofNat_of_zero_le hy.1
  exact qCu a b (by omega) (by omega)
theorem qdn (xs : List Int) (h : xs.length ≤ 1000000) : qvg xs = some xs := by
  rw [qkk]
  refine qfp false (by simp) (fun b hb => ?_)
  cases b with
  | true => rw [if_pos rfl, hb rfl]
  | false => rw [if_neg (by simp), qea (by simp; omega)]; simp
def rdB (a : List Int) : qca × Int × Int :=
  if a.length > 50000 then ((zH, ([], ())), (0, 4)) else if a.length < 41 then ((zH, ([], ())), (0, 18))
  else if a.take 13 ≠ mark ∨ ¬ hOK (pH ((a.drop 13).take 28)) then ((zH, ([], ())), (0, 12))
  else if (a.length : Int) < 41 + (pH ((a.drop 13).take 28)).2.2.2.2.1 then ((zH, ([], ())), (0, 18))
  else ((pH ((a.drop 13).take 28), ((a.drop 41).take (pH ((a.drop 13).take 28)).2.2.2.2.1.toNat, ())), (41 + (pH ((a.drop 13).take 28)).2.2.2.2.1, 0))
theorem qom (a : List Int) (hb : Bts a) : qEh a = some (rdB a) := by
  rw [qvl]
  unfold rdB
  by_cases h1 : a.length > 50000
  · rw [if_pos (by simp; omega), if_pos h1]; rfl
  rw [if_neg (by simp; omega), if_neg h1]
  by_cases h2 : a.length < 41
  · rw [if_pos (by simp; omega), if_pos h2]; rfl
  rw [if_neg (by simp; omega), if_neg h2, qea (by decide), qea (by decide), qea (by simp only [Int.ofNat_eq_natCast]; omega), qvh _ ((hb.drop _).take _), qIB a (by omega), qak a hb (by omega) (by omega)]
  simp only [Option.bind_some]
  by_cases h3 : a.take 13 = mark
  · by_cases ok : hOK (pH ((a.drop 13).take 28))
    · have hlen := qAk ok
      rw [if_pos ok, if_neg (by simp [h3]), if_neg (by simp), if_neg (show ¬ (a.take 13 ≠ mark ∨ ¬ hOK (pH ((a.drop 13).take 28))) from fun h => h.elim (fun h => h h3) (fun h => h ok))]
      generalize pH ((a.drop 13).take 28) = h at ok hlen ⊢
      simp only
      rw [w64 (x := 41 + h.2.2.2.2.1) (by omega) (by omega)]
      by_cases h4 : (a.length : Int) < 41 + h.2.2.2.2.1
      · rw [if_pos (by simpa using h4), if_pos h4]; rfl
      · rw [if_neg (by simpa using h4), if_neg h4, qea (by decide), qea (by omega), qea (by simp only [Int.ofNat_eq_natCast]; omega), qdn _ (by simp; omega)]
        have e : Int.toNat (41 + h.2.2.2.2.1) - 41 = h.2.2.2.2.1.toNat := by omega
        simp only [Option.bind_some, e]
    · rw [if_neg ok, if_neg (by simp [h3]), if_pos (by simp), if_pos (show (a.take 13 ≠ mark ∨ ¬ hOK (pH ((a.drop 13).take 28))) from .inr ok)]; rfl
  · rw [if_pos (by simp [h3]), if_pos (show (a.take 13 ≠ mark ∨ ¬ hOK (pH ((a.drop 13).take 28))) from .inl h3)]; rfl
def rK (a : List Int) (p : Nat) : Nat := (a.getD p 0).toNat
def rF (a : List Int) (p : Nat) : Prop := p < a.length ∧ p + 1 + rK a p + 22 ≤ a.length
instance (a : List Int) (p : Nat) : Decidable (rF a p) := by unfold rF; infer_instance
def rR (a : List Int) (p : Nat) : qaa :=
  (qJf ((a.drop (p + 1)).take (rK a p)), (a.getD (p + 1 + rK a p) 0 * 256 + a.getD (p + 2 + rK a p) 0, ((a.drop (p + 3 + rK a p)).take 20, ())))
def qTs (a : List Int) : Nat → Nat → List qaa → List qaa × Int × Int
  | 0, p, acc => if qoe acc ≠ 0 then ([], (0, 12)) else (acc, ((p : Int), 0))
  | n + 1, p, acc => if rF a p then qTs a n (p + rK a p + 23) (acc ++ [rR a p]) else ([], (0, 18))
theorem qex {a : List Int} (hb : Bts a) (p : Nat) : a.getD p 0 = (rK a p : Int) ∧ rK a p < 256 := by
  have := hb.getD p
  unfold rK; omega
theorem qlq (a : List Int) (p n i : Nat) (h : i < n) : ((a.drop p).take n).getD i 0 = a.getD (p + i) 0 := by
  simp only [List.getD_eq_getElem?_getD, List.getElem?_take, List.getElem?_drop, if_pos h]
theorem qNk (a : List Int) (hl : a.length ≤ 100000) (p n : Nat) (hp : p ≤ a.length) (hn : n ≤ 1000) :
    qIb (n : Int) ((a, ((p : Int), ())), ()) = some (if p + n ≤ a.length then ((a.drop p).take n, (none, ((a, (((p + n : Nat) : Int), ())), ()))) else ([], (some 18, ((a, ((p : Int), ())), ())))) := by
  have hl' : Int.ofNat a.length = (a.length : Int) := rfl
  rw [qSi]
  simp only [hl']
  rw [w64 (x := (a.length : Int) - p) (by omega) (by omega), w64 (x := (p : Int) + n) (by omega) (by omega), w64 (x := (p : Int) + n - n) (by omega) (by omega)]
  by_cases h : p + n ≤ a.length
  · have e1 : ((p : Int) + n).toNat = p + n := by omega
    have e2 : ((p : Int) + n - n).toNat = p := by omega
    rw [if_neg (by simp; omega), qea (by omega), qea (by omega), qea (by omega), if_pos h, e1, e2, Nat.add_sub_cancel_left]
    rfl
  · rw [if_pos (by simp; omega), if_neg h]
theorem qYw (a : List Int) (hb : Bts a) (hl : a.length ≤ 100000) (p : Nat) (hf : rF a p) :
    qtc ((a, ((p : Int), ())), ()) = some (rR a p, (none, ((a, (((p + rK a p + 23 : Nat) : Int), ())), ()))) := by
  obtain ⟨h1, h2⟩ := hf
  obtain ⟨ek, hk⟩ := qex hb p
  have t1 : qIb (1 : Int) ((a, ((p : Int), ())), ()) = _ := qNk a hl p 1 (by omega) (by omega)
  have t2 := qNk a hl (p + 1) (rK a p + 22) (by omega) (by omega)
  rw [if_pos (by omega)] at t1
  rw [if_pos (by omega)] at t2
  rw [qze, t1]
  simp only [Option.bind_some]
  have l1 : ((a.drop p).take 1).length = 1 := by simp; omega
  have g1 : ((a.drop p).take 1).getD 0 0 = (rK a p : Int) := by rw [qlq _ _ _ _ (by omega)]; exact ek
  rw [if_neg (by simp), qea (by omega), qea (by rw [l1]; decide), g1, w64 (x := (rK a p : Int)) (by omega) (by omega), w64 (x := (rK a p : Int) + 22) (by omega) (by omega), show (rK a p : Int) + 22 = ((rK a p + 22 : Nat) : Int) by omega, t2]
  simp only [Option.bind_some]
  have l2 : Int.ofNat ((a.drop (p + 1)).take (rK a p + 22)).length = (rK a p : Int) + 22 := by
    have : ((a.drop (p + 1)).take (rK a p + 22)).length = rK a p + 22 := by simp; omega
    rw [this]; simp
  rw [l2, w64 (x := (rK a p : Int) + 1) (by omega) (by omega), w64 (x := (rK a p : Int) + 2) (by omega) (by omega)]
  rw [if_neg (by simp), qea (by omega), qea (by rw [l1]; decide), qea (by omega), qea (by omega), qea (by omega), qea (by omega), qea (by omega), qea (by omega), qea (by omega), qea (by omega), qea (by omega)]
  have n1 : ((rK a p : Int)).toNat = rK a p := by omega
  have n2 : ((rK a p : Int) + 1).toNat = rK a p + 1 := by omega
  have n3 : ((rK a p : Int) + 2).toNat = rK a p + 2 := by omega
  rw [n1, n2, n3, qlq _ _ _ _ (by omega), qlq _ _ _ _ (by omega)]
  have b1 := hb.getD (p + 1 + rK a p)
  have b2 := hb.getD (p + 1 + (rK a p + 1))
  rw [w64 (x := a.getD (p + 1 + rK a p) 0) (by omega) (by omega), w64 (x := a.getD (p + 1 + (rK a p + 1)) 0) (by omega) (by omega), w64 (x := a.getD (p + 1 + rK a p) 0 * 256) (by omega) (by omega), qDu (by omega) b2]
  have e1 : List.take (rK a p) ((a.drop (p + 1)).take (rK a p + 22)) = (a.drop (p + 1)).take (rK a p) := by rw [List.take_take, Nat.min_eq_left (by omega)]
  have e2 : List.drop (rK a p + 2) ((a.drop (p + 1)).take (rK a p + 22)) = (a.drop (p + 3 + rK a p)).take 20 := by
    rw [List.drop_take, List.drop_drop, show rK a p + 22 - (rK a p + 2) = 20 by omega, show p + 1 + (rK a p + 2) = p + 3 + rK a p by omega]
  have l3 : ((a.drop (p + 3 + rK a p)).take 20).length = 20 := by simp; omega
  rw [e1, e2, l3]
  have e3 : qZb (List.replicate 20 (0 : Int)) 0 (List.take (min 20 20) ((a.drop (p + 3 + rK a p)).take 20)) = (a.drop (p + 3 + rK a p)).take 20 := by
    rw [show min 20 20 = 20 from rfl, List.take_of_length_le (by omega), qZb, l3]
    simp
  rw [e3]
  unfold rR
  rw [show p + 1 + (rK a p + 1) = p + 2 + rK a p by omega, show p + 1 + (rK a p + 22) = p + rK a p + 23 by omega]
theorem qZw (a : List Int) (hb : Bts a) (hl : a.length ≤ 100000) (p : Nat) (hp : p ≤ a.length) (hf : ¬ rF a p) :
    ∃ x s, qtc ((a, ((p : Int), ())), ()) = some (x, (some 18, s)) := by
  obtain ⟨ek, hk⟩ := qex hb p
  have t1 : qIb (1 : Int) ((a, ((p : Int), ())), ()) = _ := qNk a hl p 1 (by omega) (by omega)
  rw [qze, t1]
  simp only [Option.bind_some]
  by_cases h1 : p + 1 ≤ a.length
  · have t2 := qNk a hl (p + 1) (rK a p + 22) (by omega) (by omega)
    rw [if_neg (by unfold rF at hf; omega)] at t2
    have l1 : ((a.drop p).take 1).length = 1 := by simp; omega
    have g1 : ((a.drop p).take 1).getD 0 0 = (rK a p : Int) := by rw [qlq _ _ _ _ (by omega)]; exact ek
    rw [if_pos h1]
    simp only
    rw [if_neg (by simp), qea (by omega), qea (by rw [l1]; decide), g1, w64 (x := (rK a p : Int)) (by omega) (by omega), w64 (x := (rK a p : Int) + 22) (by omega) (by omega), show (rK a p : Int) + 22 = ((rK a p + 22 : Nat) : Int) by omega, t2]
    exact ⟨_, _, rfl⟩
  · rw [if_neg h1]
    exact ⟨_, _, rfl⟩
theorem qLA (a : List Int) (hb : Bts a) (p : Nat) (hf : rF a p) : (rR a p).1.size = rK a p ∧ (rR a p).2.2.1.length = 20 ∧ Bts (rR a p).2.2.1 := by
  obtain ⟨h1, h2⟩ := hf
  refine ⟨?_, ?_, (hb.drop _).take _⟩
  · unfold rR; rw [qtv]; simp; omega
  · unfold rR; simp; omega
theorem RecsOK.snoc {l : List qaa} {r : qaa} (h : RecsOK l) (hl : l.length < 9223372036854775807) (hr : r.1.size ≤ 9223372036854775807) : RecsOK (l ++ [r]) :=
  ⟨by simp; omega, fun q hq => by
    rcases List.mem_append.1 hq with hq | hq
    · exact h.2 q hq
    · rw [List.mem_singleton.1 hq]; exact hr⟩
theorem SumsOK.snoc {l : List qaa} {r : qaa} (h : SumsOK l) (hr : r.2.2.1.length = 20 ∧ Bts r.2.2.1) : SumsOK (l ++ [r]) := fun q hq => by
  rcases List.mem_append.1 hq with hq | hq
  · exact h q hq
  · rw [List.mem_singleton.1 hq]; exact hr
theorem qMu (a : List Int) (hb : Bts a) (hl : a.length ≤ 100000) (N : Nat) (hN : N ≤ 16) : ∀ (n i p : Nat) (acc : List qaa), i + n = N → acc.length = i → p ≤ a.length → RecsOK acc →
    qnf (N : Int) (i : Int) ((a, ((p : Int), ())), ()) acc = some (qTs a n p acc)
  | 0, i, p, acc, e, hi, hp, hR => by
    rw [qph, if_neg (by simp; omega), qzc acc hR]
    simp only [Option.bind_some, qTs]
    by_cases h : qoe acc = 0
    · rw [if_neg (by simp [h]), if_neg (by simp [h])]
    · rw [if_pos (by simpa using h), if_pos h]
  | n + 1, i, p, acc, e, hi, hp, hR => by
    rw [qph, if_pos (by simp; omega), qTs]
    by_cases hf : rF a p
    · have hr := qLA a hb p hf
      have hk := qex hb p
      rw [qYw a hb hl p hf, if_pos hf]
      simp only [Option.bind_some, qJp]
      rw [if_neg (by simp), qea (by simp; omega), w64 (by omega) (by omega)]
      have ih := qMu a hb hl N hN n (i + 1) (p + rK a p + 23) (acc ++ [rR a p]) (by omega) (by simp; omega) (by unfold rF at hf; omega) (hR.snoc (by omega) (by omega))
      rw [show ((i + 1 : Nat) : Int) = (i : Int) + 1 by omega] at ih
      exact ih
    · obtain ⟨x, s, hx⟩ := qZw a hb hl p hp hf
      rw [hx, if_neg hf]
      simp only [Option.bind_some, qIp]
      rw [if_pos trivial]
def rdM (a : List Int) (n : Int) : List qaa × Int × Int := if n < 0 ∨ n > 16 then ([], (0, 2)) else if a.length > 50000 then ([], (0, 4)) else qTs a n.toNat 0 []
theorem RecsOK.nil : RecsOK [] := ⟨by simp, fun _ h => by cases h⟩
theorem SumsOK.nil : SumsOK [] := fun _ h => by cases h
theorem qXm (a : List Int) (hb : Bts a) (n : Int) : quk a n = some (rdM a n) := by
  rw [qvp, rdM]
  by_cases h1 : n < 0
  · rw [if_pos (by simpa using h1), if_pos (.inl h1)]
  · rw [if_neg (by simpa using h1)]
    by_cases h2 : n > 16
    · rw [if_pos (by simpa using h2), if_pos (.inr h2)]
    · rw [if_neg (by simpa using h2), if_neg (show ¬ (n < 0 ∨ n > 16) by omega)]
      by_cases h3 : a.length > 50000
      · rw [if_pos (by simp; omega), if_pos h3]
      · rw [if_neg (by simp; omega), if_neg h3]
        have := qMu a hb (by omega) n.toNat (by omega) n.toNat 0 0 [] (by omega) rfl (by omega) .nil
        rw [show ((n.toNat : Nat) : Int) = n by omega] at this
        exact this
theorem qgd {α : Type} (l : List α) (m n : Nat) : l.take (m + n) = l.take m ++ (l.drop m).take n := List.take_add
theorem qef (a : List Int) (p : Nat) (h : p < a.length) : (a.drop p).take 1 = [a.getD p 0] := by
  rw [(qJa (0 : Int) h).1]; rfl
theorem qHA (a : List Int) (hb : Bts a) (p : Nat) (hf : rF a p) : qJr (rR a p) = (a.drop p).take (rK a p + 23) := by
  obtain ⟨h1, h2⟩ := hf
  obtain ⟨ek, hk⟩ := qex hb p
  have hs := (qLA a hb p ⟨h1, h2⟩).1
  have b1 := hb.getD (p + 1 + rK a p)
  have b2 := hb.getD (p + 2 + rK a p)
  have e1 : IntKind.wrap .u8 ((rR a p).1.size : Int) = (rK a p : Int) := by rw [hs, wu8]; omega
  have e2 : qDb (rR a p).1 = (a.drop (p + 1)).take (rK a p) := qSh ((hb.drop _).take _)
  have e3 : IntKind.wrap .u8 (Int.fdiv (rR a p).2.1 256) = a.getD (p + 1 + rK a p) 0 := by
    show IntKind.wrap .u8 (Int.fdiv (a.getD (p + 1 + rK a p) 0 * 256 + a.getD (p + 2 + rK a p) 0) 256) = _
    rw [wu8, qll _ (by omega)]; omega
  have e4 : IntKind.wrap .u8 (rR a p).2.1 = a.getD (p + 2 + rK a p) 0 := by
    show IntKind.wrap .u8 (a.getD (p + 1 + rK a p) 0 * 256 + a.getD (p + 2 + rK a p) 0) = _
    rw [wu8]; omega
  have e5 : List.take 20 (List.drop 0 (rR a p).2.2.1) = (a.drop (p + 3 + rK a p)).take 20 := by
    show List.take 20 (List.drop 0 ((a.drop (p + 3 + rK a p)).take 20)) = _
    rw [List.drop_zero, List.take_take]; rfl
  unfold qJr
  rw [e1, e2, e3, e4, e5, show rK a p + 23 = 1 + (rK a p + (1 + (1 + 20))) by omega, qgd, qgd, qgd, qgd, List.drop_drop, List.drop_drop, List.drop_drop, List.drop_drop, qef a p h1, qef a (p + 1 + rK a p) (by omega), show p + 1 + rK a p + 1 = p + 2 + rK a p by omega, qef a (p + 2 + rK a p) (by omega), show p + 2 + rK a p + 1 = p + 3 + rK a p by omega, ek]
  simp only [List.append_assoc, List.cons_append, List.nil_append]
theorem qBm : ∀ (l m : List qaa), qCb (l ++ m) = qCb l ++ qCb m
  | [], m => rfl
  | r :: l, m => by simp only [List.cons_append, qCb, qBm l m, List.append_assoc]
structure ReadOK (a : List Int) (n : Nat) (l : List qaa) (q : Nat) : Prop where
  le : q ≤ a.length
  bytes : qCb l = a.take q
  val : qoe l = 0
  sums : SumsOK l
  recs : RecsOK l
  len : l.length = n
theorem qbx (a : List Int) (hb : Bts a) : ∀ (n p : Nat) (acc l : List qaa) (q : Int), qTs a n p acc = (l, (q, 0)) → p ≤ a.length → qCb acc = a.take p → SumsOK acc → RecsOK acc → acc.length + n ≤ 1000 →
    ∃ q' : Nat, q = q' ∧ ReadOK a (acc.length + n) l q' ∧ p ≤ q'
  | 0, p, acc, l, q, h, hp, hB, hS, hR, hn => by
    simp only [qTs] at h
    split at h
    · simp at h
    · rename_i hv
      simp only [Prod.mk.injEq] at h
      obtain ⟨rfl, rfl, _⟩ := h
      exact ⟨p, rfl, ⟨hp, hB, by simpa using hv, hS, hR, rfl⟩, Nat.le_refl _⟩
  | n + 1, p, acc, l, q, h, hp, hB, hS, hR, hn => by
    simp only [qTs] at h
    split at h
    · rename_i hf
      have hr := qLA a hb p hf
      have hk := qex hb p
      obtain ⟨h1, h2⟩ := id hf
      obtain ⟨q', e, hO, hle⟩ := qbx a hb n _ _ l q h (by omega) (by
        rw [qBm, hB, show qCb [rR a p] = qJr (rR a p) ++ [] from rfl, List.append_nil, qHA a hb p hf, show p + rK a p + 23 = p + (rK a p + 23) by omega, qgd a p]) (hS.snoc hr.2) (hR.snoc (by omega) (by omega)) (by simp; omega)
      rw [show (acc ++ [rR a p]).length + n = acc.length + (n + 1) by simp; omega] at hO
      exact ⟨q', e, hO, by omega⟩
    · simp at h
def sH (a : List Int) : qpa := (a.getD 4 0, (a.getD 5 0 * 256 + a.getD 6 0, ()))
def hdE (e : Int) : qpa × List qaa × Int × Int := ((0, (0, ())), ([], (0, e)))
def magic : List Int := [66, 76, 70, 1]
def hdP (a : List Int) : qpa × List qaa × Int × Int :=
  if a.length > 50000 then hdE 4 else if a.length < 8 then hdE 18
  else if a.take 4 ≠ magic ∨ chk (sH a) ≠ 0 ∨ a.getD 7 0 > 16 then hdE 12
  else if (rdM (a.drop 8) (a.getD 7 0)).2.2 ≠ 0 then hdE (rdM (a.drop 8) (a.getD 7 0)).2.2
  else if (a.length : Int) - 8 - (rdM (a.drop 8) (a.getD 7 0)).2.1 < 20 then hdE 18
  else if (a.drop (8 + (rdM (a.drop 8) (a.getD 7 0)).2.1.toNat)).take 20 ≠ qjh (a.take (8 + (rdM (a.drop 8) (a.getD 7 0)).2.1.toNat)) then hdE 22
  else (sH a, ((rdM (a.drop 8) (a.getD 7 0)).1, (28 + (rdM (a.drop 8) (a.getD 7 0)).2.1, 0)))
theorem qlk (a b : List Int) (ha : Bts a) (hb : Bts b) : qsd a b = some (decide (a.take b.length = b)) := by
  rw [qXg]
  by_cases h : b.length ≤ a.length
  · rw [if_pos (by simp; omega), qea (by simp), qea (by simp; omega), qjk, qdC (ha.take _) hb]; rfl
  · rw [if_neg (by simp; omega)]
    have : ¬ a.take b.length = b := fun e => by
      have := congrArg List.length e
      simp at this; omega
    simp [this]
theorem qUz {a : List Int} (hb : Bts a) (hl : a.length ≤ 50000) {n : Int} (hn : 0 ≤ n ∧ n ≤ 16) (h : (rdM a n).2.2 = 0) : ∃ q : Nat, (rdM a n).2.1 = q ∧ ReadOK a n.toNat (rdM a n).1 q := by
  have e : rdM a n = qTs a n.toNat 0 [] := by unfold rdM; rw [if_neg (by omega), if_neg (by omega)]
  rw [e] at h ⊢
  obtain ⟨q, e1, e2, _⟩ := qbx a hb n.toNat 0 [] (qTs a n.toNat 0 []).1 (qTs a n.toNat 0 []).2.1 (by rw [← h]) (by omega) rfl .nil .nil (by simp; omega)
  rw [show ([] : List qaa).length + n.toNat = n.toNat by simp] at e2
  exact ⟨q, e1, e2⟩
theorem qqw {a : List Int} (hb : Bts a) (h8 : 8 ≤ a.length) (hm : a.take 4 = magic) (hc : chk (sH a) = 0) (h7 : a.getD 7 0 ≤ 16) {l : List qaa} {q : Nat} (hO : ReadOK (a.drop 8) (a.getD 7 0).toNat l q) : qte (sH a) l = a.take (8 + q) := by
  have b4 := hb.getD 4
  have b5 := hb.getD 5
  have b6 := hb.getD 6
  have b7 := hb.getD 7
  have e1 : IntKind.wrap .u8 (sH a).1 = a.getD 4 0 := by show IntKind.wrap .u8 (a.getD 4 0) = _; rw [wu8]; omega
  have e2 : IntKind.wrap .u8 (Int.fdiv (sH a).2.1 256) = a.getD 5 0 := by
    show IntKind.wrap .u8 (Int.fdiv (a.getD 5 0 * 256 + a.getD 6 0) 256) = _
    rw [wu8, qll _ (by omega)]; omega
  have e3 : IntKind.wrap .u8 (sH a).2.1 = a.getD 6 0 := by
    show IntKind.wrap .u8 (a.getD 5 0 * 256 + a.getD 6 0) = _
    rw [wu8]; omega
  have e4 : IntKind.wrap .u8 (l.length : Int) = a.getD 7 0 := by rw [hO.len, wu8]; omega
  unfold qte qRo
  rw [e1, e2, e3, e4, hO.bytes, qgd, show (8 : Nat) = 4 + (1 + (1 + (1 + 1))) from rfl, qgd a 4, qgd, qgd, qgd, List.drop_drop, List.drop_drop, List.drop_drop, qef a 4 (by omega), qef a (4 + 1) (by omega), qef a (4 + 1 + 1) (by omega), qef a (4 + 1 + 1 + 1) (by omega), hm]
  rfl
theorem qBp (a : List Int) (hb : Bts a) : qDo a = some (hdP a) := by
  have hl' : Int.ofNat a.length = (a.length : Int) := rfl
  rw [qbs, hl']
  unfold hdP
  by_cases h1 : a.length > 50000
  · rw [if_pos (by simp; omega), if_pos h1]; rfl
  rw [if_neg (by simp; omega), if_neg h1]
  by_cases h2 : a.length < 8
  · rw [if_pos (by simp; omega), if_pos h2]; rfl
  have b4 := hb.getD 4
  have b5 := hb.getD 5
  have b6 := hb.getD 6
  have b7 := hb.getD 7
  rw [if_neg (by simp; omega), if_neg h2, qea (by decide), qea (by omega), qea (by decide), qea (by omega), qea (by decide), qea (by decide), qea (by omega), qlk a _ hb (by intro x hx; simp at hx; omega)]
  simp only [Option.bind_some]
  rw [w64 (x := a.getD 4 0) (by omega) (by omega), w64 (x := a.getD 5 0) (by omega) (by omega), w64 (x := a.getD 6 0) (by omega) (by omega), w64 (x := a.getD 7 0) (by omega) (by omega), w64 (x := a.getD 5 0 * 256) (by omega) (by omega), qDu (by omega) b6]
  have es : ((a.getD 4 0, (a.getD 5 0 * 256 + a.getD 6 0, ())) : qpa) = sH a := rfl
  have em : ([66, 76, 70, 1] : List Int) = magic := rfl
  rw [es, em, show magic.length = 4 from rfl]
  by_cases hm : a.take 4 = magic
  · rw [if_neg (by simp [hm]), qkg]
    simp only [Option.bind_some]
    by_cases hc : chk (sH a) = 0
    · rw [if_neg (by simp [hc]), qea (by decide), qea (by omega)]
      by_cases h7 : a.getD 7 0 > 16
      · rw [if_pos (by simpa using h7), if_pos (.inr (.inr h7))]; rfl
      · rw [if_neg (by simpa using h7), if_neg (show ¬ (a.take 4 ≠ magic ∨ chk (sH a) ≠ 0 ∨ a.getD 7 0 > 16) from fun h => by rcases h with h | h | h; exact h hm; exact h hc; exact h7 h), qea (by decide), qea (by omega), qea (by decide), qea (by omega), qXm _ (hb.drop 8)]
        simp only [Option.bind_some]
        by_cases hr : (rdM (a.drop 8) (a.getD 7 0)).2.2 = 0
        · obtain ⟨q, hq, hO⟩ := qUz (hb.drop 8) (by simp; omega) ⟨b7.1, by omega⟩ hr
          have hle := hO.le
          rw [List.length_drop] at hle
          have hbody := qqw hb (by omega) hm hc (by omega) hO
          have ha : ask (sH a) (rdM (a.drop 8) (a.getD 7 0)).1 = 0 := by unfold ask; rw [if_neg (by simp [hc]), hO.val]
          rw [if_neg (by rw [hr]; decide), if_neg (show ¬ (rdM (a.drop 8) (a.getD 7 0)).2.2 ≠ 0 from fun h => h hr), qYj _ _ hO.recs hO.sums, ha, if_neg (by simp)]
          simp only [Option.bind_some]
          rw [hq, w64 (x := (a.length : Int) - 8) (by omega) (by omega), w64 (x := (a.length : Int) - 8 - q) (by omega) (by omega), Int.toNat_natCast]
          by_cases h20 : (a.length : Int) - 8 - q < 20
          · rw [if_pos (by simpa using h20), if_pos h20]; rfl
          · rw [if_neg (by simpa using h20), if_neg h20, qlk a _ hb (qOx _ _ hO.sums)]
            simp only [Option.bind_some]
            have hhl : (qDf (sH a) (rdM (a.drop 8) (a.getD 7 0)).1).length = 8 + q + 20 := by
              unfold qDf; rw [List.length_append, qkf, hbody]; simp; omega
            have hiff : a.take (qDf (sH a) (rdM (a.drop 8) (a.getD 7 0)).1).length = qDf (sH a) (rdM (a.drop 8) (a.getD 7 0)).1 ↔ (a.drop (8 + q)).take 20 = qjh (a.take (8 + q)) := by
              rw [hhl, qgd]
              unfold qDf
              rw [hbody]
              constructor
              · intro h; exact List.append_cancel_left h
              · intro h; rw [h]
            by_cases hs : (a.drop (8 + q)).take 20 = qjh (a.take (8 + q))
            · rw [if_neg (by rw [decide_eq_true (hiff.2 hs)]; decide), if_neg (show ¬ (a.drop (8 + q)).take 20 ≠ qjh (a.take (8 + q)) by simp [hs]), hhl]
              congr 3
              simp; omega
            · rw [if_pos (by rw [decide_eq_false (fun h => hs (hiff.1 h))]; rfl), if_pos hs]; rfl
        · rw [if_pos (bne_iff_ne.2 hr), if_pos hr]; rfl
    · rw [if_pos (by simpa using hc), if_pos (.inr (.inl hc))]; rfl
  · rw [if_pos (by simp [hm]), if_pos (.inl hm)]; rfl
def zL : qua := ((0, (0, ())), ([], ([], ())))
def qyw (a : List Int) (s : qpa) (rs : List qaa) : List qfa → Nat → List qga → List qca → qua × List qca × Int
  | [], p, hs, bs => if p < a.length then (zL, ([], 12)) else ((s, (rs, (hs, ()))), (bs, 0))
  | x :: ps, p, hs, bs => if (rdB (a.drop p)).2.2 ≠ 0 then (zL, ([], (rdB (a.drop p)).2.2)) else if ¬ isP (rdB (a.drop p)).1.1 x then (zL, ([], 32))
    else qyw a s rs ps (p + (rdB (a.drop p)).2.1.toNat) (hs ++ [(rdB (a.drop p)).1.1]) (bs ++ [(rdB (a.drop p)).1])
def qkq (a : List Int) : qua × List qca × Int :=
  if (hdP a).2.2.2 ≠ 0 then (zL, ([], (hdP a).2.2.2)) else qyw a (hdP a).1 (hdP a).2.1 (ap (hdP a).1.2.1 0 (hdP a).2.1) (hdP a).2.2.1.toNat [] []
theorem qcx {c : List Int} (h : (rdB c).2.2 = 0) : hOK (rdB c).1.1 ∧ (rdB c).2.1 = 41 + (rdB c).1.1.2.2.2.2.1 ∧ (rdB c).2.1 ≤ c.length ∧ 41 ≤ c.length ∧ c.length ≤ 50000 ∧ c.take 13 = mark ∧
    rdB c = ((pH ((c.drop 13).take 28), ((c.drop 41).take (pH ((c.drop 13).take 28)).2.2.2.2.1.toNat, ())), (41 + (pH ((c.drop 13).take 28)).2.2.2.2.1, 0)) := by
  unfold rdB at h ⊢
  by_cases h1 : c.length > 50000
  · rw [if_pos h1] at h; simp at h
  · rw [if_neg h1] at h ⊢
    by_cases h2 : c.length < 41
    · rw [if_pos h2] at h; simp at h
    · rw [if_neg h2] at h ⊢
      by_cases h3 : c.take 13 ≠ mark ∨ ¬ hOK (pH ((c.drop 13).take 28))
      · rw [if_pos h3] at h; simp at h
      · rw [if_neg h3] at h ⊢
        by_cases h4 : (c.length : Int) < 41 + (pH ((c.drop 13).take 28)).2.2.2.2.1
        · rw [if_pos h4] at h; simp at h
        · rw [if_neg h4]
          simp only [ne_eq, not_or, Decidable.not_not] at h3
          exact ⟨h3.2, rfl, by simp only; omega, by omega, by omega, h3.1, rfl⟩
structure HeadOK (a : List Int) (l : List qaa) (q : Nat) : Prop where
  eq : hdP a = (sH a, (l, (28 + (q : Int), 0)))
  le : 28 + q ≤ a.length
  big : a.length ≤ 50000
  magic : a.take 4 = magic
  chk : chk (sH a) = 0
  seven : a.getD 7 0 ≤ 16
  nn : 0 ≤ a.getD 7 0
  read : ReadOK (a.drop 8) (a.getD 7 0).toNat l q
  sum : (a.drop (8 + q)).take 20 = qjh (a.take (8 + q))
  rd : qTs (a.drop 8) (a.getD 7 0).toNat 0 [] = (l, ((q : Int), 0))
theorem qjA {a : List Int} (hb : Bts a) (h : (hdP a).2.2.2 = 0) : ∃ l q, HeadOK a l q := by
  have b7 := hb.getD 7
  unfold hdP at h
  by_cases h1 : a.length > 50000
  · rw [if_pos h1] at h; simp [hdE] at h
  rw [if_neg h1] at h
  by_cases h2 : a.length < 8
  · rw [if_pos h2] at h; simp [hdE] at h
  rw [if_neg h2] at h
  by_cases h3 : a.take 4 ≠ magic ∨ chk (sH a) ≠ 0 ∨ a.getD 7 0 > 16
  · rw [if_pos h3] at h; simp [hdE] at h
  rw [if_neg h3] at h
  have h3' := h3
  simp only [ne_eq, not_or, Decidable.not_not] at h3'
  obtain ⟨m1, m2, m3⟩ := h3'
  by_cases hr : (rdM (a.drop 8) (a.getD 7 0)).2.2 = 0
  · obtain ⟨q, hq, hO⟩ := qUz (hb.drop 8) (by simp; omega) ⟨b7.1, by omega⟩ hr
    have hle := hO.le
    rw [List.length_drop] at hle
    rw [if_neg (fun h => h hr)] at h
    by_cases h20 : (a.length : Int) - 8 - (rdM (a.drop 8) (a.getD 7 0)).2.1 < 20
    · rw [if_pos h20] at h; simp [hdE] at h
    rw [if_neg h20] at h
    have hqn : (rdM (a.drop 8) (a.getD 7 0)).2.1.toNat = q := by omega
    by_cases hs : (a.drop (8 + (rdM (a.drop 8) (a.getD 7 0)).2.1.toNat)).take 20 ≠ qjh (a.take (8 + (rdM (a.drop 8) (a.getD 7 0)).2.1.toNat))
    · rw [if_pos hs] at h; simp [hdE] at h
    refine ⟨_, q, ?_, by omega, by omega, m1, m2, by omega, b7.1, hO, ?_, ?_⟩
    · unfold hdP
      rw [if_neg h1, if_neg h2, if_neg h3, if_neg (fun h => h hr), if_neg h20, if_neg hs, hq]
    · rw [hqn] at hs; simpa using hs
    · have e : rdM (a.drop 8) (a.getD 7 0) = qTs (a.drop 8) (a.getD 7 0).toNat 0 [] := by unfold rdM; rw [if_neg (by omega), if_neg (by simp; omega)]
      rw [← e, ← hq]
      exact Prod.ext rfl (Prod.ext rfl hr)
  · rw [if_pos hr] at h; exact absurd h hr
theorem HeadOK.recsV {a l q} (h : HeadOK a l q) : RecsV l := qxc h.read.val
theorem HeadOK.blk {a l q} (h : HeadOK a l q) : 16 ≤ (sH a).2.1 ∧ (sH a).2.1 ≤ 4096 := qZo h.chk
theorem qvA (a : List Int) (hb : Bts a) (hl : a.length ≤ 50000) (s t : qpa) (rs x1 : List qaa) (x2 : List qga) (ps : List qfa) (hps : ps.length ≤ 100000) : ∀ (k i p : Nat) (hs : List qga) (bs : List qca), i + k = ps.length → p ≤ a.length → hs.length = i → bs.length = i →
    qYh a (p : Int) (ps.length : Int) (i : Int) t () s () bs ps x1 x2 rs hs = some (qyw a s rs (ps.drop i) p hs bs)
  | 0, i, p, hs, bs, e, hp, h1, h2 => by
    have hl' : Int.ofNat a.length = (a.length : Int) := rfl
    rw [qdk, if_neg (by simp; omega), List.drop_eq_nil_of_le (by omega), qyw, hl']
    by_cases h : p < a.length
    · rw [if_pos (by simp; omega), if_pos h]; rfl
    · rw [if_neg (by simp; omega), if_neg h]
  | k + 1, i, p, hs, bs, e, hp, h1, h2 => by
    have hl' : Int.ofNat a.length = (a.length : Int) := rfl
    have hl2 : Int.ofNat ps.length = (ps.length : Int) := rfl
    obtain ⟨d1, d2, d3⟩ := qJa (qja qda : qfa) (xs := ps) (i := i) (by omega)
    rw [qdk, if_pos (by simp; omega), qea (by omega), qea (by omega), qea (by omega), qea (by omega), Int.toNat_natCast, Int.toNat_natCast, qom _ (hb.drop p), Nat.zero_add]
    simp only [Option.bind_some]
    rw [d1, qyw]
    generalize ps.getD i (qja qda) = pc
    by_cases hr : (rdB (a.drop p)).2.2 = 0
    · have hk := qcx hr
      have hlen := qAk hk.1
      have hle := hk.2.2.1
      rw [List.length_drop] at hle
      rw [if_neg (by rw [hr]; decide), if_neg (fun h => h hr), qEm]
      simp only [Option.bind_some]
      by_cases hi : isP (rdB (a.drop p)).1.1 pc
      · rw [if_neg (by rw [decide_eq_true hi]; decide), if_neg (fun h => h hi), qea (by simp; omega), qea (by simp; omega), w64 (by omega) (by omega), w64 (by omega) (by omega)]
        have ih := qvA a hb hl s t rs x1 x2 ps hps k (i + 1) (p + (rdB (a.drop p)).2.1.toNat) (hs ++ [(rdB (a.drop p)).1.1]) (bs ++ [(rdB (a.drop p)).1]) (by omega) (by omega) (by simp; omega) (by simp; omega)
        rw [show ((i + 1 : Nat) : Int) = (i : Int) + 1 by omega, show ((p + (rdB (a.drop p)).2.1.toNat : Nat) : Int) = (p : Int) + (rdB (a.drop p)).2.1 by omega] at ih
        exact ih
      · rw [if_pos (by rw [decide_eq_false hi]; rfl), if_pos hi]; rfl
    · rw [if_pos (bne_iff_ne.2 hr), if_pos hr]; rfl
theorem qIq (a : List Int) (hb : Bts a) : qJq a = some (qkq a) := by
  rw [qrt, qBp a hb]
  simp only [Option.bind_some, qkq]
  by_cases h : (hdP a).2.2.2 = 0
  · obtain ⟨l, q, hO⟩ := qjA hb h
    rw [if_neg (by rw [h]; decide), if_neg (fun k => k h), hO.eq]
    simp only
    have hle := hO.le
    have hsm := qqr (sH a).2.1 hO.blk.1 l hO.recsV
    rw [qli _ _ hO.blk hO.recsV]
    simp only [Option.bind_some]
    have := qvA a hb hO.big (sH a) (0, (0, ())) l [] [] (ap (sH a).2.1 0 l) (by omega) _ 0 (28 + q) [] [] (Nat.zero_add _) (by omega) rfl rfl
    rw [show ((28 + (q : Int))).toNat = 28 + q by omega]
    exact this
  · rw [if_pos (bne_iff_ne.2 h), if_pos h]; rfl
theorem qek (a : List Int) (hb : Bts a) : qCo a = some ((qkq a).1, (qkq a).2.2) := by rw [qas, qIq a hb]; rfl
def Std (a : List Int) (e : Nat) : Nat → List qga → List qca → Prop
  | p, h :: hs, x :: bs => rdB (a.drop p) = (x, (41 + h.2.2.2.2.1, 0)) ∧ x.1 = h ∧ hOK h ∧ p ≤ a.length ∧ Std a e (p + (41 + h.2.2.2.2.1).toNat) hs bs
  | p, [], [] => p = e
  | _, _, _ => False
theorem qFy (a : List Int) (s : qpa) (rs : List qaa) : ∀ (ps : List qfa) (p : Nat) (hs : List qga) (bs : List qca), p ≤ a.length → (qyw a s rs ps p hs bs).2.2 = 0 →
    ∃ hs' bs', qyw a s rs ps p hs bs = ((s, (rs, (hs ++ hs', ()))), (bs ++ bs', 0)) ∧ Std a a.length p hs' bs' ∧ hs'.length = ps.length ∧ bs'.length = ps.length ∧ ckL hs' ps = 0
  | [], p, hs, bs, hp, h => by
    simp only [qyw] at h ⊢
    by_cases hlt : p < a.length
    · rw [if_pos hlt] at h; simp at h
    · rw [if_neg hlt]
      exact ⟨[], [], by simp, by unfold Std; omega, rfl, rfl, rfl⟩
  | x :: ps, p, hs, bs, hp, h => by
    simp only [qyw] at h ⊢
    by_cases hr : (rdB (a.drop p)).2.2 = 0
    · have hk := qcx hr
      have hlen := qAk hk.1
      have hle := hk.2.2.1
      rw [List.length_drop] at hle
      rw [if_neg (fun k => k hr)] at h ⊢
      by_cases hi : isP (rdB (a.drop p)).1.1 x
      · rw [if_neg (fun k => k hi)] at h ⊢
        obtain ⟨hs', bs', e1, e2, e3, e4, e5⟩ := qFy a s rs ps _ _ _ (by omega) h
        refine ⟨(rdB (a.drop p)).1.1 :: hs', (rdB (a.drop p)).1 :: bs', by rw [e1]; simp, ?_, by simp [e3], by simp [e4], ?_⟩
        · refine ⟨Prod.ext rfl (Prod.ext hk.2.1 hr), rfl, hk.1, hp, ?_⟩
          rw [← hk.2.1]; exact e2
        · simp only [ckL]; rw [if_pos ⟨hk.1, hi⟩]; exact e5
      · rw [if_pos hi] at h; simp at h
    · rw [if_pos hr] at h; exact absurd h hr
structure AllOK (a : List Int) (rs : List qaa) (q : Nat) (hs : List qga) (bs : List qca) : Prop where
  head : HeadOK a rs q
  eq : qkq a = ((sH a, (rs, (hs, ()))), (bs, 0))
  std : Std a a.length (28 + q) hs bs
  hlen : hs.length = (ap (sH a).2.1 0 rs).length
  blen : bs.length = (ap (sH a).2.1 0 rs).length
  ck : ckL hs (ap (sH a).2.1 0 rs) = 0
theorem qjB {a : List Int} (hb : Bts a) (h : (qkq a).2.2 = 0) : ∃ rs q hs bs, AllOK a rs q hs bs := by
  unfold qkq at h
  by_cases hh : (hdP a).2.2.2 = 0
  · obtain ⟨l, q, hO⟩ := qjA hb hh
    rw [if_neg (fun k => k hh), hO.eq] at h
    simp only at h
    rw [show ((28 + (q : Int))).toNat = 28 + q by omega] at h
    obtain ⟨hs, bs, e1, e2, e3, e4, e5⟩ := qFy a _ _ _ _ _ _ hO.le h
    refine ⟨l, q, hs, bs, hO, ?_, e2, e3, e4, e5⟩
    unfold qkq
    rw [if_neg (fun k => k hh), hO.eq]
    simp only
    rw [show ((28 + (q : Int))).toNat = 28 + q by omega, e1]
    simp
  · rw [if_pos hh] at h; exact absurd h hh
def s2 : qpa := (2, (16, ()))
theorem qJz {a : List Int} {rs q hs bs} (h : AllOK a rs q hs bs) : lck (sH a, (rs, (hs, ()))) = 0 := by
  unfold lck
  rw [if_neg (fun k => k h.head.chk), if_neg (fun k => k h.head.read.val), if_neg (fun k => k h.hlen.symm)]
  exact h.ck
theorem qWs (s : ByteArray) : qJf (qDb s) = s := by
  have h := qSh (xs := qDb s) (qSr s)
  have e : (qDb s).map (fun n => UInt8.ofNat n.toNat) = s.data.toList := by
    unfold qDb
    rw [List.map_map]
    refine (List.map_congr_left (fun b _ => ?_)).trans (List.map_id _)
    simp
  unfold qJf
  rw [e]
theorem qcm (a : List Int) (p i : Nat) : (a.drop p).getD i 0 = a.getD (p + i) 0 := by simp [List.getD_eq_getElem?_getD]
theorem qIA {r : qaa} (h1 : r.1.size ≤ 40) (h2 : 0 ≤ r.2.1 ∧ r.2.1 ≤ 8192) (h3 : r.2.2.1.length = 20) : qJr r = (r.1.size : Int) :: (qDb r.1 ++ (r.2.1 / 256 :: r.2.1 % 256 :: r.2.2.1)) := by
  unfold qJr
  rw [List.drop_zero, List.take_of_length_le (by omega), wu8, wu8, wu8, qll _ (by omega)]
  have e1 : (r.1.size : Int) % 256 = r.1.size := by omega
  have e2 : r.2.1 / 256 % 256 = r.2.1 / 256 := by omega
  rw [e1, e2]
  simp only [List.append_assoc, List.cons_append, List.nil_append]
theorem qgz {r : qaa} (h1 : r.1.size ≤ 40) (h2 : 0 ≤ r.2.1 ∧ r.2.1 ≤ 8192) (h3 : r.2.2.1.length = 20) {a post : List Int} {p : Nat} (ha : a.drop p = qJr r ++ post) : rF a p ∧ rK a p = r.1.size ∧ rR a p = r := by
  have hB := qIA h1 h2 h3
  have hl : (qDb r.1).length = r.1.size := qzf _
  have hal := congrArg List.length ha
  rw [List.length_drop, List.length_append, qQh r h3] at hal
  have g0 : a.getD p 0 = r.1.size := by
    have e := qcm a p 0
    rw [ha, hB] at e
    exact e.symm
  have hk : rK a p = r.1.size := by unfold rK; rw [g0]; omega
  have d1 : a.drop (p + 1) = qDb r.1 ++ (r.2.1 / 256 :: r.2.1 % 256 :: (r.2.2.1 ++ post)) := by
    rw [← List.drop_drop, ha, hB]
    simp only [List.cons_append, List.drop_succ_cons, List.drop_zero, List.append_assoc]
  have d2 : a.drop (p + 1 + r.1.size) = r.2.1 / 256 :: r.2.1 % 256 :: (r.2.2.1 ++ post) := by
    rw [← List.drop_drop, d1, ← hl, List.drop_left]
  have g1 : a.getD (p + 1 + r.1.size) 0 = r.2.1 / 256 := by
    have e := qcm a (p + 1 + r.1.size) 0
    rw [d2] at e
    exact e.symm
  have g2 : a.getD (p + 2 + r.1.size) 0 = r.2.1 % 256 := by
    have := qcm a (p + 1 + r.1.size) 1
    rw [show p + 2 + r.1.size = p + 1 + r.1.size + 1 by omega, ← this, d2]; rfl
  have d3 : a.drop (p + 3 + r.1.size) = r.2.2.1 ++ post := by
    rw [show p + 3 + r.1.size = p + 1 + r.1.size + 2 by omega, ← List.drop_drop, d2]; rfl
  refine ⟨⟨by omega, by rw [hk]; omega⟩, hk, ?_⟩
  unfold rR
  rw [hk, d1, g1, g2, d3, ← hl, List.take_left, qWs, show r.2.1 / 256 * 256 + r.2.1 % 256 = r.2.1 by omega, ← h3, List.take_left]
theorem qHr (a post : List Int) : ∀ (rs acc : List qaa) (p : Nat), (∀ r ∈ rs, r.1.size ≤ 40 ∧ (0 ≤ r.2.1 ∧ r.2.1 ≤ 8192)) → SumsOK rs → qoe (acc ++ rs) = 0 → a.drop p = qCb rs ++ post →
    qTs a rs.length p acc = (acc ++ rs, (((p + (qCb rs).length : Nat) : Int), 0))
  | [], acc, p, h, hS, hv, ha => by
    rw [List.append_nil] at hv
    rw [List.length_nil, qTs, if_neg (fun k => k hv), List.append_nil]
    rfl
  | r :: rs, acc, p, h, hS, hv, ha => by
    have h1 := h r List.mem_cons_self
    have h3 := hS r List.mem_cons_self
    rw [qCb, List.append_assoc] at ha
    obtain ⟨hf, hk, hR⟩ := qgz h1.1 h1.2 h3.1 ha
    have hl := qQh r h3.1
    have e : a.drop (p + rK a p + 23) = qCb rs ++ post := by
      rw [hk, show p + r.1.size + 23 = p + (qJr r).length by omega, ← List.drop_drop, ha, List.drop_left]
    have e2 : acc ++ r :: rs = (acc ++ [r]) ++ rs := by rw [List.append_assoc]; rfl
    have ih := qHr a post rs (acc ++ [r]) (p + rK a p + 23) (fun q hq => h q (List.mem_cons_of_mem _ hq)) (fun q hq => hS q (List.mem_cons_of_mem _ hq)) (by rw [← e2]; exact hv) e
    rw [List.length_cons, qTs, if_pos hf, hR, ih, e2]
    refine Prod.ext rfl (Prod.ext ?_ rfl)
    simp only
    rw [qCb, List.length_append]
    omega
theorem qMx {s : qpa} {rs : List qaa} {post : List Int} (hc : chk s = 0) (hv : qoe rs = 0) (hS : SumsOK rs) (hl : post.length ≤ 40000) : hdP (qDf s rs ++ post) = (s, (rs, (28 + ((qCb rs).length : Int), 0))) := by
  have hRV := qxc hv
  have h16 := hRV.len
  have hchk : 0 ≤ s.1 ∧ s.1 ≤ 7 ∧ 16 ≤ s.2.1 ∧ s.2.1 ≤ 4096 := by
    unfold chk at hc; split at hc
    · assumption
    · cases hc
  have key : ∀ (rs : List qaa), SumsOK rs → (∀ r ∈ rs, r.1.size ≤ 40) → (qCb rs).length ≤ 63 * rs.length := by
    intro rs
    induction rs with
    | nil => intro _ _; exact Nat.le_refl _
    | cons r rs ih =>
      intro hS h
      have h1 := qQh r (hS r List.mem_cons_self).1
      have h2 := h r List.mem_cons_self
      have h3 := ih (fun q hq => hS q (List.mem_cons_of_mem _ hq)) (fun q hq => h q (List.mem_cons_of_mem _ hq))
      rw [qCb, List.length_append, List.length_cons]
      omega
  have hrl := key rs hS (fun r hr => (hRV.each r hr).2.2)
  have eF : qRo s rs.length = [66, 76, 70, 1, s.1, s.2.1 / 256, s.2.1 % 256, (rs.length : Int)] := by
    unfold qRo
    rw [wu8, wu8, wu8, wu8, qll _ (by omega)]
    have e1 : s.1 % 256 = s.1 := by omega
    have e2 : s.2.1 / 256 % 256 = s.2.1 / 256 := by omega
    have e3 : (rs.length : Int) % 256 = rs.length := by omega
    rw [e1, e2, e3]
  have hbl : (qte s rs).length = 8 + (qCb rs).length := by unfold qte; rw [List.length_append, eF]; rfl
  have ea : qDf s rs ++ post = [66, 76, 70, 1, s.1, s.2.1 / 256, s.2.1 % 256, (rs.length : Int)] ++ (qCb rs ++ (qjh (qte s rs) ++ post)) := by
    have hB : qte s rs = [66, 76, 70, 1, s.1, s.2.1 / 256, s.2.1 % 256, (rs.length : Int)] ++ qCb rs := by unfold qte; rw [eF]
    unfold qDf
    rw [List.append_assoc]
    generalize qjh (qte s rs) = hh
    rw [hB, List.append_assoc]
  have eb : qDf s rs ++ post = qte s rs ++ (qjh (qte s rs) ++ post) := by unfold qDf; rw [List.append_assoc]
  have hsl : (qjh (qte s rs)).length = 20 := qkf _
  generalize ha : qDf s rs ++ post = a at *
  have hal : a.length = 28 + (qCb rs).length + post.length := by rw [eb, List.length_append, List.length_append, hbl, hsl]; omega
  have g4 : a.getD 4 0 = s.1 := by rw [ea]; rfl
  have g5 : a.getD 5 0 = s.2.1 / 256 := by rw [ea]; rfl
  have g6 : a.getD 6 0 = s.2.1 % 256 := by rw [ea]; rfl
  have g7 : a.getD 7 0 = rs.length := by rw [ea]; rfl
  have d8 : a.drop 8 = qCb rs ++ (qjh (qte s rs) ++ post) := by rw [ea]; rfl
  have t4 : a.take 4 = magic := by rw [ea]; rfl
  have esH : sH a = s := by
    unfold sH
    rw [g4, g5, g6, show s.2.1 / 256 * 256 + s.2.1 % 256 = s.2.1 by omega]
  have hrd : rdM (a.drop 8) (a.getD 7 0) = (rs, (((qCb rs).length : Int), 0)) := by
    have h8 : (a.drop 8).length ≤ 50000 := by rw [List.length_drop]; omega
    have := qHr (a.drop 8) (qjh (qte s rs) ++ post) rs [] 0 (fun r hr => ⟨(hRV.each r hr).2.2, (hRV.each r hr).1, (hRV.each r hr).2.1⟩) hS hv (by rw [List.drop_zero, d8])
    unfold rdM
    rw [if_neg (by omega), if_neg (by omega), g7, show ((rs.length : Int)).toNat = rs.length by omega, this, Nat.zero_add, List.nil_append]
  have e8 : a.take (8 + (qCb rs).length) = qte s rs := by rw [eb, ← hbl, List.take_left]
  have e9 : (a.drop (8 + (qCb rs).length)).take 20 = qjh (qte s rs) := by rw [eb, ← hbl, List.drop_left, ← hsl, List.take_left]
  unfold hdP
  rw [hrd, esH]
  simp only
  rw [if_neg (by omega), if_neg (by omega), if_neg (fun h => by
    rcases h with h | h | h
    · exact h t4
    · exact h hc
    · omega), if_neg (fun h => h rfl), if_neg (by omega), show ((((qCb rs).length : Nat) : Int)).toNat = (qCb rs).length by omega, e8, e9, if_neg (fun h => h rfl)]
def qUs : List qca → List Int
  | [] => []
  | b :: bs => bB b ++ qUs bs
def Fit : List qca → List qfa → Prop
  | [], [] => True
  | b :: bs, p :: ps => (bC b = 0 ∧ bWf b ∧ isP b.1 p) ∧ Fit bs ps
  | _, _ => False
theorem qgv {b : qca} (h : bWf b) : (bB b).length = 41 + b.2.1.length := by
  unfold bB hB
  simp only [List.length_append, qSf, qdm, h.2]
theorem qdv (s : qpa) (rs : List qaa) (a : List Int) (hal : a.length ≤ 40000) : ∀ (bs : List qca) (ps : List qfa) (p : Nat) (hs : List qga) (cs : List qca), Fit bs ps → p ≤ a.length → a.drop p = qUs bs →
    qyw a s rs ps p hs cs = ((s, (rs, (hs ++ bs.map (·.1), ()))), (cs ++ bs, 0))
  | [], [], p, hs, cs, hF, hp, ha => by
    have := congrArg List.length ha
    rw [List.length_drop] at this
    have h0 : (qUs []).length = 0 := rfl
    unfold qyw
    rw [if_neg (by omega), List.map_nil, List.append_nil, List.append_nil]
  | [], p0 :: ps, p, hs, cs, hF, hp, ha => by cases hF
  | b :: bs, [], p, hs, cs, hF, hp, ha => by cases hF
  | b :: bs, p0 :: ps, p, hs, cs, hF, hp, ha => by
    obtain ⟨⟨h1, h2, h3⟩, hF'⟩ := hF
    have hlen := congrArg List.length ha
    rw [List.length_drop, qUs, List.length_append, qgv h2] at hlen
    have hrd : rdB (a.drop p) = (b, (b.1.2.2.2.2.1 + 41, 0)) := by
      rw [ha, qUs]
      exact qFC h1 h2 (by omega)
    have ok : hOK b.1 ∧ (b.2.1.length : Int) = b.1.2.2.2.2.1 := by
      unfold bC at h1; split at h1
      · assumption
      · cases h1
    have ih := qdv s rs a hal bs ps (p + (b.1.2.2.2.2.1 + 41).toNat) (hs ++ [b.1]) (cs ++ [b]) hF' (by omega) (by
      rw [← List.drop_drop, ha, qUs, show (b.1.2.2.2.2.1 + 41).toNat = (bB b).length by rw [qgv h2]; omega, List.drop_left])
    unfold qyw
    rw [hrd, if_neg (fun k => k rfl), if_neg (fun k => k h3), ih, List.map_cons, List.append_assoc, List.append_assoc]
    rfl
def qxi (s : qpa) (rs : List qaa) (bs : List qca) : List Int := qDf s rs ++ qUs bs
theorem qqn {s : qpa} {rs : List qaa} : (qDf s rs).length = 28 + (qCb rs).length := by
  unfold qDf qte
  rw [List.length_append, List.length_append, qkf]
  show 8 + _ + 20 = _
  omega
theorem qKs {s : qpa} {rs : List qaa} {bs : List qca} (hc : chk s = 0) (hv : qoe rs = 0) (hS : SumsOK rs) (hF : Fit bs (ap s.2.1 0 rs)) (hl : (qxi s rs bs).length ≤ 40000) : qkq (qxi s rs bs) = ((s, (rs, (bs.map (·.1), ()))), (bs, 0)) := by
  have hl2 : (qxi s rs bs).length = 28 + (qCb rs).length + (qUs bs).length := by unfold qxi; rw [List.length_append, qqn]
  have hh : hdP (qxi s rs bs) = (s, (rs, (28 + ((qCb rs).length : Int), 0))) := qMx hc hv hS (by omega)
  have hd : (qxi s rs bs).drop (28 + (qCb rs).length) = qUs bs := by unfold qxi; rw [← qqn (s := s), List.drop_left]
  have := qdv s rs (qxi s rs bs) hl bs (ap s.2.1 0 rs) (28 + (qCb rs).length) [] [] hF (by omega) hd
  unfold qkq
  rw [hh, if_neg (fun k => k rfl)]
  simp only
  rw [show (28 + ((qCb rs).length : Int)).toNat = 28 + (qCb rs).length by omega, this, List.nil_append, List.nil_append]
open Classical
def Gen (D : Nat → List Int) (q : qma) : Prop := 0 ≤ q.1.1 ∧ 0 ≤ q.1.2.1 ∧ q.1.2.1.toNat + q.2.1.length ≤ (D q.1.1.toNat).length ∧ q.2.1 = ((D q.1.1.toNat).drop q.1.2.1.toNat).take q.2.1.length
def InP (rs : List qaa) (i0 : Int) (p : qfa) : Prop := i0 ≤ p.1 ∧ p.1 < i0 + rs.length ∧ 0 ≤ p.2.1 ∧ 1 ≤ p.2.2.1 ∧ p.2.1 + p.2.2.1 ≤ (rs.getD (p.1 - i0).toNat (qja qba)).2.1
theorem qbA (i n s : Int) (hs : 1 ≤ s) : ∀ (k : Nat) (off : Int), 0 ≤ off → ∀ p ∈ pcs i n s k off, p.1 = i ∧ off ≤ p.2.1 ∧ 1 ≤ p.2.2.1 ∧ p.2.2.1 ≤ s ∧ p.2.1 + p.2.2.1 ≤ n
  | 0, off, h0, p, hp => by cases hp
  | k + 1, off, h0, p, hp => by
    rw [pcs] at hp
    by_cases h : off < n
    · rw [if_pos h] at hp
      rcases List.mem_cons.1 hp with rfl | hp
      · refine ⟨rfl, Int.le_refl _, ?_⟩
        simp only
        split <;> omega
      · obtain ⟨a, b, c, d, e⟩ := qbA i n s hs k (off + s) (by omega) p hp
        exact ⟨a, by omega, c, d, e⟩
    · rw [if_neg h] at hp; cases hp
theorem qpC (s : Int) (hs : 1 ≤ s) : ∀ (rs : List qaa) (i0 : Int), ∀ p ∈ ap s i0 rs, InP rs i0 p ∧ p.2.2.1 ≤ s
  | [], i0, p, hp => by cases hp
  | r :: rs, i0, p, hp => by
    rw [ap] at hp
    rcases List.mem_append.1 hp with hp | hp
    · obtain ⟨a, b, c, d, e⟩ := qbA i0 r.2.1 s hs 8200 0 (Int.le_refl _) p hp
      refine ⟨⟨by omega, by rw [List.length_cons]; omega, by omega, c, ?_⟩, d⟩
      rw [show (p.1 - i0).toNat = 0 by omega]
      exact e
    · obtain ⟨⟨a, b, c, d, e⟩, f⟩ := qpC s hs rs (i0 + 1) p hp
      refine ⟨⟨by omega, by rw [List.length_cons]; omega, c, d, ?_⟩, f⟩
      rw [show (p.1 - i0).toNat = (p.1 - (i0 + 1)).toNat + 1 by omega, List.getD_cons_succ]
      exact e
def ptD (D : Nat → List Int) (p : qfa) : qma := (p, ((((D p.1.toNat).drop p.2.1.toNat).take p.2.2.1.toNat), ()))
theorem qOA {D : Nat → List Int} {rs : List qaa} (hD : ∀ i, i < rs.length → ((D i).length : Int) = (rs.getD i (qja qba)).2.1) {p : qfa} (h : InP rs 0 p) : Gen D (ptD D p) ∧ ((ptD D p).2.1.length : Int) = p.2.2.1 := by
  obtain ⟨a, b, c, d, e⟩ := h
  rw [Int.sub_zero] at e
  have hl := hD p.1.toNat (by omega)
  have hlen : (ptD D p).2.1.length = p.2.2.1.toNat := by
    unfold ptD
    simp only [List.length_take, List.length_drop]
    omega
  refine ⟨⟨a, c, ?_, ?_⟩, by omega⟩
  · rw [hlen]
    show p.2.1.toNat + p.2.2.1.toNat ≤ (D p.1.toNat).length
    omega
  · rw [hlen]; rfl
def stB (D : Nat → List Int) (p : qfa) : qca := qZf p.1 p.2.1 (ptD D p).2.1
open Classical
structure Arc (D : Nat → List Int) (rs : List qaa) : Prop where
  val : qoe rs = 0
  sums : SumsOK rs
  sz : ∀ i, i < rs.length → ((D i).length : Int) = (rs.getD i (qja qba)).2.1
  sum : ∀ i, i < rs.length → (rs.getD i (qja qba)).2.2.1 = qjh (D i)
  bts : ∀ i, Bts (D i)
def psA (rs : List qaa) : List qfa := ap 16 0 rs
def bsA (D : Nat → List Int) (rs : List qaa) : List qca := (psA rs).map (stB D)
def sA : qpa := (0, (16, ()))
def qAw (D : Nat → List Int) (rs : List qaa) : List Int := qxi sA rs (bsA D rs)
theorem Arc.piece {D : Nat → List Int} {rs : List qaa} (h : Arc D rs) {p : qfa} (hp : p ∈ psA rs) : InP rs 0 p ∧ p.2.2.1 ≤ 16 ∧ mOK p.1 p.2.1 (ptD D p).2.1 ∧ Bts (ptD D p).2.1 ∧ ((ptD D p).2.1.length : Int) = p.2.2.1 ∧ Gen D (ptD D p) := by
  have hV := qxc h.val
  obtain ⟨hi, h16⟩ := qpC 16 (by decide) rs 0 p hp
  obtain ⟨g, gl⟩ := qOA h.sz hi
  have hl := hV.len
  obtain ⟨a, b, c, d, e⟩ := id hi
  have hm : rs.getD (p.1 - 0).toNat (qja qba) ∈ rs := qRq (P := fun r => r ∈ rs) (fun r hr => hr) _ (by omega)
  have hr := (hV.each _ hm).2.1
  refine ⟨hi, h16, ?_, ((h.bts _).drop _).take _, gl, g⟩
  unfold mOK
  refine ⟨?_, ?_, ?_, ?_, ?_, ?_⟩ <;> omega
theorem Arc.fit {D : Nat → List Int} {rs : List qaa} (h : Arc D rs) : ∀ ps : List qfa, (∀ p ∈ ps, p ∈ psA rs) → Fit (ps.map (stB D)) ps
  | [], _ => trivial
  | p :: ps, hp => by
    obtain ⟨a, b, c, d, e, f⟩ := h.piece (hp p List.mem_cons_self)
    exact ⟨⟨qIw c, qvj _ _ _, rfl, rfl, e⟩, h.fit ps (fun q hq => hp q (List.mem_cons_of_mem _ hq))⟩
theorem qev (D : Nat → List Int) : ∀ ps : List qfa, (∀ p ∈ ps, 1 ≤ (ptD D p).2.1.length ∧ ((ptD D p).2.1.length : Int) = p.2.2.1) → ((qUs (ps.map (stB D))).length : Int) ≤ 42 * (ps.map (fun p => p.2.2.1)).foldr (· + ·) 0
  | [], _ => by show (0 : Int) ≤ 42 * 0; decide
  | p :: ps, h => by
    have h1 := h p List.mem_cons_self
    have ih := qev D ps (fun q hq => h q (List.mem_cons_of_mem _ hq))
    have hb := qgv (b := stB D p) (qvj _ _ _)
    have hz : (stB D p).2.1.length = (ptD D p).2.1.length := rfl
    rw [List.map_cons, qUs, List.length_append, hb, hz, List.map_cons, List.foldr_cons]
    omega
theorem qmx (i n s : Int) (hs : 1 ≤ s) : ∀ (k : Nat) (off : Int), 0 ≤ off → off ≤ n → ((pcs i n s k off).map (fun p => p.2.2.1)).foldr (· + ·) 0 ≤ n - off
  | 0, off, _, h => by show (0 : Int) ≤ n - off; omega
  | k + 1, off, h0, h => by
    rw [pcs]
    by_cases hlt : off < n
    · rw [if_pos hlt, List.map_cons, List.foldr_cons]
      by_cases h2 : s < n - off
      · have := qmx i n s hs k (off + s) (by omega) (by omega)
        simp only
        rw [if_pos h2]
        omega
      · have hn : pcs i n s k (off + s) = [] := by
          cases k with
          | zero => rfl
          | succ k => rw [pcs, if_neg (by omega)]
        simp only
        rw [if_neg h2, hn]
        show (n - off) + 0 ≤ n - off
        omega
    · rw [if_neg hlt]
      show (0 : Int) ≤ n - off
      omega
theorem qVx (a b : List Int) : (a ++ b).foldr (· + ·) 0 = a.foldr (· + ·) 0 + b.foldr (· + ·) 0 := by
  induction a with
  | nil => show b.foldr (· + ·) 0 = 0 + b.foldr (· + ·) 0; omega
  | cons x a ih => rw [List.cons_append, List.foldr_cons, List.foldr_cons, ih]; omega
theorem qsA (s : Int) (hs : 1 ≤ s) : ∀ (rs : List qaa) (i : Int), (∀ r ∈ rs, 0 ≤ r.2.1) → ((ap s i rs).map (fun p => p.2.2.1)).foldr (· + ·) 0 ≤ tot rs
  | [], i, _ => by show (0 : Int) ≤ 0; decide
  | r :: rs, i, h => by
    have h1 := qmx i r.2.1 s hs 8200 0 (Int.le_refl _) (h r List.mem_cons_self)
    have ih := qsA s hs rs (i + 1) (fun q hq => h q (List.mem_cons_of_mem _ hq))
    rw [ap, List.map_append, qVx, tot]
    omega
theorem qSn : ∀ (rs : List qaa), SumsOK rs → (∀ r ∈ rs, r.1.size ≤ 40) → (qCb rs).length ≤ 63 * rs.length
  | [], _, _ => Nat.le_refl _
  | r :: rs, hS, h => by
    have h1 := qQh r (hS r List.mem_cons_self).1
    have h2 := h r List.mem_cons_self
    have h3 := qSn rs (fun q hq => hS q (List.mem_cons_of_mem _ hq)) (fun q hq => h q (List.mem_cons_of_mem _ hq))
    rw [qCb, List.length_append, List.length_cons]
    omega
theorem Arc.len {D : Nat → List Int} {rs : List qaa} (h : Arc D rs) (ht : tot rs ≤ 80) : (qAw D rs).length ≤ 5000 ∧ (qAw D rs).length = 28 + (qCb rs).length + (qUs (bsA D rs)).length ∧ (psA rs).length ≤ 80 := by
  have hV := qxc h.val
  have hl := hV.len
  have h1 := qSn rs h.sums (fun r hr => (hV.each r hr).2.2)
  have h2 := qev D (psA rs) (fun p hp => by
    obtain ⟨a, b, c, d, e, f⟩ := h.piece hp
    exact ⟨c.2.2.1, e⟩)
  have h3 := qsA 16 (by decide) rs 0 (fun r hr => (hV.each r hr).1)
  have e : (qAw D rs).length = 28 + (qCb rs).length + (qUs (bsA D rs)).length := by unfold qAw qxi; rw [List.length_append, qqn]
  have key : ∀ ps : List qfa, (∀ p ∈ ps, 1 ≤ p.2.2.1) → (ps.length : Int) ≤ (ps.map (fun p => p.2.2.1)).foldr (· + ·) 0 := by
    intro ps
    induction ps with
    | nil => intro _; show (0 : Int) ≤ 0; decide
    | cons p ps ih =>
      intro hp
      have := ih (fun q hq => hp q (List.mem_cons_of_mem _ hq))
      have := hp p List.mem_cons_self
      rw [List.map_cons, List.foldr_cons, List.length_cons]
      omega
  have h4 := key (psA rs) (fun p hp => (h.piece hp).1.2.2.2.1)
  unfold bsA at e
  have e3 : ((psA rs).map (fun p => p.2.2.1)).foldr (· + ·) 0 ≤ tot rs := h3
  refine ⟨?_, e, ?_⟩ <;> omega
theorem Arc.read {D : Nat → List Int} {rs : List qaa} (h : Arc D rs) (ht : tot rs ≤ 80) : qkq (qAw D rs) = ((sA, (rs, ((bsA D rs).map (·.1), ()))), (bsA D rs, 0)) :=
  qKs (s := sA) (by decide) h.val h.sums (h.fit (psA rs) (fun p hp => hp)) (by have := (h.len ht).1; unfold qAw at this; omega)
def qax (m : qla) : qaa := (m.1, ((m.2.1.length : Int), (qjh m.2.1, ())))
def recs (l : List qla) : List qaa := l.map qax
structure MemsOK (l : List qla) : Prop where
  nm : ∀ m ∈ l, m.1.size ≤ 9223372036854775807
  ln : ∀ m ∈ l, m.2.1.length ≤ 140737488355328
  bt : ∀ m ∈ l, Bts m.2.1
theorem qDq (l : List qla) {i : Nat} (h : i < l.length) : l.drop i = l.getD i (qja qka) :: l.drop (i + 1) ∧ l.getD i (qja qka) ∈ l ∧ l.take (i + 1) = l.take i ++ [l.getD i (qja qka)] :=
  ⟨(qJa (qja qka) h).1, (qJa (qja qka) h).2.2, (qJa (qja qka) h).2.1⟩
theorem qNg (l : List qla) : (recs l).length = l.length := List.length_map ..
theorem qmk : ∀ l : List qla, 0 ≤ tot (recs l)
  | [] => Int.le_refl _
  | m :: l => by
    have := qmk l
    show 0 ≤ (m.2.1.length : Int) + tot (recs l)
    omega
theorem qaq (l : List qla) (i : Nat) (h : i < l.length) : (l.getD i (qja qka)).1 = (names (recs l)).getD i ByteArray.empty := by
  unfold names recs
  rw [List.map_map, List.getD_eq_getElem?_getD, List.getD_eq_getElem?_getD, List.getElem?_map, List.getElem?_eq_getElem h]
  rfl
theorem qSl (l : List qla) : (names (recs l)).length = l.length := by unfold names; rw [List.length_map, qNg]
theorem qlv (l : List qla) (hn : l.length ≤ 16) (i : Nat) (hi : i < l.length) : ∀ (k j : Nat), j + k = i → qnc l (i : Int) (j : Int) = if qNv ((names (recs l)).getD i ByteArray.empty) (((names (recs l)).take i).drop j) then some 14 else qmb l ((i : Int) + 1)
  | 0, j, e => by
    have hd : ((names (recs l)).take i).drop j = [] := List.drop_eq_nil_of_le (by rw [List.length_take]; omega)
    rw [qje, if_neg (by simp; omega), hd, w64 (by omega) (by omega)]
    simp [qNv]
  | k + 1, j, e => by
    have hl' : Int.ofNat l.length = (l.length : Int) := rfl
    have hnl := qSl l
    have ih := qlv l hn i hi k (j + 1) (by omega)
    rw [show ((j + 1 : Nat) : Int) = (j : Int) + 1 by omega] at ih
    rw [qje, if_pos (by simp; omega), qea (by omega), qea (by rw [hl']; omega), qea (by omega), qea (by rw [hl']; omega), Int.toNat_natCast, Int.toNat_natCast, qaq l j (by omega), qaq l i hi, w64 (x := (j : Int) + 1) (by omega) (by omega), ih, qDx (j := j) (i := i) (by omega) (by omega), qtD]
    by_cases h : (names (recs l)).getD j ByteArray.empty = (names (recs l)).getD i ByteArray.empty
    · rw [decide_eq_true h, decide_eq_true h.symm]; simp
    · rw [decide_eq_false h, decide_eq_false (fun e => h e.symm)]; simp
theorem qmv (l : List qla) (hn : l.length ≤ 16) : ∀ (k i : Nat), i + k = l.length → qmb l (i : Int) = some (if qbw ((names (recs l)).take i) ((names (recs l)).drop i) then 14 else 0)
  | 0, i, e => by
    have hnl := qSl l
    rw [qke, if_neg (by simp; omega), List.drop_eq_nil_of_le (by omega)]; rfl
  | k + 1, i, e => by
    have hnl := qSl l
    obtain ⟨d1, d2⟩ := qXu (xs := names (recs l)) (i := i) (by omega)
    have ih := qmv l hn k (i + 1) (by omega)
    rw [show ((i + 1 : Nat) : Int) = (i : Int) + 1 by omega] at ih
    have h3 := qlv l hn i (by omega) i 0 (by omega)
    rw [qke, if_pos (by simp; omega)]
    refine Eq.trans h3 ?_
    rw [ih, List.drop_zero, d1, qbw, ← d2]
    cases qNv ((names (recs l)).getD i ByteArray.empty) ((names (recs l)).take i) <;> simp
theorem qnv (l : List qla) (hM : MemsOK l) (hn : l.length ≤ 16) : ∀ (k i : Nat), i + k = l.length → qFb l (i : Int) = if (l.drop i).all (fun m => qxw m.1) = true then qmb l 0 else some 8
  | 0, i, e => by
    rw [qle, if_neg (by simp; omega), List.drop_eq_nil_of_le (by omega)]
    rfl
  | k + 1, i, e => by
    have hl' : Int.ofNat l.length = (l.length : Int) := rfl
    obtain ⟨d1, d2, d3⟩ := qDq l (i := i) (by omega)
    have ih := qnv l hM hn k (i + 1) (by omega)
    rw [show ((i + 1 : Nat) : Int) = (i : Int) + 1 by omega] at ih
    rw [qle, if_pos (by simp; omega), qea (by omega), qea (by rw [hl']; omega), Int.toNat_natCast, d1, qRn _ (hM.nm _ d2), Option.bind_some, w64 (x := (i : Int) + 1) (by omega) (by omega), ih, List.all_cons]
    cases qxw (l.getD i (qja qka)).1 with
    | false => rfl
    | true => rw [Bool.true_and]; rfl
theorem qov (l : List qla) (hM : MemsOK l) (hn : l.length ≤ 16) : ∀ (k i : Nat) (acc : Int), i + k = l.length → 0 ≤ acc → acc ≤ 140737488355328 * i → qoc l acc (i : Int) = if acc + tot (recs (l.drop i)) > 8192 then some 4 else qFb l 0
  | 0, i, acc, e, a0, a1 => by
    rw [qme, if_neg (by simp; omega), List.drop_eq_nil_of_le (by omega)]
    have : tot (recs []) = 0 := rfl
    rw [this, Int.add_zero]
    by_cases h : acc > 8192
    · rw [if_pos (by simpa using h), if_pos h]
    · rw [if_neg (by simpa using h), if_neg h]
  | k + 1, i, acc, e, a0, a1 => by
    have hl' : Int.ofNat l.length = (l.length : Int) := rfl
    obtain ⟨d1, d2, d3⟩ := qDq l (i := i) (by omega)
    have hln := hM.ln _ d2
    have ih := fun a h0 h1 => qov l hM hn k (i + 1) a (by omega) h0 h1
    rw [show ((i + 1 : Nat) : Int) = (i : Int) + 1 by omega] at ih
    rw [qme, if_pos (by simp; omega), qea (by omega), qea (by rw [hl']; omega), Int.toNat_natCast, d1]
    simp only [Int.ofNat_eq_natCast]
    rw [w64 (x := (i : Int) + 1) (by omega) (by omega), w64 (by omega) (by omega), ih _ (by omega) (by omega)]
    have e2 : tot (recs (l.getD i (qja qka) :: l.drop (i + 1))) = ((l.getD i (qja qka)).2.1.length : Int) + tot (recs (l.drop (i + 1))) := rfl
    rw [e2, Int.add_assoc]
def mck (l : List qla) : Int := if l.length > 16 then 4 else if tot (recs l) > 8192 then 4 else if l.all (fun m => qxw m.1) = true then (if qbw [] (names (recs l)) then 14 else 0) else 8
theorem qRs (l : List qla) (hM : MemsOK l) : qYc l = some (mck l) := by
  have hl' : Int.ofNat l.length = (l.length : Int) := rfl
  rw [qkj, hl', mck]
  by_cases h : l.length > 16
  · rw [if_pos (by simp; omega), if_pos h]
  · have h1 := qov l hM (by omega) l.length 0 0 (by omega) (Int.le_refl _) (Int.le_refl _)
    have h2 := qnv l hM (by omega) l.length 0 (by omega)
    have h3 := qmv l (by omega) l.length 0 (by omega)
    rw [List.drop_zero] at h1 h2 h3
    rw [if_neg (by simp; omega), if_neg h]
    refine Eq.trans h1 ?_
    rw [Int.zero_add]
    by_cases ht : tot (recs l) > 8192
    · rw [if_pos ht, if_pos ht]
    · rw [if_neg ht, if_neg ht]
      refine Eq.trans h2 ?_
      by_cases ha : l.all (fun m => qxw m.1) = true
      · rw [if_pos ha, if_pos ha]
        exact h3
      · rw [if_neg ha, if_neg ha]
theorem qgu : ∀ (l : List qla) (acc : Int) (nm : List ByteArray), l.all (fun m => qxw m.1) = true → 0 ≤ acc → acc + tot (recs l) ≤ 8192 → qbw [] (nm ++ names (recs l)) = false → vld acc nm (recs l) = 0
  | [], acc, nm, h1, h2, h3, h4 => by
    have e : tot (recs []) = 0 := rfl
    have e2 : names (recs []) = [] := rfl
    rw [e] at h3
    rw [e2, List.append_nil] at h4
    show (if acc > 8192 then 4 else if qbw [] nm then 14 else 0) = 0
    rw [if_neg (by omega), if_neg (by rw [h4]; decide)]
  | m :: l, acc, nm, h1, h2, h3, h4 => by
    rw [List.all_cons, Bool.and_eq_true] at h1
    have e : tot (recs (m :: l)) = (m.2.1.length : Int) + tot (recs l) := rfl
    have hn := qmk l
    rw [e] at h3
    have hb : ¬ qzw (qax m) = true := by
      unfold qzw
      have hs : (qax m).2.1 = (m.2.1.length : Int) := rfl
      rw [show (qax m).1 = m.1 from rfl, h1.1, hs, decide_eq_false (by omega), decide_eq_false (by omega)]
      by_cases h0 : m.2.1.length = 0
      · have : m.2.1 = [] := List.length_eq_zero_iff.1 h0
        have e3 : (qax m).2.2.1 = qjh [] := by show qjh m.2.1 = _; rw [this]
        rw [e3]
        have : peq (.arr 20 (.int .u8)) (qjh []) (qjh []) = true := qZy _
        rw [this]; simp
      · have : (((m.2.1.length : Nat) : Int) == 0) = false := by rw [beq_eq_false_iff_ne]; omega
        rw [this]; simp
    show (if qzw (qax m) then 8 else vld (acc + (qax m).2.1) (nm ++ [(qax m).1]) (recs l)) = 0
    rw [if_neg hb]
    refine qgu l _ _ h1.2 (by show 0 ≤ acc + (m.2.1.length : Int); omega) (by show acc + (m.2.1.length : Int) + tot (recs l) ≤ 8192; omega) ?_
    rw [List.append_assoc]
    exact h4
def qti (l : List qla) (i : Nat) : List Int := (l.getD i (qja qka)).2.1
theorem qsq (l : List qla) (i : Nat) (h : i < l.length) : (recs l).getD i (qja qba) = qax (l.getD i (qja qka)) := by
  unfold recs
  rw [List.getD_eq_getElem?_getD, List.getElem?_map, List.getElem?_eq_getElem h, List.getD_eq_getElem?_getD, List.getElem?_eq_getElem h]
  rfl
theorem qrA {l : List qla} (hM : MemsOK l) (h : mck l = 0) : Arc (qti l) (recs l) ∧ l.length ≤ 16 ∧ tot (recs l) ≤ 8192 := by
  unfold mck at h
  by_cases h1 : l.length > 16
  · rw [if_pos h1] at h; cases h
  rw [if_neg h1] at h
  by_cases h2 : tot (recs l) > 8192
  · rw [if_pos h2] at h; cases h
  rw [if_neg h2] at h
  by_cases h3 : l.all (fun m => qxw m.1) = true
  · rw [if_pos h3] at h
    have h4 : qbw [] (names (recs l)) = false := by
      cases hd : qbw [] (names (recs l)) with
      | false => rfl
      | true => rw [hd] at h; cases h
    refine ⟨⟨?_, fun r hr => ?_, fun i hi => ?_, fun i hi => ?_, fun i => ?_⟩, by omega, by omega⟩
    · unfold qoe
      rw [qNg, if_neg h1]
      exact qgu l 0 [] h3 (Int.le_refl _) (by omega) h4
    · obtain ⟨m, hm, rfl⟩ := List.mem_map.1 hr
      exact ⟨qkf _, qlu _⟩
    · rw [qNg] at hi
      rw [qsq l i hi]; rfl
    · rw [qNg] at hi
      rw [qsq l i hi]; rfl
    · exact qSx (P := fun m : qla => Bts m.2.1) hM.bt Bts.nil i
  · rw [if_neg h3] at h; cases h
theorem qOy (l : List qla) (hM : MemsOK l) (hn : l.length ≤ 16) (hs : tot (recs l) ≤ 8192) : ∀ (k i : Nat), i + k = l.length → qXc l (i : Int) (recs (l.take i)) = some (recs l, 0)
  | 0, i, e => by
    rw [qFf, if_neg (by simp; omega), List.take_of_length_le (by omega)]
  | k + 1, i, e => by
    have hl' : Int.ofNat l.length = (l.length : Int) := rfl
    obtain ⟨d1, d2, d3⟩ := qDq l (i := i) (by omega)
    have ih := qOy l hM hn hs k (i + 1) (by omega)
    have hmem : ∀ (l : List qla) (m : qla), m ∈ l → (m.2.1.length : Int) ≤ tot (recs l) := by
      intro l
      induction l with
      | nil => intro m hm; cases hm
      | cons x l ih =>
        intro m hm
        have e : tot (recs (x :: l)) = (x.2.1.length : Int) + tot (recs l) := rfl
        have hnn := qmk l
        rw [e]
        rcases List.mem_cons.1 hm with rfl | hm
        · omega
        · have := ih m hm; omega
    have hml := hmem l _ d2
    have hrec : qde (l.getD i (qja qka)) = some (qax (l.getD i (qja qka))) := by
      rw [qui, qau _ (by omega)]; rfl
    have ht : recs (l.take (i + 1)) = recs (l.take i) ++ [qax (l.getD i (qja qka))] := by
      rw [d3]; unfold recs; rw [List.map_append]; rfl
    have hrl : (recs (l.take i)).length = i := by rw [qNg, List.length_take]; omega
    rw [ht, show ((i + 1 : Nat) : Int) = (i : Int) + 1 by omega] at ih
    rw [qFf, if_pos (by simp; omega), qea (by omega), qea (by rw [hl']; omega), Int.toNat_natCast, hrec, Option.bind_some, qea (by rw [List.length_append, hrl]; show (i + 1) * 48 ≤ _; omega), w64 (x := (i : Int) + 1) (by omega) (by omega), ih]
theorem qNs (l : List qla) (hM : MemsOK l) (h : mck l = 0) : qtd l = some (recs l, 0) := by
  obtain ⟨_, hn, hs⟩ := qrA hM h
  rw [qxl, qRs l hM, Option.bind_some, if_neg (by rw [h]; decide)]
  exact qOy l hM hn hs l.length 0 (by omega)
theorem qOs {a1 a2 : Int} {z : List Int} (hl : z.length ≤ 5000) : qBd a1 a2 z z = some (qZf a1 a2 z) := by
  rw [qMj]
  simp only [Int.ofNat_eq_natCast, List.nil_append]
  exact Tot.eq (Tot.g (by omega) (Tot.ifd_neg (by omega) (Tot.be (qrq _ ⟨by show (0:Int) ≤ 1; decide, by show (1:Int) < 256; decide⟩ (by omega)) (Tot.so rfl))))
theorem qSs {b : qca} (hw : bWf b) (hl : b.2.1.length ≤ 5000) : qNe b = some (bB b) := by
  have h1 : (mark ++ hB b.1).length = 41 := by unfold hB; simp only [List.length_append, qSf, qdm, hw.2]
  rw [qmj]
  exact Tot.eq (Tot.be qRm (Tot.be (qQm b.1 hw.1 hw.2) (Tot.g (by omega) (Tot.g (by rw [List.length_append]; omega) (Tot.so rfl)))))
theorem qbu (bs : List qca) (hb : ∀ b ∈ bs, bWf b ∧ b.2.1.length ≤ 5000) (hl : bs.length ≤ 10000) : ∀ (k i : Nat) (out : List Int), i + k = bs.length → out.length ≤ 10000 + 6000 * i → quc bs (i : Int) out = some (out ++ qUs (bs.drop i))
  | 0, i, out, e, ho => by
    rw [qKe, if_neg (by simp; omega), List.drop_eq_nil_of_le (by omega), qUs, List.append_nil]
  | k + 1, i, out, e, ho => by
    have hd := qJa (qja qna : qca) (xs := bs) (i := i) (by omega)
    have hx := hb _ hd.2.2
    have ih := fun out ho => qbu bs hb hl k (i + 1) out (by omega) ho
    rw [show ((i + 1 : Nat) : Int) = (i : Int) + 1 by omega] at ih
    rw [qKe]
    simp only [Int.ofNat_eq_natCast, Int.toNat_natCast]
    rw [hd.1, qUs, w64 (x := (i : Int) + 1) (by omega) (by omega)]
    generalize bs.getD i (qja qna) = x at *
    have hxl := qgv hx.1
    refine Tot.eq (Tot.ifd_pos (by omega) (Tot.g (by omega) (Tot.g (by omega) (Tot.be (qSs hx.1 hx.2) (Tot.g (by rw [List.length_append]; omega) (Tot.of_eq (ih _ (by rw [List.length_append]; omega)) ?_))))))
    rw [List.append_assoc]
instance (h : qga) : Decidable (hOK h) := by unfold hOK; infer_instance
instance (h : qga) (p : qfa) : Decidable (isP h p) := by unfold isP; infer_instance
instance (a : List Int) (p : Nat) : Decidable (rF a p) := by unfold rF; infer_instance
end Go.Ab

/-
  Extracting: blocks that are read, their parts.
-/
set_option linter.unusedVariables false
set_option linter.unusedSimpArgs false
set_option maxRecDepth 100000
namespace Go.Ab
open Go
attribute [local irreducible] IntKind.wrap
theorem qvx (a : List Int) (hb : Bts a) (s : qpa) (l : qua) (P : List Int) (hP : ∀ x ∈ P, 0 ≤ x ∧ x ≤ a.length) (hPl : P.length ≤ 10000) (h12 : List qaa) (h13 : List qga) :
    ∀ (k i : Nat) (out : List qca), i + k = P.length → out.length = i → qGe a (P.length : Int) (i : Int) s () l out P h12 h13 = some (l, (out ++ (P.drop i).map (fun x => (rdK (a.drop x.toNat)).1), 0))
  | 0, i, out, e, ho => by
    rw [qWg, if_neg (by simp; omega), List.drop_eq_nil_of_le (by omega), List.map_nil, List.append_nil]
  | k + 1, i, out, e, ho => by
    have hd := qJa (0 : Int) (xs := P) (i := i) (by omega)
    have hx := hP _ hd.2.2
    have ih := fun out ho => qvx a hb s l P hP hPl h12 h13 k (i + 1) out (by omega) ho
    rw [show ((i + 1 : Nat) : Int) = (i : Int) + 1 by omega] at ih
    rw [qWg]
    simp only [Int.ofNat_eq_natCast, Int.toNat_natCast, Nat.zero_add]
    rw [hd.1, List.map_cons, w64 (x := (i : Int) + 1) (by omega) (by omega)]
    generalize P.getD i 0 = x at *
    refine Tot.eq (Tot.ifd_pos (by omega) (Tot.g (by omega) (Tot.g (by omega) (Tot.g (by omega) (Tot.g (by omega) (Tot.be (qep _ (hb.drop _)) (Tot.g (by rw [List.length_append, List.length_singleton]; omega) (Tot.of_eq (ih _ (by simp [ho])) ?_))))))))
    rw [List.append_assoc]; rfl
theorem qux {a : List Int} (hb : Bts a) {l : qua} {bs : List qca} (h : qkq a = (l, (bs, 0))) (hR : RecsOK l.2.1) (hS : SumsOK l.2.1) (hL : lck l = 0) (hP : ∀ x ∈ qKr l, 0 ≤ x ∧ x ≤ a.length) (hPl : (qKr l).length ≤ 10000) :
    qcb a = some (l, ((qKr l).map (fun x => (rdK (a.drop x.toNat)).1), 0)) := by
  have hp := qmi l hR hS
  rw [if_pos hL] at hp
  rw [qdj, qek a hb, h]
  refine Tot.eq (Tot.be rfl (Tot.ifne_neg rfl (Tot.be hp ?_)))
  have := qvx a hb (0, (0, ())) l (qKr l) hP hPl [] [] (qKr l).length 0 [] (by omega) rfl
  exact Tot.of_eq this rfl
def qZp (b : qca) : List Int × Int := if qjh (fr8 b.1 ++ b.2.1) = b.1.2.2.2.2.2.1 then (b.2.1, 0) else ([], 22)
def StB (b : qca) : Prop := b.1.1 = 1 ∧ bC b = 0 ∧ Bts b.2.1
theorem StB.raw {lv : Int} (hl : 0 ≤ lv ∧ lv ≤ 7) {b : qca} (h : StB b) : qwl lv b = some (qZp b) := qtw hl h.1 h.2.1 h.2.2
def rsl : List qca → Nat → List qlc
  | [], _ => []
  | b :: r, i => ((i : Int), ((qZp b).1, ((qZp b).2, ()))) :: rsl r (i + 1)
def prt (b : qca) : qma := ((b.1.2.1, (b.1.2.2.1, (b.1.2.2.2.1, ()))), (b.2.1, ()))
def qWn : List qca → Option (List qma)
  | [] => some []
  | b :: r => if (qZp b).2 ≠ 0 then none else (qWn r).map (prt b :: ·)
def qPA : Option (List qma) → List qma × Int
  | some l => (l, 0)
  | none => ([], 22)
theorem qKA {b : qca} (h : (qZp b).2 = 0) : (qZp b).1 = b.2.1 := by
  unfold qZp at h ⊢
  split
  · rfl
  · rename_i hh; rw [if_neg hh] at h; cases h
theorem qiz {b : qca} (h : (qZp b).2 ≠ 0) : (qZp b).2 = 22 := by
  unfold qZp at h ⊢
  split
  · rename_i hh; rw [if_pos hh] at h; exact absurd rfl h
  · rfl
theorem qwu (bs : List qca) (n8 : Nat) (hl : bs.length ≤ 10000) : ∀ (k i : Nat) (dn : List qma), i + k = bs.length → dn.length = i →
    qRc bs (bs.length : Int) (i : Int) n8 (rsl (bs.drop i) i) (dn ++ List.replicate k (qja qsa)) = some (match qWn (bs.drop i) with
      | some l => (dn ++ l, 0)
      | none => ([], 22))
  | 0, i, dn, e, hd => by
    rw [qqg, if_neg (by simp; omega), List.drop_eq_nil_of_le (by omega)]
    rfl
  | k + 1, i, dn, e, hdn => by
    have hd := qJa (qja qna : qca) (xs := bs) (i := i) (by omega)
    have ih := fun dn hdn => qwu bs n8 hl k (i + 1) dn (by omega) hdn
    rw [show ((i + 1 : Nat) : Int) = (i : Int) + 1 by omega] at ih
    rw [qqg, hd.1]
    simp only [rsl, Int.ofNat_eq_natCast, Int.toNat_natCast, Nat.zero_add, List.getD_cons_zero, List.drop_succ_cons, List.drop_zero]
    rw [w64 (x := (i : Int) + 1) (by omega) (by omega)]
    generalize bs.getD i (qja qna) = x at *
    have hset : ∀ y : qma, (dn ++ List.replicate (k + 1) (qja qsa)).set i y = (dn ++ [y]) ++ List.replicate k (qja qsa) := fun y => by
      rw [List.set_append_right _ _ (by omega), hdn, Nat.sub_self, List.replicate_succ, List.set_cons_zero, List.append_assoc]; rfl
    rw [hset]
    refine Tot.eq (Tot.ifd_pos (by omega) (Tot.g (by simp) (Tot.ifne (fun h => Tot.so ?_) (fun h => Tot.g (by omega) (Tot.g (by omega) (Tot.g (by omega) (Tot.g (by simp [hdn]; omega) (Tot.of_eq (ih _ (by simp [hdn])) ?_))))))))
    · rw [qWn, if_pos h, qiz h]
    · rw [qWn, if_neg (by simpa using h), qKA h]
      cases qWn (bs.drop (i + 1)) with
      | none => rfl
      | some l => show (_, _) = (_, _); rw [List.append_assoc]; rfl
theorem qxu (lv : Int) (hlv : 0 ≤ lv ∧ lv ≤ 7) (bs : List qca) (hl : bs.length ≤ 10000) (hs : ∀ b ∈ bs, StB b) : ∀ (k i : Nat), i + k = bs.length →
    ∀ (h8 : List qlc), h8.length = i → qUd lv bs bs (bs.length : Int) (i : Int) bs.length h8 = qRc bs (bs.length : Int) 0 bs.length (h8 ++ rsl (bs.drop i) i) (List.replicate bs.length (qja qsa))
  | 0, i, e, h8, h => by
    rw [qrg, if_neg (by simp; omega), List.drop_eq_nil_of_le (by omega), rsl, List.append_nil]
    simp only [Int.ofNat_eq_natCast]
    rw [qea trivial, qea (by omega), qea (by omega), qea (by omega)]
  | k + 1, i, e, h8, h => by
    have hd := qJa (qja qna : qca) (xs := bs) (i := i) (by omega)
    have ih := qxu lv hlv bs hl hs k (i + 1) (by omega)
    rw [show ((i + 1 : Nat) : Int) = (i : Int) + 1 by omega] at ih
    rw [qrg, hd.1, if_pos (by simp; omega)]
    simp only [Int.ofNat_eq_natCast, Int.toNat_natCast]
    rw [w64 (x := (i : Int) + 1) (by omega) (by omega)]
    have hx := hs _ hd.2.2
    generalize bs.getD i (qja qna) = x at *
    rw [qea (by omega), qea (by omega), hx.raw hlv, Option.bind_some, qea (by omega), ih _ (by simp [h]), rsl, List.append_assoc]
    rfl
theorem qHv (lv : Int) (hlv : 0 ≤ lv ∧ lv ≤ 7) (bs : List qca) (hl : bs.length ≤ 10000) (hs : ∀ b ∈ bs, StB b) : qSb lv bs = some (qPA (qWn bs)) := by
  rw [qbn]
  simp only [Int.ofNat_eq_natCast]
  rw [qea (by omega), qea (by omega), qea (by omega)]
  have h1 := qxu lv hlv bs hl hs bs.length 0 (by omega) [] rfl
  have h2 := qwu bs bs.length hl bs.length 0 [] (by omega) rfl
  simp only [List.drop_zero, List.nil_append, Int.natCast_zero] at h1 h2
  rw [h1, h2]
  cases qWn bs <;> rfl
end Go.Ab

/-
  Extracting: parts are put into members.
-/
set_option linter.unusedVariables false
set_option linter.unusedSimpArgs false
set_option maxRecDepth 100000
namespace Go.Ab
open Go
attribute [local irreducible] IntKind.wrap
def wr {α : Type} : List α → Nat → List α → List α
  | xs, _, [] => xs
  | xs, i, y :: ys => wr (xs.set i y) (i + 1) ys
theorem getD_set_ne {α : Type} {xs : List α} {i j : Nat} {y d : α} (h : i ≠ j) : (xs.set i y).getD j d = xs.getD j d := by
  simp [List.getD_eq_getElem?_getD, List.getElem?_set, h]
theorem qcf {α : Type} {xs : List α} {i : Nat} {y d : α} (h : i < xs.length) : (xs.set i y).getD i d = y := by
  simp [List.getD_eq_getElem?_getD, List.getElem?_set, h]
theorem qnu {α : Type} {xs : List α} {i : Nat} {d : α} (h : i < xs.length) : xs.set i (xs.getD i d) = xs := by
  apply List.ext_getElem?; intro j
  rw [List.getElem?_set]
  by_cases h1 : i = j
  · subst h1; simp [h, List.getD_eq_getElem?_getD]
  · simp [h1]
theorem qBw {α : Type} : ∀ {ys dn : List α} {zs : List α}, ys.length ≤ zs.length → wr (dn ++ zs) dn.length ys = dn ++ ys ++ zs.drop ys.length
  | [], dn, zs, _ => by simp [wr]
  | y :: ys, dn, [], h => by simp at h
  | y :: ys, dn, z :: zs, h => by
    have : (dn ++ z :: zs).set dn.length y = (dn ++ [y]) ++ zs := by
      rw [List.set_append_right _ _ (Nat.le_refl _), Nat.sub_self, List.set_cons_zero, List.append_assoc]; rfl
    rw [wr, this]
    have h2 := qBw (ys := ys) (dn := dn ++ [y]) (zs := zs) (by simpa using h)
    rw [List.length_append, List.length_singleton] at h2
    rw [h2]
    simp
theorem qXx (v32 : List qma) (v33 v34 : Int) (dat : List Int) (m off : Nat) (raw : Int) (hb : off + dat.length ≤ 1000000) : ∀ (rest : List Int) (k : Nat) (h0 : List (ByteArray × List Int)) (h8 : List (List Bool)), dat.drop k = rest → k + rest.length = dat.length →
    m < h0.length → h8.length = h0.length → h0.length ≤ 100000 → (h8.getD m []).length = (h0.getD m (ByteArray.empty, [])).2.length → off + dat.length ≤ (h8.getD m []).length → (∀ j, off + k ≤ j → j < off + dat.length → (h8.getD m []).getD j false = false) →
    qLc v32 v33 v34 dat (dat.length : Int) (k : Int) h0 h8 ((m : Int), ((off : Int), (raw, ()))) =
      qjc v32 v33 (IntKind.wrap .i64 (v34 + 1)) (h0.set m ((h0.getD m (ByteArray.empty, [])).1, wr (h0.getD m (ByteArray.empty, [])).2 (off + k) rest)) (h8.set m (wr (h8.getD m []) (off + k) (rest.map fun _ => true)))
  | [], k, h0, h8, hr, hk, hm, hl, hl2, hs, ho, hf => by
    simp only [List.length_nil] at hk
    rw [qdg, if_neg (by simp; omega)]
    simp only [List.map_nil, wr]
    have t2 : h8.set m (h8.getD m []) = h8 := qnu (by omega)
    have : h0.set m ((h0.getD m (ByteArray.empty, [])).1, (h0.getD m (ByteArray.empty, [])).2) = h0 := qnu hm
    rw [this, t2]
  | b :: rest, k, h0, h8, hr, hk, hm, hl, hl2, hs, ho, hf => by
    simp only [List.length_cons] at hk
    have hd := qJa (0 : Int) (xs := dat) (i := k) (by omega)
    rw [hr] at hd
    obtain ⟨hd1, _⟩ := hd
    injection hd1 with hd1 hd2
    have hw : IntKind.wrap .i64 ((off : Int) + (k : Int)) = ((off + k : Nat) : Int) := by rw [w64 (by omega) (by omega)]; omega
    have hm8 : m < h8.length := by omega
    have hfl := hf (off + k) (Nat.le_refl _) (by omega)
    have hfv : (qUf (a := .str) (e := (.int .u8)) h0).length = h0.length := qVg (a := .str) (e := .int .u8) h0
    have ih := qXx v32 v33 v34 dat m off raw hb rest (k + 1) (h0.set m ((h0.getD m (ByteArray.empty, [])).1, (h0.getD m (ByteArray.empty, [])).2.set (off + k) b)) (h8.set m ((h8.getD m []).set (off + k) true)) hd2.symm (by omega)
      (by rw [List.length_set]; exact hm) (by rw [List.length_set, List.length_set]; exact hl) (by rw [List.length_set]; exact hl2) (by rw [qcf hm8, qcf hm, List.length_set, List.length_set]; exact hs) (by rw [qcf hm8, List.length_set]; exact ho)
      (fun j h1 h2 => by rw [qcf hm8, getD_set_ne (by omega)]; exact hf j (by omega) h2)
    rw [qcf hm8, qcf hm, List.set_set, List.set_set] at ih
    rw [show ((k + 1 : Nat) : Int) = (k : Int) + 1 by omega] at ih
    rw [qdg]
    simp only [hw, hfv, Int.ofNat_eq_natCast, Int.toNat_natCast, Nat.zero_add]
    rw [if_pos (by simp; omega), qea (by omega), qea (by omega), qea (by omega), qea (by omega), qea (by omega), qea (by omega), qea (by omega), if_neg (by rw [hfl]; decide),
      qea (by omega), qea (by omega), qea (by omega), qea (by omega), qea (by omega), qea (by omega), qea (by omega), qea (by omega), qea (by omega), qea (by omega),
      ← hd1, w64 (x := (k : Int) + 1) (by omega) (by omega), ih, List.map_cons, wr, wr]
    rfl
abbrev Mm := List (ByteArray × List Int)
def pM (p : qma) : Nat := p.1.1.toNat
def pO (p : qma) : Nat := p.1.2.1.toNat
def qNA (p : qma) (h0 : Mm) : Mm := h0.set (pM p) ((h0.getD (pM p) (ByteArray.empty, [])).1, wr (h0.getD (pM p) (ByteArray.empty, [])).2 (pO p) p.2.1)
def qGB (p : qma) (h8 : List (List Bool)) : List (List Bool) := h8.set (pM p) (wr (h8.getD (pM p) []) (pO p) (p.2.1.map fun _ => true))
def qKD (p : qma) (h0 : Mm) (h8 : List (List Bool)) : Prop :=
  0 ≤ p.1.1 ∧ pM p < h0.length ∧ 0 ≤ p.1.2.1 ∧ pO p + p.2.1.length ≤ 1000000 ∧ (h8.getD (pM p) []).length = (h0.getD (pM p) (ByteArray.empty, [])).2.length ∧ pO p + p.2.1.length ≤ (h8.getD (pM p) []).length ∧ ∀ j, pO p ≤ j → j < pO p + p.2.1.length → (h8.getD (pM p) []).getD j false = false
def qPs : List qma → Mm → List (List Bool) → Prop
  | [], _, _ => True
  | p :: r, h0, h8 => qKD p h0 h8 ∧ qPs r (qNA p h0) (qGB p h8)
def putL : List qma → Mm → Mm
  | [], h0 => h0
  | p :: r, h0 => putL r (qNA p h0)
theorem qYx (ps : List qma) (hps : ps.length ≤ 100000) : ∀ (k i : Nat) (h0 : Mm) (h8 : List (List Bool)), i + k = ps.length → h8.length = h0.length → h0.length ≤ 100000 → qPs (ps.drop i) h0 h8 →
    qjc ps (ps.length : Int) (i : Int) h0 h8 = some (true, putL (ps.drop i) h0)
  | 0, i, h0, h8, e, hl, hl2, hf => by
    rw [qeg, if_neg (by simp; omega), List.drop_eq_nil_of_le (by omega)]; rfl
  | k + 1, i, h0, h8, e, hl, hl2, hf => by
    have hd := qJa (qja qsa : qma) (xs := ps) (i := i) (by omega)
    rw [hd.1] at hf ⊢
    have ih := fun h0 h8 => qYx ps hps k (i + 1) h0 h8 (by omega)
    rw [show ((i + 1 : Nat) : Int) = (i : Int) + 1 by omega] at ih
    rw [qeg]
    simp only [Int.ofNat_eq_natCast, Int.toNat_natCast]
    rw [if_pos (by simp; omega), qea (by omega), qea (by omega)]
    generalize ps.getD i (qja qsa) = x at *
    obtain ⟨⟨f1, f2, f3, f4, f5, f6, f7⟩, hf⟩ := hf
    have h3 := qXx ps (ps.length : Int) (i : Int) x.2.1 (pM x) (pO x) x.1.2.2.1 f4 x.2.1 0 h0 h8 rfl (by omega) f2 hl hl2 f5 f6 (by simpa using f7)
    have hx : x.1 = (((pM x : Nat) : Int), (((pO x : Nat) : Int), (x.1.2.2.1, ()))) := by
      unfold pM pO
      rw [Int.toNat_of_nonneg f1, Int.toNat_of_nonneg f3]
    rw [hx]
    simp only [Nat.add_zero] at h3
    refine h3.trans ?_
    rw [w64 (x := (i : Int) + 1) (by omega) (by omega)]
    exact ih (qNA x h0) (qGB x h8) (by unfold qNA qGB; rw [List.length_set, List.length_set]; exact hl) (by unfold qNA; rw [List.length_set]; exact hl2) hf
def qgj (h0 : Mm) : List (List Bool) := h0.map fun x => List.replicate x.2.length false
theorem qZx (ps : List qma) (h0 : Mm) (hl : h0.length ≤ 100000) (hm : ∀ x ∈ h0, x.2.length ≤ 1000000) : ∀ (k i : Nat), i + k = h0.length →
    qSd ps (h0.length : Int) (i : Int) h0 ((qgj h0).take i ++ List.replicate k []) = qjc ps (ps.length : Int) 0 h0 (qgj h0)
  | 0, i, e => by
    rw [qfg, if_neg (by simp; omega), List.take_of_length_le (by unfold qgj; simp; omega), List.replicate_zero, List.append_nil]
    rfl
  | k + 1, i, e => by
    have hd := qJa ((ByteArray.empty, []) : ByteArray × List Int) (xs := h0) (i := i) (by omega)
    have ih := qZx ps h0 hl hm k (i + 1) (by omega)
    rw [show ((i + 1 : Nat) : Int) = (i : Int) + 1 by omega] at ih
    have hfv : (qUf (a := .str) (e := .int .u8) h0).length = h0.length := qVg (a := .str) (e := .int .u8) h0
    have hx := hm _ hd.2.2
    have hbl : (qgj h0).length = h0.length := List.length_map ..
    have hset : ((qgj h0).take i ++ List.replicate (k + 1) []).set i (List.replicate (h0.getD i (ByteArray.empty, [])).2.length false) = (qgj h0).take (i + 1) ++ List.replicate k [] := by
      have h1 : ((qgj h0).take i).length = i := by rw [List.length_take]; omega
      rw [List.set_append_right _ _ (by omega), h1, Nat.sub_self, List.replicate_succ, List.set_cons_zero]
      have h2 : (qgj h0).take (i + 1) = (qgj h0).take i ++ [List.replicate (h0.getD i (ByteArray.empty, [])).2.length false] := by
        unfold qgj
        rw [← List.map_take, ← List.map_take, hd.2.1, List.map_append]; rfl
      rw [h2, List.append_assoc]; rfl
    rw [qfg]
    simp only [hfv, Int.ofNat_eq_natCast, Int.toNat_natCast, Nat.zero_add]
    rw [if_pos (by simp; omega), qea (by omega), qea (by omega), qea trivial, qea (by omega), qea (by omega), qea (by omega), qea (by omega), qea (by simp; omega), hset, w64 (x := (i : Int) + 1) (by omega) (by omega), ih]
theorem qWx (ps : List qma) (h0 : Mm) (hps : ps.length ≤ 100000) (hl : h0.length ≤ 100000) (hm : ∀ x ∈ h0, x.2.length ≤ 1000000) (hf : qPs ps h0 (qgj h0)) : qJh ps h0 = some (true, putL ps h0) := by
  have hfv : (qUf (a := .str) (e := .int .u8) h0).length = h0.length := qVg (a := .str) (e := .int .u8) h0
  have h1 := qZx ps h0 hl hm h0.length 0 (by omega)
  have h2 := qYx ps hps ps.length 0 h0 (qgj h0) (by omega) (List.length_map ..) hl hf
  rw [qOm]
  simp only [hfv, Int.ofNat_eq_natCast, Int.toNat_natCast]
  rw [qea trivial, qea (by omega), qea (by omega), qea (by omega)]
  simp only [List.take_zero, List.nil_append, Int.natCast_zero] at h1 h2
  exact h1.trans h2
end Go.Ab

/-
  Extracting: sorting what is sorted; what is missing.
-/
set_option linter.unusedVariables false
set_option linter.unusedSimpArgs false
set_option maxRecDepth 100000
namespace Go.Ab
open Go
attribute [local irreducible] IntKind.wrap
def leP (a b : qfa) : Prop := a.1 < b.1 ∨ (a.1 = b.1 ∧ a.2.1 ≤ b.2.1)
theorem quD (a b : Int) : ∃ r, qJe a b = some r ∧ (r < 0 ↔ a < b) ∧ (r = 0 ↔ a = b) := by
  have hn : ∀ x : Int, qVf x = some false := fun x => by rw [qcn]; simp
  rw [qql, hn, hn]
  simp only [Option.bind_some, Bool.false_eq_true, if_false, decide_eq_true_eq]
  by_cases h1 : a < b
  · rw [if_pos h1]; exact ⟨-1, rfl, by omega, by omega⟩
  · rw [if_neg h1]
    by_cases h2 : a > b
    · rw [if_pos h2]; exact ⟨1, rfl, by omega, by omega⟩
    · rw [if_neg h2]; exact ⟨0, rfl, by omega, by omega⟩
theorem qXC (x y : Int) : qjm [x, y] = some (if x ≠ 0 then x else y) := by
  have h0 : qAd 0 [x, y] (Int.ofNat 2) 2 = some 0 := by rw [qMf, if_neg (by decide)]
  have h1 : qAd 0 [x, y] (Int.ofNat 2) 1 = some y := by
    rw [qMf, if_pos (by decide), qea (by decide), qea (by show _ < (2 : Int); decide)]
    show (if (y != 0) = true then some y else _) = _
    rw [show IntKind.wrap .i64 ((1 : Int) + 1) = 2 by decide +kernel, h0]
    by_cases h : y = 0
    · subst h; rfl
    · rw [if_pos (by simpa using h)]
  rw [qjr]
  show qAd 0 [x, y] (Int.ofNat 2) 0 = _
  rw [qMf, if_pos (by decide), qea (by decide), qea (by show _ < (2 : Int); decide)]
  show (if (x != 0) = true then some x else _) = _
  rw [show IntKind.wrap .i64 ((0 : Int) + 1) = 1 by decide +kernel, h1]
  by_cases h : x = 0
  · subst h; rfl
  · rw [if_pos (by simpa using h), if_pos h]
theorem qID (a b : qfa) : ∃ r, qEa a b = some r ∧ (leP b a → ¬ r < 0) := by
  obtain ⟨r1, h1, h2, h3⟩ := quD a.1 b.1
  obtain ⟨r2, g1, g2, g3⟩ := quD a.2.1 b.2.1
  refine ⟨if r1 ≠ 0 then r1 else r2, ?_, fun h => ?_⟩
  · rw [qOk, h1, Option.bind_some, g1, Option.bind_some, qXC, Option.bind_some]
  · unfold leP at h
    split <;> omega
def Ord (l : List qfa) : Prop := ∀ i j, i ≤ j → j < l.length → leP (l.getD i (qja qda)) (l.getD j (qja qda))
theorem qhA (l : List qfa) (hl : l.length ≤ 100000) (ho : Ord l) : ∀ (k i : Nat), i + k = l.length → 1 ≤ i → qCa 0 (l.length : Int) (i : Int) l = some l
  | 0, i, e, h => by rw [qQa, if_neg (by simp; omega)]
  | k + 1, i, e, h => by
    have ih := qhA l hl ho k (i + 1) (by omega) (by omega)
    rw [show ((i + 1 : Nat) : Int) = (i : Int) + 1 by omega] at ih
    obtain ⟨r, h1, h2⟩ := qID (l.getD i (qja qda)) (l.getD (i - 1) (qja qda))
    have h3 := h2 (ho (i - 1) i (by omega) (by omega))
    have hw : IntKind.wrap .i64 ((i : Int) - 1) = ((i - 1 : Nat) : Int) := by rw [w64 (by omega) (by omega)]; omega
    rw [qQa, if_pos (by simp; omega), qHc]
    simp only [hw, Int.ofNat_eq_natCast, Int.toNat_natCast, Nat.zero_add]
    rw [if_pos (by simp; omega), qea (by omega), qea (by omega), qea (by omega), qea (by omega), h1, Option.bind_some, if_neg (by simpa using h3), w64 (x := (i : Int) + 1) (by omega) (by omega), ih]
def qds (T : ByteArray) : Bool := decide (T.size = 256) && (List.range 256).all fun i => decide (i = 0 ∨ (1 ≤ qJm T i ∧ qJm T i ≤ 8 ∧ (i : Int) < 2 ^ (qJm T i).toNat))
theorem qGx {T : ByteArray} (h : qds T = true) {i : Nat} (h0 : 1 ≤ i) (h1 : i < 256) : 1 ≤ qJm T i ∧ qJm T i ≤ 8 ∧ (i : Int) < 2 ^ (qJm T i).toNat := by
  unfold qds at h
  rw [Bool.and_eq_true, List.all_eq_true] at h
  have := of_decide_eq_true (h.2 i (List.mem_range.2 h1))
  rcases this with rfl | h
  · omega
  · exact h
theorem qut {T : ByteArray} (h : qds T = true) : T.size = 256 := by
  unfold qds at h
  rw [Bool.and_eq_true] at h
  exact of_decide_eq_true h.1
theorem qmB {T : ByteArray} (hT : qds T = true) {a : Int} (h0 : 1 ≤ a) (h1 : a ≤ 255) : Tot (gd (0 ≤ IntKind.wrap .u8 a) <| gd (IntKind.wrap .u8 a < Int.ofNat T.size) <| some (IntKind.wrap .i64 (0 + IntKind.wrap .i64 (qJm T (Int.toNat (IntKind.wrap .u8 a)))))) fun r => 1 ≤ r ∧ r ≤ 8 ∧ a < 2 ^ r.toNat := by
  have e : IntKind.wrap .u8 a = a := by rw [wu8]; omega
  have hs := qut hT
  have ht := qGx hT (i := a.toNat) (by omega) (by omega)
  rw [e, hs, w64 (x := qJm T a.toNat) (by omega) (by omega), w64 (by omega) (by omega)]
  refine Tot.g (by omega) (Tot.g (by show a < 256; omega) (Tot.so ?_))
  rw [Int.zero_add]
  refine ⟨ht.1, ht.2.1, ?_⟩
  have e2 : ((a.toNat : Nat) : Int) = a := by omega
  rw [e2] at ht
  exact ht.2.2
theorem qeD {a : Int} (h0 : 1 ≤ a) (h1 : a ≤ 255) : Tot (qBe (IntKind.wrap .u64 a)) fun r => 1 ≤ r ∧ r ≤ 8 ∧ a < 2 ^ r.toNat := by
  have e : IntKind.wrap .u64 a = a := by rw [qwD]; omega
  rw [qki, e, qSg]
  refine Tot.b (Tot.ifd_neg (by omega) (Tot.ifd_neg (by omega) (Tot.ifd_neg (by omega) (qmB ?_ h0 h1)))) (fun r hr => Tot.so hr)
  decide +kernel
theorem qfD : qBe 0 = some 0 := by
  rw [qki, qSg]
  refine Tot.eq (Tot.be (Tot.eq (Tot.ifd_neg (by decide) (Tot.ifd_neg (by decide) (Tot.ifd_neg (by decide) (Tot.g (by decide +kernel) (Tot.g (by decide +kernel) (Tot.so (show _ = (0 : Int) by decide +kernel)))))))) (Tot.so rfl))
theorem qKz {l : List qfa} (hl : l.length ≤ 12) (ho : Ord l) : qBa l = some l := by
  have hins : qab 0 (l.length : Int) l = some l := by
    rw [qed, show IntKind.wrap .i64 ((0 : Int) + 1) = 1 by decide +kernel]
    by_cases h0 : l.length = 0
    · rw [qQa, if_neg (by simp; omega)]
    · exact qhA l (by omega) ho (l.length - 1) 1 (by omega) (Nat.le_refl _)
  have hp : ∀ r, qxb 0 (l.length : Int) r l = some l := fun r => by
    rw [qqe, qFd, w64 (x := (l.length : Int) - 0) (by omega) (by omega)]
    exact Tot.eq (Tot.ifd_pos (by omega) (Tot.be hins (Tot.so rfl)))
  have hlen : ∃ r, qBe (IntKind.wrap .u64 (Int.ofNat l.length)) = some r := by
    by_cases h0 : l.length = 0
    · rw [h0, show IntKind.wrap .u64 (Int.ofNat 0) = 0 by decide +kernel]; exact ⟨0, qfD⟩
    · obtain ⟨r, h, _⟩ := qeD (a := Int.ofNat l.length) (by simp; omega) (by simp; omega)
      exact ⟨r, h⟩
  obtain ⟨r, hr⟩ := hlen
  rw [qwd, hr]
  exact Tot.eq (Tot.be rfl (Tot.be (hp r) (Tot.so rfl)))
theorem qqB {l : List qfa} (hl : l.length ≤ 100000) : qtb l = some l := by
  rw [qZd]
  refine qfp false (fun h => by cases h) (fun x hx => ?_)
  cases x
  · exact Tot.eq (Tot.it (fun h => by cases h) (fun _ => Tot.g (by simp; omega) (Tot.so (List.nil_append _))))
  · exact Tot.eq (Tot.it (fun h => Tot.so (hx rfl).symm) (fun h => absurd rfl h))
end Go.Ab

/-
  Extracting: nothing is missing.
-/
set_option linter.unusedVariables false
set_option linter.unusedSimpArgs false
set_option maxRecDepth 100000
namespace Go.Ab
open Go
attribute [local irreducible] IntKind.wrap
def qBt (i : Int) : List qfa → Int → Prop
  | [], _ => True
  | p :: r, e => if p.1 ≠ i then qBt i r e else p.2.1 ≤ e ∧ qBt i r (if p.2.1 + p.2.2.1 > e then p.2.1 + p.2.2.1 else e)
def Sml (p : qfa) : Prop := 0 ≤ p.2.1 ∧ p.2.1 ≤ 1000000 ∧ 0 ≤ p.2.2.1 ∧ p.2.2.1 ≤ 1000000
theorem qBx (n : Nat) (v15 : List Int) (v16 i : Int) (h9 : List qfa) (L : List qfa) (hL : L.length ≤ 100000) (hS : ∀ p ∈ L, Sml p) : ∀ (k j : Nat) (e : Int), j + k = L.length → 0 ≤ e → e ≤ 2000000 → qBt i (L.drop j) e →
    qic n i e v15 v16 i (L.length : Int) (j : Int) L h9 = qMb n v15 v16 (IntKind.wrap .i64 (i + 1)) L h9
  | 0, j, e, hj, h1, h2, ho => by rw [qbg, if_neg (by simp; omega)]
  | k + 1, j, e, hj, h1, h2, ho => by
    have hd := qJa (qja qda : qfa) (xs := L) (i := j) (by omega)
    rw [hd.1] at ho
    have hs := hS _ hd.2.2
    have ih := fun e => qBx n v15 v16 i h9 L hL hS k (j + 1) e (by omega)
    rw [show ((j + 1 : Nat) : Int) = (j : Int) + 1 by omega] at ih
    rw [qbg]
    simp only [Int.ofNat_eq_natCast, Int.toNat_natCast, Nat.zero_add]
    rw [if_pos (by simp; omega), qea (by omega), qea (by omega), w64 (x := (j : Int) + 1) (by omega) (by omega)]
    generalize L.getD j (qja qda) = x at *
    obtain ⟨s1, s2, s3, s4⟩ := hs
    rw [qBt] at ho
    by_cases hx : x.1 = i
    · rw [if_neg (by simpa using hx)] at ho
      rw [if_neg (by simpa using hx), if_neg (by have := ho.1; simp; omega), w64 (x := x.2.1 + x.2.2.1) (by omega) (by omega)]
      exact ih _ (by split <;> omega) (by split <;> omega) ho.2
    · rw [if_pos hx] at ho
      rw [if_pos (by simpa using hx)]
      exact ih e h1 h2 ho
theorem qAx (n : Nat) (v15 : List Int) (v16 i : Int) (h8 h9 : List qfa) (L : List qfa) (hL : L.length ≤ 100000) (hS : ∀ p ∈ L, Sml p) : ∀ (k j : Nat) (e : Int), j + k = L.length → 0 ≤ e → e ≤ 2000000 → qBt i (L.drop j) e →
    qhc n i e v15 v16 i (L.length : Int) (j : Int) h8 h9 L = qMb n v15 v16 (IntKind.wrap .i64 (i + 1)) h8 h9
  | 0, j, e, hj, h1, h2, ho => by rw [qag, if_neg (by simp; omega)]
  | k + 1, j, e, hj, h1, h2, ho => by
    have hd := qJa (qja qda : qfa) (xs := L) (i := j) (by omega)
    rw [hd.1] at ho
    have hs := hS _ hd.2.2
    have ih := fun e => qAx n v15 v16 i h8 h9 L hL hS k (j + 1) e (by omega)
    rw [show ((j + 1 : Nat) : Int) = (j : Int) + 1 by omega] at ih
    rw [qag]
    simp only [Int.ofNat_eq_natCast, Int.toNat_natCast, Nat.zero_add]
    rw [if_pos (by simp; omega), qea (by omega), qea (by omega), w64 (x := (j : Int) + 1) (by omega) (by omega)]
    generalize L.getD j (qja qda) = x at *
    obtain ⟨s1, s2, s3, s4⟩ := hs
    rw [qBt] at ho
    by_cases hx : x.1 = i
    · rw [if_neg (by simpa using hx)] at ho
      rw [if_neg (by simpa using hx), if_neg (by have := ho.1; simp; omega), w64 (x := x.2.1 + x.2.2.1) (by omega) (by omega)]
      exact ih _ (by split <;> omega) (by split <;> omega) ho.2
    · rw [if_pos hx] at ho
      rw [if_pos (by simpa using hx)]
      exact ih e h1 h2 ho
def Cov (sz : List Int) (xs : List qfa) : Prop := ∀ i : Nat, i < sz.length → qBt (i : Int) (xs ++ [((i : Int), (sz.getD i 0, (0, ())))]) 0
theorem qCx (sz : List Int) (hsz : sz.length ≤ 10000) (hz : ∀ x ∈ sz, 0 ≤ x ∧ x ≤ 1000000) (xs : List qfa) (hx : xs.length ≤ 10000) (hS : ∀ p ∈ xs, Sml p) (hC : Cov sz xs) (h9 : List qfa) : ∀ (k i : Nat) (h8 : List qfa), i + k = sz.length → h8.take xs.length = xs →
    qMb xs.length sz (sz.length : Int) (i : Int) h8 h9 = some h9
  | 0, i, h8, e, h => by rw [qcg, if_neg (by simp; omega)]
  | k + 1, i, h8, e, h => by
    have hd := qJa (0 : Int) (xs := sz) (i := i) (by omega)
    have hzi := hz _ hd.2.2
    have ih := fun h8 => qCx sz hsz hz xs hx hS hC h9 k (i + 1) h8 (by omega)
    rw [show ((i + 1 : Nat) : Int) = (i : Int) + 1 by omega] at ih
    have hc := hC i (by omega)
    have hS' : ∀ p ∈ xs ++ [((i : Int), (sz.getD i 0, ((0 : Int), ())))], Sml p := fun p hp => by
      rcases List.mem_append.1 hp with hp | hp
      · exact hS p hp
      · rw [List.mem_singleton.1 hp]; exact ⟨hzi.1, hzi.2, Int.le_refl 0, (show (0 : Int) ≤ 1000000 by decide)⟩
    have hlen : (xs ++ [((i : Int), (sz.getD i 0, ((0 : Int), ())))]).length = xs.length + 1 := by simp
    have g2 := qBx xs.length sz (sz.length : Int) (i : Int) h9 _ (by rw [hlen]; omega) hS' _ 0 0 (Nat.zero_add _) (by omega) (by omega) hc
    have g3 := qAx xs.length sz (sz.length : Int) (i : Int) h8 h9 _ (by rw [hlen]; omega) hS' _ 0 0 (Nat.zero_add _) (by omega) (by omega) hc
    rw [w64 (x := (i : Int) + 1) (by omega) (by omega)] at g2 g3
    rw [qcg]
    simp only [Int.ofNat_eq_natCast, Int.toNat_natCast, h]
    rw [if_pos (by simp; omega), qea (by omega), qea (by omega)]
    refine qfp true trivial (fun b _ => ?_)
    cases b
    · rw [if_neg (by decide), qea (by rw [hlen]; omega)]
      exact g3.trans (ih h8 h)
    · rw [if_pos rfl, qea (by rw [hlen]; omega), qea (by rw [hlen]; omega)]
      exact g2.trans (ih _ (List.take_left' rfl))
theorem qVr {sz : List Int} (hsz : sz.length ≤ 10000) (hz : ∀ x ∈ sz, 0 ≤ x ∧ x ≤ 1000000) {xs : List qfa} (hx : xs.length ≤ 10000) (hso : qBa xs = some xs) (hS : ∀ p ∈ xs, Sml p) (hC : Cov sz xs) : qIh sz xs = some [] := by
  have h1 := qCx sz hsz hz xs hx hS hC [] sz.length 0 xs (by omega) (List.take_length)
  rw [qNm]
  exact Tot.eq (Tot.be (qqB (by omega)) (Tot.be hso (Tot.of_eq h1 rfl)))
end Go.Ab

/-
  Extracting: members are put together.
-/
set_option linter.unusedVariables false
set_option linter.unusedSimpArgs false
set_option maxRecDepth 100000
namespace Go.Ab
open Go
attribute [local irreducible] IntKind.wrap
def qWb (rs : List qaa) : Mm := rs.map fun r => (r.1, List.replicate r.2.1.toNat 0)
theorem qZz (rs : List qaa) (ps : List qma) (hl : rs.length ≤ 10000) (hs : ∀ r ∈ rs, 0 ≤ r.2.1 ∧ r.2.1 ≤ 1000000) : ∀ (k i : Nat), i + k = rs.length →
    qHg rs ps rs (rs.length : Int) (i : Int) (szs (rs.take i)) (qWb (rs.take i)) = qhd rs ps ps (ps.length : Int) 0 (szs rs) (qWb rs) []
  | 0, i, e => by rw [qBi, if_neg (by simp; omega), List.take_of_length_le (by omega)]; rfl
  | k + 1, i, e => by
    have hd := qJa (qja qba : qaa) (xs := rs) (i := i) (by omega)
    have ih := qZz rs ps hl hs k (i + 1) (by omega)
    have hx := hs _ hd.2.2
    have hti : (rs.take i).length = i := by rw [List.length_take]; omega
    rw [show ((i + 1 : Nat) : Int) = (i : Int) + 1 by omega, hd.2.1] at ih
    have e1 : szs (rs.take i ++ [rs.getD i (qja qba)]) = szs (rs.take i) ++ [(rs.getD i (qja qba)).2.1] := by unfold szs; rw [List.map_append]; rfl
    have e2 : qWb (rs.take i ++ [rs.getD i (qja qba)]) = qWb (rs.take i) ++ [((rs.getD i (qja qba)).1, List.replicate (rs.getD i (qja qba)).2.1.toNat 0)] := by unfold qWb; rw [List.map_append]; rfl
    rw [e1, e2] at ih
    have l1 : (szs (rs.take i)).length = i := by rw [qHh, hti]
    have l2 : (qWb (rs.take i)).length = i := by unfold qWb; rw [List.length_map, hti]
    rw [qBi]
    simp only [Int.ofNat_eq_natCast, Int.toNat_natCast]
    rw [if_pos (by simp; omega), qea (by omega), qea (by omega), w64 (x := (i : Int) + 1) (by omega) (by omega)]
    generalize rs.getD i (qja qba) = x at *
    rw [qea (by rw [List.length_append, l1, List.length_singleton]; omega), qea trivial, qea (by omega), qea (by omega), qea (by omega), qea (by rw [List.length_append, l2, List.length_singleton]; omega), ih]
def qvv (rs : List qaa) (ms : List qla) : Nat → Nat → Bool
  | 0, _ => true
  | k + 1, i => peq (.arr 20 (.int .u8)) (qjh (ms.getD i (qja qka)).2.1) (rs.getD i (qja qba)).2.2.1 && qvv rs ms k (i + 1)
theorem qXz (rs : List qaa) (ms : List qla) (hl : ms.length ≤ 10000) (hr : ms.length ≤ rs.length) (hm : ∀ m ∈ ms, Bts m.2.1 ∧ m.2.1.length ≤ 20000) : ∀ (k i : Nat), i + k = ms.length →
    qwf rs (ms.length : Int) (i : Int) ms = some (if qvv rs ms k i = true then (ms, 0) else ([], 22))
  | 0, i, e => by rw [qzi, if_neg (by simp; omega)]; rfl
  | k + 1, i, e => by
    have hd := qJa (qja qka : qla) (xs := ms) (i := i) (by omega)
    have ih := qXz rs ms hl hr hm k (i + 1) (by omega)
    have hx := hm _ hd.2.2
    rw [show ((i + 1 : Nat) : Int) = (i : Int) + 1 by omega] at ih
    rw [qzi]
    simp only [Int.ofNat_eq_natCast, Int.toNat_natCast, Nat.zero_add]
    rw [if_pos (by simp; omega), qea (by omega), qea (by omega), qtn _ hx.1, if_pos hx.2, Option.bind_some, qea (by omega), qea (by omega), w64 (x := (i : Int) + 1) (by omega) (by omega), ih, qvv]
    by_cases hp : peq (.arr 20 (.int .u8)) (qjh (ms.getD i (qja qka)).2.1) (rs.getD i (qja qba)).2.2.1 = true
    · rw [if_neg (by rw [hp]; decide), hp, Bool.true_and]
    · rw [Bool.not_eq_true] at hp
      rw [if_pos (by rw [hp]; rfl), hp, Bool.false_and, if_neg (by decide)]
def Win (sz : List Int) (p : qfa) : Prop := 0 ≤ p.1 ∧ p.1 < sz.length ∧ 0 ≤ p.2.1 ∧ 0 < p.2.2.1 ∧ p.2.1 + p.2.2.1 ≤ sz.getD p.1.toNat 0 ∧ sz.getD p.1.toNat 0 ≤ 1000000
theorem qVy {sz : List Int} {p : qfa} (h : Win sz p) : qyi sz p = some true := by
  obtain ⟨h1, h2, h3, h4, h5, h6⟩ := h
  rw [qBn]
  simp only [Int.ofNat_eq_natCast]
  rw [w64 (x := sz.getD p.1.toNat 0 - p.2.1) (by omega) (by omega)]
  refine Tot.eq (Tot.ifd_pos h1 (Tot.ifd_pos h2 (Tot.ifd_pos h3 (Tot.ifd_pos h4 (Tot.g h1 (Tot.g h2 (Tot.ifd_pos (by omega) (Tot.g h1 (Tot.g h2 (Tot.so ?_))))))))))
  rw [decide_eq_true_eq]; omega
theorem qYz (rs : List qaa) (ps : List qma) (sz : List Int) (h0 : Mm) (hps : ps.length ≤ 600) (hw : ∀ p ∈ ps, Win sz p.1 ∧ (p.2.1.length : Int) = p.1.2.2.1) : ∀ (k i : Nat), i + k = ps.length →
    qhd rs ps ps (ps.length : Int) (i : Int) sz h0 ((ps.take i).map (·.1)) = qhd rs ps ps (ps.length : Int) (ps.length : Int) sz h0 (ps.map (·.1))
  | 0, i, e => by
    have : i = ps.length := by omega
    subst this
    rw [List.take_length]
  | k + 1, i, e => by
    have hd := qJa (qja qsa : qma) (xs := ps) (i := i) (by omega)
    have ih := qYz rs ps sz h0 hps hw k (i + 1) (by omega)
    have hx := hw _ hd.2.2
    have hti : (ps.take i).length = i := by rw [List.length_take]; omega
    rw [show ((i + 1 : Nat) : Int) = (i : Int) + 1 by omega, hd.2.1, List.map_append, List.map_singleton] at ih
    rw [qAi]
    simp only [Int.ofNat_eq_natCast, Int.toNat_natCast]
    rw [if_pos (by simp; omega), qea (by omega), qea (by omega), w64 (x := (i : Int) + 1) (by omega) (by omega)]
    generalize ps.getD i (qja qsa) = x at *
    rw [qVy hx.1, Option.bind_some, if_neg (by decide), if_neg (by simpa using hx.2), qea (by rw [List.length_append, List.length_map, hti, List.length_singleton]; omega), ih]
theorem qjq (rs : List qaa) : (qWb rs).length = rs.length := List.length_map ..
theorem qLz {rs : List qaa} {ps : List qma} (hR : RecsOK rs) (hv : qoe rs = 0) (hl : rs.length ≤ 10000) (hs : ∀ r ∈ rs, 0 ≤ r.2.1 ∧ r.2.1 ≤ 20000) (hps : ps.length ≤ 600) (hw : ∀ p ∈ ps, Win (szs rs) p.1 ∧ (p.2.1.length : Int) = p.1.2.2.1)
    (hf : qPs ps (qWb rs) (qgj (qWb rs))) (hso : qBa (ps.map (·.1)) = some (ps.map (·.1))) (hS : ∀ p ∈ ps, Sml p.1) (hC : Cov (szs rs) (ps.map (·.1)))
    (hln : (putL ps (qWb rs)).length = rs.length) (hm : ∀ m ∈ putL ps (qWb rs), Bts m.2 ∧ m.2.length ≤ 20000) :
    qub rs ps = some (if qvv rs (qUf (a := .str) (e := .int .u8) (putL ps (qWb rs))) rs.length 0 = true then (qUf (a := .str) (e := .int .u8) (putL ps (qWb rs)), 0) else ([], 22)) := by
  have hbl : ∀ x ∈ qWb rs, x.2.length ≤ 1000000 := fun x hx => by
    obtain ⟨r, hr, rfl⟩ := List.mem_map.1 hx
    have := hs r hr
    simp; omega
  have hfill := qWx ps (qWb rs) (by omega) (by rw [qjq]; omega) hbl hf
  have hmis := qVr (sz := szs rs) (by rw [qHh]; omega) (fun x hx => by obtain ⟨r, hr, rfl⟩ := List.mem_map.1 hx; have := hs r hr; omega) (xs := ps.map (·.1)) (by simp; omega) hso (fun p hp => by obtain ⟨q, hq, rfl⟩ := List.mem_map.1 hp; exact hS q hq) hC
  have h1 := qZz rs ps hl (fun r hr => by have := hs r hr; omega) rs.length 0 (by omega)
  have h2 := qYz rs ps (szs rs) (qWb rs) hps hw ps.length 0 (by omega)
  have hfl : (qUf (a := .str) (e := .int .u8) (putL ps (qWb rs))).length = rs.length := (qVg (a := .str) (e := .int .u8) _).trans hln
  have hfb : (qUf (a := .str) (e := .int .u8) (qWb rs)).length = rs.length := (qVg (a := .str) (e := .int .u8) _).trans (qjq rs)
  have h3 := qXz rs (qUf (a := .str) (e := .int .u8) (putL ps (qWb rs))) (by rw [hfl]; exact hl) (by rw [hfl]; exact Nat.le_refl _) (fun m hmm => by
    obtain ⟨x, hx, rfl⟩ := List.mem_map.1 hmm
    exact hm x hx) rs.length 0 (by rw [hfl]; omega)
  rw [hfl] at h3
  have h4 : qhd rs ps ps (ps.length : Int) (ps.length : Int) (szs rs) (qWb rs) (ps.map (·.1)) = qwf rs (rs.length : Int) 0 (qUf (a := .str) (e := .int .u8) (putL ps (qWb rs))) := by
    rw [qAi, if_neg (by simp), hfill, Option.bind_some, if_neg (show ¬ ((!true) = true) by decide), hmis, Option.bind_some, if_neg (by decide), hfb]
    rfl
  rw [qyr, qzc rs hR, hv]
  refine Tot.eq (Tot.be rfl (Tot.ifne_neg rfl (Tot.ifd_neg (by simp; omega) ?_)))
  exact Tot.of_eq ((h1.trans h2).trans (h4.trans h3)) rfl
end Go.Ab

/-
  Extracting: the blocks of one member.
-/
set_option linter.unusedVariables false
set_option linter.unusedSimpArgs false
set_option maxRecDepth 100000
namespace Go.Ab
open Go
attribute [local irreducible] IntKind.wrap
theorem qmA (b : qca) (i : Int) : qsf b i = some ((b.1.2.1 != i), i) := qem b i
def ofM (i : Int) (bs : List qca) : List qca := bs.filter fun b => b.1.2.1 == i
theorem qiA (bs : List qca) (hl : bs.length ≤ 100000) (i : Int) : ∀ (k j : Nat), j + k = bs.length → (∃ m, j ≤ m ∧ m < bs.length ∧ qwa bs (bs.length : Int) (j : Int) i = some ((m : Int), i) ∧ ofM i ((bs.drop j).take (m - j)) = (bs.drop j).take (m - j) ∧ (bs.getD m (qja qna)).1.2.1 ≠ i) ∨
    (qwa bs (bs.length : Int) (j : Int) i = some (-1, i) ∧ ofM i (bs.drop j) = bs.drop j)
  | 0, j, e => by
    refine .inr ⟨by rw [qsb, if_neg (by simp; omega)], ?_⟩
    rw [List.drop_eq_nil_of_le (by omega)]; rfl
  | k + 1, j, e => by
    have hd := qJa (qja qna : qca) (xs := bs) (i := j) (by omega)
    have ih := qiA bs hl i k (j + 1) (by omega)
    rw [show ((j + 1 : Nat) : Int) = (j : Int) + 1 by omega] at ih
    have hun : qwa bs (bs.length : Int) (j : Int) i = if ((bs.getD j (qja qna)).1.2.1 != i) = true then some ((j : Int), i) else qwa bs (bs.length : Int) ((j : Int) + 1) i := by
      rw [qsb]
      simp only [Int.ofNat_eq_natCast, Int.toNat_natCast]
      rw [if_pos (by simp; omega), qea (by omega), qea (by omega), qmA, Option.bind_some, w64 (x := (j : Int) + 1) (by omega) (by omega)]
    rw [hun, hd.1]
    generalize hgx : bs.getD j (qja qna) = x at *
    by_cases hx : x.1.2.1 = i
    · rw [if_neg (by simpa using hx)]
      have hk : ∀ r : List qca, ofM i (x :: r) = x :: ofM i r := fun r => by unfold ofM; rw [List.filter_cons_of_pos (by simpa using hx)]
      rcases ih with ⟨m, h1, h2, h3, h4, h5⟩ | ⟨h3, h4⟩
      · refine .inl ⟨m, by omega, h2, h3, ?_, h5⟩
        rw [show m - j = (m - (j + 1)) + 1 by omega, List.take_succ_cons, hk, h4]
      · exact .inr ⟨h3, by rw [hk, h4]⟩
    · rw [if_pos (by simpa using hx)]
      exact .inl ⟨j, Nat.le_refl _, by omega, rfl, by rw [Nat.sub_self]; rfl, by rw [hgx]; exact hx⟩
theorem qqy (i : Int) : ∀ (k j m : Nat) (h0 : List qca), h0.length ≤ 100000 → j + k = h0.length → m < j → ∃ n h', qAa (m : Int) (j : Int) h0 i = some ((0, n), (h', i)) ∧ h'.take n = h0.take m ++ ofM i (h0.drop j) ∧ n ≤ h0.length ∧ n ≤ h'.length
  | 0, j, m, h0, hl, e, hm => by
    refine ⟨m, qZb h0 m (List.replicate (h0.length - m) (qja qna)), ?_, ?_, by omega, by unfold qZb; rw [List.length_append, List.length_append, List.length_take]; omega⟩
    · rw [qib, if_neg (by simp; omega), qea (by omega), qea (by simp; omega), qea (by omega), qea (by simp; omega)]
      simp only [Int.toNat_natCast, Nat.sub_zero, Nat.zero_add]
    rw [List.drop_eq_nil_of_le (by omega)]
    unfold qZb
    rw [List.append_assoc, List.take_append_of_le_length (by rw [List.length_take]; omega), List.take_take, Nat.min_self]
    exact (List.append_nil _).symm
  | k + 1, j, m, h0, hl, e, hm => by
    have hd := qJa (qja qna : qca) (xs := h0) (i := j) (by omega)
    rw [qib]
    simp only [Int.ofNat_eq_natCast, Int.toNat_natCast, Nat.zero_add]
    rw [if_pos (by simp; omega), qea (by omega), qea (by omega), qmA, Option.bind_some, w64 (x := (j : Int) + 1) (by omega) (by omega), w64 (x := (m : Int) + 1) (by omega) (by omega), hd.1]
    generalize hx0 : h0.getD j (qja qna) = x at *
    by_cases hx : x.1.2.1 = i
    · rw [if_pos (by simp [hx]), qea (by omega), qea (by omega)]
      obtain ⟨n, h', h1, h2, h3⟩ := qqy i k (j + 1) (m + 1) (h0.set m x) (by rw [List.length_set]; exact hl) (by rw [List.length_set]; omega) (by omega)
      rw [show ((j + 1 : Nat) : Int) = (j : Int) + 1 by omega, show ((m + 1 : Nat) : Int) = (m : Int) + 1 by omega] at h1
      refine ⟨n, h', h1, ?_, by rw [List.length_set] at h3; exact h3⟩
      have hk : ofM i (x :: h0.drop (j + 1)) = x :: ofM i (h0.drop (j + 1)) := by unfold ofM; rw [List.filter_cons_of_pos (by simpa using hx)]
      have ht : (h0.set m x).take (m + 1) = h0.take m ++ [x] := by
        rw [List.take_set, List.take_add_one, List.getElem?_eq_getElem (by omega)]
        rw [List.set_append_right _ _ (by rw [List.length_take]; omega), List.length_take, Nat.min_eq_left (by omega), Nat.sub_self]; rfl
      rw [h2, hk, List.drop_set_of_lt (by omega), ht, List.append_assoc]; rfl
    · rw [if_neg (by simp [hx])]
      obtain ⟨n, h', h1, h2, h3⟩ := qqy i k (j + 1) m h0 hl (by omega) (by omega)
      rw [show ((j + 1 : Nat) : Int) = (j : Int) + 1 by omega] at h1
      have hk : ofM i (x :: h0.drop (j + 1)) = ofM i (h0.drop (j + 1)) := by unfold ofM; rw [List.filter_cons_of_neg (by simpa using hx)]
      exact ⟨n, h', h1, by rw [h2, hk], h3⟩
theorem qdu {bs : List qca} (hl : bs.length ≤ 100000) (i : Int) : ∃ n h', qXa bs i = some ((0, n), (h', i)) ∧ h'.take n = ofM i bs ∧ n ≤ h'.length := by
  have hi : qeb bs i = qwa bs (bs.length : Int) ((0 : Nat) : Int) i := qld bs i
  rcases qiA bs hl i bs.length 0 (by omega) with ⟨m, h1, h2, h3, h4, hx⟩ | ⟨h3, h4⟩
  · simp only [List.drop_zero, Nat.sub_zero] at h4
    obtain ⟨n, h', g1, g2, g3⟩ := qqy i (bs.length - (m + 1)) (m + 1) m bs hl (by omega) (by omega)
    rw [show ((m + 1 : Nat) : Int) = (m : Int) + 1 by omega] at g1
    have hd := qJa (qja qna : qca) (xs := bs) (i := m) h2
    refine ⟨n, h', ?_, ?_, g3.2⟩
    · rw [qpb, hi, h3, Option.bind_some, if_neg (by simp), w64 (x := (m : Int) + 1) (by omega) (by omega)]
      exact g1
    · rw [g2]
      conv => rhs; rw [← List.take_append_drop m bs, hd.1]
      unfold ofM at h4 ⊢
      rw [List.filter_append, h4, List.filter_cons_of_neg (by simpa using hx)]
  · simp only [List.drop_zero] at h4
    refine ⟨bs.length, bs, ?_, by rw [List.take_length, h4], Nat.le_refl _⟩
    rw [qpb, hi, h3]
    exact Tot.eq (Tot.be rfl (Tot.ifeq_pos rfl (Tot.so rfl)))
def nmI (nm : ByteArray) : List qaa → Nat → Option Nat
  | [], _ => none
  | r :: rs, i => if r.1.toList = nm.toList then some i else nmI nm rs (i + 1)
def nmR : Option Nat → Int × Int
  | some i => (i, 0)
  | none => (0, 6)
theorem qQy (nm : ByteArray) (rs : List qaa) (hl : rs.length ≤ 100000) : ∀ (k i : Nat), i + k = rs.length → qof nm rs (rs.length : Int) (i : Int) = some (nmR (nmI nm (rs.drop i) i))
  | 0, i, e => by rw [qqh, if_neg (by simp; omega), List.drop_eq_nil_of_le (by omega)]; rfl
  | k + 1, i, e => by
    have hd := qJa (qja qba : qaa) (xs := rs) (i := i) (by omega)
    have ih := qQy nm rs hl k (i + 1) (by omega)
    rw [show ((i + 1 : Nat) : Int) = (i : Int) + 1 by omega] at ih
    rw [qqh, hd.1, nmI]
    simp only [Int.ofNat_eq_natCast, Int.toNat_natCast]
    rw [if_pos (by simp; omega), qea (by omega), qea (by omega), w64 (x := (i : Int) + 1) (by omega) (by omega), ih]
    by_cases hx : (rs.getD i (qja qba)).1.toList = nm.toList
    · rw [if_pos (beq_iff_eq.2 hx), if_pos hx]; rfl
    · rw [if_neg (fun h => hx (beq_iff_eq.1 h)), if_neg hx]
theorem qYm {rs : List qaa} (hR : RecsOK rs) (hl : rs.length ≤ 100000) (hv : qoe rs = 0) (nm : ByteArray) : qaf rs nm = some (nmR (nmI nm rs 0)) := by
  rw [qwp, qzc rs hR, hv]
  exact Tot.eq (Tot.be rfl (Tot.ifne_neg rfl (Tot.of_eq (qQy nm rs hl rs.length 0 (by omega)) rfl)))
end Go.Ab

/-
  Extracting: one member.
-/
set_option linter.unusedVariables false
set_option linter.unusedSimpArgs false
set_option maxRecDepth 100000
namespace Go.Ab
open Go
attribute [local irreducible] IntKind.wrap
theorem qSu {a : List Int} {e : Int} (he : e ≠ 0) {l : qua} {bs : List qca} (h : qcb a = some (l, (bs, e))) (nm : ByteArray) : qie a nm = some (((0, (0, ())), ([], ([], ()))), (0, (([], (0, 0)), e))) := by
  rw [qtg, h]
  exact Tot.eq (Tot.be rfl (Tot.ifne (fun _ => Tot.so rfl) (fun k => absurd k he)))
theorem qps {a : List Int} {l : qua} {bs : List qca} (h : qcb a = some (l, (bs, 0))) {nm : ByteArray} (hf : qaf l.2.1 nm = some (nmR none)) : qie a nm = some (((0, (0, ())), ([], ([], ()))), (0, (([], (0, 0)), 6))) := by
  rw [qtg, h]
  exact Tot.eq (Tot.be rfl (Tot.ifne_neg rfl (Tot.be hf (Tot.ifne (fun _ => Tot.so rfl) (fun k => by cases k)))))
theorem qkl {a : List Int} {l : qua} {bs : List qca} (hl : bs.length ≤ 100000) (h : qcb a = some (l, (bs, 0))) {nm : ByteArray} {i : Nat} (hf : qaf l.2.1 nm = some (nmR (some i))) :
    ∃ n h', qie a nm = some (l, ((i : Int), ((h', (0, n)), 0))) ∧ h'.take n = ofM i bs ∧ n ≤ h'.length := by
  obtain ⟨n, h', h1, h2, h3⟩ := qdu hl (i : Int)
  refine ⟨n, h', ?_, h2, h3⟩
  rw [qtg, h]
  exact Tot.eq (Tot.be rfl (Tot.ifne_neg rfl (Tot.be hf (Tot.ifne_neg rfl (Tot.be h1 (Tot.so rfl))))))
def z0 (p : qma) : qma := ((0, p.1.2), p.2)
theorem qwA (i : Nat) (l : qua) (hi : i < l.2.1.length) (hll : l.2.1.length ≤ 100000) (ps : List qma) (hl : ps.length ≤ 100000) (ba : ByteArray) (h11 : List Int) : ∀ (k j : Nat), j + k = ps.length →
    qNd (i : Int) (ps.length : Int) (j : Int) ba () l ((ps.take j).map z0 ++ ps.drop j) h11 = (qub [l.2.1.getD i (qja qba)] (ps.map z0)).bind fun r => if (r.2 != (0 : Int)) = true then some ((ByteArray.empty, ([], ())), r.2) else gd ((0 : Int) < Int.ofNat r.1.length) (some (r.1.getD 0 (qja qka), 0))
  | 0, j, e => by
    have hd := qJa (qja qba : qaa) (xs := l.2.1) (i := i) hi
    have e1 : (ps.take j).map z0 ++ ps.drop j = ps.map z0 := by rw [List.take_of_length_le (by omega), List.drop_eq_nil_of_le (by omega), List.append_nil]
    rw [e1, qyh, if_neg (by simp; omega)]
    simp only [Int.ofNat_eq_natCast, Int.toNat_natCast]
    rw [w64 (x := (i : Int) + 1) (by omega) (by omega), qea (by omega), qea (by omega), qea (by omega), hd.1, show ((i : Int) + 1).toNat - i = 1 by omega]
    show (qub [l.2.1.getD i (qja qba)] (ps.map z0)).bind _ = _
    congr 1
    funext r
    by_cases hr : (r.2 != (0 : Int)) = true
    · rw [if_pos hr, if_pos hr]
    · rw [if_neg hr, if_neg hr, qea (by omega)]
  | k + 1, j, e => by
    have hd := qJa (qja qsa : qma) (xs := ps) (i := j) (by omega)
    have ih := qwA i l hi hll ps hl ba h11 k (j + 1) (by omega)
    rw [show ((j + 1 : Nat) : Int) = (j : Int) + 1 by omega, hd.2.1, List.map_append, List.map_singleton] at ih
    have hlen : ((ps.take j).map z0).length = j := by rw [List.length_map, List.length_take]; omega
    have hget : ((ps.take j).map z0 ++ ps.drop j).getD j (qja qsa) = ps.getD j (qja qsa) := by
      rw [List.getD_eq_getElem?_getD, List.getElem?_append_right (by omega), hlen, Nat.sub_self, hd.1]; rfl
    have hset : ((ps.take j).map z0 ++ ps.drop j).set j (z0 (ps.getD j (qja qsa))) = ((ps.take j).map z0 ++ [z0 (ps.getD j (qja qsa))]) ++ ps.drop (j + 1) := by
      rw [List.set_append_right _ _ (by omega), hlen, Nat.sub_self]
      conv => lhs; rw [hd.1]
      rw [List.set_cons_zero, List.append_assoc]; rfl
    have htl : ((ps.take j).map z0 ++ ps.drop j).length = ps.length := by rw [List.length_append, hlen, List.length_drop]; omega
    rw [qyh]
    simp only [Int.ofNat_eq_natCast, Int.toNat_natCast, Nat.zero_add]
    rw [if_pos (by simp; omega), qea (by omega), qea (by rw [htl]; omega), w64 (x := (j : Int) + 1) (by omega) (by omega), hget]
    show qNd _ _ _ _ _ _ (((ps.take j).map z0 ++ ps.drop j).set j (z0 (ps.getD j (qja qsa)))) _ = _
    rw [hset]
    exact ih
end Go.Ab

/-
  Extracting: a range of one member.
-/
set_option linter.unusedVariables false
set_option linter.unusedSimpArgs false
set_option maxRecDepth 100000
namespace Go.Ab
open Go
attribute [local irreducible] IntKind.wrap
def SmB (b : qca) : Prop := 0 ≤ b.1.2.2.1 ∧ b.1.2.2.1 ≤ 1000000 ∧ 0 ≤ b.1.2.2.2.1 ∧ b.1.2.2.2.1 ≤ 1000000
def qeA (f t : Int) (b : qca) : Bool := decide ((if f > b.1.2.2.1 then f else b.1.2.2.1) ≥ (if t < b.1.2.2.1 + b.1.2.2.2.1 then t else b.1.2.2.1 + b.1.2.2.2.1))
theorem qdx {b : qca} (h : SmB b) (f t : Int) : qHe b f t = some (qeA f t b, (f, t)) := by
  obtain ⟨h1, h2, h3, h4⟩ := h
  rw [qml, w64 (x := b.1.2.2.1 + b.1.2.2.2.1) (by omega) (by omega)]; rfl
def onR (f t : Int) (bs : List qca) : List qca := bs.filter fun b => !qeA f t b
theorem qzq {f t : Int} {x : qca} {r : List qca} (h : qeA f t x = false) : onR f t (x :: r) = x :: onR f t r := by unfold onR; rw [List.filter_cons_of_pos (by rw [h]; rfl)]
theorem qEu {f t : Int} {x : qca} {r : List qca} (h : qeA f t x = true) : onR f t (x :: r) = onR f t r := by unfold onR; rw [List.filter_cons_of_neg (by rw [h]; decide)]
theorem qLx (bs : List qca) (hl : bs.length ≤ 100000) (hs : ∀ b ∈ bs, SmB b) (f t : Int) : ∀ (k j : Nat), j + k = bs.length → (∃ m, j ≤ m ∧ m < bs.length ∧ qva bs (bs.length : Int) (j : Int) f t = some ((m : Int), (f, t)) ∧ onR f t ((bs.drop j).take (m - j)) = (bs.drop j).take (m - j) ∧ qeA f t (bs.getD m (qja qna)) = true) ∨
    (qva bs (bs.length : Int) (j : Int) f t = some (-1, (f, t)) ∧ onR f t (bs.drop j) = bs.drop j)
  | 0, j, e => by
    refine .inr ⟨by rw [qjb, if_neg (by simp; omega)], ?_⟩
    rw [List.drop_eq_nil_of_le (by omega)]; rfl
  | k + 1, j, e => by
    have hd := qJa (qja qna : qca) (xs := bs) (i := j) (by omega)
    have hsx := hs _ hd.2.2
    have ih := qLx bs hl hs f t k (j + 1) (by omega)
    rw [show ((j + 1 : Nat) : Int) = (j : Int) + 1 by omega] at ih
    have hun : qva bs (bs.length : Int) (j : Int) f t = if qeA f t (bs.getD j (qja qna)) = true then some ((j : Int), (f, t)) else qva bs (bs.length : Int) ((j : Int) + 1) f t := by
      rw [qjb]
      simp only [Int.ofNat_eq_natCast, Int.toNat_natCast]
      rw [if_pos (by simp; omega), qea (by omega), qea (by omega), qdx hsx, Option.bind_some, w64 (x := (j : Int) + 1) (by omega) (by omega)]
    rw [hun, hd.1]
    generalize hgx : bs.getD j (qja qna) = x at *
    cases hx : qeA f t x with
    | false =>
      rw [if_neg (by decide)]
      rcases ih with ⟨m, h1, h2, h3, h4, h5⟩ | ⟨h3, h4⟩
      · refine .inl ⟨m, by omega, h2, h3, ?_, h5⟩
        rw [show m - j = (m - (j + 1)) + 1 by omega, List.take_succ_cons, qzq hx, h4]
      · exact .inr ⟨h3, by rw [qzq hx, h4]⟩
    | true =>
      rw [if_pos rfl]
      exact .inl ⟨j, Nat.le_refl _, by omega, rfl, by rw [Nat.sub_self]; rfl, by rw [hgx]; exact hx⟩
theorem qNt (f t : Int) (n : Nat) (hn : n ≤ 100000) : ∀ (k j m : Nat) (h0 : List qca), n ≤ h0.length → j + k = n → m < j → (∀ b ∈ h0.take n, SmB b) →
    ∃ n' h', qza 0 n (m : Int) (j : Int) h0 f t = some ((0, n'), (h', (f, t))) ∧ h'.take n' = h0.take m ++ onR f t ((h0.take n).drop j)
  | 0, j, m, h0, hl, e, hm, hs => by
    refine ⟨m, qZb h0 m (List.replicate (n - m) (qja qna)), ?_, ?_⟩
    · rw [qhb, if_neg (by simp; omega), qea (by omega), qea (by simp; omega), qea (by omega), qea (by simp; omega)]
      simp only [Int.toNat_natCast, Nat.sub_zero, Nat.zero_add]
    rw [List.drop_eq_nil_of_le (by rw [List.length_take]; omega)]
    unfold qZb
    rw [List.append_assoc, List.take_append_of_le_length (by rw [List.length_take]; omega), List.take_take, Nat.min_self]
    exact (List.append_nil _).symm
  | k + 1, j, m, h0, hl, e, hm, hs => by
    have hd := qJa (qja qna : qca) (xs := h0.take n) (i := j) (by rw [List.length_take]; omega)
    have hg : (h0.take n).getD j (qja qna) = h0.getD j (qja qna) := by
      simp only [List.getD_eq_getElem?_getD, List.getElem?_take]; rw [if_pos (by omega)]
    rw [hg] at hd
    have hsx := hs _ hd.2.2
    rw [qhb]
    simp only [Int.ofNat_eq_natCast, Int.toNat_natCast, Nat.zero_add]
    rw [if_pos (by simp; omega), qea (by omega), qea (by omega), qdx hsx, Option.bind_some, w64 (x := (j : Int) + 1) (by omega) (by omega), w64 (x := (m : Int) + 1) (by omega) (by omega), hd.1]
    generalize hx0 : h0.getD j (qja qna) = x at *
    cases hx : qeA f t x with
    | false =>
      rw [if_pos (show (!false) = true from rfl), qea (by omega), qea (by omega)]
      have hst : (h0.set m x).take n = (h0.take n).set m x := List.take_set ..
      obtain ⟨n', h', h1, h2⟩ := qNt f t n hn k (j + 1) (m + 1) (h0.set m x) (by rw [List.length_set]; exact hl) (by omega) (by omega) (fun b hb => by
        rw [hst] at hb
        rcases List.mem_or_eq_of_mem_set hb with hb | rfl
        · exact hs b hb
        · exact hsx)
      rw [show ((j + 1 : Nat) : Int) = (j : Int) + 1 by omega, show ((m + 1 : Nat) : Int) = (m : Int) + 1 by omega] at h1
      refine ⟨n', h', h1, ?_⟩
      have ht : (h0.set m x).take (m + 1) = h0.take m ++ [x] := by
        rw [List.take_set, List.take_add_one, List.getElem?_eq_getElem (by omega)]
        rw [List.set_append_right _ _ (by rw [List.length_take]; omega), List.length_take, Nat.min_eq_left (by omega), Nat.sub_self]; rfl
      rw [h2, qzq hx, hst, List.drop_set_of_lt (by omega), ht, List.append_assoc]; rfl
    | true =>
      rw [if_neg (show ¬ ((!true) = true) by decide)]
      obtain ⟨n', h', h1, h2⟩ := qNt f t n hn k (j + 1) m h0 hl (by omega) (by omega) hs
      rw [show ((j + 1 : Nat) : Int) = (j : Int) + 1 by omega] at h1
      exact ⟨n', h', h1, by rw [h2, qEu hx]⟩
theorem qQs {n : Nat} (hn : n ≤ 100000) {h0 : List qca} (hl : n ≤ h0.length) (hs : ∀ b ∈ h0.take n, SmB b) (f t : Int) : ∃ n' h', qWa 0 n h0 f t = some ((0, n'), (h', (f, t))) ∧ h'.take n' = onR f t (h0.take n) := by
  have hln : (h0.take n).length = n := by rw [List.length_take]; omega
  have hi : qYa (List.take n (List.drop 0 h0)) f t = qva (h0.take n) ((h0.take n).length : Int) ((0 : Nat) : Int) f t := qMc (h0.take n) f t
  rw [qIc, hi]
  rcases qLx (h0.take n) (by omega) hs f t (h0.take n).length 0 (by omega) with ⟨m, h1, h2, h3, h4, hx⟩ | ⟨h3, h4⟩
  · simp only [List.drop_zero, Nat.sub_zero] at h4
    rw [hln] at h2
    obtain ⟨n', h', g1, g2⟩ := qNt f t n hn (n - (m + 1)) (m + 1) m h0 hl (by omega) (by omega) hs
    rw [show ((m + 1 : Nat) : Int) = (m : Int) + 1 by omega] at g1
    have hd := qJa (qja qna : qca) (xs := h0.take n) (i := m) (by omega)
    refine ⟨n', h', ?_, ?_⟩
    · rw [h3, Option.bind_some, if_neg (by simp), w64 (x := (m : Int) + 1) (by omega) (by omega)]
      exact g1
    · rw [g2]
      conv => rhs; rw [← List.take_append_drop m (h0.take n), hd.1]
      have ht : (h0.take n).take m = h0.take m := by rw [List.take_take, Nat.min_eq_left (by omega)]
      have hap : ∀ a b : List qca, onR f t (a ++ b) = onR f t a ++ onR f t b := fun a b => List.filter_append ..
      rw [hap, h4, qEu hx, ht]
  · simp only [List.drop_zero] at h4
    refine ⟨n, h0, ?_, h4.symm⟩
    rw [h3]
    exact Tot.eq (Tot.be rfl (Tot.ifeq_pos rfl (Tot.so rfl)))
end Go.Ab

/-
  Extracting: the bytes of a range.
-/
set_option linter.unusedVariables false
set_option linter.unusedSimpArgs false
set_option maxRecDepth 100000
namespace Go.Ab
open Go
attribute [local irreducible] IntKind.wrap
def loR (f o : Int) : Int := if 0 > f - o then 0 else f - o
def hiR (t o n : Int) : Int := if n < t - o then n else t - o
def qpA (f t : Int) (p : qma) : List Int := (p.2.1.drop (loR f p.1.2.1).toNat).take ((hiR t p.1.2.1 p.2.1.length).toNat - (loR f p.1.2.1).toNat)
def InR (f t : Int) (p : qma) : Prop := 0 ≤ f ∧ f ≤ 1000000 ∧ 0 ≤ t ∧ t ≤ 1000000 ∧ 0 ≤ p.1.2.1 ∧ p.1.2.1 ≤ 1000000 ∧ p.2.1.length ≤ 1000000 ∧ loR f p.1.2.1 ≤ hiR t p.1.2.1 p.2.1.length
theorem qqu (f t : Int) (ps : List qma) (hl : ps.length ≤ 10000) (hs : ∀ p ∈ ps, InR f t p) : ∀ (k i : Nat) (out : List Int), i + k = ps.length → out.length ≤ 1000000 * i → qkc (ps.length : Int) (i : Int) f t out ps = some (out ++ (ps.drop i).flatMap (qpA f t), 0)
  | 0, i, out, e, ho => by
    rw [qug, if_neg (by simp; omega), List.drop_eq_nil_of_le (by omega), List.flatMap_nil, List.append_nil]
  | k + 1, i, out, e, ho => by
    have hd := qJa (qja qsa : qma) (xs := ps) (i := i) (by omega)
    have hsx := hs _ hd.2.2
    have ih := fun out ho => qqu f t ps hl hs k (i + 1) out (by omega) ho
    rw [show ((i + 1 : Nat) : Int) = (i : Int) + 1 by omega] at ih
    rw [qug]
    simp only [Int.ofNat_eq_natCast, Int.toNat_natCast, Nat.zero_add]
    rw [if_pos (by simp; omega), qea (by omega), qea (by omega), hd.1, List.flatMap_cons]
    generalize ps.getD i (qja qsa) = x at *
    obtain ⟨h1, h2, h3, h4, h5, h6, h7, h8⟩ := hsx
    rw [w64 (x := f - x.1.2.1) (by omega) (by omega), w64 (x := t - x.1.2.1) (by omega) (by omega), w64 (x := (i : Int) + 1) (by omega) (by omega)]
    have hlo : 0 ≤ loR f x.1.2.1 := by unfold loR; split <;> omega
    have hhi : hiR t x.1.2.1 x.2.1.length ≤ x.2.1.length := by unfold hiR; split <;> omega
    have hcl : (qpA f t x).length ≤ 1000000 := by unfold qpA; rw [List.length_take, List.length_drop]; omega
    have qzt : (out ++ qpA f t x).length ≤ 1000000 * (i + 1) := by rw [List.length_append]; omega
    refine Tot.eq (Tot.g hlo (Tot.g h8 (Tot.g hhi (Tot.g ?_ (Tot.of_eq (ih (out ++ qpA f t x) qzt) ?_)))))
    · show (out ++ qpA f t x).length * 1 ≤ 140737488355328
      omega
    · rw [List.append_assoc]
theorem qLy {ps : List qma} {f t : Int} (hl : ps.length ≤ 10000) (hs : ∀ p ∈ ps, InR f t p) : qkc (ps.length : Int) 0 f t [] ps = some (ps.flatMap (qpA f t), 0) :=
  qqu f t ps hl hs ps.length 0 [] (by omega) (by simp)
end Go.Ab

/-
  Extracting: parts of members, one behind the other, put together.
-/
set_option linter.unusedVariables false
set_option linter.unusedSimpArgs false
set_option maxRecDepth 100000
namespace Go.Ab
open Go
attribute [local irreducible] IntKind.wrap
def Chn (i : Nat) : Nat → List qma → Prop
  | _, [] => True
  | off, p :: r => p.1.1 = (i : Int) ∧ p.1.2.1 = (off : Int) ∧ p.1.2.2.1 = (p.2.1.length : Int) ∧ 0 < p.2.1.length ∧ Chn i (off + p.2.1.length) r
def dat (qs : List qma) : List Int := qs.flatMap fun p => p.2.1
theorem qOt : dat [] = [] := rfl
theorem qZu (p : qma) (r : List qma) : dat (p :: r) = p.2.1 ++ dat r := List.flatMap_cons
theorem qPt (p : qma) (r : List qma) : (dat (p :: r)).length = p.2.1.length + (dat r).length := by rw [qZu, List.length_append]
def ChnL : Nat → List (List qma) → Prop
  | _, [] => True
  | i, q :: r => Chn i 0 q ∧ ChnL (i + 1) r
def SzL : List qaa → List (List qma) → Prop
  | [], [] => True
  | r :: rs, q :: qs => r.2.1 = ((dat q).length : Int) ∧ (dat q).length ≤ 20000 ∧ SzL rs qs
  | _, _ => False
def qKv : List qaa → List (List qma) → Mm
  | r :: rs, q :: qs => (r.1, dat q) :: qKv rs qs
  | _, _ => []
theorem qwh {α : Type} {dn tl : List α} {e d : α} : (dn ++ e :: tl).getD dn.length d = e := by
  rw [List.getD_eq_getElem?_getD, List.getElem?_append_right (Nat.le_refl _), Nat.sub_self]; rfl
theorem qmu {α : Type} {dn tl : List α} {e f : α} : (dn ++ e :: tl).set dn.length f = dn ++ f :: tl := by
  rw [List.set_append_right _ _ (Nat.le_refl _), Nat.sub_self, List.set_cons_zero]
theorem qgx (nm : ByteArray) (dn : Mm) (dn8 : List (List Bool)) (tl : Mm) (tl8 : List (List Bool)) (h8 : dn8.length = dn.length) (rest : List qma) (n : Nat) (hn : n ≤ 1000000) :
    ∀ (qs : List qma) (pre : List Int), Chn dn.length pre.length qs → pre.length + (dat qs).length = n →
      (qPs rest (dn ++ (nm, pre ++ dat qs) :: tl) (dn8 ++ List.replicate n true :: tl8) → qPs (qs ++ rest) (dn ++ (nm, pre ++ List.replicate (n - pre.length) 0) :: tl) (dn8 ++ (List.replicate pre.length true ++ List.replicate (n - pre.length) false) :: tl8)) ∧
      putL (qs ++ rest) (dn ++ (nm, pre ++ List.replicate (n - pre.length) 0) :: tl) = putL rest (dn ++ (nm, pre ++ dat qs) :: tl)
  | [], pre, _, hl => by
    rw [qOt, List.length_nil, Nat.add_zero] at hl
    subst hl
    rw [Nat.sub_self, qOt]
    simp only [List.replicate_zero, List.append_nil, List.nil_append]
    exact ⟨id, trivial⟩
  | p :: qs, pre, hc, hl => by
    obtain ⟨c1, c2, c3, c4, c5⟩ := hc
    rw [qPt] at hl
    have ih := qgx nm dn dn8 tl tl8 h8 rest n hn qs (pre ++ p.2.1) (by rw [List.length_append]; exact c5) (by rw [List.length_append]; omega)
    rw [List.length_append] at ih
    have hM : pM p = dn.length := by unfold pM; rw [c1]; rfl
    have hO : pO p = pre.length := by unfold pO; rw [c2]; rfl
    have e0 : qNA p (dn ++ (nm, pre ++ List.replicate (n - pre.length) 0) :: tl) = dn ++ (nm, (pre ++ p.2.1) ++ List.replicate (n - (pre.length + p.2.1.length)) 0) :: tl := by
      unfold qNA
      rw [hM, hO, qwh, qmu, qBw (by rw [List.length_replicate]; omega), List.drop_replicate, Nat.sub_sub]
    have e8 : qGB p (dn8 ++ (List.replicate pre.length true ++ List.replicate (n - pre.length) false) :: tl8) = dn8 ++ (List.replicate (pre.length + p.2.1.length) true ++ List.replicate (n - (pre.length + p.2.1.length)) false) :: tl8 := by
      unfold qGB
      rw [hM, hO, ← h8, qwh, qmu]
      have := qBw (ys := p.2.1.map fun _ => true) (dn := List.replicate pre.length true) (zs := List.replicate (n - pre.length) false) (by rw [List.length_map, List.length_replicate]; omega)
      rw [List.length_replicate] at this
      rw [this, List.drop_replicate, List.length_map, Nat.sub_sub, List.map_const', List.replicate_append_replicate]
    have e9 : pre ++ dat (p :: qs) = (pre ++ p.2.1) ++ dat qs := by rw [qZu, List.append_assoc]
    rw [List.cons_append, e9]
    refine ⟨fun h => ⟨⟨by rw [c1]; omega, by rw [hM, List.length_append, List.length_cons]; omega, by rw [c2]; omega, by rw [hO]; omega, ?_, ?_, ?_⟩, ?_⟩, ?_⟩
    · rw [hM, qwh, ← h8, qwh]; simp
    · rw [hM, hO, ← h8, qwh]; simp; omega
    · rw [hM, hO, ← h8, qwh]
      intro j h1 h2
      rw [List.getD_eq_getElem?_getD, List.getElem?_append_right (by rw [List.length_replicate]; exact h1), List.length_replicate, List.getElem?_replicate]
      split <;> rfl
    · rw [e0, e8]; exact ih.1 h
    · rw [putL, e0]; exact ih.2
theorem qsu : ∀ (qss : List (List qma)) (rs : List qaa) (dn : Mm) (dn8 : List (List Bool)), dn8.length = dn.length → ChnL dn.length qss → SzL rs qss →
    qPs qss.flatten (dn ++ qWb rs) (dn8 ++ qgj (qWb rs)) ∧ putL qss.flatten (dn ++ qWb rs) = dn ++ qKv rs qss
  | [], [], dn, dn8, h8, _, _ => by simp [qWb, qKv, putL, qPs]
  | [], _ :: _, _, _, _, _, h => h.elim
  | _ :: _, [], _, _, _, _, h => h.elim
  | q :: qss, r :: rs, dn, dn8, h8, hc, hs => by
    obtain ⟨s1, s2, s3⟩ := hs
    have h := qgx r.1 dn dn8 (qWb rs) (qgj (qWb rs)) h8 qss.flatten (dat q).length (by omega) q [] hc.1 (by simp)
    simp only [List.nil_append, List.length_nil, Nat.sub_zero, List.replicate_zero] at h
    have ih := qsu qss rs (dn ++ [(r.1, dat q)]) (dn8 ++ [List.replicate (dat q).length true]) (by simp [h8]) (by simpa using hc.2) s3
    have e1 : qWb (r :: rs) = (r.1, List.replicate (dat q).length 0) :: qWb rs := by
      show (r.1, List.replicate r.2.1.toNat 0) :: _ = _
      rw [s1]; rfl
    have e2 : qgj (qWb (r :: rs)) = List.replicate (dat q).length false :: qgj (qWb rs) := by
      rw [e1]
      show List.replicate (List.replicate (dat q).length (0 : Int)).length false :: _ = _
      rw [List.length_replicate]; rfl
    rw [List.flatten_cons, e2, e1, qKv]
    rw [List.append_assoc, List.append_assoc, List.append_assoc] at ih
    exact ⟨h.1 ih.1, h.2.trans ih.2⟩
theorem qKu : ∀ {rs : List qaa} {qss : List (List qma)}, SzL rs qss → (qKv rs qss).length = rs.length
  | [], [], _ => rfl
  | [], _ :: _, h => h.elim
  | _ :: _, [], h => h.elim
  | _ :: rs, _ :: qss, h => by rw [qKv, List.length_cons, List.length_cons, qKu h.2.2]
theorem Chn.at : ∀ {qs : List qma} {i off : Nat}, Chn i off qs → ∀ p ∈ qs, p.1.1 = (i : Int) ∧ (off : Int) ≤ p.1.2.1 ∧ 0 < p.1.2.2.1 ∧ p.1.2.2.1 = (p.2.1.length : Int) ∧ p.1.2.1 + p.1.2.2.1 ≤ (off : Int) + ((dat qs).length : Int)
  | [], _, _, _, p, hp => by cases hp
  | x :: qs, i, off, ⟨c1, c2, c3, c4, c5⟩, p, hp => by
    rw [qPt]
    rcases List.mem_cons.1 hp with rfl | hp
    · exact ⟨c1, by omega, by omega, c3, by omega⟩
    · obtain ⟨h1, h2, h3, h4, h5⟩ := Chn.at c5 p hp
      exact ⟨h1, by omega, h3, h4, by omega⟩
theorem ChnL.at : ∀ {qss : List (List qma)} {rs : List qaa} {k : Nat}, ChnL k qss → SzL rs qss → ∀ p ∈ qss.flatten, (k : Int) ≤ p.1.1 ∧ p.1.1 < (k : Int) + (rs.length : Int) ∧ 0 ≤ p.1.2.1 ∧ 0 < p.1.2.2.1 ∧ p.1.2.2.1 = (p.2.1.length : Int) ∧ p.1.2.1 + p.1.2.2.1 ≤ (szs rs).getD (p.1.1.toNat - k) 0 ∧ (szs rs).getD (p.1.1.toNat - k) 0 ≤ 20000
  | [], _, _, _, _, p, hp => by simp at hp
  | _ :: _, [], _, _, h, _, _ => h.elim
  | q :: qss, r :: rs, k, ⟨c1, c2⟩, ⟨s1, s2, s3⟩, p, hp => by
    rw [List.flatten_cons, List.mem_append] at hp
    rw [List.length_cons]
    rcases hp with hp | hp
    · obtain ⟨h1, h2, h3, h4, h5⟩ := Chn.at c1 p hp
      rw [h1]
      have e : (szs (r :: rs)).getD ((k : Int).toNat - k) 0 = r.2.1 := by rw [Int.toNat_natCast, Nat.sub_self]; rfl
      rw [e]
      exact ⟨by omega, by omega, by omega, h3, h4, by omega, by omega⟩
    · obtain ⟨h1, h2, h3, h4, h5, h6, h7⟩ := ChnL.at c2 s3 p hp
      have e : (szs (r :: rs)).getD (p.1.1.toNat - k) 0 = (szs rs).getD (p.1.1.toNat - (k + 1)) 0 := by
        rw [show p.1.1.toNat - k = (p.1.1.toNat - (k + 1)) + 1 by omega]; rfl
      rw [e]
      exact ⟨by omega, by omega, h3, h4, h5, h6, h7⟩
theorem qPo {i : Int} {ys : List qfa} {e : Int} : ∀ {xs : List qfa}, (∀ p ∈ xs, p.1 ≠ i) → (qBt i (xs ++ ys) e ↔ qBt i ys e)
  | [], _ => Iff.rfl
  | x :: xs, h => by
    rw [List.cons_append, qBt, if_pos (h x (List.mem_cons_self ..))]
    exact qPo fun p hp => h p (List.mem_cons_of_mem _ hp)
theorem qQu {i : Nat} {ys : List qfa} : ∀ {qs : List qma} {off : Nat}, Chn i off qs → (qBt (i : Int) (qs.map (·.1) ++ ys) (off : Int) ↔ qBt (i : Int) ys ((off + (dat qs).length : Nat) : Int))
  | [], off, _ => by simp [qOt]
  | x :: qs, off, ⟨c1, c2, c3, c4, c5⟩ => by
    rw [List.map_cons, List.cons_append, qBt, if_neg (by rw [c1]; exact fun h => h rfl), c2, c3, if_pos (by omega), qPt]
    have := qQu (ys := ys) c5
    rw [show (off : Int) + (x.2.1.length : Int) = ((off + x.2.1.length : Nat) : Int) by omega, this, Nat.add_assoc]
    exact ⟨fun h => h.2, fun h => ⟨Int.le_refl _, h⟩⟩
theorem qTx : ∀ {qss : List (List qma)} {rs : List qaa} {k : Nat}, ChnL k qss → SzL rs qss → ∀ i : Nat, i < rs.length → qBt ((k + i : Nat) : Int) (qss.flatten.map (·.1) ++ [(((k + i : Nat) : Int), ((szs rs).getD i 0, (0, ())))]) 0
  | [], [], _, _, _, i, h => by simp at h
  | [], _ :: _, _, _, h, _, _ => h.elim
  | _ :: _, [], _, _, h, _, _ => h.elim
  | q :: qss, r :: rs, k, ⟨c1, c2⟩, ⟨s1, s2, s3⟩, i, hi => by
    rw [List.flatten_cons, List.map_append, List.append_assoc]
    cases i with
    | zero =>
      rw [Nat.add_zero]
      rw [show (0 : Int) = ((0 : Nat) : Int) from rfl, qQu c1, qPo (fun p hp => by
        obtain ⟨x, hx, rfl⟩ := List.mem_map.1 hp
        have := (ChnL.at c2 s3 x hx).1
        omega)]
      rw [qBt, if_neg (fun h => h rfl)]
      refine ⟨?_, trivial⟩
      show r.2.1 ≤ _
      rw [s1]; omega
    | succ i =>
      rw [qPo (fun p hp => by
        obtain ⟨x, hx, rfl⟩ := List.mem_map.1 hp
        have := (Chn.at c1 x hx).1
        omega)]
      have ih := qTx c2 s3 i (by simpa using hi)
      rw [show k + 1 + i = k + (i + 1) by omega] at ih
      exact ih
theorem qpB {qss : List (List qma)} {rs : List qaa} (hc : ChnL 0 qss) (hs : SzL rs qss) : Cov (szs rs) (qss.flatten.map (·.1)) := fun i hi => by
  have := qTx hc hs i (by rwa [qHh] at hi)
  rwa [Nat.zero_add] at this
theorem qVz : ∀ {qs : List qma} {i off : Nat}, Chn i off qs → (qs.map (·.1)).Pairwise leP
  | [], _, _, _ => List.Pairwise.nil
  | x :: qs, i, off, ⟨c1, c2, c3, c4, c5⟩ => by
    rw [List.map_cons, List.pairwise_cons]
    refine ⟨fun p hp => ?_, qVz c5⟩
    obtain ⟨y, hy, rfl⟩ := List.mem_map.1 hp
    have := Chn.at c5 y hy
    exact .inr ⟨by omega, by omega⟩
theorem qWz : ∀ {qss : List (List qma)} {rs : List qaa} {k : Nat}, ChnL k qss → SzL rs qss → (qss.flatten.map (·.1)).Pairwise leP
  | [], _, _, _, _ => List.Pairwise.nil
  | _ :: _, [], _, _, h => h.elim
  | q :: qss, r :: rs, k, ⟨c1, c2⟩, ⟨s1, s2, s3⟩ => by
    rw [List.flatten_cons, List.map_append, List.pairwise_append]
    refine ⟨qVz c1, qWz c2 s3, fun a ha b hb => ?_⟩
    obtain ⟨x, hx, rfl⟩ := List.mem_map.1 ha
    obtain ⟨y, hy, rfl⟩ := List.mem_map.1 hb
    have h1 := (Chn.at c1 x hx).1
    have h2 := (ChnL.at c2 s3 y hy).1
    exact .inl (by omega)
theorem qsC {l : List qfa} (h : l.Pairwise leP) : Ord l := fun i j hij hj => by
  simp only [List.getD_eq_getElem?_getD, List.getElem?_eq_getElem hj, List.getElem?_eq_getElem (Nat.lt_of_le_of_lt hij hj), Option.getD_some]
  rcases Nat.lt_or_eq_of_le hij with h1 | h1
  · exact List.pairwise_iff_getElem.1 h i j _ hj h1
  · subst h1; exact .inr ⟨rfl, Int.le_refl _⟩
theorem qnB {rs : List qaa} {qss : List (List qma)} (hR : RecsOK rs) (hv : qoe rs = 0) (hl : rs.length ≤ 10000) (hc : ChnL 0 qss) (hs : SzL rs qss) (hps : qss.flatten.length ≤ 600)
    (hso : qBa (qss.flatten.map (·.1)) = some (qss.flatten.map (·.1))) (hb : ∀ q ∈ qss, Bts (dat q)) :
    qub rs qss.flatten = some (if qvv rs (qUf (a := .str) (e := .int .u8) (qKv rs qss)) rs.length 0 = true then (qUf (a := .str) (e := .int .u8) (qKv rs qss), 0) else ([], 22)) := by
  have hsz : ∀ (rs : List qaa) (qss : List (List qma)), SzL rs qss → ∀ r ∈ rs, 0 ≤ r.2.1 ∧ r.2.1 ≤ 20000 := by
    intro rs
    induction rs with
    | nil => intro _ _ r hr; cases hr
    | cons r rs ih =>
      intro qss h x hx
      cases qss with
      | nil => exact h.elim
      | cons q qss =>
        rcases List.mem_cons.1 hx with rfl | hx
        · have := h.1; have := h.2.1; omega
        · exact ih qss h.2.2 x hx
  have hpa := qsu qss rs [] [] rfl hc hs
  simp only [List.nil_append] at hpa
  have hat := fun p hp => ChnL.at hc hs p hp
  have hmm : ∀ (rs : List qaa) (qss : List (List qma)), SzL rs qss → (∀ q ∈ qss, Bts (dat q)) → ∀ m ∈ qKv rs qss, Bts m.2 ∧ m.2.length ≤ 20000 := by
    intro rs
    induction rs with
    | nil => intro qss h _ m hm; cases qss <;> simp [qKv] at hm
    | cons r rs ih =>
      intro qss h hb m hm
      cases qss with
      | nil => exact h.elim
      | cons q qss =>
        rw [qKv] at hm
        rcases List.mem_cons.1 hm with rfl | hm
        · exact ⟨hb q (List.mem_cons_self ..), h.2.1⟩
        · exact ih qss h.2.2 (fun q hq => hb q (List.mem_cons_of_mem _ hq)) m hm
  have h := qLz (rs := rs) (ps := qss.flatten) hR hv hl (hsz rs qss hs) hps (fun p hp => by
    obtain ⟨h1, h2, h3, h4, h5, h6, h7⟩ := hat p hp
    rw [Nat.sub_zero] at h6 h7
    exact ⟨⟨by omega, by rw [qHh]; omega, h3, h4, h6, by omega⟩, h5.symm⟩) hpa.1 hso (fun p hp => by
    obtain ⟨h1, h2, h3, h4, h5, h6, h7⟩ := hat p hp
    exact ⟨h3, by omega, by omega, by omega⟩) (qpB hc hs) (by rw [hpa.2]; exact qKu hs) (by rw [hpa.2]; exact hmm rs qss hs hb)
  rw [hpa.2] at h
  exact h
end Go.Ab

/-
  Extracting: what Extract, One and Range answer where an archive was opened.
-/
set_option linter.unusedVariables false
set_option linter.unusedSimpArgs false
set_option maxRecDepth 100000
namespace Go.Ab
open Go
attribute [local irreducible] IntKind.wrap
structure Opn (a : List Int) (l : qua) (bs : List qca) : Prop where
  op : qcb a = some (l, (bs, 0))
  lv : 0 ≤ l.1.1 ∧ l.1.1 ≤ 7
  st : ∀ b ∈ bs, StB b
  ln : bs.length ≤ 600
  rk : RecsOK l.2.1
  vl : qoe l.2.1 = 0
  rn : l.2.1.length ≤ 16
theorem qmf : ∀ {bs : List qca}, (∀ b ∈ bs, (qZp b).2 = 0) → qWn bs = some (bs.map prt)
  | [], _ => rfl
  | b :: r, h => by
    rw [qWn, if_neg (fun k => k (h b (List.mem_cons_self ..))), qmf fun x hx => h x (List.mem_cons_of_mem _ hx)]
    rfl
theorem qln : ∀ {bs : List qca}, (∃ b ∈ bs, (qZp b).2 ≠ 0) → qWn bs = none
  | [], h => by obtain ⟨_, h, _⟩ := h; cases h
  | b :: r, h => by
    rw [qWn]
    split
    · rfl
    · rename_i hb
      obtain ⟨x, hx, h⟩ := h
      rcases List.mem_cons.1 hx with rfl | hx
      · exact absurd h hb
      · rw [qln ⟨x, hx, h⟩]; rfl
theorem qht {a1 a2 : Int} {z : List Int} : qZp (qZf a1 a2 z) = (z, 0) := if_pos rfl
theorem qAq {i : Int} {bs : List qca} {b : qca} (h : b ∈ ofM i bs) : b ∈ bs := (List.mem_filter.1 h).1
theorem qSA {f t : Int} {bs : List qca} {b : qca} (h : b ∈ onR f t bs) : b ∈ bs := (List.mem_filter.1 h).1
section
variable {a : List Int} {l : qua} {bs : List qca}
theorem qcu {e : Int} (h : qcb a = some (l, (bs, e))) (he : e ≠ 0) : qOa a = some ([], e) := by
  rw [qIe, h]
  exact Tot.eq (Tot.be rfl (Tot.ifne (fun _ => Tot.so rfl) (fun k => absurd k he)))
theorem Opn.parts (o : Opn a l bs) {cs : List qca} (hc : ∀ b ∈ cs, b ∈ bs) (hl : cs.length ≤ 10000) : qSb l.1.1 cs = some (qPA (qWn cs)) := qHv _ o.lv cs hl fun b hb => o.st b (hc b hb)
theorem Opn.none (o : Opn a l bs) (h : qWn bs = none) : qOa a = some ([], 22) := by
  have hp := o.parts (cs := bs) (fun b hb => hb) (by have := o.ln; omega)
  rw [h] at hp
  rw [qIe, o.op]
  exact Tot.eq (Tot.be rfl (Tot.ifne_neg rfl (Tot.be hp (Tot.ifne (fun _ => Tot.so rfl) (fun k => by cases k)))))
theorem Opn.some {ps : List qma} (o : Opn a l bs) (h : qWn bs = some ps) : qOa a = qub l.2.1 ps := by
  have hp := o.parts (cs := bs) (fun b hb => hb) (by have := o.ln; omega)
  rw [h] at hp
  rw [qIe, o.op, Option.bind_some]
  refine (if_neg (show ¬ ((0 : Int) != 0) = true by decide)).trans ?_
  show (qSb l.1.1 bs).bind _ = _
  rw [hp, Option.bind_some]
  refine (if_neg (show ¬ ((0 : Int) != 0) = true by decide)).trans ?_
  show (qub l.2.1 ps).bind _ = _
  cases qub l.2.1 ps <;> rfl
def zM : qla := (ByteArray.empty, ([], ()))
theorem qoB {e : Int} (h : qcb a = Option.some (l, (bs, e))) (he : e ≠ 0) (nm : ByteArray) : qTa a nm = Option.some (zM, e) := by
  rw [qtf, qSu he h nm]
  exact Tot.eq (Tot.be rfl (Tot.ifne (fun _ => Tot.so rfl) (fun k => absurd k he)))
theorem Opn.find (o : Opn a l bs) (nm : ByteArray) : qaf l.2.1 nm = Option.some (nmR (nmI nm l.2.1 0)) := qYm o.rk (by have := o.rn; omega) o.vl nm
theorem Opn.one_no (o : Opn a l bs) {nm : ByteArray} (h : nmI nm l.2.1 0 = Option.none) : qTa a nm = Option.some (zM, 6) := by
  have hf := o.find nm
  rw [h] at hf
  rw [qtf, qps o.op hf]
  exact Tot.eq (Tot.be rfl (Tot.ifne (fun _ => Tot.so rfl) (fun k => by cases k)))
theorem qHu {nm : ByteArray} : ∀ {rs : List qaa} {i j : Nat}, nmI nm rs i = Option.some j → i ≤ j ∧ j < i + rs.length
  | [], i, j, h => by cases h
  | r :: rs, i, j, h => by
    rw [nmI] at h
    split at h
    · cases h; simp
    · have := qHu h
      rw [List.length_cons]; omega
theorem Opn.one_none (o : Opn a l bs) {nm : ByteArray} {i : Nat} (h : nmI nm l.2.1 0 = Option.some i) (hp : qWn (ofM i bs) = Option.none) : qTa a nm = Option.some (zM, 22) := by
  have hf := o.find nm
  rw [h] at hf
  obtain ⟨n, h', h1, h2, hnn⟩ := qkl (by have := o.ln; omega) o.op hf
  have hlen : (ofM (i : Int) bs).length ≤ bs.length := List.length_filter_le ..
  have hpa := o.parts (cs := ofM i bs) (fun b hb => qAq hb) (by have := o.ln; omega)
  rw [hp, ← h2] at hpa
  rw [qtf, h1]
  exact Tot.eq (Tot.be rfl (Tot.ifne_neg rfl (Tot.be (by rw [List.drop_zero]; exact hpa) (Tot.ifne (fun _ => Tot.so rfl) (fun k => by cases k)))))
theorem Opn.one_some (o : Opn a l bs) {nm : ByteArray} {i : Nat} (h : nmI nm l.2.1 0 = Option.some i) {ps : List qma} (hp : qWn (ofM i bs) = Option.some ps) (hl : ps.length ≤ 10000) :
    qTa a nm = (qub [l.2.1.getD i (qja qba)] (ps.map z0)).bind fun r => if (r.2 != (0 : Int)) = true then Option.some (zM, r.2) else gd ((0 : Int) < Int.ofNat r.1.length) (Option.some (r.1.getD 0 (qja qka), 0)) := by
  have hf := o.find nm
  rw [h] at hf
  have hi := qHu h
  obtain ⟨n, h', h1, h2, hnn⟩ := qkl (by have := o.ln; omega) o.op hf
  have hlen : (ofM (i : Int) bs).length ≤ bs.length := List.length_filter_le ..
  have hpa := o.parts (cs := ofM i bs) (fun b hb => qAq hb) (by have := o.ln; omega)
  rw [hp, ← h2] at hpa
  have h3 := qwA i l (by omega) (by have := o.rn; omega) ps (by omega) ByteArray.empty [] ps.length 0 (by omega)
  rw [List.take_zero, List.map_nil, List.nil_append, List.drop_zero] at h3
  rw [qtf, h1, Option.bind_some]
  refine (if_neg (show ¬ ((0 : Int) != 0) = true by decide)).trans ?_
  show (qSb l.1.1 (List.take n (List.drop 0 h'))).bind _ = _
  rw [List.drop_zero, hpa, Option.bind_some]
  refine (if_neg (show ¬ ((0 : Int) != 0) = true by decide)).trans ?_
  exact h3
theorem qMy {e : Int} (h : qcb a = Option.some (l, (bs, e))) (he : e ≠ 0) (nm : ByteArray) (f t : Int) : qxa a nm f t = Option.some ([], e) := by
  rw [qVd, qSu he h nm]
  exact Tot.eq (Tot.be rfl (Tot.ifne (fun _ => Tot.so rfl) (fun k => absurd k he)))
theorem Opn.range_no (o : Opn a l bs) {nm : ByteArray} (h : nmI nm l.2.1 0 = Option.none) (f t : Int) : qxa a nm f t = Option.some ([], 6) := by
  have hf := o.find nm
  rw [h] at hf
  rw [qVd, qps o.op hf]
  exact Tot.eq (Tot.be rfl (Tot.ifne (fun _ => Tot.so rfl) (fun k => by cases k)))
theorem Opn.range_arg (o : Opn a l bs) {nm : ByteArray} {i : Nat} (h : nmI nm l.2.1 0 = Option.some i) {f t : Int} (hx : f < 0 ∨ t < f ∨ t > (l.2.1.getD i (qja qba)).2.1) : qxa a nm f t = Option.some ([], 2) := by
  have hf := o.find nm
  rw [h] at hf
  have hi := qHu h
  obtain ⟨n, h', h1, h2, hnn⟩ := qkl (by have := o.ln; omega) o.op hf
  rw [qVd, h1]
  refine Tot.eq (Tot.be rfl (Tot.ifne_neg rfl (Tot.ifd (fun _ => Tot.so rfl) (fun k1 => Tot.ifd (fun _ => Tot.so rfl) (fun k2 => Tot.g (by show (0 : Int) ≤ (i : Int); omega) (Tot.g (by show (i : Int) < (l.2.1.length : Int); omega) (Tot.ifd_pos ?_ (Tot.so rfl))))))))
  show t > (l.2.1.getD ((i : Int).toNat) (qja qba)).2.1
  rw [Int.toNat_natCast]
  omega
theorem Opn.range_go (o : Opn a l bs) (hs : ∀ b ∈ bs, SmB b) {nm : ByteArray} {i : Nat} (h : nmI nm l.2.1 0 = Option.some i) {f t : Int} (h1 : 0 ≤ f) (h2 : f ≤ t) (h3 : t ≤ (l.2.1.getD i (qja qba)).2.1) {r : List Int × Int}
    (hr : Tot (if ((qPA (qWn (onR f t (ofM i bs)))).2 != (0 : Int)) = true then Option.some ([], (qPA (qWn (onR f t (ofM i bs)))).2) else qkc (Int.ofNat (qPA (qWn (onR f t (ofM i bs)))).1.length) 0 f t [] (qPA (qWn (onR f t (ofM i bs)))).1) fun x => x = r) : qxa a nm f t = Option.some r := by
  have hf := o.find nm
  rw [h] at hf
  have hi := qHu h
  obtain ⟨n, h', g1, g2, hnn⟩ := qkl (by have := o.ln; omega) o.op hf
  have hlen : (ofM (i : Int) bs).length ≤ bs.length := List.length_filter_le ..
  have hln := o.ln
  have hnl : (h'.take n).length = n := by rw [List.length_take]; omega
  have hn6 : n ≤ 600 := by rw [← hnl, g2]; omega
  obtain ⟨n', h'', k1, k2⟩ := qQs (n := n) (by omega) (h0 := h') hnn (fun b hb => hs b (by rw [g2] at hb; exact qAq hb)) f t
  rw [g2] at k2
  have hlen2 : (onR f t (ofM (i : Int) bs)).length ≤ (ofM (i : Int) bs).length := List.length_filter_le ..
  have hpa := o.parts (cs := onR f t (ofM i bs)) (fun b hb => qAq (qSA hb)) (by omega)
  have hpa2 : qSb l.1.1 (h''.take n') = Option.some (qPA (qWn (onR f t (ofM i bs)))) := by rw [k2]; exact hpa
  rw [qVd, g1]
  refine Tot.eq (Tot.be rfl (Tot.ifne_neg rfl (Tot.ifd_neg (by omega) (Tot.ifd_neg (by omega) (Tot.g (by show (0 : Int) ≤ (i : Int); omega) (Tot.g (by show (i : Int) < (l.2.1.length : Int); omega) (Tot.ifd_neg ?_ (Tot.be k1 (Tot.be (by rw [List.drop_zero]; exact hpa2) hr)))))))))
  show ¬ t > (l.2.1.getD ((i : Int).toNat) (qja qba)).2.1
  rw [Int.toNat_natCast]
  omega
theorem Opn.range_none (o : Opn a l bs) (hs : ∀ b ∈ bs, SmB b) {nm : ByteArray} {i : Nat} (h : nmI nm l.2.1 0 = Option.some i) {f t : Int} (h1 : 0 ≤ f) (h2 : f ≤ t) (h3 : t ≤ (l.2.1.getD i (qja qba)).2.1) (hp : qWn (onR f t (ofM i bs)) = Option.none) : qxa a nm f t = Option.some ([], 22) :=
  o.range_go hs h h1 h2 h3 (by rw [hp]; exact Tot.ifne (fun _ => Tot.so rfl) (fun k => by cases k))
theorem Opn.range_some (o : Opn a l bs) (hs : ∀ b ∈ bs, SmB b) {nm : ByteArray} {i : Nat} (h : nmI nm l.2.1 0 = Option.some i) {f t : Int} (h1 : 0 ≤ f) (h2 : f ≤ t) (h3 : t ≤ (l.2.1.getD i (qja qba)).2.1) {ps : List qma} (hp : qWn (onR f t (ofM i bs)) = Option.some ps)
    (hl : ps.length ≤ 10000) (hR : ∀ p ∈ ps, InR f t p) : qxa a nm f t = Option.some (ps.flatMap (qpA f t), 0) :=
  o.range_go hs h h1 h2 h3 (by rw [hp]; exact Tot.ifne_neg rfl (Tot.of_eq (qLy hl hR) rfl))
end
end Go.Ab

/-
  Archives of stored blocks, as the law of extracting makes them.
-/
set_option linter.unusedVariables false
set_option linter.unusedSimpArgs false
set_option maxRecDepth 100000
namespace Go.Ab
open Go
attribute [local irreducible] IntKind.wrap
noncomputable def qsD (rs : List qaa) (X : List qca) : Option (List Int) := (qKb ((0 : Int), ((16 : Int), ())) rs).bind fun r2 => (qXb r2 X).bind fun r3 => some r3
theorem qCA (l : List qla) (hl : l.length ≤ 16) (i : Nat) (hi : i < l.length) (hn : (qti l i).length ≤ 8192) (rs : List qaa) : ∀ (k : Nat) (off : Int) (h9 : List qca), ((qti l i).length : Int) - off ≤ 16 * (k : Int) → 0 ≤ off → off ≤ 200000 - 16 * (k : Int) → h9.length + k ≤ 1000000 →
    qdc l (i : Int) off rs h9 = qvb l ((i : Int) + 1) rs (h9 ++ (pcs (i : Int) (qti l i).length 16 k off).map (stB (qti l))) := by
  intro k
  induction k with
  | zero =>
    intro off h9 e h0 h1 h2
    rw [qPd, qea (by omega), qea (by simp; omega)]
    have hm : (l.getD i (qja qka)).2.1 = qti l i := rfl
    simp only [Int.toNat_natCast, Int.ofNat_eq_natCast, hm, decide_eq_true_eq]
    rw [if_neg (by omega), w64 (by omega) (by omega), pcs, List.map_nil, List.append_nil]
  | succ k ih =>
    intro off h9 e h0 h1 h2
    rw [qPd, qea (by omega), qea (by simp; omega)]
    have hm : (l.getD i (qja qka)).2.1 = qti l i := rfl
    simp only [Int.toNat_natCast, Int.ofNat_eq_natCast, hm, decide_eq_true_eq]
    rw [w64 (x := off + 16) (by omega) (by omega), pcs]
    by_cases ho : off < ((qti l i).length : Int)
    · have ih := fun h9 h2 => ih (off + 16) h9 (by omega) (by omega) (by omega) h2
      rw [if_pos ho, if_pos ho]
      have hz : (if off + 16 < ((qti l i).length : Int) then off + 16 else ((qti l i).length : Int)).toNat - off.toNat = (if (16 : Int) < ((qti l i).length : Int) - off then (16 : Int) else ((qti l i).length : Int) - off).toNat := by
        split <;> split <;> omega
      rw [hz]
      have hzl : ((qti l i).drop off.toNat).length ≤ 8192 := by rw [List.length_drop]; omega
      have hmd := qOs (a1 := (i : Int)) (a2 := off) (z := ((qti l i).drop off.toNat).take (if (16 : Int) < ((qti l i).length : Int) - off then (16 : Int) else ((qti l i).length : Int) - off).toNat) (by rw [List.length_take]; split <;> omega)
      rw [qea (by omega), qea (by omega), qea (by omega), qea (by omega), qea (by omega), qea (by split <;> omega), qea (by split <;> omega), hmd, Option.bind_some, qea (by rw [List.length_append, List.length_singleton]; omega), ih _ (by rw [List.length_append, List.length_singleton]; omega), List.append_assoc]
      rfl
    · rw [if_neg ho, if_neg ho, List.map_nil, List.append_nil, w64 (by omega) (by omega)]
theorem qJw (l : List qla) (hl : l.length ≤ 16) (hn : ∀ i, (qti l i).length ≤ 8192) (rs : List qaa) : ∀ (k i : Nat) (h9 : List qca), i + k = l.length → h9.length ≤ 10000 * i →
    qvb l (i : Int) rs h9 = qsD rs (h9 ++ (ap 16 (i : Int) ((recs l).drop i)).map (stB (qti l)))
  | 0, i, h9, e, h1 => by
    rw [qQd, if_neg (by simp; omega), List.drop_eq_nil_of_le (by rw [qNg]; omega), ap, List.map_nil, List.append_nil]
    rfl
  | k + 1, i, h9, e, h1 => by
    have hd := qJa (qja qba : qaa) (xs := recs l) (i := i) (by rw [qNg]; omega)
    have hg := qsq l i (by omega)
    have hsz : ((recs l).getD i (qja qba)).2.1 = ((qti l i).length : Int) := by rw [hg]; rfl
    have hpl := qYn (i : Int) ((qti l i).length : Int) 16 (by omega) 8200 0 (by omega) (by omega)
    have hni := hn i
    have ih := qJw l hl hn rs k (i + 1) (h9 ++ (pcs (i : Int) (qti l i).length 16 8200 0).map (stB (qti l))) (by omega) (by rw [List.length_append, List.length_map]; omega)
    rw [show ((i + 1 : Nat) : Int) = (i : Int) + 1 by omega] at ih
    rw [qQd, if_pos (by simp; omega), qCA l hl i (by omega) (hn i) rs 8200 0 h9 (by omega) (by omega) (by omega) (by omega), ih, hd.1, ap, hsz, List.map_append, List.append_assoc]
theorem qAn (l : List qla) (hM : MemsOK l) (hc : mck l = 0) (ht : tot (recs l) ≤ 80) : qMa l = some (qAw (qti l) (recs l)) := by
  obtain ⟨h, hn, hs⟩ := qrA hM hc
  have hV := qxc h.val
  have hlen := h.len ht
  have hh := qTn sA (recs l) hV h.sums
  have hhl : (qDf sA (recs l)).length = 28 + (qCb (recs l)).length := qqn
  have hbw : ∀ b ∈ (psA (recs l)).map (stB (qti l)), bWf b ∧ b.2.1.length ≤ 5000 := fun b hb => by
    obtain ⟨p, hp, rfl⟩ := List.mem_map.1 hb
    obtain ⟨a, b, c, d, f, g⟩ := h.piece hp
    exact ⟨qvj _ _ _, by have := c.2.2.2.1; show (ptD (qti l) p).2.1.length ≤ 5000; omega⟩
  have hj := qbu ((psA (recs l)).map (stB (qti l))) hbw (by rw [List.length_map]; omega) ((psA (recs l)).map (stB (qti l))).length 0 (qDf sA (recs l)) (by omega) (by omega)
  have hJ : qXb (qDf sA (recs l)) ((psA (recs l)).map (stB (qti l))) = some (qAw (qti l) (recs l)) := by
    rw [qPf, List.nil_append]
    refine Tot.eq (Tot.g (by omega) (Tot.of_eq hj ?_))
    rw [List.drop_zero]; rfl
  have hml : ∀ i, (qti l i).length ≤ 8192 := fun i => by
    by_cases hi : i < (recs l).length
    · have h1 := h.sz i hi
      have hm : (recs l).getD i (qja qba) ∈ recs l := qRq (P := fun r => r ∈ recs l) (fun r hr => hr) i hi
      have h2 := (hV.each _ hm).2.1
      omega
    · have : qti l i = [] := by
        unfold qti
        rw [List.getD_eq_getElem?_getD, List.getElem?_eq_none (by rw [qNg] at hi; omega)]
        rfl
      rw [this]; exact Nat.zero_le _
  have h1 := qJw l hn hml (recs l) l.length 0 [] (by omega) (by simp)
  rw [List.drop_zero, List.nil_append] at h1
  have h2 : qsD (recs l) ((ap 16 ((0 : Nat) : Int) (recs l)).map (stB (qti l))) = some (qAw (qti l) (recs l)) := Tot.eq (Tot.be hh (Tot.be hJ (Tot.so rfl)))
  rw [qwi]
  exact Tot.eq (Tot.be (qNs l hM hc) (Tot.of_eq (h1.trans h2) rfl))
end Go.Ab

/-
  Archives, opened: the blocks that were read.
-/
set_option linter.unusedVariables false
set_option linter.unusedSimpArgs false
set_option maxRecDepth 100000
namespace Go.Ab
open Go
attribute [local irreducible] IntKind.wrap
theorem qJA (a : List Int) : rdK a = rdB a := rfl
theorem qPp {a : List Int} {e : Nat} : ∀ {hs : List qga} {bs : List qca} {p : Nat}, Std a e p hs bs → (plc (p : Int) hs).map (fun x => (rdK (a.drop x.toNat)).1) = bs ∧ (∀ x ∈ plc (p : Int) hs, 0 ≤ x ∧ x ≤ (a.length : Int)) ∧ bs.map (·.1) = hs
  | [], [], p, h => ⟨rfl, fun x hx => (by cases hx), rfl⟩
  | [], _ :: _, p, h => h.elim
  | _ :: _, [], p, h => h.elim
  | g :: hs, x :: bs, p, ⟨h1, h2, h3, h4, h5⟩ => by
    have hl := qAk h3
    obtain ⟨i1, i2, i3⟩ := qPp h5
    have e : ((p + (41 + g.2.2.2.2.1).toNat : Nat) : Int) = (p : Int) + (41 + g.2.2.2.2.1) := by omega
    rw [e] at i1 i2
    refine ⟨?_, ?_, ?_⟩
    · rw [plc, List.map_cons, i1, Int.toNat_natCast, qJA, h1]
    · intro y hy
      rw [plc] at hy
      rcases List.mem_cons.1 hy with rfl | hy
      · omega
      · exact i2 y hy
    · rw [List.map_cons, i3, h2]
theorem qtu : ∀ (hs : List qga) (a : Int), (plc a hs).length = hs.length
  | [], _ => rfl
  | _ :: hs, a => by rw [plc, List.length_cons, List.length_cons, qtu hs]
theorem qQz {a : List Int} (hb : Bts a) {e : Nat} : ∀ {hs : List qga} {bs : List qca} {p : Nat}, Std a e p hs bs → ∀ x ∈ bs, hOK x.1 ∧ bC x = 0 ∧ Bts x.2.1
  | [], [], p, h, x, hx => by cases hx
  | [], _ :: _, p, h, _, _ => h.elim
  | _ :: _, [], p, h, _, _ => h.elim
  | g :: hs, x :: bs, p, ⟨h1, h2, h3, h4, h5⟩, y, hy => by
    rcases List.mem_cons.1 hy with rfl | hy
    · obtain ⟨k1, k2, k3, k4, k5, k6, k7⟩ := qcx (c := a.drop p) (by rw [h1])
      have e1 : (rdB (a.drop p)).1 = y := by rw [h1]
      have hl := qAk k1
      rw [k2] at k3
      have hy : y = (pH (((a.drop p).drop 13).take 28), (((a.drop p).drop 41).take (pH (((a.drop p).drop 13).take 28)).2.2.2.2.1.toNat, ())) := by rw [← e1, k7]
      rw [e1] at k1 k3 hl
      have hlen : ((y.2.1.length : Nat) : Int) = y.1.2.2.2.2.1 := by
        have h0 : y.2.1 = ((a.drop p).drop 41).take y.1.2.2.2.2.1.toNat := by
          conv => lhs; rw [hy]
          conv => rhs; rw [hy]
        rw [h0, List.length_take, List.length_drop]
        omega
      refine ⟨k1, ?_, ?_⟩
      · unfold bC; rw [if_pos ⟨k1, hlen⟩]
      · rw [hy]; exact ((hb.drop _).drop _).take _
    · exact qQz hb h5 y hy
theorem qvu (i n s : Int) (hs : 16 ≤ s) : ∀ (k : Nat) (off : Int), 16 * ((pcs i n s k off).length : Int) ≤ (if off < n then n - off + 15 else 0)
  | 0, off => by simp only [pcs]; split <;> simp; omega
  | k + 1, off => by
    have ih := qvu i n s hs k (off + s)
    simp only [pcs]
    split
    · rw [List.length_cons]
      split at ih <;> omega
    · simp
theorem quA (s : Int) (hs : 16 ≤ s) : ∀ (rs : List qaa) (i : Int), (∀ r ∈ rs, 0 ≤ r.2.1) → 16 * ((ap s i rs).length : Int) ≤ tot rs + 15 * (rs.length : Int)
  | [], i, _ => by simp [ap, tot]
  | r :: rs, i, h => by
    have ih := quA s hs rs (i + 1) fun x hx => h x (List.mem_cons_of_mem _ hx)
    have h1 := qvu i r.2.1 s hs 8200 0
    have h2 := h r (List.mem_cons_self ..)
    rw [ap, List.length_append, List.length_cons]
    have e : tot (r :: rs) = r.2.1 + tot rs := rfl
    split at h1 <;> omega
structure Opd (a : List Int) (l : qua) (bs : List qca) : Prop where
  eq : qkq a = (l, (bs, 0))
  op : qcb a = some (l, (bs, 0))
  lv : 0 ≤ l.1.1 ∧ l.1.1 ≤ 7
  ok : ∀ b ∈ bs, hOK b.1 ∧ bC b = 0 ∧ Bts b.2.1
  ln : bs.length ≤ 600
  rk : RecsOK l.2.1
  vl : qoe l.2.1 = 0
  sm : SumsOK l.2.1
  hd : bs.map (·.1) = l.2.2.1
  ck : lck l = 0
  pl : qZh l = some (plc (28 + qzt l.2.1) l.2.2.1, 0)
  bk : 16 ≤ l.1.2.1 ∧ l.1.2.1 ≤ 4096
theorem qJB {a : List Int} (hb : Bts a) (h : (qkq a).2.2 = 0) : Opd a (qkq a).1 (qkq a).2.1 := by
  obtain ⟨rs, q, hs, bs, hO⟩ := qjB hb h
  have hV := hO.head.recsV
  have hl := qJz hO
  have hq : (q : Int) = qzt rs := by
    rw [← qNi rs hO.head.read.sums, hO.head.read.bytes, List.length_take]
    have := hO.head.read.le
    omega
  obtain ⟨s1, s2, s3⟩ := qPp hO.std
  have hplen := qtu hs ((28 + q : Nat) : Int)
  have hcnt := quA (sH a).2.1 hO.head.blk.1 rs 0 (fun r hr => (hV.each r hr).1)
  have hbl := hO.blen
  have hhl := hO.hlen
  have h6 : bs.length ≤ 600 := by
    have := hV.len; have := hV.tot; omega
  have hpe : qKr (sH a, (rs, (hs, ()))) = plc ((28 + q : Nat) : Int) hs := by
    unfold qKr
    rw [show ((28 + q : Nat) : Int) = 28 + qzt rs by omega]
  have hop := qux hb (l := (sH a, (rs, (hs, ())))) hO.eq hO.head.read.recs hO.head.read.sums hl (by rw [hpe]; exact s2) (by rw [hpe, hplen]; omega)
  rw [hpe, s1] at hop
  have hp := qmi (sH a, (rs, (hs, ()))) hO.head.read.recs hO.head.read.sums
  rw [if_pos hl] at hp
  rw [hO.eq]
  exact ⟨hO.eq, hop, (show 0 ≤ (sH a).1 ∧ (sH a).1 ≤ 7 by have := hO.head.chk; unfold chk at this; split at this <;> omega), qQz hb hO.std, h6, hO.head.read.recs, hO.head.read.val, hO.head.read.sums, s3, hl, hp, hO.head.blk⟩
theorem qqz {a : List Int} (hb : Bts a) (h : (qkq a).2.2 ≠ 0) : qcb a = some ((((0 : Int), ((0 : Int), ())), ([], ([], ()))), ([], (qkq a).2.2)) := by
  rw [qdj, qek a hb]
  exact Tot.eq (Tot.be rfl (Tot.ifne (fun _ => Tot.so rfl) (fun k => absurd k h)))
theorem Opd.opn {a : List Int} {l : qua} {bs : List qca} (h : Opd a l bs) (hs : ∀ b ∈ bs, b.1.1 = 1) : Opn a l bs :=
  ⟨h.op, h.lv, fun b hb => ⟨hs b hb, (h.ok b hb).2.1, (h.ok b hb).2.2⟩, h.ln, h.rk, h.vl, (qxc h.vl).len⟩
theorem Opd.smb {a : List Int} {l : qua} {bs : List qca} (h : Opd a l bs) : ∀ b ∈ bs, SmB b := fun b hb => by
  have := (h.ok b hb).1
  unfold hOK at this
  unfold SmB
  omega
end Go.Ab

/-
  ExtractNames: the archives.
-/
set_option linter.unusedVariables false
set_option linter.unusedSimpArgs false
set_option maxRecDepth 100000
namespace Go.Ab
open Go
attribute [local irreducible] IntKind.wrap
theorem qal {s : qpa} {rs : List qaa} {bs : List qca} (hc : chk s = 0) (hv : qoe rs = 0) (hS : SumsOK rs) (hF : Fit bs (ap s.2.1 0 rs)) (hl : (qxi s rs bs).length ≤ 40000) (hb : Bts (qxi s rs bs)) : Opd (qxi s rs bs) (s, (rs, (bs.map (·.1), ()))) bs := by
  have h := qKs hc hv hS hF hl
  have := qJB hb (by rw [h])
  rw [h] at this
  exact this
theorem qcv {l : List Int} (h : l.all (fun x => decide (0 ≤ x ∧ x < 256)) = true) : Bts l := fun x hx => of_decide_eq_true (List.all_eq_true.1 h x hx)
theorem qRw (a : List qla) (hl : a.length ≤ 100000) : ∀ (k i : Nat), i + k = a.length → qrb a a (i : Int) = some true
  | 0, i, e => by rw [qFc, if_neg (by simp; omega)]
  | k + 1, i, e => by
    have ih := qRw a hl k (i + 1) (by omega)
    rw [show ((i + 1 : Nat) : Int) = (i : Int) + 1 by omega] at ih
    rw [qFc]
    simp only [Int.ofNat_eq_natCast]
    rw [if_pos (by simp; omega), qea (by omega), qea (by omega), qea (by omega), qea (by omega), if_neg (by simp), qea (by omega), qea (by omega), qea (by omega), qea (by omega), if_neg (by simp), w64 (by omega) (by omega), ih]
theorem qCr (a : List qla) (hl : a.length ≤ 100000) : qLb a a = some true := by
  rw [qxg, if_neg (by simp)]
  exact qRw a hl a.length 0 (by omega)
def dN : List Int := [48, 49, 50, 51, 52, 53, 54, 55, 56, 57, 97, 98, 99, 100, 101, 102, 88, 89, 90]
def lN : List qla := [((ByteArray.mk #[109]), (dN, ())), ((ByteArray.mk #[110]), ([], ())), ((ByteArray.mk #[111]), ([33], ()))]
def lA : List qla := [((ByteArray.mk #[97]), ([7, 8], ()))]
def rN : List qaa := recs lN
def rAa : List qaa := recs lA
def b0 : qca := qZf 0 0 (dN.take 16)
def b1 : qca := qZf 0 16 (dN.drop 16)
def b2 : qca := qZf 2 0 [33]
def bX2 : qca := (b2.1, ([34], ()))
def kA : qca := qZf 0 0 [7, 8]
def rO : List qaa := [((ByteArray.mk #[109]), (19, ((qjh dN).set 0 (IntKind.wrap .u8 ((qjh dN).getD 0 0 + 1)), ())))]
def kO : qca := qZf 0 0 dN
def sO : qpa := (0, (32, ()))
def wN : List Int := qxi sA rN [b0, b1, b2]
def qTy : List Int := qxi sA rN [b0, b1, bX2]
def wA : List Int := qxi sA rAa [kA]
def wO : List Int := qxi sO rO [kO]
def wE : List Int := qxi sA [] []
theorem qyC {l : List qla} (h : l.all (fun m => decide (m.1.size ≤ 100) && decide (m.2.1.length ≤ 100) && m.2.1.all (fun x => decide (0 ≤ x ∧ x < 256))) = true) : MemsOK l := by
  have h1 : ∀ m ∈ l, (m.1.size ≤ 100 ∧ m.2.1.length ≤ 100) ∧ m.2.1.all (fun x => decide (0 ≤ x ∧ x < 256)) = true := fun m hm => by
    have := List.all_eq_true.1 h m hm
    simpa [Bool.and_eq_true] using this
  exact ⟨fun m hm => by have := (h1 m hm).1.1; omega, fun m hm => by have := (h1 m hm).1.2; omega, fun m hm => qcv (h1 m hm).2⟩
theorem stN : qMa lN = some wN := by
  have h := qAn lN (qyC (by decide +kernel)) (by decide +kernel) (by decide +kernel)
  have e : qAw (qti lN) (recs lN) = wN := by decide +kernel
  rw [e] at h; exact h
theorem stA : qMa lA = some wA := by
  have h := qAn lA (qyC (by decide +kernel)) (by decide +kernel) (by decide +kernel)
  have e : qAw (qti lA) (recs lA) = wA := by decide +kernel
  rw [e] at h; exact h
theorem stE : qMa [] = some wE := by
  have h := qAn [] (qyC (by decide +kernel)) (by decide +kernel) (by decide +kernel)
  have e : qAw (qti []) (recs []) = wE := by decide +kernel
  rw [e] at h; exact h
theorem qMz : wN.length = 243 := by decide +kernel
theorem qBA : wN.set 242 (IntKind.wrap .u8 (wN.getD 242 0 + 1)) = qTy := by decide +kernel
theorem qkC : Bts wN := qcv (by decide +kernel)
theorem qGz : Bts qTy := qcv (by decide +kernel)
theorem qmC : Bts wA := qcv (by decide +kernel)
theorem qjC : Bts wO := qcv (by decide +kernel)
theorem qlC : Bts wE := qcv (by decide +kernel)
theorem quv {rs : List qaa} (h : rs.all (fun r => decide (r.2.2.1.length = 20) && r.2.2.1.all (fun x => decide (0 ≤ x ∧ x < 256))) = true) : SumsOK rs := fun r hr => by
  have := List.all_eq_true.1 h r hr
  rw [Bool.and_eq_true, decide_eq_true_eq] at this
  exact ⟨this.1, qcv this.2⟩
theorem qlA {b : qca} {p : qfa} (h : bC b = 0 ∧ ((0 ≤ b.1.1 ∧ b.1.1 < 256) ∧ b.1.2.2.2.2.2.1.length = 20) ∧ isP b.1 p) : bC b = 0 ∧ bWf b ∧ isP b.1 p := h
theorem apN : ap 16 0 rN = [(0, (0, (16, ()))), (0, (16, (3, ()))), (2, (0, (1, ())))] := by kernel_rfl
theorem apA : ap 16 0 rAa = [(0, (0, (2, ())))] := by kernel_rfl
theorem apO : ap 32 0 rO = [(0, (0, (19, ())))] := by kernel_rfl
theorem opdN : Opd wN (sA, (rN, ([b0, b1, b2].map (·.1), ()))) [b0, b1, b2] :=
  qal (by decide) (by decide +kernel) (quv (by decide +kernel)) (by rw [show sA.2.1 = 16 from rfl, apN]; exact ⟨qlA (by decide +kernel), qlA (by decide +kernel), qlA (by decide +kernel), trivial⟩) (by have := qMz; unfold wN at this; omega) qkC
theorem opdS : Opd qTy (sA, (rN, ([b0, b1, bX2].map (·.1), ()))) [b0, b1, bX2] :=
  qal (by decide) (by decide +kernel) (quv (by decide +kernel)) (by rw [show sA.2.1 = 16 from rfl, apN]; exact ⟨qlA (by decide +kernel), qlA (by decide +kernel), qlA (by decide +kernel), trivial⟩) (by decide +kernel) qGz
theorem opdA : Opd wA (sA, (rAa, ([kA].map (·.1), ()))) [kA] :=
  qal (by decide) (by decide +kernel) (quv (by decide +kernel)) (by rw [show sA.2.1 = 16 from rfl, apA]; exact ⟨qlA (by decide +kernel), trivial⟩) (by decide +kernel) qmC
theorem opdO : Opd wO (sO, (rO, ([kO].map (·.1), ()))) [kO] :=
  qal (by decide) (by decide +kernel) (quv (by decide +kernel)) (by rw [show sO.2.1 = 32 from rfl, apO]; exact ⟨qlA (by decide +kernel), trivial⟩) (by decide +kernel) qjC
theorem opdE : Opd wE (sA, ([], ([], ()))) [] :=
  qal (bs := []) (by decide) (by decide +kernel) (quv (by decide +kernel)) (by show Fit [] (ap 16 0 []); exact trivial) (by decide +kernel) qlC
theorem qqC {bs : List qca} (h : bs.all (fun b => decide (b.1.1 = 1)) = true) : ∀ b ∈ bs, b.1.1 = 1 := fun b hb => of_decide_eq_true (List.all_eq_true.1 h b hb)
theorem oN : Opn wN (sA, (rN, ([b0, b1, b2].map (·.1), ()))) [b0, b1, b2] := opdN.opn (qqC (by decide +kernel))
theorem oS : Opn qTy (sA, (rN, ([b0, b1, bX2].map (·.1), ()))) [b0, b1, bX2] := opdS.opn (qqC (by decide +kernel))
theorem oA : Opn wA (sA, (rAa, ([kA].map (·.1), ()))) [kA] := opdA.opn (qqC (by decide +kernel))
theorem oO : Opn wO (sO, (rO, ([kO].map (·.1), ()))) [kO] := opdO.opn (qqC (by decide +kernel))
theorem oE : Opn wE (sA, ([], ([], ()))) [] := opdE.opn (qqC (by decide +kernel))
end Go.Ab

/-
  ExtractNames: what the calls answer; the law.
-/
set_option linter.unusedVariables false
set_option linter.unusedSimpArgs false
set_option maxRecDepth 100000
namespace Go.Ab
open Go
attribute [local irreducible] IntKind.wrap
def qoA (i : Nat) : ∀ (off : Nat) (qs : List qma), Decidable (Chn i off qs)
  | _, [] => isTrue trivial
  | off, p :: r => @instDecidableAnd _ _ _ (@instDecidableAnd _ _ _ (@instDecidableAnd _ _ _ (@instDecidableAnd _ _ _ (qoA i (off + p.2.1.length) r))))
instance (i off : Nat) (qs : List qma) : Decidable (Chn i off qs) := qoA i off qs
def qry : ∀ (i : Nat) (qs : List (List qma)), Decidable (ChnL i qs)
  | _, [] => isTrue trivial
  | i, q :: r => @instDecidableAnd _ _ _ (qry (i + 1) r)
instance (i : Nat) (qs : List (List qma)) : Decidable (ChnL i qs) := qry i qs
def qnA : ∀ (rs : List qaa) (qs : List (List qma)), Decidable (SzL rs qs)
  | [], [] => isTrue trivial
  | _ :: rs, _ :: qs => @instDecidableAnd _ _ _ (@instDecidableAnd _ _ _ (qnA rs qs))
  | [], _ :: _ => isFalse id
  | _ :: _, [] => isFalse id
instance (rs : List qaa) (qs : List (List qma)) : Decidable (SzL rs qs) := qnA rs qs
theorem qLl {rs : List qaa} {qss : List (List qma)} (hR : RecsOK rs) (hv : qoe rs = 0) (hl : rs.length ≤ 10000) (hc : ChnL 0 qss) (hs : SzL rs qss) (hps : qss.flatten.length ≤ 12) (hb : ∀ q ∈ qss, Bts (dat q)) :
    qub rs qss.flatten = some (if qvv rs (qUf (a := .str) (e := .int .u8) (qKv rs qss)) rs.length 0 = true then (qUf (a := .str) (e := .int .u8) (qKv rs qss), 0) else ([], 22)) :=
  qnB hR hv hl hc hs (by omega) (qKz (by rw [List.length_map]; exact hps) (qsC (qWz hc hs))) hb
theorem qzj {rs : List qaa} (h : rs.all (fun r => decide (r.1.size ≤ 100)) = true) (hl : rs.length ≤ 100) : RecsOK rs := ⟨by omega, fun r hr => by
  have := of_decide_eq_true (List.all_eq_true.1 h r hr); omega⟩
def mN : qla := ((ByteArray.mk #[109]), (dN, ()))
theorem qKC : qub rN ([b0, b1, b2].map prt) = some (lN, 0) := by
  have h := qLl (rs := rN) (qss := [[prt b0, prt b1], [], [prt b2]]) (qzj (by decide +kernel) (by decide +kernel)) (by decide +kernel) (by decide +kernel) (by decide +kernel) (by decide +kernel) (by decide +kernel) (fun q hq => by
    rcases List.mem_cons.1 hq with rfl | hq
    · exact qcv (by decide +kernel)
    rcases List.mem_cons.1 hq with rfl | hq
    · exact qcv (by decide +kernel)
    rcases List.mem_cons.1 hq with rfl | hq
    · exact qcv (by decide +kernel)
    cases hq)
  rw [if_pos (by decide +kernel)] at h
  exact h
theorem qIC : qub [rN.getD 0 (qja qba)] (([b0, b1].map prt).map z0) = some ([mN], 0) := by
  have h := qLl (rs := [rN.getD 0 (qja qba)]) (qss := [[z0 (prt b0), z0 (prt b1)]]) (qzj (by decide +kernel) (by decide +kernel)) (by decide +kernel) (by decide +kernel) (by decide +kernel) (by decide +kernel) (by decide +kernel) (fun q hq => by
    rw [List.mem_singleton.1 hq]; exact qcv (by decide +kernel))
  rw [if_pos (by decide +kernel)] at h
  exact h
theorem qHC : qub [rN.getD 1 (qja qba)] (([].map prt).map z0) = some ([((ByteArray.mk #[110]), ([], ()))], 0) := by
  have h := qLl (rs := [rN.getD 1 (qja qba)]) (qss := [[]]) (qzj (by decide +kernel) (by decide +kernel)) (by decide +kernel) (by decide +kernel) (by decide +kernel) (by decide +kernel) (by decide +kernel) (fun q hq => by
    rw [List.mem_singleton.1 hq]; exact qcv (by decide +kernel))
  rw [if_pos (by decide +kernel)] at h
  exact h
theorem qJC : qub rO ([kO].map prt) = some ([], 22) := by
  have h := qLl (rs := rO) (qss := [[prt kO]]) (qzj (by decide +kernel) (by decide +kernel)) (by decide +kernel) (by decide +kernel) (by decide +kernel) (by decide +kernel) (by decide +kernel) (fun q hq => by
    rw [List.mem_singleton.1 hq]; exact qcv (by decide +kernel))
  rw [if_neg (by decide +kernel)] at h
  exact h
theorem qFB : qub [rO.getD 0 (qja qba)] (([kO].map prt).map z0) = some ([], 22) := by
  have h := qLl (rs := [rO.getD 0 (qja qba)]) (qss := [[z0 (prt kO)]]) (qzj (by decide +kernel) (by decide +kernel)) (by decide +kernel) (by decide +kernel) (by decide +kernel) (by decide +kernel) (by decide +kernel) (fun q hq => by
    rw [List.mem_singleton.1 hq]; exact qcv (by decide +kernel))
  rw [if_neg (by decide +kernel)] at h
  exact h
theorem qLC : qub [] [] = some ([], 0) := by
  have h := qLl (rs := []) (qss := []) (qzj (by decide +kernel) (by decide +kernel)) (by decide +kernel) (by decide +kernel) trivial trivial (by decide +kernel) (fun q hq => by cases hq)
  exact h
theorem ok2 {b c : qca} (h1 : (qZp b).2 = 0) (h2 : (qZp c).2 = 0) : ∀ x ∈ [b, c], (qZp x).2 = 0 := fun x hx => by
  rcases List.mem_cons.1 hx with rfl | hx
  · exact h1
  · rw [List.mem_singleton.1 hx]; exact h2
theorem ok1 {b : qca} (h1 : (qZp b).2 = 0) : ∀ x ∈ [b], (qZp x).2 = 0 := fun x hx => by rw [List.mem_singleton.1 hx]; exact h1
theorem qGl (a1 a2 : Int) (z : List Int) : (qZp (qZf a1 a2 z)).2 = 0 := by rw [qht]
theorem qbD : (qZp bX2).2 ≠ 0 := by decide +kernel
theorem E_w : qOa wN = some (lN, 0) := (oN.some (qmf (fun x hx => by
  rcases List.mem_cons.1 hx with rfl | hx
  · exact qGl _ _ _
  · exact ok2 (qGl _ _ _) (qGl _ _ _) x hx))).trans qKC
theorem qhD : qOa qTy = some ([], 22) := oS.none (qln ⟨bX2, by simp, qbD⟩)
theorem E_O : qOa wO = some ([], 22) := (oO.some (qmf (ok1 (qGl _ _ _)))).trans qJC
theorem E_E : qOa wE = some ([], 0) := (oE.some (qmf (fun x hx => by cases hx))).trans qLC
theorem qxB : nmI (ByteArray.mk #[109]) rN 0 = some 0 := by decide +kernel
theorem qDD : nmI (ByteArray.mk #[110]) rN 0 = some 1 := by decide +kernel
theorem qOC : nmI (ByteArray.mk #[111]) rN 0 = some 2 := by decide +kernel
theorem qmD : nmI (ByteArray.mk #[120]) rN 0 = none := by decide +kernel
theorem qoD : nmI (ByteArray.mk #[109]) rO 0 = some 0 := by decide +kernel
theorem qnD : nmI (ByteArray.mk #[97]) rAa 0 = some 0 := by decide +kernel
theorem qBD : ofM (0 : Nat) [b0, b1, bX2] = [b0, b1] := by kernel_rfl
theorem qMB : ofM (0 : Nat) [b0, b1, b2] = [b0, b1] := by kernel_rfl
theorem qAD : ofM (1 : Nat) [b0, b1, bX2] = [] := by kernel_rfl
theorem qNC : ofM (2 : Nat) [b0, b1, bX2] = [bX2] := by kernel_rfl
theorem qlD : ofM (0 : Nat) [kO] = [kO] := by kernel_rfl
theorem qCD : ofM (0 : Nat) [kA] = [kA] := by kernel_rfl
theorem O_m : qTa qTy (ByteArray.mk #[109]) = some (mN, 0) := by
  rw [oS.one_some qxB (by rw [qBD]; exact qmf (ok2 (qGl _ _ _) (qGl _ _ _))) (by decide), qIC]
  exact Tot.eq (Tot.be rfl (Tot.ifne_neg rfl (Tot.g (by decide) (Tot.so rfl))))
theorem O_n : qTa qTy (ByteArray.mk #[110]) = some (((ByteArray.mk #[110]), ([], ())), 0) := by
  rw [oS.one_some qDD (ps := [].map prt) (by rw [qAD]; rfl) (by decide), qHC]
  exact Tot.eq (Tot.be rfl (Tot.ifne_neg rfl (Tot.g (by decide) (Tot.so rfl))))
theorem O_o : qTa qTy (ByteArray.mk #[111]) = some (zM, 22) := oS.one_none qOC (by rw [qNC]; exact qln ⟨bX2, by simp, qbD⟩)
theorem O_x : qTa wN (ByteArray.mk #[120]) = some (zM, 6) := oN.one_no qmD
theorem O_E : qTa wE (ByteArray.mk #[97]) = some (zM, 6) := oE.one_no (by decide +kernel)
theorem O_O : qTa wO (ByteArray.mk #[109]) = some (zM, 22) := by
  rw [oO.one_some qoD (by rw [qlD]; exact qmf (ok1 (qGl _ _ _))) (by decide), qFB]
  exact Tot.eq (Tot.be rfl (Tot.ifne (fun _ => Tot.so rfl) (fun k => by cases k)))
theorem R_x : qxa wN (ByteArray.mk #[120]) (-1) (-1) = some ([], 6) := oN.range_no qmD _ _
theorem R_1 : qxa wN (ByteArray.mk #[109]) (-1) 3 = some ([], 2) := oN.range_arg qxB (.inl (by decide))
theorem R_2 : qxa wN (ByteArray.mk #[109]) 3 2 = some ([], 2) := oN.range_arg qxB (.inr (.inl (by decide)))
theorem R_3 : qxa wN (ByteArray.mk #[109]) 0 20 = some ([], 2) := oN.range_arg qxB (.inr (.inr (by decide +kernel)))
instance (f t : Int) (p : qma) : Decidable (InR f t p) := by unfold InR; infer_instance
theorem qqD {f t : Int} {p q : qma} (h1 : InR f t p) (h2 : InR f t q) : ∀ x ∈ [p, q], InR f t x := fun x hx => by
  rcases List.mem_cons.1 hx with rfl | hx
  · exact h1
  · rw [List.mem_singleton.1 hx]; exact h2
theorem qrD {f t : Int} {p : qma} (h1 : InR f t p) : ∀ x ∈ [p], InR f t x := fun x hx => by rw [List.mem_singleton.1 hx]; exact h1
theorem R_4 : qxa wN (ByteArray.mk #[109]) 15 18 = some ([102, 88, 89], 0) := by
  have h := oN.range_some opdN.smb qxB (f := 15) (t := 18) (by decide) (by decide) (by decide +kernel) (ps := [prt b0, prt b1]) (by
    rw [qMB, show onR 15 18 [b0, b1] = [b0, b1] by kernel_rfl]; exact qmf (ok2 (qGl _ _ _) (qGl _ _ _))) (by decide) (qqD (by decide +kernel) (by decide +kernel))
  exact h
theorem R_5 : qxa wN (ByteArray.mk #[109]) 0 19 = some (dN, 0) := by
  have h := oN.range_some opdN.smb qxB (f := 0) (t := 19) (by decide) (by decide) (by decide +kernel) (ps := [prt b0, prt b1]) (by
    rw [qMB, show onR 0 19 [b0, b1] = [b0, b1] by kernel_rfl]; exact qmf (ok2 (qGl _ _ _) (qGl _ _ _))) (by decide) (qqD (by decide +kernel) (by decide +kernel))
  exact h
theorem R_6 : qxa qTy (ByteArray.mk #[111]) 0 1 = some ([], 22) :=
  oS.range_none opdS.smb qOC (by decide) (by decide) (by decide +kernel) (by rw [qNC, show onR 0 1 [bX2] = [bX2] by kernel_rfl]; exact qln ⟨bX2, by simp, qbD⟩)
theorem R_7 : qxa qTy (ByteArray.mk #[111]) 1 1 = some ([], 0) := by
  have h := oS.range_some opdS.smb qOC (f := 1) (t := 1) (by decide) (by decide) (by decide +kernel) (ps := []) (by
    rw [qNC, show onR 1 1 [bX2] = [] by kernel_rfl]; rfl) (by decide) (fun p hp => by cases hp)
  exact h
theorem R_8 : qxa wO (ByteArray.mk #[109]) 2 4 = some ([50, 51], 0) := by
  have h := oO.range_some opdO.smb qoD (f := 2) (t := 4) (by decide) (by decide) (by decide +kernel) (ps := [prt kO]) (by
    rw [qlD, show onR 2 4 [kO] = [kO] by kernel_rfl]; exact qmf (ok1 (qGl _ _ _))) (by decide) (qrD (by decide +kernel))
  exact h
theorem R_9 : qxa wA (ByteArray.mk #[97]) 1 2 = some ([8], 0) := by
  have h := oA.range_some opdA.smb qnD (f := 1) (t := 2) (by decide) (by decide) (by decide +kernel) (ps := [prt kA]) (by
    rw [qCD, show onR 1 2 [kA] = [kA] by kernel_rfl]; exact qmf (ok1 (qGl _ _ _))) (by decide) (qrD (by decide +kernel))
  exact h
theorem qJD : qxa wA (ByteArray.mk #[97]) 1 3 = some ([], 2) := oA.range_arg qnD (.inr (.inr (by decide +kernel)))
theorem Tot.ifb {α : Type} {c : Bool} {i : Decidable (c = true)} {x y : Option α} {Q : α → Prop} (h : c = true) (h1 : Tot x Q) : Tot (@ite _ (c = true) i x y) Q := by rw [if_pos h]; exact h1
theorem qkB : qUe = some true := by
  rw [qrj]
  exact Tot.eq (Tot.be stA (Tot.be R_9 (Tot.be qJD (Tot.be stE (Tot.be E_E (Tot.be stE (Tot.be O_E (Tot.ifb rfl (Tot.ifb (by decide +kernel) (Tot.ifb rfl (Tot.ifb rfl (Tot.ifb rfl (Tot.so rfl)))))))))))))
theorem qED : qtd (lN.take 1) = some (recs (lN.take 1), 0) := qNs _ (qyC (by decide +kernel)) (by decide +kernel)
theorem qGC : (recs (lN.take 1)).set 0 (((recs (lN.take 1)).getD 0 (qja qba)).1, (((recs (lN.take 1)).getD 0 (qja qba)).2.1, ((((recs (lN.take 1)).getD 0 (qja qba)).2.2.1.set 0 (IntKind.wrap .u8 (((recs (lN.take 1)).getD 0 (qja qba)).2.2.1.getD 0 0 + 1))), ((recs (lN.take 1)).getD 0 (qja qba)).2.2.2))) = rO := by kernel_rfl
theorem qHD : qKb sO rO = some (qDf sO rO) := qTn sO rO (qxc (by decide +kernel)) (quv (by decide +kernel))
theorem qGD : qXb (qDf sO rO) [kO] = some wO := by
  have hj := qbu [kO] (fun b hb => by rw [List.mem_singleton.1 hb]; exact ⟨qvj _ _ _, by decide⟩) (by decide) 1 0 (qDf sO rO) rfl (by decide +kernel)
  rw [qPf, List.nil_append]
  exact Tot.eq (Tot.g (by decide +kernel) (Tot.of_eq hj rfl))
theorem qPx {n : Nat} (h : 50000 < n) : (hdP (List.replicate n 0)).2.2.2 = 4 := by
  unfold hdP
  rw [if_pos (by rw [List.length_replicate]; exact h)]; rfl
theorem qhv {n : Nat} (h : 50000 < n) : (qkq (List.replicate n 0)).2.2 = 4 := by
  unfold qkq
  rw [if_pos (by rw [qPx h]; decide)]
  exact qPx h
theorem qDy (n : Nat) : Bts (List.replicate n 0) := fun x hx => by rw [(List.mem_replicate.1 hx).2]; decide
theorem qnt : qcb (List.replicate 50001 0) = some ((((0 : Int), ((0 : Int), ())), ([], ([], ()))), ([], 4)) := by
  have h := qqz (qDy 50001) (by rw [qhv (by omega)]; decide)
  rw [qhv (by omega)] at h
  exact h
end Go.Ab

/-
  ExtractNames: the law.
-/
set_option linter.unusedVariables false
set_option linter.unusedSimpArgs false
set_option maxRecDepth 100000
namespace Go.Ab
open Go
attribute [local irreducible] IntKind.wrap
theorem qFD : IntKind.wrap .i64 (((243 : Nat) : Int) - 1) = 242 := by decide +kernel
theorem qEC : qLb lN lN = some true := qCr lN (by decide)
theorem bitloftlaw32_ExtractNames_true : qRd = some true := by
  rw [qWf]
  have hs : ∀ {Q : Bool → Prop} {f : List Int → Option Bool}, Tot (f wN) Q → Tot ((qMa [((ByteArray.mk #[109]), ([48, 49, 50, 51, 52, 53, 54, 55, 56, 57, 97, 98, 99, 100, 101, 102, 88, 89, 90], ())), ((ByteArray.mk #[110]), ([], ())), ((ByteArray.mk #[111]), ([33], ()))]).bind f) Q := fun h => Tot.be stN h
  refine Tot.eq (Tot.g rfl (Tot.g (by decide) (Tot.g (by decide) (Tot.g (by decide) (Tot.be (qcu qnt (by decide)) (Tot.be (qoB qnt (by decide) _) (Tot.be (qMy qnt (by decide) _ _ _) (Tot.g (by decide) (Tot.g (by decide) (hs ?_))))))))))
  simp only [List.nil_append, Int.ofNat_eq_natCast, qMz, qFD]
  rw [show (0 : Nat) + (242 : Int).toNat = 242 from rfl, qBA]
  refine Tot.g (by decide) (Tot.g (by decide) (Tot.g (by decide) (Tot.g (by decide) (Tot.g (by decide) (Tot.ifd_neg (by decide) ?_)))))
  refine Tot.be E_w (Tot.be qhD (Tot.be O_m (Tot.be O_o (Tot.be O_n (Tot.be O_x (Tot.be R_x (Tot.be R_1 (Tot.be R_2 (Tot.be R_3 (Tot.be R_4 (Tot.be R_5 (Tot.be R_6 (Tot.be R_7 ?_)))))))))))))
  refine Tot.g (by decide) (Tot.g (by decide) (Tot.be qED ?_))
  refine Tot.g (by decide) (Tot.g (by decide +kernel) (Tot.g (by decide) (Tot.g (by decide) (Tot.g (by decide) (Tot.g (by decide +kernel) (Tot.g (by decide) (Tot.g (by decide) (Tot.g (by decide) (Tot.g (by decide) (Tot.g (by decide) (Tot.g (by decide) ?_)))))))))))
  refine Tot.be (qOs (a1 := 0) (a2 := 0) (z := dN) (by decide)) ?_
  rw [qGC]
  refine Tot.be qHD (Tot.be qGD (Tot.be E_O (Tot.be O_O (Tot.be R_8 (Tot.be qkB ?_)))))
  refine Tot.ifb rfl (Tot.ifb rfl (Tot.ifb rfl (Tot.ifb rfl (Tot.ifb rfl (Tot.be qEC (Tot.ifb rfl (Tot.ifb rfl (Tot.ifb rfl (Tot.g (by decide) (Tot.g (by decide) (Tot.ifb (by decide +kernel) ?_)))))))))))
  refine Tot.ifb rfl (Tot.ifb rfl (Tot.ifb (by decide +kernel) (Tot.ifb rfl (Tot.ifb rfl (Tot.ifb rfl (Tot.ifb rfl (Tot.ifb rfl (Tot.ifb rfl (Tot.ifb rfl (Tot.ifb (by decide +kernel) (Tot.ifb rfl (Tot.g (by decide) (Tot.g (by decide) (Tot.ifb (by decide +kernel) ?_))))))))))))))
  exact Tot.ifb rfl (Tot.ifb rfl (Tot.ifb rfl (Tot.ifb rfl (Tot.ifb rfl (Tot.ifb rfl (Tot.so (by decide +kernel)))))))
end Go.Ab
