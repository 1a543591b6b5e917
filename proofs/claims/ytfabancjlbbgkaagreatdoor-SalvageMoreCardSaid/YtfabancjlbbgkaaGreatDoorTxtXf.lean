/-
  An abstract machine over the model's code and its soundness; what the functions compute, as plain functions (printed by a program of this repo's own, checked here by the kernel); plain laws of them: part 6. Helper text, no statement of the claim stands here.
-/
import Derived.Test.YtfabancjlbbgkaaGreatDoorTxtXe
import Derived.Lib.IndexMore
/-
  Totality of the codec, 5: squash and stretch, mixers, refiners, the walk.
-/
set_option linter.unusedVariables false
set_option linter.unusedSimpArgs false
set_option maxRecDepth 10000
namespace Go.Ab
open Go
attribute [local irreducible] IntKind.wrap
theorem qEM : ∀ i : Fin 32, 1 ≤ G_row.getD i.val 0 ∧ G_row.getD i.val 0 ≤ G_row.getD (i.val + 1) 0 ∧ G_row.getD (i.val + 1) 0 ≤ 4094 := by decide +kernel
theorem qIz (a : Int) : Tot (qUf a) fun r => 0 ≤ r ∧ r ≤ 4095 := by
  rw [qyt]
  refine Tot.ifd (fun _ => Tot.so (by decide)) (fun h1 => Tot.ifd (fun _ => Tot.so (by decide)) (fun h2 => ?_))
  rw [qEj a (by decide)]
  have hi : 0 ≤ a / 128 + 16 ∧ a / 128 + 16 ≤ 31 := by omega
  generalize a / 128 + 16 = i at *
  rw [w32 (x := i) (by omega) (by omega), w32 (x := i + 1) (by omega) (by omega)]
  have hr := qEM ⟨i.toNat, by omega⟩
  simp only at hr
  have e : (i + 1).toNat = i.toNat + 1 := by omega
  rw [e]
  generalize G_row.getD i.toNat 0 = L at *
  generalize G_row.getD (i.toNat + 1) 0 = H at *
  have hw := qPN a 127 (by decide) (by decide)
  generalize qDa .i32 a 127 = w at *
  rw [w32 (x := L * 128) (by omega) (by omega), w32 (x := H - L) (by omega) (by omega)]
  have m1 : (H - L) * w ≤ (H - L) * 127 := Int.mul_le_mul_of_nonneg_left hw.2 (by omega)
  have m2 : 0 ≤ (H - L) * w := Int.mul_nonneg (by omega) hw.1
  generalize (H - L) * w = z at *
  rw [w32 (x := z) (by omega) (by omega), w32 (x := L * 128 + z) (by omega) (by omega), w32 (by omega) (by omega), qEj _ (by decide)]
  refine Tot.g (by decide) (Tot.g (by omega) (Tot.g (by omega) (Tot.g (by omega) (Tot.g (by omega) (Tot.g (by omega) (Tot.g (by omega) (Tot.g (by decide) (Tot.so ?_))))))))
  omega
theorem qzt (b : Int) : ∀ (m : Nat) (x y : Int), (y - x).toNat ≤ m → 0 ≤ x → x ≤ y → y ≤ 4094 → Tot (qYe x y b) fun r => 0 ≤ r.1 ∧ r.1 ≤ 4094 := by
  intro m
  induction m with
  | zero =>
    intro x y hm h0 h1 h2
    rw [qyk]
    exact Tot.ifd_neg (by omega) (Tot.so ⟨h0, by simp only; omega⟩)
  | succ m ih =>
    intro x y hm h0 h1 h2
    rw [qyk]
    refine Tot.ifd (fun hlt => ?_) (fun _ => Tot.so ⟨h0, by simp only; omega⟩)
    rw [w64 (x := x + y) (by omega) (by omega), qBN, qEj _ (by decide)]
    have e : (x + y) % 18446744073709551616 = x + y := by omega
    rw [e, w64 (x := (x + y) / 2) (by omega) (by omega), w64 (x := (x + y) / 2 + 1) (by omega) (by omega), qlp]
    refine Tot.g (by decide) (Tot.b (P := fun r => r.2 = b) (Tot.b (qIz _) (fun r _ => Tot.so rfl)) (fun r hr => ?_))
    rw [hr]
    exact Tot.ifn (fun _ => ih _ _ (by omega) (by omega) (by omega) (by omega)) (fun _ => ih _ _ (by omega) (by omega) (by omega) (by omega))
theorem qHB (a : Int) : Tot (qVj a) fun r => -2047 ≤ r ∧ r ≤ 2047 := by
  rw [qJr, qwx]
  refine Tot.b (qzt a 4094 0 4094 (by decide) (by decide) (by decide) (by decide)) (fun r hr => Tot.so ?_)
  rw [w32 (x := r.1) (by omega) (by omega), w32 (by omega) (by omega)]
  omega
def qiq (m : qqa) : Prop := m.1.length = 256 ∧ ∀ r ∈ m.1, r.length = 8
theorem qkF (l : List (List Int)) (hl : l.length ≤ 1048576) (h : ∀ r ∈ l, r.length = 8) : qIb l = some false := by
  have key : ∀ i : Int, 0 ≤ i → Tot (qWa l l.length i) fun r => r = -1 := by
    intro i
    refine qjc (P := fun i => 0 ≤ i → Tot (qWa l l.length i) fun r => r = -1) l.length ?_ ?_ i
    · intro i hi h0
      rw [qwc]
      exact Tot.ifd_neg (by omega) (Tot.so rfl)
    · intro i hi ih h0
      rw [qwc]
      simp only [Int.ofNat_eq_natCast]
      rw [w64 (x := i + 1) (by omega) (by omega)]
      have hd := qHa (P := fun r : List Int => r.length = 8) (d := []) h i.toNat (by omega)
      refine Tot.ifd_pos (by omega) (Tot.g h0 (Tot.g (by omega) (Tot.be (v := false) ?_ (Tot.iff_ (ih (by omega))))))
      rw [qNt, hd]
      rfl
  rw [qSf, qLg]
  exact Tot.eq (Tot.b (key 0 (by omega)) (fun r hr => Tot.so (by rw [hr]; rfl)))
theorem qTq {m : qqa} (h : qiq m) : qnl m = some 0 := by
  rw [qUx]
  simp only [Int.ofNat_eq_natCast]
  have := h.1
  exact Tot.eq (Tot.ifd_neg (by omega) (Tot.ifd_neg (by omega) (Tot.be (qkF _ (by omega) h.2) (Tot.iff_ (Tot.so rfl)))))
theorem qOo (a : Int) : Tot (qRn a) fun r => -2047 ≤ r ∧ r ≤ 2047 ∧ (-2047 ≤ a → a ≤ 2047 → r = a) := by
  rw [qmA]
  refine Tot.so ?_
  split <;> split at * <;> omega
theorem qlF (l : List Int) (hl : l.length ≤ 1048576) (h : ∀ x ∈ l, -2047 ≤ x ∧ x ≤ 2047) : qwb l = some false := by
  have key : ∀ i : Int, 0 ≤ i → Tot (qRa l l.length i) fun r => r = -1 := by
    intro i
    refine qjc (P := fun i => 0 ≤ i → Tot (qRa l l.length i) fun r => r = -1) l.length ?_ ?_ i
    · intro i hi h0
      rw [qYb]
      exact Tot.ifd_neg (by omega) (Tot.so rfl)
    · intro i hi ih h0
      rw [qYb]
      simp only [Int.ofNat_eq_natCast]
      rw [w64 (x := i + 1) (by omega) (by omega)]
      have hd := qHa (P := fun x => -2047 ≤ x ∧ x ≤ 2047) (d := 0) h i.toNat (by omega)
      refine Tot.ifd_pos (by omega) (Tot.g h0 (Tot.g (by omega) (Tot.be (v := false) ?_ (Tot.iff_ (ih (by omega))))))
      rw [qKt]
      exact Tot.eq (Tot.b (qOo _) (fun r hr => Tot.so (by rw [hr.2.2 hd.1 hd.2]; simp)))
  rw [qSe, qQf]
  exact Tot.eq (Tot.b (key 0 (by omega)) (fun r hr => Tot.so (by rw [hr]; rfl)))
theorem qQq {m : qqa} (h : qiq m) {s : Int} (h0 : 0 ≤ s) (h1 : s ≤ 255) {l : List Int} (hl : l.length = 8) (hb : ∀ x ∈ l, -2047 ≤ x ∧ x ≤ 2047) : qml m s l = some 0 := by
  rw [qRx]
  simp only [Int.ofNat_eq_natCast]
  have := h.1
  exact Tot.eq (Tot.be (qTq h) (Tot.ifne_neg rfl (Tot.ifd_neg (by omega) (Tot.ifd_neg (by omega) (Tot.ifne_neg (by omega) (Tot.be (qlF _ (by omega) hb) (Tot.iff_ (Tot.so rfl))))))))
theorem quw (a : Int) : Tot (qGi a) fun _ => True := by
  rw [qDC]; exact Tot.so trivial
theorem qNE (a b : List Int) (hl : a.length = b.length) (h16 : a.length ≤ 16) : Tot (qww a b) fun _ => True := by
  have key : ∀ i : Int, 0 ≤ i → ∀ v6 v7, 0 ≤ v7 → Tot (quh b v6 v7 a a.length i) fun r => True := by
    intro i
    refine qjc (P := fun i => 0 ≤ i → ∀ v6 v7, 0 ≤ v7 → Tot (quh b v6 v7 a a.length i) fun r => True) a.length ?_ ?_ i
    · intro i hi h0 v6 v7 h7
      rw [qPm]
      refine Tot.ifd_neg (by omega) ?_
      repeat (first | exact Tot.so trivial | exact Tot.b (quw _) (fun _ _ => Tot.so trivial) | refine Tot.it (fun _ => ?_) (fun _ => ?_))
    · intro i hi ih h0 v6 v7 h7
      rw [qPm]
      simp only [Int.ofNat_eq_natCast]
      rw [w64 (x := i + 1) (by omega) (by omega)]
      refine Tot.ifd_pos (by omega) (Tot.g h0 (Tot.g (by omega) (Tot.g h0 (Tot.g (by omega) (Tot.b (P := fun r => 0 ≤ r.1) ?_ (fun r hr => Tot.g (by decide) (ih (by omega) _ _ hr)))))))
      unfold qYn
      have hw := qwM (IntKind.wrap .i64 ((IntKind.wrap .i64 (List.getD a (Int.toNat i) 0)) * (IntKind.wrap .i64 (List.getD b (Int.toNat i) 0))))
      rw [if_pos ⟨h7, hw.1, by omega, by omega⟩]
      exact Tot.so (by simp only; omega)
  rw [qEC]
  simp only [Int.ofNat_eq_natCast]
  exact Tot.ifd_neg (by split <;> omega) (Tot.ifne_neg (by omega) (key 0 (by omega) 0 0 (by omega)))
theorem qOv {m : qqa} (h : qiq m) {s : Int} (h0 : 0 ≤ s) (h1 : s ≤ 255) {l : List Int} (hl : l.length = 8) (hb : ∀ x ∈ l, -2047 ≤ x ∧ x ≤ 2047) :
    Tot (qPv m s l) fun r => -2047 ≤ r.1 ∧ r.1 ≤ 2047 ∧ 0 ≤ r.2.1 ∧ r.2.1 ≤ 4095 := by
  rw [qoC]
  simp only [Int.ofNat_eq_natCast]
  have hl' := h.1
  have hd := qHa (P := fun r : List Int => r.length = 8) (d := []) h.2 s.toNat (by omega)
  exact Tot.be (qQq h h0 h1 hl hb) (Tot.ifne_neg rfl (Tot.g h0 (Tot.g (by omega) (Tot.b (qNE _ _ (by omega) (by omega)) (fun r _ => Tot.g (by decide) (Tot.b (qOo _) (fun q hq => Tot.b (qIz _) (fun t ht => Tot.so ⟨hq.1, hq.2.1, ht⟩))))))))
theorem qCA (a : Int) : Tot (qOp a 14) fun _ => True := by
  rw [qmy, w64 (x := 14 - 1) (by decide) (by decide)]
  exact Tot.ifd_neg (by decide) (Tot.ifd_neg (by decide) (Tot.ifeq_neg (by decide) (Tot.g (by decide) (Tot.g (by decide) (Tot.so trivial)))))
theorem qPE (a b : Int) : Tot (qxw a b) fun _ => True := by
  rw [qFC]
  exact Tot.b (quw _) (fun _ _ => Tot.so trivial)
theorem qLt {s : Int} (h0 : 0 ≤ s) (h1 : s ≤ 255) {l : List Int} (hl : l.length = 8) (v16 : Int) (u u' : Unit) (h10 : List (List Int)) : ∀ i : Int, 0 ≤ i → ∀ h11 : List (List Int), h11.length = 256 → (∀ r ∈ h11, r.length = 8) →
    Tot (qef s v16 l 8 i u u' h10 h11) fun r => r.2 = 0 ∧ qiq r.1 := by
  intro i
  refine qjc (P := fun i => 0 ≤ i → ∀ h11 : List (List Int), h11.length = 256 → (∀ r ∈ h11, r.length = 8) → Tot (qef s v16 l 8 i u u' h10 h11) fun r => r.2 = 0 ∧ qiq r.1) 8 ?_ ?_ i
  · intro i hi h0' h11 hh hr
    rw [qGk]
    exact Tot.ifd_neg (by omega) (Tot.so ⟨rfl, hh, hr⟩)
  · intro i hi ih h0' h11 hh hr
    rw [qGk]
    simp only [Int.ofNat_eq_natCast]
    have hd := qHa (P := fun r : List Int => r.length = 8) (d := []) hr (0 + s.toNat) (by omega)
    rw [w64 (x := i + 1) (by omega) (by omega), hd]
    refine Tot.ifd_pos (by omega) (Tot.g h0' (Tot.g (by omega) (Tot.b (qCA _) (fun r _ => Tot.g h0 (Tot.g (by omega) (Tot.g (by decide) (Tot.g h0 (Tot.g (by omega) (Tot.g (by decide) (Tot.g h0' (Tot.g (by omega) (Tot.b (qPE _ _) (fun q _ => Tot.g h0' (Tot.g (by omega) (ih (by omega) _ (by simpa using hh) (qJd hr ?_ _))))))))))))))))
    simpa using hd
theorem qMt {s : Int} (h0 : 0 ≤ s) (h1 : s ≤ 255) {l : List Int} (hl : l.length = 8) (v3 : Int) (v4 : Bool) (m : List (List Int)) (hm : m.length = 256) (hr : ∀ r ∈ m, r.length = 8) (u u' : Unit) (h10 : List (List Int)) : ∀ i : Int, 0 ≤ i → i ≤ 256 → ∀ h11 : List (List Int), h11.length = i.toNat → (∀ r ∈ h11, r.length = 8) →
    Tot (qff s l v3 v4 m 256 i u u' h10 h11) fun r => r.2 = 0 ∧ qiq r.1 := by
  intro i
  refine qjc (P := fun i => 0 ≤ i → i ≤ 256 → ∀ h11 : List (List Int), h11.length = i.toNat → (∀ r ∈ h11, r.length = 8) → Tot (qff s l v3 v4 m 256 i u u' h10 h11) fun r => r.2 = 0 ∧ qiq r.1) 256 ?_ ?_ i
  · intro i hi h0' hi' h11 hh hr'
    rw [qHk]
    simp only [Int.ofNat_eq_natCast]
    rw [hl]
    refine Tot.ifd_neg (by omega) (Tot.b (P := fun _ => True) ?_ (fun q _ => qLt h0 h1 hl _ u u' h10 0 (by omega) h11 (by omega) hr'))
    rw [qQx]
    exact Tot.it (fun _ => Tot.so trivial) (fun _ => Tot.so trivial)
  · intro i hi ih h0' hi' h11 hh hr'
    rw [qHk]
    simp only [Int.ofNat_eq_natCast]
    have hd := qHa (P := fun r : List Int => r.length = 8) (d := []) hr i.toNat (by omega)
    rw [w64 (x := i + 1) (by omega) (by omega)]
    refine Tot.ifd_pos (by omega) (Tot.g h0' (Tot.g (by omega) (Tot.be (qMa _ (by omega)) (Tot.g (by rw [List.length_append, List.length_singleton]; omega) (ih (by omega) (by omega) _ (by rw [List.length_append, List.length_singleton]; omega) (qMh hr' hd))))))
theorem qnA {m : qqa} (h : qiq m) {s : Int} (h0 : 0 ≤ s) (h1 : s ≤ 255) {l : List Int} (hl : l.length = 8) (hb : ∀ x ∈ l, -2047 ≤ x ∧ x ≤ 2047) {p : Int} (hp0 : 0 ≤ p) (hp1 : p ≤ 4095) (b : Bool) :
    Tot (qHp m s l p b) fun r => r.2 = 0 ∧ qiq r.1 := by
  rw [qTx]
  simp only [Int.ofNat_eq_natCast]
  rw [h.1]
  exact Tot.be (qQq h h0 h1 hl hb) (Tot.ifne_neg rfl (Tot.ifd_neg (by omega) (Tot.ifd_neg (by omega) (qMt h0 h1 hl p b m.1 h.1 h.2 () () [] 0 (by omega) (by omega) [] rfl (fun r hr => by cases hr)))))
def qiu (r : List Int) : Prop := r.length = 33 ∧ ∀ x ∈ r, 0 ≤ x ∧ x ≤ 65535
def qDr (m : qqa) : Prop := m.1.length = 256 ∧ ∀ r ∈ m.1, qiu r
theorem qTr (l : List (List Int)) (hl : l.length ≤ 1048576) (h : ∀ r ∈ l, qiu r) : ∀ i : Int, 0 ≤ i → Tot (qme l l.length i) fun r => r = 0 := by
  intro i
  refine qjc (P := fun i => 0 ≤ i → Tot (qme l l.length i) fun r => r = 0) l.length ?_ ?_ i
  · intro i hi h0
    rw [qmj]
    exact Tot.ifd_neg (by omega) (Tot.so rfl)
  · intro i hi ih h0
    rw [qmj]
    simp only [Int.ofNat_eq_natCast]
    rw [w64 (x := i + 1) (by omega) (by omega)]
    have hd := qHa (P := qiu) (d := []) h i.toNat (by omega)
    have hd1 := hd.1
    exact Tot.ifd_pos (by omega) (Tot.g h0 (Tot.g (by omega) (Tot.ifne_neg (by omega) (Tot.b (qcG _ (by omega) (by omega) hd.2) (fun r hr => Tot.ifd_neg (by omega) (Tot.b (qdG _ (by omega) (by omega) hd.2) (fun s hs => Tot.ifd_neg (by omega) (ih (by omega)))))))))
theorem qbk {m : qqa} (h : qDr m) : qnj m = some 0 := by
  rw [qjv]
  simp only [Int.ofNat_eq_natCast]
  have := h.1
  exact Tot.eq (Tot.ifd_neg (by omega) (Tot.ifd_neg (by omega) (qTr _ (by omega) h.2 0 (by omega))))
theorem qIo {m : qqa} (h : qDr m) {s : Int} (h0 : 0 ≤ s) (h1 : s ≤ 255) : qjj m s = some 0 := by
  rw [qfv]
  simp only [Int.ofNat_eq_natCast]
  have := h.1
  exact Tot.eq (Tot.be (qbk h) (Tot.ifne_neg rfl (Tot.ifd_neg (by omega) (Tot.ifd_neg (by omega) (Tot.so rfl)))))
theorem qai {m : qqa} (h : qDr m) {s : Int} (h0 : 0 ≤ s) (h1 : s ≤ 255) {a : Int} (ha0 : -2047 ≤ a) (ha1 : a ≤ 2047) : Tot (qjl m s a) fun r => r.2.2 = 0 ∧ 0 ≤ r.2.1 ∧ r.2.1 ≤ 32 := by
  rw [qCx]
  simp only [Int.ofNat_eq_natCast]
  have hl := h.1
  have hd := qHa (P := qiu) (d := []) h.2 s.toNat (by omega)
  rw [hd.1]
  simp (disch := omega) only [w32 (x := a + 2048), w64 (x := a + 2048), qUj, qRe, w64 (x := (a + 2048) / 128), w64 (x := (a + 2048) / 128 + 1), w32 (x := (a + 2048) % 128 / 64), w64 (x := (a + 2048) % 128 / 64), w64 (x := (a + 2048) / 128 + (a + 2048) % 128 / 64)]
  refine Tot.be (qIo h h0 h1) (Tot.ifne_neg rfl (Tot.ifd_neg (by omega) (Tot.ifd_neg (by omega) (Tot.g (by decide) (Tot.g (by decide) (Tot.g h0 (Tot.g (by omega) (Tot.g (by omega) (Tot.g (by omega) (Tot.g (by omega) (Tot.g (by omega) (Tot.g (by decide) (Tot.g (by decide) (Tot.so ⟨rfl, ?_, ?_⟩))))))))))))))
  · simp only; omega
  · simp only; omega
theorem qSr {s n : Int} (h0 : 0 ≤ s) (h1 : s ≤ 255) (hn0 : 0 ≤ n) (hn1 : n ≤ 32) (b : Bool) (m : List (List Int)) (hm : m.length = 256) (hr : ∀ r ∈ m, qiu r) (u u' : Unit) (h10 : List (List Int)) : ∀ i : Int, 0 ≤ i → i ≤ 256 → ∀ h11 : List (List Int), h11.length = i.toNat → (∀ r ∈ h11, qiu r) →
    Tot (qle s n b m 256 i u u' h10 h11) fun r => r.2 = 0 ∧ qDr r.1 := by
  intro i
  refine qjc (P := fun i => 0 ≤ i → i ≤ 256 → ∀ h11 : List (List Int), h11.length = i.toNat → (∀ r ∈ h11, qiu r) → Tot (qle s n b m 256 i u u' h10 h11) fun r => r.2 = 0 ∧ qDr r.1) 256 ?_ ?_ i
  · intro i hi h0' hi' h11 hh hr'
    rw [qkj]
    simp only [Int.ofNat_eq_natCast]
    have hd := qHa (P := qiu) (d := []) hr' (0 + s.toNat) (by omega)
    have hv := qHa (P := fun x => 0 ≤ x ∧ x ≤ 65535) (d := 0) hd.2 (0 + n.toNat) (by rw [hd.1]; omega)
    have hd1 := hd.1
    rw [hd1]
    generalize hz : (h11.getD (0 + s.toNat) []).getD (0 + n.toNat) 0 = z at *
    have q1 : (65535 - z).tdiv 64 = (65535 - z) / 64 := qUj (by omega)
    have q2 : Int.tdiv (0 - z) 64 = -(z / 64) := by rw [Int.zero_sub, Int.neg_tdiv, qUj hv.1]
    rw [w32 (x := 65535 - z) (by omega) (by omega), w32 (x := 0 - z) (by omega) (by omega), q1, q2, w32 (x := (65535 - z) / 64) (by omega) (by omega), w32 (x := -(z / 64)) (by omega) (by omega), w32 (x := z + (65535 - z) / 64) (by omega) (by omega), w32 (x := z + -(z / 64)) (by omega) (by omega)]
    refine Tot.ifd_neg (by omega) (Tot.it (fun _ => ?_) (fun _ => ?_))
    · exact Tot.g h0 (Tot.g (by omega) (Tot.g (by decide) (Tot.g hn0 (Tot.g (by omega) (Tot.g (by decide) (Tot.so ⟨rfl, by simp; omega, qJd hr' ⟨by simpa using hd.1, qJd hd.2 (by omega) _⟩ _⟩))))))
    · exact Tot.g h0 (Tot.g (by omega) (Tot.g (by decide) (Tot.g hn0 (Tot.g (by omega) (Tot.g (by decide) (Tot.so ⟨rfl, by simp; omega, qJd hr' ⟨by simpa using hd.1, qJd hd.2 (by omega) _⟩ _⟩))))))
  · intro i hi ih h0' hi' h11 hh hr'
    rw [qkj]
    simp only [Int.ofNat_eq_natCast]
    have hd := qHa (P := qiu) (d := []) hr i.toNat (by omega)
    have hd1 := hd.1
    rw [w64 (x := i + 1) (by omega) (by omega)]
    refine Tot.ifd_pos (by omega) (Tot.g h0' (Tot.g (by omega) (Tot.be (qMa _ (by omega)) (Tot.g (by rw [List.length_append, List.length_singleton]; omega) (ih (by omega) (by omega) _ (by rw [List.length_append, List.length_singleton]; omega) (qMh hr' hd))))))
theorem qKo {m : qqa} (h : qDr m) {s n : Int} (h0 : 0 ≤ s) (h1 : s ≤ 255) (hn0 : 0 ≤ n) (hn1 : n ≤ 32) (b : Bool) : Tot (qlj m s n b) fun r => r.2 = 0 ∧ qDr r.1 := by
  rw [qiv]
  simp only [Int.ofNat_eq_natCast]
  rw [h.1]
  exact Tot.be (qIo h h0 h1) (Tot.ifne_neg rfl (Tot.ifd_neg (by omega) (Tot.ifd_neg (by omega) (qSr h0 h1 hn0 hn1 b m.1 h.1 h.2 () () [] 0 (by omega) (by omega) [] rfl (fun r hr => by cases hr)))))
def qAB (f : qIa) : Prop := qDr f.1 ∧ qDr f.2.1
theorem qhi {f : qIa} (h : qAB f) : qKi f = some 0 := by
  have l1 := h.1.1
  have l2 := h.2.1
  rw [qqy, qQg]
  simp only [Int.ofNat_eq_natCast]
  have e1 : ([f.1, f.2.1] : List qqa).getD (0 + Int.toNat 0) (qpa qsa) = f.1 := rfl
  rw [e1, w64 (x := 0 + 1) (by decide) (by decide)]
  refine Tot.eq (Tot.ifd_pos (by decide) (Tot.g (by decide) (Tot.g (by simp) (Tot.be (qbk h.1) (Tot.ifne_neg rfl (Tot.ifne_neg (by omega) ?_))))))
  rw [qQg]
  simp only [Int.ofNat_eq_natCast]
  have e2 : ([f.1, f.2.1] : List qqa).getD (0 + Int.toNat (0 + 1)) (qpa qsa) = f.2.1 := rfl
  rw [e2, w64 (x := 0 + 1 + 1) (by decide) (by decide)]
  refine (Tot.ifd_pos (by decide) (Tot.g (by decide) (Tot.g (by simp) (Tot.be (qbk h.2) (Tot.ifne_neg rfl (Tot.ifne_neg (by omega) ?_))))))
  rw [qQg]
  exact Tot.ifd_neg (by decide) (Tot.so rfl)
theorem qmt (a b : Int) {w : Int} (h0 : 1 ≤ w) (h1 : w ≤ 255) : Tot (qrs a b w) fun r => ∃ x, r.1 = [w, x] ∧ 0 ≤ x ∧ x ≤ 255 := by
  rw [qJA]
  exact Tot.ifd_neg (by omega) (Tot.ifd_neg (by omega) (Tot.b (qsl _ _ (by show 3 ≤ _; decide)) (fun r _ => Tot.b (qhk _ 8 (by decide) (by decide)) (fun q hq => Tot.so ⟨q.1, rfl, hq.2.1, by omega⟩))))
theorem qlt (a : Int) : Tot (qqs a) fun r => 0 ≤ a → a ≤ 4095 → r = true := by
  rw [qIA]
  exact Tot.ifd (fun h => Tot.so (fun _ h1 => decide_eq_true h1)) (fun h => Tot.so (fun h0 _ => absurd h0 h))
def qyN (c : qDb) : Prop := ∃ a b x y : Int, c.1 = [a, b] ∧ c.2.1 = [x, y] ∧ 0 ≤ a ∧ a ≤ 255 ∧ 0 ≤ b ∧ b ≤ 255 ∧ 0 ≤ x ∧ x ≤ 32 ∧ 0 ≤ y ∧ y ≤ 32
theorem qQC {f : qIa} (h : qAB f) {a b st p : Int} (ha : 0 ≤ a ∧ a ≤ 255) (hb : 0 ≤ b ∧ b ≤ 255) (hs : -2047 ≤ st ∧ st ≤ 2047) (hp : 0 ≤ p ∧ p ≤ 4095) : Tot (qTn f [a, b] st p) fun r => qyN r.2.1 := by
  rw [qir]
  have e0 : ([a, b] : List Int).getD 0 0 = a := rfl
  have e1 : ([a, b] : List Int).getD 1 0 = b := rfl
  rw [e0, e1]
  refine Tot.be (qhi h) (Tot.ifne_neg rfl (Tot.g (by decide) (Tot.g (by decide) (Tot.b (qai h.1 ha.1 ha.2 hs.1 hs.2) (fun r hr => Tot.g (by decide) (Tot.g (by decide) (Tot.b (qai h.2 hb.1 hb.2 hs.1 hs.2) (fun q hq => Tot.ifne_neg hr.1 (Tot.ifne_neg hq.1 (Tot.b (qlt p) (fun t ht => Tot.ifn (fun k => ?_) (fun _ => ?_))))))))))))
  · rw [ht hp.1 hp.2] at k; exact absurd k (by decide)
  · refine Tot.b (P := fun _ => True) ?_ (fun z _ => Tot.so ⟨a, b, r.2.1, q.2.1, rfl, rfl, ha.1, ha.2, hb.1, hb.2, hr.2.1, hr.2.2, hq.2.1, hq.2.2⟩)
    rw [qhr]
    exact Tot.g (by decide) (Tot.g (by decide) (Tot.g (by decide) (Tot.so trivial)))
theorem qKA {f : qIa} (h : qAB f) {c : qDb} (hc : qyN c) (b : Bool) : Tot (qPp f c b) fun r => r.2 = 0 ∧ qAB r.1 := by
  obtain ⟨x, y, u, v, h1, h2, h3, h4, h5, h6, h7, h8, h9, h10⟩ := hc
  rw [qpy, h1, h2]
  have e0 : ([x, y] : List Int).getD 0 0 = x := rfl
  have e1 : ([x, y] : List Int).getD 1 0 = y := rfl
  have e2 : ([u, v] : List Int).getD 0 0 = u := rfl
  have e3 : ([u, v] : List Int).getD 1 0 = v := rfl
  rw [e0, e1, e2, e3]
  exact Tot.be (qhi h) (Tot.ifne_neg rfl (Tot.g (by decide) (Tot.g (by decide) (Tot.g (by decide) (Tot.g (by decide) (Tot.b (qKo h.1 h3 h4 h7 h8 b) (fun r hr => Tot.g (by decide) (Tot.g (by decide) (Tot.g (by decide) (Tot.g (by decide) (Tot.b (qKo h.2 h5 h6 h9 h10 b) (fun q hq => Tot.ifne_neg hr.1 (Tot.ifne_neg hq.1 (Tot.so ⟨rfl, hr.2, hq.2⟩))))))))))))))
end Go.Ab

/-
  Totality of the codec, 6: the walk through a byte, matches.
-/
set_option linter.unusedVariables false
set_option linter.unusedSimpArgs false
set_option maxRecDepth 10000
namespace Go.Ab
open Go
attribute [local irreducible] IntKind.wrap
def qtC (T : ByteArray) : Bool := decide (T.size = 256) && (List.range 256).all fun i => decide (i = 0 ∨ (1 ≤ qGr T i ∧ qGr T i ≤ 8 ∧ (i : Int) < 2 ^ (qGr T i).toNat))
theorem qPI {T : ByteArray} (h : qtC T = true) {i : Nat} (h0 : 1 ≤ i) (h1 : i < 256) : 1 ≤ qGr T i ∧ qGr T i ≤ 8 ∧ (i : Int) < 2 ^ (qGr T i).toNat := by
  unfold qtC at h
  rw [Bool.and_eq_true, List.all_eq_true] at h
  have := of_decide_eq_true (h.2 i (List.mem_range.2 h1))
  rcases this with rfl | h
  · omega
  · exact h
theorem qFE {T : ByteArray} (h : qtC T = true) : T.size = 256 := by
  unfold qtC at h
  rw [Bool.and_eq_true] at h
  exact of_decide_eq_true h.1
theorem qpM {T : ByteArray} (hT : qtC T = true) {a : Int} (h0 : 1 ≤ a) (h1 : a ≤ 255) : Tot (gd (0 ≤ IntKind.wrap .u8 a) <| gd (IntKind.wrap .u8 a < Int.ofNat T.size) <| some (IntKind.wrap .i64 (0 + IntKind.wrap .i64 (qGr T (Int.toNat (IntKind.wrap .u8 a)))))) fun r => 1 ≤ r ∧ r ≤ 8 ∧ a < 2 ^ r.toNat := by
  have e : IntKind.wrap .u8 a = a := by rw [wu8]; omega
  have hs := qFE hT
  have ht := qPI hT (i := a.toNat) (by omega) (by omega)
  rw [e, hs, w64 (x := qGr T a.toNat) (by omega) (by omega), w64 (by omega) (by omega)]
  refine Tot.g (by omega) (Tot.g (by show a < 256; omega) (Tot.so ?_))
  rw [Int.zero_add]
  refine ⟨ht.1, ht.2.1, ?_⟩
  have e2 : ((a.toNat : Nat) : Int) = a := by omega
  rw [e2] at ht
  exact ht.2.2
theorem qpN {a : Int} (h0 : 1 ≤ a) (h1 : a ≤ 255) : Tot (qei (IntKind.wrap .u64 a)) fun r => 1 ≤ r ∧ r ≤ 8 ∧ a < 2 ^ r.toNat := by
  have e : IntKind.wrap .u64 a = a := by rw [qBN]; omega
  rw [qQt, e, qar]
  refine Tot.b (Tot.ifd_neg (by omega) (Tot.ifd_neg (by omega) (Tot.ifd_neg (by omega) (qpM ?_ h0 h1)))) (fun r hr => Tot.so hr)
  decide +kernel
def qst (w : qka) : Prop := 1 ≤ w.1 ∧ w.1 ≤ 255
theorem qcf {w : qka} (h : qst w) : qqe w = some 0 := by
  rw [qHv]
  have := h.1
  have := h.2
  exact Tot.eq (Tot.ifd_neg (by omega) (Tot.ifd_neg (by omega) (Tot.so rfl)))
theorem qNq {w : qka} (h : qst w) : Tot (qDp w) fun r => 1 ≤ r.1 ∧ r.1 ≤ 15 := by
  rw [qNx, qLx]
  refine Tot.be (qcf h) (Tot.ifne_neg rfl (Tot.b (P := fun r => 1 ≤ r ∧ r ≤ 15) (Tot.b (qpN h.1 h.2) (fun r hr => ?_)) (fun r hr => Tot.so hr)))
  rw [w64 (x := r - 1) (by omega) (by omega)]
  refine Tot.ifd (fun h4 => Tot.so ⟨h.1, ?_⟩) (fun h4 => ?_)
  · have h5 : r = 1 ∨ r = 2 ∨ r = 3 ∨ r = 4 := by omega
    have := hr.2.2
    rcases h5 with rfl | rfl | rfl | rfl
    · have e : (2:Int) ^ (Int.toNat 1) = 2 := by decide
      omega
    · have e : (2:Int) ^ (Int.toNat 2) = 4 := by decide
      omega
    · have e : (2:Int) ^ (Int.toNat 3) = 8 := by decide
      omega
    · have e : (2:Int) ^ (Int.toNat 4) = 16 := by decide
      omega
  · rw [w64 (x := r - 1 - 4) (by omega) (by omega)]
    have h5 : r = 5 ∨ r = 6 ∨ r = 7 ∨ r = 8 := by omega
    have h6 := h.1
    rcases h5 with rfl | rfl | rfl | rfl
    · have e : IntKind.wrap .i64 (qMr .i64 1 (5 - 1 - 4)) = 1 := by kernel_rfl
      rw [e, qRe (by omega), w64 (by omega) (by omega)]
      exact Tot.g (by decide) (Tot.g (by decide) (Tot.so ⟨by omega, by omega⟩))
    · have e : IntKind.wrap .i64 (qMr .i64 1 (6 - 1 - 4)) = 2 := by kernel_rfl
      rw [e, qRe (by omega), w64 (by omega) (by omega)]
      exact Tot.g (by decide) (Tot.g (by decide) (Tot.so ⟨by omega, by omega⟩))
    · have e : IntKind.wrap .i64 (qMr .i64 1 (7 - 1 - 4)) = 4 := by kernel_rfl
      rw [e, qRe (by omega), w64 (by omega) (by omega)]
      exact Tot.g (by decide) (Tot.g (by decide) (Tot.so ⟨by omega, by omega⟩))
    · have e : IntKind.wrap .i64 (qMr .i64 1 (8 - 1 - 4)) = 8 := by kernel_rfl
      rw [e, qRe (by omega), w64 (by omega) (by omega)]
      exact Tot.g (by decide) (Tot.g (by decide) (Tot.so ⟨by omega, by omega⟩))
theorem qUl (w : qka) : ∀ (n : Nat) (hs : List Bool), n + hs.length ≤ 100 → Tot (qah ((n : Int) - 1) w hs) fun r => r.1.length = hs.length + n
  | 0, hs, hn => by
    rw [qFk]
    exact Tot.ifd_neg (by omega) (Tot.so rfl)
  | n + 1, hs, hn => by
    rw [qFk]
    have e : ((n + 1 : Nat) : Int) - 1 = (n : Int) := by omega
    rw [e, w64 (x := (n : Int) - 1) (by omega) (by omega)]
    refine Tot.ifd_pos (by omega) (Tot.g (by omega) (Tot.g (by rw [List.length_append, List.length_singleton]; omega) ?_))
    exact Tot.mono (qUl w n _ (by rw [List.length_append, List.length_singleton]; omega)) (fun r hr => by rw [hr, List.length_append, List.length_singleton]; omega)
theorem qjA {w : qka} (h : qst w) : Tot (qEp w) fun r => r.1.length ≤ 7 := by
  rw [qOx]
  refine Tot.be (qcf h) (Tot.ifne_neg rfl (Tot.b (qpN h.1 h.2) (fun r hr => ?_)))
  have e : r - 2 = (((r - 1).toNat : Nat) : Int) - 1 := by omega
  rw [w64 (x := r - 2) (by omega) (by omega), e]
  exact Tot.mono (qUl w _ [] (by rw [List.length_nil]; omega)) (fun q hq => by rw [hq, List.length_nil]; omega)
theorem qgA {w : qka} (h : qst w) (b : Bool) : Tot (qCp w b) fun r => qst r.1 ∧ 0 ≤ r.2.2.1 ∧ r.2.2.1 < 256 := by
  rw [qMx, qKx, qOq]
  have h0 := h.1
  have h1 := h.2
  rw [w64 (x := 2 * w.1) (by omega) (by omega), w64 (x := 2 * w.1 + 1) (by omega) (by omega)]
  refine Tot.be (qcf h) (Tot.ifne_neg rfl (Tot.b (P := fun r => 2 ≤ r) (Tot.it (fun _ => Tot.so (by omega)) (fun _ => Tot.so (by omega))) (fun r hr => Tot.ifd (fun hk => ?_) (fun hk => Tot.so ⟨⟨by simp only; omega, by simp only; omega⟩, Int.le_refl 0, by show (0:Int) < 256; decide⟩))))
  exact Tot.be rfl (Tot.so ⟨⟨Int.le_refl 1, by show (1:Int) ≤ 255; decide⟩, qut r⟩)
def qKl (m : qqb) : Prop := (m.1 = -1 ∧ m.2.1 = 0) ∨ (0 ≤ m.1 ∧ m.1 ≤ 1073741824 ∧ 1 ≤ m.2.1 ∧ m.2.1 ≤ 40)
theorem qol {m : qqb} (h : qKl m) : qDi m = some 0 := by
  rw [qZx, qHm]
  simp only [qKl] at h
  refine Tot.eq (Tot.be rfl (Tot.it (fun _ => Tot.so rfl) (fun hp => ?_)))
  rcases h with ⟨h1, h2⟩ | h
  · obtain ⟨a, n, u⟩ := m
    simp only at h1 h2
    subst h1 h2
    exact absurd rfl hp
  · exact Tot.ifd_pos (by omega) (Tot.ifd_pos (by omega) (Tot.ifd_pos (by omega) (Tot.ifd_pos (by omega) (Tot.so rfl))))
theorem qQo {l : Int} {m : qqb} {r : qla} (h : qrd l r) : Tot (quj m r) fun x => (0 ≤ x.1 ∧ x.1 < 256) ∧ (m.1 < 0 → x.2 = false) := by
  rw [qWv]
  exact Tot.ifd (fun _ => Tot.so ⟨by decide, fun _ => rfl⟩) (fun k => Tot.b (qkI h _) (fun x hx => Tot.so ⟨hx, fun q => absurd q k⟩))
theorem qcr {l : Int} {m : qqb} {r : qla} {w : qka} (hm : qKl m) (h : qrd l r) (hw : qst w) : Tot (qJp m r w) fun x => -2047 ≤ x.1 ∧ x.1 ≤ 2047 := by
  rw [qYx]
  have hl : 0 ≤ m.2.1 ∧ m.2.1 ≤ 40 := by
    rcases hm with h | h <;> omega
  rw [w64 (x := 50 * m.2.1) (by omega) (by omega), w64 (x := -50 * m.2.1) (by omega) (by omega), w32 (x := 50 * m.2.1) (by omega) (by omega), w32 (x := -50 * m.2.1) (by omega) (by omega)]
  refine Tot.be (qol hm) (Tot.ifne_neg rfl (Tot.be (qHc h) (Tot.ifne_neg rfl (Tot.be (qcf hw) (Tot.ifne_neg rfl (Tot.b (qQo h) (fun x _ => Tot.b (qjA hw) (fun q hq => Tot.ifn (fun _ => Tot.so (by decide)) (fun _ => ?_))))))))) 
  simp (disch := omega) only [Int.ofNat_eq_natCast, w64 (x := 8 - (q.1.length : Int)), w64 (x := 7 - (q.1.length : Int))]
  exact Tot.g (by omega) (Tot.ifne (fun _ => Tot.so (by decide)) (fun _ => Tot.g (by omega) (Tot.it (fun _ => Tot.so ⟨by simp only; omega, by simp only; omega⟩) (fun _ => Tot.so ⟨by simp only; omega, by simp only; omega⟩))))
theorem qIG (h : List Int) (i : Nat) (x : Int) (hi : i < h.length) : qNb h i [x] = h.set i x := by
  unfold qNb
  rw [List.set_eq_take_append_cons_drop, if_pos hi]
  simp
theorem qaB {h : List Int} {n : Nat} {x : Int} {i : Nat} (hz : ∀ y ∈ h.drop n, y = 0) (hi : i ≤ n) : ∀ y ∈ (h.set i x).drop (n + 1), y = 0 := by
  intro y hy
  rw [List.drop_set, if_pos (by omega)] at hy
  rw [← List.drop_drop] at hy
  exact hz y (List.mem_of_mem_drop hy)
theorem qMn {l : Int} {r : qla} (h : qrd l r) {x : Int} (hx : 0 ≤ x ∧ x < 256) (hN : r.2.2.1 < 1073741824) : Tot (qNn r [x]) fun s => s.2 = 0 ∧ qrd l s.1 ∧ s.1.2.2.1 = r.2.2.1 + 1 := by
  have hh := h
  obtain ⟨h1, ⟨h2, h3⟩, h4, h5, h6, h7, h8⟩ := h
  have hp := qet h2 h3
  rw [qjE]
  have e1 : (Int.ofNat [x].length) = 1 := rfl
  rw [e1]
  rw [w64 (x := 1073741824 - r.2.2.1) (by omega) (by omega)]
  refine Tot.be (qHc hh) (Tot.ifne_neg rfl (Tot.ifd_neg (by decide) (Tot.ifd_neg (by omega) (Tot.be (qli _ (by omega)) ?_))))
  rw [qGo]
  simp only [Int.ofNat_eq_natCast]
  rw [qRe h6]
  have hm0 : 0 ≤ r.2.2.1 % (r.2.1.length : Int) := Int.emod_nonneg _ (by omega)
  have hm1 : r.2.2.1 % (r.2.1.length : Int) < (r.2.1.length : Int) := Int.emod_lt_of_pos _ (by omega)
  have hle : r.2.2.1 % (r.2.1.length : Int) ≤ r.2.2.1 := by
    rcases Int.lt_or_le r.2.2.1 (r.2.1.length : Int) with k | k
    · rw [Int.emod_eq_of_lt h6 k]; exact Int.le_refl _
    · omega
  generalize r.2.2.1 % (r.2.1.length : Int) = i at *
  have emin : min [x].length (r.2.1.length - i.toNat) = 1 := by
    show min 1 _ = 1
    omega
  rw [emin]
  have e2 : List.drop 1 [x] = [] := rfl
  have e3 : List.take 1 [x] = [x] := rfl
  rw [e2, e3, Nat.zero_add, qIG _ _ _ (by omega), w64 (x := r.2.2.1 + ((1 : Nat) : Int)) (by omega) (by omega)]
  refine Tot.ifd_pos (by show 0 < 1; decide) (Tot.g (by omega) (Tot.g hm0 (Tot.g (by omega) (Tot.g (by decide) (Tot.g (by show (1:Int) ≤ 1; decide) ?_)))))
  rw [qGo]
  refine Tot.ifd_neg (by decide) (Tot.so ⟨rfl, ⟨h1, ⟨h2, h3⟩, by simpa using h4, qJd h5 hx _, by simp only; omega, by simp only; omega, ?_⟩, rfl⟩)
  have e4 : (r.2.2.1 + ((1 : Nat) : Int)).toNat = r.2.2.1.toNat + 1 := by omega
  simp only
  rw [e4]
  exact qaB h8 (by omega)
theorem qbh {l : Int} {r : qla} (h : qrd l r) : Tot (qBf r) fun _ => True := by
  have key : ∀ (n : Nat) (hs : List Int), n + hs.length ≤ 100 → Tot (qhg n r hs) fun _ => True := by
    intro n
    induction n with
    | zero =>
      intro hs hn
      rw [qtj]
      exact Tot.ifd_neg (by simp) (Tot.b (qsl _ _ (by omega)) (fun _ _ => Tot.so trivial))
    | succ n ih =>
      intro hs hn
      rw [qtj]
      have e : ((n + 1 : Nat) : Int) - 1 = (n : Int) := by omega
      rw [w64 (x := ((n + 1 : Nat) : Int) - 1) (by omega) (by omega), e]
      exact Tot.ifd_pos (by omega) (Tot.b (qdv h _) (fun x hx => Tot.g (by rw [List.length_append, List.length_singleton]; omega) (ih _ (by rw [List.length_append, List.length_singleton]; omega))))
  rw [qVv]
  exact key 4 [] (by decide)
def qXN (l : Int) (N : Int) (r : qqb × qla × qAa × Int) : Prop := r.2.2.2 = 0 ∧ qKl r.1 ∧ qrd l r.2.1 ∧ r.2.1.2.2.1 = N + 1 ∧ qDn l r.2.2.1
theorem qpC {l : Int} {m : qqb} {r : qla} {f : qAa} {x : Int} (hm : qKl m) (h : qrd l r) (hf : qDn l f) (hx : 0 ≤ x ∧ x < 256) (hN : r.2.2.1 < 1073741824) : Tot (qis m r f x) (qXN l r.2.2.1) := by
  have hput : ∀ (s : qla) (k : Int), qrd l s → s.2.2.1 = r.2.2.1 + 1 → Tot (qXa f k s.2.2.1) fun q => q.2 = 0 ∧ qDn l q.1 := fun s k hs e => qHC hf k hs.2.2.2.2.1 hs.2.2.2.2.2.1
  have hnew : qKl (-1, (0, ())) := Or.inl ⟨rfl, rfl⟩
  rw [qrA, qHm]
  refine Tot.be (qol hm) (Tot.ifne_neg rfl (Tot.be (qHc h) (Tot.ifne_neg rfl (Tot.be (qjk hf) (Tot.ifne_neg rfl (Tot.be rfl (Tot.b (qQo h) (fun e he => ?_))))))))
  refine Tot.it (fun he2 => ?_) (fun he2 => ?_)
  · have hm0 : 0 ≤ m.1 ∧ m.1 ≤ 1073741824 ∧ 1 ≤ m.2.1 ∧ m.2.1 ≤ 40 := by
      rcases hm with k | k
      · have := he.2 (by omega); rw [this] at he2; exact absurd he2 (by decide)
      · exact k
    refine Tot.ifeq (fun _ => ?_) (fun _ => ?_)
    · refine Tot.ifd (fun hlt => ?_) (fun _ => ?_)
      · rw [w64 (x := m.1 + 1) (by omega) (by omega), w64 (x := m.2.1 + 1) (by omega) (by omega)]
        have hm1 : qKl (m.1 + 1, ((if 40 < m.2.1 + 1 then 40 else m.2.1 + 1), ())) := Or.inr ⟨by simp only; omega, by simp only; omega, by simp only; split <;> omega, by simp only; split <;> omega⟩
        refine Tot.b (qMn h hx hN) (fun s hs => Tot.ifne_neg hs.1 (Tot.b (qbh hs.2.1) (fun k _ => Tot.b (qgi hf k) (fun q hq => ?_))))
        exact Tot.ifd_neg (by omega) (Tot.b (hput s.1 k hs.2.1 hs.2.2) (fun t ht => Tot.so ⟨rfl, hm1, hs.2.1, hs.2.2, ht.2⟩))
      · refine Tot.b (qMn h hx hN) (fun s hs => Tot.ifne_neg hs.1 (Tot.b (qbh hs.2.1) (fun k _ => Tot.b (qgi hf k) (fun q hq => ?_))))
        refine Tot.ifd_pos (by decide) (Tot.ifd (fun hq0 => Tot.ifd (fun hq1 => Tot.b (qJi hs.2.1 q.1) (fun n hn => Tot.ifd (fun hn3 => ?_) (fun _ => ?_))) (fun _ => ?_)) (fun _ => ?_))
        · exact Tot.b (hput s.1 k hs.2.1 hs.2.2) (fun t ht => Tot.so ⟨rfl, Or.inr ⟨hq0, hq.2.2, by simp only; omega, hn.2⟩, hs.2.1, hs.2.2, ht.2⟩)
        all_goals exact Tot.b (hput s.1 k hs.2.1 hs.2.2) (fun t ht => Tot.so ⟨rfl, hnew, hs.2.1, hs.2.2, ht.2⟩)
    · refine Tot.b (qMn h hx hN) (fun s hs => Tot.ifne_neg hs.1 (Tot.b (qbh hs.2.1) (fun k _ => Tot.b (qgi hf k) (fun q hq => ?_))))
      refine Tot.ifd_pos (by decide) (Tot.ifd (fun hq0 => Tot.ifd (fun hq1 => Tot.b (qJi hs.2.1 q.1) (fun n hn => Tot.ifd (fun hn3 => ?_) (fun _ => ?_))) (fun _ => ?_)) (fun _ => ?_))
      · exact Tot.b (hput s.1 k hs.2.1 hs.2.2) (fun t ht => Tot.so ⟨rfl, Or.inr ⟨hq0, hq.2.2, by simp only; omega, hn.2⟩, hs.2.1, hs.2.2, ht.2⟩)
      all_goals exact Tot.b (hput s.1 k hs.2.1 hs.2.2) (fun t ht => Tot.so ⟨rfl, hnew, hs.2.1, hs.2.2, ht.2⟩)
  · refine Tot.b (qMn h hx hN) (fun s hs => Tot.ifne_neg hs.1 (Tot.b (qbh hs.2.1) (fun k _ => Tot.b (qgi hf k) (fun q hq => ?_))))
    refine Tot.ifd_pos (by decide) (Tot.ifd (fun hq0 => Tot.ifd (fun hq1 => Tot.b (qJi hs.2.1 q.1) (fun n hn => Tot.ifd (fun hn3 => ?_) (fun _ => ?_))) (fun _ => ?_)) (fun _ => ?_))
    · exact Tot.b (hput s.1 k hs.2.1 hs.2.2) (fun t ht => Tot.so ⟨rfl, Or.inr ⟨hq0, hq.2.2, by simp only; omega, hn.2⟩, hs.2.1, hs.2.2, ht.2⟩)
    all_goals exact Tot.b (hput s.1 k hs.2.1 hs.2.2) (fun t ht => Tot.so ⟨rfl, hnew, hs.2.1, hs.2.2, ht.2⟩)
end Go.Ab

/-
  Totality of the codec, 7: the predictor, its check and what it sees.
-/
set_option linter.unusedVariables false
set_option linter.unusedSimpArgs false
set_option maxRecDepth 10000
namespace Go.Ab
open Go
attribute [local irreducible] IntKind.wrap
def qCr (l : Int) (h : List qja) : Prop := h.length = 6 ∧ ∀ t ∈ h, qJl l t
def qGH (h : List qia) : Prop := h.length = 6 ∧ ∀ a ∈ h, qOD a
def WfSl (l : Int) (s : List Int) : Prop := ∀ x ∈ s, 0 ≤ x ∧ x < plT l
@[reducible] def qBL : Type := (qqa × (qIa × (qAa × (qqb × (qka × ((List Int) × ((List Int) × Unit)))))))
def qBG (l : Int) (b : qBL) : Prop := qiq b.1 ∧ qAB b.2.1 ∧ qDn l b.2.2.1 ∧ qKl b.2.2.2.1 ∧ qst b.2.2.2.2.1 ∧ WfSl l b.2.2.2.2.2.2.1
def WfP (l N : Int) (p : qca) : Prop :=
  p.1 = l ∧ (qrd l p.2.1 ∧ p.2.1.2.2.1 ≤ N) ∧ qCr l p.2.2.1 ∧ qGH p.2.2.2.1 ∧ qBG l p.2.2.2.2 ∧ qLe p.2.1 = some (p.2.2.2.2.2.2.2.2.2.1, 0)
theorem WfSl.at {l : Int} {s : List Int} (h : WfSl l s) (h2 : 0 ≤ l ∧ l ≤ 7) (i : Nat) : 0 ≤ s.getD i 0 ∧ s.getD i 0 < plT l :=
  qAC (P := fun x => 0 ≤ x ∧ x < plT l) h ⟨by omega, by have := qsv h2.1 h2.2; omega⟩ i
theorem WfSl.zero {l : Int} (h2 : 0 ≤ l ∧ l ≤ 7) : WfSl l (List.replicate 6 0) := fun x hx => by
  rw [List.eq_of_mem_replicate hx]; have := qsv h2.1 h2.2; omega
def qdL (l : Int) (a : Int) (g : qla) (b : qBL) (h2 : List qia) (r : qca × List qja × List qia) : Prop :=
  r.1.1 = a ∧ r.1.2.1 = g ∧ qCr l r.2.1 ∧ r.2.2 = h2 ∧ r.1.2.2.2.2.1 = b.1 ∧ r.1.2.2.2.2.2.1 = b.2.1 ∧ r.1.2.2.2.2.2.2.1 = b.2.2.1 ∧ r.1.2.2.2.2.2.2.2.1 = b.2.2.2.1 ∧ r.1.2.2.2.2.2.2.2.2.1 = b.2.2.2.2.1 ∧ r.1.2.2.2.2.2.2.2.2.2.1 = b.2.2.2.2.2.1 ∧ WfSl l r.1.2.2.2.2.2.2.2.2.2.2.1
theorem qcJ {l : Int} (v a : _) (g : qla) (h2 : List qia) : ∀ i : Int, 0 ≤ i → ∀ (b : qBL) (h1 : List qja), qCr l h1 → WfSl l b.2.2.2.2.2.2.1 → Tot (qJc v i a g b h1 h2) (qdL l a g b h2) := by
  intro i
  refine qjc (P := fun i => 0 ≤ i → ∀ (b : qBL) (h1 : List qja), qCr l h1 → WfSl l b.2.2.2.2.2.2.1 → Tot (qJc v i a g b h1 h2) (qdL l a g b h2)) 6 ?_ ?_ i
  · intro i hi h0 b h1 ht hs
    rw [qph]
    exact Tot.ifd_neg (by omega) (Tot.so ⟨rfl, rfl, ht, rfl, rfl, rfl, rfl, rfl, rfl, rfl, hs⟩)
  · intro i hi ih h0 b h1 ht hs
    rw [qph]
    simp only [Int.ofNat_eq_natCast]
    have hl := ht.1
    rw [w64 (x := i + 1) (by omega) (by omega)]
    have hd := qHa (P := qJl l) (d := qpa qwa) ht.2 (0 + i.toNat) (by omega)
    refine Tot.ifd_pos (by omega) (Tot.g h0 (Tot.g (by omega) (Tot.g h0 (Tot.g (by omega) (Tot.b (qMB hd _) (fun r hr => Tot.g h0 (Tot.g (by omega) (Tot.g h0 (Tot.g (by omega) ?_)))))))))
    exact Tot.mono (ih (by omega) _ _ ⟨by rw [List.length_set]; exact ht.1, qJd ht.2 hr.1 _⟩ (qJd hs ⟨hr.2.1, hr.2.2.1⟩ _)) (fun q hq => hq)
theorem qdJ {l : Int} (v a : _) (g : qla) (h2 : List qia) (b : qBL) (h1 : List qja) (ht : qCr l h1) (hs : WfSl l b.2.2.2.2.2.2.1) : Tot (qpe v a g b h1 h2) (qdL l a g b h2) := by
  rw [qFq]
  exact qcJ v a g h2 0 (by omega) b h1 ht hs
theorem qmD (l : List qia) (hl : l.length ≤ 1048576) (h : ∀ a ∈ l, qOD a) : qhb l = some false := by
  have key : ∀ i : Int, 0 ≤ i → Tot (qLa l l.length i) fun r => r = -1 := by
    intro i
    refine qjc (P := fun i => 0 ≤ i → Tot (qLa l l.length i) fun r => r = -1) l.length ?_ ?_ i
    · intro i hi h0
      rw [qCb]
      exact Tot.ifd_neg (by omega) (Tot.so rfl)
    · intro i hi ih h0
      rw [qCb]
      simp only [Int.ofNat_eq_natCast]
      rw [w64 (x := i + 1) (by omega) (by omega)]
      have hd := qHa (P := qOD) (d := qpa qna) h i.toNat (by omega)
      refine Tot.ifd_pos (by omega) (Tot.g h0 (Tot.g (by omega) (Tot.be (v := false) ?_ (Tot.iff_ (ih (by omega))))))
      rw [qEq]
      exact Tot.eq (Tot.be (qzr hd) (Tot.ifne_neg rfl (Tot.so (by rw [hd.1]; rfl))))
  rw [qCd, qie]
  exact Tot.eq (Tot.b (key 0 (by omega)) (fun r hr => Tot.so (by rw [hr]; rfl)))
theorem qbH {l N : Int} {p : qca} (h : WfP l N p) : ∀ i : Int, 0 ≤ i → Tot (qFd p.2.2.1 p.2.2.1.length i p) fun r => r = true := by
  obtain ⟨h1, h2, h3, h4, h5, h6⟩ := h
  have hl := h3.1
  intro i
  refine qjc (P := fun i => 0 ≤ i → Tot (qFd p.2.2.1 p.2.2.1.length i p) fun r => r = true) p.2.2.1.length ?_ ?_ i
  · intro i hi h0
    rw [qzi]
    exact Tot.ifd_neg (by omega) (Tot.be (qmD _ (by rw [h4.1]; decide) h4.2) (Tot.so rfl))
  · intro i hi ih h0
    rw [qzi]
    simp only [Int.ofNat_eq_natCast]
    have hd := qHa (P := qJl l) (d := qpa qwa) h3.2 i.toNat (by omega)
    have hs := h5.2.2.2.2.2.at hd.2.1 i.toNat
    have hd2 := hd.2.2.1
    rw [w64 (x := i + 1) (by omega) (by omega)]
    exact Tot.ifd_pos (by omega) (Tot.g h0 (Tot.g (by omega) (Tot.be (qcl hd) (Tot.ifne_neg rfl (Tot.ifne_neg (by rw [hd.1, h1]) (Tot.g h0 (Tot.g (by omega) (Tot.ifd_neg (by omega) (Tot.g h0 (Tot.g (by omega) (Tot.ifd_neg (by omega) (ih (by omega)))))))))))))
theorem qPL {l N : Int} {p : qca} (h : WfP l N p) : qkl p = some true := by
  have hc := qbH h 0 (by omega)
  obtain ⟨h1, h2, h3, h4, h5, h6⟩ := h
  rw [qHt]
  simp only [Int.ofNat_eq_natCast]
  have hl := h2.1.2.1
  have hl1 := h3.1
  have hl2 := h4.1
  exact Tot.eq (Tot.ifd_neg (by omega) (Tot.ifd_neg (by omega) (Tot.ifne_neg (by omega) (Tot.ifne_neg (by omega) (Tot.be (qHc h2.1) (Tot.ifne_neg rfl (Tot.ifne_neg (by rw [h2.1.1, h1]) (Tot.be (qjk h5.2.2.1) (Tot.ifne_neg rfl (Tot.ifne_neg (by rw [h5.2.2.1.1, h1]) hc))))))))))
theorem qIq {α : Type} {eq : α → α → Bool} (h : ∀ x, eq x x = true) : ∀ l : List α, qBB eq l l = true
  | [] => rfl
  | x :: l => by rw [qBB, h, qIq h l]; rfl
theorem qBi {l N : Int} {p : qca} (h : WfP l N p) : qbi p = some 0 := by
  rw [qJt]
  simp only [Int.ofNat_eq_natCast]
  have hp := qPL h
  obtain ⟨h1, h2, h3, h4, h5, h6⟩ := h
  have hm := h5.1.1
  refine Tot.eq (Tot.be hp (Tot.ifn (fun k => absurd k (by decide)) (fun _ => Tot.be (qTq h5.1) (Tot.ifne_neg rfl (Tot.ifne_neg (by omega) (Tot.be (qhi h5.2.1) (Tot.ifne_neg rfl (Tot.be (qol h5.2.2.2.1) (Tot.ifne_neg rfl (Tot.be (qcf h5.2.2.2.2.1) (Tot.ifne_neg rfl (Tot.be h6 (Tot.ifn (fun k => ?_) (fun _ => Tot.so rfl))))))))))))))
  have : peq (.arr 6 (.int .u32)) p.2.2.2.2.2.2.2.2.2.1 p.2.2.2.2.2.2.2.2.2.1 = true := by
    rw [peq]; exact qIq (fun x => by rw [peq]; exact decide_eq_true rfl) _
  exact absurd (this.symm.trans k) (by decide)
def qtt (s : qMb) : Prop := (1 ≤ s.1 ∧ s.1 ≤ 15) ∧ (s.2.1.length = 6 ∧ ∀ x ∈ s.2.1, 0 ≤ x ∧ x ≤ 192) ∧ (s.2.2.1.length = 8 ∧ ∀ x ∈ s.2.2.1, -2047 ≤ x ∧ x ≤ 2047) ∧ (0 ≤ s.2.2.2.1 ∧ s.2.2.2.1 ≤ 4095) ∧ qyN s.2.2.2.2.2.1
theorem qjK {l N : Int} {p : qca} (h : WfP l N p) (b9a : Int) (b9 b10 : (Int × (Int × (qDb × Unit)))) {nd : Int} (hn : 1 ≤ nd ∧ nd ≤ 15) (h11 h12 : List Int) : ∀ i : Int, 0 ≤ i → i ≤ 6 → ∀ (h13 h14 : List Int), (h13.length = i.toNat ∧ ∀ x ∈ h13, 0 ≤ x ∧ x ≤ 192) → (h14.length = i.toNat ∧ ∀ x ∈ h14, -2047 ≤ x ∧ x ≤ 2047) →
    Tot (qSc p.2.2.1 6 i p b9a b9 nd b10 h11 h12 h13 h14) qtt := by
  obtain ⟨h1, h2, h3, h4, h5, h6⟩ := h
  have hl3 := h3.1
  have hl4 := h4.1
  have hw := h5.2.2.2.2.1
  intro i
  refine qjc (P := fun i => 0 ≤ i → i ≤ 6 → ∀ (h13 h14 : List Int), (h13.length = i.toNat ∧ ∀ x ∈ h13, 0 ≤ x ∧ x ≤ 192) → (h14.length = i.toNat ∧ ∀ x ∈ h14, -2047 ≤ x ∧ x ≤ 2047) → Tot (qSc p.2.2.1 6 i p b9a b9 nd b10 h11 h12 h13 h14) qtt) 6 ?_ ?_ i
  · intro i hi h0 h06 h13 h14 k13 k14
    rw [qHe]
    have e6 : i.toNat = 6 := by omega
    rw [e6] at k13 k14
    refine Tot.ifd_neg (by omega) (Tot.b (qcr h5.2.2.2.1 h2.1 hw) (fun m hm => ?_))
    have hL : (h14 ++ [m.1, 256]).length = 8 := by rw [List.length_append, k14.1]; rfl
    have hA : ∀ x ∈ h14 ++ [m.1, 256], -2047 ≤ x ∧ x ≤ 2047 := by
      intro x hx
      rcases List.mem_append.1 hx with q | q
      · exact k14.2 x q
      · rcases List.mem_cons.1 q with rfl | q
        · exact hm
        · rw [List.mem_singleton.1 q]; omega
    refine Tot.g (by rw [hL]; decide) (Tot.b (qOv h5.1 (by have := hw.1; omega) hw.2 hL hA) (fun x hx => Tot.b (qbm h2.1) (fun y _ => Tot.b (qmt _ _ hw.1 hw.2) (fun z hz => ?_))))
    obtain ⟨c, hz1, hz2⟩ := hz
    rw [hz1]
    exact Tot.b (qQC h5.2.1 ⟨by have := hw.1; omega, hw.2⟩ hz2 ⟨hx.1, hx.2.1⟩ ⟨hx.2.2.1, hx.2.2.2⟩) (fun t ht => Tot.so ⟨hn, k13, ⟨hL, hA⟩, ⟨hx.2.2.1, hx.2.2.2⟩, ht⟩)
  · intro i hi ih h0 h06 h13 h14 k13 k14
    rw [qHe]
    simp only [Int.ofNat_eq_natCast]
    have hd := qHa (P := qJl l) (d := qpa qwa) h3.2 i.toNat (by omega)
    have ha := qHa (P := qOD) (d := qpa qna) h4.2 i.toNat (by omega)
    have hs := h5.2.2.2.2.2.at hd.2.1 i.toNat
    rw [w64 (x := i + 1) (by omega) (by omega)]
    refine Tot.ifd_pos (by omega) (Tot.g h0 (Tot.g (by omega) (Tot.g h0 (Tot.g (by omega) (Tot.b (qmp hd hs.1 hs.2 hn.1 hn.2) (fun r hr => Tot.g h0 (Tot.g (by omega) (Tot.b (qGD ha hr.2.1 hr.2.2) (fun q hq => Tot.g ?_ (Tot.g (by decide) (Tot.b (qHB _) (fun s hs' => Tot.g ?_ ?_))))))))))))
    · rw [List.length_append, List.length_singleton]; omega
    · rw [List.length_append, List.length_singleton]; omega
    · exact ih (by omega) (by omega) _ _ ⟨by rw [List.length_append, List.length_singleton]; omega, qMh k13.2 hr.2⟩ ⟨by rw [List.length_append, List.length_singleton]; omega, qMh k14.2 hs'⟩
theorem qDN {l N : Int} {p : qca} (h : WfP l N p) : Tot (qMg p) qtt := by
  rw [qMo]
  have e : Int.ofNat p.2.2.1.length = 6 := by rw [h.2.2.1.1]; rfl
  rw [e]
  exact Tot.b (qNq h.2.2.2.2.1.2.2.2.2.1) (fun r hr => qjK h _ _ _ hr _ _ 0 (by omega) (by omega) [] [] ⟨rfl, fun x hx => by cases hx⟩ ⟨rfl, fun x hx => by cases hx⟩)
end Go.Ab

/-
  Totality of the codec, 8: the predictor's update, its twin, a new one, and runs.
-/
set_option linter.unusedVariables false
set_option linter.unusedSimpArgs false
set_option maxRecDepth 10000
namespace Go.Ab
open Go
attribute [local irreducible] IntKind.wrap
theorem qHA {l N : Int} {g : qla} {b : qBL} {h2 : List qia} {r : qca × List qja × List qia} (h : qdL l l g b h2 r) (hg : qrd l g ∧ g.2.2.1 ≤ N) (ha : qGH h2)
    (hb : qiq b.1 ∧ qAB b.2.1 ∧ qDn l b.2.2.1 ∧ qKl b.2.2.2.1 ∧ qst b.2.2.2.2.1) (hc : qLe g = some (b.2.2.2.2.2.1, 0)) : WfP l N (r.1.1, (r.1.2.1, (r.2.1, (r.2.2, r.1.2.2.2.2)))) := by
  obtain ⟨e1, e2, t, e4, e5, e6, e7, e8, e9, e10, s⟩ := h
  refine ⟨e1, ?_, t, ?_, ⟨?_, ?_, ?_, ?_, ?_, s⟩, ?_⟩
  · simp only; rw [e2]; exact hg
  · simp only; rw [e4]; exact ha
  · simp only; rw [e5]; exact hb.1
  · simp only; rw [e6]; exact hb.2.1
  · simp only; rw [e7]; exact hb.2.2.1
  · simp only; rw [e8]; exact hb.2.2.2.1
  · simp only; rw [e9]; exact hb.2.2.2.2
  · simp only; rw [e2, e10]; exact hc
def qoM (l N : Int) (r : qca × Int) : Prop := r.2 = 0 ∧ WfP l N r.1
theorem qQD {l N : Int} (v : List Int) (g : qla) (m : qqa) (f : qIa) (b : (qAa × (qqb × (qka × ((List Int) × ((List Int) × Unit)))))) (w : qka)
    (b10a b10baa : Int) (b10babb : qka) (u1 u2 u3 u4 : Unit) (b10bbbbbbaa : Int) (u5 : Unit) (b10bbbbbbb : (qqb × (qka × ((List Int) × ((List Int) × Unit)))))
    (h12 : List qja) (h13 : List qia) (h14 : List Int) (h15 : List qja) (h16 : List qia) (h17 h18 h19 : List (List Int)) (h20 : List Int)
    (hg : qrd l g ∧ g.2.2.1 ≤ N) (ht : qCr l h12) (ha : qGH h13) (hr : qBG l (m, (f, b))) (hc : qLe g = some (b.2.2.2.1, 0)) : ∀ i : Int, 0 ≤ i → ∀ b11 : List Int,
    Tot (qhd v i l g m f b b10a b10baa b10babb u1 u2 u3 u4 b10bbbbbbaa u5 b10bbbbbbb w b11 h12 h13 h14 h15 h16 h17 h18 h19 h20) (qoM l N) := by
  intro i
  refine qjc (P := fun i => 0 ≤ i → ∀ b11 : List Int, Tot (qhd v i l g m f b b10a b10baa b10babb u1 u2 u3 u4 b10bbbbbbaa u5 b10bbbbbbb w b11 h12 h13 h14 h15 h16 h17 h18 h19 h20) (qoM l N)) 6 ?_ ?_ i
  · intro i hi h0 b11
    rw [qRh]
    refine Tot.ifd_neg (by omega) (Tot.b (qdJ b11 l g h13 (m, (f, b)) h12 ht hr.2.2.2.2.2) (fun r hq => Tot.so ⟨rfl, qHA hq hg ha ⟨hr.1, hr.2.1, hr.2.2.1, hr.2.2.2.1, hr.2.2.2.2.1⟩ hc⟩))
  · intro i hi ih h0 b11
    rw [qRh, w64 (x := i + 1) (by omega) (by omega)]
    exact Tot.ifd_pos (by omega) (Tot.g h0 (Tot.g (by omega) (Tot.b (qHy _ _) (fun r _ => Tot.g h0 (Tot.g (by omega) (ih (by omega) _))))))
theorem qzu {l N : Int} (v2 : Bool) {v8 : Int} (h8 : v8 = 0 ∨ v8 = 1) (g : qla) (b : qBL) (s : qMb)
    (b10a b10baa : Int) (b10babb : qka) (u1 u2 u3 u4 : Unit) (b10bbbbbbaa : Int) (u5 : Unit) (b10bbbbbbb : (qqb × (qka × ((List Int) × ((List Int) × Unit)))))
    (h13 : List Int) (h14 : List qja) (h15 : List qia) (h16 h17 h18 : List (List Int)) (h19 : List Int)
    (hg : qrd l g ∧ g.2.2.1 ≤ N) (hN : N < 1073741824) (hb : qBG l b) (hc : qLe g = some (b.2.2.2.2.2.1, 0)) (hs : qtt s) : ∀ i : Int, 0 ≤ i → ∀ (h11 : List qja) (h12 : List qia), qCr l h11 → qGH h12 →
    Tot (qlc v2 v8 b.2.2.2.2.1.1 i l g b s b10a b10baa b10babb u1 u2 u3 u4 b10bbbbbbaa u5 b10bbbbbbb h11 h12 h13 h14 h15 h16 h17 h18 h19) (qoM l (N + 1)) := by
  obtain ⟨s1, s2, s3, s4, s5⟩ := hs
  obtain ⟨b1, b2, b3, b4, b5, b6⟩ := hb
  intro i
  refine qjc (P := fun i => 0 ≤ i → ∀ (h11 : List qja) (h12 : List qia), qCr l h11 → qGH h12 → Tot (qlc v2 v8 b.2.2.2.2.1.1 i l g b s b10a b10baa b10babb u1 u2 u3 u4 b10bbbbbbaa u5 b10bbbbbbb h11 h12 h13 h14 h15 h16 h17 h18 h19) (qoM l (N + 1))) 6 ?_ ?_ i
  · intro i hi h0 h11 h12 t a
    rw [qSh]
    have w0 := b5.1
    have w1 := b5.2
    refine Tot.ifd_neg (by omega) (Tot.b (qnA b1 (by omega) w1 s3.1 s3.2 s4.1 s4.2 v2) (fun r7 k7 => Tot.b (qKA b2 s5 v2) (fun r8 k8 => Tot.b (qgA b5 v2) (fun r9 k9 => Tot.it (fun _ => ?_) (fun _ => ?_)))))
    · refine Tot.b (qpC b4 hg.1 b3 k9.2 (by omega)) (fun r10 k10 => Tot.ifne_neg k10.1 ?_)
      obtain ⟨z1, z2, z3, z4, z5⟩ := k10
      obtain ⟨q, e, hq⟩ := qqt z3
      refine Tot.be e ?_
      refine Tot.b (qdJ q.1 l r10.2.1 h12 (r7.1, (r8.1, (r10.2.2.1, (r10.1, (r9.1, (q.1, b.2.2.2.2.2.2)))))) h11 t b6) (fun r12 k12 => Tot.so ⟨rfl, ?_⟩)
      exact qHA k12 ⟨z3, by rw [z4]; omega⟩ a ⟨k7.2, k8.2, z5, z2, k9.1⟩ (by rw [e]; exact congrArg some (Prod.ext rfl hq))
    · refine Tot.ifd (fun _ => ?_) (fun _ => Tot.ifd (fun _ => ?_) (fun _ => ?_))
      · exact Tot.so ⟨rfl, rfl, ⟨hg.1, by simp only; omega⟩, t, a, ⟨k7.2, k8.2, b3, b4, k9.1, b6⟩, hc⟩
      · exact Tot.so ⟨rfl, rfl, ⟨hg.1, by simp only; omega⟩, t, a, ⟨k7.2, k8.2, b3, b4, k9.1, b6⟩, hc⟩
      · exact qQD _ g r7.1 r8.1 (b.2.2.1, (b.2.2.2.1, (r9.1, b.2.2.2.2.2))) r9.1 b10a b10baa b10babb u1 u2 u3 u4 b10bbbbbbaa u5 b10bbbbbbb h11 h12 h13 h14 h15 h16 h17 h18 h19 ⟨hg.1, by omega⟩ t a ⟨k7.2, k8.2, b3, b4, k9.1, b6⟩ hc 0 (by omega) _
  · intro i hi ih h0 h11 h12 t a
    rw [qSh]
    simp only [Int.ofNat_eq_natCast]
    have hl1 := t.1
    have hl2 := a.1
    have hl3 := s2.1
    have hd := qHa (P := qJl l) (d := qpa qwa) t.2 (0 + i.toNat) (by omega)
    have ha := qHa (P := qOD) (d := qpa qna) a.2 (0 + i.toNat) (by omega)
    have hst := qHa (P := fun x => 0 ≤ x ∧ x ≤ 192) (d := 0) s2.2 i.toNat (by omega)
    have hsl := b6.at hd.2.1 i.toNat
    rw [w64 (x := i + 1) (by omega) (by omega)]
    refine Tot.ifd_pos (by omega) (Tot.g h0 (Tot.g (by omega) (Tot.g h0 (Tot.g (by omega) (Tot.b (qTy ha hst.1 hst.2 h8) (fun r5 k5 => Tot.g h0 (Tot.g (by omega) (Tot.g h0 (Tot.g (by omega) (Tot.g h0 (Tot.g (by omega) (Tot.b (qaE hd hsl.1 hsl.2 s1.1 s1.2 h8) (fun r6 k6 => Tot.g h0 (Tot.g (by omega) ?_))))))))))))))
    exact ih (by omega) _ _ ⟨by rw [List.length_set]; exact hl1, qJd t.2 k6.2 _⟩ ⟨by rw [List.length_set]; exact hl2, qJd a.2 k5.2 _⟩
theorem qzz {l N : Int} {p : qca} (h : WfP l N p) (hN : N < 1073741824) {s : qMb} (hs : qtt s) (b : Bool) : Tot (qZg p s b) (qoM l (N + 1)) := by
  obtain ⟨h1, h2, h3, h4, h5, h6⟩ := h
  rw [qWr, h1]
  have k1 := qNh p.2.2.1 (by rw [h3.1]; decide)
  have k2 := qOh p.2.2.2.1 (by rw [h4.1]; decide)
  refine Tot.it (fun _ => Tot.be k1 (Tot.be k2 ?_)) (fun _ => Tot.be k1 (Tot.be k2 ?_))
  · exact qzu b (Or.inr rfl) p.2.1 p.2.2.2.2 s _ _ _ _ _ _ _ _ _ _ _ _ _ _ _ _ _ h2 hN h5 h6 hs 0 (by omega) _ _ h3 h4
  · exact qzu b (Or.inl rfl) p.2.1 p.2.2.2.2 s _ _ _ _ _ _ _ _ _ _ _ _ _ _ _ _ _ h2 hN h5 h6 hs 0 (by omega) _ _ h3 h4
theorem qjI (l : List (List Int)) (hl : l.length ≤ 1048576) (hr : ∀ r ∈ l, r.length ≤ 1048576) : qoh l = some l := by
  have key : ∀ i : Int, 0 ≤ i → i ≤ l.length → Tot (qoe l l.length i (l.take i.toNat)) fun r => r = l := by
    intro i
    refine qjc (P := fun i => 0 ≤ i → i ≤ l.length → Tot (qoe l l.length i (l.take i.toNat)) fun r => r = l) l.length ?_ ?_ i
    · intro i hi h0 h1
      rw [qpj]
      exact Tot.ifd_neg (by omega) (Tot.so (List.take_of_length_le (by omega)))
    · intro i hi ih h0 h1
      rw [qpj]
      simp only [Int.ofNat_eq_natCast]
      have hd := qHa (P := fun r : List Int => r.length ≤ 1048576) (d := []) hr i.toNat (by omega)
      rw [w64 (x := i + 1) (by omega) (by omega)]
      refine Tot.ifd_pos (by omega) (Tot.g h0 (Tot.g (by omega) (Tot.be (qMa _ hd) (Tot.g (by rw [List.length_append, List.length_singleton, List.length_take]; omega) ?_))))
      have e : l.take i.toNat ++ [l.getD i.toNat []] = l.take (i + 1).toNat := by
        have e2 : (i + 1).toNat = i.toNat + 1 := by omega
        rw [e2, List.take_succ_eq_append_getElem (by omega), List.getD_eq_getElem?_getD, List.getElem?_eq_getElem (by omega)]
        rfl
      rw [e]
      exact ih (by omega) (by omega)
  rw [qpv]
  exact Tot.eq (key 0 (by omega) (by omega))
theorem qTH {l : Int} (t : List qja) (a : List qia) (ht : qCr l t) (ha : qGH a) (b8a b8baa : Int) (b8babb : qka) (m : qqa) (f : qIa) (hm : qiq m) (hf : qAB f) (b8bbbbbbaa : Int) (u : Unit) (b8bbbbbbb : (qqb × (qka × ((List Int) × ((List Int) × Unit)))))
    (b10a b10baa : Int) (b10babb : qka) (u1 u2 u3 u4 : Unit) (b10bbbbbbaa : Int) (u5 : Unit) (b10bbbbbbb : (qqb × (qka × ((List Int) × ((List Int) × Unit)))))
    (h10 h13 h14 : List Int) (h15 : List qja) (h16 : List qia) (h17 h18 h19 : List (List Int)) (h20 : List Int) : ∀ i : Int, 0 ≤ i →
    Tot (qne 6 i b8a b8baa b8babb m f b8bbbbbbaa u b8bbbbbbb b10a b10baa b10babb u1 u2 u3 u4 b10bbbbbbaa u5 b10bbbbbbb h10 t a h13 h14 h15 h16 h17 h18 h19 h20) fun r => r = (b8a, ((b8baa, (h10, b8babb)), (t, (a, (m, (f, ((b8bbbbbbaa, (h13, u)), b8bbbbbbb))))))) := by
  intro i
  refine qjc (P := fun i => 0 ≤ i → Tot (qne 6 i b8a b8baa b8babb m f b8bbbbbbaa u b8bbbbbbb b10a b10baa b10babb u1 u2 u3 u4 b10bbbbbbaa u5 b10bbbbbbb h10 t a h13 h14 h15 h16 h17 h18 h19 h20) fun r => r = (b8a, ((b8baa, (h10, b8babb)), (t, (a, (m, (f, ((b8bbbbbbaa, (h13, u)), b8bbbbbbb)))))))) 6 ?_ ?_ i
  · intro i hi h0
    rw [qoj]
    refine Tot.ifd_neg (by omega) (Tot.be (qjI _ (by rw [hm.1]; decide) (fun r hr => by rw [hm.2 r hr]; decide)) (Tot.be (qjI _ (by rw [hf.1.1]; decide) (fun r hr => by rw [(hf.1.2 r hr).1]; decide)) (Tot.be (qjI _ (by rw [hf.2.1]; decide) (fun r hr => by rw [(hf.2.2 r hr).1]; decide)) (Tot.so rfl))))
  · intro i hi ih h0
    rw [qoj]
    simp only [Int.ofNat_eq_natCast]
    have hl1 := ht.1
    have hl2 := ha.1
    have hd := qHa (P := qJl l) (d := qpa qwa) ht.2 (0 + i.toNat) (by omega)
    have hq := qHa (P := qOD) (d := qpa qna) ha.2 (0 + i.toNat) (by omega)
    have hp := qsv hd.2.1.1 hd.2.1.2
    have hd2 := hd.2.2.1
    rw [w64 (x := i + 1) (by omega) (by omega)]
    refine Tot.ifd_pos (by omega) (Tot.g h0 (Tot.g (by omega) (Tot.be (qqf _ (by omega)) (Tot.g h0 (Tot.g (by omega) (Tot.g h0 (Tot.g (by omega) (Tot.be (qMa _ (by rw [hq.2.1.1]; decide)) (Tot.g h0 (Tot.g (by omega) (Tot.be (qMa _ (by rw [hq.2.2.1]; decide)) (Tot.g h0 (Tot.g (by omega) (Tot.g h0 (Tot.g (by omega) ?_)))))))))))))))
    have s1 := qJF t (0 + i.toNat) (qpa qwa)
    have s2 := qJF a (0 + i.toNat) (qpa qna)
    have s1' : t.set (0 + i.toNat) ((t.getD (0 + i.toNat) (qpa qwa)).1, ((t.getD (0 + i.toNat) (qpa qwa)).2.1, (t.getD (0 + i.toNat) (qpa qwa)).2.2)) = t := s1
    have s2' : a.set (0 + i.toNat) ((a.getD (0 + i.toNat) (qpa qna)).1, ((a.getD (0 + i.toNat) (qpa qna)).2.1, (a.getD (0 + i.toNat) (qpa qna)).2.2)) = a := s2
    have s3' : a.set (0 + i.toNat) ((a.getD (0 + i.toNat) (qpa qna)).1, ((a.getD (0 + i.toNat) (qpa qna)).2.1, ((a.getD (0 + i.toNat) (qpa qna)).2.2.1, (a.getD (0 + i.toNat) (qpa qna)).2.2.2))) = a := s2
    rw [s1', s2', s3']
    exact ih (by omega)
theorem qhL {l N : Int} {p : qca} (h : WfP l N p) : qum p = some p := by
  obtain ⟨h1, h2, h3, h4, h5, h6⟩ := h
  have hp := qet h2.1.2.1.1 h2.1.2.1.2
  have e1 := h2.1.2.2.1
  have e2 := h5.2.2.1.2.2.1
  rw [qov]
  refine Tot.eq (Tot.be (qrb _ (by omega)) (Tot.be (qHg _ (by omega)) (Tot.be (qNh _ (by rw [h3.1]; decide)) (Tot.be (qOh _ (by rw [h4.1]; decide)) ?_))))
  have e : Int.ofNat p.2.2.1.length = 6 := by rw [h3.1]; rfl
  rw [e]
  exact Tot.mono (qTH p.2.2.1 p.2.2.2.1 h3 h4 _ _ _ _ _ h5.1 h5.2.1 _ _ _ _ _ _ _ _ _ _ _ _ _ _ _ _ _ _ _ _ _ _ 0 (by omega)) (fun r hr => hr)
def qSN (l N : Int) (n : Nat) (r : qca × List Int × Int) : Prop := r.2.2 = 0 ∧ WfP l N r.1 ∧ r.2.1.length = n
theorem qYK {l N : Int} (v : List Bool) (hv : v.length ≤ 2000) (hN : N + v.length < 1073741824) (b9a b9baa : Int) (b9babb : qka) (u1 u2 u3 u4 : Unit) (b9bbbbbbaa : Int) (u5 : Unit) (b9bbbbbbb : (qqb × (qka × ((List Int) × ((List Int) × Unit)))))
    (h11 : List Int) (h12 : List qja) (h13 : List qia) (h14 h15 h16 : List (List Int)) (h17 : List Int) : ∀ i : Int, 0 ≤ i → i ≤ v.length → ∀ (p : qca) (h10 : List Int), WfP l (N + i) p → h10.length = i.toNat →
    Tot (qTc v v.length i p b9a b9baa b9babb u1 u2 u3 u4 b9bbbbbbaa u5 b9bbbbbbb h10 h11 h12 h13 h14 h15 h16 h17) (qSN l (N + v.length) v.length) := by
  intro i
  refine qjc (P := fun i => 0 ≤ i → i ≤ v.length → ∀ (p : qca) (h10 : List Int), WfP l (N + i) p → h10.length = i.toNat → Tot (qTc v v.length i p b9a b9baa b9babb u1 u2 u3 u4 b9bbbbbbaa u5 b9bbbbbbb h10 h11 h12 h13 h14 h15 h16 h17) (qSN l (N + v.length) v.length)) v.length ?_ ?_ i
  · intro i hi h0 h1 p h10 hp hh
    rw [qIe]
    have e : i = (v.length : Int) := by omega
    rw [e] at hp
    exact Tot.ifd_neg (by omega) (Tot.so ⟨rfl, hp, by simp only; omega⟩)
  · intro i hi ih h0 h1 p h10 hp hh
    rw [qIe]
    simp only [Int.ofNat_eq_natCast]
    rw [w64 (x := i + 1) (by omega) (by omega)]
    refine Tot.ifd_pos (by omega) (Tot.g h0 (Tot.g (by omega) (Tot.b (qDN hp) (fun s hs => Tot.b (qzz hp (by omega) hs _) (fun r hr => Tot.ifne_neg hr.1 (Tot.g (by rw [List.length_append, List.length_singleton]; omega) ?_))))))
    exact ih (by omega) (by omega) r.1 _ (by have := hr.2; rw [Int.add_assoc] at this; exact this) (by rw [List.length_append, List.length_singleton]; omega)
theorem qRN {l N : Int} {p : qca} (h : WfP l N p) (v : List Bool) (hv : v.length ≤ 2000) (hN : N + v.length < 1073741824) : Tot (qAi p v) (qSN l (N + v.length) v.length) := by
  rw [qNo]
  simp only [Int.ofNat_eq_natCast]
  refine Tot.be (qBi h) (Tot.ifne_neg rfl (Tot.ifd_neg (by omega) (Tot.be (qhL h) ?_)))
  exact qYK v hv hN _ _ _ _ _ _ _ _ _ _ _ _ _ _ _ _ _ 0 (by omega) (by omega) p [] (by rw [Int.add_zero]; exact h) rfl
end Go.Ab

/-
  Totality of the codec, 9: a new predictor.
-/
set_option linter.unusedVariables false
set_option linter.unusedSimpArgs false
set_option maxRecDepth 10000
namespace Go.Ab
open Go
attribute [local irreducible] IntKind.wrap
theorem qCL : ∀ n ∈ ([8, 64, 128, 193, 256, 512, 1024, 2048, 4096, 8192] : List Int), qdi (IntKind.wrap .u64 1) (IntKind.wrap .u64 n) = some (0, n) := by
  intro n hn
  simp only [List.mem_cons, List.not_mem_nil, or_false] at hn
  rw [qPt, qZq, qga (by decide), qga (by decide), qga (by decide), qga (by decide), qga (by decide), Option.bind_some]
  rcases hn with rfl | rfl | rfl | rfl | rfl | rfl | rfl | rfl | rfl | rfl <;> exact congrArg some (by kernel_rfl)
theorem qFu {α : Type} (l : List α) (v c : Nat) (hv : v + c ≤ l.length) (hc : c ≤ v) : (qNb l v (List.take c (List.take v l))).take (v + c) = l.take v ++ l.take c ∧ (qNb l v (List.take c (List.take v l))).length = l.length := by
  have e : List.take c (List.take v l) = l.take c := by rw [List.take_take, Nat.min_eq_left hc]
  rw [e]
  unfold qNb
  have h1 : (l.take v ++ l.take c).length = v + c := by rw [List.length_append, List.length_take, List.length_take]; omega
  constructor
  · rw [List.take_append_of_le_length (by omega), List.take_of_length_le (by omega)]
  · rw [List.length_append, h1, List.length_drop, List.length_take]; omega
theorem qUB (x : Int) (n : Nat) (hn : n ≤ 1048576) : ∀ (m : Nat) (v : Nat) (h : List Int), n - v ≤ m → 1 ≤ v → v ≤ n → h.length = n → (∀ y ∈ h.take v, y = x) → Tot (qTb v h) fun r => r.length = n ∧ ∀ y ∈ r, y = x := by
  intro m
  induction m with
  | zero =>
    intro v h hm h1 h2 hl ha
    rw [qfe]
    simp only [Int.ofNat_eq_natCast]
    refine Tot.ifd_neg (by omega) (Tot.so ⟨hl, ?_⟩)
    rw [List.take_of_length_le (by omega)] at ha
    exact ha
  | succ m ih =>
    intro v h hm h1 h2 hl ha
    rw [qfe]
    simp only [Int.ofNat_eq_natCast]
    refine Tot.ifd (fun hlt => ?_) (fun hge => Tot.so ⟨hl, ?_⟩)
    · have e1 : (v : Int).toNat = v := Int.toNat_natCast v
      rw [e1, Nat.sub_zero, List.drop_zero, Nat.zero_add]
      have e2 : min (List.take v h).length (h.length - v) = min v (n - v) := by rw [List.length_take]; omega
      rw [e2]
      have e3 := qFu h v (min v (n - v)) (by omega) (by omega)
      rw [w64 (by omega) (by omega)]
      have e4 : (v : Int) + ((min v (n - v) : Nat) : Int) = ((v + min v (n - v) : Nat) : Int) := by omega
      rw [e4]
      refine Tot.g (by omega) (Tot.g (by omega) (Tot.g (by omega) (Tot.g (by omega) (ih _ _ (by omega) (by omega) (by omega) (by rw [e3.2, hl]) ?_))))
      rw [e3.1]
      intro y hy
      rcases List.mem_append.1 hy with q | q
      · exact ha y q
      · refine ha y ?_
        have : h.take (min v (n - v)) = (h.take v).take (min v (n - v)) := by rw [List.take_take, Nat.min_eq_left (Nat.min_le_left _ _)]
        rw [this] at q
        exact List.mem_of_mem_take q
    · rw [List.take_of_length_le (by omega)] at ha
      exact ha
theorem qVB (x : Int) (n : Nat) (hn : n ≤ 1048576) : ∀ (m : Nat) (v : Nat) (h : List Int), n - v ≤ m → 1 ≤ v → v ≤ n → h.length = n → (∀ y ∈ h.take v, y = x) → Tot (qub v h) fun r => r.length = n ∧ ∀ y ∈ r, y = x := by
  intro m
  induction m with
  | zero =>
    intro v h hm h1 h2 hl ha
    rw [qdd]
    simp only [Int.ofNat_eq_natCast]
    refine Tot.ifd_neg (by omega) (Tot.so ⟨hl, ?_⟩)
    rw [List.take_of_length_le (by omega)] at ha
    exact ha
  | succ m ih =>
    intro v h hm h1 h2 hl ha
    rw [qdd]
    simp only [Int.ofNat_eq_natCast]
    refine Tot.ifd (fun hlt => ?_) (fun hge => Tot.so ⟨hl, ?_⟩)
    · have e1 : (v : Int).toNat = v := Int.toNat_natCast v
      rw [e1, Nat.sub_zero, List.drop_zero, Nat.zero_add]
      have e2 : min (List.take v h).length (h.length - v) = min v (n - v) := by rw [List.length_take]; omega
      rw [e2]
      have e3 := qFu h v (min v (n - v)) (by omega) (by omega)
      rw [w64 (by omega) (by omega)]
      have e4 : (v : Int) + ((min v (n - v) : Nat) : Int) = ((v + min v (n - v) : Nat) : Int) := by omega
      rw [e4]
      refine Tot.g (by omega) (Tot.g (by omega) (Tot.g (by omega) (Tot.g (by omega) (ih _ _ (by omega) (by omega) (by omega) (by rw [e3.2, hl]) ?_))))
      rw [e3.1]
      intro y hy
      rcases List.mem_append.1 hy with q | q
      · exact ha y q
      · refine ha y ?_
        have : h.take (min v (n - v)) = (h.take v).take (min v (n - v)) := by rw [List.take_take, Nat.min_eq_left (Nat.min_le_left _ _)]
        rw [this] at q
        exact List.mem_of_mem_take q
    · rw [List.take_of_length_le (by omega)] at ha
      exact ha
theorem qXB (x : Int) {n : Nat} (hn : 1 ≤ n) : (qNb (List.replicate n 0) 0 (List.take (min [x].length (List.replicate n (0:Int)).length) [x])).length = n ∧ ∀ y ∈ (qNb (List.replicate n 0) 0 (List.take (min [x].length (List.replicate n (0:Int)).length) [x])).take 1, y = x := by
  have e : min [x].length (List.replicate n (0:Int)).length = 1 := by rw [List.length_replicate]; show min 1 n = 1; omega
  rw [e]
  have e3 : List.take 1 [x] = [x] := rfl
  rw [e3]
  constructor
  · unfold qNb
    simp
    omega
  · unfold qNb
    simp
theorem qnI (x : Int) (n : Nat) (hn : (n : Int) ∈ ([8, 64, 128, 193, 256, 512, 1024, 2048, 4096, 8192] : List Int)) : Tot (qge [x] n) fun r => r.length = n ∧ ∀ y ∈ r, y = x := by
  have hm := qCL n hn
  have hb : 8 ≤ n ∧ n ≤ 8192 := by
    simp only [List.mem_cons, List.not_mem_nil, or_false] at hn
    omega
  rw [qAk]
  have e1 : (Int.ofNat [x].length) = 1 := rfl
  rw [e1]
  refine Tot.ifd_neg (by omega) (Tot.be hm (Tot.ifd_neg (by simp only; omega) (Tot.ifd_neg (by simp only; omega) ?_)))
  simp only
  rw [w64 (x := (n : Int)) (by omega) (by omega), Int.toNat_natCast]
  have hr := qXB x (n := n) (by omega)
  refine Tot.g trivial (Tot.g (by omega) (Tot.g (by omega) (Tot.g (by omega) ?_)))
  have e : Int.ofNat (min [x].length (List.replicate n (0:Int)).length) = ((1 : Nat) : Int) := by rw [List.length_replicate]; show ((min 1 n : Nat) : Int) = 1; omega
  rw [e]
  exact qUB x n (by omega) _ 1 _ (Nat.le_refl _) (by omega) (by omega) hr.1 hr.2
theorem qWB (x : Int) (n : Nat) (hn : (n : Int) ∈ ([8, 64, 128, 193, 256, 512, 1024, 2048, 4096, 8192] : List Int)) : Tot (qKb [x] n) fun r => r.length = n ∧ ∀ y ∈ r, y = x := by
  have hm := qCL n hn
  have hb : 8 ≤ n ∧ n ≤ 8192 := by
    simp only [List.mem_cons, List.not_mem_nil, or_false] at hn
    omega
  rw [qYh]
  have e1 : (Int.ofNat [x].length) = 1 := rfl
  rw [e1]
  refine Tot.ifd_neg (by omega) (Tot.be hm (Tot.ifd_neg (by simp only; omega) (Tot.ifd_neg (by simp only; omega) ?_)))
  simp only
  rw [w64 (x := (n : Int)) (by omega) (by omega), Int.toNat_natCast]
  have hr := qXB x (n := n) (by omega)
  refine Tot.g trivial (Tot.g (by omega) (Tot.g (by omega) (Tot.g (by omega) ?_)))
  have e : Int.ofNat (min [x].length (List.replicate n (0:Int)).length) = ((1 : Nat) : Int) := by rw [List.length_replicate]; show ((min 1 n : Nat) : Int) = 1; omega
  rw [e]
  exact qVB x n (by omega) _ 1 _ (Nat.le_refl _) (by omega) (by omega) hr.1 hr.2
theorem qOL {l : Int} (h0 : 0 ≤ l) (h1 : l ≤ 7) : ∃ n : Nat, plR l = n ∧ (n : Int) ∈ ([8, 64, 128, 193, 256, 512, 1024, 2048, 4096, 8192] : List Int) := by
  rcases qsM h0 h1 with rfl | rfl | rfl | rfl | rfl | rfl | rfl | rfl
  · exact ⟨64, by decide⟩
  · exact ⟨128, by decide⟩
  · exact ⟨256, by decide⟩
  · exact ⟨512, by decide⟩
  · exact ⟨1024, by decide⟩
  · exact ⟨2048, by decide⟩
  · exact ⟨4096, by decide⟩
  · exact ⟨8192, by decide⟩
theorem qRG {l : Int} (h0 : 0 ≤ l) (h1 : l ≤ 7) : Tot (qRz l) fun r => r.2 = 0 ∧ qrd l r.1 ∧ r.1.2.2.1 = 0 := by
  have hp := qet h0 h1
  rw [qbv]
  refine Tot.ifd_neg (by omega) (Tot.ifd_neg (by omega) (Tot.be (qzq h0 h1) (Tot.g rfl (Tot.g (by omega) (Tot.g (by omega) (Tot.g (by omega) (Tot.so ⟨rfl, ⟨rfl, ⟨h0, h1⟩, ?_, ?_, Int.le_refl 0, by show (0:Int) ≤ 1073741824; decide, ?_⟩, rfl⟩)))))))
  · simp only [List.length_replicate]; omega
  · intro x hx; rw [List.eq_of_mem_replicate hx]; omega
  · intro x hx; exact List.eq_of_mem_replicate (List.mem_of_mem_drop hx)
theorem qJC {l : Int} (h0 : 0 ≤ l) (h1 : l ≤ 7) : Tot (qos l) fun r => qDn l r.1 := by
  obtain ⟨n, hn, hm⟩ := qOL h0 h1
  rw [qFA]
  refine Tot.ifd_neg (by omega) (Tot.ifd_neg (by omega) (Tot.be (qQm h0 h1) ?_))
  rw [hn]
  exact Tot.b (qnI (-1) n hm) (fun r hr => Tot.so ⟨rfl, ⟨h0, h1⟩, by simp only; rw [hr.1, hn], fun x hx => by rw [hr.2 x hx]; omega⟩)
theorem qYD {l : Int} (h0 : 0 ≤ l) (h1 : l ≤ 7) : Tot (qOu l) fun r => qJl l r.1 := by
  have hp := qsv h0 h1
  rw [qKB]
  refine Tot.ifd_neg (by omega) (Tot.ifd_neg (by omega) (Tot.be (qRs h0 h1) (Tot.g rfl (Tot.g (by omega) (Tot.g (by omega) (Tot.g (by omega) (Tot.so ⟨rfl, ⟨h0, h1⟩, ?_, ?_⟩)))))))
  · simp only [List.length_replicate]; omega
  · intro s hs; rw [List.eq_of_mem_replicate hs]; exact WfSlot.zero 0
theorem qzF : Tot (qlx 255) fun r => qOD r.1 := by
  rw [qHD, w32 (x := 255) (by decide) (by decide)]
  refine Tot.ifd_neg (by decide) (Tot.ifd_neg (by decide) (Tot.b (qWB 32768 193 (by decide)) (fun r hr => Tot.g rfl (Tot.g (by decide) (Tot.g (by decide) (Tot.g (by decide) (Tot.so ⟨rfl, ⟨hr.1, ?_⟩, List.length_replicate, ?_⟩)))))))
  · intro x hx; rw [hr.2 x hx]; omega
  · intro x hx; rw [List.eq_of_mem_replicate hx]; omega
theorem qgv (u u' : Unit) (h9 : List Int) (hr : qiu h9) (h11 : List (List Int)) : ∀ i : Int, 0 ≤ i → i ≤ 256 → ∀ h12 : List (List Int), h12.length = i.toNat → (∀ r ∈ h12, qiu r) → Tot (qdg 256 i u h9 u' h11 h12) fun r => qDr r.1 := by
  intro i
  refine qjc (P := fun i => 0 ≤ i → i ≤ 256 → ∀ h12 : List (List Int), h12.length = i.toNat → (∀ r ∈ h12, qiu r) → Tot (qdg 256 i u h9 u' h11 h12) fun r => qDr r.1) 256 ?_ ?_ i
  · intro i hi h0 h1 h12 hl ha
    rw [qRl]
    exact Tot.ifd_neg (by omega) (Tot.so ⟨by simp only; omega, ha⟩)
  · intro i hi ih h0 h1 h12 hl ha
    rw [qRl, w64 (x := i + 1) (by omega) (by omega)]
    exact Tot.ifd_pos (by omega) (Tot.be (qMa _ (by rw [hr.1]; decide)) (Tot.g (by rw [List.length_append, List.length_singleton]; omega) (ih (by omega) (by omega) _ (by rw [List.length_append, List.length_singleton]; omega) (qMh ha hr))))
theorem qhv (u : Unit) (h10 : List (List Int)) : ∀ i : Int, 0 ≤ i → i ≤ 33 → ∀ h9 : List Int, h9.length = i.toNat → (∀ x ∈ h9, 0 ≤ x ∧ x ≤ 65535) → Tot (qeg 256 i u h9 h10) fun r => qDr r.1 := by
  intro i
  refine qjc (P := fun i => 0 ≤ i → i ≤ 33 → ∀ h9 : List Int, h9.length = i.toNat → (∀ x ∈ h9, 0 ≤ x ∧ x ≤ 65535) → Tot (qeg 256 i u h9 h10) fun r => qDr r.1) 33 ?_ ?_ i
  · intro i hi h0 h1 h9 hl ha
    rw [qSl]
    exact Tot.ifd_neg (by omega) (qgv u () h9 ⟨by omega, ha⟩ h10 0 (by omega) (by omega) [] rfl (fun r hr => by cases hr))
  · intro i hi ih h0 h1 h9 hl ha
    rw [qSl, w32 (x := i + 1) (by omega) (by omega)]
    refine Tot.ifd_pos (by omega) (Tot.b (qIz _) (fun r hr => Tot.g (by rw [List.length_append, List.length_singleton]; omega) ?_))
    rw [w32 (x := 16 * r) (by omega) (by omega)]
    exact ih (by omega) (by omega) _ (by rw [List.length_append, List.length_singleton]; omega) (qMh ha ⟨by omega, by omega⟩)
theorem qct : Tot (qOn 256) fun r => qDr r.1 := by
  rw [qTz]
  exact Tot.ifd_neg (by decide) (Tot.ifd_neg (by decide) (qhv () [] 0 (by decide) (by decide) [] rfl (fun x hx => by cases hx)))
theorem qSE : Tot qBw qAB := by
  rw [qOC]
  exact Tot.b qct (fun r hr => Tot.b qct (fun q hq => Tot.so ⟨hr, hq⟩))
theorem qSx (u u' : Unit) (h10 : List (List Int)) : ∀ i : Int, 0 ≤ i → i ≤ 256 → ∀ h11 : List (List Int), h11.length = i.toNat → (∀ r ∈ h11, r.length = 8) → Tot (qqh 16384 256 i u u' h10 h11) fun r => qiq r.1 := by
  intro i
  refine qjc (P := fun i => 0 ≤ i → i ≤ 256 → ∀ h11 : List (List Int), h11.length = i.toNat → (∀ r ∈ h11, r.length = 8) → Tot (qqh 16384 256 i u u' h10 h11) fun r => qiq r.1) 256 ?_ ?_ i
  · intro i hi h0 h1 h11 hl ha
    rw [qym]
    exact Tot.ifd_neg (by omega) (Tot.so ⟨by simp only; omega, ha⟩)
  · intro i hi ih h0 h1 h11 hl ha
    rw [qym, w64 (x := i + 1) (by omega) (by omega), qGp]
    refine Tot.ifd_pos (by omega) (Tot.b (Tot.b (qWB 16384 8 (by decide)) (fun r hr => Tot.so hr)) (fun r hr => Tot.g (by rw [List.length_append, List.length_singleton]; omega) (ih (by omega) (by omega) _ (by rw [List.length_append, List.length_singleton]; omega) (qMh ha hr.1))))
theorem qyE : Tot (qNv 256 16384) fun r => qiq r.1 := by
  rw [qnC]
  exact Tot.ifd_neg (by decide) (Tot.ifd_neg (by decide) (qSx () () [] 0 (by decide) (by decide) [] rfl (fun x hx => by cases hx)))
theorem qcL {l : Int} (hl0 : 0 ≤ l) (hl1 : l ≤ 7) (b8a b8baa : Int) (b8babb : qka) (u1 u2 u3 u4 : Unit) (b8bbbbbbaa : Int) (u5 : Unit) (b8bbbbbbb : (qqb × (qka × ((List Int) × ((List Int) × Unit)))))
    (g : qla) (b : qBL) (hg : qrd l g ∧ g.2.2.1 = 0) (hb : qBG l b) (h11 : List Int) (h12 : List qja) (h13 : List qia) (h14 h15 h16 : List (List Int)) (h17 : List Int) : ∀ i : Int, 0 ≤ i → i ≤ 6 → ∀ (h18 : List qja) (h19 : List qia), (h18.length = i.toNat ∧ ∀ t ∈ h18, qJl l t) → (h19.length = i.toNat ∧ ∀ t ∈ h19, qOD t) →
    Tot (qbf l i b8a b8baa b8babb u1 u2 u3 u4 b8bbbbbbaa u5 b8bbbbbbb g l g b h11 h12 h13 h14 h15 h16 h17 h18 h19) (qoM l 0) := by
  intro i
  refine qjc (P := fun i => 0 ≤ i → i ≤ 6 → ∀ (h18 : List qja) (h19 : List qia), (h18.length = i.toNat ∧ ∀ t ∈ h18, qJl l t) → (h19.length = i.toNat ∧ ∀ t ∈ h19, qOD t) → Tot (qbf l i b8a b8baa b8babb u1 u2 u3 u4 b8bbbbbbaa u5 b8bbbbbbb g l g b h11 h12 h13 h14 h15 h16 h17 h18 h19) (qoM l 0)) 6 ?_ ?_ i
  · intro i hi h0 h1 h18 h19 t a
    rw [qEk]
    have e6 : i.toNat = 6 := by omega
    rw [e6] at t a
    obtain ⟨q, e, hq⟩ := qqt hg.1
    refine Tot.ifd_neg (by omega) (Tot.be e ?_)
    refine Tot.b (qdJ q.1 l g h19 (b.1, (b.2.1, (b.2.2.1, (b.2.2.2.1, (b.2.2.2.2.1, (q.1, b.2.2.2.2.2.2)))))) h18 t hb.2.2.2.2.2) (fun r12 k12 => Tot.so ⟨rfl, ?_⟩)
    exact qHA k12 ⟨hg.1, by rw [hg.2]; decide⟩ a ⟨hb.1, hb.2.1, hb.2.2.1, hb.2.2.2.1, hb.2.2.2.2.1⟩ (by rw [e]; exact congrArg some (Prod.ext rfl hq))
  · intro i hi ih h0 h1 h18 h19 t a
    rw [qEk, w64 (x := i + 1) (by omega) (by omega)]
    refine Tot.ifd_pos (by omega) (Tot.b (qYD hl0 hl1) (fun r7 k7 => Tot.b qzF (fun r8 k8 => Tot.g ?_ (Tot.g ?_ ?_))))
    · rw [List.length_append, List.length_singleton]; omega
    · rw [List.length_append, List.length_singleton]; omega
    · exact ih (by omega) (by omega) _ _ ⟨by rw [List.length_append, List.length_singleton]; omega, qMh t.2 k7⟩ ⟨by rw [List.length_append, List.length_singleton]; omega, qMh a.2 k8⟩
theorem qoN (l : Int) : Tot (qyp l) fun r => r.2 = 0 → WfP l 0 r.1 := by
  rw [qIx]
  by_cases hl : 0 ≤ l ∧ l ≤ 7
  · obtain ⟨hl0, hl1⟩ := hl
    refine Tot.b (qRG hl0 hl1) (fun r1 k1 => Tot.ifne_neg k1.1 (Tot.b qSE (fun r2 k2 => Tot.be qHm (Tot.be qOq (Tot.b (qJC hl0 hl1) (fun r5 k5 => Tot.b qyE (fun r6 k6 => ?_)))))))
    refine Tot.mono (qcL hl0 hl1 _ _ _ _ _ _ _ _ _ _ r1.1 (r6.1, (r2, (r5.1, ((-1, (0, ())), ((1, ()), ((List.replicate 6 0), ((List.replicate 6 0), ()))))))) k1.2 ⟨k6, k2, k5, Or.inl ⟨rfl, rfl⟩, ⟨Int.le_refl 1, by show (1:Int) ≤ 255; decide⟩, WfSl.zero ⟨hl0, hl1⟩⟩ _ _ _ _ _ _ _ 0 (by omega) (by omega) [] [] ⟨rfl, fun x hx => by cases hx⟩ ⟨rfl, fun x hx => by cases hx⟩) (fun r hr _ => hr.2)
  · refine Tot.b (P := fun r => r.2 ≠ 0) ?_ (fun r hr => Tot.ifne_pos hr (Tot.so (fun h => absurd h (by decide))))
    rw [qbv]
    by_cases h0 : l < 0
    · exact Tot.ifd_pos h0 (Tot.so (by decide))
    · exact Tot.ifd_neg h0 (Tot.ifd_pos (by omega) (Tot.so (by decide)))
end Go.Ab

/-
  Totality of the codec, 10: the encoder, and Encode.
-/
set_option linter.unusedVariables false
set_option linter.unusedSimpArgs false
set_option maxRecDepth 10000
namespace Go.Ab
open Go
attribute [local irreducible] IntKind.wrap
def WfEnc (e : qra) : Prop := (0 ≤ e.1 ∧ e.1 < 4294967296) ∧ (0 ≤ e.2.1 ∧ e.2.1 < 4294967296) ∧ Bts e.2.2.1
theorem qtK {y : Int} (h0 : 0 ≤ y) (h1 : y < 4294967296) (hm : y % 256 = 0) : qFb .u32 y 255 = y + 255 := by
  have e : qFb .u32 y 255 = ((BitVec.ofInt 32 y ||| BitVec.ofInt 32 255).toNat : Int) := by
    show IntKind.wrap .u32 ((BitVec.ofInt 32 y ||| BitVec.ofInt 32 255).toNat : Int) = _
    rw [qpx]
    have := (BitVec.ofInt 32 y ||| BitVec.ofInt 32 255).isLt
    omega
  rw [e, BitVec.toNat_or, qUc 32 y h0 (by omega), qUc 32 255 (by omega) (by omega)]
  have h2 : y.toNat = 2 ^ 8 * (y.toNat / 256) := by omega
  have h3 : (255 : Int).toNat = 255 := rfl
  rw [h3, h2, ← Nat.two_pow_add_eq_or_of_lt (by decide : 255 < 2 ^ 8)]
  omega
theorem qVm (e : qra) : Tot (qii e) fun r => r = 0 → (e.2.2.1.length : Int) ≤ 20000 := by
  rw [qXt]
  simp only [Int.ofNat_eq_natCast]
  exact Tot.ifd (fun _ => Tot.so (fun k => absurd k (by decide))) (fun _ => Tot.g (by decide) (Tot.g (by decide) (Tot.ifeq (fun _ => Tot.so (fun k => absurd k (by decide))) (fun _ => Tot.ifd (fun _ => Tot.so (fun k => absurd k (by decide))) (fun k => Tot.so (fun _ => by omega))))))
theorem qry (a : Int) : Tot (qwh a) fun _ => True := by
  rw [qUm]
  exact Tot.ifd (fun _ => Tot.so trivial) (fun _ => Tot.so trivial)
theorem qCw (a b c : Int) : Tot (qmg a b c) fun r => 0 ≤ r ∧ r < 4294967296 := by
  rw [qZl]
  exact Tot.g (by decide) (Tot.g (by decide) (Tot.so (qgL _)))
theorem qQF (u : Unit) : ∀ (k m : Nat), k + m = 4 → ∀ (a b : Int) (h : List Int), 0 ≤ a → a < 4294967296 → 0 ≤ b → b < 4294967296 → a % 256 ^ k = 0 → b % 256 ^ k = 256 ^ k - 1 → h.length ≤ 20001 + k → Bts h →
    Tot (qkd a b u h) WfEnc := by
  intro k m
  induction m generalizing k with
  | zero =>
    intro hk a b h a0 a1 b0 b1 ha hb hl hB
    have e : k = 4 := by omega
    subst e
    have e4 : (256:Int) ^ 4 = 4294967296 := by decide
    rw [e4] at ha hb
    have ea : a = 0 := by omega
    have eb : b = 4294967295 := by omega
    subst ea eb
    rw [qTh]
    exact Tot.g (by decide) (Tot.g (by decide) (Tot.ifeq_neg (by decide) (Tot.so ⟨⟨by simp only; omega, by simp only; omega⟩, ⟨by simp only; omega, by simp only; omega⟩, hB⟩)))
  | succ m ih =>
    intro hk a b h a0 a1 b0 b1 ha hb hl hB
    have wa : IntKind.wrap .u32 (a * 256) = a * 256 % 4294967296 := qpx _
    have wb : IntKind.wrap .u32 (b * 256) = b * 256 % 4294967296 := qpx _
    have ho : qFb .u32 (b * 256 % 4294967296) 255 = b * 256 % 4294967296 + 255 := qtK (by omega) (by omega) (by omega)
    rw [qTh, wa, wb, ho]
    refine Tot.g (by decide) (Tot.g (by decide) (Tot.ifeq (fun _ => ?_) (fun _ => Tot.so ⟨⟨a0, a1⟩, ⟨b0, b1⟩, hB⟩)))
    refine Tot.g (by decide) (Tot.g (by rw [List.length_append, List.length_singleton]; omega) (Tot.g (by decide) (Tot.g (by decide) ?_)))
    refine ih (k + 1) (by omega) _ _ _ (by omega) (by omega) (by omega) (by omega) ?_ ?_ (by rw [List.length_append, List.length_singleton]; omega) (Bts.append hB (Bts.cons (qut _) Bts.nil))
    · have h4 : k = 0 ∨ k = 1 ∨ k = 2 ∨ k = 3 := by omega
      rcases h4 with rfl | rfl | rfl | rfl
      · have e1 : (256:Int) ^ (0 + 1) = 256 := by decide
        rw [e1]; omega
      · have e0 : (256:Int) ^ 1 = 256 := by decide
        have e1 : (256:Int) ^ (1 + 1) = 65536 := by decide
        rw [e0] at ha; rw [e1]; omega
      · have e0 : (256:Int) ^ 2 = 65536 := by decide
        have e1 : (256:Int) ^ (2 + 1) = 16777216 := by decide
        rw [e0] at ha; rw [e1]; omega
      · have e0 : (256:Int) ^ 3 = 16777216 := by decide
        have e1 : (256:Int) ^ (3 + 1) = 4294967296 := by decide
        rw [e0] at ha; rw [e1]; omega
    · have h4 : k = 0 ∨ k = 1 ∨ k = 2 ∨ k = 3 := by omega
      rcases h4 with rfl | rfl | rfl | rfl
      · have e1 : (256:Int) ^ (0 + 1) = 256 := by decide
        rw [e1]; omega
      · have e0 : (256:Int) ^ 1 = 256 := by decide
        have e1 : (256:Int) ^ (1 + 1) = 65536 := by decide
        rw [e0] at hb; rw [e1]; omega
      · have e0 : (256:Int) ^ 2 = 65536 := by decide
        have e1 : (256:Int) ^ (2 + 1) = 16777216 := by decide
        rw [e0] at hb; rw [e1]; omega
      · have e0 : (256:Int) ^ 3 = 16777216 := by decide
        have e1 : (256:Int) ^ (3 + 1) = 4294967296 := by decide
        rw [e0] at hb; rw [e1]; omega
theorem qmK (p : Int) (t : Bool) (a b : Int) (u : Unit) (h : List Int) (a0 : 0 ≤ a) (a1 : a < 4294967296) (b0 : 0 ≤ b) (b1 : b < 4294967296) (hl : h.length ≤ 20000) (hB : Bts h) : Tot (qmk p t a b u h) WfEnc := by
  rw [qus]
  have p0 : (256:Int) ^ 0 = 1 := by decide
  refine Tot.b (qCw a b p) (fun r hr => Tot.it (fun _ => ?_) (fun _ => ?_))
  · refine Tot.g (by decide) (Tot.g (by decide) (Tot.ifeq (fun _ => ?_) (fun _ => Tot.so ⟨⟨a0, a1⟩, hr, hB⟩)))
    have wa : IntKind.wrap .u32 (a * 256) = a * 256 % 4294967296 := qpx _
    have wb : IntKind.wrap .u32 (r * 256) = r * 256 % 4294967296 := qpx _
    have ho : qFb .u32 (r * 256 % 4294967296) 255 = r * 256 % 4294967296 + 255 := qtK (by omega) (by omega) (by omega)
    rw [wa, wb, ho]
    refine Tot.g (by decide) (Tot.g (by rw [List.length_append, List.length_singleton]; omega) (Tot.g (by decide) (Tot.g (by decide) ?_)))
    refine qQF u 0 4 rfl _ _ _ (by omega) (by omega) (by omega) (by omega) ?_ ?_ (by rw [List.length_append, List.length_singleton]; omega) (Bts.append hB (Bts.cons (qut _) Bts.nil))
    · rw [p0]; omega
    · rw [p0]; omega
  · have hq := qgL (r + 1)
    generalize IntKind.wrap .u32 (r + 1) = q at *
    refine Tot.g (by decide) (Tot.g (by decide) (Tot.ifeq (fun _ => ?_) (fun _ => Tot.so ⟨hq, ⟨b0, b1⟩, hB⟩)))
    have wa : IntKind.wrap .u32 (q * 256) = q * 256 % 4294967296 := qpx _
    have wb : IntKind.wrap .u32 (b * 256) = b * 256 % 4294967296 := qpx _
    have ho : qFb .u32 (b * 256 % 4294967296) 255 = b * 256 % 4294967296 + 255 := qtK (by omega) (by omega) (by omega)
    rw [wa, wb, ho]
    refine Tot.g (by decide) (Tot.g (by rw [List.length_append, List.length_singleton]; omega) (Tot.g (by decide) (Tot.g (by decide) ?_)))
    refine qQF u 0 4 rfl _ _ _ (by omega) (by omega) (by omega) (by omega) ?_ ?_ (by rw [List.length_append, List.length_singleton]; omega) (Bts.append hB (Bts.cons (qut _) Bts.nil))
    · rw [p0]; omega
    · rw [p0]; omega
theorem WfEnc.zero : WfEnc (0, (0, ([], ()))) := ⟨⟨by decide, by decide⟩, ⟨by decide, by decide⟩, Bts.nil⟩
theorem qRA {e : qra} (h : WfEnc e) (p : Int) (t : Bool) : Tot (qRp e p t) fun r => WfEnc r.1 := by
  rw [qty]
  refine Tot.b (qVm e) (fun c hc => Tot.ifne (fun _ => Tot.so WfEnc.zero) (fun k => Tot.b (qry p) (fun z _ => Tot.ifn (fun _ => Tot.so WfEnc.zero) (fun _ => ?_))))
  have hl := hc k
  refine Tot.be (qrb _ (by omega)) (Tot.b (qmK p t _ _ _ _ h.1.1 h.1.2 h.2.1.1 h.2.1.2 (by omega) h.2.2) (fun r hr => Tot.ifd (fun _ => Tot.so WfEnc.zero) (fun _ => Tot.so hr)))
theorem qUA {e : qra} (h : WfEnc e) : Tot (qSp e) fun r => Bts r.1 ∧ (r.2 = 0 → 4 ≤ r.1.length ∧ r.1.length ≤ 20000) := by
  rw [qvy]
  simp only [Int.ofNat_eq_natCast]
  refine Tot.b (qVm e) (fun c hc => Tot.ifne (fun k => Tot.so ⟨Bts.nil, fun q => absurd q k⟩) (fun k => Tot.ifd (fun _ => Tot.so ⟨Bts.nil, fun q => absurd q (by decide)⟩) (fun k2 => ?_)))
  refine Tot.b (P := fun r => Bts r ∧ 4 ≤ r.length ∧ r.length ≤ 20000) ?_ (fun r hr => Tot.so ⟨hr.1, fun _ => hr.2⟩)
  rw [qsy]
  have hL : ∀ a b c d : Int, (e.2.2.1 ++ [a, b, c, d]).length = e.2.2.1.length + 4 := fun a b c d => by rw [List.length_append]; rfl
  refine Tot.be (qrb _ (by omega)) (Tot.g (by decide) (Tot.g (by decide) (Tot.g (by decide) (Tot.g (by rw [hL]; omega) (Tot.so ⟨?_, by rw [hL]; omega, by rw [hL]; omega⟩)))))
  exact Bts.append h.2.2 (Bts.cons (qut _) (Bts.cons (qut _) (Bts.cons (qut _) (Bts.cons (qut _) Bts.nil))))
theorem qHH (a : Int) (t : Bool) (e : Int) {c : qra} (h : WfEnc c) : Tot (qqk a t e c) fun r => WfEnc r.2 := by
  rw [qCs]
  exact Tot.it (fun _ => Tot.b (qRA h a t) (fun r hr => Tot.so hr)) (fun _ => Tot.so h)
theorem qfF (v : List Bool) (hv : v.length ≤ 2000) (b0 b8 : qca) (h9 : List Int) (hl : h9.length = v.length) : ∀ i : Int, 0 ≤ i → ∀ (e : Int) (c : qra), WfEnc c →
    Tot (qwe v v.length i b0 v e c b8 h9) fun r => r.1 = b8 ∧ r.2.1 = [] ∧ WfEnc r.2.2.2.2 := by
  intro i
  refine qjc (P := fun i => 0 ≤ i → ∀ (e : Int) (c : qra), WfEnc c → Tot (qwe v v.length i b0 v e c b8 h9) fun r => r.1 = b8 ∧ r.2.1 = [] ∧ WfEnc r.2.2.2.2) v.length ?_ ?_ i
  · intro i hi h0 e c hc
    rw [qJj]
    exact Tot.ifd_neg (by omega) (Tot.so ⟨rfl, rfl, hc⟩)
  · intro i hi ih h0 e c hc
    rw [qJj]
    simp only [Int.ofNat_eq_natCast]
    rw [w64 (x := i + 1) (by omega) (by omega)]
    exact Tot.ifd_pos (by omega) (Tot.g h0 (Tot.g (by omega) (Tot.g h0 (Tot.g (by omega) (Tot.b (qHH _ _ e hc) (fun r hr => ih (by omega) _ _ hr))))))
theorem qvG {l N : Int} {p : qca} (h : WfP l N p) (v : List Bool) (hv : v.length ≤ 2000) (hN : N + v.length < 1073741824) (e : Int) {c : qra} (hc : WfEnc c) :
    Tot (qEf p v e c) fun r => WfP l (N + v.length) r.1 ∧ r.2.1 = [] ∧ WfEnc r.2.2.2.2 := by
  rw [qYw]
  refine Tot.b (qRN h v hv hN) (fun r hr => ?_)
  exact Tot.mono (qfF v hv p r.1 r.2.1 hr.2.2 0 (by omega) e c hc) (fun q hq => ⟨by rw [hq.1]; exact hr.2.1, hq.2⟩)
def WfS (l M : Int) (s : qFj) : Prop := (∃ N, WfP l N s.1 ∧ 0 ≤ N ∧ N + s.2.1.length ≤ M) ∧ s.2.1.length < 2000 ∧ WfEnc s.2.2.2
theorem qbF {l M : Int} {s : qFj} (h : WfS l M s) (hM : M < 1073741000) (b : Bool) : Tot (qng s b) (WfS l (M + 1)) := by
  obtain ⟨⟨N, h1, h2, h3⟩, h4, h5⟩ := h
  unfold qng
  have hL : (s.2.1 ++ [b]).length = s.2.1.length + 1 := by rw [List.length_append, List.length_singleton]
  refine Tot.g (by rw [hL]; omega) (Tot.ifeq (fun k => ?_) (fun k => ?_))
  · refine Tot.b (qvG h1 (s.2.1 ++ [b]) (by rw [hL]; omega) (by rw [hL]; omega) s.2.2.1 h5) (fun r hr => Tot.so ⟨⟨N + ((s.2.1 ++ [b]).length : Int), hr.1, by omega, ?_⟩, ?_, hr.2.2⟩)
    · simp only; rw [hr.2.1, hL]; simp only [List.length_nil]; omega
    · simp only; rw [hr.2.1]; decide
  · refine Tot.so ⟨⟨N, h1, h2, ?_⟩, ?_, h5⟩
    · simp only; rw [hL]; omega
    · simp only; rw [hL]
      have e : Int.ofNat (s.2.1 ++ [b]).length = ((s.2.1 ++ [b]).length : Int) := rfl
      rw [e, hL] at k
      omega
theorem qvs {l : Int} : ∀ (v : List Bool) (M : Int) (s : qFj), WfS l M s → M + v.length < 1073741000 → Tot (qdh v s) (WfS l (M + v.length))
  | [], M, s, h, hM => Tot.so (by simpa using h)
  | b :: v, M, s, h, hM => by
    unfold qdh
    simp only [List.length_cons] at *
    refine Tot.b (qbF h (by omega) b) (fun t ht => Tot.mono (qvs v (M + 1) t ht (by omega)) (fun r hr => ?_))
    have e : M + 1 + (v.length : Int) = M + ((v.length + 1 : Nat) : Int) := by omega
    rw [e] at hr
    exact hr
theorem qoD {l : Int} {p : qca} (h : WfP l 0 p) (b : List Int) (hb : b.length ≤ 4096) (e : Int) {c : qra} (hc : WfEnc c) : Tot (qqi p b e c) fun r => WfEnc r.2 := by
  have h0 : WfS l 0 (p, [], e, c) := ⟨⟨0, h, Int.le_refl 0, by show (0:Int) + 0 ≤ 0; decide⟩, by show 0 < 2000; decide, hc⟩
  unfold qqi
  refine Tot.g (by omega) (Tot.g (fun l' hl' => ?_) ?_)
  · obtain ⟨r, e1, _⟩ := qvs l' 0 (p, [], e, c) h0 (by omega)
    rw [e1]; rfl
  · have hL := qfx b
    refine Tot.b (qvs (qfu b) 0 (p, [], e, c) h0 (by omega)) (fun s hs => ?_)
    obtain ⟨⟨N, h1, h2, h3⟩, h4, h5⟩ := hs
    exact Tot.b (qvG h1 s.2.1 (by omega) (by omega) s.2.2.1 h5) (fun r hr => Tot.so hr.2.2)
theorem qKy (l : Int) (b : List Int) : Tot (qdn l b) fun r => Bts r.1 ∧ (r.2 = 0 → 4 ≤ r.1.length ∧ r.1.length ≤ 20000) := by
  rw [qZw]
  simp only [Int.ofNat_eq_natCast]
  refine Tot.b (P := fun r => r.2 = 0 → WfP l 0 r.1 ∧ b.length ≤ 4096) ?_ (fun r hr => Tot.ifne (fun k => Tot.so ⟨Bts.nil, fun q => absurd q k⟩) (fun k => ?_))
  · rw [qgp]
    refine Tot.b (qoN l) (fun r hr => Tot.ifeq (fun k => Tot.ifd (fun _ => Tot.so (fun q => absurd q (by show ¬((4:Int) = 0); decide))) (fun k2 => Tot.so (fun _ => ⟨hr k, by omega⟩))) (fun k => Tot.so (fun q => absurd q k)))
  · have hp := hr k
    refine Tot.be quy (Tot.b (qoD hp.1 b hp.2 _ ⟨⟨by decide, by decide⟩, ⟨by decide, by decide⟩, Bts.nil⟩) (fun q hq => Tot.ifne (fun _ => Tot.so ⟨Bts.nil, fun q => absurd q (by decide)⟩) (fun _ => Tot.b (qUA hq) (fun t ht => Tot.so ht))))
end Go.Ab

set_option linter.unusedVariables false
set_option linter.unusedSimpArgs false
set_option maxHeartbeats 1000000
namespace Go.Ab
def U32 (x : Int) : Prop := 0 ≤ x ∧ x < 4294967296
theorem qtB (v : BitVec 32) : IntKind.wrap .u32 (v.toNat : Int) = v.toNat := by
  have := v.isLt
  rw [qpx]; omega
theorem qgN (v : BitVec 32) : BitVec.ofInt 32 (v.toNat : Int) = v := by
  apply BitVec.eq_of_toNat_eq
  rw [BitVec.toNat_ofInt]
  have := v.isLt
  omega
theorem bX (x y : Int) : qNa .u32 x y = ((BitVec.ofInt 32 x ^^^ BitVec.ofInt 32 y).toNat : Int) := qtB _
theorem bO (x y : Int) : qFb .u32 x y = ((BitVec.ofInt 32 x ||| BitVec.ofInt 32 y).toNat : Int) := qtB _
theorem bA (x y : Int) : qDa .u32 x y = ((BitVec.ofInt 32 x &&& BitVec.ofInt 32 y).toNat : Int) := qtB _
theorem w_u (x : Int) : U32 (IntKind.wrap .u32 x) := by rw [qpx]; unfold U32; omega
theorem qLN (b c d : Int) : qNa .u32 d (qDa .u32 b (qNa .u32 c d)) = qFb .u32 (qDa .u32 b c) (qDa .u32 (qNa .u32 4294967295 b) d) := by
  simp only [bX, bO, bA, qgN]
  congr 2
  have h1 : BitVec.ofInt 32 4294967295 = BitVec.allOnes 32 := by decide
  rw [h1]
  ext i hi
  simp only [BitVec.getElem_xor, BitVec.getElem_and, BitVec.getElem_or, BitVec.getElem_allOnes]
  cases (BitVec.ofInt 32 b)[i] <;> cases (BitVec.ofInt 32 c)[i] <;> cases (BitVec.ofInt 32 d)[i] <;> rfl
theorem qNM (b c d : Int) : qFb .u32 (qDa .u32 b c) (qDa .u32 d (qFb .u32 b c)) = qFb .u32 (qFb .u32 (qDa .u32 b c) (qDa .u32 b d)) (qDa .u32 c d) := by
  simp only [bX, bO, bA, qgN]
  congr 2
  ext i hi
  simp only [BitVec.getElem_xor, BitVec.getElem_and, BitVec.getElem_or]
  cases (BitVec.ofInt 32 b)[i] <;> cases (BitVec.ofInt 32 c)[i] <;> cases (BitVec.ofInt 32 d)[i] <;> rfl
def rot (a : Int) (s : Int) : Int := qFb .u32 (IntKind.wrap .u32 (qMr .u32 a s)) (qjh .u32 a (32 - s))
theorem qRL {x b : Int} (hx : U32 x) (hb : 0 ≤ b ∧ b < 256) : qFb .u32 (IntKind.wrap .u32 (x * 256)) (IntKind.wrap .u32 b) = IntKind.wrap .u32 (IntKind.wrap .u32 (x * 256) + IntKind.wrap .u32 b) := by
  rw [bO]
  simp only [qpx]
  have h1 : b % 4294967296 = b := by omega
  rw [h1]
  obtain ⟨n, rfl⟩ := Int.eq_ofNat_of_zero_le hb.1
  obtain ⟨q, hq⟩ : ∃ q : Nat, (x * 256) % 4294967296 = ((2 ^ 8 * q : Nat) : Int) ∧ 2 ^ 8 * q < 4294967296 := by
    refine ⟨(x % 16777216).toNat, ?_, ?_⟩ <;> simp <;> omega
  have hn : n < 2 ^ 8 := by omega
  rw [hq.1]
  have e : ∀ m : Nat, m < 4294967296 → (BitVec.ofInt 32 (m : Int)).toNat = m := fun m hm => by
    rw [BitVec.toNat_ofInt]; omega
  rw [BitVec.toNat_or, e _ hq.2, e n (by omega), ← Nat.two_pow_add_eq_or_of_lt hn]
  have := hq.2
  omega
attribute [local irreducible] IntKind.wrap
theorem qav (a : Int) : qQa a 1 = some (rot a 1) ∧ qQa a 5 = some (rot a 5) ∧ qQa a 30 = some (rot a 30) := by
  have h1 : qDa .u64 (IntKind.wrap .u64 1) 31 = 1 := by kernel_rfl
  have h5 : qDa .u64 (IntKind.wrap .u64 5) 31 = 5 := by kernel_rfl
  have h30 : qDa .u64 (IntKind.wrap .u64 30) 31 = 30 := by kernel_rfl
  have w1 : IntKind.wrap .u64 ((32 : Int) - 1) = 32 - 1 := by kernel_rfl
  have w5 : IntKind.wrap .u64 ((32 : Int) - 5) = 32 - 5 := by kernel_rfl
  have w30 : IntKind.wrap .u64 ((32 : Int) - 30) = 32 - 30 := by kernel_rfl
  refine ⟨?_, ?_, ?_⟩ <;> rw [qek]
  · rw [h1, w1, qga (by omega), qga (by omega)]; rfl
  · rw [h5, w5, qga (by omega), qga (by omega)]; rfl
  · rw [h30, w30, qga (by omega), qga (by omega)]; rfl
theorem qBu (a s : Int) (h : 0 ≤ s ∧ s ≤ 32) : qpd a s = some (rot a s) := by
  rw [qto, w64 (by omega) (by omega), qga (by omega), qga (by omega)]; rfl
end Go.Ab

set_option linter.unusedVariables false
set_option linter.unusedSimpArgs false
set_option maxHeartbeats 1000000
namespace Go.Ab
attribute [local irreducible] IntKind.wrap
def qON (n : Int) : Int := IntKind.wrap .u64 (IntKind.wrap .u64 n * 8)
def qvt (n : Int) : Nat → List Int
  | 0 => []
  | k + 1 => IntKind.wrap .u8 (qjh .u64 (qON n) (8 * (k : Int))) :: qvt n k
def qWF (n : Int) : List Int := [128] ++ List.replicate ((119 - n % 64) % 64).toNat 0 ++ qvt n 8
theorem qEB (n : Int) : ∀ k, (qvt n k).length = k
  | 0 => rfl
  | k + 1 => by simp [qvt, qEB n k]
theorem qYN (x : Int) : 0 ≤ IntKind.wrap .u8 x ∧ IntKind.wrap .u8 x < 256 := by rw [wu8]; omega
theorem qFB (n : Int) : ∀ k, Bts (qvt n k)
  | 0 => Bts.nil
  | k + 1 => Bts.cons (qYN _) (qFB n k)
theorem qpK (n : Int) : Bts (qWF n) := by
  refine Bts.append (Bts.append (Bts.cons (by omega) Bts.nil) (fun x hx => ?_)) (qFB n 8)
  have := (List.mem_replicate.1 hx).2; omega
theorem qVF (n : Int) (h : 0 ≤ n) : ((n + (qWF n).length) % 64 = 0 ∧ (qWF n).length ≤ 72) := by
  simp only [qWF, List.length_append, List.length_cons, List.length_nil, List.length_replicate, qEB]
  omega
theorem qlm (n : Int) : ∀ (k : Nat) (h : List Int), k ≤ 8 → h.length + k ≤ 1000 → qJn n (8 * (k : Int) - 8) h = some (h ++ qvt n k)
  | 0, h, hk, hl => by
    rw [qrq, if_neg (by simp)]
    simp [qvt]
  | k + 1, h, hk, hl => by
    have e : 8 * ((k + 1 : Nat) : Int) - 8 = 8 * (k : Int) := by omega
    rw [e, qrq, if_pos (by simp; omega), qga (by omega), qga (by simp; omega), w64 (by omega) (by omega), qlm n k _ (by omega) (by simp; omega)]
    simp [qvt, qON]
theorem qPB (n : Int) (h : 0 ≤ n) : qcE n = some (qWF n) := by
  rw [qJG, qga (by omega), qga (by omega), qRe h, w64 (by omega) (by omega), qRe (by omega), qga (by omega), qga (by omega), qga (by omega), qga (by simp; omega)]
  have := qlm n 8 ([128] ++ List.replicate ((119 - n % 64) % 64).toNat 0) (by omega) (by simp; omega)
  exact this
theorem qwv (n : Int) : ∀ (k : Nat) (h : List Int), k ≤ 8 → h.length + k ≤ 1000 → qhc n ((k : Int) - 1) h = some (h ++ qvt n k)
  | 0, h, hk, hl => by
    rw [qPe, if_neg (by simp)]
    simp [qvt]
  | k + 1, h, hk, hl => by
    have e : ((k + 1 : Nat) : Int) - 1 = (k : Int) := by omega
    rw [e, qPe, if_pos (by simp), w64 (x := 8 * (k : Int)) (by omega) (by omega), qga (by omega), qga (by simp; omega), w64 (x := (k : Int) - 1) (by omega) (by omega), qwv n k _ (by omega) (by simp; omega)]
    have e2 : (8 : Int) * IntKind.wrap .u64 n = IntKind.wrap .u64 n * 8 := Int.mul_comm _ _
    simp [qvt, qON, e2]
theorem qxv (n : Int) (hn : 0 ≤ n ∧ n ≤ 1000000000) : ∀ (j : Nat) (h : List Int), j < 64 → h.length + j ≤ 200 → (n + h.length + 8 + j) % 64 = 0 → qic n h = some (h ++ List.replicate j 0 ++ qvt n 8)
  | 0, h, hj, hl, hm => by
    rw [qQe, qga (by omega)]
    have hl' : Int.ofNat h.length = (h.length : Int) := rfl
    rw [hl', w64 (x := n + (h.length : Int)) (by omega) (by omega), w64 (by omega) (by omega), qRe (by omega), if_neg (by simp; omega)]
    have := qwv n 8 h (by omega) (by omega)
    simpa using this
  | j + 1, h, hj, hl, hm => by
    rw [qQe, qga (by omega)]
    have hl' : Int.ofNat h.length = (h.length : Int) := rfl
    rw [hl', w64 (x := n + (h.length : Int)) (by omega) (by omega), w64 (by omega) (by omega), qRe (by omega), if_pos (by simp; omega), qga (by simp; omega), qxv n hn j (h ++ [0]) (by omega) (by simp; omega) (by simp; omega)]
    simp [List.replicate_succ]
theorem qjC (n : Int) (hn : 0 ≤ n ∧ n ≤ 1000000000) : qWe n = some (qWF n) := by
  rw [qFl, qxv n hn ((119 - n % 64) % 64).toNat [128] (by omega) (by simp; omega) (by simp; omega)]
  rfl
theorem qyH (a b : List Int) (h : a.length + b.length ≤ 1000000) : qzd [a, b] = some (a ++ b) := by
  have ha : Int.ofNat a.length = (a.length : Int) := rfl
  have hb : Int.ofNat b.length = (b.length : Int) := rfl
  rw [qXi]
  rw [qVb, if_pos (by simp), qga (by omega), qga (by simp)]
  simp only [List.getD_cons_zero, Int.toNat_zero, ha]
  rw [w64 (x := 0 + (a.length : Int)) (by omega) (by omega), if_neg (by simp), w64 (x := 0 + 1) (by omega) (by omega)]
  rw [qVb, if_pos (by simp), qga (by omega), qga (by simp)]
  simp only [show (0 + 1 : Int).toNat = 1 from rfl, List.getD_cons_succ, List.getD_cons_zero, hb]
  rw [w64 (x := 0 + (a.length : Int) + (b.length : Int)) (by omega) (by omega), if_neg (by simp <;> omega), w64 (x := 0 + 1 + 1) (by omega) (by omega)]
  rw [qVb, if_neg (by simp)]
  have hg : ∃ r, qje (0 + (a.length : Int) + (b.length : Int)) = some (r, 0, 0) := by
    rw [qBk, if_neg (by simp; omega), w64 (by omega) (by omega)]
    by_cases hz : (0 + (a.length : Int) + (b.length : Int)) - 0 > 0
    · rw [if_pos (by simpa using hz), qga (by omega), qga (by omega), qga (by omega), qga (by omega), qga (by omega), qga (by simp; omega), qga (by omega), qga (by simp; omega)]
      exact ⟨_, rfl⟩
    · rw [if_neg (by simpa using hz)]; exact ⟨_, rfl⟩
  obtain ⟨r, hr⟩ := hg
  rw [hr]
  simp only [Option.bind_some]
  rw [qJh, if_pos (by simp), qga (by omega), qga (by simp), qga (by simp; omega), w64 (by omega) (by omega)]
  simp only [List.getD_cons_zero, Int.toNat_zero, List.take_zero, List.nil_append]
  rw [qDd, if_pos (by simp), qga (by omega), qga (by simp), qga (by simp; omega), w64 (by omega) (by omega)]
  rw [qDd, if_neg (by simp)]
  rfl
end Go.Ab

set_option linter.unusedVariables false
set_option linter.unusedSimpArgs false
set_option maxHeartbeats 1000000
namespace Go.Ab
attribute [local irreducible] IntKind.wrap
def bt (x b : Int) : Int := IntKind.wrap .u32 (IntKind.wrap .u32 (x * 256) + IntKind.wrap .u32 b)
theorem qMN (x b : Int) : U32 (bt x b) := w_u _
def qEL (b : List Int) (t : Nat) : Int := bt (bt (bt (IntKind.wrap .u32 (b.getD (4 * t) 0)) (b.getD (4 * t + 1) 0)) (b.getD (4 * t + 2) 0)) (b.getD (4 * t + 3) 0)
def qMl (b : List Int) (t : Nat) : Nat → List Int
  | 0 => []
  | k + 1 => qEL b t :: qMl b (t + 1) k
theorem qwf (b : List Int) : ∀ (k t : Nat), (qMl b t k).length = k
  | 0, t => rfl
  | k + 1, t => by simp [qMl, qwf b k]
theorem quJ (b : List Int) (hb : b.length = 64) (x y : List Int) : ∀ (k t : Nat) (h : List Int), t + k = 16 → h.length = t → qbd b (t : Int) x y h = qdc 16 x y (h ++ qMl b t k)
  | 0, t, h, e, hl => by
    rw [qFg, if_neg (by simp; omega)]
    simp [qMl]
  | k + 1, t, h, e, hl => by
    have hb' : Int.ofNat b.length = 64 := by rw [hb]; rfl
    have e0 : ((4 : Int) * (t : Int)).toNat = 4 * t := by omega
    have e1 : ((4 : Int) * (t : Int) + 1).toNat = 4 * t + 1 := by omega
    have e2 : ((4 : Int) * (t : Int) + 2).toNat = 4 * t + 2 := by omega
    have e3 : ((4 : Int) * (t : Int) + 3).toNat = 4 * t + 3 := by omega
    rw [qFg, if_pos (by simp; omega), hb']
    simp only [w64 (x := 4 * (t : Int)) (by omega) (by omega), w64 (x := 4 * (t : Int) + 1) (by omega) (by omega), w64 (x := 4 * (t : Int) + 2) (by omega) (by omega), w64 (x := 4 * (t : Int) + 3) (by omega) (by omega), w64 (x := (t : Int) + 1) (by omega) (by omega), e0, e1, e2, e3]
    rw [qga (by omega), qga (by omega), qga (by omega), qga (by omega), qga (by omega), qga (by omega), qga (by omega), qga (by omega), qga (by simp; omega)]
    have ih := quJ b hb x y k (t + 1) (h ++ [qEL b t]) (by omega) (by simp; omega)
    have ec : ((t + 1 : Nat) : Int) = (t : Int) + 1 := by omega
    rw [ec] at ih
    simp only [List.append_assoc, List.singleton_append] at ih
    exact ih
theorem qop (W : List Int) (x v : Int) (R : List Int) : (W ++ x :: R).set W.length v = W ++ v :: R := by
  induction W with
  | nil => rfl
  | cons a W ih => simp [ih]
theorem qWI (W : List Int) (x : Int) (R : List Int) : (W ++ x :: R).getD W.length 0 = x := by
  induction W with
  | nil => rfl
  | cons a W ih => simp
theorem qrF {b : List Int} (h : Bts b) (i : Nat) : 0 ≤ b.getD i 0 ∧ b.getD i 0 < 256 := by
  rw [List.getD_eq_getElem?_getD]
  cases hi : b[i]? with
  | none => simp
  | some x => exact h x (List.mem_of_getElem? hi)
theorem qdB (b : List Int) (hb : b.length = 64) (hB : Bts b) (x y W R : List Int) (i t : Nat) (v : Int) (hv : U32 v) (hi : i < 64) (ht : i / 4 = t) (hW : W.length = t) :
    qwi b 64 (i : Int) x y (W ++ v :: R) = qwi b 64 ((i : Int) + 1) x y (W ++ bt v (b.getD i 0) :: R) := by
  have hb' : Int.ofNat b.length = 64 := by rw [hb]; rfl
  have e : (IntKind.wrap .i64 (Int.tdiv (i : Int) 4)) = (t : Int) := by
    rw [qUj (by omega), w64 (by omega) (by omega)]; omega
  rw [qUs, if_pos (by simp; omega), hb', e]
  rw [qga (by omega), qga (by omega), qga (by omega), qga (by omega), qga (by omega), qga (by omega), qga (by omega), qga (by omega), qga (by omega)]
  have et : ((t : Int)).toNat = W.length := by omega
  have ei : ((i : Int)).toNat = i := by omega
  rw [et, ei, qWI, qop, qRL hv (qrF hB i), w64 (x := (i : Int) + 1) (by omega) (by omega)]
  rfl
theorem qdN (b : List Int) (hb : b.length = 64) (hB : Bts b) (x y : List Int) : ∀ (k t : Nat) (W : List Int), t + k = 16 → W.length = t →
    qwi b 64 (4 * (t : Int)) x y (W ++ List.replicate k 0) = qwi b 64 64 x y (W ++ qMl b t k)
  | 0, t, W, e, hl => by
    have : 4 * (t : Int) = 64 := by omega
    rw [this]; rfl
  | k + 1, t, W, e, hl => by
    have c : ∀ j : Nat, ((4 * t + j : Nat) : Int) = 4 * (t : Int) + (j : Int) := fun j => by omega
    have s0 := qdB b hb hB x y W (List.replicate k 0) (4 * t) t 0 (by unfold U32; omega) (by omega) (by omega) hl
    have s1 := qdB b hb hB x y W (List.replicate k 0) (4 * t + 1) t (bt 0 (b.getD (4 * t) 0)) (qMN _ _) (by omega) (by omega) hl
    have s2 := qdB b hb hB x y W (List.replicate k 0) (4 * t + 2) t (bt (bt 0 (b.getD (4 * t) 0)) (b.getD (4 * t + 1) 0)) (qMN _ _) (by omega) (by omega) hl
    have s3 := qdB b hb hB x y W (List.replicate k 0) (4 * t + 3) t (bt (bt (bt 0 (b.getD (4 * t) 0)) (b.getD (4 * t + 1) 0)) (b.getD (4 * t + 2) 0)) (qMN _ _) (by omega) (by omega) hl
    rw [show ((4 * t : Nat) : Int) = 4 * (t : Int) by omega] at s0
    rw [show ((4 * t + 1 : Nat) : Int) = 4 * (t : Int) + 1 by omega] at s1
    rw [show ((4 * t + 2 : Nat) : Int) = 4 * (t : Int) + 1 + 1 by omega] at s2
    rw [show ((4 * t + 3 : Nat) : Int) = 4 * (t : Int) + 1 + 1 + 1 by omega] at s3
    have h0 : bt 0 (b.getD (4 * t) 0) = IntKind.wrap .u32 (b.getD (4 * t) 0) := by
      have := qrF hB (4 * t)
      simp only [bt, qpx]; omega
    rw [List.replicate_succ, s0, s1, s2, s3, h0]
    have ih := qdN b hb hB x y k (t + 1) (W ++ [qEL b t]) (by omega) (by simp; omega)
    rw [show 4 * ((t + 1 : Nat) : Int) = 4 * (t : Int) + 1 + 1 + 1 + 1 by omega] at ih
    simp only [List.append_assoc, List.singleton_append] at ih
    exact ih
def qxK (a b c d : Int) : Int := rot (qNa .u32 (qNa .u32 (qNa .u32 a b) c) d) 1
def sch : Nat → List Int → List Int
  | 0, h => h
  | k + 1, h => sch k (h ++ [qxK (h.getD (h.length - 3) 0) (h.getD (h.length - 8) 0) (h.getD (h.length - 14) 0) (h.getD (h.length - 16) 0)])
theorem qgI : ∀ (k : Nat) (h : List Int), (sch k h).length = h.length + k
  | 0, h => rfl
  | k + 1, h => by rw [sch, qgI k]; simp; omega
theorem qOm {h r : List Int} {t : Nat} (ht : t < h.length) : (h ++ r).getD t 0 = h.getD t 0 := by
  simp [List.getD_eq_getElem?_getD, List.getElem?_append_left ht]
theorem qrp : ∀ (k : Nat) (h : List Int) (t : Nat), t < h.length → (sch k h).getD t 0 = h.getD t 0
  | 0, h, t, ht => rfl
  | k + 1, h, t, ht => by
    rw [sch, qrp k _ t (by simp; omega), qOm ht]
theorem qmL : ∀ (k : Nat) (h : List Int) (t : Nat), 16 ≤ h.length → h.length ≤ t → t < h.length + k →
    (sch k h).getD t 0 = qxK ((sch k h).getD (t - 3) 0) ((sch k h).getD (t - 8) 0) ((sch k h).getD (t - 14) 0) ((sch k h).getD (t - 16) 0)
  | 0, h, t, h1, h2, h3 => by omega
  | k + 1, h, t, h1, h2, h3 => by
    by_cases he : t = h.length
    · subst he
      rw [sch]
      rw [qrp k _ h.length (by simp), qrp k _ (h.length - 3) (by simp; omega), qrp k _ (h.length - 8) (by simp; omega), qrp k _ (h.length - 14) (by simp; omega), qrp k _ (h.length - 16) (by simp; omega)]
      rw [qWI, qOm (by omega), qOm (by omega), qOm (by omega), qOm (by omega)]
    · rw [sch]
      exact qmL k _ t (by simp; omega) (by simp; omega) (by simp; omega)
theorem qtJ (x y : List Int) : ∀ (k t : Nat) (h : List Int), t + k = 80 → 16 ≤ t → h.length = t → qdc (t : Int) x y h = qcc 0 x y (sch k h) x
  | 0, t, h, e, h1, hl => by
    rw [qEg, if_neg (by simp; omega)]; rfl
  | k + 1, t, h, e, h1, hl => by
    have hl' : Int.ofNat h.length = (t : Int) := by rw [hl]; rfl
    rw [qEg, if_pos (by simp; omega), hl']
    simp only [w64 (x := (t : Int) - 3) (by omega) (by omega), w64 (x := (t : Int) - 8) (by omega) (by omega), w64 (x := (t : Int) - 14) (by omega) (by omega), w64 (x := (t : Int) - 16) (by omega) (by omega), w64 (x := (t : Int) + 1) (by omega) (by omega)]
    rw [qga (by omega), qga (by omega), qga (by omega), qga (by omega), qga (by omega), qga (by omega), qga (by omega), qga (by omega)]
    rw [show 0 + ((t : Int) - 3).toNat = h.length - 3 by omega, show 0 + ((t : Int) - 8).toNat = h.length - 8 by omega, show 0 + ((t : Int) - 14).toNat = h.length - 14 by omega, show 0 + ((t : Int) - 16).toNat = h.length - 16 by omega]
    rw [qBu _ 1 (by omega)]
    simp only [Option.bind_some]
    rw [qga (by simp; omega)]
    have ih := qtJ x y k (t + 1) (h ++ [qxK (h.getD (h.length - 3) 0) (h.getD (h.length - 8) 0) (h.getD (h.length - 14) 0) (h.getD (h.length - 16) 0)]) (by omega) (by omega) (by simp; omega)
    rw [show ((t + 1 : Nat) : Int) = (t : Int) + 1 by omega] at ih
    exact ih
end Go.Ab

set_option linter.unusedVariables false
set_option linter.unusedSimpArgs false
set_option maxHeartbeats 1000000
namespace Go.Ab
attribute [local irreducible] IntKind.wrap
def ff (t : Nat) (b c d : Int) : Int × Int :=
  if t < 20 then (qFb .u32 (qDa .u32 b c) (qDa .u32 (qNa .u32 4294967295 b) d), 1518500249)
  else if t < 40 then (qNa .u32 (qNa .u32 b c) d, 1859775393)
  else if t < 60 then (qFb .u32 (qFb .u32 (qDa .u32 b c) (qDa .u32 b d)) (qDa .u32 c d), 2400959708)
  else (qNa .u32 (qNa .u32 b c) d, 3395469782)
theorem qyI (t : Nat) (b c d : Int) : qVg (t : Int) b c d = some (ff t b c d) := by
  rw [qvo]
  unfold ff
  by_cases h1 : t < 20
  · rw [if_pos (by simp; omega), if_pos h1]
  · rw [if_neg (by simp; omega), if_neg h1]
    by_cases h2 : t < 40
    · rw [if_pos (by simp; omega), if_pos h2]
    · rw [if_neg (by simp; omega), if_neg h2]
      by_cases h3 : t < 60
      · rw [if_pos (by simp; omega), if_pos h3]
      · rw [if_neg (by simp; omega), if_neg h3]
theorem qyK (t : Nat) (b c d : Int) (ht : t < 80) : qMz (IntKind.wrap .i64 (Int.tdiv (t : Int) 20)) b c d = some (ff t b c d).1 ∧ G_quarters.getD (IntKind.wrap .i64 (Int.tdiv (t : Int) 20)).toNat 0 = (ff t b c d).2 ∧ 0 ≤ IntKind.wrap .i64 (Int.tdiv (t : Int) 20) ∧ IntKind.wrap .i64 (Int.tdiv (t : Int) 20) < 4 := by
  have e : IntKind.wrap .i64 (Int.tdiv (t : Int) 20) = ((t / 20 : Nat) : Int) := by
    rw [qUj (by omega), w64 (by omega) (by omega)]; omega
  rw [e, qKG]
  unfold ff
  by_cases h1 : t < 20
  · have : t / 20 = 0 := by omega
    rw [this, if_pos (by simp), if_pos h1, qLN]
    exact ⟨rfl, rfl, by omega, by omega⟩
  · rw [if_neg h1]
    by_cases h2 : t < 40
    · have : t / 20 = 1 := by omega
      rw [this, if_neg (by simp), if_neg (by simp), if_pos h2]
      exact ⟨rfl, rfl, by omega, by omega⟩
    · rw [if_neg h2]
      by_cases h3 : t < 60
      · have : t / 20 = 2 := by omega
        rw [this, if_neg (by simp), if_pos (by simp), if_pos h3, qNM]
        exact ⟨rfl, rfl, by omega, by omega⟩
      · have : t / 20 = 3 := by omega
        rw [this, if_neg (by simp), if_neg (by simp), if_neg h3]
        exact ⟨rfl, rfl, by omega, by omega⟩
structure S5 where
  a : Int
  b : Int
  c : Int
  d : Int
  e : Int
def S5.l (s : S5) : List Int := [s.a, s.b, s.c, s.d, s.e]
def rd (t : Nat) (w : Int) (s : S5) : S5 :=
  ⟨IntKind.wrap .u32 (IntKind.wrap .u32 (IntKind.wrap .u32 (IntKind.wrap .u32 (rot s.a 5 + (ff t s.b s.c s.d).1) + s.e) + (ff t s.b s.c s.d).2) + w), s.a, rot s.b 30, s.c, s.d⟩
def qqN (W : List Int) : Nat → Nat → S5 → S5
  | 0, _, s => s
  | k + 1, t, s => qqN W k (t + 1) (rd t (W.getD t 0) s)
theorem qsJ (x y W : List Int) (hW : W.length = 80) : ∀ (k t : Nat) (s : S5), t + k = 80 → qcc (t : Int) x y W s.l = qbc 0 x y (qqN W k t s).l
  | 0, t, s, e => by
    rw [qDg, if_neg (by simp; omega)]; rfl
  | k + 1, t, s, e => by
    have hl' : Int.ofNat W.length = 80 := by rw [hW]; rfl
    have g0 : s.l.getD 0 0 = s.a := rfl
    have g1 : s.l.getD 1 0 = s.b := rfl
    have g2 : s.l.getD 2 0 = s.c := rfl
    have g3 : s.l.getD 3 0 = s.d := rfl
    have g4 : s.l.getD 4 0 = s.e := rfl
    rw [qDg, if_pos (by simp; omega), hl']
    simp only [g0, g1, g2, g3, g4, qyI, qBu _ 5 (by omega), qBu _ 30 (by omega), Option.bind_some, w64 (x := (t : Int) + 1) (by omega) (by omega), show 0 + ((t : Int)).toNat = t by omega]
    repeat rw [qga (by omega)]
    have ih := qsJ x y W hW k (t + 1) (rd t (W.getD t 0) s) (by omega)
    rw [show ((t + 1 : Nat) : Int) = (t : Int) + 1 by omega] at ih
    exact ih
def qfO (x : List Int) (s : S5) : List Int := [IntKind.wrap .u32 (x.getD 0 0 + s.a), IntKind.wrap .u32 (x.getD 1 0 + s.b), IntKind.wrap .u32 (x.getD 2 0 + s.c), IntKind.wrap .u32 (x.getD 3 0 + s.d), IntKind.wrap .u32 (x.getD 4 0 + s.e)]
theorem qgM (y : List Int) (x s : S5) : qbc 0 x.l y s.l = some (qfO x.l s) := by
  have g : ∀ s : S5, s.l.getD 0 0 = s.a ∧ s.l.getD 1 0 = s.b ∧ s.l.getD 2 0 = s.c ∧ s.l.getD 3 0 = s.d ∧ s.l.getD 4 0 = s.e := fun s => ⟨rfl, rfl, rfl, rfl, rfl⟩
  have n1 : IntKind.wrap .i64 (0 + 1) = 1 := by kernel_rfl
  have n2 : IntKind.wrap .i64 (1 + 1) = 2 := by kernel_rfl
  have n3 : IntKind.wrap .i64 (2 + 1) = 3 := by kernel_rfl
  have n4 : IntKind.wrap .i64 (3 + 1) = 4 := by kernel_rfl
  have n5 : IntKind.wrap .i64 (4 + 1) = 5 := by kernel_rfl
  rw [qib, if_pos (by simp), n1]
  repeat rw [qga (by omega)]
  rw [qib, if_pos (by simp), n2]
  repeat rw [qga (by omega)]
  rw [qib, if_pos (by simp), n3]
  repeat rw [qga (by omega)]
  rw [qib, if_pos (by simp), n4]
  repeat rw [qga (by omega)]
  rw [qib, if_pos (by simp), n5]
  repeat rw [qga (by omega)]
  rw [qib, if_neg (by simp)]
  rfl
def blk (x : S5) (b : List Int) : S5 :=
  let s := qqN (sch 64 (qMl b 0 16)) 80 0 x
  ⟨IntKind.wrap .u32 (x.a + s.a), IntKind.wrap .u32 (x.b + s.b), IntKind.wrap .u32 (x.c + s.c), IntKind.wrap .u32 (x.d + s.d), IntKind.wrap .u32 (x.e + s.e)⟩
theorem qZJ (x : S5) (b : List Int) (hb : b.length = 64) : qWg x.l b = some (blk x b).l := by
  have h1 := quJ b hb x.l (List.replicate 5 0) 16 0 [] rfl rfl
  have h2 := qtJ x.l (List.replicate 5 0) 64 16 (qMl b 0 16) rfl (by omega) (qwf b 16 0)
  have h3 := qsJ x.l (List.replicate 5 0) (sch 64 (qMl b 0 16)) (by rw [qgI, qwf]) 80 0 x rfl
  rw [qxo]
  refine h1.trans ?_
  rw [List.nil_append]
  refine Eq.trans h2 (Eq.trans h3 ?_)
  rw [qgM]; rfl
def qTN (W : List Int) (t : Nat) (r : List Int) : Prop := r.length = 16 ∧ ∀ i, i < max t 16 → max t 16 ≤ i + 16 → r.getD (i % 16) 0 = W.getD i 0
theorem qmG {r : List Int} {i j : Nat} {v : Int} (hi : i < r.length) : (r.set i v).getD j 0 = if i = j then v else r.getD j 0 := by
  simp only [List.getD_eq_getElem?_getD, List.getElem?_set]
  by_cases h : i = j
  · subst h; simp [hi]
  · simp [h]
theorem qiM (x y W : List Int) (hW : ∀ t, 16 ≤ t → t < 80 → W.getD t 0 = qxK (W.getD (t - 3) 0) (W.getD (t - 8) 0) (W.getD (t - 14) 0) (W.getD (t - 16) 0)) :
    ∀ (k t : Nat) (s : S5) (r : List Int), t + k = 80 → qTN W t r → qmm s.a s.b s.c s.d s.e (t : Int) x y r = some (qfO x (qqN W k t s))
  | 0, t, s, r, e, hr => by
    rw [qTs, if_neg (by simp; omega)]
    repeat rw [qga (by omega)]
    rfl
  | k + 1, t, s, r, e, hr => by
    obtain ⟨m1, m2, m3, m4⟩ := qyK t s.b s.c s.d (by omega)
    obtain ⟨r1, r5, r30⟩ := qav s.a
    obtain ⟨_, _, q30⟩ := qav s.b
    have et : (Int.tmod (t : Int) 16) = ((t % 16 : Nat) : Int) := by rw [qRe (by omega)]; omega
    have ett : (((t % 16 : Nat) : Int)).toNat = t % 16 := by omega
    rw [qTs, if_pos (by simp; omega)]
    by_cases h16 : 16 ≤ t
    · have e13 : (Int.tmod (IntKind.wrap .i64 ((t : Int) + 13)) 16) = (((t - 3) % 16 : Nat) : Int) := by rw [w64 (by omega) (by omega), qRe (by omega)]; omega
      have e8 : (Int.tmod (IntKind.wrap .i64 ((t : Int) + 8)) 16) = (((t - 8) % 16 : Nat) : Int) := by rw [w64 (by omega) (by omega), qRe (by omega)]; omega
      have e2 : (Int.tmod (IntKind.wrap .i64 ((t : Int) + 2)) 16) = (((t - 14) % 16 : Nat) : Int) := by rw [w64 (by omega) (by omega), qRe (by omega)]; omega
      have e0 : t % 16 = (t - 16) % 16 := by omega
      have v13 := hr.2 (t - 3) (by omega) (by omega)
      have v8 := hr.2 (t - 8) (by omega) (by omega)
      have v2 := hr.2 (t - 14) (by omega) (by omega)
      have v0 := hr.2 (t - 16) (by omega) (by omega)
      rw [← e0] at v0
      have hn : rot (qNa .u32 (qNa .u32 (qNa .u32 (r.getD ((t - 3) % 16) 0) (r.getD ((t - 8) % 16) 0)) (r.getD ((t - 14) % 16) 0)) (r.getD (t % 16) 0)) 1 = W.getD t 0 := by
        rw [v13, v8, v2, v0, hW t h16 (by omega)]; rfl
      rw [if_pos (by simp; omega)]
      simp only [et, e13, e8, e2, (qav _).1, r5, q30, m1, m2, Option.bind_some, w64 (x := (t : Int) + 1) (by omega) (by omega), Int.toNat_natCast, hn]
      repeat rw [qga (by omega)]
      have hr' : qTN W (t + 1) (r.set (t % 16) (W.getD t 0)) := by
        refine ⟨by simp [hr.1], fun i h1 h2 => ?_⟩
        rw [qmG (by rw [hr.1]; omega)]
        by_cases hi : i = t
        · subst hi; rw [if_pos rfl]
        · rw [if_neg (by omega)]
          exact hr.2 i (by omega) (by omega)
      have hg : (r.set (t % 16) (W.getD t 0)).getD (t % 16) 0 = W.getD t 0 := by
        rw [qmG (by rw [hr.1]; omega), if_pos rfl]
      have ih := qiM x y W hW k (t + 1) (rd t (W.getD t 0) s) _ (by omega) hr'
      rw [show ((t + 1 : Nat) : Int) = (t : Int) + 1 by omega] at ih
      rw [hg]
      exact ih
    · have v0 := hr.2 t (by omega) (by omega)
      rw [if_neg (by simp; omega)]
      simp only [et, r5, q30, m1, m2, Option.bind_some, w64 (x := (t : Int) + 1) (by omega) (by omega), Int.toNat_natCast, v0]
      repeat rw [qga (by omega)]
      have hr' : qTN W (t + 1) r := ⟨hr.1, fun i h1 h2 => hr.2 i (by omega) (by omega)⟩
      have ih := qiM x y W hW k (t + 1) (rd t (W.getD t 0) s) _ (by omega) hr'
      rw [show ((t + 1 : Nat) : Int) = (t : Int) + 1 by omega] at ih
      exact ih
theorem qhM (x : S5) (b : List Int) (hb : 64 ≤ b.length) (hB : Bts b) : qeI x.l b = some (blk x (b.take 64)).l := by
  have hl : (b.take 64).length = 64 := by simp; omega
  have hl' : Int.ofNat (b.take 64).length = 64 := by rw [hl]; rfl
  rw [qdI, qga (by omega), qga (by simp; omega), hl']
  have h1 := qdN (b.take 64) hl (hB.take 64) x.l (List.replicate 5 0) 16 0 [] rfl rfl
  refine Eq.trans h1 ?_
  rw [List.nil_append, qUs, if_neg (by simp)]
  repeat rw [qga (by omega)]
  have hW : ∀ t, 16 ≤ t → t < 80 → _ := fun t h1 h2 => qmL 64 (qMl (b.take 64) 0 16) t (by rw [qwf]; omega) (by rw [qwf]; exact h1) (by rw [qwf]; omega)
  have h2 := qiM x.l (List.replicate 5 0) (sch 64 (qMl (b.take 64) 0 16)) hW 80 0 x (qMl (b.take 64) 0 16) rfl ⟨qwf _ _ _, fun i h1 h2 => by
    have hi : i < 16 := by omega
    rw [qrp 64 _ i (by rw [qwf]; exact hi), Nat.mod_eq_of_lt hi]⟩
  refine Eq.trans h2 ?_
  rfl
end Go.Ab

set_option linter.unusedVariables false
set_option linter.unusedSimpArgs false
set_option maxHeartbeats 1000000
namespace Go.Ab
attribute [local irreducible] IntKind.wrap
def qCi (l : List Int) (i : Nat) : Int := IntKind.wrap .u8 (qjh .u32 (l.getD (i / 4) 0) (24 - 8 * ((i % 4 : Nat) : Int)))
def qqK (l : List Int) (t : Nat) : Nat → List Int
  | 0 => []
  | k + 1 => qCi l t :: qqK l (t + 1) k
theorem qXF (l : List Int) : ∀ (k t : Nat), (qqK l t k).length = k
  | 0, t => rfl
  | k + 1, t => by simp [qqK, qXF l k]
theorem qYF (l : List Int) : ∀ (k t : Nat), Bts (qqK l t k)
  | 0, t => Bts.nil
  | k + 1, t => Bts.cons (qYN _) (qYF l k _)
theorem qLM (x l : List Int) : ∀ (k t : Nat) (P : List Int), t + k = 20 → P.length = t → qbe (t : Int) x l (P ++ List.replicate k 0) = some (P ++ qqK l t k)
  | 0, t, P, e, hl => by
    rw [qCh, if_neg (by simp; omega)]; rfl
  | k + 1, t, P, e, hl => by
    have e1 : IntKind.wrap .i64 (Int.tdiv (t : Int) 4) = ((t / 4 : Nat) : Int) := by
      rw [qUj (by omega), w64 (by omega) (by omega)]; omega
    have e2 : IntKind.wrap .i64 (8 * (Int.tmod (t : Int) 4)) = 8 * ((t % 4 : Nat) : Int) := by
      rw [qRe (by omega), w64 (by omega) (by omega)]; omega
    have e3 : IntKind.wrap .i64 (24 - 8 * ((t % 4 : Nat) : Int)) = 24 - 8 * ((t % 4 : Nat) : Int) := w64 (by omega) (by omega)
    rw [qCh, if_pos (by simp; omega), e1, e2, e3, w64 (x := (t : Int) + 1) (by omega) (by omega)]
    repeat rw [qga (by omega)]
    rw [show ((t : Int)).toNat = P.length by omega, show (((t / 4 : Nat) : Int)).toNat = t / 4 by omega, List.replicate_succ, qop]
    have ih := qLM x l k (t + 1) (P ++ [qCi l t]) (by omega) (by simp; omega)
    rw [show ((t + 1 : Nat) : Int) = (t : Int) + 1 by omega] at ih
    simp only [List.append_assoc, List.singleton_append] at ih
    exact ih
theorem qiL (l : List Int) : ∀ (k t : Nat) (P : List Int), t + k = 5 → P.length = 4 * t → qKn l (t : Int) (P ++ List.replicate (4 * k) 0) = some (P ++ qqK l (4 * t) (4 * k), 0)
  | 0, t, P, e, hl => by
    rw [qsq, if_neg (by simp; omega)]; rfl
  | k + 1, t, P, e, hl => by
    rw [qsq, if_pos (by simp; omega)]
    simp only [w64 (x := 4 * (t : Int)) (by omega) (by omega), w64 (x := 4 * (t : Int) + 1) (by omega) (by omega), w64 (x := 4 * (t : Int) + 2) (by omega) (by omega), w64 (x := 4 * (t : Int) + 3) (by omega) (by omega), w64 (x := (t : Int) + 1) (by omega) (by omega)]
    repeat rw [qga (by omega)]
    rw [show ((t : Int)).toNat = t by omega, show (4 * (t : Int)).toNat = P.length by omega]
    have s0 : IntKind.wrap .u8 (Int.fdiv (l.getD t 0) 16777216) = qCi l (4 * t) := by
      unfold qCi qjh
      rw [show 4 * t / 4 = t by omega, show 4 * t % 4 = 0 by omega]; rfl
    have s1 : IntKind.wrap .u8 (Int.fdiv (l.getD t 0) 65536) = qCi l (4 * t + 1) := by
      unfold qCi qjh
      rw [show (4 * t + 1) / 4 = t by omega, show (4 * t + 1) % 4 = 1 by omega]; rfl
    have s2 : IntKind.wrap .u8 (Int.fdiv (l.getD t 0) 256) = qCi l (4 * t + 2) := by
      unfold qCi qjh
      rw [show (4 * t + 2) / 4 = t by omega, show (4 * t + 2) % 4 = 2 by omega]; rfl
    have s3 : IntKind.wrap .u8 (l.getD t 0) = qCi l (4 * t + 3) := by
      unfold qCi qjh
      rw [show (4 * t + 3) / 4 = t by omega, show (4 * t + 3) % 4 = 3 by omega]
      have : (2 : Int) ^ (min ((24 : Int) - 8 * ((3 : Nat) : Int)).toNat (IntKind.bits .u32)) = 1 := rfl
      rw [this, Int.fdiv_one]
    rw [s0, s1, s2, s3, show 4 * (k + 1) = 4 * k + 1 + 1 + 1 + 1 by omega, List.replicate_succ, List.replicate_succ, List.replicate_succ, List.replicate_succ, qop]
    have a1 := qop (P ++ [qCi l (4 * t)]) 0 (qCi l (4 * t + 1)) (0 :: 0 :: List.replicate (4 * k) 0)
    have a2 := qop (P ++ [qCi l (4 * t), qCi l (4 * t + 1)]) 0 (qCi l (4 * t + 2)) (0 :: List.replicate (4 * k) 0)
    have a3 := qop (P ++ [qCi l (4 * t), qCi l (4 * t + 1), qCi l (4 * t + 2)]) 0 (qCi l (4 * t + 3)) (List.replicate (4 * k) 0)
    simp only [List.append_assoc, List.cons_append, List.nil_append, List.length_append, List.length_cons, List.length_nil] at a1 a2 a3
    rw [show (4 * (t : Int) + 1).toNat = P.length + (0 + 1) by omega, a1, show (4 * (t : Int) + 2).toNat = P.length + (0 + 1 + 1) by omega, a2, show (4 * (t : Int) + 3).toNat = P.length + (0 + 1 + 1 + 1) by omega, a3]
    have ih := qiL l k (t + 1) (P ++ [qCi l (4 * t), qCi l (4 * t + 1), qCi l (4 * t + 2), qCi l (4 * t + 3)]) (by omega) (by simp; omega)
    rw [show ((t + 1 : Nat) : Int) = (t : Int) + 1 by omega] at ih
    simp only [List.append_assoc, List.cons_append, List.nil_append] at ih
    exact ih
def qhN : Nat → S5 → List Int → S5
  | 0, x, _ => x
  | k + 1, x, m => qhN k (blk x (m.take 64)) (m.drop 64)
theorem qjL : ∀ (k : Nat) (x : S5) (m : List Int), m.length = 64 * k → Bts m → qLn m (List.replicate 20 0) x.l = some (qqK (qhN k x m).l 0 20, 0)
  | 0, x, m, hl, hB => by
    obtain rfl : m = [] := List.eq_nil_of_length_eq_zero (by omega)
    rw [qtq, if_neg (by simp)]
    exact qiL x.l 5 0 [] rfl rfl
  | k + 1, x, m, hl, hB => by
    rw [qtq, if_pos (by rw [decide_eq_true_eq]; have : Int.ofNat m.length = (m.length : Int) := rfl; omega), qhM x m (by omega) hB]
    simp only [Option.bind_some]
    rw [qga (by omega), qga (by simp; omega)]
    exact qjL k _ (m.drop 64) (by simp; omega) (hB.drop 64)
theorem qMM (x0 m : List Int) (K : Nat) (hm : m.length = 64 * K) (hK : K ≤ 100000) : ∀ (k t : Nat) (x : S5), t + k = K → qce (64 * (t : Int)) x0 m x.l = some (qqK (qhN k x (m.drop (64 * t))).l 0 20)
  | 0, t, x, e => by
    have hl : Int.ofNat m.length = (64 * K : Nat) := by rw [hm]; rfl
    rw [qDh, hl, if_neg (by simp; omega)]
    exact qLM x0 x.l 20 0 [] rfl rfl
  | k + 1, t, x, e => by
    have hl : Int.ofNat m.length = (64 * K : Nat) := by rw [hm]; rfl
    rw [qDh, hl, if_pos (by simp; omega), w64 (by omega) (by omega)]
    repeat rw [qga (by omega)]
    rw [show (64 * (t : Int) + 64).toNat - (64 * (t : Int)).toNat = 64 by omega, show 0 + (64 * (t : Int)).toNat = 64 * t by omega, qZJ x _ (by simp; omega)]
    simp only [Option.bind_some]
    have ih := qMM x0 m K hm hK k (t + 1) (blk x ((m.drop (64 * t)).take 64)) (by omega)
    rw [show 64 * ((t + 1 : Nat) : Int) = 64 * (t : Int) + 64 by omega] at ih
    rw [ih]
    simp only [qhN, List.drop_drop]
    rw [show 64 * (t + 1) = 64 * t + 64 by omega]
def iv : S5 := ⟨1732584193, 4023233417, 2562383102, 271733878, 3285377520⟩
def qUi (a : List Int) : List Int := qqK (qhN ((a ++ qWF a.length).length / 64) iv (a ++ qWF a.length)).l 0 20
theorem qif (a : List Int) : (qUi a).length = 20 := qXF _ _ _
theorem qNz (a : List Int) : Bts (qUi a) := qYF _ _ _
theorem qnx (a : List Int) (h : a.length ≤ 1000000) : qRb a = some (qUi a) := by
  have hp := qVF (a.length : Int) (by omega)
  have ha : Int.ofNat a.length = (a.length : Int) := rfl
  rw [qxr, qga (by simp; omega), ha, qjC _ ⟨by omega, by omega⟩]
  simp only [Option.bind_some, qxn, List.nil_append]
  rw [qga (by simp; omega)]
  have hm : (a ++ qWF a.length).length = 64 * ((a ++ qWF a.length).length / 64) := by
    simp only [List.length_append]; omega
  exact qMM (List.replicate 20 0) (a ++ qWF a.length) _ hm (by simp only [List.length_append]; omega) _ 0 iv (by omega)
theorem qZn (a : List Int) (hB : Bts a) : qNr a = some (if a.length ≤ 20000 then (qUi a, 0) else (List.replicate 20 0, 4)) := by
  have ha : Int.ofNat a.length = (a.length : Int) := rfl
  rw [qLG, ha]
  by_cases h : a.length ≤ 20000
  · have hp := qVF (a.length : Int) (by omega)
    rw [if_neg (by simp; omega), if_pos h, qPB _ (by omega)]
    simp only [Option.bind_some]
    rw [qyH _ _ (by omega)]
    simp only [Option.bind_some]
    have hm : (a ++ qWF a.length).length = 64 * ((a ++ qWF a.length).length / 64) := by
      simp only [List.length_append]; omega
    exact qjL _ iv (a ++ qWF a.length) hm (hB.append (qpK _))
  · rw [if_pos (by simp; omega), if_neg h]
end Go.Ab

/-
  Headers and blocks, for the laws of chapter 27 (from PureB to PureB5, turned to the text that is printed with the codec).
-/
set_option linter.unusedVariables false
set_option linter.unusedSimpArgs false
set_option maxHeartbeats 1000000
namespace Go.Ab
attribute [local irreducible] IntKind.wrap
def hOK (h : qfa) : Prop := 0 ≤ h.2.1 ∧ h.2.1 < 16 ∧ 1 ≤ h.2.2.2.1 ∧ h.2.2.2.1 ≤ 4096 ∧ 0 ≤ h.2.2.1 ∧ h.2.2.1 + h.2.2.2.1 ≤ 8192 ∧ ((h.1 = 1 ∧ h.2.2.2.2.1 = h.2.2.2.1) ∨ (h.1 = 2 ∧ 0 < h.2.2.2.2.1 ∧ h.2.2.2.2.1 < h.2.2.2.1))
instance (h : qfa) : Decidable (hOK h) := by unfold hOK; infer_instance
def hC (h : qfa) : Int := if hOK h then 0 else 8
theorem qjd (h : qfa) : qsh h = some (hC h) := by
  rw [qlw]
  obtain ⟨m, mem, off, raw, len, sum, u⟩ := h
  simp only [hC, decide_eq_true_eq, beq_iff_eq]
  by_cases hr : 1 ≤ raw ∧ raw ≤ 4096
  · rw [w64 (by omega) (by omega)]
    by_cases ok : hOK (m, mem, off, raw, len, sum, u)
    · rw [if_pos ok]; simp only [hOK] at ok
      rw [if_neg (by omega), if_neg (by omega), if_neg (by omega), if_neg (by omega), if_neg (by omega), if_neg (by omega)]
      rcases ok.2.2.2.2.2.2 with ⟨h1, h2⟩ | ⟨h1, h2, h3⟩
      · rw [if_pos h1, if_pos h2, if_pos h2]
      · rw [if_neg (by omega), if_pos h1, if_pos h2, if_pos h3]
    · rw [if_neg ok]; simp only [hOK] at ok
      by_cases h1 : mem < 0
      · rw [if_pos h1]
      by_cases h2 : mem ≥ 16
      · rw [if_neg h1, if_pos h2, if_pos h2]
      by_cases h3 : off < 0
      · rw [if_neg h1, if_neg h2, if_neg (by omega), if_neg (by omega), if_pos h3]
      by_cases h4 : off > 8192 - raw
      · rw [if_neg h1, if_neg h2, if_neg (by omega), if_neg (by omega), if_neg h3, if_pos h4]
      rw [if_neg h1, if_neg h2, if_neg (by omega), if_neg (by omega), if_neg h3, if_neg h4]
      by_cases h5 : m = 1
      · rw [if_pos h5, if_neg (by omega), if_neg (by omega)]
      by_cases h6 : m = 2
      · rw [if_neg h5, if_pos h6]
        by_cases h7 : len > 0
        · rw [if_pos h7, if_neg (by omega)]
        · rw [if_neg h7]
      · rw [if_neg h5, if_neg h6]
  · rw [if_neg (show ¬ hOK (m, mem, off, raw, len, sum, u) from fun ok => hr (by simp only [hOK] at ok; omega))]
    by_cases h1 : mem < 0
    · rw [if_pos h1]
    by_cases h2 : mem ≥ 16
    · rw [if_neg h1, if_pos h2, if_pos h2]
    by_cases h3 : raw < 1
    · rw [if_neg h1, if_neg h2, if_pos h3]
    · rw [if_neg h1, if_neg h2, if_neg h3, if_pos (by omega), if_pos (by omega)]
theorem qEt (h : qfa) : qae h = some (hC h) := by
  rw [qun]
  obtain ⟨m, mem, off, raw, len, sum, u⟩ := h
  simp only [hC, decide_eq_true_eq, beq_iff_eq, Bool.not_eq_true', decide_eq_false_iff_not, beq_eq_false_iff_ne]
  by_cases hr : 1 ≤ raw ∧ raw ≤ 4096
  · rw [w64 (by omega) (by omega)]
    by_cases ok : hOK (m, mem, off, raw, len, sum, u)
    · rw [if_pos ok]; simp only [hOK] at ok
      rw [if_neg (by omega), if_neg (by omega), if_neg (by omega), if_neg (by omega), if_neg (by omega), if_neg (by omega)]
      rcases ok.2.2.2.2.2.2 with ⟨h1, h2⟩ | ⟨h1, h2, h3⟩
      · rw [if_pos h1, if_neg (by omega), if_neg (by omega)]
      · rw [if_neg (by omega), if_pos h1, if_pos (by omega), if_neg (by omega)]
    · rw [if_neg ok]; simp only [hOK] at ok
      by_cases h1 : mem < 0
      · rw [if_pos h1]
      by_cases h2 : mem ≥ 16
      · rw [if_neg h1, if_pos h2]
      by_cases h3 : off < 0
      · rw [if_neg h1, if_neg h2, if_neg (by omega), if_neg (by omega), if_pos h3]
      by_cases h4 : off > 8192 - raw
      · rw [if_neg h1, if_neg h2, if_neg (by omega), if_neg (by omega), if_neg h3, if_pos h4]
      rw [if_neg h1, if_neg h2, if_neg (by omega), if_neg (by omega), if_neg h3, if_neg h4]
      by_cases h5 : m = 1
      · rw [if_pos h5, if_neg (by omega), if_pos (by omega)]
      by_cases h6 : m = 2
      · rw [if_neg h5, if_pos h6]
        by_cases h7 : len ≥ 1
        · rw [if_pos h7, if_pos (by omega)]
        · rw [if_neg h7]
      · rw [if_neg h5, if_neg h6]
  · rw [if_neg (show ¬ hOK (m, mem, off, raw, len, sum, u) from fun ok => hr (by simp only [hOK] at ok; omega))]
    by_cases h1 : mem < 0
    · rw [if_pos h1]
    by_cases h2 : mem ≥ 16
    · rw [if_neg h1, if_pos h2]
    by_cases h3 : raw < 1
    · rw [if_neg h1, if_neg h2, if_pos h3]
    · rw [if_neg h1, if_neg h2, if_neg h3, if_pos (by omega)]
def bC (b : qPa) : Int := if hOK b.1 ∧ (b.2.1.length : Int) = b.1.2.2.2.2.1 then 0 else 8
theorem qDK (h : qfa) : (hC h != 0) = true ↔ ¬ hOK h := by
  unfold hC; split <;> simp_all
theorem qdm (b : qPa) : qZp b = some (bC b) := by
  rw [qPy, qjd]
  simp only [Option.bind_some, qDK]
  simp only [bC, bne_iff_ne, ne_eq, Int.ofNat_eq_natCast]
  by_cases h1 : hOK b.1 <;> by_cases h2 : (b.2.1.length : Int) = b.1.2.2.2.2.1 <;> simp [h1, h2]
def fr8 (h : qfa) : List Int := [h.1 % 256, h.2.1 % 256, (h.2.2.1 / 256) % 256, h.2.2.1 % 256, (h.2.2.2.1 / 256) % 256, h.2.2.2.1 % 256, (h.2.2.2.2.1 / 256) % 256, h.2.2.2.2.1 % 256]
theorem qaO (a : Int) : qjh .i64 a 0 = a := by rw [qaI _ _ (by omega) (by omega)]; simp
theorem qhO (a : Int) : qjh .i64 a 8 = a / 256 := by rw [qaI _ _ (by omega) (by omega)]; rfl
theorem qIH (n : Int) (h : -9223372036854775808 ≤ n ∧ n ≤ 9223372036854775807) : IntKind.wrap .i64 n = n := w64 h.1 h.2
theorem qBC (v18 : List Int) (v19 : Int) (h8 : List Int) (v : Int) (h0 : 0 ≤ v19) (h4 : v19 < 5) (hw : G_widths.getD v19.toNat 0 = 1) (hv : v18.getD v19.toNat 0 = v) (hl : h8.length ≤ 100) :
    qpc v18 v19 h8 = qpc v18 (v19 + 1) (h8 ++ [v % 256]) := by
  rw [qjg, if_pos (by simpa using h4), qga h0, qga h4, qga h0, qga h4, hw, hv]
  rw [qMc, if_pos (by decide), qga h0, qga h4, hw]
  rw [qIH ((1:Int) - 1) (by omega), qIH ((1:Int) - 1 - 0) (by omega), qIH ((8:Int) * (1 - 1 - 0)) (by omega), qIH ((0:Int)+1) (by omega)]
  rw [qga (by omega), qga (by simp; omega)]
  rw [qMc, if_neg (by decide), w64 (x := v19 + 1) (by omega) (by omega), wu8]
  rw [show (8 * (1 - 1 - 0) : Int) = 0 by decide, qaO]
theorem qsw (v18 : List Int) (v19 : Int) (h8 : List Int) (v : Int) (h0 : 0 ≤ v19) (h4 : v19 < 5) (hw : G_widths.getD v19.toNat 0 = 2) (hv : v18.getD v19.toNat 0 = v) (hl : h8.length ≤ 100) :
    qpc v18 v19 h8 = qpc v18 (v19 + 1) (h8 ++ [(v / 256) % 256, v % 256]) := by
  rw [qjg, if_pos (by simpa using h4), qga h0, qga h4, qga h0, qga h4, hw, hv]
  rw [qMc, if_pos (by decide), qga h0, qga h4, hw]
  rw [qIH ((2:Int) - 1) (by omega), qIH ((2:Int) - 1 - 0) (by omega), qIH ((8:Int) * (2 - 1 - 0)) (by omega), qIH ((0:Int)+1) (by omega)]
  rw [qga (by omega), qga (by simp; omega)]
  rw [qMc, if_pos (by decide), qga h0, qga h4, hw]
  rw [qIH ((2:Int) - 1) (by omega), qIH ((2:Int) - 1 - (0 + 1)) (by omega), qIH ((8:Int) * (2 - 1 - (0 + 1))) (by omega), qIH ((0:Int)+1+1) (by omega)]
  rw [qga (by omega), qga (by simp; omega)]
  rw [qMc, if_neg (by decide), w64 (x := v19 + 1) (by omega) (by omega), wu8, wu8]
  rw [show (8 * (2 - 1 - 0) : Int) = 8 by decide, show (8 * (2 - 1 - (0 + 1)) : Int) = 0 by decide, qaO, qhO]
  simp
theorem qOk (h : qfa) (hm : 0 ≤ h.1 ∧ h.1 < 256) : qLm h = some (fr8 h) := by
  rw [qiw, w64 (by omega) (by omega)]
  simp only [List.replicate, List.set_cons_zero, List.set_cons_succ]
  rw [qBC _ 0 _ h.1 (by decide) (by decide) (by decide) rfl (by decide)]
  rw [qBC _ (0+1) _ h.2.1 (by decide) (by decide) (by decide) rfl (by simp)]
  rw [qsw _ (0+1+1) _ h.2.2.1 (by decide) (by decide) (by decide) rfl (by simp)]
  rw [qsw _ (0+1+1+1) _ h.2.2.2.1 (by decide) (by decide) (by decide) rfl (by simp)]
  rw [qsw _ (0+1+1+1+1) _ h.2.2.2.2.1 (by decide) (by decide) (by decide) rfl (by simp)]
  rw [qjg, if_neg (by decide)]
  simp [fr8]
theorem qKh (h : qfa) (hm : 0 ≤ h.1 ∧ h.1 < 256) : qZd h = some (fr8 h) := by
  rw [qtn]
  simp only [qdq, wu8, qEj _ (show (0:Int) < 256 by decide)]
  rw [qga (by decide)]
  simp only [Option.bind_some]
  rw [qga (by simp), qga (by decide)]
  simp only [Option.bind_some]
  rw [qga (by simp), qga (by decide)]
  simp only [Option.bind_some]
  rw [qga (by simp)]
  simp only [fr8, List.cons_append, List.nil_append]
  rw [Int.emod_eq_of_lt hm.1 hm.2]
def mark : List Int := [183, 98, 105, 116, 108, 111, 102, 116, 32, 98, 108, 107, 10]
theorem qKk : qwj = some mark := by rw [qXv, qga (by decide)]; rfl
theorem qFt : qCg = some mark := by rw [qwn]; rfl
def hB (h : qfa) : List Int := fr8 h ++ h.2.2.2.2.2.1
theorem qtw (h : qfa) : (fr8 h).length = 8 := rfl
def bB (b : qPa) : List Int := mark ++ hB b.1 ++ b.2.1
def bWf (b : qPa) : Prop := (0 ≤ b.1.1 ∧ b.1.1 < 256) ∧ b.1.2.2.2.2.2.1.length = 20
theorem qrK (a b : Nat) (ha : a < 4294967296) (hb : b < 256) : qFb .i64 ((a : Int) * 256) (b : Int) = (a : Int) * 256 + b := by
  unfold qFb
  have h1 : BitVec.ofInt 64 ((a : Int) * 256) = BitVec.ofNat 64 (a * 256) := by
    rw [show (a : Int) * 256 = ((a * 256 : Nat) : Int) by omega]; exact BitVec.ofInt_natCast _ _
  have h2 : BitVec.ofInt 64 (b : Int) = BitVec.ofNat 64 b := BitVec.ofInt_natCast _ _
  show IntKind.wrap .i64 ((BitVec.ofInt 64 ((a : Int) * 256) ||| BitVec.ofInt 64 (b : Int)).toNat : Int) = _
  rw [h1, h2, BitVec.toNat_or, BitVec.toNat_ofNat, BitVec.toNat_ofNat, Nat.mod_eq_of_lt (by omega), Nat.mod_eq_of_lt (by omega)]
  have h3 := Nat.two_pow_add_eq_or_of_lt (i := 8) (b := b) (by omega) a
  rw [show a * 256 = 2 ^ 8 * a by omega, ← h3, w64 (by omega) (by omega)]
  omega
theorem qsK {x y : Int} (hx : 0 ≤ x ∧ x < 4294967296) (hy : 0 ≤ y ∧ y < 256) : qFb .i64 (x * 256) y = x * 256 + y := by
  obtain ⟨a, rfl⟩ := Int.eq_ofNat_of_zero_le hx.1
  obtain ⟨b, rfl⟩ := Int.eq_ofNat_of_zero_le hy.1
  exact qrK a b (by omega) (by omega)
theorem qzC {α : Type} (xs : List α) (i : Nat) (x d : α) (h : i < xs.length) : (xs.set i x).getD i d = x := by
  simp [List.getD, h]
theorem Bts.getD {xs : List Int} (h : Bts xs) (i : Nat) : 0 ≤ xs.getD i 0 ∧ xs.getD i 0 < 256 := by
  by_cases hi : i < xs.length
  · simp only [List.getD_eq_getElem?_getD, List.getElem?_eq_getElem hi, Option.getD_some]; exact h _ (List.getElem_mem hi)
  · simp [List.getD_eq_getElem?_getD, List.getElem?_eq_none (by omega : xs.length ≤ i)]
theorem qZr (v0 : List Int) (v5 v17 v18 : Int) (b8 : qfa) (b9 : List Int) (h0 : 0 ≤ v5) (h5 : v5 < 5) (hlt : v18 < v17) (h18 : 0 ≤ v18) (h17 : v17 ≤ 2) (hb : Bts v0) (hl : 0 < v0.length) (hx : 0 ≤ b9.getD v5.toNat 0 ∧ b9.getD v5.toNat 0 < 256) :
    que v0 v5 G_widths v5 v17 v18 b8 b9 = que (v0.drop 1) v5 G_widths v5 v17 (v18 + 1) b8 (b9.set v5.toNat (b9.getD v5.toNat 0 * 256 + v0.getD 0 0)) := by
  have hy := hb.getD 0
  rw [qkg, if_pos (by simpa using hlt)]
  rw [qga h0, qga h5, qga (by decide), qga (by decide), qga (by simp only [Int.ofNat_eq_natCast]; omega), qga h0, qga h5, qga (by decide), qga (by simp only [Int.ofNat_eq_natCast]; omega)]
  rw [w64 (x := v18 + 1) (by omega) (by omega), w64 (x := b9.getD v5.toNat 0 * 256) (by omega) (by omega), w64 (x := v0.getD 0 0) (by omega) (by omega), qsK ⟨hx.1, by omega⟩ hy]
theorem qiC (v0 : List Int) (v5 : Int) (b8 : qfa) (b9 : List Int) (h0 : 0 ≤ v5) (h5 : v5 < 5) (hw : G_widths.getD v5.toNat 0 = 1) (hb : Bts v0) (hl : 0 < v0.length) (hx : b9.getD v5.toNat 0 = 0) (hn : b9.length = 5) :
    qqc v0 G_widths v5 b8 b9 = qqc (v0.drop 1) G_widths (v5 + 1) b8 (b9.set v5.toNat (v0.getD 0 0)) := by
  rw [qlg, if_pos (by simpa using h5), qga h0, qga h5, hw, qZr v0 v5 1 0 b8 b9 h0 h5 (by decide) (by decide) (by decide) hb hl (by rw [hx]; decide)]
  rw [qkg, if_neg (by decide), w64 (x := v5 + 1) (by omega) (by omega), hx, Int.zero_mul, Int.zero_add]
theorem qvv (v0 : List Int) (v5 : Int) (b8 : qfa) (b9 : List Int) (h0 : 0 ≤ v5) (h5 : v5 < 5) (hw : G_widths.getD v5.toNat 0 = 2) (hb : Bts v0) (hl : 1 < v0.length) (hx : b9.getD v5.toNat 0 = 0) (hn : b9.length = 5) :
    qqc v0 G_widths v5 b8 b9 = qqc (v0.drop 2) G_widths (v5 + 1) b8 (b9.set v5.toNat (v0.getD 0 0 * 256 + v0.getD 1 0)) := by
  have hy := hb.getD 0
  have hi : v5.toNat < b9.length := by omega
  have hg : (v0.drop 1).getD 0 0 = v0.getD 1 0 := by simp [List.getD_eq_getElem?_getD]
  rw [qlg, if_pos (by simpa using h5), qga h0, qga h5, hw, qZr v0 v5 2 0 b8 b9 h0 h5 (by decide) (by decide) (by decide) hb (by omega) (by rw [hx]; decide)]
  rw [hx, Int.zero_mul, Int.zero_add (v0.getD 0 0)]
  rw [qZr (v0.drop 1) v5 2 (0 + 1) b8 _ h0 h5 (by decide) (by decide) (by decide) (hb.drop 1) (by simp; omega) (by rw [qzC _ _ _ _ hi]; exact hy)]
  rw [qkg, if_neg (by decide), w64 (x := v5 + 1) (by omega) (by omega), qzC _ _ _ _ hi, List.set_set, List.drop_drop, hg]
def zH : qfa := (0, (0, (0, (0, (0, (List.replicate 20 0, ()))))))
def pH (a : List Int) : qfa := (a.getD 0 0, (a.getD 1 0, (a.getD 2 0 * 256 + a.getD 3 0, (a.getD 4 0 * 256 + a.getD 5 0, (a.getD 6 0 * 256 + a.getD 7 0, (a.drop 8, ()))))))
def pP (a : List Int) : qfa × Int := if a.length = 28 ∧ hOK (pH a) then (pH a, 0) else (zH, 12)
theorem qqJ (a : List Int) (k i : Nat) : (a.drop k).getD i 0 = a.getD (k + i) 0 := by simp [List.getD_eq_getElem?_getD]
theorem qms (a : List Int) (hb : Bts a) : qMm a = some (pP a) := by
  rw [qkw]
  by_cases hl : a.length = 28
  · rw [if_neg (by simp [hl])]
    have hrep : (List.replicate 5 (0:Int)) = [0,0,0,0,0] := rfl
    rw [hrep]
    rw [qiC a 0 _ _ (by decide) (by decide) (by decide) hb (by omega) (by decide) (by decide)]
    rw [qiC (a.drop 1) (0+1) _ _ (by decide) (by decide) (by decide) (hb.drop 1) (by simp; omega) (by simp) (by simp)]
    rw [qvv _ (0+1+1) _ _ (by decide) (by decide) (by decide) ((hb.drop 1).drop 1) (by simp; omega) (by simp) (by simp)]
    rw [qvv _ (0+1+1+1) _ _ (by decide) (by decide) (by decide) (((hb.drop 1).drop 1).drop 2) (by simp; omega) (by simp) (by simp)]
    rw [qvv _ (0+1+1+1+1) _ _ (by decide) (by decide) (by decide) ((((hb.drop 1).drop 1).drop 2).drop 2) (by simp; omega) (by simp) (by simp)]
    rw [qlg, if_neg (by decide)]
    iterate 10 rw [qga (by decide)]
    simp only [List.drop_drop, qqJ]
    have h0 := hb.getD 0
    have hsp : qNb (List.replicate 20 (0:Int)) 0 (List.take (min (List.drop (1 + 1 + 2 + 2 + 2) a).length 20) (List.drop (1 + 1 + 2 + 2 + 2) a)) = a.drop 8 := by
      have hln : (a.drop 8).length = 20 := by simp [hl]
      show qNb (List.replicate 20 (0:Int)) 0 (List.take (min (a.drop 8).length 20) (a.drop 8)) = a.drop 8
      rw [hln, List.take_of_length_le (by omega)]
      unfold qNb
      simp [hl]
    rw [hsp]
    have e0 : (([0,0,0,0,0] : List Int).set (Int.toNat 0) (a.getD 0 0) |>.set (Int.toNat (0+1)) (a.getD (1+0) 0) |>.set (Int.toNat (0+1+1)) (a.getD (1+1+0) 0 * 256 + a.getD (1+1+1) 0) |>.set (Int.toNat (0+1+1+1)) (a.getD (1+1+2+0) 0 * 256 + a.getD (1+1+2+1) 0) |>.set (Int.toNat (0+1+1+1+1)) (a.getD (1+1+2+2+0) 0 * 256 + a.getD (1+1+2+2+1) 0)) = [a.getD 0 0, a.getD 1 0, a.getD 2 0 * 256 + a.getD 3 0, a.getD 4 0 * 256 + a.getD 5 0, a.getD 6 0 * 256 + a.getD 7 0] := rfl
    rw [e0]
    simp only [List.getD_cons_zero, List.getD_cons_succ, wu8, Int.emod_eq_of_lt h0.1 h0.2]
    rw [qjd]
    show (some (hC (pH a))).bind _ = _
    simp only [Option.bind_some, qDK]
    unfold pP
    by_cases ok : hOK (pH a)
    · rw [if_neg (by simpa using ok), if_pos ⟨hl, ok⟩]; rfl
    · rw [if_pos ok, if_neg (fun h => ok h.2)]; rfl
  · rw [if_pos (by simp; omega)]
    unfold pP
    rw [if_neg (fun h => hl h.1)]; rfl
theorem qru : Bts mark := by
  intro x hx
  simp [mark] at hx
  omega
theorem qKc : mark.length = 13 := rfl
theorem qby (a : List Int) (hb : Bts a) (h1 : 41 ≤ a.length) (h2 : a.length ≤ 50000) : qYv a 0 = some (decide (a.take 13 = mark), 0) := by
  rw [qrC, qIm, if_neg (by simp; omega), if_neg (by decide), if_neg (by simp)]
  simp only [Option.bind_some]
  rw [if_neg (by decide), qga (by decide), qga (by simp), qKk]
  simp only [Option.bind_some]
  rw [qsr, if_pos (by simp [qKc]; omega), qga (by simp), qga (by simp [qKc]; omega), qhp]
  simp only [Option.bind_some]
  rw [qbN ((hb.drop _).take _) qru]
  rfl
def rdK (a : List Int) : qPa × Int × Int :=
  if a.length > 50000 then ((zH, ([], ())), (0, 4)) else if a.length < 41 then ((zH, ([], ())), (0, 18))
  else if a.take 13 ≠ mark ∨ ¬ hOK (pH ((a.drop 13).take 28)) then ((zH, ([], ())), (0, 12))
  else if (a.length : Int) < 41 + (pH ((a.drop 13).take 28)).2.2.2.2.1 then ((zH, ([], ())), (0, 18))
  else ((pH ((a.drop 13).take 28), ((a.drop 41).take (pH ((a.drop 13).take 28)).2.2.2.2.1.toNat, ())), (41 + (pH ((a.drop 13).take 28)).2.2.2.2.1, 0))
theorem qqw {h : qfa} (ok : hOK h) : 1 ≤ h.2.2.2.2.1 ∧ h.2.2.2.2.1 ≤ 4096 := by unfold hOK at ok; omega
theorem qEN (a : List Int) (h : 41 ≤ a.length) : pP ((a.drop 13).take 28) = if hOK (pH ((a.drop 13).take 28)) then (pH ((a.drop 13).take 28), 0) else (zH, 12) := by
  have hl : ((a.drop 13).take 28).length = 28 := by simp; omega
  unfold pP
  simp only [hl, true_and]
theorem qex (a : List Int) (hb : Bts a) : qKs a = some (rdK a) := by
  rw [quB]
  unfold rdK
  by_cases h1 : a.length > 50000
  · rw [if_pos (by simp; omega), if_pos h1]; rfl
  rw [if_neg (by simp; omega), if_neg h1]
  by_cases h2 : a.length < 41
  · rw [if_pos (by simp; omega), if_pos h2]; rfl
  rw [if_neg (by simp; omega), if_neg h2, qga (by decide), qga (by decide), qga (by simp only [Int.ofNat_eq_natCast]; omega), qms _ ((hb.drop _).take _), qEN a (by omega), qby a hb (by omega) (by omega)]
  simp only [Option.bind_some]
  by_cases h3 : a.take 13 = mark
  · by_cases ok : hOK (pH ((a.drop 13).take 28))
    · have hlen := qqw ok
      rw [if_pos ok, if_neg (by simp [h3]), if_neg (by simp), if_neg (show ¬ (a.take 13 ≠ mark ∨ ¬ hOK (pH ((a.drop 13).take 28))) from fun h => h.elim (fun h => h h3) (fun h => h ok))]
      generalize pH ((a.drop 13).take 28) = h at ok hlen ⊢
      simp only
      rw [w64 (x := 41 + h.2.2.2.2.1) (by omega) (by omega)]
      by_cases h4 : (a.length : Int) < 41 + h.2.2.2.2.1
      · rw [if_pos (by simpa using h4), if_pos h4]; rfl
      · rw [if_neg (by simpa using h4), if_neg h4, qga (by decide), qga (by omega), qga (by simp only [Int.ofNat_eq_natCast]; omega), qli _ (by simp; omega)]
        have e : Int.toNat (41 + h.2.2.2.2.1) - 41 = h.2.2.2.2.1.toNat := by omega
        simp only [Option.bind_some, e]
    · rw [if_neg ok, if_neg (by simp [h3]), if_pos (by simp), if_pos (show (a.take 13 ≠ mark ∨ ¬ hOK (pH ((a.drop 13).take 28))) from .inr ok)]; rfl
  · rw [if_pos (by simp [h3]), if_pos (show (a.take 13 ≠ mark ∨ ¬ hOK (pH ((a.drop 13).take 28))) from .inl h3)]; rfl
end Go.Ab

/-
  Chapter 27: qlL headers, Make, and the block that every law begins with.
-/
set_option linter.unusedVariables false
set_option linter.unusedSimpArgs false
set_option maxRecDepth 10000
namespace Go.Ab
open Go
attribute [local irreducible] IntKind.wrap
theorem qYI (h : qfa) : Bts (fr8 h) := by
  intro x hx
  simp only [fr8, List.mem_cons, List.not_mem_nil, or_false] at hx
  omega
theorem qzj (h : qfa) (hm : 0 ≤ h.1 ∧ h.1 < 256) (raw : List Int) (hb : Bts raw) (hl : raw.length ≤ 19000) : qrl h raw = some (qUi (fr8 h ++ raw)) := by
  rw [qYl, qOk h hm, Option.bind_some]
  have hL : (fr8 h ++ raw).length = raw.length + 8 := by rw [List.length_append, qtw]; omega
  rw [qga (by rw [hL]; omega), qZn _ (Bts.append (qYI h) hb), if_pos (by rw [hL]; omega), Option.bind_some]
def qlL (m a1 a2 raw len : Int) (z : List Int) : qfa := (m, (a1, (a2, (raw, (len, (qUi (fr8 (m, (a1, (a2, (raw, (len, (List.replicate 20 0, ())))))) ++ z), ()))))))
def qUD (a1 a2 : Int) (z : List Int) : qPa := (qlL 1 a1 a2 z.length z.length z, (z, ()))
def mOK (a1 a2 : Int) (z : List Int) : Prop := 0 ≤ a1 ∧ a1 < 16 ∧ 1 ≤ z.length ∧ z.length ≤ 4096 ∧ 0 ≤ a2 ∧ a2 + z.length ≤ 8192
instance (a1 a2 : Int) (z : List Int) : Decidable (mOK a1 a2 z) := by unfold mOK; infer_instance
theorem qmz {a1 a2 : Int} {z : List Int} (h : mOK a1 a2 z) (s : List Int) : hOK (1, (a1, (a2, ((z.length : Int), ((z.length : Int), (s, ())))))) := by
  unfold mOK at h
  exact ⟨h.1, h.2.1, by simp only; omega, by simp only; omega, h.2.2.2.2.1, h.2.2.2.2.2, Or.inl ⟨rfl, rfl⟩⟩
theorem qit (l : Int) : qDl l = some (decide (0 ≤ l ∧ l ≤ 7)) := by
  rw [qeu]
  by_cases h : 0 ≤ l
  · rw [if_pos (by simpa using h)]
    exact congrArg some (by simp [h])
  · rw [if_neg (by simpa using h)]
    exact congrArg some (by simp [h])
theorem qWH {a1 a2 : Int} {z : List Int} (hm : mOK a1 a2 z) : bC (qUD a1 a2 z) = 0 := if_pos ⟨qmz hm _, rfl⟩
theorem qYy (a1 a2 : Int) (z : List Int) : bWf (qUD a1 a2 z) := ⟨⟨by show (0:Int) ≤ 1; decide, by show (1:Int) < 256; decide⟩, qif _⟩
theorem qQL {x : List Int} (hb : Bts x) : 0 ≤ (pH x).1 ∧ (pH x).1 < 256 := Bts.getD hb 0
end Go.Ab

/-
  Chapter 27: limits and errors.
-/
set_option linter.unusedVariables false
set_option linter.unusedSimpArgs false
set_option maxRecDepth 10000
namespace Go.Ab
open Go
attribute [local irreducible] IntKind.wrap
theorem qwI {xs ys : List Int} : qBB (peq (.int .u8)) xs ys = true → xs = ys := by
  intro h
  induction xs generalizing ys with
  | nil => cases ys with
    | nil => rfl
    | cons y ys => exact absurd h (by simp [qBB])
  | cons x xs ih => cases ys with
    | nil => exact absurd h (by simp [qBB])
    | cons y ys =>
      rw [qBB, Bool.and_eq_true] at h
      have h1 : x = y := by have := h.1; rw [peq] at this; exact of_decide_eq_true this
      rw [h1, ih h.2]
theorem qoK (xs ys : List Int) : qBB (peq (.int .u8)) xs ys = decide (xs = ys) := by
  by_cases h : xs = ys
  · subst h
    rw [decide_eq_true rfl]
    exact qIq (fun x => by rw [peq]; exact decide_eq_true rfl) _
  · rw [decide_eq_false h]
    cases hq : qBB (peq (.int .u8)) xs ys with
    | false => rfl
    | true => exact absurd (qwI hq) h
theorem qfy {h : qfa} (ok : hOK h) (hm : 0 ≤ h.1 ∧ h.1 < 256) {z : List Int} (hb : Bts z) (hl : (z.length : Int) = h.2.2.2.1) : qte h z = some (decide (qUi (fr8 h ++ z) = h.2.2.2.2.2.1), 0) := by
  have hz : z.length ≤ 4096 := by unfold hOK at ok; omega
  have hc : hC h = 0 := if_pos ok
  rw [qFi]
  refine Tot.eq (Tot.be (qjd h) (Tot.ifne_neg hc (Tot.ifeq_pos hl (Tot.be (qzj h hm z hb (by omega)) (Tot.so ?_)))))
  rw [peq, qoK]
theorem qyz {l : Int} {b : qPa} (hl : 0 ≤ l ∧ l ≤ 7) (h1 : b.1.1 = 1) (hc : bC b = 0) (hb : Bts b.2.1) : qOi l b = some (if qUi (fr8 b.1 ++ b.2.1) = b.1.2.2.2.2.2.1 then (b.2.1, 0) else ([], 22)) := by
  have ok : hOK b.1 ∧ (b.2.1.length : Int) = b.1.2.2.2.2.1 := by
    unfold bC at hc; split at hc
    · assumption
    · cases hc
  have hlen : b.1.2.2.2.2.1 = b.1.2.2.2.1 := by
    rcases ok.1.2.2.2.2.2.2 with h | h
    · exact h.2
    · omega
  have hz : b.2.1.length ≤ 4096 := by have := ok.1.2.2.2.1; omega
  rw [qrt]
  refine Tot.eq (Tot.be (qdm b) (Tot.ifne_neg hc (Tot.be (qit l) ?_)))
  rw [decide_eq_true hl]
  refine Tot.ifn (fun k => absurd k (by decide)) (fun _ => Tot.be (qli _ (by omega)) (Tot.ifeq_neg (by omega) (Tot.be (qfy ok.1 (by omega) hb (by omega)) ?_)))
  by_cases hs : qUi (fr8 b.1 ++ b.2.1) = b.1.2.2.2.2.2.1
  · rw [if_pos hs, decide_eq_true hs]
    exact Tot.ifn (fun k => absurd k (by decide)) (fun _ => Tot.so rfl)
  · rw [if_neg hs, decide_eq_false hs]
    exact Tot.ifn (fun _ => Tot.so rfl) (fun k => absurd k (by decide))
end Go.Ab

/-
  Chapter 27: blocks that are changed.
-/
set_option linter.unusedVariables false
set_option linter.unusedSimpArgs false
set_option maxRecDepth 10000
namespace Go.Ab
open Go
attribute [local irreducible] IntKind.wrap
theorem qVz (h : qfa) (hm : 0 ≤ h.1 ∧ h.1 < 256) {z : List Int} (hl : z.length ≤ 100000) : qEe h z = some (qUi (fr8 h ++ z)) := by
  have hL : (fr8 h ++ z).length = z.length + 8 := by rw [List.length_append, qtw]; omega
  rw [qMj]
  exact Tot.eq (Tot.be (qKh h hm) (Tot.g (by rw [hL]; omega) (Tot.be (qnx _ (by rw [hL]; omega)) (Tot.so rfl))))
end Go.Ab

/-
  The coder there and back, 1: intervals, and what is put out.
-/
set_option linter.unusedVariables false
set_option linter.unusedSimpArgs false
set_option maxRecDepth 10000
namespace Go.Ab
open Go
attribute [local irreducible] IntKind.wrap
def Shp4 (k : Nat) (a b : Int) : Prop := (0 ≤ a ∧ a ≤ b ∧ b < 4294967296) ∧ ((k = 4) ∨ (k = 3 ∧ a % 256 = 0 ∧ b % 256 = 255) ∨ (k = 2 ∧ a % 65536 = 0 ∧ b % 65536 = 65535) ∨ (k = 1 ∧ a % 16777216 = 0 ∧ b % 16777216 = 16777215) ∨ (k = 0 ∧ a = 0 ∧ b = 4294967295))
theorem Shp4.step {k : Nat} {a b : Int} (h : Shp4 (k + 1) a b) (e : a / 16777216 = b / 16777216) : Shp4 k (a * 256 % 4294967296) (b * 256 % 4294967296 + 255) := by
  obtain ⟨⟨h1, h2, h3⟩, h4⟩ := h
  refine ⟨⟨by omega, by omega, by omega⟩, ?_⟩
  rcases h4 with h | ⟨h, ha, hb⟩ | ⟨h, ha, hb⟩ | ⟨h, ha, hb⟩ | ⟨h, _⟩
  · exact Or.inr (Or.inl ⟨by omega, by omega, by omega⟩)
  · exact Or.inr (Or.inr (Or.inl ⟨by omega, by omega, by omega⟩))
  · exact Or.inr (Or.inr (Or.inr (Or.inl ⟨by omega, by omega, by omega⟩)))
  · exact Or.inr (Or.inr (Or.inr (Or.inr ⟨by omega, by omega, by omega⟩)))
  · omega
def qeL (a b : Int) : Prop := 0 ≤ a ∧ a < b ∧ b < 4294967296 ∧ a / 16777216 ≠ b / 16777216
def at4 (c : List Int) (i : Nat) : Int := c.getD i 0 * 16777216 + c.getD (i + 1) 0 * 65536 + c.getD (i + 2) 0 * 256 + c.getD (i + 3) 0
theorem qsg {xs : List Int} (h : Bts xs) (i : Nat) : 0 ≤ xs.getD i 0 ∧ xs.getD i 0 < 256 :=
  qAC (P := fun x => 0 ≤ x ∧ x < 256) h (by omega) i
theorem qUK {c : List Int} (h : Bts c) (i : Nat) : at4 c i * 256 % 4294967296 + c.getD (i + 4) 0 = at4 c (i + 1) ∧ at4 c i = c.getD i 0 * 16777216 + at4 c (i + 1) / 256 ∧ 0 ≤ at4 c i ∧ at4 c i < 4294967296 := by
  have h0 := qsg h i
  have h1 := qsg h (i + 1)
  have h2 := qsg h (i + 2)
  have h3 := qsg h (i + 3)
  have h4 := qsg h (i + 4)
  have e : at4 c (i + 1) = c.getD (i + 1) 0 * 16777216 + c.getD (i + 2) 0 * 65536 + c.getD (i + 3) 0 * 256 + c.getD (i + 4) 0 := rfl
  rw [e]
  unfold at4
  omega
def spl (a b p : Int) : Int := a + (b - a) / 4096 * p + (b - a) % 4096 * p / 4096
theorem qlN {x : Int} (h0 : 0 ≤ x) (h1 : x < 4294967296) : qDa .u32 x 4095 = x % 4096 := by
  have e : qDa .u32 x 4095 = ((BitVec.ofInt 32 x &&& BitVec.ofInt 32 4095).toNat : Int) := by
    show IntKind.wrap .u32 ((BitVec.ofInt 32 x &&& BitVec.ofInt 32 4095).toNat : Int) = _
    rw [qpx]
    have := (BitVec.ofInt 32 x &&& BitVec.ofInt 32 4095).isLt
    omega
  rw [e, BitVec.toNat_and, qUc 32 x h0 (by omega), qUc 32 4095 (by omega) (by omega)]
  have h3 : (4095 : Int).toNat = 2 ^ 12 - 1 := rfl
  rw [h3, Nat.and_two_pow_sub_one_eq_mod]
  omega
theorem qZH {a b p : Int} (h : qeL a b) (hp0 : 0 ≤ p) (hp1 : p ≤ 4095) : a ≤ spl a b p ∧ spl a b p < b ∧ 0 ≤ (b - a) / 4096 * p ∧ (b - a) / 4096 * p < 4294967296 ∧ 0 ≤ (b - a) % 4096 * p ∧ (b - a) % 4096 * p < 4294967296 := by
  obtain ⟨h1, h2, h3, h4⟩ := h
  unfold spl
  have q0 : 0 ≤ (b - a) / 4096 := by omega
  have r0 : 0 ≤ (b - a) % 4096 ∧ (b - a) % 4096 < 4096 := by omega
  have hd : (b - a) = (b - a) / 4096 * 4096 + (b - a) % 4096 := by omega
  have m1 : (b - a) / 4096 * p ≤ (b - a) / 4096 * 4095 := Int.mul_le_mul_of_nonneg_left hp1 q0
  have m2 : 0 ≤ (b - a) / 4096 * p := Int.mul_nonneg q0 hp0
  have m3 : (b - a) % 4096 * p ≤ (b - a) % 4096 * 4095 := Int.mul_le_mul_of_nonneg_left hp1 r0.1
  have m4 : 0 ≤ (b - a) % 4096 * p := Int.mul_nonneg r0.1 hp0
  generalize (b - a) / 4096 * p = z at *
  generalize (b - a) % 4096 * p = y at *
  generalize (b - a) / 4096 = q at *
  generalize (b - a) % 4096 = r at *
  refine ⟨by omega, by omega, m2, by omega, m4, by omega⟩
theorem qHG {a b p : Int} (h : qeL a b) (hp0 : 0 ≤ p) (hp1 : p ≤ 4095) : qmg a b p = some (spl a b p) := by
  have hs := qZH h hp0 hp1
  obtain ⟨h1, h2, h3, h4⟩ := h
  rw [qZl, qga (by decide), qga (by decide)]
  simp only [qpx, qEj _ (show (0:Int) < 4096 by decide)]
  have e1 : (b - a) % 4294967296 = b - a := by omega
  have e2 : p % 4294967296 = p := by omega
  rw [e1, e2, qlN (by omega) (by omega)]
  unfold spl at *
  generalize (b - a) / 4096 * p = z at *
  generalize (b - a) % 4096 * p = y at *
  have e3 : z % 4294967296 = z := by omega
  have e4 : y % 4294967296 = y := by omega
  rw [e3, e4]
  have e5 : (a + z) % 4294967296 = a + z := by omega
  rw [e5]
  exact congrArg some (by omega)
def qxN (t : Bool) (a b p : Int) : Int := if t = true then a else spl a b p + 1
def qvN (t : Bool) (a b p : Int) : Int := if t = true then spl a b p else b
theorem qQJ {t : Bool} {a b p : Int} (h : qeL a b) (hp0 : 0 ≤ p) (hp1 : p ≤ 4095) : Shp4 4 (qxN t a b p) (qvN t a b p) := by
  have hs := qZH h hp0 hp1
  obtain ⟨h1, h2, h3, h4⟩ := h
  refine ⟨?_, Or.inl rfl⟩
  unfold qxN qvN
  cases t
  · rw [if_neg (by decide), if_neg (by decide)]; omega
  · rw [if_pos rfl, if_pos rfl]; omega
end Go.Ab

/-
  The coder there and back, 2: what the predictor and the encoder go through.
-/
set_option linter.unusedVariables false
set_option linter.unusedSimpArgs false
set_option maxRecDepth 10000
namespace Go.Ab
open Go
attribute [local irreducible] IntKind.wrap
theorem qPC {f : qIa} (h : qAB f) {a b st p : Int} (ha : 0 ≤ a ∧ a ≤ 255) (hb : 0 ≤ b ∧ b ≤ 255) (hs : -2047 ≤ st ∧ st ≤ 2047) (hp : 0 ≤ p ∧ p ≤ 4095) : Tot (qTn f [a, b] st p) fun r => qyN r.2.1 ∧ 1 ≤ r.1 ∧ r.1 ≤ 4095 := by
  rw [qir]
  have e0 : ([a, b] : List Int).getD 0 0 = a := rfl
  have e1 : ([a, b] : List Int).getD 1 0 = b := rfl
  rw [e0, e1]
  refine Tot.be (qhi h) (Tot.ifne_neg rfl (Tot.g (by decide) (Tot.g (by decide) (Tot.b (qai h.1 ha.1 ha.2 hs.1 hs.2) (fun r hr => Tot.g (by decide) (Tot.g (by decide) (Tot.b (qai h.2 hb.1 hb.2 hs.1 hs.2) (fun q hq => Tot.ifne_neg hr.1 (Tot.ifne_neg hq.1 (Tot.b (qlt p) (fun t ht => Tot.ifn (fun k => ?_) (fun _ => ?_))))))))))))
  · rw [ht hp.1 hp.2] at k; exact absurd k (by decide)
  · refine Tot.b (P := fun z => 1 ≤ z ∧ z ≤ 4095) ?_ (fun z hz => Tot.so ⟨⟨a, b, r.2.1, q.2.1, rfl, rfl, ha.1, ha.2, hb.1, hb.2, hr.2.1, hr.2.2, hq.2.1, hq.2.2⟩, hz⟩)
    rw [qhr]
    refine Tot.g (by decide) (Tot.g (by decide) (Tot.g (by decide) (Tot.so ?_)))
    split <;> split at * <;> omega
theorem qiK {l N : Int} {p : qca} (h : WfP l N p) (b9a : Int) (b9 b10 : (Int × (Int × (qDb × Unit)))) {nd : Int} (hn : 1 ≤ nd ∧ nd ≤ 15) (h11 h12 : List Int) : ∀ i : Int, 0 ≤ i → i ≤ 6 → ∀ (h13 h14 : List Int), (h13.length = i.toNat ∧ ∀ x ∈ h13, 0 ≤ x ∧ x ≤ 192) → (h14.length = i.toNat ∧ ∀ x ∈ h14, -2047 ≤ x ∧ x ≤ 2047) →
    Tot (qSc p.2.2.1 6 i p b9a b9 nd b10 h11 h12 h13 h14) fun s => qtt s ∧ 1 ≤ s.2.2.2.2.1 ∧ s.2.2.2.2.1 ≤ 4095 := by
  obtain ⟨h1, h2, h3, h4, h5, h6⟩ := h
  have hl3 := h3.1
  have hl4 := h4.1
  have hw := h5.2.2.2.2.1
  intro i
  refine qjc (P := fun i => 0 ≤ i → i ≤ 6 → ∀ (h13 h14 : List Int), (h13.length = i.toNat ∧ ∀ x ∈ h13, 0 ≤ x ∧ x ≤ 192) → (h14.length = i.toNat ∧ ∀ x ∈ h14, -2047 ≤ x ∧ x ≤ 2047) → Tot (qSc p.2.2.1 6 i p b9a b9 nd b10 h11 h12 h13 h14) fun s => qtt s ∧ 1 ≤ s.2.2.2.2.1 ∧ s.2.2.2.2.1 ≤ 4095) 6 ?_ ?_ i
  · intro i hi h0 h06 h13 h14 k13 k14
    rw [qHe]
    have e6 : i.toNat = 6 := by omega
    rw [e6] at k13 k14
    refine Tot.ifd_neg (by omega) (Tot.b (qcr h5.2.2.2.1 h2.1 hw) (fun m hm => ?_))
    have hL : (h14 ++ [m.1, 256]).length = 8 := by rw [List.length_append, k14.1]; rfl
    have hA : ∀ x ∈ h14 ++ [m.1, 256], -2047 ≤ x ∧ x ≤ 2047 := by
      intro x hx
      rcases List.mem_append.1 hx with q | q
      · exact k14.2 x q
      · rcases List.mem_cons.1 q with rfl | q
        · exact hm
        · rw [List.mem_singleton.1 q]; omega
    refine Tot.g (by rw [hL]; decide) (Tot.b (qOv h5.1 (by have := hw.1; omega) hw.2 hL hA) (fun x hx => Tot.b (qbm h2.1) (fun y _ => Tot.b (qmt _ _ hw.1 hw.2) (fun z hz => ?_))))
    obtain ⟨c, hz1, hz2⟩ := hz
    rw [hz1]
    exact Tot.b (qPC h5.2.1 ⟨by have := hw.1; omega, hw.2⟩ hz2 ⟨hx.1, hx.2.1⟩ ⟨hx.2.2.1, hx.2.2.2⟩) (fun t ht => Tot.so ⟨⟨hn, k13, ⟨hL, hA⟩, ⟨hx.2.2.1, hx.2.2.2⟩, ht.1⟩, ht.2⟩)
  · intro i hi ih h0 h06 h13 h14 k13 k14
    rw [qHe]
    simp only [Int.ofNat_eq_natCast]
    have hd := qHa (P := qJl l) (d := qpa qwa) h3.2 i.toNat (by omega)
    have ha := qHa (P := qOD) (d := qpa qna) h4.2 i.toNat (by omega)
    have hs := h5.2.2.2.2.2.at hd.2.1 i.toNat
    rw [w64 (x := i + 1) (by omega) (by omega)]
    refine Tot.ifd_pos (by omega) (Tot.g h0 (Tot.g (by omega) (Tot.g h0 (Tot.g (by omega) (Tot.b (qmp hd hs.1 hs.2 hn.1 hn.2) (fun r hr => Tot.g h0 (Tot.g (by omega) (Tot.b (qGD ha hr.2.1 hr.2.2) (fun q hq => Tot.g ?_ (Tot.g (by decide) (Tot.b (qHB _) (fun s hs' => Tot.g ?_ ?_))))))))))))
    · rw [List.length_append, List.length_singleton]; omega
    · rw [List.length_append, List.length_singleton]; omega
    · exact ih (by omega) (by omega) _ _ ⟨by rw [List.length_append, List.length_singleton]; omega, qMh k13.2 hr.2⟩ ⟨by rw [List.length_append, List.length_singleton]; omega, qMh k14.2 hs'⟩
theorem qHL {l N : Int} {p : qca} (h : WfP l N p) : Tot (qMg p) fun s => qtt s ∧ 1 ≤ s.2.2.2.2.1 ∧ s.2.2.2.2.1 ≤ 4095 := by
  rw [qMo]
  have e : Int.ofNat p.2.2.1.length = 6 := by rw [h.2.2.1.1]; rfl
  rw [e]
  exact Tot.b (qNq h.2.2.2.2.1.2.2.2.2.1) (fun r hr => qiK h _ _ _ hr _ _ 0 (by omega) (by omega) [] [] ⟨rfl, fun x hx => by cases hx⟩ ⟨rfl, fun x hx => by cases hx⟩)
def qbL (p : qca) (b : Bool) (q : qca) (P : Int) : Prop := ∃ s, qMg p = some s ∧ P = IntKind.wrap .i64 s.2.2.2.2.1 ∧ qZg p s b = some (q, 0)
def qzN : List Bool → qca → qca → List Int → Prop
  | [], p, q, Ps => q = p ∧ Ps = []
  | b :: bs, p, q, Ps => ∃ p1 P Ps', qbL p b p1 P ∧ qzN bs p1 q Ps' ∧ Ps = P :: Ps'
theorem qaL {l N : Int} {p : qca} (h : WfP l N p) (hN : N < 1073741824) (b : Bool) : ∃ q P, qbL p b q P := by
  obtain ⟨s, e, hs⟩ := qHL h
  obtain ⟨r, e', hr⟩ := qzz h hN hs.1 b
  exact ⟨r.1, _, s, e, rfl, by rw [e']; exact congrArg some (Prod.ext rfl hr.1)⟩
theorem qZK {l N : Int} {p q : qca} {b : Bool} {P : Int} (h : WfP l N p) (hN : N < 1073741824) (k : qbL p b q P) : WfP l (N + 1) q ∧ 1 ≤ P ∧ P ≤ 4095 := by
  obtain ⟨s, e, hP, hu⟩ := k
  obtain ⟨s', e', hs⟩ := qHL h
  obtain rfl := Option.some.inj (e.symm.trans e')
  obtain ⟨r, e'', hr⟩ := qzz h hN hs.1 b
  obtain rfl := Option.some.inj (hu.symm.trans e'')
  rw [w64 (by omega) (by omega)] at hP
  exact ⟨hr.2, by omega, by omega⟩
theorem qCF (v : List Bool) (hv : v.length ≤ 2000) (b9a b9baa : Int) (b9babb : qka) (u1 u2 u3 u4 : Unit) (b9bbbbbbaa : Int) (u5 : Unit) (b9bbbbbbb : (qqb × (qka × ((List Int) × ((List Int) × Unit)))))
    (h11 : List Int) (h12 : List qja) (h13 : List qia) (h14 h15 h16 : List (List Int)) (h17 : List Int) (q : qca) : ∀ i : Int, 0 ≤ i → i ≤ v.length → ∀ (p : qca) (h10 Ps : List Int), h10.length = i.toNat → qzN (v.drop i.toNat) p q Ps →
    qTc v v.length i p b9a b9baa b9babb u1 u2 u3 u4 b9bbbbbbaa u5 b9bbbbbbb h10 h11 h12 h13 h14 h15 h16 h17 = some (q, (h10 ++ Ps, 0)) := by
  intro i
  refine qjc (P := fun i => 0 ≤ i → i ≤ v.length → ∀ (p : qca) (h10 Ps : List Int), h10.length = i.toNat → qzN (v.drop i.toNat) p q Ps → qTc v v.length i p b9a b9baa b9babb u1 u2 u3 u4 b9bbbbbbaa u5 b9bbbbbbb h10 h11 h12 h13 h14 h15 h16 h17 = some (q, (h10 ++ Ps, 0))) v.length ?_ ?_ i
  · intro i hi h0 h1 p h10 Ps hh hr
    rw [List.drop_of_length_le (by omega)] at hr
    obtain ⟨rfl, rfl⟩ := hr
    rw [qIe, if_neg (by rw [decide_eq_true_eq]; omega), List.append_nil]
  · intro i hi ih h0 h1 p h10 Ps hh hr
    have hd : v.drop i.toNat = v[i.toNat]'(by omega) :: v.drop (i.toNat + 1) := List.drop_eq_getElem_cons (by omega)
    rw [hd] at hr
    obtain ⟨p1, P, Ps', ⟨s, e1, e2, e3⟩, hr, rfl⟩ := hr
    have hg : v.getD i.toNat false = v[i.toNat]'(by omega) := by rw [List.getD_eq_getElem?_getD, List.getElem?_eq_getElem (by omega)]; rfl
    rw [qIe]
    simp only [Int.ofNat_eq_natCast]
    rw [w64 (x := i + 1) (by omega) (by omega), hg, ← hg]
    refine Tot.eq (Tot.ifd_pos (by omega) (Tot.g h0 (Tot.g (by omega) (Tot.be e1 (Tot.be (by rw [hg]; exact e3) (Tot.ifne_neg rfl (Tot.g (by rw [List.length_append, List.length_singleton]; omega) ?_)))))))
    have e : (i + 1).toNat = i.toNat + 1 := by omega
    have := ih (by omega) (by omega) p1 (h10 ++ [P]) Ps' (by rw [List.length_append, List.length_singleton]; omega) (by rw [e]; exact hr)
    rw [← e2]
    simp only
    rw [this, List.append_assoc]
    exact Tot.so rfl
theorem qXK {l N : Int} {p q : qca} {v : List Bool} {Ps : List Int} (h : WfP l N p) (hv : v.length ≤ 2000) (hr : qzN v p q Ps) : qAi p v = some (q, (Ps, 0)) := by
  rw [qNo]
  simp only [Int.ofNat_eq_natCast]
  refine Tot.eq (Tot.be (qBi h) (Tot.ifne_neg rfl (Tot.ifd_neg (by omega) (Tot.be (qhL h) ?_))))
  have := qCF v hv 0 0 (0, ()) () () () () 0 () ((0, (0, ())), ((0, ()), ((List.replicate 6 0), ((List.replicate 6 0), ())))) [] [] [] [] [] [] [] q 0 (by omega) (by omega) p [] Ps rfl hr
  rw [this]
  exact Tot.so rfl
theorem qBF {l N : Int} {p q : qca} {b : Bool} {P : Int} (h : WfP l N p) (k : qbL p b q P) : qdk p b = some (q, 0) := by
  rw [qYr]
  exact Tot.eq (Tot.be (qXK h (v := [b]) (Ps := [P]) (by show 1 ≤ 2000; decide) ⟨q, P, [], k, ⟨rfl, rfl⟩, rfl⟩) (Tot.so rfl))
end Go.Ab

/-
  The coder there and back, 3: what Encode does; and Decode gives the bytes again.
-/
set_option linter.unusedVariables false
set_option linter.unusedSimpArgs false
set_option maxRecDepth 10000
namespace Go.Ab
open Go
attribute [local irreducible] IntKind.wrap
def e0 : qra := (0, (4294967295, ([], ())))
end Go.Ab

/-
  The coder there and back, 4: Decode gives the bytes again.
-/
set_option linter.unusedVariables false
set_option linter.unusedSimpArgs false
set_option maxRecDepth 10000
namespace Go.Ab
open Go
attribute [local irreducible] IntKind.wrap
theorem qJM {y z : Int} (h0 : 0 ≤ y) (h1 : y < 4294967296) (hm : y % 256 = 0) (z0 : 0 ≤ z) (z1 : z < 256) : qFb .u32 y z = y + z := by
  have e : qFb .u32 y z = ((BitVec.ofInt 32 y ||| BitVec.ofInt 32 z).toNat : Int) := by
    show IntKind.wrap .u32 ((BitVec.ofInt 32 y ||| BitVec.ofInt 32 z).toNat : Int) = _
    rw [qpx]
    have := (BitVec.ofInt 32 y ||| BitVec.ofInt 32 z).isLt
    omega
  rw [e, BitVec.toNat_or, qUc 32 y h0 (by omega), qUc 32 z (by omega) (by omega)]
  have h2 : y.toNat = 2 ^ 8 * (y.toNat / 256) := by omega
  rw [h2, ← Nat.two_pow_add_eq_or_of_lt (show z.toNat < 2 ^ 8 by omega)]
  omega
theorem qQw {c : List Int} (i : Nat) : qWn c i = some (c.getD i 0) := by
  rw [qfB]
  simp only [Int.ofNat_eq_natCast]
  by_cases h : (i : Int) < c.length
  · exact Tot.eq (Tot.ifd_pos h (Tot.g (by omega) (Tot.g h (Tot.so (by rw [Int.toNat_natCast])))))
  · refine Tot.eq (Tot.ifd_neg h (Tot.so ?_))
    rw [List.getD_eq_getElem?_getD, List.getElem?_eq_none (by omega)]
    rfl
theorem qeh {c : List Int} (hc : Bts c) (b8a b8ba b8bba : Int) (b8b : qka) (h10 : List Int) (x1 x2 x : Int) (cc : List Int) (u : Unit) (k : Nat) (hk : k < 4) (hx0 : 0 ≤ x) (hx1 : x < 4294967296) :
    qGd c b8a b8ba b8bba b8b (x1, (x2, (x, (cc, ((k : Int), u))))) h10 = qGd c b8a b8ba b8bba b8b (x1, (x2, (x * 256 % 4294967296 + c.getD k 0, (cc, (((k + 1 : Nat) : Int), u))))) h10 := by
  have hb := qsg hc k
  rw [qLi, if_pos (by rw [decide_eq_true_eq]; simp only; omega), qga (by decide)]
  simp only
  rw [qQw, Option.bind_some, qpx, qpx, w64 (x := (k : Int) + 1) (by omega) (by omega)]
  have e : c.getD k 0 % 4294967296 = c.getD k 0 := by omega
  rw [e, qJM (by omega) (by omega) (by omega) hb.1 hb.2]
  rfl
def qjM (e : qra) (c : List Int) : qCa := (e.1, (e.2.1, (at4 c e.2.2.1.length, (c, (((e.2.2.1.length + 4 : Nat) : Int), ())))))
theorem qiD {c : List Int} (hc : Bts c) (hl : c.length ≤ 20000) : qTp c = some (qjM e0 c, 0) := by
  have h0 := qsg hc 0
  have h1 := qsg hc 1
  have h2 := qsg hc 2
  have h3 := qsg hc 3
  rw [qfp]
  simp only [Int.ofNat_eq_natCast]
  refine Tot.eq (Tot.ifd_neg (by omega) (Tot.be (qrb _ (by omega)) (Tot.be (v := qjM e0 c) ?_ (Tot.so rfl))))
  rw [qZt]
  have s0 := qeh hc 0 0 0 (0, ()) [] 0 4294967295 0 c () 0 (by decide) (by omega) (by omega)
  rw [show ((0 : Nat) : Int) = 0 from rfl] at s0
  rw [s0]
  have e0' : (0 : Int) * 256 % 4294967296 + c.getD 0 0 = c.getD 0 0 := by omega
  rw [e0', qeh hc 0 0 0 (0, ()) [] 0 4294967295 _ c () 1 (by decide) (by omega) (by omega), qeh hc 0 0 0 (0, ()) [] 0 4294967295 _ c () 2 (by decide) (by omega) (by omega), qeh hc 0 0 0 (0, ()) [] 0 4294967295 _ c () 3 (by decide) (by omega) (by omega)]
  rw [qLi, if_neg (by simp)]
  have e : ((c.getD 0 0 * 256 % 4294967296 + c.getD 1 0) * 256 % 4294967296 + c.getD 2 0) * 256 % 4294967296 + c.getD 3 0 = at4 c 0 := by
    unfold at4
    simp only [Nat.zero_add]
    omega
  rw [e]
  rfl
end Go.Ab

/-
  Decode always answers.
-/
set_option linter.unusedVariables false
set_option linter.unusedSimpArgs false
set_option maxRecDepth 10000
namespace Go.Ab
open Go
attribute [local irreducible] IntKind.wrap
def WfDec (d : qCa) : Prop := (0 ≤ d.1 ∧ d.1 < 4294967296) ∧ (0 ≤ d.2.1 ∧ d.2.1 < 4294967296) ∧ (0 ≤ d.2.2.1 ∧ d.2.2.1 < 4294967296) ∧ Bts d.2.2.2.1 ∧ 0 ≤ d.2.2.2.2.1 ∧ d.2.2.2.2.1 ≤ 1000000
theorem qXm {c : List Int} (hc : Bts c) (v : Bool) (u : Unit) : ∀ (k : Nat) (a b x : Int) (i : Nat), Shp4 k a b → (0 ≤ x ∧ x < 4294967296) → i + k ≤ 2000000 →
    Tot (qgf v (a, (b, (x, (c, ((i : Int), u)))))) fun r => (0 ≤ r.2.1 ∧ r.2.1 < 4294967296) ∧ (0 ≤ r.2.2.1 ∧ r.2.2.1 < 4294967296) ∧ (0 ≤ r.2.2.2.1 ∧ r.2.2.2.1 < 4294967296) ∧ Bts r.2.2.2.2.1 ∧ 0 ≤ r.2.2.2.2.2.1
  | 0, a, b, x, i, hs, hx, hi => by
    obtain ⟨_, hs⟩ := hs
    have : a = 0 ∧ b = 4294967295 := by omega
    obtain ⟨rfl, rfl⟩ := this
    rw [qQk, qga (by decide), qga (by decide), if_neg (by show ¬ ((Int.fdiv 0 16777216 == Int.fdiv 4294967295 16777216) = true); decide)]
    exact Tot.so ⟨⟨by simp only; omega, by simp only; omega⟩, ⟨by simp only; omega, by simp only; omega⟩, hx, hc, by simp only; omega⟩
  | k + 1, a, b, x, i, hs, hx, hi => by
    have hr := hs.1
    have hb := qsg hc i
    rw [qQk, qga (by decide), qga (by decide)]
    simp only [qEj _ (show (0:Int) < 16777216 by decide), beq_iff_eq]
    by_cases e : a / 16777216 = b / 16777216
    · rw [if_pos e, qga (by decide), qga (by decide), qga (by decide), qQw, Option.bind_some]
      have ho : qFb .u32 (b * 256 % 4294967296) 255 = b * 256 % 4294967296 + 255 := qtK (by omega) (by omega) (by omega)
      have e1 : c.getD i 0 % 4294967296 = c.getD i 0 := by omega
      rw [qpx, qpx, qpx, qpx, ho, e1, qJM (by omega) (by omega) (by omega) hb.1 hb.2, w64 (by omega) (by omega)]
      have e2 : (i : Int) + 1 = ((i + 1 : Nat) : Int) := by omega
      rw [e2]
      exact qXm hc v u k _ _ _ (i + 1) (hs.step e) (by omega) (by omega)
    · rw [if_neg e]
      exact Tot.so ⟨⟨by simp only; omega, by simp only; omega⟩, ⟨by simp only; omega, by simp only; omega⟩, hx, hc, by simp only; omega⟩
theorem WfDec.zero : WfDec (0, (0, (0, ([], (0, ()))))) := ⟨⟨by decide, by decide⟩, ⟨by decide, by decide⟩, ⟨by decide, by decide⟩, Bts.nil, by decide, by decide⟩
theorem qVN {d : qCa} (h : WfDec d) (p : Int) : Tot (qUp d p) fun r => WfDec r.1 := by
  obtain ⟨h1, h2, h3, h4, h5, h6⟩ := h
  rw [qBy]
  refine Tot.b (P := fun r => r = 0 → qeL d.1 d.2.1 ∧ d.2.2.2.1.length ≤ 20000) ?_ (fun r hr => Tot.ifne (fun _ => Tot.so WfDec.zero) (fun k => ?_))
  · rw [qau]
    simp only [Int.ofNat_eq_natCast, qEj _ (show (0:Int) < 16777216 by decide)]
    refine Tot.ifd (fun _ => Tot.so (fun k => absurd k (by decide))) (fun q1 => Tot.g (by decide) (Tot.g (by decide) (Tot.ifeq (fun _ => Tot.so (fun k => absurd k (by decide))) (fun q2 => ?_))))
    refine Tot.ifd (fun _ => Tot.so (fun k => absurd k (by decide))) (fun _ => Tot.ifd (fun _ => Tot.so (fun k => absurd k (by decide))) (fun _ => Tot.ifd (fun _ => Tot.so (fun k => absurd k (by decide))) (fun q3 => Tot.ifd (fun _ => Tot.so (fun k => absurd k (by decide))) (fun _ => Tot.ifd (fun _ => Tot.so (fun k => absurd k (by decide))) (fun _ => Tot.so (fun _ => ⟨⟨h1.1, by omega, h2.2, q2⟩, by omega⟩))))))
  · obtain ⟨hE, hl⟩ := hr k
    refine Tot.b (P := fun r => r = false → 0 ≤ p ∧ p ≤ 4095) ?_ (fun w hw => Tot.it (fun _ => Tot.so WfDec.zero) (fun hw2 => ?_))
    · rw [qYt]
      exact Tot.ifd (fun _ => Tot.so (fun k => absurd k (by decide))) (fun q => Tot.so (fun k => by have := of_decide_eq_false k; omega))
    · have hp := hw (by cases w with
        | true => exact absurd rfl hw2
        | false => rfl)
      refine Tot.be (qrb _ (by omega)) (Tot.b (P := fun r => (0 ≤ r.2.1 ∧ r.2.1 < 4294967296) ∧ (0 ≤ r.2.2.1 ∧ r.2.2.1 < 4294967296) ∧ (0 ≤ r.2.2.2.1 ∧ r.2.2.2.1 < 4294967296) ∧ Bts r.2.2.2.2.1 ∧ 0 ≤ r.2.2.2.2.2.1) ?_ (fun r hr => Tot.ifd (fun _ => Tot.so WfDec.zero) (fun q => Tot.so ⟨hr.1, hr.2.1, hr.2.2.1, hr.2.2.2.1, hr.2.2.2.2, by simp only; omega⟩)))
      have hsplit : qxl d.1 d.2.1 p = some (spl d.1 d.2.1 p, 0) := by
        have hp' : qwh p = some true := by
          rw [qUm]
          exact Tot.eq (Tot.ifd_pos hp.1 (Tot.so (decide_eq_true hp.2)))
        rw [qWt]
        exact Tot.eq (Tot.ifd_neg (by have := hE.2.1; omega) (Tot.be hp' (Tot.ifn (fun k => absurd k (by decide)) (fun _ => Tot.be (qHG hE hp.1 hp.2) (Tot.so rfl)))))
      have hs := qZH hE hp.1 hp.2
      obtain ⟨i, hi⟩ := Int.eq_ofNat_of_zero_le h5
      rw [qAy]
      refine Tot.be hsplit ?_
      simp only
      have e2 : d.2.2.2.2 = ((i : Int), d.2.2.2.2.2) := Prod.ext hi rfl
      refine Tot.ifd (fun q => ?_) (fun q => ?_)
      · have := qXm h4 (decide (d.2.2.1 ≤ spl d.1 d.2.1 p)) d.2.2.2.2.2 4 (qxN true d.1 d.2.1 p) (qvN true d.1 d.2.1 p) d.2.2.1 i (qQJ hE hp.1 hp.2) h3 (by omega)
        rw [← e2] at this
        exact this
      · have w1 : IntKind.wrap .u32 (spl d.1 d.2.1 p + 1) = spl d.1 d.2.1 p + 1 := by rw [qpx]; omega
        have := qXm h4 (decide (d.2.2.1 ≤ spl d.1 d.2.1 p)) d.2.2.2.2.2 4 (qxN false d.1 d.2.1 p) (qvN false d.1 d.2.1 p) d.2.2.1 i (qQJ hE hp.1 hp.2) h3 (by omega)
        rw [← e2] at this
        rw [w1]
        exact this
theorem qiB {l : Int} (v2 : Int) (hv : v2 ≤ 4096) (h10 : List Int) (hh : h10.length ≤ 4096) (N : Int) (Q : List Int × Int → Prop)
    (next : ∀ (v : Int) (p : qca) (d : qCa), 0 ≤ v → v < 256 → WfP l (N + 8) p → WfDec d → Tot (qye v2 p d (h10 ++ [v])) Q) (hN : N + 8 < 1073741824) : ∀ (m j : Nat), j + m = 8 → ∀ (v : Int) (p : qca) (d : qCa), 0 ≤ v → v < 256 → WfP l (N + j) p → WfDec d → Tot (qxe v2 v (j : Int) p d h10) Q
  | 0, j, hj, v, p, d, h0, h1, hp, hd => by
    obtain rfl : j = 8 := by omega
    rw [qKj]
    exact Tot.ifd_neg (by omega) (Tot.g (by rw [List.length_append, List.length_singleton]; omega) (next v p d h0 h1 hp hd))
  | m + 1, j, hj, v, p, d, h0, h1, hp, hd => by
    obtain ⟨s, es, hs⟩ := qHL hp
    have eP : qrv p = some (IntKind.wrap .i64 s.2.2.2.2.1, 0) := by
      rw [qgC]
      exact Tot.eq (Tot.be (qBi hp) (Tot.ifne_neg rfl (Tot.be es (Tot.so rfl))))
    rw [qKj]
    refine Tot.ifd_pos (by omega) (Tot.be eP (Tot.b (qVN hd _) (fun r hr => ?_)))
    obtain ⟨q, P, k⟩ := qaL hp (by omega) r.2.1
    refine Tot.be (qBF hp k) ?_
    have hw := (qZK hp (by omega) k).1
    have e3 : (j : Int) + 1 = ((j + 1 : Nat) : Int) := by omega
    have e4 : N + (j : Int) + 1 = N + ((j + 1 : Nat) : Int) := by omega
    rw [e4] at hw
    rw [w64 (x := (j : Int) + 1) (by omega) (by omega), e3]
    refine Tot.it (fun _ => ?_) (fun _ => ?_)
    · exact qiB v2 hv h10 hh N Q next hN m (j + 1) (by omega) _ _ _ (qut _).1 (qut _).2 hw hr
    · exact qiB v2 hv h10 hh N Q next hN m (j + 1) (by omega) _ _ _ (qut _).1 (qut _).2 hw hr
theorem qyG {l : Int} (v2 : Int) (h0 : 0 ≤ v2) (hv : v2 ≤ 4096) : ∀ (m : Nat) (hs : List Int) (N : Int) (p : qca) (d : qCa), v2 - hs.length ≤ m → (hs.length : Int) ≤ v2 → Bts hs → WfP l N p → N + 8 * m < 1073741824 → WfDec d →
    Tot (qye v2 p d hs) fun r => Bts r.1 ∧ (r.1.length : Int) = v2 ∧ r.2 = 0
  | 0, hs, N, p, d, hm, hl, hb, hp, hN, hd => by
    rw [qLj]
    simp only [Int.ofNat_eq_natCast]
    exact Tot.ifd_neg (by omega) (Tot.so ⟨hb, by simp only; omega, rfl⟩)
  | m + 1, hs, N, p, d, hm, hl, hb, hp, hN, hd => by
    rw [qLj]
    simp only [Int.ofNat_eq_natCast]
    refine Tot.ifd (fun hlt => ?_) (fun _ => Tot.so ⟨hb, by simp only; omega, rfl⟩)
    have e : ((0 : Nat) : Int) = 0 := rfl
    have := qiB (l := l) v2 hv hs (by omega) N (fun r => Bts r.1 ∧ (r.1.length : Int) = v2 ∧ r.2 = 0) (fun v p' d' q0 q1 hp' hd' => qyG v2 h0 hv m (hs ++ [v]) (N + 8) p' d' (by rw [List.length_append, List.length_singleton]; omega) (by rw [List.length_append, List.length_singleton]; omega) (Bts.append hb (Bts.cons ⟨q0, q1⟩ Bts.nil)) hp' (by omega) hd') (by omega) 8 0 rfl 0 p d (by omega) (by omega) (by rw [e, Int.add_zero]; exact hp) hd
    rw [e] at this
    exact this
theorem qMy (l : Int) {c : List Int} (hc : Bts c) (n : Int) : Tot (qen l c n) fun r => Bts r.1 ∧ (r.2 = 0 → (r.1.length : Int) = n) := by
  rw [qax, qgp]
  refine Tot.b (P := fun r => r.2 = 0 → WfP l 0 r.1) (Tot.b (qoN l) (fun r hr => Tot.ifeq (fun k => Tot.ifd_neg (by decide) (Tot.so hr)) (fun k => Tot.so (fun q => absurd q k)))) (fun r hr => Tot.ifne (fun _ => Tot.so ⟨Bts.nil, fun q => absurd q (by decide)⟩) (fun k => ?_))
  refine Tot.ifd (fun _ => Tot.so ⟨Bts.nil, fun q => absurd q (by decide)⟩) (fun h0 => Tot.ifd (fun _ => Tot.so ⟨Bts.nil, fun q => absurd q (by decide)⟩) (fun h1 => ?_))
  by_cases hl : c.length ≤ 20000
  · refine Tot.be (qiD hc hl) (Tot.ifne_neg rfl ?_)
    have h4 := qUK hc 0
    have hd : WfDec (qjM e0 c) := ⟨⟨by show (0:Int) ≤ 0; decide, by show (0:Int) < 4294967296; decide⟩, ⟨by show (0:Int) ≤ 4294967295; decide, by show (4294967295:Int) < 4294967296; decide⟩, ⟨h4.2.2.1, h4.2.2.2⟩, hc, by show (0:Int) ≤ 4; decide, by show (4:Int) ≤ 1000000; decide⟩
    exact Tot.mono (qyG n (by omega) (by omega) n.toNat [] 0 r.1 _ (by rw [List.length_nil]; omega) (by rw [List.length_nil]; omega) Bts.nil (hr k) (by omega) hd) (fun q hq => ⟨hq.1, fun _ => hq.2.1⟩)
  · refine Tot.be (v := ((0, (0, (0, ([], (0, ()))))), 4)) ?_ (Tot.ifne_pos (by decide) (Tot.so ⟨Bts.nil, fun q => absurd q (by show ¬ ((4:Int) = 0); decide)⟩))
    rw [qfp]
    simp only [Int.ofNat_eq_natCast]
    exact Tot.eq (Tot.ifd_pos (by omega) (Tot.so rfl))
end Go.Ab

/-
  Chapter 34: what is found.
-/
set_option linter.unusedVariables false
set_option linter.unusedSimpArgs false
set_option maxRecDepth 10000
namespace Go.Ab
open Go
attribute [local irreducible] IntKind.wrap
theorem qKD {h : qfa} (hm : 0 ≤ h.1 ∧ h.1 < 256) {z : List Int} (hb : Bts z) (hl : z.length ≤ 19000) : Tot (qte h z) fun _ => True := by
  rw [qFi]
  exact Tot.be (qjd h) (Tot.ifne (fun _ => Tot.so trivial) (fun _ => Tot.ifeq (fun _ => Tot.be (qzj h hm z hb hl) (Tot.so trivial)) (fun _ => Tot.so trivial)))
theorem qUN (l : Int) {b : qPa} (hm : 0 ≤ b.1.1 ∧ b.1.1 < 256) (hb : Bts b.2.1) : Tot (qOi l b) fun r => Bts r.1 := by
  rw [qrt]
  refine Tot.be (qdm b) (Tot.ifne (fun _ => Tot.so Bts.nil) (fun hc => ?_))
  have ok : hOK b.1 ∧ (b.2.1.length : Int) = b.1.2.2.2.2.1 := by
    unfold bC at hc; split at hc
    · assumption
    · cases hc
  have hlen := qqw ok.1
  have hraw : 1 ≤ b.1.2.2.2.1 ∧ b.1.2.2.2.1 ≤ 4096 := ⟨ok.1.2.2.1, ok.1.2.2.2.1⟩
  refine Tot.be (qit l) (Tot.ifn (fun _ => Tot.so Bts.nil) (fun _ => Tot.be (qli _ (by omega)) (Tot.ifeq (fun _ => ?_) (fun _ => ?_))))
  · refine Tot.b (qMy l hb _) (fun r hr => Tot.ifne (fun _ => Tot.so Bts.nil) (fun k => Tot.b (qKy l r.1) (fun s hs => Tot.ifne (fun _ => Tot.so Bts.nil) (fun _ => ?_))))
    have h2 := hr.2 k
    refine Tot.b (P := fun _ => True) (by rw [qhp]; exact Tot.so trivial) (fun t _ => Tot.ifn (fun _ => Tot.so Bts.nil) (fun _ => Tot.b (qKD hm hr.1 (by omega)) (fun u _ => Tot.ifn (fun _ => Tot.so Bts.nil) (fun _ => Tot.so hr.1))))
  · exact Tot.b (qKD hm hb (by omega)) (fun u _ => Tot.ifn (fun _ => Tot.so Bts.nil) (fun _ => Tot.so hb))
theorem qqF {xs ys : List Int} (hx : Bts xs) (hy : Bts ys) (h : Lib.bytesOf xs = Lib.bytesOf ys) : xs = ys := by
  induction xs generalizing ys with
  | nil => cases ys with
    | nil => rfl
    | cons y ys => simp [Lib.bytesOf] at h
  | cons x xs ih => cases ys with
    | nil => simp [Lib.bytesOf] at h
    | cons y ys =>
      simp only [Lib.bytesOf, List.map_cons, List.cons.injEq] at h
      have h1 := hx x List.mem_cons_self
      have h2 := hy y List.mem_cons_self
      have e := congrArg UInt8.toNat h.1
      simp only [UInt8.toNat_ofNat'] at e
      have : x = y := by omega
      rw [this, ih (fun z hz => hx z (List.mem_cons_of_mem _ hz)) (fun z hz => hy z (List.mem_cons_of_mem _ hz)) h.2]
theorem qSL {s t : List Int} (hs : Bts s) (ht : Bts t) (j : Nat) : Lib.occAt (Lib.bytesOf s) (Lib.bytesOf t) j = true ↔ (s.drop j).take t.length = t := by
  unfold Lib.occAt
  rw [List.isPrefixOf_iff_prefix, List.prefix_iff_eq_take]
  have e1 : (Lib.bytesOf t).length = t.length := List.length_map ..
  have e2 : List.take t.length (List.drop j (Lib.bytesOf s)) = Lib.bytesOf ((s.drop j).take t.length) := by
    unfold Lib.bytesOf
    rw [List.map_take, List.map_drop]
  rw [e1, e2]
  constructor
  · intro h
    exact (qqF ht ((hs.drop _).take _) h).symm
  · intro h
    rw [h]
def qhy (s : List Int) : Prop := s.take 13 = mark
instance (s : List Int) : Decidable (qhy s) := by unfold qhy; infer_instance
theorem qiG {s : List Int} (h : qhy s) : 13 ≤ s.length := by
  have := congrArg List.length h
  rw [List.length_take, qKc] at this
  omega
theorem qYJ {b : List Int} (hb : Bts b) (hl : b.length ≤ 50000) {k : Nat} (hk : k ≤ b.length) :
    (qVc b k = some (0, 6) ∧ ∀ j, ¬ qhy ((b.drop k).drop j)) ∨ ∃ i : Nat, qVc b k = some (((k + i : Nat) : Int), 0) ∧ k + i ≤ b.length ∧ qhy ((b.drop k).drop i) ∧ ∀ j, j < i → ¬ qhy ((b.drop k).drop j) := by
  have hI : qNi (b.drop k) mark = some (ixB (b.drop k) mark) := by
    unfold qNi
    exact Tot.eq (Tot.g (by rw [List.length_drop]; omega) (Tot.g (by rw [qKc]; decide) (Tot.g (by rw [qKc]; decide) (Tot.g ⟨hb.drop k, qru⟩ (Tot.so rfl)))))
  have hF : qVc b k = some (if ixB (b.drop k) mark < 0 then (0, 6) else (IntKind.wrap .i64 ((k : Int) + ixB (b.drop k) mark), 0)) := by
    have hchk : qvj b k = some 0 := by
      rw [qIm]
      simp only [Int.ofNat_eq_natCast]
      exact Tot.eq (Tot.ifd_neg (by omega) (Tot.ifd_neg (by omega) (Tot.ifd_neg (by omega) (Tot.so rfl))))
    rw [qay]
    simp only [Int.ofNat_eq_natCast]
    have e : (k : Int).toNat = k := Int.toNat_natCast k
    refine Tot.eq (Tot.be hchk (Tot.ifne_neg rfl (Tot.g (by omega) (Tot.g (by omega) (Tot.be qKk ?_)))))
    rw [e]
    refine Tot.be hI ?_
    exact Tot.ifd (fun h => Tot.so (by rw [if_pos h])) (fun h => Tot.so (by rw [if_neg h]))
  have hocc := fun j => qSL (hb.drop k) qru j
  rcases Lib.index_spec (Lib.bytesOf (b.drop k)) (Lib.bytesOf mark) with ⟨h1, h2⟩ | ⟨i, h1, h2, h3, h4⟩
  · left
    have hx : ixB (b.drop k) mark = -1 := h1
    rw [hF, hx, if_pos (by decide)]
    refine ⟨rfl, fun j hj => ?_⟩
    have hlj := qiG hj
    have e1 : (Lib.bytesOf (b.drop k)).length = (b.drop k).length := List.length_map ..
    rw [List.length_drop] at hlj
    have := h2 j (by omega)
    rw [(hocc j).2 (by rw [qKc]; exact hj)] at this
    cases this
  · right
    have hx : ixB (b.drop k) mark = i := h1
    have e1 : (Lib.bytesOf (b.drop k)).length = (b.drop k).length := List.length_map ..
    rw [e1, List.length_drop] at h2
    refine ⟨i, ?_, by omega, ?_, fun j hj hh => ?_⟩
    · rw [hF, hx, if_neg (by omega), w64 (by omega) (by omega)]
      exact congrArg some (Prod.ext (by simp only; omega) rfl)
    · have := (hocc i).1 h3
      rw [qKc] at this
      exact this
    · have := h4 j hj
      rw [(hocc j).2 (by rw [qKc]; exact hh)] at this
      cases this
noncomputable def qCB (l : Int) (s : List Int) : Option (qfa × List Int × Nat) :=
  if qhy s ∧ (rdK s).2.2 = 0 then
    match qOi l (rdK s).1 with
    | some r => if r.2 = 0 then some ((rdK s).1.1, r.1, (rdK s).2.1.toNat) else none
    | none => none
  else none
noncomputable def sv (l : Int) : Nat → List Int → Nat → List qha
  | 0, _, _ => []
  | n + 1, s, k => match s with
    | [] => []
    | x :: s' => match qCB l (x :: s') with
      | some c => ((k : Int), (c.1, (c.2.1, ()))) :: sv l n ((x :: s').drop c.2.2) (k + c.2.2)
      | none => sv l n s' (k + 1)
theorem qoL {s : List Int} (h : (rdK s).2.2 = 0) : 41 ≤ s.length ∧ s.length ≤ 50000 ∧ qhy s ∧ hOK (rdK s).1.1 ∧ (rdK s).2.1 = 41 + (rdK s).1.1.2.2.2.2.1 ∧ (rdK s).2.1 ≤ s.length ∧ (rdK s).1.2.1 = (s.drop 41).take (rdK s).1.1.2.2.2.2.1.toNat ∧ (rdK s).1.1 = pH ((s.drop 13).take 28) := by
  unfold rdK at h ⊢
  by_cases h1 : s.length > 50000
  · rw [if_pos h1] at h; exact absurd h (by decide)
  rw [if_neg h1] at h ⊢
  by_cases h2 : s.length < 41
  · rw [if_pos h2] at h; exact absurd h (by decide)
  rw [if_neg h2] at h ⊢
  by_cases h3 : s.take 13 ≠ mark ∨ ¬ hOK (pH ((s.drop 13).take 28))
  · rw [if_pos h3] at h; exact absurd h (by decide)
  rw [if_neg h3] at h ⊢
  by_cases h4 : (s.length : Int) < 41 + (pH ((s.drop 13).take 28)).2.2.2.2.1
  · rw [if_pos h4] at h; exact absurd h (by decide)
  rw [if_neg h4]
  exact ⟨by omega, by omega, Classical.byContradiction fun k => h3 (Or.inl k), Classical.byContradiction fun k => h3 (Or.inr k), rfl, by simp only; omega, rfl, rfl⟩
theorem qtD {l : Int} {s : List Int} {c : qfa × List Int × Nat} (h : qCB l s = some c) : 42 ≤ c.2.2 ∧ c.2.2 ≤ s.length ∧ qhy s := by
  unfold qCB at h
  by_cases h1 : qhy s ∧ (rdK s).2.2 = 0
  · rw [if_pos h1] at h
    have hk := qoL h1.2
    have hl := qqw hk.2.2.2.1
    split at h
    · split at h
      · have := Option.some.inj h
        subst this
        simp only
        exact ⟨by omega, by omega, h1.1⟩
      · cases h
    · cases h
  · rw [if_neg h1] at h; cases h
theorem qTD (l : Int) : ∀ (n m : Nat) (s : List Int) (k : Nat), s.length ≤ n → s.length ≤ m → sv l n s k = sv l m s k
  | 0, 0, s, k, h1, h2 => rfl
  | 0, m + 1, s, k, h1, h2 => by
    obtain rfl : s = [] := List.length_eq_zero_iff.1 (by omega)
    rfl
  | n + 1, 0, s, k, h1, h2 => by
    obtain rfl : s = [] := List.length_eq_zero_iff.1 (by omega)
    rfl
  | n + 1, m + 1, s, k, h1, h2 => by
    cases s with
    | nil => rfl
    | cons x s' =>
      simp only [List.length_cons] at h1 h2
      simp only [sv]
      cases hc : qCB l (x :: s') with
      | some c =>
        have := qtD hc
        simp only
        rw [qTD l n m _ _ (by rw [List.length_drop, List.length_cons]; omega) (by rw [List.length_drop, List.length_cons]; omega)]
      | none =>
        simp only
        exact qTD l n m s' _ (by omega) (by omega)
noncomputable def svA (l : Int) (s : List Int) (k : Nat) : List qha := sv l s.length s k
theorem qBz {l : Int} {s : List Int} {c : qfa × List Int × Nat} (h : qCB l s = some c) (k : Nat) : svA l s k = ((k : Int), (c.1, (c.2.1, ()))) :: svA l (s.drop c.2.2) (k + c.2.2) := by
  have hl := qtD h
  cases s with
  | nil => simp only [List.length_nil] at hl; omega
  | cons x s' =>
    unfold svA
    rw [List.length_cons]
    simp only [sv, h]
    rw [qTD l s'.length _ _ _ (by rw [List.length_drop, List.length_cons]; omega) (Nat.le_refl _)]
theorem qlu {l : Int} {s : List Int} (h : qCB l s = none) (k : Nat) : svA l s k = svA l (s.drop 1) (k + 1) := by
  cases s with
  | nil => rfl
  | cons x s' =>
    unfold svA
    rw [List.length_cons]
    simp only [sv, h]
    rfl
theorem qRK {l : Int} {s : List Int} (h : ¬ qhy s) : qCB l s = none := by
  unfold qCB
  rw [if_neg (fun k => h k.1)]
theorem qHn {l : Int} : ∀ (i : Nat) (s : List Int) (k : Nat), (∀ j, j < i → ¬ qhy (s.drop j)) → svA l s k = svA l (s.drop i) (k + i)
  | 0, s, k, h => rfl
  | i + 1, s, k, h => by
    have h0 := h 0 (by omega)
    rw [List.drop_zero] at h0
    rw [qlu (qRK h0), qHn i (s.drop 1) (k + 1) (fun j hj => by
      have := h (j + 1) (by omega)
      rw [List.drop_drop, Nat.add_comm 1 j]; exact this), List.drop_drop]
    have e1 : 1 + i = i + 1 := by omega
    have e2 : k + 1 + i = k + (i + 1) := by omega
    rw [e1, e2]
theorem qGB {l : Int} {s : List Int} (h : ∀ j, ¬ qhy (s.drop j)) (k : Nat) : svA l s k = [] := by
  rw [qHn s.length s k (fun j _ => h j), List.drop_of_length_le (Nat.le_refl _)]
  rfl
def mv (d : Nat) (f : qha) : qha := (f.1 + d, f.2)
theorem qmx (l : Int) {b : List Int} (hb : Bts b) (hl : b.length ≤ 50000) : ∀ (n : Nat) (k : Nat) (out : List qha), b.length - k ≤ n → k ≤ b.length → out.length ≤ k →
    ((qVc b k).bind fun r => qyb l b r.1 r.2 out) = some (out ++ svA l (b.drop k) k, 0) := by
  intro n
  induction n using Nat.strongRecOn with
  | ind n ih =>
    intro k out hn hk ho
    rcases qYJ hb hl hk with ⟨h1, h2⟩ | ⟨i, h1, h2, h3, h4⟩
    · rw [h1, Option.bind_some, qkh, qGB h2, List.append_nil]
      exact Tot.eq (Tot.ifeq_neg (by decide) (Tot.so rfl))
    · rw [h1, Option.bind_some, qHn i _ k h4, List.drop_drop]
      rw [List.drop_drop] at h3
      have h13 := qiG h3
      rw [List.length_drop] at h13
      generalize hj : k + i = j at *
      have hR := qex (b.drop j) (hb.drop j)
      have e : (j : Int).toNat = j := Int.toNat_natCast j
      rw [qkh]
      simp only [Int.ofNat_eq_natCast, e]
      refine Tot.eq (Tot.ifeq_pos rfl (Tot.g (by omega) (Tot.g (by omega) (Tot.be hR ?_))))
      have next : ∀ (m : Nat) (o : List qha), 1 ≤ m → j + m ≤ b.length → o.length ≤ j + m → ((qVc b (IntKind.wrap .i64 ((j : Int) + (m : Int)))).bind fun r => qyb l b r.1 r.2 o) = some (o ++ svA l (b.drop (j + m)) (j + m), 0) := by
        intro m o hm hjm ho'
        rw [w64 (by omega) (by omega)]
        have e2 : (j : Int) + (m : Int) = ((j + m : Nat) : Int) := by omega
        rw [e2]
        exact ih (b.length - (j + m)) (by omega) (j + m) o (Nat.le_refl _) hjm ho'
      have n1 := next 1 out (Nat.le_refl _) (by omega) (by omega)
      rw [show ((1 : Nat) : Int) = 1 from rfl] at n1
      refine Tot.ifne (fun hr => ?_) (fun hr => ?_)
      · have hc : qCB l (b.drop j) = none := by
          unfold qCB
          rw [if_neg (fun k => hr k.2)]
        rw [qlu hc, List.drop_drop]
        exact Tot.of_eq n1 rfl
      · have hk' := qoL hr
        have hlen := qqw hk'.2.2.2.1
        have hxb : Bts (((b.drop j).drop 13).take 28) := ((hb.drop _).drop _).take _
        have hm : 0 ≤ (rdK (b.drop j)).1.1.1 ∧ (rdK (b.drop j)).1.1.1 < 256 := by rw [hk'.2.2.2.2.2.2.2]; exact qQL hxb
        obtain ⟨r4, e4, hr4⟩ := qUN l (b := (rdK (b.drop j)).1) hm (by rw [hk'.2.2.2.2.2.2.1]; exact ((hb.drop _).drop _).take _)
        refine Tot.be e4 (Tot.ifne (fun hr2 => ?_) (fun hr2 => ?_))
        · have hc : qCB l (b.drop j) = none := by
            unfold qCB
            rw [if_pos ⟨h3, hr⟩, e4]
            simp only
            rw [if_neg hr2]
          rw [qlu hc, List.drop_drop]
          exact Tot.of_eq n1 rfl
        · have hc : qCB l (b.drop j) = some ((rdK (b.drop j)).1.1, r4.1, (rdK (b.drop j)).2.1.toNat) := by
            unfold qCB
            rw [if_pos ⟨h3, hr⟩, e4]
            simp only
            rw [if_pos hr2]
          have hdl := hk'.2.2.2.2.2.1
          rw [List.length_drop] at hdl
          have nn := next (rdK (b.drop j)).2.1.toNat (out ++ [((j : Int), ((rdK (b.drop j)).1.1, (r4.1, ())))]) (by omega) (by omega) (by rw [List.length_append, List.length_singleton]; omega)
          have e5 : (((rdK (b.drop j)).2.1.toNat : Nat) : Int) = (rdK (b.drop j)).2.1 := by omega
          rw [e5] at nn
          rw [qBz hc, List.drop_drop]
          refine Tot.g (by rw [List.length_append, List.length_singleton]; omega) (Tot.of_eq nn ?_)
          rw [List.append_assoc]
          rfl
theorem qEn (l : Int) {b : List Int} (hb : Bts b) : qOb l b = some (if ¬ (0 ≤ l ∧ l ≤ 7) then ([], 2) else if b.length > 50000 then ([], 4) else (svA l b 0, 0)) := by
  rw [qwq]
  simp only [Int.ofNat_eq_natCast]
  by_cases h0 : l < 0
  · exact Tot.eq (Tot.ifd_pos h0 (Tot.so (by rw [if_pos (show ¬ (0 ≤ l ∧ l ≤ 7) by omega)])))
  by_cases h1 : l > 7
  · exact Tot.eq (Tot.ifd_neg h0 (Tot.ifd_pos h1 (Tot.so (by rw [if_pos (show ¬ (0 ≤ l ∧ l ≤ 7) by omega)]))))
  by_cases h2 : b.length > 50000
  · exact Tot.eq (Tot.ifd_neg h0 (Tot.ifd_neg h1 (Tot.ifd_pos (by omega) (Tot.so (by rw [if_neg (show ¬ ¬ (0 ≤ l ∧ l ≤ 7) by omega), if_pos h2])))))
  have := qmx l hb (by omega) b.length 0 [] (by omega) (by omega) (by rw [List.length_nil]; omega)
  rw [show ((0 : Nat) : Int) = 0 from rfl] at this
  exact Tot.eq (Tot.ifd_neg h0 (Tot.ifd_neg h1 (Tot.ifd_neg (by omega) (Tot.of_eq this (by rw [if_neg (show ¬ ¬ (0 ≤ l ∧ l ≤ 7) by omega), if_neg h2, List.drop_zero, List.nil_append])))))
end Go.Ab

/-
  Chapter 34: the example.
-/
set_option linter.unusedVariables false
set_option linter.unusedSimpArgs false
set_option maxRecDepth 10000
namespace Go.Ab
open Go
attribute [local irreducible] IntKind.wrap
theorem qFN {h : qfa} (ok : hOK h) (hs : h.2.2.2.2.2.1.length = 20) : pH (hB h) = h := by
  obtain ⟨m, mem, off, raw, len, sum, u⟩ := h
  have e : pH (hB (m, mem, off, raw, len, sum, u)) = (m % 256, (mem % 256, (off / 256 % 256 * 256 + off % 256, (raw / 256 % 256 * 256 + raw % 256, (len / 256 % 256 * 256 + len % 256, (sum, ())))))) := rfl
  rw [e]
  unfold hOK at ok
  simp only at ok
  have e1 : m % 256 = m := by omega
  have e2 : mem % 256 = mem := by omega
  have e3 : off / 256 % 256 * 256 + off % 256 = off := by omega
  have e4 : raw / 256 % 256 * 256 + raw % 256 = raw := by omega
  have e5 : len / 256 % 256 * 256 + len % 256 = len := by omega
  rw [e1, e2, e3, e4, e5]
theorem qHM {b : qPa} {more : List Int} (hc : bC b = 0) (hw : bWf b) (hl : more.length ≤ 40000) : rdK (bB b ++ more) = (b, (b.1.2.2.2.2.1 + 41, 0)) := by
  have ok : hOK b.1 ∧ (b.2.1.length : Int) = b.1.2.2.2.2.1 := by
    unfold bC at hc; split at hc
    · assumption
    · cases hc
  have hlen := qqw ok.1
  have hhl : (hB b.1).length = 28 := by unfold hB; rw [List.length_append, qtw, hw.2]
  have hL : (bB b ++ more).length = 41 + b.2.1.length + more.length := by
    unfold bB; simp only [List.length_append, qKc, hhl]
  have hw13 : (bB b ++ more).take 13 = mark := by
    unfold bB
    rw [List.append_assoc, List.append_assoc, List.take_append_of_le_length (by rw [qKc]; omega)]
    rfl
  have qhy : ((bB b ++ more).drop 13).take 28 = hB b.1 := by
    unfold bB
    rw [List.append_assoc, List.append_assoc, List.drop_append_of_le_length (by rw [qKc]; omega), List.drop_of_length_le (by rw [qKc]; omega), List.nil_append, List.take_append_of_le_length (by omega), List.take_of_length_le (by omega)]
  have hd41 : (bB b ++ more).drop 41 = b.2.1 ++ more := by
    have e : bB b ++ more = (mark ++ hB b.1) ++ (b.2.1 ++ more) := by unfold bB; simp only [List.append_assoc]
    have e2 : (mark ++ hB b.1).length = 41 := by rw [List.length_append, qKc, hhl]
    rw [e, List.drop_append_of_le_length (by omega), List.drop_of_length_le (by omega), List.nil_append]
  unfold rdK
  rw [qhy, qFN ok.1 hw.2, if_neg (show ¬ (bB b ++ more).length > 50000 by omega), if_neg (show ¬ (bB b ++ more).length < 41 by omega), if_neg (fun h => h.elim (fun h => h hw13) (fun h => h ok.1)), if_neg (by omega), hd41]
  have e : b.1.2.2.2.2.1.toNat = b.2.1.length := by omega
  rw [e, List.take_append_of_le_length (Nat.le_refl _), List.take_length, Int.add_comm]
def exA : ByteArray := ByteArray.mk #[97]
def exR : List qba := [(exA, (1, (qUi [7], ())))]
def exF : List Int := [66, 76, 70, 1, 0, 0, 16, 1] ++ ([1, 97, 0, 1] ++ qUi [7])
def exH : List Int := exF ++ qUi exF
def exB : qPa := qUD 0 0 [7]
def exW : List Int := exH ++ bB exB
theorem b7 : Bts [7] := Bts.cons (by decide) Bts.nil
theorem m7 : mOK 0 0 [7] := by decide
theorem qjJ : exF.length = 32 := by unfold exF; simp only [List.length_append, qif]; rfl
theorem qvl : exH.length = 52 := by unfold exH; rw [List.length_append, qjJ, qif]
theorem qyL : bC exB = 0 := qWH m7
theorem qZM : bB exB = mark ++ ([1, 0, 0, 0, 0, 1, 0, 1] ++ qUi [1, 0, 0, 0, 0, 1, 0, 1, 7]) ++ [7] := rfl
theorem qvu : (bB exB).length = 42 := by rw [qZM]; simp only [List.length_append, qKc, qif]; rfl
theorem qcw {l : List Int} (h : l.all (fun x => decide (0 ≤ x) && decide (x < 256)) = true) : Bts l := by
  intro x hx
  have := List.all_eq_true.1 h x hx
  rw [Bool.and_eq_true, decide_eq_true_eq, decide_eq_true_eq] at this
  exact this
theorem qbM : Bts exF := Bts.append (qcw (by decide)) (Bts.append (qcw (by decide)) (qNz _))
theorem qJK : Bts (bB exB) := by rw [qZM]; exact Bts.append (Bts.append qru (Bts.append (qcw (by decide)) (qNz _))) b7
theorem qXE : Bts exW := Bts.append (Bts.append qbM (qNz _)) qJK
theorem qOA : exW.length = 94 := by unfold exW; rw [List.length_append, qvl, qvu]
theorem qXM : qnd exA = some true := by
  rw [qVh, qgc]
  have e : qGr exA (Int.toNat 0) = 97 := by decide
  rw [e, w64 (x := 0 + 1) (by decide) (by decide)]
  refine Tot.eq (Tot.ifd_neg (by decide) (Tot.ifd_neg (by decide) (Tot.ifd_pos (by decide) (Tot.g (by decide) (Tot.g (by decide) (Tot.ifd_neg (by decide) (Tot.g (by decide) (Tot.g (by decide) (Tot.ifd_neg (by decide) ?_)))))))))
  rw [qgc]
  exact Tot.ifd_neg (by decide) (Tot.so rfl)
theorem qkO : qQi [(exA, ([7], ()))] = some (exR, 0) := by
  have hl : Int.ofNat (List.length [(exA, (([7] : List Int), ()))]) = 1 := rfl
  have g0 : List.getD [(exA, (([7] : List Int), ()))] (Int.toNat 0) (qpa qza) = (exA, ([7], ())) := rfl
  have hc : qYd [(exA, ([7], ()))] = some 0 := by
    rw [qpn, qNf, hl, g0]
    refine Tot.eq (Tot.ifd_neg (by decide) (Tot.ifd_pos (by decide) (Tot.g (by decide) (Tot.g (by decide) ?_))))
    have e1 : IntKind.wrap .i64 (0 + Int.ofNat (List.length ([7] : List Int))) = 1 := w64 (by decide) (by decide)
    have e2 : IntKind.wrap .i64 (0 + 1) = 1 := w64 (by decide) (by decide)
    simp only
    rw [e1, e2, qNf, hl]
    refine Tot.ifd_neg (by decide) (Tot.ifd_neg (by decide) ?_)
    rw [qMf, hl, g0, e2]
    refine Tot.ifd_pos (by decide) (Tot.g (by decide) (Tot.g (by decide) (Tot.be qXM (Tot.ifn (fun k => absurd k (by decide)) (fun _ => ?_)))))
    rw [qMf, hl]
    refine Tot.ifd_neg (by decide) ?_
    rw [qLf, hl]
    refine Tot.ifd_pos (by decide) ?_
    rw [qXk, e2]
    refine Tot.ifd_neg (by decide) ?_
    rw [qLf, hl]
    exact Tot.ifd_neg (by decide) (Tot.so rfl)
  have e2 : IntKind.wrap .i64 (0 + 1) = 1 := w64 (by decide) (by decide)
  have hrec : qvf (exA, ([7], ())) = some (exA, (1, (qUi [7], ()))) := by
    rw [qgm]
    exact Tot.eq (Tot.be (qnx [7] (by decide)) (Tot.so rfl))
  rw [qvr]
  refine Tot.eq (Tot.be hc (Tot.ifne_neg rfl ?_))
  rw [qBh, hl, g0, e2]
  refine Tot.ifd_pos (by decide) (Tot.g (by decide) (Tot.g (by decide) (Tot.be hrec (Tot.g (by show 1 * 48 ≤ _; decide) ?_))))
  rw [qBh, hl]
  exact Tot.ifd_neg (by decide) (Tot.so rfl)
theorem qEx : qBg exB.1 = some (hB exB.1) := by
  have hs : exB.1.2.2.2.2.2.1.length = 20 := qif _
  rw [qvn]
  refine Tot.eq (Tot.be (qKh _ ⟨by show (0:Int) ≤ 1; decide, by show (1:Int) < 256; decide⟩) ?_)
  rw [List.drop_zero, List.take_of_length_le (by omega)]
  exact Tot.g (by rw [List.length_append, qtw]; omega) (Tot.so rfl)
theorem qWC : qXe = some (exW, exR) := by
  have hfr : qvg (0, (16, ())) (Int.ofNat exR.length) = some [66, 76, 70, 1, 0, 0, 16, 1] := by
    rw [qln]
    refine Tot.eq (Tot.g (by decide) (Tot.so ?_))
    simp only [wu8]
    decide
  have e2 : IntKind.wrap .i64 (0 + 1) = 1 := w64 (by decide) (by decide)
  have hl : Int.ofNat exR.length = 1 := rfl
  have g0 : List.getD exR (Int.toNat 0) (qpa T_api_Record) = (exA, (1, (qUi [7], ()))) := rfl
  have hby : qyg exR = some ([1, 97, 0, 1] ++ qUi [7]) := by
    rw [qqn, qOf, hl, g0, e2]
    simp only
    have o1 : qAd exA = [97] := by decide
    have o2 : Int.ofNat (ByteArray.size exA) = 1 := rfl
    have o3 : List.take 20 (List.drop 0 (qUi [7])) = qUi [7] := by rw [List.drop_zero, List.take_of_length_le (by rw [qif]; decide)]
    rw [o1, o2, o3]
    simp only [wu8]
    have o4 : (([] ++ [(1 : Int) % 256]) ++ [97] ++ [Int.fdiv 1 256 % 256, 1 % 256]) = [1, 97, 0, 1] := by decide
    rw [o4]
    refine Tot.eq (Tot.ifd_pos (by decide) (Tot.g (by decide) (Tot.g (by decide) (Tot.g (by decide) (Tot.g (by decide) (Tot.g (by decide) (Tot.g (by decide) (Tot.g ?_ ?_))))))))
    · rw [List.length_append, qif]; decide
    · rw [qOf, hl]
      exact Tot.ifd_neg (by decide) (Tot.so rfl)
  have hhd : qwg (0, (16, ())) exR = some exH := by
    have o3 : List.take 20 (List.drop 0 (qUi exF)) = qUi exF := by rw [List.drop_zero, List.take_of_length_le (by rw [qif]; decide)]
    have hFl := qjJ
    rw [qmn]
    refine Tot.eq (Tot.be hfr (Tot.be hby ?_))
    show Tot (gd (exF.length * 1 ≤ 140737488355328) <| (qRb exF).bind fun r3 => gd ((exF ++ List.take 20 (List.drop 0 r3)).length * 1 ≤ 140737488355328) <| some (exF ++ List.take 20 (List.drop 0 r3))) _
    refine Tot.g (by omega) (Tot.be (qnx exF (by omega)) ?_)
    rw [o3]
    exact Tot.g (by rw [List.length_append, qif]; omega) (Tot.so rfl)
  have hmd : qUg 0 0 [7] [7] = some exB := by
    rw [qno]
    refine Tot.eq (Tot.g (by decide) (Tot.ifd_neg (by decide) (Tot.be (qVz _ ⟨by decide, by decide⟩ (by decide)) (Tot.so rfl))))
  have hbb : qzg exB = some (bB exB) := by
    have hl2 : (mark ++ hB exB.1).length = 41 := by unfold hB; simp only [List.length_append, qKc, qtw]; show 13 + (8 + (qUi _).length) = 41; rw [qif]
    rw [qrn]
    refine Tot.eq (Tot.be qFt (Tot.be qEx (Tot.g (by omega) (Tot.g (by rw [List.length_append, hl2]; decide) (Tot.so rfl)))))
  have hjn : qTg exH [exB] = some exW := by
    have hl3 : Int.ofNat (List.length [exB]) = 1 := rfl
    have g3 : List.getD [exB] (Int.toNat 0) (qpa qXb) = exB := rfl
    have hHl := qvl
    have hBl := qvu
    rw [qho, List.nil_append, qug, hl3, g3, e2]
    refine Tot.eq (Tot.g (by omega) (Tot.ifd_pos (by decide) (Tot.g (by decide) (Tot.g (by decide) (Tot.be hbb (Tot.g (by rw [List.length_append]; omega) ?_))))))
    rw [qug, hl3]
    exact Tot.ifd_neg (by decide) (Tot.so rfl)
  rw [qGl]
  refine Tot.eq (Tot.be qkO (Tot.be hhd (Tot.be hmd (Tot.be hjn (Tot.so rfl)))))
set_option maxRecDepth 100000 in
theorem qHK : ∀ j : Fin 52, ¬ qhy (exW.drop j.val) := by decide +kernel
theorem qJN {l : Int} (hl : 0 ≤ l ∧ l ≤ 7) : qOi l exB = some ([7], 0) := by
  rw [qyz hl rfl qyL b7]; exact congrArg some (if_pos rfl)
def qtN (k : Int) : qha := (k, (exB.1, ([7], ())))
theorem qLJ {l : Int} (hl : 0 ≤ l ∧ l ≤ 7) : qCB l (bB exB) = some (exB.1, [7], 42) := by
  have hr := qHM (more := []) qyL (qYy 0 0 [7]) (by show 0 ≤ 40000; decide)
  rw [List.append_nil] at hr
  have h13 : qhy (bB exB) := by rw [qZM]; rfl
  unfold qCB
  rw [hr, if_pos ⟨h13, rfl⟩]
  simp only
  rw [qJN hl]
  rfl
theorem qCN {l : Int} (hl : 0 ≤ l ∧ l ≤ 7) : svA l exW 0 = [qtN 52] := by
  have hd : exW.drop 52 = bB exB := by
    unfold exW
    rw [List.drop_append_of_le_length (by rw [qvl]; decide), List.drop_of_length_le (by rw [qvl]; decide), List.nil_append]
  rw [qHn 52 exW 0 (fun j hj => qHK ⟨j, hj⟩), hd, qBz (qLJ hl)]
  simp only
  rw [List.drop_of_length_le (by rw [qvu]; decide)]
  rfl
end Go.Ab

/-
  Chapter 34: qSb; bytes before others.
-/
set_option linter.unusedVariables false
set_option linter.unusedSimpArgs false
set_option maxRecDepth 10000
namespace Go.Ab
open Go
attribute [local irreducible] IntKind.wrap
def exZ : List Int := List.replicate 10 0 ++ exW
set_option maxRecDepth 100000 in
theorem qGK : ∀ j : Fin 62, ¬ qhy (exZ.drop j.val) := by decide +kernel
theorem qZL : Bts exZ := Bts.append (fun x hx => by rw [List.eq_of_mem_replicate hx]; omega) qXE
theorem qyM {l : Int} (hl : 0 ≤ l ∧ l ≤ 7) : svA l exZ 0 = [qtN 62] := by
  have hd : exZ.drop 62 = bB exB := by
    have e : exZ = (List.replicate 10 0 ++ exH) ++ bB exB := by unfold exZ exW; rw [List.append_assoc]
    have e2 : (List.replicate 10 (0:Int) ++ exH).length = 62 := by rw [List.length_append, qvl, List.length_replicate]
    rw [e, List.drop_append_of_le_length (by omega), List.drop_of_length_le (by omega), List.nil_append]
  rw [qHn 62 exZ 0 (fun j hj => qGK ⟨j, hj⟩), hd, qBz (qLJ hl)]
  simp only
  rw [List.drop_of_length_le (by rw [qvu]; decide)]
  rfl
def exC : List Int := exH ++ (mark ++ ([1, 0, 0, 0, 0, 1, 0, 1] ++ qUi [1, 0, 0, 0, 0, 1, 0, 1, 7]) ++ [8])
def qdM : qPa := (exB.1, ([8], ()))
theorem qYM : bB qdM = mark ++ ([1, 0, 0, 0, 0, 1, 0, 1] ++ qUi [1, 0, 0, 0, 0, 1, 0, 1, 7]) ++ [8] := rfl
theorem qYE : exW.set 93 8 = exC := by
  have h : exW = (exH ++ (mark ++ ([1, 0, 0, 0, 0, 1, 0, 1] ++ qUi [1, 0, 0, 0, 0, 1, 0, 1, 7]))) ++ [7] := by unfold exW; rw [qZM]; simp only [List.append_assoc]
  have hl : (exH ++ (mark ++ ([1, 0, 0, 0, 0, 1, 0, 1] ++ qUi [1, 0, 0, 0, 0, 1, 0, 1, 7]))).length = 93 := by simp only [List.length_append, qvl, qKc, qif]; rfl
  have h2 : exC = (exH ++ (mark ++ ([1, 0, 0, 0, 0, 1, 0, 1] ++ qUi [1, 0, 0, 0, 0, 1, 0, 1, 7]))) ++ [8] := by unfold exC; simp only [List.append_assoc]
  rw [h, h2, List.set_append_right _ _ (by omega), hl]
  rfl
set_option maxRecDepth 100000 in
theorem qIK : ∀ j : Fin 52, ¬ qhy (exC.drop j.val) := by decide +kernel
set_option maxRecDepth 100000 in
theorem qlJ : ∀ j : Fin 41, ¬ qhy (exC.drop (53 + j.val)) := by decide +kernel
set_option maxRecDepth 100000 in
theorem qAM : qUi [1, 0, 0, 0, 0, 1, 0, 1, 8] ≠ qUi [1, 0, 0, 0, 0, 1, 0, 1, 7] := by decide +kernel
theorem qkJ : exC.length = 94 := by rw [← qYE, List.length_set, qOA]
theorem qcM : Bts exC := by rw [← qYE]; exact qJd qXE (by decide) _
theorem qzM {l : Int} (hl : 0 ≤ l ∧ l ≤ 7) : svA l exC 0 = [] := by
  have hd : exC.drop 52 = bB qdM := by
    unfold exC
    rw [List.drop_append_of_le_length (by rw [qvl]; decide), List.drop_of_length_le (by rw [qvl]; decide), List.nil_append, qYM]
  have hc : bC qdM = 0 := if_pos ⟨qmz m7 _, rfl⟩
  have hr := qHM (b := qdM) (more := []) hc (qYy 0 0 [7]) (by show 0 ≤ 40000; decide)
  rw [List.append_nil] at hr
  have hraw : qOi l qdM = some ([], 22) := by
    rw [qyz hl rfl hc (qcw (by decide))]
    exact congrArg some (if_neg qAM)
  have h13 : qhy (bB qdM) := by rw [qYM]; rfl
  have hn : qCB l (bB qdM) = none := by
    unfold qCB
    rw [hr, if_pos ⟨h13, rfl⟩]
    simp only
    rw [hraw]
    rfl
  rw [qHn 52 exC 0 (fun j hj => qIK ⟨j, hj⟩), hd, qlu hn, ← hd, List.drop_drop]
  refine qGB (fun j => ?_) _
  rw [List.drop_drop]
  by_cases h : j < 41
  · exact qlJ ⟨j, h⟩
  · rw [List.drop_of_length_le (by rw [qkJ]; omega)]
    decide
theorem qaM : qrh exR = some 0 := by
  have hl : Int.ofNat exR.length = 1 := rfl
  have g0 : List.getD exR (Int.toNat 0) (qpa T_api_Record) = (exA, (1, (qUi [7], ()))) := rfl
  have e2 : IntKind.wrap .i64 (0 + 1) = 1 := w64 (by decide) (by decide)
  have hn : qci exA = some true := by
    have hs : Int.ofNat (ByteArray.size exA) = 1 := rfl
    have e : qGr exA (Int.toNat 0) = 97 := by decide
    rw [qWl, qBd, hs, e, e2]
    refine Tot.eq (Tot.ifd_pos (by decide) (Tot.g (by decide) (Tot.g (by decide) (Tot.ifd_neg (by decide) (Tot.g (by decide) (Tot.g (by decide) (Tot.ifd_neg (by decide) ?_)))))))
    rw [qBd, hs]
    exact Tot.ifd_neg (by decide) (Tot.ifd_pos (by decide) (Tot.so (by decide)))
  have ht : qsj [exA] = some false := by
    have hl3 : Int.ofNat (List.length [exA]) = 1 := rfl
    rw [qzm, qSd, hl3, e2]
    refine Tot.eq (Tot.ifd_pos (by decide) (Tot.g (by decide) (Tot.g (by decide) (Tot.it (fun k => absurd k (by decide)) (fun _ => ?_)))))
    rw [qSd]
    exact Tot.ifd_neg (by decide) (Tot.so rfl)
  rw [qBm, qTd, hl, g0, e2]
  simp only
  refine Tot.eq (Tot.ifd_neg (by decide) (Tot.ifd_pos (by decide) (Tot.g (by decide) (Tot.g (by decide) (Tot.be hn (Tot.ifn (fun k => absurd k (by decide)) (fun _ => Tot.ifd_neg (by decide) (Tot.ifd_neg (by decide) (Tot.ifeq_neg (by decide) (Tot.g (by show 1 * 16 ≤ _; decide) ?_))))))))))
  rw [qTd]
  refine Tot.ifd_neg (by decide) (Tot.ifd_neg (by decide) (Tot.be ht (Tot.iff_ (Tot.so rfl))))
theorem qiJ : qfd exR [] = some ([(exA, ([0], ()))], ([false], 0)) := by
  have hl : Int.ofNat exR.length = 1 := rfl
  have g0 : List.getD exR (Int.toNat 0) (qpa T_api_Record) = (exA, (1, (qUi [7], ()))) := rfl
  have e2 : IntKind.wrap .i64 (0 + 1) = 1 := w64 (by decide) (by decide)
  have hz : Int.ofNat (List.length ([] : List qha)) = 0 := rfl
  have hz2 : Int.ofNat (List.length ([] : List qxa)) = 0 := rfl
  have hck : qZh exR [] = some 0 := by
    rw [qPl, qrf, hz]
    exact Tot.eq (Tot.be qaM (Tot.ifne_neg rfl (Tot.ifd_neg (by decide) (Tot.ifd_neg (by decide) (Tot.so rfl)))))
  have hpt : qag exR [] = some ([], 0) := by
    rw [qQl, qsf, hz]
    exact Tot.eq (Tot.be hck (Tot.ifne_neg rfl (Tot.ifd_neg (by decide) (Tot.so rfl))))
  have hsum : qNr [0] = some (qUi [0], 0) := by rw [qZn [0] (qcw (by decide)), if_pos (by decide)]
  rw [qdj]
  refine Tot.eq (Tot.be hpt (Tot.ifne_neg rfl ?_))
  simp only
  rw [qEc, hl, g0, hz2]
  refine Tot.ifd_pos (by decide) (Tot.g (by decide) (Tot.g (by decide) (Tot.g (by first | rfl | trivial) (Tot.g (by decide) (Tot.g (by decide) (Tot.g (by decide) ?_))))))
  have hrep : List.replicate (Int.toNat 1) (0:Int) = [0] := rfl
  rw [hrep, qke, e2]
  refine Tot.ifd_neg (by decide) (Tot.be hsum (Tot.g (by show 1 * 40 ≤ _; decide) (Tot.ifeq_neg (by decide) (Tot.g (by decide) ?_))))
  rw [qEc]
  exact Tot.ifd_neg (by decide) (Tot.so rfl)
theorem qmM : qGg = some true := by
  have h3 : (0:Int) ≤ 3 ∧ (3:Int) ≤ 7 := by decide
  have hW : qOb 3 exW = some ([qtN 52], 0) := by
    rw [qEn 3 qXE, if_neg (by decide), if_neg (by rw [qOA]; decide), qCN h3]
  have hZ : qOb 3 (List.replicate 10 0 ++ exW) = some ([qtN 62], 0) := by
    have hl : exZ.length = 104 := by unfold exZ; rw [List.length_append, qOA, List.length_replicate]
    have := qEn 3 qZL
    rw [if_neg (by decide), if_neg (by omega), qyM h3] at this
    exact this
  have hC : qOb 3 exC = some ([], 0) := by
    rw [qEn 3 qcM, if_neg (by decide), if_neg (by rw [qkJ]; decide), qzM h3]
  have hwl := qOA
  have hlen : Int.ofNat (List.length exW) = 94 := by rw [hwl]; rfl
  have hg : exW.getD 93 0 = 7 := by
    have h : exW = (exH ++ (mark ++ ([1, 0, 0, 0, 0, 1, 0, 1] ++ qUi [1, 0, 0, 0, 0, 1, 0, 1, 7]))) ++ [7] := by unfold exW; rw [qZM]; simp only [List.append_assoc]
    have hl : (exH ++ (mark ++ ([1, 0, 0, 0, 0, 1, 0, 1] ++ qUi [1, 0, 0, 0, 0, 1, 0, 1, 7]))).length = 93 := by simp only [List.length_append, qvl, qKc, qif]; rfl
    rw [h, List.getD_eq_getElem?_getD, List.getElem?_append_right (by omega), hl]
    rfl
  have hw93 : IntKind.wrap .i64 (94 - 1) = 93 := w64 (by decide) (by decide)
  have hw8 : IntKind.wrap .u8 (7 + 1) = 8 := by rw [wu8]; decide
  have hsm : qmd [(exA, (([0] : List Int), ()))] [(exA, ([0], ()))] = some true := by
    have hl : Int.ofNat (List.length [(exA, (([0] : List Int), ()))]) = 1 := rfl
    have e2 : IntKind.wrap .i64 (0 + 1) = 1 := w64 (by decide) (by decide)
    rw [qPi, qvd, hl, e2]
    refine Tot.eq (Tot.ifne_neg rfl (Tot.ifd_pos (by decide) (Tot.g (by decide) (Tot.g (by decide) (Tot.g (by decide) (Tot.g (by decide) (Tot.ifn (fun k => absurd k (by simp)) (fun _ => Tot.g (by decide) (Tot.g (by decide) (Tot.g (by decide) (Tot.g (by decide) (Tot.ifn (fun k => absurd k (by simp)) (fun _ => ?_)))))))))))))
    rw [qvd, hl]
    exact Tot.ifd_neg (by decide) (Tot.so rfl)
  have hsb : qLd [false] [false] = some true := by
    have hl : Int.ofNat (List.length [false]) = 1 := rfl
    have e2 : IntKind.wrap .i64 (0 + 1) = 1 := w64 (by decide) (by decide)
    rw [qsk, qWd, hl, e2]
    refine Tot.eq (Tot.ifne_neg rfl (Tot.ifd_pos (by decide) (Tot.g (by decide) (Tot.g (by decide) (Tot.g (by decide) (Tot.g (by decide) (Tot.ifn (fun k => absurd k (by decide)) (fun _ => ?_))))))))
    rw [qWd, hl]
    exact Tot.ifd_neg (by decide) (Tot.so rfl)
  rw [qyn]
  refine Tot.eq (Tot.be qWC (Tot.be hW ?_))
  simp only [List.nil_append]
  rw [hlen, hw93]
  have e93 : 0 + Int.toNat 93 = 93 := rfl
  rw [e93, hg, hw8, qYE]
  refine Tot.g (by first | rfl | trivial) (Tot.g (by decide) (Tot.g (by decide) (Tot.g (by decide) (Tot.g (by rw [List.length_append, hwl]; decide) (Tot.be hZ (Tot.g (by rw [hwl]; decide) (Tot.g (by decide) (Tot.g (by decide) (Tot.g (by decide) (Tot.g (by decide) (Tot.be hC (Tot.be qiJ ?_))))))))))))
  refine Tot.ifeq_pos rfl (Tot.ifeq_pos rfl (Tot.g (by decide) (Tot.g (by decide) (Tot.ifeq_pos rfl (Tot.g (by decide) (Tot.g (by decide) (Tot.it (fun _ => ?_) (fun k => absurd ?_ k))))))))
  · refine Tot.ifeq_pos rfl (Tot.ifeq_pos rfl (Tot.g (by decide) (Tot.g (by decide) (Tot.ifeq_pos rfl (Tot.ifeq_pos rfl (Tot.ifeq_pos rfl (Tot.ifeq_pos rfl (Tot.be hsm (Tot.ift_ (Tot.be hsb (Tot.so rfl)))))))))))
  · rw [beq_iff_eq]
    rfl
end Go.Ab

/-
  Chapter 34: bytes before others.
-/
set_option linter.unusedVariables false
set_option linter.unusedSimpArgs false
set_option maxRecDepth 10000
namespace Go.Ab
open Go
attribute [local irreducible] IntKind.wrap
end Go.Ab

/-
  Records, parts and members: what chapter 34 leans on.
-/
set_option linter.unusedVariables false
set_option linter.unusedSimpArgs false
set_option maxHeartbeats 1000000
namespace Go.Ab
open Go
attribute [local irreducible] IntKind.wrap
theorem qcO (a b : ByteArray) : (ByteArray.toList a == ByteArray.toList b) = decide (a = b) := by
  rw [Bool.eq_iff_iff, beq_iff_eq, decide_eq_true_eq]
  exact ⟨fun h => toList_inj h, fun h => by rw [h]⟩
theorem qKq (s : ByteArray) : (qAd s).length = s.size := by
  unfold qAd
  rw [List.length_map, Array.length_toList]; rfl
def okC (x : Int) : Bool := decide (33 ≤ x) && decide (x ≤ 126)
def qTL (s : ByteArray) : Bool := (qAd s).all okC && decide (1 ≤ s.size) && decide (s.size ≤ 40)
theorem qrJ {xs : List Int} {i : Nat} (h : i < xs.length) : xs.drop i = xs.getD i 0 :: xs.drop (i + 1) := by
  rw [List.drop_eq_getElem_cons h, List.getD_eq_getElem?_getD, List.getElem?_eq_getElem h]; rfl
theorem qxC (s : ByteArray) (hs : s.size ≤ 9223372036854775807) : ∀ (k i : Nat), i + k = s.size → qkf s (s.size : Int) (i : Int) = some (((qAd s).drop i).all okC && decide (1 ≤ s.size) && decide (s.size ≤ 40))
  | 0, i, e => by
    have hd : (qAd s).drop i = [] := List.drop_eq_nil_of_le (by rw [qKq]; omega)
    rw [qBd, if_neg (by simp; omega), hd]
    have hl : Int.ofNat s.size = (s.size : Int) := rfl
    rw [hl]
    by_cases h : 1 ≤ s.size
    · rw [if_pos (by simp; omega)]
      simp [h]; omega
    · rw [if_neg (by rw [decide_eq_true_eq]; omega)]
      simp [h]
  | k + 1, i, e => by
    have hi : i < (qAd s).length := by rw [qKq]; omega
    have hb : qGr s ((i : Int)).toNat = (qAd s).getD i 0 := by rw [Int.toNat_natCast]; rfl
    rw [qBd, if_pos (by simp; omega), qga (by omega), qga (by omega), hb, qrJ hi, w64 (by omega) (by omega)]
    have ih := qxC s hs k (i + 1) (by omega)
    rw [show ((i + 1 : Nat) : Int) = (i : Int) + 1 by omega] at ih
    by_cases h1 : (qAd s).getD i 0 ≤ 32
    · rw [if_pos (by simpa using h1)]
      have : okC ((qAd s).getD i 0) = false := by simp only [okC, Bool.and_eq_false_iff, decide_eq_false_iff_not]; left; omega
      simp only [List.all_cons, this, Bool.false_and]
    · rw [if_neg (by simpa using h1), qga (by omega), qga (by omega)]
      by_cases h2 : (qAd s).getD i 0 > 126
      · rw [if_pos (by simpa using h2)]
        have : okC ((qAd s).getD i 0) = false := by simp only [okC, Bool.and_eq_false_iff, decide_eq_false_iff_not]; right; omega
        simp only [List.all_cons, this, Bool.false_and]
      · rw [if_neg (by simpa using h2), ih]
        have : okC ((qAd s).getD i 0) = true := by simp only [okC, Bool.and_eq_true, decide_eq_true_eq]; omega
        simp only [List.all_cons, this, Bool.true_and]
theorem qYq (s : ByteArray) (hs : s.size ≤ 9223372036854775807) : qci s = some (qTL s) := by
  rw [qWl]
  exact qxC s hs s.size 0 (by omega)
theorem qVJ (s : ByteArray) (hs : s.size ≤ 9223372036854775807) : ∀ (k i : Nat), i + k = s.size → qad s (i : Int) = some (((qAd s).drop i).all okC)
  | 0, i, e => by
    have hd : (qAd s).drop i = [] := List.drop_eq_nil_of_le (by rw [qKq]; omega)
    rw [qgc, if_neg (by simp; omega), hd]
    rfl
  | k + 1, i, e => by
    have hi : i < (qAd s).length := by rw [qKq]; omega
    have hb : qGr s ((i : Int)).toNat = (qAd s).getD i 0 := by rw [Int.toNat_natCast]; rfl
    rw [qgc, if_pos (by simp; omega), qga (by omega), qga (by omega), hb, qrJ hi, w64 (by omega) (by omega)]
    have ih := qVJ s hs k (i + 1) (by omega)
    rw [show ((i + 1 : Nat) : Int) = (i : Int) + 1 by omega] at ih
    by_cases h1 : (qAd s).getD i 0 < 33
    · rw [if_pos (by simpa using h1)]
      have : okC ((qAd s).getD i 0) = false := by simp only [okC, Bool.and_eq_false_iff, decide_eq_false_iff_not]; left; omega
      simp only [List.all_cons, this, Bool.false_and]
    · rw [if_neg (by simpa using h1), qga (by omega), qga (by omega)]
      by_cases h2 : (qAd s).getD i 0 > 126
      · rw [if_pos (by simpa using h2)]
        have : okC ((qAd s).getD i 0) = false := by simp only [okC, Bool.and_eq_false_iff, decide_eq_false_iff_not]; right; omega
        simp only [List.all_cons, this, Bool.false_and]
      · rw [if_neg (by simpa using h2), ih]
        have : okC ((qAd s).getD i 0) = true := by simp only [okC, Bool.and_eq_true, decide_eq_true_eq]; omega
        simp only [List.all_cons, this, Bool.true_and]
theorem qkv (s : ByteArray) (hs : s.size ≤ 9223372036854775807) : qnd s = some (qTL s) := by
  have hl : Int.ofNat s.size = (s.size : Int) := rfl
  rw [qVh, hl]
  unfold qTL
  by_cases h1 : s.size < 1
  · rw [if_pos (by simp; omega)]
    have : ¬ 1 ≤ s.size := by omega
    simp [this]
  · rw [if_neg (by simp; omega)]
    by_cases h2 : s.size > 40
    · rw [if_pos (by simp; omega)]
      have : ¬ s.size ≤ 40 := by omega
      simp [this]
    · rw [if_neg (by simp; omega)]
      have := qVJ s hs s.size 0 (by omega)
      refine this.trans ?_
      have h3 : 1 ≤ s.size := by omega
      have h4 : s.size ≤ 40 := by omega
      simp [h3, h4]
theorem qWq {α β : Type} {eq : α → α → Bool} (h : ∀ a b, eq a b = true ↔ a = b) (x y : α) (v : β) : ∀ m : List (α × β), qal eq x (qPx eq y v m) = if eq x y then some v else qal eq x m
  | [] => by simp [qPx, qal]
  | e :: r => by
    simp only [qPx]
    by_cases hy : eq y e.1 = true
    · have := (h _ _).1 hy
      simp only [hy, if_true, qal]
      by_cases hx : eq x y = true
      · simp [hx]
      · have : eq x e.1 = false := by rw [← this]; simpa using hx
        simp [hx, this]
    · simp only [hy, Bool.false_eq_true, if_false, qal, qWq h x y v r]
      by_cases hx : eq x y = true
      · have e1 := (h _ _).1 hx
        subst e1
        simp [hx, hy]
      · simp [hx]
theorem qvI (a b : ByteArray) : peq .str a b = decide (a = b) := qcO a b
def qeH (x : ByteArray) (xs : List ByteArray) : Bool := xs.any fun y => decide (x = y)
theorem qCE (x y : ByteArray) (xs : List ByteArray) : qeH x (xs ++ [y]) = (qeH x xs || decide (x = y)) := by simp [qeH]
def qzL (seen : List ByteArray) : List ByteArray → Bool
  | [] => false
  | x :: r => qeH x seen || qzL (seen ++ [x]) r
theorem qwG {xs : List ByteArray} {i : Nat} (h : i < xs.length) : xs.drop i = xs.getD i ByteArray.empty :: xs.drop (i + 1) ∧ xs.take (i + 1) = xs.take i ++ [xs.getD i ByteArray.empty] := by
  have e : xs.getD i ByteArray.empty = xs[i] := by rw [List.getD_eq_getElem?_getD, List.getElem?_eq_getElem h]; rfl
  rw [e]
  exact ⟨List.drop_eq_getElem_cons h, by rw [List.take_add_one, List.getElem?_eq_getElem h]; rfl⟩
theorem qFF (xs : List ByteArray) (hx : xs.length ≤ 9223372036854775807) : ∀ (k i : Nat) (m : List (ByteArray × Bool)), i + k = xs.length → (∀ x, Option.getD (qal (peq .str) x m) false = qeH x (xs.take i)) → qfg xs (xs.length : Int) (i : Int) m = some (qzL (xs.take i) (xs.drop i))
  | 0, i, m, e, hm => by
    rw [qSd, if_neg (by simp; omega), List.drop_eq_nil_of_le (by omega)]; rfl
  | k + 1, i, m, e, hm => by
    have hl : Int.ofNat xs.length = (xs.length : Int) := rfl
    obtain ⟨d1, d2⟩ := qwG (xs := xs) (i := i) (by omega)
    rw [qSd, if_pos (by simp; omega), qga (by omega), qga (by rw [hl]; omega), Int.toNat_natCast, hm, d1, qzL]
    by_cases h : qeH (xs.getD i ByteArray.empty) (xs.take i) = true
    · rw [if_pos h, h]; rfl
    · rw [if_neg h, w64 (by omega) (by omega)]
      have ih := qFF xs hx k (i + 1) (qPx (peq .str) (xs.getD i ByteArray.empty) true m) (by omega) (fun x => by
        rw [qWq (fun a b => by rw [qvI]; simp), d2, qvI, qCE, ← hm]
        by_cases hx : x = xs.getD i ByteArray.empty
        · rw [if_pos (by simp [hx])]; simp [hx]
        · rw [decide_eq_false hx, if_neg (by simp), Bool.or_false])
      rw [show ((i + 1 : Nat) : Int) = (i : Int) + 1 by omega] at ih
      rw [ih, d2, Bool.eq_false_iff.2 h]; rfl
theorem qes (xs : List ByteArray) (hx : xs.length ≤ 9223372036854775807) : qsj xs = some (qzL [] xs) := by
  rw [qzm]
  exact qFF xs hx xs.length 0 [] (by omega) (fun x => by simp [qal, qeH])
def qyD (r : qba) : Bool := !qTL r.1 || decide (r.2.1 < 0) || decide (r.2.1 > 8192) || (r.2.1 == 0 && !peq (.arr 20 (.int .u8)) r.2.2.1 (qUi []))
def vld (acc : Int) (nm : List ByteArray) : List qba → Int
  | [] => if acc > 8192 then 4 else if qzL [] nm then 14 else 0
  | r :: rest => if qyD r then 8 else vld (acc + r.2.1) (nm ++ [r.1]) rest
def qxk (rs : List qba) : Int := if rs.length > 16 then 4 else vld 0 [] rs
def qFn (rs : List qba) : Prop := rs.length ≤ 9223372036854775807 ∧ ∀ r ∈ rs, r.1.size ≤ 9223372036854775807
theorem qUd {α : Type} {xs : List α} {i : Nat} (d : α) (h : i < xs.length) : xs.drop i = xs.getD i d :: xs.drop (i + 1) ∧ xs.take (i + 1) = xs.take i ++ [xs.getD i d] ∧ xs.getD i d ∈ xs := by
  have e : xs.getD i d = xs[i] := by rw [List.getD_eq_getElem?_getD, List.getElem?_eq_getElem h]; rfl
  rw [e]
  exact ⟨List.drop_eq_getElem_cons h, by rw [List.take_add_one, List.getElem?_eq_getElem h]; rfl, List.getElem_mem h⟩
theorem qwH : qgg [] = some (qUi []) := by
  rw [qXl, qZn [] Bts.nil]; rfl
theorem qnN : qRb [] = some (qUi []) := qnx [] (by simp)
theorem qEG (rs : List qba) (hR : qFn rs) (hn : rs.length ≤ 16) : ∀ (k i : Nat) (acc : Int) (nm : List ByteArray), i + k = rs.length → nm.length = i → 0 ≤ acc → acc ≤ 8192 * i → qre acc rs (rs.length : Int) (i : Int) nm = some (vld acc nm (rs.drop i))
  | 0, i, acc, nm, e, hl, a0, a1 => by
    rw [qTd, if_neg (by simp; omega), List.drop_eq_nil_of_le (by omega), vld]
    by_cases h : acc > 8192
    · rw [if_pos (by simpa using h), if_pos h]
    · rw [if_neg (by simpa using h), if_neg h, qes _ (by omega)]
      simp only [Option.bind_some]
      by_cases h : qzL [] nm = true
      · rw [if_pos h, if_pos h]
      · rw [if_neg h, if_neg h]
  | k + 1, i, acc, nm, e, hl, a0, a1 => by
    have hl' : Int.ofNat rs.length = (rs.length : Int) := rfl
    obtain ⟨d1, d2, d3⟩ := qUd (qpa T_api_Record : qba) (xs := rs) (i := i) (by omega)
    rw [qTd, if_pos (by simp; omega), qga (by omega), qga (by rw [hl']; omega), Int.toNat_natCast, d1, vld]
    generalize hr : (List.getD rs i (qpa T_api_Record) : qba) = r at d3 ⊢
    rw [qYq _ (hR.2 r d3)]
    simp only [Option.bind_some, qwH]
    by_cases h1 : qTL r.1 = true
    · rw [if_neg (by simp [h1])]
      by_cases h2 : r.2.1 < 0
      · rw [if_pos (by simpa using h2), if_pos (by simp [qyD, h2])]
      · rw [if_neg (by simpa using h2)]
        by_cases h3 : r.2.1 > 8192
        · rw [if_pos (by simpa using h3), if_pos (by simp [qyD, h3])]
        · rw [if_neg (by simpa using h3)]
          have ih := qEG rs hR hn k (i + 1) (acc + r.2.1) (nm ++ [r.1]) (by omega) (by simp; omega) (by omega) (by omega)
          rw [show ((i + 1 : Nat) : Int) = (i : Int) + 1 by omega] at ih
          rw [w64 (x := (i : Int) + 1) (by omega) (by omega), w64 (x := acc + r.2.1) (by omega) (by omega), ih]
          by_cases h4 : r.2.1 = 0
          · rw [if_pos (by simp [h4])]
            by_cases h5 : peq (.arr 20 (.int .u8)) r.2.2.1 (qUi []) = true
            · rw [if_neg (by simp [h5]), qga (by simp; omega), if_neg (by simp [qyD, h1, h4, h5])]
            · rw [if_pos (by simpa using h5), if_pos (by simp [qyD, h4, h5])]
          · rw [if_neg (by simpa using h4), qga (by simp; omega), if_neg (by simp [qyD, h1, h4]; omega)]
    · rw [if_pos (by simpa using h1), if_pos (by simp [qyD, h1])]
theorem qIk (rs : List qba) (hR : qFn rs) : qrh rs = some (qxk rs) := by
  have hl : Int.ofNat rs.length = (rs.length : Int) := rfl
  rw [qBm, hl, qxk]
  by_cases h : rs.length > 16
  · rw [if_pos (by simp; omega), if_pos h]
  · rw [if_neg (by simp; omega), if_neg h]
    exact qEG rs hR (by omega) rs.length 0 0 [] (by omega) rfl (by omega) (by omega)
def names (rs : List qba) : List ByteArray := rs.map (·.1)
theorem qmC (rs : List qba) (i : Nat) (h : i < rs.length) : (rs.getD i (qpa T_api_Record)).1 = (names rs).getD i ByteArray.empty := by
  unfold names
  simp only [List.getD_eq_getElem?_getD, List.getElem?_map, List.getElem?_eq_getElem h, Option.map_some, Option.getD_some]
theorem qKI {x : ByteArray} {xs : List ByteArray} {j i : Nat} (h : j < i) (hi : i ≤ xs.length) : qeH x ((xs.take i).drop j) = (decide (x = xs.getD j ByteArray.empty) || qeH x ((xs.take i).drop (j + 1))) := by
  have hl : j < (xs.take i).length := by rw [List.length_take]; omega
  have e : xs.getD j ByteArray.empty = (xs.take i)[j] := by
    rw [List.getD_eq_getElem?_getD, List.getElem_take, List.getElem?_eq_getElem (by omega)]; rfl
  rw [List.drop_eq_getElem_cons hl, e]
  simp [qeH]
theorem qCG (rs : List qba) (hn : rs.length ≤ 16) (i : Nat) (hi : i < rs.length) : ∀ (k j : Nat), j + k = i → qRc rs (i : Int) (j : Int) = if qeH ((names rs).getD i ByteArray.empty) (((names rs).take i).drop j) then some 14 else qPb rs ((i : Int) + 1)
  | 0, j, e => by
    have hd : ((names rs).take i).drop j = [] := List.drop_eq_nil_of_le (by rw [List.length_take]; omega)
    rw [qIf, if_neg (by simp; omega), hd, w64 (by omega) (by omega)]
    simp [qeH]
  | k + 1, j, e => by
    have hl' : Int.ofNat rs.length = (rs.length : Int) := rfl
    have hnl : (names rs).length = rs.length := by simp [names]
    have ih := qCG rs hn i hi k (j + 1) (by omega)
    rw [show ((j + 1 : Nat) : Int) = (j : Int) + 1 by omega] at ih
    rw [qIf, if_pos (by simp; omega), qga (by omega), qga (by rw [hl']; omega), qga (by omega), qga (by rw [hl']; omega), Int.toNat_natCast, Int.toNat_natCast, qmC rs j (by omega), qmC rs i hi, w64 (x := (j : Int) + 1) (by omega) (by omega), ih, qKI (j := j) (i := i) (by omega) (by omega), qcO]
    by_cases h : (names rs).getD j ByteArray.empty = (names rs).getD i ByteArray.empty
    · rw [decide_eq_true h, decide_eq_true h.symm]; simp
    · rw [decide_eq_false h, decide_eq_false (fun e => h e.symm)]; simp
theorem qDG (rs : List qba) (hn : rs.length ≤ 16) : ∀ (k i : Nat), i + k = rs.length → qPb rs (i : Int) = some (if qzL ((names rs).take i) ((names rs).drop i) then 14 else 0)
  | 0, i, e => by
    have hnl : (names rs).length = rs.length := by simp [names]
    rw [qJf, if_neg (by simp; omega), List.drop_eq_nil_of_le (by omega)]; rfl
  | k + 1, i, e => by
    have hnl : (names rs).length = rs.length := by simp [names]
    obtain ⟨d1, d2⟩ := qwG (xs := names rs) (i := i) (by omega)
    have ih := qDG rs hn k (i + 1) (by omega)
    rw [show ((i + 1 : Nat) : Int) = (i : Int) + 1 by omega] at ih
    have h3 := qCG rs hn i (by omega) i 0 (by omega)
    rw [qJf, if_pos (by simp; omega)]
    refine Eq.trans h3 ?_
    rw [ih, List.drop_zero, d1, qzL, ← d2]
    cases qeH ((names rs).getD i ByteArray.empty) ((names rs).take i) <;> simp
theorem qdt (rs : List qba) (hR : qFn rs) (hn : rs.length ≤ 16) : ∀ (k i : Nat) (acc : Int), i + k = rs.length → 0 ≤ acc → acc ≤ 8192 * i → qQb rs acc (i : Int) = some (vld acc (names (rs.take i)) (rs.drop i))
  | 0, i, acc, e, a0, a1 => by
    have hl' : Int.ofNat rs.length = (rs.length : Int) := rfl
    rw [qKf, if_neg (by simp; omega), List.drop_eq_nil_of_le (by omega), vld, List.take_of_length_le (by omega)]
    by_cases h : acc > 8192
    · rw [if_pos (by simpa using h), if_pos h]
    · rw [if_neg (by simpa using h), if_neg h]
      exact qDG rs hn rs.length 0 (by omega)
  | k + 1, i, acc, e, a0, a1 => by
    have hl' : Int.ofNat rs.length = (rs.length : Int) := rfl
    obtain ⟨d1, d2, d3⟩ := qUd (qpa T_api_Record : qba) (xs := rs) (i := i) (by omega)
    have ih := fun a h0 h1 => qdt rs hR hn k (i + 1) a (by omega) h0 h1
    rw [show ((i + 1 : Nat) : Int) = (i : Int) + 1 by omega, d2] at ih
    rw [qKf, if_pos (by simp; omega), qga (by omega), qga (by rw [hl']; omega), Int.toNat_natCast, d1, vld]
    have hnm : names (List.take i rs ++ [List.getD rs i (qpa T_api_Record)]) = names (List.take i rs) ++ [(List.getD rs i (qpa T_api_Record)).1] := by simp [names]
    rw [hnm] at ih
    generalize hr : (List.getD rs i (qpa T_api_Record) : qba) = r at d3 ih ⊢
    rw [qkv _ (hR.2 r d3)]
    simp only [Option.bind_some, qnN]
    by_cases h1 : qTL r.1 = true
    · rw [if_neg (by simp [h1])]
      by_cases h2 : r.2.1 < 0
      · rw [if_pos (by simpa using h2), if_pos (by simp [qyD, h2])]
      · rw [if_neg (by simpa using h2)]
        by_cases h3 : r.2.1 > 8192
        · rw [if_pos (by simpa using h3), if_pos (by simp [qyD, h3])]
        · rw [if_neg (by simpa using h3)]
          rw [w64 (x := (i : Int) + 1) (by omega) (by omega), w64 (x := acc + r.2.1) (by omega) (by omega), ih _ (by omega) (by omega)]
          by_cases h4 : r.2.1 = 0
          · rw [if_pos (by simp [h4])]
            by_cases h5 : peq (.arr 20 (.int .u8)) r.2.2.1 (qUi []) = true
            · rw [if_neg (by simp [h5]), if_neg (by simp [qyD, h1, h4, h5])]
            · rw [if_pos (by simpa using h5), if_pos (by simp [qyD, h4, h5])]
          · rw [if_neg (by simpa using h4), if_neg (by simp [qyD, h1, h4]; omega)]
    · rw [if_pos (by simpa using h1), if_pos (by simp [qyD, h1])]
theorem qCt (rs : List qba) (hR : qFn rs) : qXd rs = some (qxk rs) := by
  have hl : Int.ofNat rs.length = (rs.length : Int) := rfl
  rw [qon, hl, qxk]
  by_cases h : rs.length > 16
  · rw [if_pos (by simp; omega), if_pos h]
  · rw [if_neg (by simp; omega), if_neg h]
    exact qdt rs hR (by omega) rs.length 0 0 (by omega) (by omega) (by omega)
def tot : List qba → Int
  | [] => 0
  | r :: rest => r.2.1 + tot rest
structure RecsV (rs : List qba) : Prop where
  len : rs.length ≤ 16
  each : ∀ r ∈ rs, 0 ≤ r.2.1 ∧ r.2.1 ≤ 8192 ∧ r.1.size ≤ 40
  tot : tot rs ≤ 8192
theorem qEF : ∀ (rs : List qba) (acc : Int) (nm : List ByteArray), vld acc nm rs = 0 → (∀ r ∈ rs, 0 ≤ r.2.1 ∧ r.2.1 ≤ 8192 ∧ r.1.size ≤ 40) ∧ acc + tot rs ≤ 8192
  | [], acc, nm, h => by
    simp only [vld] at h
    by_cases h1 : acc > 8192
    · rw [if_pos h1] at h; omega
    · exact ⟨fun r hr => (by cases hr), by simp only [tot]; omega⟩
  | r :: rest, acc, nm, h => by
    simp only [vld] at h
    by_cases hb : qyD r = true
    · rw [if_pos hb] at h; omega
    · rw [if_neg hb] at h
      obtain ⟨h1, h2⟩ := qEF rest _ _ h
      simp only [qyD, qTL, Bool.or_eq_true, Bool.not_eq_true', Bool.and_eq_false_iff, decide_eq_true_eq, decide_eq_false_iff_not, not_or] at hb
      refine ⟨fun q hq => ?_, by simp only [tot]; omega⟩
      rcases List.mem_cons.1 hq with rfl | hq
      · have := hb.1.1.1.2
        exact ⟨by omega, by omega, by omega⟩
      · exact h1 q hq
theorem qwk {rs : List qba} (h : qxk rs = 0) : RecsV rs := by
  unfold qxk at h
  split at h
  · omega
  · obtain ⟨h1, h2⟩ := qEF rs 0 [] h
    exact ⟨by omega, h1, by omega⟩
theorem qlG (rs : List qba) : ∀ (k i : Nat), i + k = rs.length → ∃ g, qvb rs (i : Int) = some g ∧ (g = false → rs.length ≤ 30)
  | 0, i, e => by
    have hl' : Int.ofNat rs.length = (rs.length : Int) := rfl
    refine ⟨decide ((rs.length : Int) > 30), ?_, fun h => by simp at h; omega⟩
    rw [qod, if_neg (by simp; omega)]; rfl
  | k + 1, i, e => by
    have hl' : Int.ofNat rs.length = (rs.length : Int) := rfl
    rw [qod, if_pos (by simp; omega)]
    by_cases h : i ≤ 30
    · rw [if_pos (by simp; omega), qga (by omega), qga (by rw [hl']; omega)]
      split
      · exact ⟨true, rfl, fun h => by cases h⟩
      · have ih := qlG rs k (i + 1) (by omega)
        rw [show ((i + 1 : Nat) : Int) = (i : Int) + 1 by omega] at ih
        rw [w64 (by omega) (by omega)]
        exact ih
    · rw [if_neg (by simp; omega)]
      exact ⟨decide ((rs.length : Int) > 30), rfl, fun h => by simp at h; omega⟩
theorem qNL {rs : List qba} (h : wfP (.slice T_api_Record) rs) : qFn rs := by
  refine ⟨?_, fun r hr => ?_⟩
  · have := h.1; simp [Go.maxLen] at this; omega
  · have := (h.2 r hr).1; simp [wfP, Go.maxLen] at this; omega
theorem qlH (rs : List qba) : ∃ g, qXc rs = some g := by
  obtain ⟨g, hg, _⟩ := qlG rs rs.length 0 (by omega)
  exact ⟨g, by rw [qni]; exact hg⟩
instance (h : qfa) : Decidable (hOK h) := by unfold hOK; infer_instance
def isP (h : qfa) (p : qjq) : Prop := h.2.1 = p.1 ∧ h.2.2.1 = p.2.1 ∧ h.2.2.2.1 = p.2.2.1
instance (h : qfa) (p : qjq) : Decidable (isP h p) := by unfold isP; infer_instance
def qHo (h : qfa) (raw : List Int) : Bool × Int :=
  if hOK h then (if (raw.length : Int) = h.2.2.2.1 then (peq (.arr 20 (.int .u8)) (qUi (fr8 h ++ raw)) h.2.2.2.2.2.1, 0) else (false, 0)) else (false, 8)
theorem qoG (h : qfa) : (fr8 h).length = 8 := rfl
theorem qjG {h : qfa} (ok : hOK h) : 1 ≤ h.2.2.2.1 ∧ h.2.2.2.1 ≤ 4096 := by unfold hOK at ok; omega
theorem qls (h : qfa) (hm : 0 ≤ h.1 ∧ h.1 < 256) (raw : List Int) (hb : Bts raw) : qte h raw = some (qHo h raw) := by
  have hl' : Int.ofNat raw.length = (raw.length : Int) := rfl
  rw [qFi, qjd, hl']
  simp only [Option.bind_some, qDK, qHo]
  by_cases ok : hOK h
  · have hr := qjG ok
    rw [if_neg (fun k => k ok), if_pos ok]
    by_cases e : (raw.length : Int) = h.2.2.2.1
    · rw [if_pos (by simpa using e), if_pos e, qYl, qOk h hm]
      simp only [Option.bind_some]
      have hlen : (fr8 h ++ raw).length = 8 + raw.length := by rw [List.length_append, qoG]
      rw [qga (by omega), qZn _ ((qYI h).append hb), if_pos (by omega)]
      rfl
    · rw [if_neg (by simpa using e), if_neg e]
  · rw [if_pos ok, if_neg ok]
    have : hC h = 8 := by unfold hC; rw [if_neg ok]
    rw [this]
theorem qDt (h : qfa) (hm : 0 ≤ h.1 ∧ h.1 < 256) (raw : List Int) (hb : Bts raw) : qAg h raw = some (qHo h raw) := by
  have hl' : Int.ofNat raw.length = (raw.length : Int) := rfl
  rw [qsn, qEt, hl']
  simp only [Option.bind_some, qDK, qHo]
  by_cases ok : hOK h
  · have hr := qjG ok
    rw [if_neg (fun k => k ok), if_pos ok]
    by_cases e : (raw.length : Int) = h.2.2.2.1
    · rw [if_pos (by simpa using e), if_pos e, qMj, qKh h hm]
      simp only [Option.bind_some]
      have hlen : (fr8 h ++ raw).length = 8 + raw.length := by rw [List.length_append, qoG]
      rw [qga (by omega), qnx _ (by omega)]
      rfl
    · rw [if_neg (by simpa using e), if_neg e]
  · rw [if_pos ok, if_neg ok]
    have : hC h = 8 := by unfold hC; rw [if_neg ok]
    rw [this]
def fOK (f : qha) : Prop := hOK f.2.1 ∧ (f.2.2.1.length : Int) = f.2.1.2.2.2.1 ∧ peq (.arr 20 (.int .u8)) (qUi (fr8 f.2.1 ++ f.2.2.1)) f.2.1.2.2.2.2.2.1 = true ∧ 0 ≤ f.1
theorem qss (f : qha) : fOK f ↔ (qHo f.2.1 f.2.2.1).1 = true ∧ 0 ≤ f.1 := by
  unfold fOK qHo
  by_cases h1 : hOK f.2.1 <;> by_cases h2 : (f.2.2.1.length : Int) = f.2.1.2.2.2.1 <;> simp [h1, h2]
instance (f : qha) : Decidable (fOK f) := by unfold fOK; infer_instance
def qXy (fs : List qha) : Prop := fs.length ≤ 2000 ∧ ∀ f ∈ fs, (0 ≤ f.2.1.1 ∧ f.2.1.1 < 256) ∧ Bts f.2.2.1
def qbK : List qha → Int
  | [] => 0
  | f :: r => if fOK f then qbK r else 8
def fck (rs : List qba) (fs : List qha) : Int := if qxk rs ≠ 0 then qxk rs else if fs.length > 600 then 4 else qbK fs
theorem qfI (fs : List qha) (hF : qXy fs) : ∀ (k i : Nat), i + k = fs.length → qjf fs (fs.length : Int) (i : Int) = some (qbK (fs.drop i))
  | 0, i, e => by
    rw [qrf, if_neg (by simp; omega), List.drop_eq_nil_of_le (by omega)]; rfl
  | k + 1, i, e => by
    have hb := hF.1
    have hl' : Int.ofNat fs.length = (fs.length : Int) := rfl
    obtain ⟨d1, d2, d3⟩ := qUd (qpa T_api_Found : qha) (xs := fs) (i := i) (by omega)
    have hv := hF.2 _ d3
    have ih := qfI fs hF k (i + 1) (by omega)
    rw [show ((i + 1 : Nat) : Int) = (i : Int) + 1 by omega] at ih
    rw [qrf, if_pos (by simp; omega), qga (by omega), qga (by rw [hl']; omega), Int.toNat_natCast, d1]
    generalize fs.getD i (qpa T_api_Found) = f at *
    rw [qls _ hv.1 _ hv.2]
    simp only [Option.bind_some, qbK]
    by_cases h1 : (qHo f.2.1 f.2.2.1).1 = true
    · rw [if_neg (by rw [h1]; decide)]
      by_cases h2 : f.1 < 0
      · rw [if_pos (by simpa using h2), if_neg (fun k => by have := ((qss f).1 k).2; omega)]
      · rw [if_neg (by simpa using h2), w64 (by omega) (by omega), ih, if_pos ((qss f).2 ⟨h1, by omega⟩)]
    · rw [if_pos (by simpa using h1), if_neg (fun k => h1 ((qss f).1 k).1)]
theorem qvq (rs : List qba) (hR : qFn rs) (fs : List qha) (hF : qXy fs) : qZh rs fs = some (fck rs fs) := by
  rw [qPl, qIk rs hR]
  simp only [Option.bind_some, fck]
  by_cases hv : qxk rs = 0
  · rw [if_neg (by simp [hv]), if_neg (show ¬ qxk rs ≠ 0 from fun k => k hv)]
    by_cases hl : fs.length > 600
    · rw [if_pos (by simp; omega), if_pos hl]
    · rw [if_neg (by simp; omega), if_neg hl]
      exact qfI fs hF fs.length 0 (by omega)
  · rw [if_pos (by simpa using hv), if_pos hv]
theorem qfE (f : qha) (hv : (0 ≤ f.2.1.1 ∧ f.2.1.1 < 256) ∧ Bts f.2.2.1) : qtg f = some (decide (fOK f)) := by
  rw [qjn, qDt _ hv.1 _ hv.2]
  simp only [Option.bind_some]
  by_cases h0 : 0 ≤ f.1
  · rw [if_pos (by simpa using h0)]
    by_cases h1 : (qHo f.2.1 f.2.2.1).1 = true
    · have he : (qHo f.2.1 f.2.2.1).2 = 0 := by
        unfold qHo at h1 ⊢
        split
        · split <;> rfl
        · rename_i hn; rw [if_neg hn] at h1; cases h1
      rw [he, if_pos (by decide), h1, decide_eq_true ((qss f).2 ⟨h1, h0⟩)]
    · rw [decide_eq_false (fun k => h1 ((qss f).1 k).1), Bool.eq_false_iff.2 h1]
      split <;> rfl
  · rw [if_neg (by simpa using h0), decide_eq_false (fun k => h0 ((qss f).1 k).2)]
theorem qsI (fs : List qha) (hF : qXy fs) : ∀ (k i : Nat), i + k = fs.length → qQc fs (i : Int) = some (qbK (fs.drop i))
  | 0, i, e => by
    have hl' : Int.ofNat fs.length = (fs.length : Int) := rfl
    rw [qHf, if_neg (by simp; omega), List.drop_eq_nil_of_le (by omega)]; rfl
  | k + 1, i, e => by
    have hb := hF.1
    have hl' : Int.ofNat fs.length = (fs.length : Int) := rfl
    obtain ⟨d1, d2, d3⟩ := qUd (qpa T_api_Found : qha) (xs := fs) (i := i) (by omega)
    have hv := hF.2 _ d3
    have ih := qsI fs hF k (i + 1) (by omega)
    rw [show ((i + 1 : Nat) : Int) = (i : Int) + 1 by omega] at ih
    rw [qHf, if_pos (by simp; omega), qga (by omega), qga (by rw [hl']; omega), Int.toNat_natCast, d1]
    generalize fs.getD i (qpa T_api_Found) = f at *
    rw [qfE f hv]
    simp only [Option.bind_some, qbK]
    by_cases h1 : fOK f
    · rw [decide_eq_true h1, if_neg (by simp), w64 (by omega) (by omega), ih, if_pos h1]
    · rw [decide_eq_false h1, if_pos (by simp), if_neg h1]
theorem qTl (rs : List qba) (hR : qFn rs) (fs : List qha) (hF : qXy fs) : qVd rs fs = some (fck rs fs) := by
  rw [qkn, qCt rs hR]
  simp only [Option.bind_some, fck]
  by_cases hv : qxk rs = 0
  · rw [if_neg (by simp [hv]), if_neg (show ¬ qxk rs ≠ 0 from fun k => k hv)]
    by_cases hl : fs.length > 600
    · rw [if_pos (by simp; omega), if_pos hl]
    · rw [if_neg (by simp; omega), if_neg hl]
      exact qsI fs hF fs.length 0 (by omega)
  · rw [if_pos (by simpa using hv), if_pos hv]
open Classical
def qnb (f : qha) : qxa := ((f.2.1.2.1, (f.2.1.2.2.1, (f.2.1.2.2.2.1, ()))), (f.2.2.1, ()))
def cov (q : qxa) (k x c : Int) : Prop := q.1.1 = k ∧ q.1.2.1 ≤ x ∧ x < q.1.2.1 + (q.2.1.length : Int) ∧ q.2.1.getD (x - q.1.2.1).toNat 0 = c
def qiO (q p : qxa) (i : Nat) : Prop := ∀ c, cov q p.1.1 (p.1.2.1 + i) c → c = p.2.1.getD i 0
def agr (out : List qxa) (p : qxa) : Prop := ∀ q ∈ out, ∀ i, i < p.2.1.length → qiO q p i
def qfL (rs : List qba) (f : qha) : Prop := f.2.1.2.1 < (rs.length : Int) ∧ f.2.1.2.2.1 + f.2.1.2.2.2.1 ≤ (rs.getD f.2.1.2.1.toNat (qpa T_api_Record)).2.1
noncomputable def prt (rs : List qba) : List qha → List qxa → List qxa
  | [], out => out
  | f :: fs, out => if qfL rs f ∧ agr out (qnb f) then prt rs fs (out ++ [qnb f]) else prt rs fs out
structure PtOK (p : qxa) : Prop where
  mem : 0 ≤ p.1.1 ∧ p.1.1 < 16
  off : 0 ≤ p.1.2.1 ∧ p.1.2.1 ≤ 8192
  len : p.2.1.length ≤ 4096
theorem qzI {f : qha} (h : fOK f) : PtOK (qnb f) := by
  obtain ⟨h1, h2, _, _⟩ := h
  unfold hOK at h1
  exact ⟨⟨by unfold qnb; simp only; omega, by unfold qnb; simp only; omega⟩, ⟨by unfold qnb; simp only; omega, by unfold qnb; simp only; omega⟩, by unfold qnb; simp only; omega⟩
theorem qsE (rs : List qba) : ∀ (fs : List qha) (out : List qxa), (prt rs fs out).length ≤ out.length + fs.length
  | [], out => by simp [prt]
  | f :: fs, out => by
    unfold prt
    split
    · have := qsE rs fs (out ++ [qnb f]); simp at this ⊢; omega
    · have := qsE rs fs out; simp at this ⊢; omega
abbrev Pl := qma
abbrev qUF : Pl → Pl → Bool := peq qua
theorem qcA (a b : Pl) : qUF a b = true ↔ a = b := ⟨fun h => qtv (t := qua) (by decide) h, fun h => by subst h; simp [peq]⟩
def ky (k x : Int) : Pl := (k, (x, ()))
def Mp (m : List (Pl × Int)) (out : List qxa) : Prop := ∀ k x c, qal qUF (ky k x) m = some c ↔ ∃ q ∈ out, cov q k x c
theorem qbJ (data : List Int) (hd : data.length ≤ 5000) (b0 : List qba) (m : List (Pl × Int)) (f : qha) (h : qfa) (ho : 0 ≤ h.2.2.1 ∧ h.2.2.1 ≤ 8192) : ∀ (k i : Nat), i + k = data.length →
    qGc data (data.length : Int) (i : Int) b0 m f h = if ∀ i', i ≤ i' → i' < data.length → ∀ c, qal qUF (ky h.2.1 (h.2.2.1 + i')) m = some c → c = data.getD i' 0 then qAb f.2.2.1 (Int.ofNat f.2.2.1.length) 0 b0 m h else some (false, (b0, ((), m)))
  | 0, i, e => by
    rw [qnh, if_neg (by simp; omega), if_pos (fun i' a b => by omega)]
  | k + 1, i, e => by
    have hl' : Int.ofNat data.length = (data.length : Int) := rfl
    have ih := qbJ data hd b0 m f h ho k (i + 1) (by omega)
    rw [show ((i + 1 : Nat) : Int) = (i : Int) + 1 by omega] at ih
    rw [qnh, if_pos (by simp; omega), qga (by omega), qga (by rw [hl']; omega), Int.toNat_natCast, w64 (x := h.2.2.1 + i) (by omega) (by omega), w64 (x := (i : Int) + 1) (by omega) (by omega), ih]
    show (if (qal qUF (ky h.2.1 (h.2.2.1 + (i : Int))) m).isSome = true then _ else _) = _
    have step : (∀ c, qal qUF (ky h.2.1 (h.2.2.1 + (i : Int))) m = some c → c = data.getD i 0) → (if ∀ i', i + 1 ≤ i' → i' < data.length → ∀ c, qal qUF (ky h.2.1 (h.2.2.1 + i')) m = some c → c = data.getD i' 0 then qAb f.2.2.1 (Int.ofNat f.2.2.1.length) 0 b0 m h else some (false, (b0, ((), m)))) = (if ∀ i', i ≤ i' → i' < data.length → ∀ c, qal qUF (ky h.2.1 (h.2.2.1 + i')) m = some c → c = data.getD i' 0 then qAb f.2.2.1 (Int.ofNat f.2.2.1.length) 0 b0 m h else some (false, (b0, ((), m)))) := fun hh => by
      by_cases hc : ∀ i', i + 1 ≤ i' → i' < data.length → ∀ c, qal qUF (ky h.2.1 (h.2.2.1 + i')) m = some c → c = data.getD i' 0
      · rw [if_pos hc, if_pos (fun i' a b => by
          by_cases e : i' = i
          · rw [e]; exact hh
          · exact hc i' (by omega) b)]
      · rw [if_neg hc, if_neg (fun k => hc (fun i' a b => k i' (by omega) b))]
    cases hg : qal qUF (ky h.2.1 (h.2.2.1 + (i : Int))) m with
    | none =>
      rw [if_neg (by simp)]
      exact step (fun c hc => by rw [hg] at hc; cases hc)
    | some c0 =>
      rw [if_pos (by simp)]
      have hg' : qal (peq qua) (h.2.1, (h.2.2.1 + (i : Int), ())) m = some c0 := hg
      rw [hg', Option.getD_some]
      by_cases hc : c0 = data.getD i 0
      · rw [if_neg (by rw [hc]; simp)]
        exact step (fun c h' => by rw [hg] at h'; injection h' with h'; rw [← h', hc])
      · rw [if_pos (bne_iff_ne.2 hc), if_neg (fun k => hc (k i (Nat.le_refl _) (by omega) c0 hg))]
def qIM (k o : Int) (data : List Int) : Nat → Nat → List (Pl × Int) → List (Pl × Int)
  | 0, _, m => m
  | n + 1, i, m => qIM k o data n (i + 1) (qPx qUF (ky k (o + i)) (data.getD i 0) m)
theorem qaJ (data : List Int) (hd : data.length ≤ 5000) (b0 : List qba) (h : qfa) (ho : 0 ≤ h.2.2.1 ∧ h.2.2.1 ≤ 8192) : ∀ (k i : Nat) (m : List (Pl × Int)), i + k = data.length →
    qAb data (data.length : Int) (i : Int) b0 m h = some (true, (b0, ((), qIM h.2.1 h.2.2.1 data k i m)))
  | 0, i, m, e => by
    rw [qmh, if_neg (by simp; omega)]; rfl
  | k + 1, i, m, e => by
    have hl' : Int.ofNat data.length = (data.length : Int) := rfl
    have ih := qaJ data hd b0 h ho k (i + 1) (qPx qUF (ky h.2.1 (h.2.2.1 + i)) (data.getD i 0) m) (by omega)
    rw [show ((i + 1 : Nat) : Int) = (i : Int) + 1 by omega] at ih
    rw [qmh, if_pos (by simp; omega), qga (by omega), qga (by rw [hl']; omega), Int.toNat_natCast, w64 (x := h.2.2.1 + i) (by omega) (by omega), w64 (x := (i : Int) + 1) (by omega) (by omega)]
    exact ih
theorem ky_inj {k x k' x' : Int} : ky k x = ky k' x' ↔ k = k' ∧ x = x' := by simp [ky]
theorem qRF (k o : Int) (data : List Int) (k' x : Int) : ∀ (n i : Nat) (m : List (Pl × Int)), i + n = data.length → qal qUF (ky k' x) (qIM k o data n i m) = if k' = k ∧ o + i ≤ x ∧ x < o + (data.length : Int) then some (data.getD (x - o).toNat 0) else qal qUF (ky k' x) m
  | 0, i, m, e => by
    unfold qIM
    rw [if_neg (by omega)]
  | n + 1, i, m, e => by
    unfold qIM
    rw [qRF k o data k' x n (i + 1) _ (by omega), qWq qcA]
    by_cases h1 : k' = k ∧ o + ((i + 1 : Nat) : Int) ≤ x ∧ x < o + (data.length : Int)
    · rw [if_pos h1, if_pos (by omega)]
    · rw [if_neg h1]
      by_cases h2 : k' = k ∧ x = o + i
      · rw [if_pos ((qcA _ _).2 (ky_inj.2 h2)), if_pos (by omega), show (x - o).toNat = i by omega]
      · rw [if_neg (fun h => h2 (ky_inj.1 ((qcA _ _).1 h)))]
        by_cases h3 : k' = k ∧ o + (i : Int) ≤ x ∧ x < o + (data.length : Int)
        · omega
        · rw [if_neg h3]
theorem qZI (rs : List qba) (hR : RecsV rs) (f : qha) (hf : fOK f) (m : List (Pl × Int)) (out : List qxa) (hM : Mp m out) :
    ∃ m', qxi f rs m = some (decide (qfL rs f ∧ agr out (qnb f)), (rs, ((), m'))) ∧ Mp m' (if qfL rs f ∧ agr out (qnb f) then out ++ [qnb f] else out) := by
  have hl' : Int.ofNat rs.length = (rs.length : Int) := rfl
  have hl2 : Int.ofNat f.2.2.1.length = (f.2.2.1.length : Int) := rfl
  have hO := hf.1
  have hlen := hf.2.1
  unfold hOK at hO
  rw [qxq, hl']
  by_cases h1 : f.2.1.2.1 < (rs.length : Int)
  · have hm : f.2.1.2.1.toNat < rs.length := by omega
    have hv := hR.each _ (qUd (qpa T_api_Record : qba) hm).2.2
    rw [if_neg (by simpa using h1), qga (by omega), qga (by omega), w64 (by omega) (by omega)]
    by_cases h2 : f.2.1.2.2.1 + f.2.1.2.2.2.1 ≤ (rs.getD f.2.1.2.1.toNat (qpa T_api_Record)).2.1
    · have hw : qfL rs f := ⟨h1, h2⟩
      rw [if_neg (by rw [decide_eq_true_eq]; omega), hl2]
      have e1 := qbJ f.2.2.1 (by omega) rs m f f.2.1 ⟨by omega, by omega⟩ f.2.2.1.length 0 (by omega)
      have hag : (∀ i', 0 ≤ i' → i' < f.2.2.1.length → ∀ c, qal qUF (ky f.2.1.2.1 (f.2.1.2.2.1 + (i' : Nat))) m = some c → c = f.2.2.1.getD i' 0) ↔ agr out (qnb f) := by
        constructor
        · intro h q hq i hi c hc
          exact h i (by omega) hi c ((hM _ _ _).2 ⟨q, hq, hc⟩)
        · intro h i _ hi c hc
          obtain ⟨q, hq, hc⟩ := (hM _ _ _).1 hc
          exact h q hq i hi c hc
      by_cases hg : agr out (qnb f)
      · rw [if_pos (hag.2 hg)] at e1
        have e2 := qaJ f.2.2.1 (by omega) rs f.2.1 ⟨by omega, by omega⟩ f.2.2.1.length 0 m (by omega)
        refine ⟨_, by rw [decide_eq_true ⟨hw, hg⟩]; exact e1.trans (by rw [hl2]; exact e2), ?_⟩
        rw [if_pos ⟨hw, hg⟩]
        intro k x c
        rw [qRF _ _ _ _ _ _ _ _ (Nat.zero_add _)]
        by_cases hc : k = f.2.1.2.1 ∧ f.2.1.2.2.1 + ((0 : Nat) : Int) ≤ x ∧ x < f.2.1.2.2.1 + (f.2.2.1.length : Int)
        · rw [if_pos hc]
          have hcov : cov (qnb f) k x (f.2.2.1.getD (x - f.2.1.2.2.1).toNat 0) := ⟨hc.1.symm, by show f.2.1.2.2.1 ≤ x; omega, hc.2.2, rfl⟩
          constructor
          · intro h
            injection h with h
            exact ⟨qnb f, by simp, h ▸ hcov⟩
          · rintro ⟨q, hq, hqc⟩
            rcases List.mem_append.1 hq with hq | hq
            · have := hg q hq (x - f.2.1.2.2.1).toNat (by show _ < f.2.2.1.length; omega) c (by
                show cov q f.2.1.2.1 (f.2.1.2.2.1 + ((x - f.2.1.2.2.1).toNat : Int)) c
                rw [← hc.1, show f.2.1.2.2.1 + ((x - f.2.1.2.2.1).toNat : Int) = x by omega]; exact hqc)
              rw [this]; rfl
            · rw [List.mem_singleton.1 hq] at hqc
              rw [← hqc.2.2.2]; rfl
        · rw [if_neg hc, hM]
          constructor
          · rintro ⟨q, hq, h⟩; exact ⟨q, by simp [hq], h⟩
          · rintro ⟨q, hq, h⟩
            rcases List.mem_append.1 hq with hq | hq
            · exact ⟨q, hq, h⟩
            · rw [List.mem_singleton.1 hq] at h
              have h3 : f.2.1.2.2.1 ≤ x := h.2.1
              exact absurd ⟨h.1.symm, by omega, h.2.2.1⟩ hc
      · rw [if_neg (fun k => hg (hag.1 k))] at e1
        refine ⟨m, by rw [decide_eq_false (fun k => hg k.2)]; exact e1, ?_⟩
        rw [if_neg (fun k => hg k.2)]; exact hM
    · rw [if_pos (by rw [decide_eq_true_eq]; omega)]
      refine ⟨m, by rw [decide_eq_false (fun k => h2 k.1.2)], ?_⟩
      rw [if_neg (fun k => h2 k.1.2)]; exact hM
  · rw [if_pos (by rw [decide_eq_true_eq]; omega)]
    refine ⟨m, by rw [decide_eq_false (fun k => h1 k.1.1)], ?_⟩
    rw [if_neg (fun k => h1 k.1.1)]; exact hM
theorem qJs (xs : List Int) (h : xs.length ≤ 1000000) : quf xs = some xs := by
  rw [qip]
  refine quF false (by simp) (fun b hb => ?_)
  cases b with
  | true => rw [if_pos rfl, hb rfl]
  | false => rw [if_neg (by simp), qga (by simp; omega)]; simp
theorem qQB (rs : List qba) (hR : RecsV rs) (fs : List qha) (hl : fs.length ≤ 700) (hF : ∀ f ∈ fs, fOK f) : ∀ (k i : Nat) (out : List qxa) (m : List (Pl × Int)), i + k = fs.length → out.length ≤ i → Mp m out →
    qEd fs (fs.length : Int) (i : Int) rs out m = some (prt rs (fs.drop i) out, 0)
  | 0, i, out, m, e, ho, hM => by
    rw [qsf, if_neg (by simp; omega), List.drop_eq_nil_of_le (by omega)]; rfl
  | k + 1, i, out, m, e, ho, hM => by
    have hl' : Int.ofNat fs.length = (fs.length : Int) := rfl
    obtain ⟨d1, _, d3⟩ := qUd (qpa T_api_Found : qha) (xs := fs) (i := i) (by omega)
    have hf := hF _ d3
    have ih := fun out m ho hM => qQB rs hR fs hl hF k (i + 1) out m (by omega) ho hM
    rw [show ((i + 1 : Nat) : Int) = (i : Int) + 1 by omega] at ih
    rw [qsf, if_pos (by simp; omega), qga (by omega), qga (by rw [hl']; omega), Int.toNat_natCast, d1, prt, w64 (by omega) (by omega)]
    generalize fs.getD i (qpa T_api_Found) = f at *
    have hpl := (qzI hf).len
    obtain ⟨m', h1, h2⟩ := qZI rs hR f hf m out hM
    rw [h1]
    simp only [Option.bind_some]
    by_cases hc : qfL rs f ∧ agr out (qnb f)
    · rw [if_pos hc] at h2
      rw [decide_eq_true hc, if_pos rfl, if_pos hc, qJs _ (by show f.2.2.1.length ≤ _; have : (qnb f).2.1.length = f.2.2.1.length := rfl; omega)]
      simp only [Option.bind_some]
      rw [qga (by simp; omega)]
      exact ih _ m' (by simp; omega) h2
    · rw [if_neg hc] at h2
      rw [decide_eq_false hc, if_neg (by simp), if_neg hc]
      exact ih _ m' (by omega) h2
theorem qDD : ∀ (fs : List qha), qbK fs = 0 → ∀ f ∈ fs, fOK f
  | [], _, f, hf => by cases hf
  | g :: fs, h, f, hf => by
    simp only [qbK] at h
    split at h
    · rename_i hg
      rcases List.mem_cons.1 hf with rfl | hf
      · exact hg
      · exact qDD fs h f hf
    · omega
theorem qul {rs : List qba} {fs : List qha} (h : fck rs fs = 0) : qxk rs = 0 ∧ fs.length ≤ 600 ∧ ∀ f ∈ fs, fOK f := by
  unfold fck at h
  split at h
  · omega
  · split at h
    · omega
    · rename_i h1 h2
      exact ⟨by omega, by omega, qDD fs h⟩
noncomputable def qsN (rs : List qba) (fs : List qha) : List qxa × Int := if fck rs fs ≠ 0 then ([], fck rs fs) else (prt rs fs [], 0)
theorem qej (rs : List qba) (hR : qFn rs) (fs : List qha) (hF : qXy fs) : qag rs fs = some (qsN rs fs) := by
  rw [qQl, qvq rs hR fs hF]
  simp only [Option.bind_some, qsN]
  by_cases h : fck rs fs = 0
  · obtain ⟨h1, h2, h3⟩ := qul h
    rw [if_neg (by simp [h]), if_neg (show ¬ fck rs fs ≠ 0 from fun k => k h)]
    exact qQB rs (qwk h1) fs (by omega) h3 fs.length 0 [] [] (by omega) (by simp) (fun k x c => by simp [qal])
  · rw [if_pos (by simpa using h), if_pos h]
open Classical
def qMG (d : List Int) (o : Nat) (pd : List Int) : Nat → List Int
  | 0 => d
  | n + 1 => (qMG d o pd n).set (o + n) (pd.getD n 0)
def qkL (t : List Bool) (o : Nat) : Nat → List Bool
  | 0 => t
  | n + 1 => (qkL t o n).set (o + n) true
theorem qcj (d : List Int) (o : Nat) (pd : List Int) : ∀ n, (qMG d o pd n).length = d.length
  | 0 => rfl
  | n + 1 => by simp [qMG, qcj d o pd n]
theorem qbj (t : List Bool) (o : Nat) : ∀ n, (qkL t o n).length = t.length
  | 0 => rfl
  | n + 1 => by simp [qkL, qbj t o n]
theorem qTu (d : List Int) (o : Nat) (pd : List Int) : ∀ n, n ≤ pd.length → o + n ≤ d.length → qMG d o pd n = qNb d o (pd.take n)
  | 0, _, h => by simp [qMG, qNb]
  | n + 1, hn, h => by
    have e1 := (qUd (0 : Int) (xs := d) (i := o + n) (by omega)).1
    have e2 := (qUd (0 : Int) (xs := pd) (i := n) (by omega)).2.1
    have l1 : (pd.take n).length = n := by simp; omega
    have l2 : (d.take o ++ pd.take n).length = o + n := by rw [List.length_append, l1]; simp; omega
    rw [qMG, qTu d o pd n (by omega) (by omega)]
    unfold qNb
    rw [l1, e1, ← l2, qop, e2, List.length_append, l1]
    simp only [List.append_assoc, List.length_cons, List.length_nil, List.cons_append, List.nil_append]
    congr 4
    simp; omega
theorem qKF {d pd : List Int} (hd : Bts d) (hp : Bts pd) (o : Nat) : ∀ n, Bts (qMG d o pd n)
  | 0 => hd
  | n + 1 => fun x hx => by
    rcases List.mem_or_eq_of_mem_set hx with h | h
    · exact qKF hd hp o n x h
    · rw [h]; exact qrF hp n
abbrev iEq : Int → Int → Bool := peq (.int .i64)
theorem qzA (a b : Int) : iEq a b = true ↔ a = b := by simp [peq]
def Rt (m : List (Int × Bool)) (t : List Bool) : Prop := (∀ x : Int, (qal iEq x m).isSome = true ↔ 0 ≤ x ∧ x < (t.length : Int) ∧ t.getD x.toNat false = true) ∧ m.length = t.countP id
theorem qbG {α β : Type} {eq : α → α → Bool} (h : ∀ a b, eq a b = true ↔ a = b) (x : α) (v : β) : ∀ m : List (α × β), (qPx eq x v m).length = m.length + if (qal eq x m).isSome then 0 else 1
  | [] => by simp [qPx, qal]
  | e :: r => by
    have ih := qbG h x v r
    by_cases hx : eq x e.1 = true
    · have h1 : qPx eq x v (e :: r) = (x, v) :: r := if_pos hx
      have h2 : qal eq x (e :: r) = some e.2 := if_pos hx
      rw [h1, h2]; simp
    · have h1 : qPx eq x v (e :: r) = e :: qPx eq x v r := if_neg hx
      have h2 : qal eq x (e :: r) = qal eq x r := if_neg hx
      rw [h1, h2]
      simp only [List.length_cons, ih]; omega
theorem qlD : ∀ (t : List Bool) (i : Nat), i < t.length → (t.set i true).countP id = t.countP id + if t.getD i false then 0 else 1
  | [], i, h => by simp at h
  | b :: t, 0, h => by cases b <;> simp
  | b :: t, i + 1, h => by
    have := qlD t i (by simpa using h)
    simp only [List.set_cons_succ, List.countP_cons, List.getD_cons_succ, this]; omega
theorem Rt.set {m : List (Int × Bool)} {t : List Bool} (h : Rt m t) {i : Nat} (hi : i < t.length) : Rt (qPx iEq (i : Int) true m) (t.set i true) := by
  refine ⟨fun x => ?_, ?_⟩
  · rw [qWq qzA, List.length_set]
    by_cases hx : x = (i : Int)
    · rw [if_pos ((qzA _ _).2 hx), hx, Int.toNat_natCast, List.getD_eq_getElem?_getD, List.getElem?_set_self hi]
      simp; omega
    · rw [if_neg (fun k => hx ((qzA _ _).1 k)), h.1 x]
      constructor
      · rintro ⟨a, b, c⟩
        refine ⟨a, b, ?_⟩
        rw [List.getD_eq_getElem?_getD, List.getElem?_set_ne (by omega), ← List.getD_eq_getElem?_getD]; exact c
      · rintro ⟨a, b, c⟩
        refine ⟨a, b, ?_⟩
        rw [List.getD_eq_getElem?_getD, List.getElem?_set_ne (by omega), ← List.getD_eq_getElem?_getD] at c; exact c
  · rw [qbG qzA, qlD t i hi, h.2]
    congr 1
    have := h.1 (i : Int)
    rw [Int.toNat_natCast] at this
    by_cases hs : t.getD i false = true
    · rw [if_pos (this.2 ⟨by omega, by omega, hs⟩), if_pos hs]
    · rw [if_neg (fun k => hs (this.1 k).2.2), if_neg hs]
theorem Rt.nil (n : Nat) : Rt [] (List.replicate n false) := by
  refine ⟨fun x => ?_, by simp [List.countP_replicate]⟩
  simp only [qal, Option.isSome_none, Bool.false_eq_true, false_iff, not_and, List.length_replicate]
  intro _ _
  rw [List.getD_eq_getElem?_getD, List.getElem?_replicate]
  split <;> simp
structure PtIn (rs : List qba) (q : qxa) : Prop where
  mem : 0 ≤ q.1.1 ∧ q.1.1 < (rs.length : Int)
  off : 0 ≤ q.1.2.1
  fit : q.1.2.1 + (q.2.1.length : Int) ≤ (rs.getD q.1.1.toNat (qpa T_api_Record)).2.1
  bts : Bts q.2.1
theorem qTF (rs : List qba) : ∀ (fs : List qha) (out : List qxa), (∀ f ∈ fs, fOK f ∧ Bts f.2.2.1) → (∀ q ∈ out, PtIn rs q) → ∀ q ∈ prt rs fs out, PtIn rs q
  | [], out, _, h, q, hq => h q hq
  | f :: fs, out, hF, h, q, hq => by
    unfold prt at hq
    split at hq
    · rename_i hc
      refine qTF rs fs _ (fun g hg => hF g (by simp [hg])) (fun p hp => ?_) q hq
      rcases List.mem_append.1 hp with hp | hp
      · exact h p hp
      · rw [List.mem_singleton.1 hp]
        obtain ⟨⟨h1, h2, _, _⟩, hb⟩ := hF f (by simp)
        unfold hOK at h1
        have hw := hc.1
        exact ⟨⟨by show 0 ≤ f.2.1.2.1; omega, hw.1⟩, by show 0 ≤ f.2.1.2.2.1; omega, by
          have := hw.2
          show f.2.1.2.2.1 + (f.2.2.1.length : Int) ≤ _
          rw [h2]; exact this, hb⟩
    · exact qTF rs fs _ (fun g hg => hF g (by simp [hg])) h q hq
def fD (i : Int) : List qxa → List Int → List Int
  | [], d => d
  | p :: ps, d => fD i ps (if p.1.1 = i then qMG d p.1.2.1.toNat p.2.1 p.2.1.length else d)
def fT (i : Int) : List qxa → List Bool → List Bool
  | [], t => t
  | p :: ps, t => fT i ps (if p.1.1 = i then qkL t p.1.2.1.toNat p.2.1.length else t)
theorem qrG (i : Int) : ∀ (ps : List qxa) (d : List Int), (fD i ps d).length = d.length
  | [], d => rfl
  | p :: ps, d => by
    simp only [fD, qrG i ps]
    split
    · rw [qcj]
    · rfl
theorem qgJ (i : Int) : ∀ (ps : List qxa) (t : List Bool), (fT i ps t).length = t.length
  | [], t => rfl
  | p :: ps, t => by
    simp only [fT, qgJ i ps]
    split
    · rw [qbj]
    · rfl
theorem qhJ (i : Int) : ∀ (ps : List qxa) (d : List Int), (∀ q ∈ ps, Bts q.2.1) → Bts d → Bts (fD i ps d)
  | [], d, _, hd => hd
  | p :: ps, d, h, hd => by
    simp only [fD]
    refine qhJ i ps _ (fun q hq => h q (by simp [hq])) ?_
    split
    · exact qKF hd (h p (by simp)) _ _
    · exact hd
section
variable (rs : List qba) (parts : List qxa)
theorem qBM (i : Int) (rl v42 : Int) (j : Nat) (hj : j ≤ 1000) (h9 : List qta) (h10 : List Bool) (r : qba) (d : List Int) (p : qxa) (t : List Bool) (ho : 0 ≤ p.1.2.1) (hf : p.1.2.1 + (p.2.1.length : Int) ≤ (t.length : Int)) (ht : t.length ≤ 8192) : ∀ (k n : Nat) (m : List (Int × Bool)), n + k = p.2.1.length → Rt m (qkL t p.1.2.1.toNat n) →
    ∃ m', Rt m' (qkL t p.1.2.1.toNat p.2.1.length) ∧ qRd i rs rl i v42 (j : Int) (p.2.1.length : Int) (n : Int) parts h9 h10 m r d p = qzb i rs rl i v42 ((j : Int) + 1) parts h9 h10 m' r d
  | 0, n, m, e, hm => by
    have : n = p.2.1.length := by omega
    subst this
    exact ⟨m, hm, by rw [qlh, if_neg (by simp), w64 (by omega) (by omega)]⟩
  | k + 1, n, m, e, hm => by
    have hs := hm.set (i := p.1.2.1.toNat + n) (by rw [qbj]; omega)
    obtain ⟨m', h1, h2⟩ := qBM i rl v42 j hj h9 h10 r d p t ho hf ht k (n + 1) _ (by omega) hs
    refine ⟨m', h1, ?_⟩
    rw [qlh, if_pos (by simp; omega), w64 (x := p.1.2.1 + n) (by omega) (by omega), w64 (x := (n : Int) + 1) (by omega) (by omega)]
    rw [show ((n + 1 : Nat) : Int) = (n : Int) + 1 by omega, show ((p.1.2.1.toNat + n : Nat) : Int) = p.1.2.1 + n by omega] at h2
    exact h2
theorem qIL (hps : parts.length ≤ 1000) (hin : ∀ q ∈ parts, PtIn rs q) (i : Nat) (rl : Int) (h9 : List qta) (h10 : List Bool) (r : qba) (hr : rs.getD i (qpa T_api_Record) = r) (hsz : 0 ≤ r.2.1 ∧ r.2.1 ≤ 8192) : ∀ (k j : Nat) (m : List (Int × Bool)) (d : List Int) (t : List Bool), j + k = parts.length → Rt m t → (d.length : Int) = r.2.1 → (t.length : Int) = r.2.1 →
    ∃ m', Rt m' (fT (i : Int) (parts.drop j) t) ∧ qzb (i : Int) rs rl (i : Int) (parts.length : Int) (j : Int) parts h9 h10 m r d = qzb (i : Int) rs rl (i : Int) (parts.length : Int) (parts.length : Int) parts h9 h10 m' r (fD (i : Int) (parts.drop j) d)
  | 0, j, m, d, t, e, hm, hd, ht => by
    have : j = parts.length := by omega
    subst this
    rw [List.drop_eq_nil_of_le (by omega)]
    exact ⟨m, hm, rfl⟩
  | k + 1, j, m, d, t, e, hm, hd, ht => by
    have hl' : Int.ofNat parts.length = (parts.length : Int) := rfl
    obtain ⟨d1, _, d3⟩ := qUd (qpa qFa : qxa) (xs := parts) (i := j) (by omega)
    have hp := hin _ d3
    rw [qke, if_pos (by simp; omega), qga (by omega), qga (by rw [hl']; omega), Int.toNat_natCast, Nat.zero_add, d1]
    generalize parts.getD j (qpa qFa) = p at *
    by_cases hpi : p.1.1 = (i : Int)
    · have hfit := hp.fit
      have hoff := hp.off
      rw [show p.1.1.toNat = i by omega, hr] at hfit
      have hl3 : Int.ofNat d.length = (d.length : Int) := rfl
      have hl4 : Int.ofNat p.2.1.length = (p.2.1.length : Int) := rfl
      rw [if_neg (by rw [hpi]; simp), qga (by omega), qga (by rw [hl3]; omega), Nat.zero_add, Nat.min_eq_left (by omega), List.take_of_length_le (Nat.le_refl _), hl4]
      have e1 : qNb d p.1.2.1.toNat p.2.1 = qMG d p.1.2.1.toNat p.2.1 p.2.1.length := by
        rw [qTu d _ _ _ (Nat.le_refl _) (by omega), List.take_of_length_le (Nat.le_refl _)]
      rw [e1]
      obtain ⟨m1, g1, g2⟩ := qBM rs parts (i : Int) rl (parts.length : Int) j (by omega) h9 h10 r (qMG d p.1.2.1.toNat p.2.1 p.2.1.length) p t hoff (by omega) (by omega) p.2.1.length 0 m (by omega) hm
      obtain ⟨m2, k1, k2⟩ := qIL hps hin i rl h9 h10 r hr hsz k (j + 1) m1 (qMG d p.1.2.1.toNat p.2.1 p.2.1.length) _ (by omega) g1 (by rw [qcj]; exact hd) (by rw [qbj]; exact ht)
      rw [show ((j + 1 : Nat) : Int) = (j : Int) + 1 by omega] at k2
      refine ⟨m2, by rw [fT, if_pos hpi]; exact k1, ?_⟩
      rw [fD, if_pos hpi]
      exact g2.trans k2
    · obtain ⟨m2, k1, k2⟩ := qIL hps hin i rl h9 h10 r hr hsz k (j + 1) m d t (by omega) hm hd ht
      rw [show ((j + 1 : Nat) : Int) = (j : Int) + 1 by omega] at k2
      refine ⟨m2, by rw [fT, if_neg hpi]; exact k1, ?_⟩
      rw [fD, if_neg hpi, if_pos (bne_iff_ne.2 hpi), w64 (by omega) (by omega)]
      exact k2
def zD (r : qba) : List Int := List.replicate r.2.1.toNat 0
def zT (r : qba) : List Bool := List.replicate r.2.1.toNat false
def qLI (i : Nat) (r : qba) : qta := (r.1, (fD (i : Int) parts (zD r), ()))
noncomputable def qMH (i : Nat) (r : qba) : Bool := (fT (i : Int) parts (zT r)).all id && peq (.arr 20 (.int .u8)) (qUi (fD (i : Int) parts (zD r))) r.2.2.1
noncomputable def qLD : Nat → List qba → List Bool
  | _, [] => []
  | i, r :: q => qMH parts i r :: qLD (i + 1) q
def qMD : Nat → List qba → List qta
  | _, [] => []
  | i, r :: q => qLI parts i r :: qMD (i + 1) q
theorem qZz : ∀ (q : List qba) (i : Nat), (qMD parts i q).length = q.length
  | [], _ => rfl
  | r :: q, i => by simp [qMD, qZz q]
theorem qCq : ∀ (q : List qba) (i : Nat), (qLD parts i q).length = q.length
  | [], _ => rfl
  | r :: q, i => by simp [qLD, qCq q]
theorem qBD (t : List Bool) : t.countP id = t.length ↔ t.all id = true := by
  rw [List.countP_eq_length, List.all_eq_true]
theorem qCM (hps : parts.length ≤ 1000) (hR : RecsV rs) (hin : ∀ q ∈ parts, PtIn rs q) : ∀ (k i : Nat) (h9 : List qta) (h10 : List Bool) (m : List (Int × Bool)), i + k = rs.length → h9.length = i → h10.length = i →
    qFc rs (rs.length : Int) (i : Int) parts h9 h10 m = some (h9 ++ qMD parts i (rs.drop i), (h10 ++ qLD parts i (rs.drop i), 0))
  | 0, i, h9, h10, m, e, e9, e10 => by
    rw [qEc, if_neg (by simp; omega), List.drop_eq_nil_of_le (by omega)]; simp [qMD, qLD]
  | k + 1, i, h9, h10, m, e, e9, e10 => by
    have hl' : Int.ofNat rs.length = (rs.length : Int) := rfl
    have hl2 : Int.ofNat parts.length = (parts.length : Int) := rfl
    have hlen := hR.len
    obtain ⟨d1, _, d3⟩ := qUd (qpa T_api_Record : qba) (xs := rs) (i := i) (by omega)
    have hv := hR.each _ d3
    have ih := fun h9 h10 m e9 e10 => qCM hps hR hin k (i + 1) h9 h10 m (by omega) e9 e10
    rw [show ((i + 1 : Nat) : Int) = (i : Int) + 1 by omega] at ih
    rw [qEc, if_pos (by simp; omega), qga (by omega), qga (by rw [hl']; omega), Int.toNat_natCast, d1]
    generalize hr : rs.getD i (qpa T_api_Record) = r at *
    rw [qga rfl, qga hv.1, qga (by omega), qga (by omega), hl2]
    have hzd : (zD r).length = r.2.1.toNat := by simp [zD]
    have hzt : (zT r).length = r.2.1.toNat := by simp [zT]
    obtain ⟨m1, g1, g2⟩ := qIL rs parts hps hin i (rs.length : Int) h9 h10 r hr ⟨hv.1, hv.2.1⟩ parts.length 0 [] (zD r) (zT r) (by omega) (Rt.nil _) (by omega) (by omega)
    refine Eq.trans g2 ?_
    rw [List.drop_zero] at g1 ⊢
    have hdl := qrG (i : Int) parts (zD r)
    have htl := qgJ (i : Int) parts (zT r)
    have hbt : Bts (fD (i : Int) parts (zD r)) := qhJ _ _ _ (fun q hq => (hin q hq).bts) (fun x hx => by rw [List.eq_of_mem_replicate hx]; omega)
    rw [qke, if_neg (by simp), qZn _ hbt, if_pos (by omega)]
    simp only [Option.bind_some]
    have hm := g1.2
    rw [qga (by simp; omega), w64 (by omega) (by omega)]
    have hw : qMH parts i r = ((fT (i : Int) parts (zT r)).all id && peq (.arr 20 (.int .u8)) (qUi (fD (i : Int) parts (zD r))) r.2.2.1) := rfl
    by_cases ha : (fT (i : Int) parts (zT r)).all id = true
    · have hc := (qBD _).2 ha
      have : (Int.ofNat m1.length == r.2.1) = true := by
        have : Int.ofNat m1.length = (m1.length : Int) := rfl
        rw [this, beq_iff_eq]; omega
      rw [if_pos this, qga (by simp; omega), ih _ _ _ (by simp; omega) (by simp; omega), qMD, qLD, hw, ha, Bool.true_and]
      simp [qLI]
    · have hc : ¬ (fT (i : Int) parts (zT r)).countP id = (fT (i : Int) parts (zT r)).length := fun k => ha ((qBD _).1 k)
      have : ¬ (Int.ofNat m1.length == r.2.1) = true := by
        have : Int.ofNat m1.length = (m1.length : Int) := rfl
        rw [this, beq_iff_eq]; omega
      rw [if_neg this, qga (by simp; omega), ih _ _ _ (by simp; omega) (by simp; omega), qMD, qLD, hw, Bool.eq_false_iff.2 ha, Bool.false_and]
      simp [qLI]
end
noncomputable def reb (rs : List qba) (fs : List qha) : List qta × List Bool × Int :=
  if fck rs fs ≠ 0 then ([], ([], fck rs fs)) else (qMD (prt rs fs []) 0 rs, (qLD (prt rs fs []) 0 rs, 0))
theorem qtI {rs : List qba} {fs : List qha} (hF : qXy fs) (h : fck rs fs = 0) : (∀ q ∈ prt rs fs [], PtIn rs q) ∧ (prt rs fs []).length ≤ 1000 := by
  obtain ⟨h1, h2, h3⟩ := qul h
  refine ⟨qTF rs fs [] (fun f hf => ⟨h3 f hf, (hF.2 f hf).2⟩) (fun q hq => by cases hq), ?_⟩
  have := qsE rs fs []
  simp at this; omega
theorem qPh (rs : List qba) (hR : qFn rs) (fs : List qha) (hF : qXy fs) : qfd rs fs = some (reb rs fs) := by
  rw [qdj, qej rs hR fs hF]
  simp only [Option.bind_some, qsN, reb]
  by_cases h : fck rs fs = 0
  · obtain ⟨h1, _, _⟩ := qul h
    obtain ⟨h4, h5⟩ := qtI hF h
    rw [if_neg (show ¬ fck rs fs ≠ 0 from fun k => k h), if_neg (show ¬ fck rs fs ≠ 0 from fun k => k h), if_neg (show ¬ ((0 : Int) != 0) = true by decide)]
    exact qCM rs _ h5 (qwk h1) h4 rs.length 0 [] [] [] (by omega) rfl rfl
  · rw [if_pos h, if_pos h, if_pos (bne_iff_ne.2 h)]
theorem qJE (fs : List qha) : ∀ (k i : Nat), i + k = fs.length → ∃ g, qOc fs (i : Int) = some g ∧ (g = false → fs.length ≤ 620)
  | 0, i, e => by
    have hl' : Int.ofNat fs.length = (fs.length : Int) := rfl
    rw [qGf, if_neg (by simp; omega), hl']
    split
    · split
      · exact ⟨true, rfl, fun h => by cases h⟩
      · exact ⟨_, rfl, fun h => by simp at h; omega⟩
    · exact ⟨_, rfl, fun h => by simp at h; omega⟩
  | k + 1, i, e => by
    have hl' : Int.ofNat fs.length = (fs.length : Int) := rfl
    rw [qGf, if_pos (by simp; omega)]
    by_cases h : i ≤ 30
    · rw [if_pos (by simp; omega), qga (by omega), qga (by rw [hl']; omega)]
      split
      · exact ⟨true, rfl, fun h => by cases h⟩
      · have ih := qJE fs k (i + 1) (by omega)
        rw [show ((i + 1 : Nat) : Int) = (i : Int) + 1 by omega] at ih
        rw [w64 (by omega) (by omega)]
        exact ih
    · rw [if_neg (by simp; omega), hl']
      split
      · split
        · exact ⟨true, rfl, fun h => by cases h⟩
        · exact ⟨_, rfl, fun h => by simp at h; omega⟩
      · exact ⟨_, rfl, fun h => by simp at h; omega⟩
end Go.Ab

/-
  Chapter 34: parts are some of what was found; what is whole stays whole.
-/
set_option linter.unusedVariables false
set_option linter.unusedSimpArgs false
set_option maxRecDepth 10000
namespace Go.Ab
open Go
attribute [local irreducible] IntKind.wrap
open Classical
theorem qtE (rs : List qba) : ∀ (fs gs : List qha) (out : List qxa), prt rs (fs ++ gs) out = prt rs gs (prt rs fs out)
  | [], gs, out => rfl
  | f :: fs, gs, out => by
    rw [List.cons_append]
    by_cases h : qfL rs f ∧ agr out (qnb f)
    · rw [prt, if_pos h, qtE rs fs gs, prt, if_pos h]
    · rw [prt, if_neg h, qtE rs fs gs, prt, if_neg h]
theorem qrE (rs : List qba) : ∀ (fs : List qha) (out : List qxa), ∃ t, prt rs fs out = out ++ t ∧ List.Sublist t (fs.map qnb)
  | [], out => ⟨[], (List.append_nil _).symm, List.Sublist.refl _⟩
  | f :: fs, out => by
    by_cases h : qfL rs f ∧ agr out (qnb f)
    · obtain ⟨t, h1, h2⟩ := qrE rs fs (out ++ [qnb f])
      refine ⟨qnb f :: t, ?_, ?_⟩
      · rw [prt, if_pos h, h1, List.append_assoc]; rfl
      · rw [List.map_cons]; exact List.Sublist.cons_cons _ h2
    · obtain ⟨t, h1, h2⟩ := qrE rs fs out
      refine ⟨t, ?_, ?_⟩
      · rw [prt, if_neg h, h1]
      · rw [List.map_cons]; exact List.Sublist.cons _ h2
theorem qPz (d : List Int) (o : Nat) (pd : List Int) (x : Nat) : ∀ n, o + n ≤ d.length → (qMG d o pd n).getD x 0 = if o ≤ x ∧ x < o + n then pd.getD (x - o) 0 else d.getD x 0
  | 0, h => by rw [if_neg (by omega)]; rfl
  | n + 1, h => by
    have ih := qPz d o pd x n (by omega)
    have hl := qcj d o pd n
    rw [qMG]
    by_cases hx : x = o + n
    · subst hx
      rw [if_pos (by omega), List.getD_eq_getElem?_getD, List.getElem?_set_self (by omega)]
      rw [show o + n - o = n by omega]; rfl
    · rw [List.getD_eq_getElem?_getD, List.getElem?_set_ne (by omega), ← List.getD_eq_getElem?_getD, ih]
      by_cases hc : o ≤ x ∧ x < o + n
      · rw [if_pos hc, if_pos (by omega)]
      · rw [if_neg hc, if_neg (by omega)]
theorem qOz (t : List Bool) (o : Nat) (x : Nat) : ∀ n, o + n ≤ t.length → (qkL t o n).getD x false = if o ≤ x ∧ x < o + n then true else t.getD x false
  | 0, h => by rw [if_neg (by omega)]; rfl
  | n + 1, h => by
    have ih := qOz t o x n (by omega)
    have hl := qbj t o n
    rw [qkL]
    by_cases hx : x = o + n
    · subst hx
      rw [if_pos (by omega), List.getD_eq_getElem?_getD, List.getElem?_set_self (by omega)]; rfl
    · rw [List.getD_eq_getElem?_getD, List.getElem?_set_ne (by omega), ← List.getD_eq_getElem?_getD, ih]
      by_cases hc : o ≤ x ∧ x < o + n
      · rw [if_pos hc, if_pos (by omega)]
      · rw [if_neg hc, if_neg (by omega)]
def qgO (i : Int) (ps : List qxa) (d : List Int) (t : List Bool) : Prop := ∀ x : Nat, x < t.length → t.getD x false = true → ∃ q ∈ ps, cov q i x (d.getD x 0)
theorem qHz (rs : List qba) (i : Nat) : ∀ (ps pre : List qxa) (d : List Int) (t : List Bool), (∀ q ∈ ps, PtIn rs q) → (d.length : Int) = (rs.getD i (qpa T_api_Record)).2.1 → t.length = d.length → qgO (i : Int) pre d t → qgO (i : Int) (pre ++ ps) (fD (i : Int) ps d) (fT (i : Int) ps t)
  | [], pre, d, t, _, _, _, h => by rw [List.append_nil]; exact h
  | p :: ps, pre, d, t, hin, hd, ht, h => by
    have e : pre ++ p :: ps = (pre ++ [p]) ++ ps := by rw [List.append_assoc]; rfl
    rw [e, fD, fT]
    have hp := hin p List.mem_cons_self
    by_cases hpi : p.1.1 = (i : Int)
    · rw [if_pos hpi, if_pos hpi]
      have hfit := hp.fit
      rw [hpi, Int.toNat_natCast, ← hd] at hfit
      have ho := hp.off
      have h1 : p.1.2.1.toNat + p.2.1.length ≤ d.length := by omega
      refine qHz rs i ps _ _ _ (fun q hq => hin q (List.mem_cons_of_mem _ hq)) (by rw [qcj]; exact hd) (by rw [qcj, qbj]; exact ht) (fun x hx hT => ?_)
      rw [qbj] at hx
      rw [qOz t _ x _ (by omega)] at hT
      rw [qPz d _ _ x _ h1]
      by_cases hc : p.1.2.1.toNat ≤ x ∧ x < p.1.2.1.toNat + p.2.1.length
      · rw [if_pos hc]
        refine ⟨p, List.mem_append_right _ List.mem_cons_self, hpi, by omega, by omega, ?_⟩
        rw [show ((x : Int) - p.1.2.1).toNat = x - p.1.2.1.toNat by omega]
      · rw [if_neg hc] at hT ⊢
        obtain ⟨q, hq, hcv⟩ := h x hx hT
        exact ⟨q, List.mem_append_left _ hq, hcv⟩
    · rw [if_neg hpi, if_neg hpi]
      refine qHz rs i ps _ _ _ (fun q hq => hin q (List.mem_cons_of_mem _ hq)) hd ht (fun x hx hT => ?_)
      obtain ⟨q, hq, hcv⟩ := h x hx hT
      exact ⟨q, List.mem_append_left _ hq, hcv⟩
theorem qrw {t : List Bool} (h : t.all id = true) {x : Nat} (hx : x < t.length) : t.getD x false = true := by
  rw [List.getD_eq_getElem?_getD, List.getElem?_eq_getElem hx]
  exact List.all_eq_true.1 h _ (List.getElem_mem hx)
theorem qwF {t : List Bool} (h : ∀ x, x < t.length → t.getD x false = true) : t.all id = true := by
  refine List.all_eq_true.2 (fun b hb => ?_)
  obtain ⟨x, hx, e⟩ := List.mem_iff_getElem.1 hb
  have := h x hx
  rw [List.getD_eq_getElem?_getD, List.getElem?_eq_getElem hx] at this
  rw [← e]; exact this
theorem qvA {a b : List Int} (hl : a.length = b.length) (h : ∀ x, x < a.length → a.getD x 0 = b.getD x 0) : a = b := by
  refine List.ext_getElem hl (fun x h1 h2 => ?_)
  have := h x h1
  rw [List.getD_eq_getElem?_getD, List.getD_eq_getElem?_getD, List.getElem?_eq_getElem h1, List.getElem?_eq_getElem h2] at this
  exact this
theorem qxL (i : Int) : ∀ (a b : List qxa) (d : List Int), fD i (a ++ b) d = fD i b (fD i a d)
  | [], b, d => rfl
  | p :: a, b, d => by rw [List.cons_append, fD, fD, qxL i a b]
theorem qwL (i : Int) : ∀ (a b : List qxa) (t : List Bool), fT i (a ++ b) t = fT i b (fT i a t)
  | [], b, t => rfl
  | p :: a, b, t => by rw [List.cons_append, fT, fT, qwL i a b]
theorem qKv (rs : List qba) (i : Nat) (z : List Int) (tz : List Bool) (hz : (z.length : Int) = (rs.getD i (qpa T_api_Record)).2.1) (htz : tz.length = z.length) (hfz : ∀ x, x < tz.length → tz.getD x false = false) : ∀ (fs : List qha) (out : List qxa), (∀ f ∈ fs, fOK f ∧ Bts f.2.2.1) → (∀ q ∈ out, PtIn rs q) → (fT (i : Int) out tz).all id = true →
    fD (i : Int) (prt rs fs out) z = fD (i : Int) out z ∧ (fT (i : Int) (prt rs fs out) tz).all id = true
  | [], out, _, _, h => ⟨rfl, h⟩
  | f :: fs, out, hF, hO, h => by
    have hF' : ∀ g ∈ fs, fOK g ∧ Bts g.2.2.1 := fun g hg => hF g (List.mem_cons_of_mem _ hg)
    by_cases hc : qfL rs f ∧ agr out (qnb f)
    · have hone : ∀ q ∈ prt rs [f] out, PtIn rs q := qTF rs [f] out (fun g hg => hF g (by rw [List.mem_singleton.1 hg]; exact List.mem_cons_self)) hO
      have e1 : prt rs [f] out = out ++ [qnb f] := by rw [prt, if_pos hc, prt]
      rw [e1] at hone
      have hp := hone (qnb f) (List.mem_append_right _ List.mem_cons_self)
      have hdl := qrG (i : Int) out z
      have htl := qgJ (i : Int) out tz
      have hsrc := qHz rs i out [] z tz hO hz htz (fun x hx hT => by rw [hfz x hx] at hT; cases hT)
      rw [List.nil_append] at hsrc
      have hT1 : (fT (i : Int) (out ++ [qnb f]) tz).all id = true ∧ fD (i : Int) (out ++ [qnb f]) z = fD (i : Int) out z := by
        rw [qwL, qxL, fT, fT, fD, fD]
        by_cases hpi : (qnb f).1.1 = (i : Int)
        · rw [if_pos hpi, if_pos hpi]
          have hfit := hp.fit
          have hoff := hp.off
          rw [hpi, Int.toNat_natCast, ← hz] at hfit
          have h1 : (qnb f).1.2.1.toNat + (qnb f).2.1.length ≤ z.length := by omega
          refine ⟨qwF (fun x hx => ?_), qvA (qcj _ _ _ _) (fun x hx => ?_)⟩
          · rw [qbj] at hx
            rw [qOz _ _ x _ (by omega)]
            split
            · rfl
            · exact qrw h hx
          · rw [qcj] at hx
            rw [qPz _ _ _ x _ (by omega)]
            split
            · rename_i hxx
              obtain ⟨q, hq, hcv⟩ := hsrc x (by omega) (qrw h (by omega))
              have hag := hc.2 q hq (x - (qnb f).1.2.1.toNat) (by omega) ((fD (i : Int) out z).getD x 0)
              rw [hpi, show (qnb f).1.2.1 + ((x - (qnb f).1.2.1.toNat : Nat) : Int) = (x : Int) by omega] at hag
              exact (hag hcv).symm
            · rfl
        · rw [if_neg hpi, if_neg hpi]
          exact ⟨h, rfl⟩
      have ih := qKv rs i z tz hz htz hfz fs (out ++ [qnb f]) hF' hone hT1.1
      rw [prt, if_pos hc]
      exact ⟨ih.1.trans hT1.2, ih.2⟩
    · rw [prt, if_neg hc]
      exact qKv rs i z tz hz htz hfz fs out hF' hO h
theorem qLH (rs : List qba) (hV : RecsV rs) (i : Nat) (hi : i < rs.length) (fs : List qha) (out : List qxa) (hF : ∀ f ∈ fs, fOK f ∧ Bts f.2.2.1) (hO : ∀ q ∈ out, PtIn rs q) (h : qMH out i (rs.getD i (qpa T_api_Record)) = true) : qMH (prt rs fs out) i (rs.getD i (qpa T_api_Record)) = true := by
  have hm : rs.getD i (qpa T_api_Record) ∈ rs := qHa (P := fun r => r ∈ rs) (fun r hr => hr) i hi
  have hr := hV.each _ hm
  unfold qMH at h ⊢
  rw [Bool.and_eq_true] at h ⊢
  have hzl : ((zD (rs.getD i (qpa T_api_Record))).length : Int) = (rs.getD i (qpa T_api_Record)).2.1 := by
    unfold zD; rw [List.length_replicate]; omega
  have htl : (zT (rs.getD i (qpa T_api_Record))).length = (zD (rs.getD i (qpa T_api_Record))).length := by
    unfold zT zD; rw [List.length_replicate, List.length_replicate]
  have hk := qKv rs i (zD _) (zT _) hzl htl (fun x hx => by
    unfold zT at hx ⊢
    rw [List.length_replicate] at hx
    rw [List.getD_eq_getElem?_getD, List.getElem?_replicate, if_pos hx]; rfl) fs out hF hO h.1
  exact ⟨hk.2, by rw [hk.1]; exact h.2⟩
def grd : List qxa → List qxa → List qxa
  | [], ps => ps
  | x :: xs, ps => grd xs (match ps with
    | [] => []
    | p :: r => if p.1 = x.1 ∧ p.2.1 = x.2.1 then r else p :: r)
theorem qLE : ∀ (xs : List qxa), grd xs [] = []
  | [] => rfl
  | x :: xs => qLE xs
theorem qKE : ∀ (xs ps : List qxa), List.Sublist ps xs → grd xs ps = []
  | [], ps, h => List.sublist_nil.1 h
  | x :: xs, [], h => qLE _
  | x :: xs, p :: ps, h => by
    rw [grd]
    by_cases he : p.1 = x.1 ∧ p.2.1 = x.2.1
    · rw [if_pos he]
      refine qKE xs ps ?_
      cases h with
      | cons _ h => exact (List.sublist_cons_self _ _).trans h
      | cons_cons _ h => exact h
    · rw [if_neg he]
      refine qKE xs (p :: ps) ?_
      cases h with
      | cons _ h => exact h
      | cons_cons _ h => exact absurd ⟨rfl, rfl⟩ he
theorem qOH : ∀ (rs : List qba) (acc : Int) (nm : List ByteArray), vld acc nm rs = 0 → ∀ r ∈ rs, ¬ qyD r = true
  | [], acc, nm, h, r, hr => by cases hr
  | q :: rest, acc, nm, h, r, hr => by
    rw [vld] at h
    by_cases hb : qyD q = true
    · rw [if_pos hb] at h; omega
    · rw [if_neg hb] at h
      rcases List.mem_cons.1 hr with rfl | hr
      · exact hb
      · exact qOH rest _ _ h r hr
theorem qQH {rs : List qba} (h : qxk rs = 0) {r : qba} (hr : r ∈ rs) : qxk [r] = 0 := by
  have h1 := (qwk h).each r hr
  have h2 : vld 0 [] rs = 0 := by
    unfold qxk at h
    split at h
    · omega
    · exact h
  have h3 := qOH rs 0 [] h2 r hr
  have e : qxk [r] = vld 0 [] [r] := if_neg (by show ¬ 1 > 16; decide)
  rw [e, vld, if_neg h3, vld, if_neg (by omega)]
  rfl
theorem qOF (parts : List qxa) : ∀ (q : List qba) (i k : Nat), k < q.length → (qMD parts i q).getD k (qpa qza) = qLI parts (i + k) (q.getD k (qpa T_api_Record))
  | [], i, k, h => by cases h
  | r :: q, i, 0, h => rfl
  | r :: q, i, k + 1, h => by
    have := qOF parts q (i + 1) k (by simpa using h)
    rw [qMD, List.getD_cons_succ, List.getD_cons_succ, this, show i + 1 + k = i + (k + 1) by omega]
theorem qYz (parts : List qxa) : ∀ (q : List qba) (i k : Nat), k < q.length → (qLD parts i q).getD k false = qMH parts (i + k) (q.getD k (qpa T_api_Record))
  | [], i, k, h => by cases h
  | r :: q, i, 0, h => rfl
  | r :: q, i, k + 1, h => by
    have := qYz parts q (i + 1) k (by simpa using h)
    rw [qLD, List.getD_cons_succ, List.getD_cons_succ, this, show i + 1 + k = i + (k + 1) by omega]
end Go.Ab
