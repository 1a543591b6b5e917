/-
  An abstract machine over the model's code and its soundness; what the functions compute, as plain functions (printed by a program of this repo's own, checked here by the kernel); plain laws of them: part 6. Helper text, no statement of the claim stands here.
-/
import Derived.Test.YtfabancjlbbgkaaGreatDoorTxtYe
import Derived.Lib.IndexMore
/-
  Totality of the codec, 5: squash and stretch, mixers, refiners, the walk.
-/
set_option linter.unusedVariables false
set_option linter.unusedSimpArgs false
set_option maxRecDepth 10000
namespace Go.Ab
open Go
attribute [local irreducible] IntKind.wrap
theorem row_ok : ∀ i : Fin 32, 1 ≤ G_row.getD i.val 0 ∧ G_row.getD i.val 0 ≤ G_row.getD (i.val + 1) 0 ∧ G_row.getD (i.val + 1) 0 ≤ 4094 := by decide +kernel
theorem squash_T (a : Int) : Tot (squash_Squash a) fun r => 0 ≤ r ∧ r ≤ 4095 := by
  rw [squash_Squash_eq]
  refine Tot.ifd (fun _ => Tot.so (by decide)) (fun h1 => Tot.ifd (fun _ => Tot.so (by decide)) (fun h2 => ?_))
  rw [fdiv_pos a (by decide)]
  have hi : 0 ≤ a / 128 + 16 ∧ a / 128 + 16 ≤ 31 := by omega
  generalize a / 128 + 16 = i at *
  rw [w32 (x := i) (by omega) (by omega), w32 (x := i + 1) (by omega) (by omega)]
  have hr := row_ok ⟨i.toNat, by omega⟩
  simp only at hr
  have e : (i + 1).toNat = i.toNat + 1 := by omega
  rw [e]
  generalize G_row.getD i.toNat 0 = L at *
  generalize G_row.getD (i.toNat + 1) 0 = H at *
  have hw := and32 a 127 (by decide) (by decide)
  generalize bitsAnd .i32 a 127 = w at *
  rw [w32 (x := L * 128) (by omega) (by omega), w32 (x := H - L) (by omega) (by omega)]
  have m1 : (H - L) * w ≤ (H - L) * 127 := Int.mul_le_mul_of_nonneg_left hw.2 (by omega)
  have m2 : 0 ≤ (H - L) * w := Int.mul_nonneg (by omega) hw.1
  generalize (H - L) * w = z at *
  rw [w32 (x := z) (by omega) (by omega), w32 (x := L * 128 + z) (by omega) (by omega), w32 (by omega) (by omega), fdiv_pos _ (by decide)]
  refine Tot.g (by decide) (Tot.g (by omega) (Tot.g (by omega) (Tot.g (by omega) (Tot.g (by omega) (Tot.g (by omega) (Tot.g (by omega) (Tot.g (by decide) (Tot.so ?_))))))))
  omega
theorem sort_Search_c1_T (b : Int) : ∀ (m : Nat) (x y : Int), (y - x).toNat ≤ m → 0 ≤ x → x ≤ y → y ≤ 4094 → Tot (sort_Search_c1 x y b) fun r => 0 ≤ r.1 ∧ r.1 ≤ 4094 := by
  intro m
  induction m with
  | zero =>
    intro x y hm h0 h1 h2
    rw [sort_Search_c1_eq]
    exact Tot.ifd_neg (by omega) (Tot.so ⟨h0, by simp only; omega⟩)
  | succ m ih =>
    intro x y hm h0 h1 h2
    rw [sort_Search_c1_eq]
    refine Tot.ifd (fun hlt => ?_) (fun _ => Tot.so ⟨h0, by simp only; omega⟩)
    rw [w64 (x := x + y) (by omega) (by omega), wu64, fdiv_pos _ (by decide)]
    have e : (x + y) % 18446744073709551616 = x + y := by omega
    rw [e, w64 (x := (x + y) / 2) (by omega) (by omega), w64 (x := (x + y) / 2 + 1) (by omega) (by omega), squash_Stretch_1_eq]
    refine Tot.g (by decide) (Tot.b (P := fun r => r.2 = b) (Tot.b (squash_T _) (fun r _ => Tot.so rfl)) (fun r hr => ?_))
    rw [hr]
    exact Tot.ifn (fun _ => ih _ _ (by omega) (by omega) (by omega) (by omega)) (fun _ => ih _ _ (by omega) (by omega) (by omega) (by omega))
theorem stretch_T (a : Int) : Tot (squash_Stretch a) fun r => -2047 ≤ r ∧ r ≤ 2047 := by
  rw [squash_Stretch_eq, sort_Search_eq]
  refine Tot.b (sort_Search_c1_T a 4094 0 4094 (by decide) (by decide) (by decide) (by decide)) (fun r hr => Tot.so ?_)
  rw [w32 (x := r.1) (by omega) (by omega), w32 (by omega) (by omega)]
  omega
def WfMix (m : D_api_Mixer) : Prop := m.1.length = 256 ∧ ∀ r ∈ m.1, r.length = 8
theorem containsL_T (l : List (List Int)) (hl : l.length ≤ 1048576) (h : ∀ r ∈ l, r.length = 8) : slices_ContainsFunc_int32_int32 l = some false := by
  have key : ∀ i : Int, 0 ≤ i → Tot (slices_IndexFunc_int32_int32_c1 l l.length i) fun r => r = -1 := by
    intro i
    refine up_ind (P := fun i => 0 ≤ i → Tot (slices_IndexFunc_int32_int32_c1 l l.length i) fun r => r = -1) l.length ?_ ?_ i
    · intro i hi h0
      rw [slices_IndexFunc_int32_int32_c1_eq]
      exact Tot.ifd_neg (by omega) (Tot.so rfl)
    · intro i hi ih h0
      rw [slices_IndexFunc_int32_int32_c1_eq]
      simp only [Int.ofNat_eq_natCast]
      rw [w64 (x := i + 1) (by omega) (by omega)]
      have hd := getD_all (P := fun r : List Int => r.length = 8) (d := []) h i.toNat (by omega)
      refine Tot.ifd_pos (by omega) (Tot.g h0 (Tot.g (by omega) (Tot.be (v := false) ?_ (Tot.iff_ (ih (by omega))))))
      rw [mixer_Check_1_eq, hd]
      rfl
  rw [slices_ContainsFunc_int32_int32_eq, slices_IndexFunc_int32_int32_eq]
  exact Tot.eq (Tot.b (key 0 (by omega)) (fun r hr => Tot.so (by rw [hr]; rfl)))
theorem mixer_Check_T {m : D_api_Mixer} (h : WfMix m) : mixer_Check m = some 0 := by
  rw [mixer_Check_eq]
  simp only [Int.ofNat_eq_natCast]
  have := h.1
  exact Tot.eq (Tot.ifd_neg (by omega) (Tot.ifd_neg (by omega) (Tot.be (containsL_T _ (by omega) h.2) (Tot.iff_ (Tot.so rfl)))))
theorem mixer_keep_eqv (a : Int) : Tot (mixer_keep a) fun r => -2047 ≤ r ∧ r ≤ 2047 ∧ (-2047 ≤ a → a ≤ 2047 → r = a) := by
  rw [mixer_keep_eq]
  refine Tot.so ?_
  split <;> split at * <;> omega
theorem containsI_T (l : List Int) (hl : l.length ≤ 1048576) (h : ∀ x ∈ l, -2047 ≤ x ∧ x ≤ 2047) : slices_ContainsFunc_int32_int32_v2 l = some false := by
  have key : ∀ i : Int, 0 ≤ i → Tot (slices_IndexFunc_int32_int32_v2_c1 l l.length i) fun r => r = -1 := by
    intro i
    refine up_ind (P := fun i => 0 ≤ i → Tot (slices_IndexFunc_int32_int32_v2_c1 l l.length i) fun r => r = -1) l.length ?_ ?_ i
    · intro i hi h0
      rw [slices_IndexFunc_int32_int32_v2_c1_eq]
      exact Tot.ifd_neg (by omega) (Tot.so rfl)
    · intro i hi ih h0
      rw [slices_IndexFunc_int32_int32_v2_c1_eq]
      simp only [Int.ofNat_eq_natCast]
      rw [w64 (x := i + 1) (by omega) (by omega)]
      have hd := getD_all (P := fun x => -2047 ≤ x ∧ x ≤ 2047) (d := 0) h i.toNat (by omega)
      refine Tot.ifd_pos (by omega) (Tot.g h0 (Tot.g (by omega) (Tot.be (v := false) ?_ (Tot.iff_ (ih (by omega))))))
      rw [mixer_check_1_eq]
      exact Tot.eq (Tot.b (mixer_keep_eqv _) (fun r hr => Tot.so (by rw [hr.2.2 hd.1 hd.2]; simp)))
  rw [slices_ContainsFunc_int32_int32_v2_eq, slices_IndexFunc_int32_int32_v2_eq]
  exact Tot.eq (Tot.b (key 0 (by omega)) (fun r hr => Tot.so (by rw [hr]; rfl)))
theorem mixer_check_T {m : D_api_Mixer} (h : WfMix m) {s : Int} (h0 : 0 ≤ s) (h1 : s ≤ 255) {l : List Int} (hl : l.length = 8) (hb : ∀ x ∈ l, -2047 ≤ x ∧ x ≤ 2047) : mixer_check m s l = some 0 := by
  rw [mixer_check_eq]
  simp only [Int.ofNat_eq_natCast]
  have := h.1
  exact Tot.eq (Tot.be (mixer_Check_T h) (Tot.ifne_neg rfl (Tot.ifd_neg (by omega) (Tot.ifd_neg (by omega) (Tot.ifne_neg (by omega) (Tot.be (containsI_T _ (by omega) hb) (Tot.iff_ (Tot.so rfl))))))))
theorem fixed_Sat_T (a : Int) : Tot (fixed_Sat a) fun _ => True := by
  rw [fixed_Sat_eq]; exact Tot.so trivial
theorem fixed_Dot_T (a b : List Int) (hl : a.length = b.length) (h16 : a.length ≤ 16) : Tot (fixed_Dot a b) fun _ => True := by
  have key : ∀ i : Int, 0 ≤ i → ∀ v6 v7, 0 ≤ v7 → Tot (fixed_Dot_c1 b v6 v7 a a.length i) fun r => True := by
    intro i
    refine up_ind (P := fun i => 0 ≤ i → ∀ v6 v7, 0 ≤ v7 → Tot (fixed_Dot_c1 b v6 v7 a a.length i) fun r => True) a.length ?_ ?_ i
    · intro i hi h0 v6 v7 h7
      rw [fixed_Dot_c1_eq]
      refine Tot.ifd_neg (by omega) ?_
      repeat (first | exact Tot.so trivial | exact Tot.b (fixed_Sat_T _) (fun _ _ => Tot.so trivial) | refine Tot.it (fun _ => ?_) (fun _ => ?_))
    · intro i hi ih h0 v6 v7 h7
      rw [fixed_Dot_c1_eq]
      simp only [Int.ofNat_eq_natCast]
      rw [w64 (x := i + 1) (by omega) (by omega)]
      refine Tot.ifd_pos (by omega) (Tot.g h0 (Tot.g (by omega) (Tot.g h0 (Tot.g (by omega) (Tot.b (P := fun r => 0 ≤ r.1) ?_ (fun r hr => Tot.g (by decide) (ih (by omega) _ _ hr)))))))
      unfold bits_Add64
      have hw := wr_u64 (IntKind.wrap .i64 ((IntKind.wrap .i64 (List.getD a (Int.toNat i) 0)) * (IntKind.wrap .i64 (List.getD b (Int.toNat i) 0))))
      rw [if_pos ⟨h7, hw.1, by omega, by omega⟩]
      exact Tot.so (by simp only; omega)
  rw [fixed_Dot_eq]
  simp only [Int.ofNat_eq_natCast]
  exact Tot.ifd_neg (by split <;> omega) (Tot.ifne_neg (by omega) (key 0 (by omega) 0 0 (by omega)))
theorem mixer_Mix_T {m : D_api_Mixer} (h : WfMix m) {s : Int} (h0 : 0 ≤ s) (h1 : s ≤ 255) {l : List Int} (hl : l.length = 8) (hb : ∀ x ∈ l, -2047 ≤ x ∧ x ≤ 2047) :
    Tot (mixer_Mix m s l) fun r => -2047 ≤ r.1 ∧ r.1 ≤ 2047 ∧ 0 ≤ r.2.1 ∧ r.2.1 ≤ 4095 := by
  rw [mixer_Mix_eq]
  simp only [Int.ofNat_eq_natCast]
  have hl' := h.1
  have hd := getD_all (P := fun r : List Int => r.length = 8) (d := []) h.2 s.toNat (by omega)
  exact Tot.be (mixer_check_T h h0 h1 hl hb) (Tot.ifne_neg rfl (Tot.g h0 (Tot.g (by omega) (Tot.b (fixed_Dot_T _ _ (by omega) (by omega)) (fun r _ => Tot.g (by decide) (Tot.b (mixer_keep_eqv _) (fun q hq => Tot.b (squash_T _) (fun t ht => Tot.so ⟨hq.1, hq.2.1, ht⟩))))))))
theorem fixed_Round_T (a : Int) : Tot (fixed_Round a 14) fun _ => True := by
  rw [fixed_Round_eq, w64 (x := 14 - 1) (by decide) (by decide)]
  exact Tot.ifd_neg (by decide) (Tot.ifd_neg (by decide) (Tot.ifeq_neg (by decide) (Tot.g (by decide) (Tot.g (by decide) (Tot.so trivial)))))
theorem fixed_Add_T (a b : Int) : Tot (fixed_Add a b) fun _ => True := by
  rw [fixed_Add_eq]
  exact Tot.b (fixed_Sat_T _) (fun _ _ => Tot.so trivial)
theorem mixer_Learn_c2_T {s : Int} (h0 : 0 ≤ s) (h1 : s ≤ 255) {l : List Int} (hl : l.length = 8) (v16 : Int) (u u' : Unit) (h10 : List (List Int)) : ∀ i : Int, 0 ≤ i → ∀ h11 : List (List Int), h11.length = 256 → (∀ r ∈ h11, r.length = 8) →
    Tot (mixer_Learn_c2 s v16 l 8 i u u' h10 h11) fun r => r.2 = 0 ∧ WfMix r.1 := by
  intro i
  refine up_ind (P := fun i => 0 ≤ i → ∀ h11 : List (List Int), h11.length = 256 → (∀ r ∈ h11, r.length = 8) → Tot (mixer_Learn_c2 s v16 l 8 i u u' h10 h11) fun r => r.2 = 0 ∧ WfMix r.1) 8 ?_ ?_ i
  · intro i hi h0' h11 hh hr
    rw [mixer_Learn_c2_eq]
    exact Tot.ifd_neg (by omega) (Tot.so ⟨rfl, hh, hr⟩)
  · intro i hi ih h0' h11 hh hr
    rw [mixer_Learn_c2_eq]
    simp only [Int.ofNat_eq_natCast]
    have hd := getD_all (P := fun r : List Int => r.length = 8) (d := []) hr (0 + s.toNat) (by omega)
    rw [w64 (x := i + 1) (by omega) (by omega), hd]
    refine Tot.ifd_pos (by omega) (Tot.g h0' (Tot.g (by omega) (Tot.b (fixed_Round_T _) (fun r _ => Tot.g h0 (Tot.g (by omega) (Tot.g (by decide) (Tot.g h0 (Tot.g (by omega) (Tot.g (by decide) (Tot.g h0' (Tot.g (by omega) (Tot.b (fixed_Add_T _ _) (fun q _ => Tot.g h0' (Tot.g (by omega) (ih (by omega) _ (by simpa using hh) (set_all hr ?_ _))))))))))))))))
    simpa using hd
theorem mixer_Learn_c1_T {s : Int} (h0 : 0 ≤ s) (h1 : s ≤ 255) {l : List Int} (hl : l.length = 8) (v3 : Int) (v4 : Bool) (m : List (List Int)) (hm : m.length = 256) (hr : ∀ r ∈ m, r.length = 8) (u u' : Unit) (h10 : List (List Int)) : ∀ i : Int, 0 ≤ i → i ≤ 256 → ∀ h11 : List (List Int), h11.length = i.toNat → (∀ r ∈ h11, r.length = 8) →
    Tot (mixer_Learn_c1 s l v3 v4 m 256 i u u' h10 h11) fun r => r.2 = 0 ∧ WfMix r.1 := by
  intro i
  refine up_ind (P := fun i => 0 ≤ i → i ≤ 256 → ∀ h11 : List (List Int), h11.length = i.toNat → (∀ r ∈ h11, r.length = 8) → Tot (mixer_Learn_c1 s l v3 v4 m 256 i u u' h10 h11) fun r => r.2 = 0 ∧ WfMix r.1) 256 ?_ ?_ i
  · intro i hi h0' hi' h11 hh hr'
    rw [mixer_Learn_c1_eq]
    simp only [Int.ofNat_eq_natCast]
    rw [hl]
    refine Tot.ifd_neg (by omega) (Tot.b (P := fun _ => True) ?_ (fun q _ => mixer_Learn_c2_T h0 h1 hl _ u u' h10 0 (by omega) h11 (by omega) hr'))
    rw [mixer_wrong_eq]
    exact Tot.it (fun _ => Tot.so trivial) (fun _ => Tot.so trivial)
  · intro i hi ih h0' hi' h11 hh hr'
    rw [mixer_Learn_c1_eq]
    simp only [Int.ofNat_eq_natCast]
    have hd := getD_all (P := fun r : List Int => r.length = 8) (d := []) hr i.toNat (by omega)
    rw [w64 (x := i + 1) (by omega) (by omega)]
    refine Tot.ifd_pos (by omega) (Tot.g h0' (Tot.g (by omega) (Tot.be (slices_Clone_int32_int32_T _ (by omega)) (Tot.g (by rw [List.length_append, List.length_singleton]; omega) (ih (by omega) (by omega) _ (by rw [List.length_append, List.length_singleton]; omega) (app_all hr' hd))))))
theorem mixer_Learn_T {m : D_api_Mixer} (h : WfMix m) {s : Int} (h0 : 0 ≤ s) (h1 : s ≤ 255) {l : List Int} (hl : l.length = 8) (hb : ∀ x ∈ l, -2047 ≤ x ∧ x ≤ 2047) {p : Int} (hp0 : 0 ≤ p) (hp1 : p ≤ 4095) (b : Bool) :
    Tot (mixer_Learn m s l p b) fun r => r.2 = 0 ∧ WfMix r.1 := by
  rw [mixer_Learn_eq]
  simp only [Int.ofNat_eq_natCast]
  rw [h.1]
  exact Tot.be (mixer_check_T h h0 h1 hl hb) (Tot.ifne_neg rfl (Tot.ifd_neg (by omega) (Tot.ifd_neg (by omega) (mixer_Learn_c1_T h0 h1 hl p b m.1 h.1 h.2 () () [] 0 (by omega) (by omega) [] rfl (fun r hr => by cases hr)))))
def WfRow (r : List Int) : Prop := r.length = 33 ∧ ∀ x ∈ r, 0 ≤ x ∧ x ≤ 65535
def WfRef (m : D_api_Mixer) : Prop := m.1.length = 256 ∧ ∀ r ∈ m.1, WfRow r
theorem refine_Check_c1_T (l : List (List Int)) (hl : l.length ≤ 1048576) (h : ∀ r ∈ l, WfRow r) : ∀ i : Int, 0 ≤ i → Tot (refine_Check_c1 l l.length i) fun r => r = 0 := by
  intro i
  refine up_ind (P := fun i => 0 ≤ i → Tot (refine_Check_c1 l l.length i) fun r => r = 0) l.length ?_ ?_ i
  · intro i hi h0
    rw [refine_Check_c1_eq]
    exact Tot.ifd_neg (by omega) (Tot.so rfl)
  · intro i hi ih h0
    rw [refine_Check_c1_eq]
    simp only [Int.ofNat_eq_natCast]
    rw [w64 (x := i + 1) (by omega) (by omega)]
    have hd := getD_all (P := WfRow) (d := []) h i.toNat (by omega)
    have hd1 := hd.1
    exact Tot.ifd_pos (by omega) (Tot.g h0 (Tot.g (by omega) (Tot.ifne_neg (by omega) (Tot.b (minI32_T _ (by omega) (by omega) hd.2) (fun r hr => Tot.ifd_neg (by omega) (Tot.b (maxI32_T _ (by omega) (by omega) hd.2) (fun s hs => Tot.ifd_neg (by omega) (ih (by omega)))))))))
theorem refine_Check_T {m : D_api_Mixer} (h : WfRef m) : refine_Check m = some 0 := by
  rw [refine_Check_eq]
  simp only [Int.ofNat_eq_natCast]
  have := h.1
  exact Tot.eq (Tot.ifd_neg (by omega) (Tot.ifd_neg (by omega) (refine_Check_c1_T _ (by omega) h.2 0 (by omega))))
theorem refine_check_T {m : D_api_Mixer} (h : WfRef m) {s : Int} (h0 : 0 ≤ s) (h1 : s ≤ 255) : refine_check m s = some 0 := by
  rw [refine_check_eq]
  simp only [Int.ofNat_eq_natCast]
  have := h.1
  exact Tot.eq (Tot.be (refine_Check_T h) (Tot.ifne_neg rfl (Tot.ifd_neg (by omega) (Tot.ifd_neg (by omega) (Tot.so rfl)))))
theorem refine_Look_T {m : D_api_Mixer} (h : WfRef m) {s : Int} (h0 : 0 ≤ s) (h1 : s ≤ 255) {a : Int} (ha0 : -2047 ≤ a) (ha1 : a ≤ 2047) : Tot (refine_Look m s a) fun r => r.2.2 = 0 ∧ 0 ≤ r.2.1 ∧ r.2.1 ≤ 32 := by
  rw [refine_Look_eq]
  simp only [Int.ofNat_eq_natCast]
  have hl := h.1
  have hd := getD_all (P := WfRow) (d := []) h.2 s.toNat (by omega)
  rw [hd.1]
  simp (disch := omega) only [w32 (x := a + 2048), w64 (x := a + 2048), tdiv_nn, tmod_nn, w64 (x := (a + 2048) / 128), w64 (x := (a + 2048) / 128 + 1), w32 (x := (a + 2048) % 128 / 64), w64 (x := (a + 2048) % 128 / 64), w64 (x := (a + 2048) / 128 + (a + 2048) % 128 / 64)]
  refine Tot.be (refine_check_T h h0 h1) (Tot.ifne_neg rfl (Tot.ifd_neg (by omega) (Tot.ifd_neg (by omega) (Tot.g (by decide) (Tot.g (by decide) (Tot.g h0 (Tot.g (by omega) (Tot.g (by omega) (Tot.g (by omega) (Tot.g (by omega) (Tot.g (by omega) (Tot.g (by decide) (Tot.g (by decide) (Tot.so ⟨rfl, ?_, ?_⟩))))))))))))))
  · simp only; omega
  · simp only; omega
theorem refine_Learn_c1_T {s n : Int} (h0 : 0 ≤ s) (h1 : s ≤ 255) (hn0 : 0 ≤ n) (hn1 : n ≤ 32) (b : Bool) (m : List (List Int)) (hm : m.length = 256) (hr : ∀ r ∈ m, WfRow r) (u u' : Unit) (h10 : List (List Int)) : ∀ i : Int, 0 ≤ i → i ≤ 256 → ∀ h11 : List (List Int), h11.length = i.toNat → (∀ r ∈ h11, WfRow r) →
    Tot (refine_Learn_c1 s n b m 256 i u u' h10 h11) fun r => r.2 = 0 ∧ WfRef r.1 := by
  intro i
  refine up_ind (P := fun i => 0 ≤ i → i ≤ 256 → ∀ h11 : List (List Int), h11.length = i.toNat → (∀ r ∈ h11, WfRow r) → Tot (refine_Learn_c1 s n b m 256 i u u' h10 h11) fun r => r.2 = 0 ∧ WfRef r.1) 256 ?_ ?_ i
  · intro i hi h0' hi' h11 hh hr'
    rw [refine_Learn_c1_eq]
    simp only [Int.ofNat_eq_natCast]
    have hd := getD_all (P := WfRow) (d := []) hr' (0 + s.toNat) (by omega)
    have hv := getD_all (P := fun x => 0 ≤ x ∧ x ≤ 65535) (d := 0) hd.2 (0 + n.toNat) (by rw [hd.1]; omega)
    have hd1 := hd.1
    rw [hd1]
    generalize hz : (h11.getD (0 + s.toNat) []).getD (0 + n.toNat) 0 = z at *
    have q1 : (65535 - z).tdiv 64 = (65535 - z) / 64 := tdiv_nn (by omega)
    have q2 : Int.tdiv (0 - z) 64 = -(z / 64) := by rw [Int.zero_sub, Int.neg_tdiv, tdiv_nn hv.1]
    rw [w32 (x := 65535 - z) (by omega) (by omega), w32 (x := 0 - z) (by omega) (by omega), q1, q2, w32 (x := (65535 - z) / 64) (by omega) (by omega), w32 (x := -(z / 64)) (by omega) (by omega), w32 (x := z + (65535 - z) / 64) (by omega) (by omega), w32 (x := z + -(z / 64)) (by omega) (by omega)]
    refine Tot.ifd_neg (by omega) (Tot.it (fun _ => ?_) (fun _ => ?_))
    · exact Tot.g h0 (Tot.g (by omega) (Tot.g (by decide) (Tot.g hn0 (Tot.g (by omega) (Tot.g (by decide) (Tot.so ⟨rfl, by simp; omega, set_all hr' ⟨by simpa using hd.1, set_all hd.2 (by omega) _⟩ _⟩))))))
    · exact Tot.g h0 (Tot.g (by omega) (Tot.g (by decide) (Tot.g hn0 (Tot.g (by omega) (Tot.g (by decide) (Tot.so ⟨rfl, by simp; omega, set_all hr' ⟨by simpa using hd.1, set_all hd.2 (by omega) _⟩ _⟩))))))
  · intro i hi ih h0' hi' h11 hh hr'
    rw [refine_Learn_c1_eq]
    simp only [Int.ofNat_eq_natCast]
    have hd := getD_all (P := WfRow) (d := []) hr i.toNat (by omega)
    have hd1 := hd.1
    rw [w64 (x := i + 1) (by omega) (by omega)]
    refine Tot.ifd_pos (by omega) (Tot.g h0' (Tot.g (by omega) (Tot.be (slices_Clone_int32_int32_T _ (by omega)) (Tot.g (by rw [List.length_append, List.length_singleton]; omega) (ih (by omega) (by omega) _ (by rw [List.length_append, List.length_singleton]; omega) (app_all hr' hd))))))
theorem refine_Learn_T {m : D_api_Mixer} (h : WfRef m) {s n : Int} (h0 : 0 ≤ s) (h1 : s ≤ 255) (hn0 : 0 ≤ n) (hn1 : n ≤ 32) (b : Bool) : Tot (refine_Learn m s n b) fun r => r.2 = 0 ∧ WfRef r.1 := by
  rw [refine_Learn_eq]
  simp only [Int.ofNat_eq_natCast]
  rw [h.1]
  exact Tot.be (refine_check_T h h0 h1) (Tot.ifne_neg rfl (Tot.ifd_neg (by omega) (Tot.ifd_neg (by omega) (refine_Learn_c1_T h0 h1 hn0 hn1 b m.1 h.1 h.2 () () [] 0 (by omega) (by omega) [] rfl (fun r hr => by cases hr)))))
def WfFin (f : D_api_Final) : Prop := WfRef f.1 ∧ WfRef f.2.1
theorem final_Check_T {f : D_api_Final} (h : WfFin f) : final_Check f = some 0 := by
  have l1 := h.1.1
  have l2 := h.2.1
  rw [final_Check_eq, final_Check_c1_eq]
  simp only [Int.ofNat_eq_natCast]
  have e1 : ([f.1, f.2.1] : List D_api_Mixer).getD (0 + Int.toNat 0) (pzero T_api_Mixer) = f.1 := rfl
  rw [e1, w64 (x := 0 + 1) (by decide) (by decide)]
  refine Tot.eq (Tot.ifd_pos (by decide) (Tot.g (by decide) (Tot.g (by simp) (Tot.be (refine_Check_T h.1) (Tot.ifne_neg rfl (Tot.ifne_neg (by omega) ?_))))))
  rw [final_Check_c1_eq]
  simp only [Int.ofNat_eq_natCast]
  have e2 : ([f.1, f.2.1] : List D_api_Mixer).getD (0 + Int.toNat (0 + 1)) (pzero T_api_Mixer) = f.2.1 := rfl
  rw [e2, w64 (x := 0 + 1 + 1) (by decide) (by decide)]
  refine (Tot.ifd_pos (by decide) (Tot.g (by decide) (Tot.g (by simp) (Tot.be (refine_Check_T h.2) (Tot.ifne_neg rfl (Tot.ifne_neg (by omega) ?_))))))
  rw [final_Check_c1_eq]
  exact Tot.ifd_neg (by decide) (Tot.so rfl)
theorem final_Rows_T (a b : Int) {w : Int} (h0 : 1 ≤ w) (h1 : w ≤ 255) : Tot (final_Rows a b w) fun r => ∃ x, r.1 = [w, x] ∧ 0 ≤ x ∧ x ≤ 255 := by
  rw [final_Rows_eq]
  exact Tot.ifd_neg (by omega) (Tot.ifd_neg (by omega) (Tot.b (hashes_Of_T _ _ (by show 3 ≤ _; decide)) (fun r _ => Tot.b (hashes_Place_T _ 8 (by decide) (by decide)) (fun q hq => Tot.so ⟨q.1, rfl, hq.2.1, by omega⟩))))
theorem final_prob_T (a : Int) : Tot (final_prob a) fun r => 0 ≤ a → a ≤ 4095 → r = true := by
  rw [final_prob_eq]
  exact Tot.ifd (fun h => Tot.so (fun _ h1 => decide_eq_true h1)) (fun h => Tot.so (fun h0 _ => absurd h0 h))
def WfCh (c : D_api_Chosen) : Prop := ∃ a b x y : Int, c.1 = [a, b] ∧ c.2.1 = [x, y] ∧ 0 ≤ a ∧ a ≤ 255 ∧ 0 ≤ b ∧ b ≤ 255 ∧ 0 ≤ x ∧ x ≤ 32 ∧ 0 ≤ y ∧ y ≤ 32
theorem final_Look_T {f : D_api_Final} (h : WfFin f) {a b st p : Int} (ha : 0 ≤ a ∧ a ≤ 255) (hb : 0 ≤ b ∧ b ≤ 255) (hs : -2047 ≤ st ∧ st ≤ 2047) (hp : 0 ≤ p ∧ p ≤ 4095) : Tot (final_Look f [a, b] st p) fun r => WfCh r.2.1 := by
  rw [final_Look_eq]
  have e0 : ([a, b] : List Int).getD 0 0 = a := rfl
  have e1 : ([a, b] : List Int).getD 1 0 = b := rfl
  rw [e0, e1]
  refine Tot.be (final_Check_T h) (Tot.ifne_neg rfl (Tot.g (by decide) (Tot.g (by decide) (Tot.b (refine_Look_T h.1 ha.1 ha.2 hs.1 hs.2) (fun r hr => Tot.g (by decide) (Tot.g (by decide) (Tot.b (refine_Look_T h.2 hb.1 hb.2 hs.1 hs.2) (fun q hq => Tot.ifne_neg hr.1 (Tot.ifne_neg hq.1 (Tot.b (final_prob_T p) (fun t ht => Tot.ifn (fun k => ?_) (fun _ => ?_))))))))))))
  · rw [ht hp.1 hp.2] at k; exact absurd k (by decide)
  · refine Tot.b (P := fun _ => True) ?_ (fun z _ => Tot.so ⟨a, b, r.2.1, q.2.1, rfl, rfl, ha.1, ha.2, hb.1, hb.2, hr.2.1, hr.2.2, hq.2.1, hq.2.2⟩)
    rw [final_join_eq]
    exact Tot.g (by decide) (Tot.g (by decide) (Tot.g (by decide) (Tot.so trivial)))
theorem final_Learn_T {f : D_api_Final} (h : WfFin f) {c : D_api_Chosen} (hc : WfCh c) (b : Bool) : Tot (final_Learn f c b) fun r => r.2 = 0 ∧ WfFin r.1 := by
  obtain ⟨x, y, u, v, h1, h2, h3, h4, h5, h6, h7, h8, h9, h10⟩ := hc
  rw [final_Learn_eq, h1, h2]
  have e0 : ([x, y] : List Int).getD 0 0 = x := rfl
  have e1 : ([x, y] : List Int).getD 1 0 = y := rfl
  have e2 : ([u, v] : List Int).getD 0 0 = u := rfl
  have e3 : ([u, v] : List Int).getD 1 0 = v := rfl
  rw [e0, e1, e2, e3]
  exact Tot.be (final_Check_T h) (Tot.ifne_neg rfl (Tot.g (by decide) (Tot.g (by decide) (Tot.g (by decide) (Tot.g (by decide) (Tot.b (refine_Learn_T h.1 h3 h4 h7 h8 b) (fun r hr => Tot.g (by decide) (Tot.g (by decide) (Tot.g (by decide) (Tot.g (by decide) (Tot.b (refine_Learn_T h.2 h5 h6 h9 h10 b) (fun q hq => Tot.ifne_neg hr.1 (Tot.ifne_neg hq.1 (Tot.so ⟨rfl, hr.2, hq.2⟩))))))))))))))
end Go.Ab

/-
  Totality of the codec, 6: the walk through a byte, matches.
-/
set_option linter.unusedVariables false
set_option linter.unusedSimpArgs false
set_option maxRecDepth 10000
namespace Go.Ab
open Go
attribute [local irreducible] IntKind.wrap
def lenChk (T : ByteArray) : Bool := decide (T.size = 256) && (List.range 256).all fun i => decide (i = 0 ∨ (1 ≤ btAt T i ∧ btAt T i ≤ 8 ∧ (i : Int) < 2 ^ (btAt T i).toNat))
theorem lenChk_at {T : ByteArray} (h : lenChk T = true) {i : Nat} (h0 : 1 ≤ i) (h1 : i < 256) : 1 ≤ btAt T i ∧ btAt T i ≤ 8 ∧ (i : Int) < 2 ^ (btAt T i).toNat := by
  unfold lenChk at h
  rw [Bool.and_eq_true, List.all_eq_true] at h
  have := of_decide_eq_true (h.2 i (List.mem_range.2 h1))
  rcases this with rfl | h
  · omega
  · exact h
theorem lenChk_size {T : ByteArray} (h : lenChk T = true) : T.size = 256 := by
  unfold lenChk at h
  rw [Bool.and_eq_true] at h
  exact of_decide_eq_true h.1
theorem Tot_len {T : ByteArray} (hT : lenChk T = true) {a : Int} (h0 : 1 ≤ a) (h1 : a ≤ 255) : Tot (gd (0 ≤ IntKind.wrap .u8 a) <| gd (IntKind.wrap .u8 a < Int.ofNat T.size) <| some (IntKind.wrap .i64 (0 + IntKind.wrap .i64 (btAt T (Int.toNat (IntKind.wrap .u8 a)))))) fun r => 1 ≤ r ∧ r ≤ 8 ∧ a < 2 ^ r.toNat := by
  have e : IntKind.wrap .u8 a = a := by rw [wu8]; omega
  have hs := lenChk_size hT
  have ht := lenChk_at hT (i := a.toNat) (by omega) (by omega)
  rw [e, hs, w64 (x := btAt T a.toNat) (by omega) (by omega), w64 (by omega) (by omega)]
  refine Tot.g (by omega) (Tot.g (by show a < 256; omega) (Tot.so ?_))
  rw [Int.zero_add]
  refine ⟨ht.1, ht.2.1, ?_⟩
  have e2 : ((a.toNat : Nat) : Int) = a := by omega
  rw [e2] at ht
  exact ht.2.2
theorem Len_T {a : Int} (h0 : 1 ≤ a) (h1 : a ≤ 255) : Tot (math_bits_Len (IntKind.wrap .u64 a)) fun r => 1 ≤ r ∧ r ≤ 8 ∧ a < 2 ^ r.toNat := by
  have e : IntKind.wrap .u64 a = a := by rw [wu64]; omega
  rw [math_bits_Len_eq, e, math_bits_Len64_eq]
  refine Tot.b (Tot.ifd_neg (by omega) (Tot.ifd_neg (by omega) (Tot.ifd_neg (by omega) (Tot_len ?_ h0 h1)))) (fun r hr => Tot.so hr)
  decide +kernel
def WfWalk (w : D_api_Walk) : Prop := 1 ≤ w.1 ∧ w.1 ≤ 255
theorem nibble_Check_T {w : D_api_Walk} (h : WfWalk w) : nibble_Check w = some 0 := by
  rw [nibble_Check_eq]
  have := h.1
  have := h.2
  exact Tot.eq (Tot.ifd_neg (by omega) (Tot.ifd_neg (by omega) (Tot.so rfl)))
theorem nibble_Node_T {w : D_api_Walk} (h : WfWalk w) : Tot (nibble_Node w) fun r => 1 ≤ r.1 ∧ r.1 ≤ 15 := by
  rw [nibble_Node_eq, nibble_node_eq]
  refine Tot.be (nibble_Check_T h) (Tot.ifne_neg rfl (Tot.b (P := fun r => 1 ≤ r ∧ r ≤ 15) (Tot.b (Len_T h.1 h.2) (fun r hr => ?_)) (fun r hr => Tot.so hr)))
  rw [w64 (x := r - 1) (by omega) (by omega)]
  refine Tot.ifd (fun h4 => Tot.so ⟨h.1, ?_⟩) (fun h4 => ?_)
  · have h5 : r = 1 ∨ r = 2 ∨ r = 3 ∨ r = 4 := by omega
    have := hr.2.2
    rcases h5 with rfl | rfl | rfl | rfl
    · have e : (2:Int) ^ (Int.toNat 1) = 2 := by decide
      omega
    · have e : (2:Int) ^ (Int.toNat 2) = 4 := by decide
      omega
    · have e : (2:Int) ^ (Int.toNat 3) = 8 := by decide
      omega
    · have e : (2:Int) ^ (Int.toNat 4) = 16 := by decide
      omega
  · rw [w64 (x := r - 1 - 4) (by omega) (by omega)]
    have h5 : r = 5 ∨ r = 6 ∨ r = 7 ∨ r = 8 := by omega
    have h6 := h.1
    rcases h5 with rfl | rfl | rfl | rfl
    · have e : IntKind.wrap .i64 (shlBy .i64 1 (5 - 1 - 4)) = 1 := by kernel_rfl
      rw [e, tmod_nn (by omega), w64 (by omega) (by omega)]
      exact Tot.g (by decide) (Tot.g (by decide) (Tot.so ⟨by omega, by omega⟩))
    · have e : IntKind.wrap .i64 (shlBy .i64 1 (6 - 1 - 4)) = 2 := by kernel_rfl
      rw [e, tmod_nn (by omega), w64 (by omega) (by omega)]
      exact Tot.g (by decide) (Tot.g (by decide) (Tot.so ⟨by omega, by omega⟩))
    · have e : IntKind.wrap .i64 (shlBy .i64 1 (7 - 1 - 4)) = 4 := by kernel_rfl
      rw [e, tmod_nn (by omega), w64 (by omega) (by omega)]
      exact Tot.g (by decide) (Tot.g (by decide) (Tot.so ⟨by omega, by omega⟩))
    · have e : IntKind.wrap .i64 (shlBy .i64 1 (8 - 1 - 4)) = 8 := by kernel_rfl
      rw [e, tmod_nn (by omega), w64 (by omega) (by omega)]
      exact Tot.g (by decide) (Tot.g (by decide) (Tot.so ⟨by omega, by omega⟩))
theorem nibble_Bits_c1_T (w : D_api_Walk) : ∀ (n : Nat) (hs : List Bool), n + hs.length ≤ 100 → Tot (nibble_Bits_c1 ((n : Int) - 1) w hs) fun r => r.1.length = hs.length + n
  | 0, hs, hn => by
    rw [nibble_Bits_c1_eq]
    exact Tot.ifd_neg (by omega) (Tot.so rfl)
  | n + 1, hs, hn => by
    rw [nibble_Bits_c1_eq]
    have e : ((n + 1 : Nat) : Int) - 1 = (n : Int) := by omega
    rw [e, w64 (x := (n : Int) - 1) (by omega) (by omega)]
    refine Tot.ifd_pos (by omega) (Tot.g (by omega) (Tot.g (by rw [List.length_append, List.length_singleton]; omega) ?_))
    exact Tot.mono (nibble_Bits_c1_T w n _ (by rw [List.length_append, List.length_singleton]; omega)) (fun r hr => by rw [hr, List.length_append, List.length_singleton]; omega)
theorem nibble_Bits_T {w : D_api_Walk} (h : WfWalk w) : Tot (nibble_Bits w) fun r => r.1.length ≤ 7 := by
  rw [nibble_Bits_eq]
  refine Tot.be (nibble_Check_T h) (Tot.ifne_neg rfl (Tot.b (Len_T h.1 h.2) (fun r hr => ?_)))
  have e : r - 2 = (((r - 1).toNat : Nat) : Int) - 1 := by omega
  rw [w64 (x := r - 2) (by omega) (by omega), e]
  exact Tot.mono (nibble_Bits_c1_T w _ [] (by rw [List.length_nil]; omega)) (fun q hq => by rw [hq, List.length_nil]; omega)
theorem nibble_Step_T {w : D_api_Walk} (h : WfWalk w) (b : Bool) : Tot (nibble_Step w b) fun r => WfWalk r.1 ∧ 0 ≤ r.2.2.1 ∧ r.2.2.1 < 256 := by
  rw [nibble_Step_eq, nibble_step_eq, nibble_New_eq]
  have h0 := h.1
  have h1 := h.2
  rw [w64 (x := 2 * w.1) (by omega) (by omega), w64 (x := 2 * w.1 + 1) (by omega) (by omega)]
  refine Tot.be (nibble_Check_T h) (Tot.ifne_neg rfl (Tot.b (P := fun r => 2 ≤ r) (Tot.it (fun _ => Tot.so (by omega)) (fun _ => Tot.so (by omega))) (fun r hr => Tot.ifd (fun hk => ?_) (fun hk => Tot.so ⟨⟨by simp only; omega, by simp only; omega⟩, Int.le_refl 0, by show (0:Int) < 256; decide⟩))))
  exact Tot.be rfl (Tot.so ⟨⟨Int.le_refl 1, by show (1:Int) ≤ 255; decide⟩, wr_u8 r⟩)
def WfMatch (m : D_api_Match) : Prop := (m.1 = -1 ∧ m.2.1 = 0) ∨ (0 ≤ m.1 ∧ m.1 ≤ 1073741824 ∧ 1 ≤ m.2.1 ∧ m.2.1 ≤ 40)
theorem match_Check_T {m : D_api_Match} (h : WfMatch m) : match_Check m = some 0 := by
  rw [match_Check_eq, match_New_eq]
  simp only [WfMatch] at h
  refine Tot.eq (Tot.be rfl (Tot.it (fun _ => Tot.so rfl) (fun hp => ?_)))
  rcases h with ⟨h1, h2⟩ | h
  · obtain ⟨a, n, u⟩ := m
    simp only at h1 h2
    subst h1 h2
    exact absurd rfl hp
  · exact Tot.ifd_pos (by omega) (Tot.ifd_pos (by omega) (Tot.ifd_pos (by omega) (Tot.ifd_pos (by omega) (Tot.so rfl))))
theorem match_expect_T {l : Int} {m : D_api_Match} {r : D_api_Ring} (h : WfRing l r) : Tot (match_expect m r) fun x => (0 ≤ x.1 ∧ x.1 < 256) ∧ (m.1 < 0 → x.2 = false) := by
  rw [match_expect_eq]
  exact Tot.ifd (fun _ => Tot.so ⟨by decide, fun _ => rfl⟩) (fun k => Tot.b (ring_At_T h _) (fun x hx => Tot.so ⟨hx, fun q => absurd q k⟩))
theorem match_Input_T {l : Int} {m : D_api_Match} {r : D_api_Ring} {w : D_api_Walk} (hm : WfMatch m) (h : WfRing l r) (hw : WfWalk w) : Tot (match_Input m r w) fun x => -2047 ≤ x.1 ∧ x.1 ≤ 2047 := by
  rw [match_Input_eq]
  have hl : 0 ≤ m.2.1 ∧ m.2.1 ≤ 40 := by
    rcases hm with h | h <;> omega
  rw [w64 (x := 50 * m.2.1) (by omega) (by omega), w64 (x := -50 * m.2.1) (by omega) (by omega), w32 (x := 50 * m.2.1) (by omega) (by omega), w32 (x := -50 * m.2.1) (by omega) (by omega)]
  refine Tot.be (match_Check_T hm) (Tot.ifne_neg rfl (Tot.be (ring_Check_T h) (Tot.ifne_neg rfl (Tot.be (nibble_Check_T hw) (Tot.ifne_neg rfl (Tot.b (match_expect_T h) (fun x _ => Tot.b (nibble_Bits_T hw) (fun q hq => Tot.ifn (fun _ => Tot.so (by decide)) (fun _ => ?_))))))))) 
  simp (disch := omega) only [Int.ofNat_eq_natCast, w64 (x := 8 - (q.1.length : Int)), w64 (x := 7 - (q.1.length : Int))]
  exact Tot.g (by omega) (Tot.ifne (fun _ => Tot.so (by decide)) (fun _ => Tot.g (by omega) (Tot.it (fun _ => Tot.so ⟨by simp only; omega, by simp only; omega⟩) (fun _ => Tot.so ⟨by simp only; omega, by simp only; omega⟩))))
theorem splice_one (h : List Int) (i : Nat) (x : Int) (hi : i < h.length) : splice h i [x] = h.set i x := by
  unfold splice
  rw [List.set_eq_take_append_cons_drop, if_pos hi]
  simp
theorem drop_set_zero {h : List Int} {n : Nat} {x : Int} {i : Nat} (hz : ∀ y ∈ h.drop n, y = 0) (hi : i ≤ n) : ∀ y ∈ (h.set i x).drop (n + 1), y = 0 := by
  intro y hy
  rw [List.drop_set, if_pos (by omega)] at hy
  rw [← List.drop_drop] at hy
  exact hz y (List.mem_of_mem_drop hy)
theorem ring_Put_T {l : Int} {r : D_api_Ring} (h : WfRing l r) {x : Int} (hx : 0 ≤ x ∧ x < 256) (hN : r.2.2.1 < 1073741824) : Tot (ring_Put r [x]) fun s => s.2 = 0 ∧ WfRing l s.1 ∧ s.1.2.2.1 = r.2.2.1 + 1 := by
  have hh := h
  obtain ⟨h1, ⟨h2, h3⟩, h4, h5, h6, h7, h8⟩ := h
  have hp := plR_lt h2 h3
  rw [ring_Put_eq]
  have e1 : (Int.ofNat [x].length) = 1 := rfl
  rw [e1]
  rw [w64 (x := 1073741824 - r.2.2.1) (by omega) (by omega)]
  refine Tot.be (ring_Check_T hh) (Tot.ifne_neg rfl (Tot.ifd_neg (by decide) (Tot.ifd_neg (by omega) (Tot.be (bytes_Clone_T _ (by omega)) ?_))))
  rw [ring_Put_c1_eq]
  simp only [Int.ofNat_eq_natCast]
  rw [tmod_nn h6]
  have hm0 : 0 ≤ r.2.2.1 % (r.2.1.length : Int) := Int.emod_nonneg _ (by omega)
  have hm1 : r.2.2.1 % (r.2.1.length : Int) < (r.2.1.length : Int) := Int.emod_lt_of_pos _ (by omega)
  have hle : r.2.2.1 % (r.2.1.length : Int) ≤ r.2.2.1 := by
    rcases Int.lt_or_le r.2.2.1 (r.2.1.length : Int) with k | k
    · rw [Int.emod_eq_of_lt h6 k]; exact Int.le_refl _
    · omega
  generalize r.2.2.1 % (r.2.1.length : Int) = i at *
  have emin : min [x].length (r.2.1.length - i.toNat) = 1 := by
    show min 1 _ = 1
    omega
  rw [emin]
  have e2 : List.drop 1 [x] = [] := rfl
  have e3 : List.take 1 [x] = [x] := rfl
  rw [e2, e3, Nat.zero_add, splice_one _ _ _ (by omega), w64 (x := r.2.2.1 + ((1 : Nat) : Int)) (by omega) (by omega)]
  refine Tot.ifd_pos (by show 0 < 1; decide) (Tot.g (by omega) (Tot.g hm0 (Tot.g (by omega) (Tot.g (by decide) (Tot.g (by show (1:Int) ≤ 1; decide) ?_)))))
  rw [ring_Put_c1_eq]
  refine Tot.ifd_neg (by decide) (Tot.so ⟨rfl, ⟨h1, ⟨h2, h3⟩, by simpa using h4, set_all h5 hx _, by simp only; omega, by simp only; omega, ?_⟩, rfl⟩)
  have e4 : (r.2.2.1 + ((1 : Nat) : Int)).toNat = r.2.2.1.toNat + 1 := by omega
  simp only
  rw [e4]
  exact drop_set_zero h8 (by omega)
theorem match_recent_T {l : Int} {r : D_api_Ring} (h : WfRing l r) : Tot (match_recent r) fun _ => True := by
  have key : ∀ (n : Nat) (hs : List Int), n + hs.length ≤ 100 → Tot (match_recent_c1 n r hs) fun _ => True := by
    intro n
    induction n with
    | zero =>
      intro hs hn
      rw [match_recent_c1_eq]
      exact Tot.ifd_neg (by simp) (Tot.b (hashes_Of_T _ _ (by omega)) (fun _ _ => Tot.so trivial))
    | succ n ih =>
      intro hs hn
      rw [match_recent_c1_eq]
      have e : ((n + 1 : Nat) : Int) - 1 = (n : Int) := by omega
      rw [w64 (x := ((n + 1 : Nat) : Int) - 1) (by omega) (by omega), e]
      exact Tot.ifd_pos (by omega) (Tot.b (ring_Back_T h _) (fun x hx => Tot.g (by rw [List.length_append, List.length_singleton]; omega) (ih _ (by rw [List.length_append, List.length_singleton]; omega))))
  rw [match_recent_eq]
  exact key 4 [] (by decide)
def ByteP (l : Int) (N : Int) (r : D_api_Match × D_api_Ring × D_api_Finder × Int) : Prop := r.2.2.2 = 0 ∧ WfMatch r.1 ∧ WfRing l r.2.1 ∧ r.2.1.2.2.1 = N + 1 ∧ WfFind l r.2.2.1
theorem match_Byte_T {l : Int} {m : D_api_Match} {r : D_api_Ring} {f : D_api_Finder} {x : Int} (hm : WfMatch m) (h : WfRing l r) (hf : WfFind l f) (hx : 0 ≤ x ∧ x < 256) (hN : r.2.2.1 < 1073741824) : Tot (match_Byte m r f x) (ByteP l r.2.2.1) := by
  have hput : ∀ (s : D_api_Ring) (k : Int), WfRing l s → s.2.2.1 = r.2.2.1 + 1 → Tot (finder_Put f k s.2.2.1) fun q => q.2 = 0 ∧ WfFind l q.1 := fun s k hs e => finder_Put_T hf k hs.2.2.2.2.1 hs.2.2.2.2.2.1
  have hnew : WfMatch (-1, (0, ())) := Or.inl ⟨rfl, rfl⟩
  rw [match_Byte_eq, match_New_eq]
  refine Tot.be (match_Check_T hm) (Tot.ifne_neg rfl (Tot.be (ring_Check_T h) (Tot.ifne_neg rfl (Tot.be (finder_Check_T hf) (Tot.ifne_neg rfl (Tot.be rfl (Tot.b (match_expect_T h) (fun e he => ?_))))))))
  refine Tot.it (fun he2 => ?_) (fun he2 => ?_)
  · have hm0 : 0 ≤ m.1 ∧ m.1 ≤ 1073741824 ∧ 1 ≤ m.2.1 ∧ m.2.1 ≤ 40 := by
      rcases hm with k | k
      · have := he.2 (by omega); rw [this] at he2; exact absurd he2 (by decide)
      · exact k
    refine Tot.ifeq (fun _ => ?_) (fun _ => ?_)
    · refine Tot.ifd (fun hlt => ?_) (fun _ => ?_)
      · rw [w64 (x := m.1 + 1) (by omega) (by omega), w64 (x := m.2.1 + 1) (by omega) (by omega)]
        have hm1 : WfMatch (m.1 + 1, ((if 40 < m.2.1 + 1 then 40 else m.2.1 + 1), ())) := Or.inr ⟨by simp only; omega, by simp only; omega, by simp only; split <;> omega, by simp only; split <;> omega⟩
        refine Tot.b (ring_Put_T h hx hN) (fun s hs => Tot.ifne_neg hs.1 (Tot.b (match_recent_T hs.2.1) (fun k _ => Tot.b (finder_Find_T hf k) (fun q hq => ?_))))
        exact Tot.ifd_neg (by omega) (Tot.b (hput s.1 k hs.2.1 hs.2.2) (fun t ht => Tot.so ⟨rfl, hm1, hs.2.1, hs.2.2, ht.2⟩))
      · refine Tot.b (ring_Put_T h hx hN) (fun s hs => Tot.ifne_neg hs.1 (Tot.b (match_recent_T hs.2.1) (fun k _ => Tot.b (finder_Find_T hf k) (fun q hq => ?_))))
        refine Tot.ifd_pos (by decide) (Tot.ifd (fun hq0 => Tot.ifd (fun hq1 => Tot.b (finder_Length_T hs.2.1 q.1) (fun n hn => Tot.ifd (fun hn3 => ?_) (fun _ => ?_))) (fun _ => ?_)) (fun _ => ?_))
        · exact Tot.b (hput s.1 k hs.2.1 hs.2.2) (fun t ht => Tot.so ⟨rfl, Or.inr ⟨hq0, hq.2.2, by simp only; omega, hn.2⟩, hs.2.1, hs.2.2, ht.2⟩)
        all_goals exact Tot.b (hput s.1 k hs.2.1 hs.2.2) (fun t ht => Tot.so ⟨rfl, hnew, hs.2.1, hs.2.2, ht.2⟩)
    · refine Tot.b (ring_Put_T h hx hN) (fun s hs => Tot.ifne_neg hs.1 (Tot.b (match_recent_T hs.2.1) (fun k _ => Tot.b (finder_Find_T hf k) (fun q hq => ?_))))
      refine Tot.ifd_pos (by decide) (Tot.ifd (fun hq0 => Tot.ifd (fun hq1 => Tot.b (finder_Length_T hs.2.1 q.1) (fun n hn => Tot.ifd (fun hn3 => ?_) (fun _ => ?_))) (fun _ => ?_)) (fun _ => ?_))
      · exact Tot.b (hput s.1 k hs.2.1 hs.2.2) (fun t ht => Tot.so ⟨rfl, Or.inr ⟨hq0, hq.2.2, by simp only; omega, hn.2⟩, hs.2.1, hs.2.2, ht.2⟩)
      all_goals exact Tot.b (hput s.1 k hs.2.1 hs.2.2) (fun t ht => Tot.so ⟨rfl, hnew, hs.2.1, hs.2.2, ht.2⟩)
  · refine Tot.b (ring_Put_T h hx hN) (fun s hs => Tot.ifne_neg hs.1 (Tot.b (match_recent_T hs.2.1) (fun k _ => Tot.b (finder_Find_T hf k) (fun q hq => ?_))))
    refine Tot.ifd_pos (by decide) (Tot.ifd (fun hq0 => Tot.ifd (fun hq1 => Tot.b (finder_Length_T hs.2.1 q.1) (fun n hn => Tot.ifd (fun hn3 => ?_) (fun _ => ?_))) (fun _ => ?_)) (fun _ => ?_))
    · exact Tot.b (hput s.1 k hs.2.1 hs.2.2) (fun t ht => Tot.so ⟨rfl, Or.inr ⟨hq0, hq.2.2, by simp only; omega, hn.2⟩, hs.2.1, hs.2.2, ht.2⟩)
    all_goals exact Tot.b (hput s.1 k hs.2.1 hs.2.2) (fun t ht => Tot.so ⟨rfl, hnew, hs.2.1, hs.2.2, ht.2⟩)
end Go.Ab

/-
  Totality of the codec, 7: the predictor, its check and what it sees.
-/
set_option linter.unusedVariables false
set_option linter.unusedSimpArgs false
set_option maxRecDepth 10000
namespace Go.Ab
open Go
attribute [local irreducible] IntKind.wrap
def WfTabs (l : Int) (h : List D_api_Table) : Prop := h.length = 6 ∧ ∀ t ∈ h, WfTab l t
def WfAds (h : List D_api_Adapt) : Prop := h.length = 6 ∧ ∀ a ∈ h, WfAd a
def WfSl (l : Int) (s : List Int) : Prop := ∀ x ∈ s, 0 ≤ x ∧ x < plT l
@[reducible] def Rest : Type := (D_api_Mixer × (D_api_Final × (D_api_Finder × (D_api_Match × (D_api_Walk × ((List Int) × ((List Int) × Unit)))))))
def WfRest (l : Int) (b : Rest) : Prop := WfMix b.1 ∧ WfFin b.2.1 ∧ WfFind l b.2.2.1 ∧ WfMatch b.2.2.2.1 ∧ WfWalk b.2.2.2.2.1 ∧ WfSl l b.2.2.2.2.2.2.1
def WfP (l N : Int) (p : D_api_Predictor) : Prop :=
  p.1 = l ∧ (WfRing l p.2.1 ∧ p.2.1.2.2.1 ≤ N) ∧ WfTabs l p.2.2.1 ∧ WfAds p.2.2.2.1 ∧ WfRest l p.2.2.2.2 ∧ context_Of p.2.1 = some (p.2.2.2.2.2.2.2.2.2.1, 0)
theorem WfSl.at {l : Int} {s : List Int} (h : WfSl l s) (h2 : 0 ≤ l ∧ l ≤ 7) (i : Nat) : 0 ≤ s.getD i 0 ∧ s.getD i 0 < plT l :=
  getD_all' (P := fun x => 0 ≤ x ∧ x < plT l) h ⟨by omega, by have := plT_lt h2.1 h2.2; omega⟩ i
theorem WfSl.zero {l : Int} (h2 : 0 ≤ l ∧ l ≤ 7) : WfSl l (List.replicate 6 0) := fun x hx => by
  rw [List.eq_of_mem_replicate hx]; have := plT_lt h2.1 h2.2; omega
def FindP (l : Int) (a : Int) (g : D_api_Ring) (b : Rest) (h2 : List D_api_Adapt) (r : D_api_Predictor × List D_api_Table × List D_api_Adapt) : Prop :=
  r.1.1 = a ∧ r.1.2.1 = g ∧ WfTabs l r.2.1 ∧ r.2.2 = h2 ∧ r.1.2.2.2.2.1 = b.1 ∧ r.1.2.2.2.2.2.1 = b.2.1 ∧ r.1.2.2.2.2.2.2.1 = b.2.2.1 ∧ r.1.2.2.2.2.2.2.2.1 = b.2.2.2.1 ∧ r.1.2.2.2.2.2.2.2.2.1 = b.2.2.2.2.1 ∧ r.1.2.2.2.2.2.2.2.2.2.1 = b.2.2.2.2.2.1 ∧ WfSl l r.1.2.2.2.2.2.2.2.2.2.2.1
theorem find_c1_T {l : Int} (v a : _) (g : D_api_Ring) (h2 : List D_api_Adapt) : ∀ i : Int, 0 ≤ i → ∀ (b : Rest) (h1 : List D_api_Table), WfTabs l h1 → WfSl l b.2.2.2.2.2.2.1 → Tot (predict_find_v2_c1 v i a g b h1 h2) (FindP l a g b h2) := by
  intro i
  refine up_ind (P := fun i => 0 ≤ i → ∀ (b : Rest) (h1 : List D_api_Table), WfTabs l h1 → WfSl l b.2.2.2.2.2.2.1 → Tot (predict_find_v2_c1 v i a g b h1 h2) (FindP l a g b h2)) 6 ?_ ?_ i
  · intro i hi h0 b h1 ht hs
    rw [predict_find_v2_c1_eq]
    exact Tot.ifd_neg (by omega) (Tot.so ⟨rfl, rfl, ht, rfl, rfl, rfl, rfl, rfl, rfl, rfl, hs⟩)
  · intro i hi ih h0 b h1 ht hs
    rw [predict_find_v2_c1_eq]
    simp only [Int.ofNat_eq_natCast]
    have hl := ht.1
    rw [w64 (x := i + 1) (by omega) (by omega)]
    have hd := getD_all (P := WfTab l) (d := pzero T_api_Table) ht.2 (0 + i.toNat) (by omega)
    refine Tot.ifd_pos (by omega) (Tot.g h0 (Tot.g (by omega) (Tot.g h0 (Tot.g (by omega) (Tot.b (slots_Find_T hd _) (fun r hr => Tot.g h0 (Tot.g (by omega) (Tot.g h0 (Tot.g (by omega) ?_)))))))))
    exact Tot.mono (ih (by omega) _ _ ⟨by rw [List.length_set]; exact ht.1, set_all ht.2 hr.1 _⟩ (set_all hs ⟨hr.2.1, hr.2.2.1⟩ _)) (fun q hq => hq)
theorem find_T {l : Int} (v a : _) (g : D_api_Ring) (h2 : List D_api_Adapt) (b : Rest) (h1 : List D_api_Table) (ht : WfTabs l h1) (hs : WfSl l b.2.2.2.2.2.2.1) : Tot (predict_find_v2 v a g b h1 h2) (FindP l a g b h2) := by
  rw [predict_find_v2_eq]
  exact find_c1_T v a g h2 0 (by omega) b h1 ht hs
theorem containsAd_T (l : List D_api_Adapt) (hl : l.length ≤ 1048576) (h : ∀ a ∈ l, WfAd a) : slices_ContainsFunc_api_Adapt_api_Adapt l = some false := by
  have key : ∀ i : Int, 0 ≤ i → Tot (slices_IndexFunc_api_Adapt_api_Adapt_c1 l l.length i) fun r => r = -1 := by
    intro i
    refine up_ind (P := fun i => 0 ≤ i → Tot (slices_IndexFunc_api_Adapt_api_Adapt_c1 l l.length i) fun r => r = -1) l.length ?_ ?_ i
    · intro i hi h0
      rw [slices_IndexFunc_api_Adapt_api_Adapt_c1_eq]
      exact Tot.ifd_neg (by omega) (Tot.so rfl)
    · intro i hi ih h0
      rw [slices_IndexFunc_api_Adapt_api_Adapt_c1_eq]
      simp only [Int.ofNat_eq_natCast]
      rw [w64 (x := i + 1) (by omega) (by omega)]
      have hd := getD_all (P := WfAd) (d := pzero T_api_Adapt) h i.toNat (by omega)
      refine Tot.ifd_pos (by omega) (Tot.g h0 (Tot.g (by omega) (Tot.be (v := false) ?_ (Tot.iff_ (ih (by omega))))))
      rw [predict_parts_1_eq]
      exact Tot.eq (Tot.be (adapt_Check_T hd) (Tot.ifne_neg rfl (Tot.so (by rw [hd.1]; rfl))))
  rw [slices_ContainsFunc_api_Adapt_api_Adapt_eq, slices_IndexFunc_api_Adapt_api_Adapt_eq]
  exact Tot.eq (Tot.b (key 0 (by omega)) (fun r hr => Tot.so (by rw [hr]; rfl)))
theorem parts_c1_T {l N : Int} {p : D_api_Predictor} (h : WfP l N p) : ∀ i : Int, 0 ≤ i → Tot (predict_parts_c1 p.2.2.1 p.2.2.1.length i p) fun r => r = true := by
  obtain ⟨h1, h2, h3, h4, h5, h6⟩ := h
  have hl := h3.1
  intro i
  refine up_ind (P := fun i => 0 ≤ i → Tot (predict_parts_c1 p.2.2.1 p.2.2.1.length i p) fun r => r = true) p.2.2.1.length ?_ ?_ i
  · intro i hi h0
    rw [predict_parts_c1_eq]
    exact Tot.ifd_neg (by omega) (Tot.be (containsAd_T _ (by rw [h4.1]; decide) h4.2) (Tot.so rfl))
  · intro i hi ih h0
    rw [predict_parts_c1_eq]
    simp only [Int.ofNat_eq_natCast]
    have hd := getD_all (P := WfTab l) (d := pzero T_api_Table) h3.2 i.toNat (by omega)
    have hs := h5.2.2.2.2.2.at hd.2.1 i.toNat
    have hd2 := hd.2.2.1
    rw [w64 (x := i + 1) (by omega) (by omega)]
    exact Tot.ifd_pos (by omega) (Tot.g h0 (Tot.g (by omega) (Tot.be (slots_Check_T hd) (Tot.ifne_neg rfl (Tot.ifne_neg (by rw [hd.1, h1]) (Tot.g h0 (Tot.g (by omega) (Tot.ifd_neg (by omega) (Tot.g h0 (Tot.g (by omega) (Tot.ifd_neg (by omega) (ih (by omega)))))))))))))
theorem parts_T {l N : Int} {p : D_api_Predictor} (h : WfP l N p) : predict_parts p = some true := by
  have hc := parts_c1_T h 0 (by omega)
  obtain ⟨h1, h2, h3, h4, h5, h6⟩ := h
  rw [predict_parts_eq]
  simp only [Int.ofNat_eq_natCast]
  have hl := h2.1.2.1
  have hl1 := h3.1
  have hl2 := h4.1
  exact Tot.eq (Tot.ifd_neg (by omega) (Tot.ifd_neg (by omega) (Tot.ifne_neg (by omega) (Tot.ifne_neg (by omega) (Tot.be (ring_Check_T h2.1) (Tot.ifne_neg rfl (Tot.ifne_neg (by rw [h2.1.1, h1]) (Tot.be (finder_Check_T h5.2.2.1) (Tot.ifne_neg rfl (Tot.ifne_neg (by rw [h5.2.2.1.1, h1]) hc))))))))))
theorem peqL_same {α : Type} {eq : α → α → Bool} (h : ∀ x, eq x x = true) : ∀ l : List α, peqL eq l l = true
  | [] => rfl
  | x :: l => by rw [peqL, h, peqL_same h l]; rfl
theorem predict_Check_T {l N : Int} {p : D_api_Predictor} (h : WfP l N p) : predict_Check p = some 0 := by
  rw [predict_Check_eq]
  simp only [Int.ofNat_eq_natCast]
  have hp := parts_T h
  obtain ⟨h1, h2, h3, h4, h5, h6⟩ := h
  have hm := h5.1.1
  refine Tot.eq (Tot.be hp (Tot.ifn (fun k => absurd k (by decide)) (fun _ => Tot.be (mixer_Check_T h5.1) (Tot.ifne_neg rfl (Tot.ifne_neg (by omega) (Tot.be (final_Check_T h5.2.1) (Tot.ifne_neg rfl (Tot.be (match_Check_T h5.2.2.2.1) (Tot.ifne_neg rfl (Tot.be (nibble_Check_T h5.2.2.2.2.1) (Tot.ifne_neg rfl (Tot.be h6 (Tot.ifn (fun k => ?_) (fun _ => Tot.so rfl))))))))))))))
  have : peq (.arr 6 (.int .u32)) p.2.2.2.2.2.2.2.2.2.1 p.2.2.2.2.2.2.2.2.2.1 = true := by
    rw [peq]; exact peqL_same (fun x => by rw [peq]; exact decide_eq_true rfl) _
  exact absurd (this.symm.trans k) (by decide)
def WfSeen (s : D_predict_seen) : Prop := (1 ≤ s.1 ∧ s.1 ≤ 15) ∧ (s.2.1.length = 6 ∧ ∀ x ∈ s.2.1, 0 ≤ x ∧ x ≤ 192) ∧ (s.2.2.1.length = 8 ∧ ∀ x ∈ s.2.2.1, -2047 ≤ x ∧ x ≤ 2047) ∧ (0 ≤ s.2.2.2.1 ∧ s.2.2.2.1 ≤ 4095) ∧ WfCh s.2.2.2.2.2.1
theorem see_c1_T {l N : Int} {p : D_api_Predictor} (h : WfP l N p) (b9a : Int) (b9 b10 : (Int × (Int × (D_api_Chosen × Unit)))) {nd : Int} (hn : 1 ≤ nd ∧ nd ≤ 15) (h11 h12 : List Int) : ∀ i : Int, 0 ≤ i → i ≤ 6 → ∀ (h13 h14 : List Int), (h13.length = i.toNat ∧ ∀ x ∈ h13, 0 ≤ x ∧ x ≤ 192) → (h14.length = i.toNat ∧ ∀ x ∈ h14, -2047 ≤ x ∧ x ≤ 2047) →
    Tot (predict_see_c1 p.2.2.1 6 i p b9a b9 nd b10 h11 h12 h13 h14) WfSeen := by
  obtain ⟨h1, h2, h3, h4, h5, h6⟩ := h
  have hl3 := h3.1
  have hl4 := h4.1
  have hw := h5.2.2.2.2.1
  intro i
  refine up_ind (P := fun i => 0 ≤ i → i ≤ 6 → ∀ (h13 h14 : List Int), (h13.length = i.toNat ∧ ∀ x ∈ h13, 0 ≤ x ∧ x ≤ 192) → (h14.length = i.toNat ∧ ∀ x ∈ h14, -2047 ≤ x ∧ x ≤ 2047) → Tot (predict_see_c1 p.2.2.1 6 i p b9a b9 nd b10 h11 h12 h13 h14) WfSeen) 6 ?_ ?_ i
  · intro i hi h0 h06 h13 h14 k13 k14
    rw [predict_see_c1_eq]
    have e6 : i.toNat = 6 := by omega
    rw [e6] at k13 k14
    refine Tot.ifd_neg (by omega) (Tot.b (match_Input_T h5.2.2.2.1 h2.1 hw) (fun m hm => ?_))
    have hL : (h14 ++ [m.1, 256]).length = 8 := by rw [List.length_append, k14.1]; rfl
    have hA : ∀ x ∈ h14 ++ [m.1, 256], -2047 ≤ x ∧ x ≤ 2047 := by
      intro x hx
      rcases List.mem_append.1 hx with q | q
      · exact k14.2 x q
      · rcases List.mem_cons.1 q with rfl | q
        · exact hm
        · rw [List.mem_singleton.1 q]; omega
    refine Tot.g (by rw [hL]; decide) (Tot.b (mixer_Mix_T h5.1 (by have := hw.1; omega) hw.2 hL hA) (fun x hx => Tot.b (context_Recent_T h2.1) (fun y _ => Tot.b (final_Rows_T _ _ hw.1 hw.2) (fun z hz => ?_))))
    obtain ⟨c, hz1, hz2⟩ := hz
    rw [hz1]
    exact Tot.b (final_Look_T h5.2.1 ⟨by have := hw.1; omega, hw.2⟩ hz2 ⟨hx.1, hx.2.1⟩ ⟨hx.2.2.1, hx.2.2.2⟩) (fun t ht => Tot.so ⟨hn, k13, ⟨hL, hA⟩, ⟨hx.2.2.1, hx.2.2.2⟩, ht⟩)
  · intro i hi ih h0 h06 h13 h14 k13 k14
    rw [predict_see_c1_eq]
    simp only [Int.ofNat_eq_natCast]
    have hd := getD_all (P := WfTab l) (d := pzero T_api_Table) h3.2 i.toNat (by omega)
    have ha := getD_all (P := WfAd) (d := pzero T_api_Adapt) h4.2 i.toNat (by omega)
    have hs := h5.2.2.2.2.2.at hd.2.1 i.toNat
    rw [w64 (x := i + 1) (by omega) (by omega)]
    refine Tot.ifd_pos (by omega) (Tot.g h0 (Tot.g (by omega) (Tot.g h0 (Tot.g (by omega) (Tot.b (slots_Get_T hd hs.1 hs.2 hn.1 hn.2) (fun r hr => Tot.g h0 (Tot.g (by omega) (Tot.b (adapt_P_T ha hr.2.1 hr.2.2) (fun q hq => Tot.g ?_ (Tot.g (by decide) (Tot.b (stretch_T _) (fun s hs' => Tot.g ?_ ?_))))))))))))
    · rw [List.length_append, List.length_singleton]; omega
    · rw [List.length_append, List.length_singleton]; omega
    · exact ih (by omega) (by omega) _ _ ⟨by rw [List.length_append, List.length_singleton]; omega, app_all k13.2 hr.2⟩ ⟨by rw [List.length_append, List.length_singleton]; omega, app_all k14.2 hs'⟩
theorem see_T {l N : Int} {p : D_api_Predictor} (h : WfP l N p) : Tot (predict_see p) WfSeen := by
  rw [predict_see_eq]
  have e : Int.ofNat p.2.2.1.length = 6 := by rw [h.2.2.1.1]; rfl
  rw [e]
  exact Tot.b (nibble_Node_T h.2.2.2.2.1.2.2.2.2.1) (fun r hr => see_c1_T h _ _ _ hr _ _ 0 (by omega) (by omega) [] [] ⟨rfl, fun x hx => by cases hx⟩ ⟨rfl, fun x hx => by cases hx⟩)
end Go.Ab

/-
  Totality of the codec, 8: the predictor's update, its twin, a new one, and runs.
-/
set_option linter.unusedVariables false
set_option linter.unusedSimpArgs false
set_option maxRecDepth 10000
namespace Go.Ab
open Go
attribute [local irreducible] IntKind.wrap
theorem find_WfP {l N : Int} {g : D_api_Ring} {b : Rest} {h2 : List D_api_Adapt} {r : D_api_Predictor × List D_api_Table × List D_api_Adapt} (h : FindP l l g b h2 r) (hg : WfRing l g ∧ g.2.2.1 ≤ N) (ha : WfAds h2)
    (hb : WfMix b.1 ∧ WfFin b.2.1 ∧ WfFind l b.2.2.1 ∧ WfMatch b.2.2.2.1 ∧ WfWalk b.2.2.2.2.1) (hc : context_Of g = some (b.2.2.2.2.2.1, 0)) : WfP l N (r.1.1, (r.1.2.1, (r.2.1, (r.2.2, r.1.2.2.2.2)))) := by
  obtain ⟨e1, e2, t, e4, e5, e6, e7, e8, e9, e10, s⟩ := h
  refine ⟨e1, ?_, t, ?_, ⟨?_, ?_, ?_, ?_, ?_, s⟩, ?_⟩
  · simp only; rw [e2]; exact hg
  · simp only; rw [e4]; exact ha
  · simp only; rw [e5]; exact hb.1
  · simp only; rw [e6]; exact hb.2.1
  · simp only; rw [e7]; exact hb.2.2.1
  · simp only; rw [e8]; exact hb.2.2.2.1
  · simp only; rw [e9]; exact hb.2.2.2.2
  · simp only; rw [e2, e10]; exact hc
def UpdP (l N : Int) (r : D_api_Predictor × Int) : Prop := r.2 = 0 ∧ WfP l N r.1
theorem update_c2_T {l N : Int} (v : List Int) (g : D_api_Ring) (m : D_api_Mixer) (f : D_api_Final) (b : (D_api_Finder × (D_api_Match × (D_api_Walk × ((List Int) × ((List Int) × Unit)))))) (w : D_api_Walk)
    (b10a b10baa : Int) (b10babb : D_api_Walk) (u1 u2 u3 u4 : Unit) (b10bbbbbbaa : Int) (u5 : Unit) (b10bbbbbbb : (D_api_Match × (D_api_Walk × ((List Int) × ((List Int) × Unit)))))
    (h12 : List D_api_Table) (h13 : List D_api_Adapt) (h14 : List Int) (h15 : List D_api_Table) (h16 : List D_api_Adapt) (h17 h18 h19 : List (List Int)) (h20 : List Int)
    (hg : WfRing l g ∧ g.2.2.1 ≤ N) (ht : WfTabs l h12) (ha : WfAds h13) (hr : WfRest l (m, (f, b))) (hc : context_Of g = some (b.2.2.2.1, 0)) : ∀ i : Int, 0 ≤ i → ∀ b11 : List Int,
    Tot (predict_update_c2 v i l g m f b b10a b10baa b10babb u1 u2 u3 u4 b10bbbbbbaa u5 b10bbbbbbb w b11 h12 h13 h14 h15 h16 h17 h18 h19 h20) (UpdP l N) := by
  intro i
  refine up_ind (P := fun i => 0 ≤ i → ∀ b11 : List Int, Tot (predict_update_c2 v i l g m f b b10a b10baa b10babb u1 u2 u3 u4 b10bbbbbbaa u5 b10bbbbbbb w b11 h12 h13 h14 h15 h16 h17 h18 h19 h20) (UpdP l N)) 6 ?_ ?_ i
  · intro i hi h0 b11
    rw [predict_update_c2_eq]
    refine Tot.ifd_neg (by omega) (Tot.b (find_T b11 l g h13 (m, (f, b)) h12 ht hr.2.2.2.2.2) (fun r hq => Tot.so ⟨rfl, find_WfP hq hg ha ⟨hr.1, hr.2.1, hr.2.2.1, hr.2.2.2.1, hr.2.2.2.2.1⟩ hc⟩))
  · intro i hi ih h0 b11
    rw [predict_update_c2_eq, w64 (x := i + 1) (by omega) (by omega)]
    exact Tot.ifd_pos (by omega) (Tot.g h0 (Tot.g (by omega) (Tot.b (context_Deep_T _ _) (fun r _ => Tot.g h0 (Tot.g (by omega) (ih (by omega) _))))))
theorem update_c1_T {l N : Int} (v2 : Bool) {v8 : Int} (h8 : v8 = 0 ∨ v8 = 1) (g : D_api_Ring) (b : Rest) (s : D_predict_seen)
    (b10a b10baa : Int) (b10babb : D_api_Walk) (u1 u2 u3 u4 : Unit) (b10bbbbbbaa : Int) (u5 : Unit) (b10bbbbbbb : (D_api_Match × (D_api_Walk × ((List Int) × ((List Int) × Unit)))))
    (h13 : List Int) (h14 : List D_api_Table) (h15 : List D_api_Adapt) (h16 h17 h18 : List (List Int)) (h19 : List Int)
    (hg : WfRing l g ∧ g.2.2.1 ≤ N) (hN : N < 1073741824) (hb : WfRest l b) (hc : context_Of g = some (b.2.2.2.2.2.1, 0)) (hs : WfSeen s) : ∀ i : Int, 0 ≤ i → ∀ (h11 : List D_api_Table) (h12 : List D_api_Adapt), WfTabs l h11 → WfAds h12 →
    Tot (predict_update_c1 v2 v8 b.2.2.2.2.1.1 i l g b s b10a b10baa b10babb u1 u2 u3 u4 b10bbbbbbaa u5 b10bbbbbbb h11 h12 h13 h14 h15 h16 h17 h18 h19) (UpdP l (N + 1)) := by
  obtain ⟨s1, s2, s3, s4, s5⟩ := hs
  obtain ⟨b1, b2, b3, b4, b5, b6⟩ := hb
  intro i
  refine up_ind (P := fun i => 0 ≤ i → ∀ (h11 : List D_api_Table) (h12 : List D_api_Adapt), WfTabs l h11 → WfAds h12 → Tot (predict_update_c1 v2 v8 b.2.2.2.2.1.1 i l g b s b10a b10baa b10babb u1 u2 u3 u4 b10bbbbbbaa u5 b10bbbbbbb h11 h12 h13 h14 h15 h16 h17 h18 h19) (UpdP l (N + 1))) 6 ?_ ?_ i
  · intro i hi h0 h11 h12 t a
    rw [predict_update_c1_eq]
    have w0 := b5.1
    have w1 := b5.2
    refine Tot.ifd_neg (by omega) (Tot.b (mixer_Learn_T b1 (by omega) w1 s3.1 s3.2 s4.1 s4.2 v2) (fun r7 k7 => Tot.b (final_Learn_T b2 s5 v2) (fun r8 k8 => Tot.b (nibble_Step_T b5 v2) (fun r9 k9 => Tot.it (fun _ => ?_) (fun _ => ?_)))))
    · refine Tot.b (match_Byte_T b4 hg.1 b3 k9.2 (by omega)) (fun r10 k10 => Tot.ifne_neg k10.1 ?_)
      obtain ⟨z1, z2, z3, z4, z5⟩ := k10
      obtain ⟨q, e, hq⟩ := context_Of_T z3
      refine Tot.be e ?_
      refine Tot.b (find_T q.1 l r10.2.1 h12 (r7.1, (r8.1, (r10.2.2.1, (r10.1, (r9.1, (q.1, b.2.2.2.2.2.2)))))) h11 t b6) (fun r12 k12 => Tot.so ⟨rfl, ?_⟩)
      exact find_WfP k12 ⟨z3, by rw [z4]; omega⟩ a ⟨k7.2, k8.2, z5, z2, k9.1⟩ (by rw [e]; exact congrArg some (Prod.ext rfl hq))
    · refine Tot.ifd (fun _ => ?_) (fun _ => Tot.ifd (fun _ => ?_) (fun _ => ?_))
      · exact Tot.so ⟨rfl, rfl, ⟨hg.1, by simp only; omega⟩, t, a, ⟨k7.2, k8.2, b3, b4, k9.1, b6⟩, hc⟩
      · exact Tot.so ⟨rfl, rfl, ⟨hg.1, by simp only; omega⟩, t, a, ⟨k7.2, k8.2, b3, b4, k9.1, b6⟩, hc⟩
      · exact update_c2_T _ g r7.1 r8.1 (b.2.2.1, (b.2.2.2.1, (r9.1, b.2.2.2.2.2))) r9.1 b10a b10baa b10babb u1 u2 u3 u4 b10bbbbbbaa u5 b10bbbbbbb h11 h12 h13 h14 h15 h16 h17 h18 h19 ⟨hg.1, by omega⟩ t a ⟨k7.2, k8.2, b3, b4, k9.1, b6⟩ hc 0 (by omega) _
  · intro i hi ih h0 h11 h12 t a
    rw [predict_update_c1_eq]
    simp only [Int.ofNat_eq_natCast]
    have hl1 := t.1
    have hl2 := a.1
    have hl3 := s2.1
    have hd := getD_all (P := WfTab l) (d := pzero T_api_Table) t.2 (0 + i.toNat) (by omega)
    have ha := getD_all (P := WfAd) (d := pzero T_api_Adapt) a.2 (0 + i.toNat) (by omega)
    have hst := getD_all (P := fun x => 0 ≤ x ∧ x ≤ 192) (d := 0) s2.2 i.toNat (by omega)
    have hsl := b6.at hd.2.1 i.toNat
    rw [w64 (x := i + 1) (by omega) (by omega)]
    refine Tot.ifd_pos (by omega) (Tot.g h0 (Tot.g (by omega) (Tot.g h0 (Tot.g (by omega) (Tot.b (adapt_Update_T ha hst.1 hst.2 h8) (fun r5 k5 => Tot.g h0 (Tot.g (by omega) (Tot.g h0 (Tot.g (by omega) (Tot.g h0 (Tot.g (by omega) (Tot.b (slots_Bit_T hd hsl.1 hsl.2 s1.1 s1.2 h8) (fun r6 k6 => Tot.g h0 (Tot.g (by omega) ?_))))))))))))))
    exact ih (by omega) _ _ ⟨by rw [List.length_set]; exact hl1, set_all t.2 k6.2 _⟩ ⟨by rw [List.length_set]; exact hl2, set_all a.2 k5.2 _⟩
theorem update_T {l N : Int} {p : D_api_Predictor} (h : WfP l N p) (hN : N < 1073741824) {s : D_predict_seen} (hs : WfSeen s) (b : Bool) : Tot (predict_update p s b) (UpdP l (N + 1)) := by
  obtain ⟨h1, h2, h3, h4, h5, h6⟩ := h
  rw [predict_update_eq, h1]
  have k1 := slices_Clone_Table_T p.2.2.1 (by rw [h3.1]; decide)
  have k2 := slices_Clone_Adapt_T p.2.2.2.1 (by rw [h4.1]; decide)
  refine Tot.it (fun _ => Tot.be k1 (Tot.be k2 ?_)) (fun _ => Tot.be k1 (Tot.be k2 ?_))
  · exact update_c1_T b (Or.inr rfl) p.2.1 p.2.2.2.2 s _ _ _ _ _ _ _ _ _ _ _ _ _ _ _ _ _ h2 hN h5 h6 hs 0 (by omega) _ _ h3 h4
  · exact update_c1_T b (Or.inl rfl) p.2.1 p.2.2.2.2 s _ _ _ _ _ _ _ _ _ _ _ _ _ _ _ _ _ h2 hN h5 h6 hs 0 (by omega) _ _ h3 h4
theorem rows_T (l : List (List Int)) (hl : l.length ≤ 1048576) (hr : ∀ r ∈ l, r.length ≤ 1048576) : predict_rows l = some l := by
  have key : ∀ i : Int, 0 ≤ i → i ≤ l.length → Tot (predict_rows_c1 l l.length i (l.take i.toNat)) fun r => r = l := by
    intro i
    refine up_ind (P := fun i => 0 ≤ i → i ≤ l.length → Tot (predict_rows_c1 l l.length i (l.take i.toNat)) fun r => r = l) l.length ?_ ?_ i
    · intro i hi h0 h1
      rw [predict_rows_c1_eq]
      exact Tot.ifd_neg (by omega) (Tot.so (List.take_of_length_le (by omega)))
    · intro i hi ih h0 h1
      rw [predict_rows_c1_eq]
      simp only [Int.ofNat_eq_natCast]
      have hd := getD_all (P := fun r : List Int => r.length ≤ 1048576) (d := []) hr i.toNat (by omega)
      rw [w64 (x := i + 1) (by omega) (by omega)]
      refine Tot.ifd_pos (by omega) (Tot.g h0 (Tot.g (by omega) (Tot.be (slices_Clone_int32_int32_T _ hd) (Tot.g (by rw [List.length_append, List.length_singleton, List.length_take]; omega) ?_))))
      have e : l.take i.toNat ++ [l.getD i.toNat []] = l.take (i + 1).toNat := by
        have e2 : (i + 1).toNat = i.toNat + 1 := by omega
        rw [e2, List.take_succ_eq_append_getElem (by omega), List.getD_eq_getElem?_getD, List.getElem?_eq_getElem (by omega)]
        rfl
      rw [e]
      exact ih (by omega) (by omega)
  rw [predict_rows_eq]
  exact Tot.eq (key 0 (by omega) (by omega))
theorem twin_c1_T {l : Int} (t : List D_api_Table) (a : List D_api_Adapt) (ht : WfTabs l t) (ha : WfAds a) (b8a b8baa : Int) (b8babb : D_api_Walk) (m : D_api_Mixer) (f : D_api_Final) (hm : WfMix m) (hf : WfFin f) (b8bbbbbbaa : Int) (u : Unit) (b8bbbbbbb : (D_api_Match × (D_api_Walk × ((List Int) × ((List Int) × Unit)))))
    (b10a b10baa : Int) (b10babb : D_api_Walk) (u1 u2 u3 u4 : Unit) (b10bbbbbbaa : Int) (u5 : Unit) (b10bbbbbbb : (D_api_Match × (D_api_Walk × ((List Int) × ((List Int) × Unit)))))
    (h10 h13 h14 : List Int) (h15 : List D_api_Table) (h16 : List D_api_Adapt) (h17 h18 h19 : List (List Int)) (h20 : List Int) : ∀ i : Int, 0 ≤ i →
    Tot (predict_twin_c1 6 i b8a b8baa b8babb m f b8bbbbbbaa u b8bbbbbbb b10a b10baa b10babb u1 u2 u3 u4 b10bbbbbbaa u5 b10bbbbbbb h10 t a h13 h14 h15 h16 h17 h18 h19 h20) fun r => r = (b8a, ((b8baa, (h10, b8babb)), (t, (a, (m, (f, ((b8bbbbbbaa, (h13, u)), b8bbbbbbb))))))) := by
  intro i
  refine up_ind (P := fun i => 0 ≤ i → Tot (predict_twin_c1 6 i b8a b8baa b8babb m f b8bbbbbbaa u b8bbbbbbb b10a b10baa b10babb u1 u2 u3 u4 b10bbbbbbaa u5 b10bbbbbbb h10 t a h13 h14 h15 h16 h17 h18 h19 h20) fun r => r = (b8a, ((b8baa, (h10, b8babb)), (t, (a, (m, (f, ((b8bbbbbbaa, (h13, u)), b8bbbbbbb)))))))) 6 ?_ ?_ i
  · intro i hi h0
    rw [predict_twin_c1_eq]
    refine Tot.ifd_neg (by omega) (Tot.be (rows_T _ (by rw [hm.1]; decide) (fun r hr => by rw [hm.2 r hr]; decide)) (Tot.be (rows_T _ (by rw [hf.1.1]; decide) (fun r hr => by rw [(hf.1.2 r hr).1]; decide)) (Tot.be (rows_T _ (by rw [hf.2.1]; decide) (fun r hr => by rw [(hf.2.2 r hr).1]; decide)) (Tot.so rfl))))
  · intro i hi ih h0
    rw [predict_twin_c1_eq]
    simp only [Int.ofNat_eq_natCast]
    have hl1 := ht.1
    have hl2 := ha.1
    have hd := getD_all (P := WfTab l) (d := pzero T_api_Table) ht.2 (0 + i.toNat) (by omega)
    have hq := getD_all (P := WfAd) (d := pzero T_api_Adapt) ha.2 (0 + i.toNat) (by omega)
    have hp := plT_lt hd.2.1.1 hd.2.1.2
    have hd2 := hd.2.2.1
    rw [w64 (x := i + 1) (by omega) (by omega)]
    refine Tot.ifd_pos (by omega) (Tot.g h0 (Tot.g (by omega) (Tot.be (slices_Clone_Slot_T _ (by omega)) (Tot.g h0 (Tot.g (by omega) (Tot.g h0 (Tot.g (by omega) (Tot.be (slices_Clone_int32_int32_T _ (by rw [hq.2.1.1]; decide)) (Tot.g h0 (Tot.g (by omega) (Tot.be (slices_Clone_int32_int32_T _ (by rw [hq.2.2.1]; decide)) (Tot.g h0 (Tot.g (by omega) (Tot.g h0 (Tot.g (by omega) ?_)))))))))))))))
    have s1 := set_self t (0 + i.toNat) (pzero T_api_Table)
    have s2 := set_self a (0 + i.toNat) (pzero T_api_Adapt)
    have s1' : t.set (0 + i.toNat) ((t.getD (0 + i.toNat) (pzero T_api_Table)).1, ((t.getD (0 + i.toNat) (pzero T_api_Table)).2.1, (t.getD (0 + i.toNat) (pzero T_api_Table)).2.2)) = t := s1
    have s2' : a.set (0 + i.toNat) ((a.getD (0 + i.toNat) (pzero T_api_Adapt)).1, ((a.getD (0 + i.toNat) (pzero T_api_Adapt)).2.1, (a.getD (0 + i.toNat) (pzero T_api_Adapt)).2.2)) = a := s2
    have s3' : a.set (0 + i.toNat) ((a.getD (0 + i.toNat) (pzero T_api_Adapt)).1, ((a.getD (0 + i.toNat) (pzero T_api_Adapt)).2.1, ((a.getD (0 + i.toNat) (pzero T_api_Adapt)).2.2.1, (a.getD (0 + i.toNat) (pzero T_api_Adapt)).2.2.2))) = a := s2
    rw [s1', s2', s3']
    exact ih (by omega)
theorem twin_T {l N : Int} {p : D_api_Predictor} (h : WfP l N p) : predict_twin p = some p := by
  obtain ⟨h1, h2, h3, h4, h5, h6⟩ := h
  have hp := plR_lt h2.1.2.1.1 h2.1.2.1.2
  have e1 := h2.1.2.2.1
  have e2 := h5.2.2.1.2.2.1
  rw [predict_twin_eq]
  refine Tot.eq (Tot.be (slices_Clone_byte_byte_T _ (by omega)) (Tot.be (slices_Clone_int_int_T _ (by omega)) (Tot.be (slices_Clone_Table_T _ (by rw [h3.1]; decide)) (Tot.be (slices_Clone_Adapt_T _ (by rw [h4.1]; decide)) ?_))))
  have e : Int.ofNat p.2.2.1.length = 6 := by rw [h3.1]; rfl
  rw [e]
  exact Tot.mono (twin_c1_T p.2.2.1 p.2.2.2.1 h3 h4 _ _ _ _ _ h5.1 h5.2.1 _ _ _ _ _ _ _ _ _ _ _ _ _ _ _ _ _ _ _ _ _ _ 0 (by omega)) (fun r hr => hr)
def RunP (l N : Int) (n : Nat) (r : D_api_Predictor × List Int × Int) : Prop := r.2.2 = 0 ∧ WfP l N r.1 ∧ r.2.1.length = n
theorem Run_c1_T {l N : Int} (v : List Bool) (hv : v.length ≤ 2000) (hN : N + v.length < 1073741824) (b9a b9baa : Int) (b9babb : D_api_Walk) (u1 u2 u3 u4 : Unit) (b9bbbbbbaa : Int) (u5 : Unit) (b9bbbbbbb : (D_api_Match × (D_api_Walk × ((List Int) × ((List Int) × Unit)))))
    (h11 : List Int) (h12 : List D_api_Table) (h13 : List D_api_Adapt) (h14 h15 h16 : List (List Int)) (h17 : List Int) : ∀ i : Int, 0 ≤ i → i ≤ v.length → ∀ (p : D_api_Predictor) (h10 : List Int), WfP l (N + i) p → h10.length = i.toNat →
    Tot (predict_Run_c1 v v.length i p b9a b9baa b9babb u1 u2 u3 u4 b9bbbbbbaa u5 b9bbbbbbb h10 h11 h12 h13 h14 h15 h16 h17) (RunP l (N + v.length) v.length) := by
  intro i
  refine up_ind (P := fun i => 0 ≤ i → i ≤ v.length → ∀ (p : D_api_Predictor) (h10 : List Int), WfP l (N + i) p → h10.length = i.toNat → Tot (predict_Run_c1 v v.length i p b9a b9baa b9babb u1 u2 u3 u4 b9bbbbbbaa u5 b9bbbbbbb h10 h11 h12 h13 h14 h15 h16 h17) (RunP l (N + v.length) v.length)) v.length ?_ ?_ i
  · intro i hi h0 h1 p h10 hp hh
    rw [predict_Run_c1_eq]
    have e : i = (v.length : Int) := by omega
    rw [e] at hp
    exact Tot.ifd_neg (by omega) (Tot.so ⟨rfl, hp, by simp only; omega⟩)
  · intro i hi ih h0 h1 p h10 hp hh
    rw [predict_Run_c1_eq]
    simp only [Int.ofNat_eq_natCast]
    rw [w64 (x := i + 1) (by omega) (by omega)]
    refine Tot.ifd_pos (by omega) (Tot.g h0 (Tot.g (by omega) (Tot.b (see_T hp) (fun s hs => Tot.b (update_T hp (by omega) hs _) (fun r hr => Tot.ifne_neg hr.1 (Tot.g (by rw [List.length_append, List.length_singleton]; omega) ?_))))))
    exact ih (by omega) (by omega) r.1 _ (by have := hr.2; rw [Int.add_assoc] at this; exact this) (by rw [List.length_append, List.length_singleton]; omega)
theorem Run_T {l N : Int} {p : D_api_Predictor} (h : WfP l N p) (v : List Bool) (hv : v.length ≤ 2000) (hN : N + v.length < 1073741824) : Tot (predict_Run p v) (RunP l (N + v.length) v.length) := by
  rw [predict_Run_eq]
  simp only [Int.ofNat_eq_natCast]
  refine Tot.be (predict_Check_T h) (Tot.ifne_neg rfl (Tot.ifd_neg (by omega) (Tot.be (twin_T h) ?_)))
  exact Run_c1_T v hv hN _ _ _ _ _ _ _ _ _ _ _ _ _ _ _ _ _ 0 (by omega) (by omega) p [] (by rw [Int.add_zero]; exact h) rfl
end Go.Ab

/-
  Totality of the codec, 9: a new predictor.
-/
set_option linter.unusedVariables false
set_option linter.unusedSimpArgs false
set_option maxRecDepth 10000
namespace Go.Ab
open Go
attribute [local irreducible] IntKind.wrap
theorem Mul_ok : ∀ n ∈ ([8, 64, 128, 193, 256, 512, 1024, 2048, 4096, 8192] : List Int), math_bits_Mul (IntKind.wrap .u64 1) (IntKind.wrap .u64 n) = some (0, n) := by
  intro n hn
  simp only [List.mem_cons, List.not_mem_nil, or_false] at hn
  rw [math_bits_Mul_eq, math_bits_Mul64_eq, gd_pos (by decide), gd_pos (by decide), gd_pos (by decide), gd_pos (by decide), gd_pos (by decide), Option.bind_some]
  rcases hn with rfl | rfl | rfl | rfl | rfl | rfl | rfl | rfl | rfl | rfl <;> exact congrArg some (by kernel_rfl)
theorem take_splice {α : Type} (l : List α) (v c : Nat) (hv : v + c ≤ l.length) (hc : c ≤ v) : (splice l v (List.take c (List.take v l))).take (v + c) = l.take v ++ l.take c ∧ (splice l v (List.take c (List.take v l))).length = l.length := by
  have e : List.take c (List.take v l) = l.take c := by rw [List.take_take, Nat.min_eq_left hc]
  rw [e]
  unfold splice
  have h1 : (l.take v ++ l.take c).length = v + c := by rw [List.length_append, List.length_take, List.length_take]; omega
  constructor
  · rw [List.take_append_of_le_length (by omega), List.take_of_length_le (by omega)]
  · rw [List.length_append, h1, List.length_drop, List.length_take]; omega
theorem rep_int_c1_T (x : Int) (n : Nat) (hn : n ≤ 1048576) : ∀ (m : Nat) (v : Nat) (h : List Int), n - v ≤ m → 1 ≤ v → v ≤ n → h.length = n → (∀ y ∈ h.take v, y = x) → Tot (slices_Repeat_int_int_c1 v h) fun r => r.length = n ∧ ∀ y ∈ r, y = x := by
  intro m
  induction m with
  | zero =>
    intro v h hm h1 h2 hl ha
    rw [slices_Repeat_int_int_c1_eq]
    simp only [Int.ofNat_eq_natCast]
    refine Tot.ifd_neg (by omega) (Tot.so ⟨hl, ?_⟩)
    rw [List.take_of_length_le (by omega)] at ha
    exact ha
  | succ m ih =>
    intro v h hm h1 h2 hl ha
    rw [slices_Repeat_int_int_c1_eq]
    simp only [Int.ofNat_eq_natCast]
    refine Tot.ifd (fun hlt => ?_) (fun hge => Tot.so ⟨hl, ?_⟩)
    · have e1 : (v : Int).toNat = v := Int.toNat_natCast v
      rw [e1, Nat.sub_zero, List.drop_zero, Nat.zero_add]
      have e2 : min (List.take v h).length (h.length - v) = min v (n - v) := by rw [List.length_take]; omega
      rw [e2]
      have e3 := take_splice h v (min v (n - v)) (by omega) (by omega)
      rw [w64 (by omega) (by omega)]
      have e4 : (v : Int) + ((min v (n - v) : Nat) : Int) = ((v + min v (n - v) : Nat) : Int) := by omega
      rw [e4]
      refine Tot.g (by omega) (Tot.g (by omega) (Tot.g (by omega) (Tot.g (by omega) (ih _ _ (by omega) (by omega) (by omega) (by rw [e3.2, hl]) ?_))))
      rw [e3.1]
      intro y hy
      rcases List.mem_append.1 hy with q | q
      · exact ha y q
      · refine ha y ?_
        have : h.take (min v (n - v)) = (h.take v).take (min v (n - v)) := by rw [List.take_take, Nat.min_eq_left (Nat.min_le_left _ _)]
        rw [this] at q
        exact List.mem_of_mem_take q
    · rw [List.take_of_length_le (by omega)] at ha
      exact ha
theorem rep_i32_c1_T (x : Int) (n : Nat) (hn : n ≤ 1048576) : ∀ (m : Nat) (v : Nat) (h : List Int), n - v ≤ m → 1 ≤ v → v ≤ n → h.length = n → (∀ y ∈ h.take v, y = x) → Tot (slices_Repeat_int32_int32_c1 v h) fun r => r.length = n ∧ ∀ y ∈ r, y = x := by
  intro m
  induction m with
  | zero =>
    intro v h hm h1 h2 hl ha
    rw [slices_Repeat_int32_int32_c1_eq]
    simp only [Int.ofNat_eq_natCast]
    refine Tot.ifd_neg (by omega) (Tot.so ⟨hl, ?_⟩)
    rw [List.take_of_length_le (by omega)] at ha
    exact ha
  | succ m ih =>
    intro v h hm h1 h2 hl ha
    rw [slices_Repeat_int32_int32_c1_eq]
    simp only [Int.ofNat_eq_natCast]
    refine Tot.ifd (fun hlt => ?_) (fun hge => Tot.so ⟨hl, ?_⟩)
    · have e1 : (v : Int).toNat = v := Int.toNat_natCast v
      rw [e1, Nat.sub_zero, List.drop_zero, Nat.zero_add]
      have e2 : min (List.take v h).length (h.length - v) = min v (n - v) := by rw [List.length_take]; omega
      rw [e2]
      have e3 := take_splice h v (min v (n - v)) (by omega) (by omega)
      rw [w64 (by omega) (by omega)]
      have e4 : (v : Int) + ((min v (n - v) : Nat) : Int) = ((v + min v (n - v) : Nat) : Int) := by omega
      rw [e4]
      refine Tot.g (by omega) (Tot.g (by omega) (Tot.g (by omega) (Tot.g (by omega) (ih _ _ (by omega) (by omega) (by omega) (by rw [e3.2, hl]) ?_))))
      rw [e3.1]
      intro y hy
      rcases List.mem_append.1 hy with q | q
      · exact ha y q
      · refine ha y ?_
        have : h.take (min v (n - v)) = (h.take v).take (min v (n - v)) := by rw [List.take_take, Nat.min_eq_left (Nat.min_le_left _ _)]
        rw [this] at q
        exact List.mem_of_mem_take q
    · rw [List.take_of_length_le (by omega)] at ha
      exact ha
theorem rep_first (x : Int) {n : Nat} (hn : 1 ≤ n) : (splice (List.replicate n 0) 0 (List.take (min [x].length (List.replicate n (0:Int)).length) [x])).length = n ∧ ∀ y ∈ (splice (List.replicate n 0) 0 (List.take (min [x].length (List.replicate n (0:Int)).length) [x])).take 1, y = x := by
  have e : min [x].length (List.replicate n (0:Int)).length = 1 := by rw [List.length_replicate]; show min 1 n = 1; omega
  rw [e]
  have e3 : List.take 1 [x] = [x] := rfl
  rw [e3]
  constructor
  · unfold splice
    simp
    omega
  · unfold splice
    simp
theorem rep_int_T (x : Int) (n : Nat) (hn : (n : Int) ∈ ([8, 64, 128, 193, 256, 512, 1024, 2048, 4096, 8192] : List Int)) : Tot (slices_Repeat_int_int [x] n) fun r => r.length = n ∧ ∀ y ∈ r, y = x := by
  have hm := Mul_ok n hn
  have hb : 8 ≤ n ∧ n ≤ 8192 := by
    simp only [List.mem_cons, List.not_mem_nil, or_false] at hn
    omega
  rw [slices_Repeat_int_int_eq]
  have e1 : (Int.ofNat [x].length) = 1 := rfl
  rw [e1]
  refine Tot.ifd_neg (by omega) (Tot.be hm (Tot.ifd_neg (by simp only; omega) (Tot.ifd_neg (by simp only; omega) ?_)))
  simp only
  rw [w64 (x := (n : Int)) (by omega) (by omega), Int.toNat_natCast]
  have hr := rep_first x (n := n) (by omega)
  refine Tot.g trivial (Tot.g (by omega) (Tot.g (by omega) (Tot.g (by omega) ?_)))
  have e : Int.ofNat (min [x].length (List.replicate n (0:Int)).length) = ((1 : Nat) : Int) := by rw [List.length_replicate]; show ((min 1 n : Nat) : Int) = 1; omega
  rw [e]
  exact rep_int_c1_T x n (by omega) _ 1 _ (Nat.le_refl _) (by omega) (by omega) hr.1 hr.2
theorem rep_i32_T (x : Int) (n : Nat) (hn : (n : Int) ∈ ([8, 64, 128, 193, 256, 512, 1024, 2048, 4096, 8192] : List Int)) : Tot (slices_Repeat_int32_int32 [x] n) fun r => r.length = n ∧ ∀ y ∈ r, y = x := by
  have hm := Mul_ok n hn
  have hb : 8 ≤ n ∧ n ≤ 8192 := by
    simp only [List.mem_cons, List.not_mem_nil, or_false] at hn
    omega
  rw [slices_Repeat_int32_int32_eq]
  have e1 : (Int.ofNat [x].length) = 1 := rfl
  rw [e1]
  refine Tot.ifd_neg (by omega) (Tot.be hm (Tot.ifd_neg (by simp only; omega) (Tot.ifd_neg (by simp only; omega) ?_)))
  simp only
  rw [w64 (x := (n : Int)) (by omega) (by omega), Int.toNat_natCast]
  have hr := rep_first x (n := n) (by omega)
  refine Tot.g trivial (Tot.g (by omega) (Tot.g (by omega) (Tot.g (by omega) ?_)))
  have e : Int.ofNat (min [x].length (List.replicate n (0:Int)).length) = ((1 : Nat) : Int) := by rw [List.length_replicate]; show ((min 1 n : Nat) : Int) = 1; omega
  rw [e]
  exact rep_i32_c1_T x n (by omega) _ 1 _ (Nat.le_refl _) (by omega) (by omega) hr.1 hr.2
theorem plR_mem {l : Int} (h0 : 0 ≤ l) (h1 : l ≤ 7) : ∃ n : Nat, plR l = n ∧ (n : Int) ∈ ([8, 64, 128, 193, 256, 512, 1024, 2048, 4096, 8192] : List Int) := by
  rcases lvl8 h0 h1 with rfl | rfl | rfl | rfl | rfl | rfl | rfl | rfl
  · exact ⟨64, by decide⟩
  · exact ⟨128, by decide⟩
  · exact ⟨256, by decide⟩
  · exact ⟨512, by decide⟩
  · exact ⟨1024, by decide⟩
  · exact ⟨2048, by decide⟩
  · exact ⟨4096, by decide⟩
  · exact ⟨8192, by decide⟩
theorem ring_New_T {l : Int} (h0 : 0 ≤ l) (h1 : l ≤ 7) : Tot (ring_New l) fun r => r.2 = 0 ∧ WfRing l r.1 ∧ r.1.2.2.1 = 0 := by
  have hp := plR_lt h0 h1
  rw [ring_New_eq]
  refine Tot.ifd_neg (by omega) (Tot.ifd_neg (by omega) (Tot.be (ring_places_T h0 h1) (Tot.g rfl (Tot.g (by omega) (Tot.g (by omega) (Tot.g (by omega) (Tot.so ⟨rfl, ⟨rfl, ⟨h0, h1⟩, ?_, ?_, Int.le_refl 0, by show (0:Int) ≤ 1073741824; decide, ?_⟩, rfl⟩)))))))
  · simp only [List.length_replicate]; omega
  · intro x hx; rw [List.eq_of_mem_replicate hx]; omega
  · intro x hx; exact List.eq_of_mem_replicate (List.mem_of_mem_drop hx)
theorem finder_New_T {l : Int} (h0 : 0 ≤ l) (h1 : l ≤ 7) : Tot (finder_New l) fun r => WfFind l r.1 := by
  obtain ⟨n, hn, hm⟩ := plR_mem h0 h1
  rw [finder_New_eq]
  refine Tot.ifd_neg (by omega) (Tot.ifd_neg (by omega) (Tot.be (finder_places_T h0 h1) ?_))
  rw [hn]
  exact Tot.b (rep_int_T (-1) n hm) (fun r hr => Tot.so ⟨rfl, ⟨h0, h1⟩, by simp only; rw [hr.1, hn], fun x hx => by rw [hr.2 x hx]; omega⟩)
theorem slots_New_T {l : Int} (h0 : 0 ≤ l) (h1 : l ≤ 7) : Tot (slots_New l) fun r => WfTab l r.1 := by
  have hp := plT_lt h0 h1
  rw [slots_New_eq]
  refine Tot.ifd_neg (by omega) (Tot.ifd_neg (by omega) (Tot.be (slots_size_T h0 h1) (Tot.g rfl (Tot.g (by omega) (Tot.g (by omega) (Tot.g (by omega) (Tot.so ⟨rfl, ⟨h0, h1⟩, ?_, ?_⟩)))))))
  · simp only [List.length_replicate]; omega
  · intro s hs; rw [List.eq_of_mem_replicate hs]; exact WfSlot.zero 0
theorem adapt_New_T : Tot (adapt_New 255) fun r => WfAd r.1 := by
  rw [adapt_New_eq, w32 (x := 255) (by decide) (by decide)]
  refine Tot.ifd_neg (by decide) (Tot.ifd_neg (by decide) (Tot.b (rep_i32_T 32768 193 (by decide)) (fun r hr => Tot.g rfl (Tot.g (by decide) (Tot.g (by decide) (Tot.g (by decide) (Tot.so ⟨rfl, ⟨hr.1, ?_⟩, List.length_replicate, ?_⟩)))))))
  · intro x hx; rw [hr.2 x hx]; omega
  · intro x hx; rw [List.eq_of_mem_replicate hx]; omega
theorem refine_New_c2_T (u u' : Unit) (h9 : List Int) (hr : WfRow h9) (h11 : List (List Int)) : ∀ i : Int, 0 ≤ i → i ≤ 256 → ∀ h12 : List (List Int), h12.length = i.toNat → (∀ r ∈ h12, WfRow r) → Tot (refine_New_c2 256 i u h9 u' h11 h12) fun r => WfRef r.1 := by
  intro i
  refine up_ind (P := fun i => 0 ≤ i → i ≤ 256 → ∀ h12 : List (List Int), h12.length = i.toNat → (∀ r ∈ h12, WfRow r) → Tot (refine_New_c2 256 i u h9 u' h11 h12) fun r => WfRef r.1) 256 ?_ ?_ i
  · intro i hi h0 h1 h12 hl ha
    rw [refine_New_c2_eq]
    exact Tot.ifd_neg (by omega) (Tot.so ⟨by simp only; omega, ha⟩)
  · intro i hi ih h0 h1 h12 hl ha
    rw [refine_New_c2_eq, w64 (x := i + 1) (by omega) (by omega)]
    exact Tot.ifd_pos (by omega) (Tot.be (slices_Clone_int32_int32_T _ (by rw [hr.1]; decide)) (Tot.g (by rw [List.length_append, List.length_singleton]; omega) (ih (by omega) (by omega) _ (by rw [List.length_append, List.length_singleton]; omega) (app_all ha hr))))
theorem refine_New_c1_T (u : Unit) (h10 : List (List Int)) : ∀ i : Int, 0 ≤ i → i ≤ 33 → ∀ h9 : List Int, h9.length = i.toNat → (∀ x ∈ h9, 0 ≤ x ∧ x ≤ 65535) → Tot (refine_New_c1 256 i u h9 h10) fun r => WfRef r.1 := by
  intro i
  refine up_ind (P := fun i => 0 ≤ i → i ≤ 33 → ∀ h9 : List Int, h9.length = i.toNat → (∀ x ∈ h9, 0 ≤ x ∧ x ≤ 65535) → Tot (refine_New_c1 256 i u h9 h10) fun r => WfRef r.1) 33 ?_ ?_ i
  · intro i hi h0 h1 h9 hl ha
    rw [refine_New_c1_eq]
    exact Tot.ifd_neg (by omega) (refine_New_c2_T u () h9 ⟨by omega, ha⟩ h10 0 (by omega) (by omega) [] rfl (fun r hr => by cases hr))
  · intro i hi ih h0 h1 h9 hl ha
    rw [refine_New_c1_eq, w32 (x := i + 1) (by omega) (by omega)]
    refine Tot.ifd_pos (by omega) (Tot.b (squash_T _) (fun r hr => Tot.g (by rw [List.length_append, List.length_singleton]; omega) ?_))
    rw [w32 (x := 16 * r) (by omega) (by omega)]
    exact ih (by omega) (by omega) _ (by rw [List.length_append, List.length_singleton]; omega) (app_all ha ⟨by omega, by omega⟩)
theorem refine_New_T : Tot (refine_New 256) fun r => WfRef r.1 := by
  rw [refine_New_eq]
  exact Tot.ifd_neg (by decide) (Tot.ifd_neg (by decide) (refine_New_c1_T () [] 0 (by decide) (by decide) [] rfl (fun x hx => by cases hx)))
theorem final_New_T : Tot final_New WfFin := by
  rw [final_New_eq]
  exact Tot.b refine_New_T (fun r hr => Tot.b refine_New_T (fun q hq => Tot.so ⟨hr, hq⟩))
theorem mixer_New_c1_T (u u' : Unit) (h10 : List (List Int)) : ∀ i : Int, 0 ≤ i → i ≤ 256 → ∀ h11 : List (List Int), h11.length = i.toNat → (∀ r ∈ h11, r.length = 8) → Tot (mixer_New_c1 16384 256 i u u' h10 h11) fun r => WfMix r.1 := by
  intro i
  refine up_ind (P := fun i => 0 ≤ i → i ≤ 256 → ∀ h11 : List (List Int), h11.length = i.toNat → (∀ r ∈ h11, r.length = 8) → Tot (mixer_New_c1 16384 256 i u u' h10 h11) fun r => WfMix r.1) 256 ?_ ?_ i
  · intro i hi h0 h1 h11 hl ha
    rw [mixer_New_c1_eq]
    exact Tot.ifd_neg (by omega) (Tot.so ⟨by simp only; omega, ha⟩)
  · intro i hi ih h0 h1 h11 hl ha
    rw [mixer_New_c1_eq, w64 (x := i + 1) (by omega) (by omega), mixer_fill_int32_eq]
    refine Tot.ifd_pos (by omega) (Tot.b (Tot.b (rep_i32_T 16384 8 (by decide)) (fun r hr => Tot.so hr)) (fun r hr => Tot.g (by rw [List.length_append, List.length_singleton]; omega) (ih (by omega) (by omega) _ (by rw [List.length_append, List.length_singleton]; omega) (app_all ha hr.1))))
theorem mixer_New_T : Tot (mixer_New 256 16384) fun r => WfMix r.1 := by
  rw [mixer_New_eq]
  exact Tot.ifd_neg (by decide) (Tot.ifd_neg (by decide) (mixer_New_c1_T () () [] 0 (by decide) (by decide) [] rfl (fun x hx => by cases hx)))
theorem New_c1_T {l : Int} (hl0 : 0 ≤ l) (hl1 : l ≤ 7) (b8a b8baa : Int) (b8babb : D_api_Walk) (u1 u2 u3 u4 : Unit) (b8bbbbbbaa : Int) (u5 : Unit) (b8bbbbbbb : (D_api_Match × (D_api_Walk × ((List Int) × ((List Int) × Unit)))))
    (g : D_api_Ring) (b : Rest) (hg : WfRing l g ∧ g.2.2.1 = 0) (hb : WfRest l b) (h11 : List Int) (h12 : List D_api_Table) (h13 : List D_api_Adapt) (h14 h15 h16 : List (List Int)) (h17 : List Int) : ∀ i : Int, 0 ≤ i → i ≤ 6 → ∀ (h18 : List D_api_Table) (h19 : List D_api_Adapt), (h18.length = i.toNat ∧ ∀ t ∈ h18, WfTab l t) → (h19.length = i.toNat ∧ ∀ t ∈ h19, WfAd t) →
    Tot (predict_New_c1 l i b8a b8baa b8babb u1 u2 u3 u4 b8bbbbbbaa u5 b8bbbbbbb g l g b h11 h12 h13 h14 h15 h16 h17 h18 h19) (UpdP l 0) := by
  intro i
  refine up_ind (P := fun i => 0 ≤ i → i ≤ 6 → ∀ (h18 : List D_api_Table) (h19 : List D_api_Adapt), (h18.length = i.toNat ∧ ∀ t ∈ h18, WfTab l t) → (h19.length = i.toNat ∧ ∀ t ∈ h19, WfAd t) → Tot (predict_New_c1 l i b8a b8baa b8babb u1 u2 u3 u4 b8bbbbbbaa u5 b8bbbbbbb g l g b h11 h12 h13 h14 h15 h16 h17 h18 h19) (UpdP l 0)) 6 ?_ ?_ i
  · intro i hi h0 h1 h18 h19 t a
    rw [predict_New_c1_eq]
    have e6 : i.toNat = 6 := by omega
    rw [e6] at t a
    obtain ⟨q, e, hq⟩ := context_Of_T hg.1
    refine Tot.ifd_neg (by omega) (Tot.be e ?_)
    refine Tot.b (find_T q.1 l g h19 (b.1, (b.2.1, (b.2.2.1, (b.2.2.2.1, (b.2.2.2.2.1, (q.1, b.2.2.2.2.2.2)))))) h18 t hb.2.2.2.2.2) (fun r12 k12 => Tot.so ⟨rfl, ?_⟩)
    exact find_WfP k12 ⟨hg.1, by rw [hg.2]; decide⟩ a ⟨hb.1, hb.2.1, hb.2.2.1, hb.2.2.2.1, hb.2.2.2.2.1⟩ (by rw [e]; exact congrArg some (Prod.ext rfl hq))
  · intro i hi ih h0 h1 h18 h19 t a
    rw [predict_New_c1_eq, w64 (x := i + 1) (by omega) (by omega)]
    refine Tot.ifd_pos (by omega) (Tot.b (slots_New_T hl0 hl1) (fun r7 k7 => Tot.b adapt_New_T (fun r8 k8 => Tot.g ?_ (Tot.g ?_ ?_))))
    · rw [List.length_append, List.length_singleton]; omega
    · rw [List.length_append, List.length_singleton]; omega
    · exact ih (by omega) (by omega) _ _ ⟨by rw [List.length_append, List.length_singleton]; omega, app_all t.2 k7⟩ ⟨by rw [List.length_append, List.length_singleton]; omega, app_all a.2 k8⟩
theorem New_T (l : Int) : Tot (predict_New l) fun r => r.2 = 0 → WfP l 0 r.1 := by
  rw [predict_New_eq]
  by_cases hl : 0 ≤ l ∧ l ≤ 7
  · obtain ⟨hl0, hl1⟩ := hl
    refine Tot.b (ring_New_T hl0 hl1) (fun r1 k1 => Tot.ifne_neg k1.1 (Tot.b final_New_T (fun r2 k2 => Tot.be match_New_eq (Tot.be nibble_New_eq (Tot.b (finder_New_T hl0 hl1) (fun r5 k5 => Tot.b mixer_New_T (fun r6 k6 => ?_)))))))
    refine Tot.mono (New_c1_T hl0 hl1 _ _ _ _ _ _ _ _ _ _ r1.1 (r6.1, (r2, (r5.1, ((-1, (0, ())), ((1, ()), ((List.replicate 6 0), ((List.replicate 6 0), ()))))))) k1.2 ⟨k6, k2, k5, Or.inl ⟨rfl, rfl⟩, ⟨Int.le_refl 1, by show (1:Int) ≤ 255; decide⟩, WfSl.zero ⟨hl0, hl1⟩⟩ _ _ _ _ _ _ _ 0 (by omega) (by omega) [] [] ⟨rfl, fun x hx => by cases hx⟩ ⟨rfl, fun x hx => by cases hx⟩) (fun r hr _ => hr.2)
  · refine Tot.b (P := fun r => r.2 ≠ 0) ?_ (fun r hr => Tot.ifne_pos hr (Tot.so (fun h => absurd h (by decide))))
    rw [ring_New_eq]
    by_cases h0 : l < 0
    · exact Tot.ifd_pos h0 (Tot.so (by decide))
    · exact Tot.ifd_neg h0 (Tot.ifd_pos (by omega) (Tot.so (by decide)))
end Go.Ab

/-
  Totality of the codec, 10: the encoder, and Encode.
-/
set_option linter.unusedVariables false
set_option linter.unusedSimpArgs false
set_option maxRecDepth 10000
namespace Go.Ab
open Go
attribute [local irreducible] IntKind.wrap
def WfEnc (e : D_api_Encoder) : Prop := (0 ≤ e.1 ∧ e.1 < 4294967296) ∧ (0 ≤ e.2.1 ∧ e.2.1 < 4294967296) ∧ Bts e.2.2.1
theorem or255 {y : Int} (h0 : 0 ≤ y) (h1 : y < 4294967296) (hm : y % 256 = 0) : bitsOr .u32 y 255 = y + 255 := by
  have e : bitsOr .u32 y 255 = ((BitVec.ofInt 32 y ||| BitVec.ofInt 32 255).toNat : Int) := by
    show IntKind.wrap .u32 ((BitVec.ofInt 32 y ||| BitVec.ofInt 32 255).toNat : Int) = _
    rw [wu32]
    have := (BitVec.ofInt 32 y ||| BitVec.ofInt 32 255).isLt
    omega
  rw [e, BitVec.toNat_or, ofInt_small 32 y h0 (by omega), ofInt_small 32 255 (by omega) (by omega)]
  have h2 : y.toNat = 2 ^ 8 * (y.toNat / 256) := by omega
  have h3 : (255 : Int).toNat = 255 := rfl
  rw [h3, h2, ← Nat.two_pow_add_eq_or_of_lt (by decide : 255 < 2 ^ 8)]
  omega
theorem encoder_Check_T (e : D_api_Encoder) : Tot (encoder_Check e) fun r => r = 0 → (e.2.2.1.length : Int) ≤ 20000 := by
  rw [encoder_Check_eq]
  simp only [Int.ofNat_eq_natCast]
  exact Tot.ifd (fun _ => Tot.so (fun k => absurd k (by decide))) (fun _ => Tot.g (by decide) (Tot.g (by decide) (Tot.ifeq (fun _ => Tot.so (fun k => absurd k (by decide))) (fun _ => Tot.ifd (fun _ => Tot.so (fun k => absurd k (by decide))) (fun k => Tot.so (fun _ => by omega))))))
theorem encoder_prob_T (a : Int) : Tot (encoder_prob a) fun _ => True := by
  rw [encoder_prob_eq]
  exact Tot.ifd (fun _ => Tot.so trivial) (fun _ => Tot.so trivial)
theorem encoder_split_T (a b c : Int) : Tot (encoder_split a b c) fun r => 0 ≤ r ∧ r < 4294967296 := by
  rw [encoder_split_eq]
  exact Tot.g (by decide) (Tot.g (by decide) (Tot.so (wr_u32 _)))
theorem put_c1_T (u : Unit) : ∀ (k m : Nat), k + m = 4 → ∀ (a b : Int) (h : List Int), 0 ≤ a → a < 4294967296 → 0 ≤ b → b < 4294967296 → a % 256 ^ k = 0 → b % 256 ^ k = 256 ^ k - 1 → h.length ≤ 20001 + k → Bts h →
    Tot (encoder_put_v2_c1 a b u h) WfEnc := by
  intro k m
  induction m generalizing k with
  | zero =>
    intro hk a b h a0 a1 b0 b1 ha hb hl hB
    have e : k = 4 := by omega
    subst e
    have e4 : (256:Int) ^ 4 = 4294967296 := by decide
    rw [e4] at ha hb
    have ea : a = 0 := by omega
    have eb : b = 4294967295 := by omega
    subst ea eb
    rw [encoder_put_v2_c1_eq]
    exact Tot.g (by decide) (Tot.g (by decide) (Tot.ifeq_neg (by decide) (Tot.so ⟨⟨by simp only; omega, by simp only; omega⟩, ⟨by simp only; omega, by simp only; omega⟩, hB⟩)))
  | succ m ih =>
    intro hk a b h a0 a1 b0 b1 ha hb hl hB
    have wa : IntKind.wrap .u32 (a * 256) = a * 256 % 4294967296 := wu32 _
    have wb : IntKind.wrap .u32 (b * 256) = b * 256 % 4294967296 := wu32 _
    have ho : bitsOr .u32 (b * 256 % 4294967296) 255 = b * 256 % 4294967296 + 255 := or255 (by omega) (by omega) (by omega)
    rw [encoder_put_v2_c1_eq, wa, wb, ho]
    refine Tot.g (by decide) (Tot.g (by decide) (Tot.ifeq (fun _ => ?_) (fun _ => Tot.so ⟨⟨a0, a1⟩, ⟨b0, b1⟩, hB⟩)))
    refine Tot.g (by decide) (Tot.g (by rw [List.length_append, List.length_singleton]; omega) (Tot.g (by decide) (Tot.g (by decide) ?_)))
    refine ih (k + 1) (by omega) _ _ _ (by omega) (by omega) (by omega) (by omega) ?_ ?_ (by rw [List.length_append, List.length_singleton]; omega) (Bts.append hB (Bts.cons (wr_u8 _) Bts.nil))
    · have h4 : k = 0 ∨ k = 1 ∨ k = 2 ∨ k = 3 := by omega
      rcases h4 with rfl | rfl | rfl | rfl
      · have e1 : (256:Int) ^ (0 + 1) = 256 := by decide
        rw [e1]; omega
      · have e0 : (256:Int) ^ 1 = 256 := by decide
        have e1 : (256:Int) ^ (1 + 1) = 65536 := by decide
        rw [e0] at ha; rw [e1]; omega
      · have e0 : (256:Int) ^ 2 = 65536 := by decide
        have e1 : (256:Int) ^ (2 + 1) = 16777216 := by decide
        rw [e0] at ha; rw [e1]; omega
      · have e0 : (256:Int) ^ 3 = 16777216 := by decide
        have e1 : (256:Int) ^ (3 + 1) = 4294967296 := by decide
        rw [e0] at ha; rw [e1]; omega
    · have h4 : k = 0 ∨ k = 1 ∨ k = 2 ∨ k = 3 := by omega
      rcases h4 with rfl | rfl | rfl | rfl
      · have e1 : (256:Int) ^ (0 + 1) = 256 := by decide
        rw [e1]; omega
      · have e0 : (256:Int) ^ 1 = 256 := by decide
        have e1 : (256:Int) ^ (1 + 1) = 65536 := by decide
        rw [e0] at hb; rw [e1]; omega
      · have e0 : (256:Int) ^ 2 = 65536 := by decide
        have e1 : (256:Int) ^ (2 + 1) = 16777216 := by decide
        rw [e0] at hb; rw [e1]; omega
      · have e0 : (256:Int) ^ 3 = 16777216 := by decide
        have e1 : (256:Int) ^ (3 + 1) = 4294967296 := by decide
        rw [e0] at hb; rw [e1]; omega
theorem put_v2_T (p : Int) (t : Bool) (a b : Int) (u : Unit) (h : List Int) (a0 : 0 ≤ a) (a1 : a < 4294967296) (b0 : 0 ≤ b) (b1 : b < 4294967296) (hl : h.length ≤ 20000) (hB : Bts h) : Tot (encoder_put_v2 p t a b u h) WfEnc := by
  rw [encoder_put_v2_eq]
  have p0 : (256:Int) ^ 0 = 1 := by decide
  refine Tot.b (encoder_split_T a b p) (fun r hr => Tot.it (fun _ => ?_) (fun _ => ?_))
  · refine Tot.g (by decide) (Tot.g (by decide) (Tot.ifeq (fun _ => ?_) (fun _ => Tot.so ⟨⟨a0, a1⟩, hr, hB⟩)))
    have wa : IntKind.wrap .u32 (a * 256) = a * 256 % 4294967296 := wu32 _
    have wb : IntKind.wrap .u32 (r * 256) = r * 256 % 4294967296 := wu32 _
    have ho : bitsOr .u32 (r * 256 % 4294967296) 255 = r * 256 % 4294967296 + 255 := or255 (by omega) (by omega) (by omega)
    rw [wa, wb, ho]
    refine Tot.g (by decide) (Tot.g (by rw [List.length_append, List.length_singleton]; omega) (Tot.g (by decide) (Tot.g (by decide) ?_)))
    refine put_c1_T u 0 4 rfl _ _ _ (by omega) (by omega) (by omega) (by omega) ?_ ?_ (by rw [List.length_append, List.length_singleton]; omega) (Bts.append hB (Bts.cons (wr_u8 _) Bts.nil))
    · rw [p0]; omega
    · rw [p0]; omega
  · have hq := wr_u32 (r + 1)
    generalize IntKind.wrap .u32 (r + 1) = q at *
    refine Tot.g (by decide) (Tot.g (by decide) (Tot.ifeq (fun _ => ?_) (fun _ => Tot.so ⟨hq, ⟨b0, b1⟩, hB⟩)))
    have wa : IntKind.wrap .u32 (q * 256) = q * 256 % 4294967296 := wu32 _
    have wb : IntKind.wrap .u32 (b * 256) = b * 256 % 4294967296 := wu32 _
    have ho : bitsOr .u32 (b * 256 % 4294967296) 255 = b * 256 % 4294967296 + 255 := or255 (by omega) (by omega) (by omega)
    rw [wa, wb, ho]
    refine Tot.g (by decide) (Tot.g (by rw [List.length_append, List.length_singleton]; omega) (Tot.g (by decide) (Tot.g (by decide) ?_)))
    refine put_c1_T u 0 4 rfl _ _ _ (by omega) (by omega) (by omega) (by omega) ?_ ?_ (by rw [List.length_append, List.length_singleton]; omega) (Bts.append hB (Bts.cons (wr_u8 _) Bts.nil))
    · rw [p0]; omega
    · rw [p0]; omega
theorem WfEnc.zero : WfEnc (0, (0, ([], ()))) := ⟨⟨by decide, by decide⟩, ⟨by decide, by decide⟩, Bts.nil⟩
theorem encoder_Put_T {e : D_api_Encoder} (h : WfEnc e) (p : Int) (t : Bool) : Tot (encoder_Put e p t) fun r => WfEnc r.1 := by
  rw [encoder_Put_eq]
  refine Tot.b (encoder_Check_T e) (fun c hc => Tot.ifne (fun _ => Tot.so WfEnc.zero) (fun k => Tot.b (encoder_prob_T p) (fun z _ => Tot.ifn (fun _ => Tot.so WfEnc.zero) (fun _ => ?_))))
  have hl := hc k
  refine Tot.be (slices_Clone_byte_byte_T _ (by omega)) (Tot.b (put_v2_T p t _ _ _ _ h.1.1 h.1.2 h.2.1.1 h.2.1.2 (by omega) h.2.2) (fun r hr => Tot.ifd (fun _ => Tot.so WfEnc.zero) (fun _ => Tot.so hr)))
theorem encoder_End_T {e : D_api_Encoder} (h : WfEnc e) : Tot (encoder_End e) fun r => Bts r.1 ∧ (r.2 = 0 → 4 ≤ r.1.length ∧ r.1.length ≤ 20000) := by
  rw [encoder_End_eq]
  simp only [Int.ofNat_eq_natCast]
  refine Tot.b (encoder_Check_T e) (fun c hc => Tot.ifne (fun k => Tot.so ⟨Bts.nil, fun q => absurd q k⟩) (fun k => Tot.ifd (fun _ => Tot.so ⟨Bts.nil, fun q => absurd q (by decide)⟩) (fun k2 => ?_)))
  refine Tot.b (P := fun r => Bts r ∧ 4 ≤ r.length ∧ r.length ≤ 20000) ?_ (fun r hr => Tot.so ⟨hr.1, fun _ => hr.2⟩)
  rw [encoder_end_eq]
  have hL : ∀ a b c d : Int, (e.2.2.1 ++ [a, b, c, d]).length = e.2.2.1.length + 4 := fun a b c d => by rw [List.length_append]; rfl
  refine Tot.be (slices_Clone_byte_byte_T _ (by omega)) (Tot.g (by decide) (Tot.g (by decide) (Tot.g (by decide) (Tot.g (by rw [hL]; omega) (Tot.so ⟨?_, by rw [hL]; omega, by rw [hL]; omega⟩)))))
  exact Bts.append h.2.2 (Bts.cons (wr_u8 _) (Bts.cons (wr_u8 _) (Bts.cons (wr_u8 _) (Bts.cons (wr_u8 _) Bts.nil))))
theorem Encode_1_T (a : Int) (t : Bool) (e : Int) {c : D_api_Encoder} (h : WfEnc c) : Tot (codec_Encode_1 a t e c) fun r => WfEnc r.2 := by
  rw [codec_Encode_1_eq]
  exact Tot.it (fun _ => Tot.b (encoder_Put_T h a t) (fun r hr => Tot.so hr)) (fun _ => Tot.so h)
theorem each_1_c1_T (v : List Bool) (hv : v.length ≤ 2000) (b0 b8 : D_api_Predictor) (h9 : List Int) (hl : h9.length = v.length) : ∀ i : Int, 0 ≤ i → ∀ (e : Int) (c : D_api_Encoder), WfEnc c →
    Tot (codec_each_1_c1 v v.length i b0 v e c b8 h9) fun r => r.1 = b8 ∧ r.2.1 = [] ∧ WfEnc r.2.2.2.2 := by
  intro i
  refine up_ind (P := fun i => 0 ≤ i → ∀ (e : Int) (c : D_api_Encoder), WfEnc c → Tot (codec_each_1_c1 v v.length i b0 v e c b8 h9) fun r => r.1 = b8 ∧ r.2.1 = [] ∧ WfEnc r.2.2.2.2) v.length ?_ ?_ i
  · intro i hi h0 e c hc
    rw [codec_each_1_c1_eq]
    exact Tot.ifd_neg (by omega) (Tot.so ⟨rfl, rfl, hc⟩)
  · intro i hi ih h0 e c hc
    rw [codec_each_1_c1_eq]
    simp only [Int.ofNat_eq_natCast]
    rw [w64 (x := i + 1) (by omega) (by omega)]
    exact Tot.ifd_pos (by omega) (Tot.g h0 (Tot.g (by omega) (Tot.g h0 (Tot.g (by omega) (Tot.b (Encode_1_T _ _ e hc) (fun r hr => ih (by omega) _ _ hr))))))
theorem each_1_T {l N : Int} {p : D_api_Predictor} (h : WfP l N p) (v : List Bool) (hv : v.length ≤ 2000) (hN : N + v.length < 1073741824) (e : Int) {c : D_api_Encoder} (hc : WfEnc c) :
    Tot (codec_each_1 p v e c) fun r => WfP l (N + v.length) r.1 ∧ r.2.1 = [] ∧ WfEnc r.2.2.2.2 := by
  rw [codec_each_1_eq]
  refine Tot.b (Run_T h v hv hN) (fun r hr => ?_)
  exact Tot.mono (each_1_c1_T v hv p r.1 r.2.1 hr.2.2 0 (by omega) e c hc) (fun q hq => ⟨by rw [hq.1]; exact hr.2.1, hq.2⟩)
def WfS (l M : Int) (s : each_S) : Prop := (∃ N, WfP l N s.1 ∧ 0 ≤ N ∧ N + s.2.1.length ≤ M) ∧ s.2.1.length < 2000 ∧ WfEnc s.2.2.2
theorem each_step_T {l M : Int} {s : each_S} (h : WfS l M s) (hM : M < 1073741000) (b : Bool) : Tot (each_step s b) (WfS l (M + 1)) := by
  obtain ⟨⟨N, h1, h2, h3⟩, h4, h5⟩ := h
  unfold each_step
  have hL : (s.2.1 ++ [b]).length = s.2.1.length + 1 := by rw [List.length_append, List.length_singleton]
  refine Tot.g (by rw [hL]; omega) (Tot.ifeq (fun k => ?_) (fun k => ?_))
  · refine Tot.b (each_1_T h1 (s.2.1 ++ [b]) (by rw [hL]; omega) (by rw [hL]; omega) s.2.2.1 h5) (fun r hr => Tot.so ⟨⟨N + ((s.2.1 ++ [b]).length : Int), hr.1, by omega, ?_⟩, ?_, hr.2.2⟩)
    · simp only; rw [hr.2.1, hL]; simp only [List.length_nil]; omega
    · simp only; rw [hr.2.1]; decide
  · refine Tot.so ⟨⟨N, h1, h2, ?_⟩, ?_, h5⟩
    · simp only; rw [hL]; omega
    · simp only; rw [hL]
      have e : Int.ofNat (s.2.1 ++ [b]).length = ((s.2.1 ++ [b]).length : Int) := rfl
      rw [e, hL] at k
      omega
theorem each_run_T {l : Int} : ∀ (v : List Bool) (M : Int) (s : each_S), WfS l M s → M + v.length < 1073741000 → Tot (each_run v s) (WfS l (M + v.length))
  | [], M, s, h, hM => Tot.so (by simpa using h)
  | b :: v, M, s, h, hM => by
    unfold each_run
    simp only [List.length_cons] at *
    refine Tot.b (each_step_T h (by omega) b) (fun t ht => Tot.mono (each_run_T v (M + 1) t ht (by omega)) (fun r hr => ?_))
    have e : M + 1 + (v.length : Int) = M + ((v.length + 1 : Nat) : Int) := by omega
    rw [e] at hr
    exact hr
theorem codec_each_T {l : Int} {p : D_api_Predictor} (h : WfP l 0 p) (b : List Int) (hb : b.length ≤ 4096) (e : Int) {c : D_api_Encoder} (hc : WfEnc c) : Tot (codec_each p b e c) fun r => WfEnc r.2 := by
  have h0 : WfS l 0 (p, [], e, c) := ⟨⟨0, h, Int.le_refl 0, by show (0:Int) + 0 ≤ 0; decide⟩, by show 0 < 2000; decide, hc⟩
  unfold codec_each
  refine Tot.g (by omega) (Tot.g (fun l' hl' => ?_) ?_)
  · obtain ⟨r, e1, _⟩ := each_run_T l' 0 (p, [], e, c) h0 (by omega)
    rw [e1]; rfl
  · have hL := bitsL_len b
    refine Tot.b (each_run_T (bitsL b) 0 (p, [], e, c) h0 (by omega)) (fun s hs => ?_)
    obtain ⟨⟨N, h1, h2, h3⟩, h4, h5⟩ := hs
    exact Tot.b (each_1_T h1 s.2.1 (by omega) (by omega) s.2.2.1 h5) (fun r hr => Tot.so hr.2.2)
theorem codec_Encode_T (l : Int) (b : List Int) : Tot (codec_Encode l b) fun r => Bts r.1 ∧ (r.2 = 0 → 4 ≤ r.1.length ∧ r.1.length ≤ 20000) := by
  rw [codec_Encode_eq]
  simp only [Int.ofNat_eq_natCast]
  refine Tot.b (P := fun r => r.2 = 0 → WfP l 0 r.1 ∧ b.length ≤ 4096) ?_ (fun r hr => Tot.ifne (fun k => Tot.so ⟨Bts.nil, fun q => absurd q k⟩) (fun k => ?_))
  · rw [codec_start_eq]
    refine Tot.b (New_T l) (fun r hr => Tot.ifeq (fun k => Tot.ifd (fun _ => Tot.so (fun q => absurd q (by show ¬((4:Int) = 0); decide))) (fun k2 => Tot.so (fun _ => ⟨hr k, by omega⟩))) (fun k => Tot.so (fun q => absurd q k)))
  · have hp := hr k
    refine Tot.be encoder_New_eq (Tot.b (codec_each_T hp.1 b hp.2 _ ⟨⟨by decide, by decide⟩, ⟨by decide, by decide⟩, Bts.nil⟩) (fun q hq => Tot.ifne (fun _ => Tot.so ⟨Bts.nil, fun q => absurd q (by decide)⟩) (fun _ => Tot.b (encoder_End_T hq) (fun t ht => Tot.so ht))))
end Go.Ab

set_option linter.unusedVariables false
set_option linter.unusedSimpArgs false
set_option maxHeartbeats 1000000
namespace Go.Ab
def U32 (x : Int) : Prop := 0 ≤ x ∧ x < 4294967296
theorem bv_toInt (v : BitVec 32) : IntKind.wrap .u32 (v.toNat : Int) = v.toNat := by
  have := v.isLt
  rw [wu32]; omega
theorem bv_of (v : BitVec 32) : BitVec.ofInt 32 (v.toNat : Int) = v := by
  apply BitVec.eq_of_toNat_eq
  rw [BitVec.toNat_ofInt]
  have := v.isLt
  omega
theorem bX (x y : Int) : bitsXor .u32 x y = ((BitVec.ofInt 32 x ^^^ BitVec.ofInt 32 y).toNat : Int) := bv_toInt _
theorem bO (x y : Int) : bitsOr .u32 x y = ((BitVec.ofInt 32 x ||| BitVec.ofInt 32 y).toNat : Int) := bv_toInt _
theorem bA (x y : Int) : bitsAnd .u32 x y = ((BitVec.ofInt 32 x &&& BitVec.ofInt 32 y).toNat : Int) := bv_toInt _
theorem w_u (x : Int) : U32 (IntKind.wrap .u32 x) := by rw [wu32]; unfold U32; omega
theorem ch_eq (b c d : Int) : bitsXor .u32 d (bitsAnd .u32 b (bitsXor .u32 c d)) = bitsOr .u32 (bitsAnd .u32 b c) (bitsAnd .u32 (bitsXor .u32 4294967295 b) d) := by
  simp only [bX, bO, bA, bv_of]
  congr 2
  have h1 : BitVec.ofInt 32 4294967295 = BitVec.allOnes 32 := by decide
  rw [h1]
  ext i hi
  simp only [BitVec.getElem_xor, BitVec.getElem_and, BitVec.getElem_or, BitVec.getElem_allOnes]
  cases (BitVec.ofInt 32 b)[i] <;> cases (BitVec.ofInt 32 c)[i] <;> cases (BitVec.ofInt 32 d)[i] <;> rfl
theorem maj_eq (b c d : Int) : bitsOr .u32 (bitsAnd .u32 b c) (bitsAnd .u32 d (bitsOr .u32 b c)) = bitsOr .u32 (bitsOr .u32 (bitsAnd .u32 b c) (bitsAnd .u32 b d)) (bitsAnd .u32 c d) := by
  simp only [bX, bO, bA, bv_of]
  congr 2
  ext i hi
  simp only [BitVec.getElem_xor, BitVec.getElem_and, BitVec.getElem_or]
  cases (BitVec.ofInt 32 b)[i] <;> cases (BitVec.ofInt 32 c)[i] <;> cases (BitVec.ofInt 32 d)[i] <;> rfl
def rot (a : Int) (s : Int) : Int := bitsOr .u32 (IntKind.wrap .u32 (shlBy .u32 a s)) (shrBy .u32 a (32 - s))
theorem or_byte {x b : Int} (hx : U32 x) (hb : 0 ≤ b ∧ b < 256) : bitsOr .u32 (IntKind.wrap .u32 (x * 256)) (IntKind.wrap .u32 b) = IntKind.wrap .u32 (IntKind.wrap .u32 (x * 256) + IntKind.wrap .u32 b) := by
  rw [bO]
  simp only [wu32]
  have h1 : b % 4294967296 = b := by omega
  rw [h1]
  obtain ⟨n, rfl⟩ := Int.eq_ofNat_of_zero_le hb.1
  obtain ⟨q, hq⟩ : ∃ q : Nat, (x * 256) % 4294967296 = ((2 ^ 8 * q : Nat) : Int) ∧ 2 ^ 8 * q < 4294967296 := by
    refine ⟨(x % 16777216).toNat, ?_, ?_⟩ <;> simp <;> omega
  have hn : n < 2 ^ 8 := by omega
  rw [hq.1]
  have e : ∀ m : Nat, m < 4294967296 → (BitVec.ofInt 32 (m : Int)).toNat = m := fun m hm => by
    rw [BitVec.toNat_ofInt]; omega
  rw [BitVec.toNat_or, e _ hq.2, e n (by omega), ← Nat.two_pow_add_eq_or_of_lt hn]
  have := hq.2
  omega
attribute [local irreducible] IntKind.wrap
theorem rotl_spec (a : Int) : math_bits_RotateLeft32 a 1 = some (rot a 1) ∧ math_bits_RotateLeft32 a 5 = some (rot a 5) ∧ math_bits_RotateLeft32 a 30 = some (rot a 30) := by
  have h1 : bitsAnd .u64 (IntKind.wrap .u64 1) 31 = 1 := by kernel_rfl
  have h5 : bitsAnd .u64 (IntKind.wrap .u64 5) 31 = 5 := by kernel_rfl
  have h30 : bitsAnd .u64 (IntKind.wrap .u64 30) 31 = 30 := by kernel_rfl
  have w1 : IntKind.wrap .u64 ((32 : Int) - 1) = 32 - 1 := by kernel_rfl
  have w5 : IntKind.wrap .u64 ((32 : Int) - 5) = 32 - 5 := by kernel_rfl
  have w30 : IntKind.wrap .u64 ((32 : Int) - 30) = 32 - 30 := by kernel_rfl
  refine ⟨?_, ?_, ?_⟩ <;> rw [math_bits_RotateLeft32_eq]
  · rw [h1, w1, gd_pos (by omega), gd_pos (by omega)]; rfl
  · rw [h5, w5, gd_pos (by omega), gd_pos (by omega)]; rfl
  · rw [h30, w30, gd_pos (by omega), gd_pos (by omega)]; rfl
theorem turn_spec (a s : Int) (h : 0 ≤ s ∧ s ≤ 32) : bitloftref01_turn a s = some (rot a s) := by
  rw [bitloftref01_turn_eq, w64 (by omega) (by omega), gd_pos (by omega), gd_pos (by omega)]; rfl
end Go.Ab

set_option linter.unusedVariables false
set_option linter.unusedSimpArgs false
set_option maxHeartbeats 1000000
namespace Go.Ab
attribute [local irreducible] IntKind.wrap
def bitl (n : Int) : Int := IntKind.wrap .u64 (IntKind.wrap .u64 n * 8)
def tailB (n : Int) : Nat → List Int
  | 0 => []
  | k + 1 => IntKind.wrap .u8 (shrBy .u64 (bitl n) (8 * (k : Int))) :: tailB n k
def padB (n : Int) : List Int := [128] ++ List.replicate ((119 - n % 64) % 64).toNat 0 ++ tailB n 8
theorem tailB_len (n : Int) : ∀ k, (tailB n k).length = k
  | 0 => rfl
  | k + 1 => by simp [tailB, tailB_len n k]
theorem w8_b (x : Int) : 0 ≤ IntKind.wrap .u8 x ∧ IntKind.wrap .u8 x < 256 := by rw [wu8]; omega
theorem tailB_bts (n : Int) : ∀ k, Bts (tailB n k)
  | 0 => Bts.nil
  | k + 1 => Bts.cons (w8_b _) (tailB_bts n k)
theorem padB_bts (n : Int) : Bts (padB n) := by
  refine Bts.append (Bts.append (Bts.cons (by omega) Bts.nil) (fun x hx => ?_)) (tailB_bts n 8)
  have := (List.mem_replicate.1 hx).2; omega
theorem padB_len (n : Int) (h : 0 ≤ n) : ((n + (padB n).length) % 64 = 0 ∧ (padB n).length ≤ 72) := by
  simp only [padB, List.length_append, List.length_cons, List.length_nil, List.length_replicate, tailB_len]
  omega
theorem sha_pad_c1_spec (n : Int) : ∀ (k : Nat) (h : List Int), k ≤ 8 → h.length + k ≤ 1000 → sha_pad_c1 n (8 * (k : Int) - 8) h = some (h ++ tailB n k)
  | 0, h, hk, hl => by
    rw [sha_pad_c1_eq, if_neg (by simp)]
    simp [tailB]
  | k + 1, h, hk, hl => by
    have e : 8 * ((k + 1 : Nat) : Int) - 8 = 8 * (k : Int) := by omega
    rw [e, sha_pad_c1_eq, if_pos (by simp; omega), gd_pos (by omega), gd_pos (by simp; omega), w64 (by omega) (by omega), sha_pad_c1_spec n k _ (by omega) (by simp; omega)]
    simp [tailB, bitl]
theorem sha_pad_spec (n : Int) (h : 0 ≤ n) : sha_pad n = some (padB n) := by
  rw [sha_pad_eq, gd_pos (by omega), gd_pos (by omega), tmod_nn h, w64 (by omega) (by omega), tmod_nn (by omega), gd_pos (by omega), gd_pos (by omega), gd_pos (by omega), gd_pos (by simp; omega)]
  have := sha_pad_c1_spec n 8 ([128] ++ List.replicate ((119 - n % 64) % 64).toNat 0) (by omega) (by simp; omega)
  exact this
theorem pad_c2_spec (n : Int) : ∀ (k : Nat) (h : List Int), k ≤ 8 → h.length + k ≤ 1000 → bitloftref01_Padding_c2 n ((k : Int) - 1) h = some (h ++ tailB n k)
  | 0, h, hk, hl => by
    rw [bitloftref01_Padding_c2_eq, if_neg (by simp)]
    simp [tailB]
  | k + 1, h, hk, hl => by
    have e : ((k + 1 : Nat) : Int) - 1 = (k : Int) := by omega
    rw [e, bitloftref01_Padding_c2_eq, if_pos (by simp), w64 (x := 8 * (k : Int)) (by omega) (by omega), gd_pos (by omega), gd_pos (by simp; omega), w64 (x := (k : Int) - 1) (by omega) (by omega), pad_c2_spec n k _ (by omega) (by simp; omega)]
    have e2 : (8 : Int) * IntKind.wrap .u64 n = IntKind.wrap .u64 n * 8 := Int.mul_comm _ _
    simp [tailB, bitl, e2]
theorem pad_c1_spec (n : Int) (hn : 0 ≤ n ∧ n ≤ 1000000000) : ∀ (j : Nat) (h : List Int), j < 64 → h.length + j ≤ 200 → (n + h.length + 8 + j) % 64 = 0 → bitloftref01_Padding_c1 n h = some (h ++ List.replicate j 0 ++ tailB n 8)
  | 0, h, hj, hl, hm => by
    rw [bitloftref01_Padding_c1_eq, gd_pos (by omega)]
    have hl' : Int.ofNat h.length = (h.length : Int) := rfl
    rw [hl', w64 (x := n + (h.length : Int)) (by omega) (by omega), w64 (by omega) (by omega), tmod_nn (by omega), if_neg (by simp; omega)]
    have := pad_c2_spec n 8 h (by omega) (by omega)
    simpa using this
  | j + 1, h, hj, hl, hm => by
    rw [bitloftref01_Padding_c1_eq, gd_pos (by omega)]
    have hl' : Int.ofNat h.length = (h.length : Int) := rfl
    rw [hl', w64 (x := n + (h.length : Int)) (by omega) (by omega), w64 (by omega) (by omega), tmod_nn (by omega), if_pos (by simp; omega), gd_pos (by simp; omega), pad_c1_spec n hn j (h ++ [0]) (by omega) (by simp; omega) (by simp; omega)]
    simp [List.replicate_succ]
theorem padding_spec (n : Int) (hn : 0 ≤ n ∧ n ≤ 1000000000) : bitloftref01_Padding n = some (padB n) := by
  rw [bitloftref01_Padding_eq, pad_c1_spec n hn ((119 - n % 64) % 64).toNat [128] (by omega) (by simp; omega) (by simp; omega)]
  rfl
theorem concat_two (a b : List Int) (h : a.length + b.length ≤ 1000000) : slices_Concat_byte_byte [a, b] = some (a ++ b) := by
  have ha : Int.ofNat a.length = (a.length : Int) := rfl
  have hb : Int.ofNat b.length = (b.length : Int) := rfl
  rw [slices_Concat_byte_byte_eq]
  rw [slices_Concat_byte_byte_c1_eq, if_pos (by simp), gd_pos (by omega), gd_pos (by simp)]
  simp only [List.getD_cons_zero, Int.toNat_zero, ha]
  rw [w64 (x := 0 + (a.length : Int)) (by omega) (by omega), if_neg (by simp), w64 (x := 0 + 1) (by omega) (by omega)]
  rw [slices_Concat_byte_byte_c1_eq, if_pos (by simp), gd_pos (by omega), gd_pos (by simp)]
  simp only [show (0 + 1 : Int).toNat = 1 from rfl, List.getD_cons_succ, List.getD_cons_zero, hb]
  rw [w64 (x := 0 + (a.length : Int) + (b.length : Int)) (by omega) (by omega), if_neg (by simp <;> omega), w64 (x := 0 + 1 + 1) (by omega) (by omega)]
  rw [slices_Concat_byte_byte_c1_eq, if_neg (by simp)]
  have hg : ∃ r, slices_Grow_byte_byte (0 + (a.length : Int) + (b.length : Int)) = some (r, 0, 0) := by
    rw [slices_Grow_byte_byte_eq, if_neg (by simp; omega), w64 (by omega) (by omega)]
    by_cases hz : (0 + (a.length : Int) + (b.length : Int)) - 0 > 0
    · rw [if_pos (by simpa using hz), gd_pos (by omega), gd_pos (by omega), gd_pos (by omega), gd_pos (by omega), gd_pos (by omega), gd_pos (by simp; omega), gd_pos (by omega), gd_pos (by simp; omega)]
      exact ⟨_, rfl⟩
    · rw [if_neg (by simpa using hz)]; exact ⟨_, rfl⟩
  obtain ⟨r, hr⟩ := hg
  rw [hr]
  simp only [Option.bind_some]
  rw [slices_Concat_byte_byte_c2_eq, if_pos (by simp), gd_pos (by omega), gd_pos (by simp), gd_pos (by simp; omega), w64 (by omega) (by omega)]
  simp only [List.getD_cons_zero, Int.toNat_zero, List.take_zero, List.nil_append]
  rw [slices_Concat_byte_byte_c3_eq, if_pos (by simp), gd_pos (by omega), gd_pos (by simp), gd_pos (by simp; omega), w64 (by omega) (by omega)]
  rw [slices_Concat_byte_byte_c3_eq, if_neg (by simp)]
  rfl
end Go.Ab

set_option linter.unusedVariables false
set_option linter.unusedSimpArgs false
set_option maxHeartbeats 1000000
namespace Go.Ab
attribute [local irreducible] IntKind.wrap
def bt (x b : Int) : Int := IntKind.wrap .u32 (IntKind.wrap .u32 (x * 256) + IntKind.wrap .u32 b)
theorem bt_u (x b : Int) : U32 (bt x b) := w_u _
def wordB (b : List Int) (t : Nat) : Int := bt (bt (bt (IntKind.wrap .u32 (b.getD (4 * t) 0)) (b.getD (4 * t + 1) 0)) (b.getD (4 * t + 2) 0)) (b.getD (4 * t + 3) 0)
def wordsB (b : List Int) (t : Nat) : Nat → List Int
  | 0 => []
  | k + 1 => wordB b t :: wordsB b (t + 1) k
theorem wordsB_len (b : List Int) : ∀ (k t : Nat), (wordsB b t k).length = k
  | 0, t => rfl
  | k + 1, t => by simp [wordsB, wordsB_len b k]
theorem done_c1 (b : List Int) (hb : b.length = 64) (x y : List Int) : ∀ (k t : Nat) (h : List Int), t + k = 16 → h.length = t → bitloftref01_Done_c1 b (t : Int) x y h = bitloftref01_Done_c2 16 x y (h ++ wordsB b t k)
  | 0, t, h, e, hl => by
    rw [bitloftref01_Done_c1_eq, if_neg (by simp; omega)]
    simp [wordsB]
  | k + 1, t, h, e, hl => by
    have hb' : Int.ofNat b.length = 64 := by rw [hb]; rfl
    have e0 : ((4 : Int) * (t : Int)).toNat = 4 * t := by omega
    have e1 : ((4 : Int) * (t : Int) + 1).toNat = 4 * t + 1 := by omega
    have e2 : ((4 : Int) * (t : Int) + 2).toNat = 4 * t + 2 := by omega
    have e3 : ((4 : Int) * (t : Int) + 3).toNat = 4 * t + 3 := by omega
    rw [bitloftref01_Done_c1_eq, if_pos (by simp; omega), hb']
    simp only [w64 (x := 4 * (t : Int)) (by omega) (by omega), w64 (x := 4 * (t : Int) + 1) (by omega) (by omega), w64 (x := 4 * (t : Int) + 2) (by omega) (by omega), w64 (x := 4 * (t : Int) + 3) (by omega) (by omega), w64 (x := (t : Int) + 1) (by omega) (by omega), e0, e1, e2, e3]
    rw [gd_pos (by omega), gd_pos (by omega), gd_pos (by omega), gd_pos (by omega), gd_pos (by omega), gd_pos (by omega), gd_pos (by omega), gd_pos (by omega), gd_pos (by simp; omega)]
    have ih := done_c1 b hb x y k (t + 1) (h ++ [wordB b t]) (by omega) (by simp; omega)
    have ec : ((t + 1 : Nat) : Int) = (t : Int) + 1 := by omega
    rw [ec] at ih
    simp only [List.append_assoc, List.singleton_append] at ih
    exact ih
theorem set_mid (W : List Int) (x v : Int) (R : List Int) : (W ++ x :: R).set W.length v = W ++ v :: R := by
  induction W with
  | nil => rfl
  | cons a W ih => simp [ih]
theorem get_mid (W : List Int) (x : Int) (R : List Int) : (W ++ x :: R).getD W.length 0 = x := by
  induction W with
  | nil => rfl
  | cons a W ih => simp
theorem bts_get {b : List Int} (h : Bts b) (i : Nat) : 0 ≤ b.getD i 0 ∧ b.getD i 0 < 256 := by
  rw [List.getD_eq_getElem?_getD]
  cases hi : b[i]? with
  | none => simp
  | some x => exact h x (List.mem_of_getElem? hi)
theorem do_byte (b : List Int) (hb : b.length = 64) (hB : Bts b) (x y W R : List Int) (i t : Nat) (v : Int) (hv : U32 v) (hi : i < 64) (ht : i / 4 = t) (hW : W.length = t) :
    sha_do_c1 b 64 (i : Int) x y (W ++ v :: R) = sha_do_c1 b 64 ((i : Int) + 1) x y (W ++ bt v (b.getD i 0) :: R) := by
  have hb' : Int.ofNat b.length = 64 := by rw [hb]; rfl
  have e : (IntKind.wrap .i64 (Int.tdiv (i : Int) 4)) = (t : Int) := by
    rw [tdiv_nn (by omega), w64 (by omega) (by omega)]; omega
  rw [sha_do_c1_eq, if_pos (by simp; omega), hb', e]
  rw [gd_pos (by omega), gd_pos (by omega), gd_pos (by omega), gd_pos (by omega), gd_pos (by omega), gd_pos (by omega), gd_pos (by omega), gd_pos (by omega), gd_pos (by omega)]
  have et : ((t : Int)).toNat = W.length := by omega
  have ei : ((i : Int)).toNat = i := by omega
  rw [et, ei, get_mid, set_mid, or_byte hv (bts_get hB i), w64 (x := (i : Int) + 1) (by omega) (by omega)]
  rfl
theorem do_c1 (b : List Int) (hb : b.length = 64) (hB : Bts b) (x y : List Int) : ∀ (k t : Nat) (W : List Int), t + k = 16 → W.length = t →
    sha_do_c1 b 64 (4 * (t : Int)) x y (W ++ List.replicate k 0) = sha_do_c1 b 64 64 x y (W ++ wordsB b t k)
  | 0, t, W, e, hl => by
    have : 4 * (t : Int) = 64 := by omega
    rw [this]; rfl
  | k + 1, t, W, e, hl => by
    have c : ∀ j : Nat, ((4 * t + j : Nat) : Int) = 4 * (t : Int) + (j : Int) := fun j => by omega
    have s0 := do_byte b hb hB x y W (List.replicate k 0) (4 * t) t 0 (by unfold U32; omega) (by omega) (by omega) hl
    have s1 := do_byte b hb hB x y W (List.replicate k 0) (4 * t + 1) t (bt 0 (b.getD (4 * t) 0)) (bt_u _ _) (by omega) (by omega) hl
    have s2 := do_byte b hb hB x y W (List.replicate k 0) (4 * t + 2) t (bt (bt 0 (b.getD (4 * t) 0)) (b.getD (4 * t + 1) 0)) (bt_u _ _) (by omega) (by omega) hl
    have s3 := do_byte b hb hB x y W (List.replicate k 0) (4 * t + 3) t (bt (bt (bt 0 (b.getD (4 * t) 0)) (b.getD (4 * t + 1) 0)) (b.getD (4 * t + 2) 0)) (bt_u _ _) (by omega) (by omega) hl
    rw [show ((4 * t : Nat) : Int) = 4 * (t : Int) by omega] at s0
    rw [show ((4 * t + 1 : Nat) : Int) = 4 * (t : Int) + 1 by omega] at s1
    rw [show ((4 * t + 2 : Nat) : Int) = 4 * (t : Int) + 1 + 1 by omega] at s2
    rw [show ((4 * t + 3 : Nat) : Int) = 4 * (t : Int) + 1 + 1 + 1 by omega] at s3
    have h0 : bt 0 (b.getD (4 * t) 0) = IntKind.wrap .u32 (b.getD (4 * t) 0) := by
      have := bts_get hB (4 * t)
      simp only [bt, wu32]; omega
    rw [List.replicate_succ, s0, s1, s2, s3, h0]
    have ih := do_c1 b hb hB x y k (t + 1) (W ++ [wordB b t]) (by omega) (by simp; omega)
    rw [show 4 * ((t + 1 : Nat) : Int) = 4 * (t : Int) + 1 + 1 + 1 + 1 by omega] at ih
    simp only [List.append_assoc, List.singleton_append] at ih
    exact ih
def nextW (a b c d : Int) : Int := rot (bitsXor .u32 (bitsXor .u32 (bitsXor .u32 a b) c) d) 1
def sch : Nat → List Int → List Int
  | 0, h => h
  | k + 1, h => sch k (h ++ [nextW (h.getD (h.length - 3) 0) (h.getD (h.length - 8) 0) (h.getD (h.length - 14) 0) (h.getD (h.length - 16) 0)])
theorem sch_len : ∀ (k : Nat) (h : List Int), (sch k h).length = h.length + k
  | 0, h => rfl
  | k + 1, h => by rw [sch, sch_len k]; simp; omega
theorem getD_left {h r : List Int} {t : Nat} (ht : t < h.length) : (h ++ r).getD t 0 = h.getD t 0 := by
  simp [List.getD_eq_getElem?_getD, List.getElem?_append_left ht]
theorem sch_pre : ∀ (k : Nat) (h : List Int) (t : Nat), t < h.length → (sch k h).getD t 0 = h.getD t 0
  | 0, h, t, ht => rfl
  | k + 1, h, t, ht => by
    rw [sch, sch_pre k _ t (by simp; omega), getD_left ht]
theorem sch_at : ∀ (k : Nat) (h : List Int) (t : Nat), 16 ≤ h.length → h.length ≤ t → t < h.length + k →
    (sch k h).getD t 0 = nextW ((sch k h).getD (t - 3) 0) ((sch k h).getD (t - 8) 0) ((sch k h).getD (t - 14) 0) ((sch k h).getD (t - 16) 0)
  | 0, h, t, h1, h2, h3 => by omega
  | k + 1, h, t, h1, h2, h3 => by
    by_cases he : t = h.length
    · subst he
      rw [sch]
      rw [sch_pre k _ h.length (by simp), sch_pre k _ (h.length - 3) (by simp; omega), sch_pre k _ (h.length - 8) (by simp; omega), sch_pre k _ (h.length - 14) (by simp; omega), sch_pre k _ (h.length - 16) (by simp; omega)]
      rw [get_mid, getD_left (by omega), getD_left (by omega), getD_left (by omega), getD_left (by omega)]
    · rw [sch]
      exact sch_at k _ t (by simp; omega) (by simp; omega) (by simp; omega)
theorem done_c2 (x y : List Int) : ∀ (k t : Nat) (h : List Int), t + k = 80 → 16 ≤ t → h.length = t → bitloftref01_Done_c2 (t : Int) x y h = bitloftref01_Done_c3 0 x y (sch k h) x
  | 0, t, h, e, h1, hl => by
    rw [bitloftref01_Done_c2_eq, if_neg (by simp; omega)]; rfl
  | k + 1, t, h, e, h1, hl => by
    have hl' : Int.ofNat h.length = (t : Int) := by rw [hl]; rfl
    rw [bitloftref01_Done_c2_eq, if_pos (by simp; omega), hl']
    simp only [w64 (x := (t : Int) - 3) (by omega) (by omega), w64 (x := (t : Int) - 8) (by omega) (by omega), w64 (x := (t : Int) - 14) (by omega) (by omega), w64 (x := (t : Int) - 16) (by omega) (by omega), w64 (x := (t : Int) + 1) (by omega) (by omega)]
    rw [gd_pos (by omega), gd_pos (by omega), gd_pos (by omega), gd_pos (by omega), gd_pos (by omega), gd_pos (by omega), gd_pos (by omega), gd_pos (by omega)]
    rw [show 0 + ((t : Int) - 3).toNat = h.length - 3 by omega, show 0 + ((t : Int) - 8).toNat = h.length - 8 by omega, show 0 + ((t : Int) - 14).toNat = h.length - 14 by omega, show 0 + ((t : Int) - 16).toNat = h.length - 16 by omega]
    rw [turn_spec _ 1 (by omega)]
    simp only [Option.bind_some]
    rw [gd_pos (by simp; omega)]
    have ih := done_c2 x y k (t + 1) (h ++ [nextW (h.getD (h.length - 3) 0) (h.getD (h.length - 8) 0) (h.getD (h.length - 14) 0) (h.getD (h.length - 16) 0)]) (by omega) (by omega) (by simp; omega)
    rw [show ((t + 1 : Nat) : Int) = (t : Int) + 1 by omega] at ih
    exact ih
end Go.Ab

set_option linter.unusedVariables false
set_option linter.unusedSimpArgs false
set_option maxHeartbeats 1000000
namespace Go.Ab
attribute [local irreducible] IntKind.wrap
def ff (t : Nat) (b c d : Int) : Int × Int :=
  if t < 20 then (bitsOr .u32 (bitsAnd .u32 b c) (bitsAnd .u32 (bitsXor .u32 4294967295 b) d), 1518500249)
  else if t < 40 then (bitsXor .u32 (bitsXor .u32 b c) d, 1859775393)
  else if t < 60 then (bitsOr .u32 (bitsOr .u32 (bitsAnd .u32 b c) (bitsAnd .u32 b d)) (bitsAnd .u32 c d), 2400959708)
  else (bitsXor .u32 (bitsXor .u32 b c) d, 3395469782)
theorem part_spec (t : Nat) (b c d : Int) : bitloftref01_part (t : Int) b c d = some (ff t b c d) := by
  rw [bitloftref01_part_eq]
  unfold ff
  by_cases h1 : t < 20
  · rw [if_pos (by simp; omega), if_pos h1]
  · rw [if_neg (by simp; omega), if_neg h1]
    by_cases h2 : t < 40
    · rw [if_pos (by simp; omega), if_pos h2]
    · rw [if_neg (by simp; omega), if_neg h2]
      by_cases h3 : t < 60
      · rw [if_pos (by simp; omega), if_pos h3]
      · rw [if_neg (by simp; omega), if_neg h3]
theorem mix_spec (t : Nat) (b c d : Int) (ht : t < 80) : sha_mix (IntKind.wrap .i64 (Int.tdiv (t : Int) 20)) b c d = some (ff t b c d).1 ∧ G_quarters.getD (IntKind.wrap .i64 (Int.tdiv (t : Int) 20)).toNat 0 = (ff t b c d).2 ∧ 0 ≤ IntKind.wrap .i64 (Int.tdiv (t : Int) 20) ∧ IntKind.wrap .i64 (Int.tdiv (t : Int) 20) < 4 := by
  have e : IntKind.wrap .i64 (Int.tdiv (t : Int) 20) = ((t / 20 : Nat) : Int) := by
    rw [tdiv_nn (by omega), w64 (by omega) (by omega)]; omega
  rw [e, sha_mix_eq]
  unfold ff
  by_cases h1 : t < 20
  · have : t / 20 = 0 := by omega
    rw [this, if_pos (by simp), if_pos h1, ch_eq]
    exact ⟨rfl, rfl, by omega, by omega⟩
  · rw [if_neg h1]
    by_cases h2 : t < 40
    · have : t / 20 = 1 := by omega
      rw [this, if_neg (by simp), if_neg (by simp), if_pos h2]
      exact ⟨rfl, rfl, by omega, by omega⟩
    · rw [if_neg h2]
      by_cases h3 : t < 60
      · have : t / 20 = 2 := by omega
        rw [this, if_neg (by simp), if_pos (by simp), if_pos h3, maj_eq]
        exact ⟨rfl, rfl, by omega, by omega⟩
      · have : t / 20 = 3 := by omega
        rw [this, if_neg (by simp), if_neg (by simp), if_neg h3]
        exact ⟨rfl, rfl, by omega, by omega⟩
structure S5 where
  a : Int
  b : Int
  c : Int
  d : Int
  e : Int
def S5.l (s : S5) : List Int := [s.a, s.b, s.c, s.d, s.e]
def rd (t : Nat) (w : Int) (s : S5) : S5 :=
  ⟨IntKind.wrap .u32 (IntKind.wrap .u32 (IntKind.wrap .u32 (IntKind.wrap .u32 (rot s.a 5 + (ff t s.b s.c s.d).1) + s.e) + (ff t s.b s.c s.d).2) + w), s.a, rot s.b 30, s.c, s.d⟩
def rnds (W : List Int) : Nat → Nat → S5 → S5
  | 0, _, s => s
  | k + 1, t, s => rnds W k (t + 1) (rd t (W.getD t 0) s)
theorem done_c3 (x y W : List Int) (hW : W.length = 80) : ∀ (k t : Nat) (s : S5), t + k = 80 → bitloftref01_Done_c3 (t : Int) x y W s.l = bitloftref01_Done_c4 0 x y (rnds W k t s).l
  | 0, t, s, e => by
    rw [bitloftref01_Done_c3_eq, if_neg (by simp; omega)]; rfl
  | k + 1, t, s, e => by
    have hl' : Int.ofNat W.length = 80 := by rw [hW]; rfl
    have g0 : s.l.getD 0 0 = s.a := rfl
    have g1 : s.l.getD 1 0 = s.b := rfl
    have g2 : s.l.getD 2 0 = s.c := rfl
    have g3 : s.l.getD 3 0 = s.d := rfl
    have g4 : s.l.getD 4 0 = s.e := rfl
    rw [bitloftref01_Done_c3_eq, if_pos (by simp; omega), hl']
    simp only [g0, g1, g2, g3, g4, part_spec, turn_spec _ 5 (by omega), turn_spec _ 30 (by omega), Option.bind_some, w64 (x := (t : Int) + 1) (by omega) (by omega), show 0 + ((t : Int)).toNat = t by omega]
    repeat rw [gd_pos (by omega)]
    have ih := done_c3 x y W hW k (t + 1) (rd t (W.getD t 0) s) (by omega)
    rw [show ((t + 1 : Nat) : Int) = (t : Int) + 1 by omega] at ih
    exact ih
def addF (x : List Int) (s : S5) : List Int := [IntKind.wrap .u32 (x.getD 0 0 + s.a), IntKind.wrap .u32 (x.getD 1 0 + s.b), IntKind.wrap .u32 (x.getD 2 0 + s.c), IntKind.wrap .u32 (x.getD 3 0 + s.d), IntKind.wrap .u32 (x.getD 4 0 + s.e)]
theorem done_c4 (y : List Int) (x s : S5) : bitloftref01_Done_c4 0 x.l y s.l = some (addF x.l s) := by
  have g : ∀ s : S5, s.l.getD 0 0 = s.a ∧ s.l.getD 1 0 = s.b ∧ s.l.getD 2 0 = s.c ∧ s.l.getD 3 0 = s.d ∧ s.l.getD 4 0 = s.e := fun s => ⟨rfl, rfl, rfl, rfl, rfl⟩
  have n1 : IntKind.wrap .i64 (0 + 1) = 1 := by kernel_rfl
  have n2 : IntKind.wrap .i64 (1 + 1) = 2 := by kernel_rfl
  have n3 : IntKind.wrap .i64 (2 + 1) = 3 := by kernel_rfl
  have n4 : IntKind.wrap .i64 (3 + 1) = 4 := by kernel_rfl
  have n5 : IntKind.wrap .i64 (4 + 1) = 5 := by kernel_rfl
  rw [bitloftref01_Done_c4_eq, if_pos (by simp), n1]
  repeat rw [gd_pos (by omega)]
  rw [bitloftref01_Done_c4_eq, if_pos (by simp), n2]
  repeat rw [gd_pos (by omega)]
  rw [bitloftref01_Done_c4_eq, if_pos (by simp), n3]
  repeat rw [gd_pos (by omega)]
  rw [bitloftref01_Done_c4_eq, if_pos (by simp), n4]
  repeat rw [gd_pos (by omega)]
  rw [bitloftref01_Done_c4_eq, if_pos (by simp), n5]
  repeat rw [gd_pos (by omega)]
  rw [bitloftref01_Done_c4_eq, if_neg (by simp)]
  rfl
def blk (x : S5) (b : List Int) : S5 :=
  let s := rnds (sch 64 (wordsB b 0 16)) 80 0 x
  ⟨IntKind.wrap .u32 (x.a + s.a), IntKind.wrap .u32 (x.b + s.b), IntKind.wrap .u32 (x.c + s.c), IntKind.wrap .u32 (x.d + s.d), IntKind.wrap .u32 (x.e + s.e)⟩
theorem Done_spec (x : S5) (b : List Int) (hb : b.length = 64) : bitloftref01_Done x.l b = some (blk x b).l := by
  have h1 := done_c1 b hb x.l (List.replicate 5 0) 16 0 [] rfl rfl
  have h2 := done_c2 x.l (List.replicate 5 0) 64 16 (wordsB b 0 16) rfl (by omega) (wordsB_len b 16 0)
  have h3 := done_c3 x.l (List.replicate 5 0) (sch 64 (wordsB b 0 16)) (by rw [sch_len, wordsB_len]) 80 0 x rfl
  rw [bitloftref01_Done_eq]
  refine h1.trans ?_
  rw [List.nil_append]
  refine Eq.trans h2 (Eq.trans h3 ?_)
  rw [done_c4]; rfl
def Ring (W : List Int) (t : Nat) (r : List Int) : Prop := r.length = 16 ∧ ∀ i, i < max t 16 → max t 16 ≤ i + 16 → r.getD (i % 16) 0 = W.getD i 0
theorem getD_set {r : List Int} {i j : Nat} {v : Int} (hi : i < r.length) : (r.set i v).getD j 0 = if i = j then v else r.getD j 0 := by
  simp only [List.getD_eq_getElem?_getD, List.getElem?_set]
  by_cases h : i = j
  · subst h; simp [hi]
  · simp [h]
theorem do_c2 (x y W : List Int) (hW : ∀ t, 16 ≤ t → t < 80 → W.getD t 0 = nextW (W.getD (t - 3) 0) (W.getD (t - 8) 0) (W.getD (t - 14) 0) (W.getD (t - 16) 0)) :
    ∀ (k t : Nat) (s : S5) (r : List Int), t + k = 80 → Ring W t r → sha_do_c2 s.a s.b s.c s.d s.e (t : Int) x y r = some (addF x (rnds W k t s))
  | 0, t, s, r, e, hr => by
    rw [sha_do_c2_eq, if_neg (by simp; omega)]
    repeat rw [gd_pos (by omega)]
    rfl
  | k + 1, t, s, r, e, hr => by
    obtain ⟨m1, m2, m3, m4⟩ := mix_spec t s.b s.c s.d (by omega)
    obtain ⟨r1, r5, r30⟩ := rotl_spec s.a
    obtain ⟨_, _, q30⟩ := rotl_spec s.b
    have et : (Int.tmod (t : Int) 16) = ((t % 16 : Nat) : Int) := by rw [tmod_nn (by omega)]; omega
    have ett : (((t % 16 : Nat) : Int)).toNat = t % 16 := by omega
    rw [sha_do_c2_eq, if_pos (by simp; omega)]
    by_cases h16 : 16 ≤ t
    · have e13 : (Int.tmod (IntKind.wrap .i64 ((t : Int) + 13)) 16) = (((t - 3) % 16 : Nat) : Int) := by rw [w64 (by omega) (by omega), tmod_nn (by omega)]; omega
      have e8 : (Int.tmod (IntKind.wrap .i64 ((t : Int) + 8)) 16) = (((t - 8) % 16 : Nat) : Int) := by rw [w64 (by omega) (by omega), tmod_nn (by omega)]; omega
      have e2 : (Int.tmod (IntKind.wrap .i64 ((t : Int) + 2)) 16) = (((t - 14) % 16 : Nat) : Int) := by rw [w64 (by omega) (by omega), tmod_nn (by omega)]; omega
      have e0 : t % 16 = (t - 16) % 16 := by omega
      have v13 := hr.2 (t - 3) (by omega) (by omega)
      have v8 := hr.2 (t - 8) (by omega) (by omega)
      have v2 := hr.2 (t - 14) (by omega) (by omega)
      have v0 := hr.2 (t - 16) (by omega) (by omega)
      rw [← e0] at v0
      have hn : rot (bitsXor .u32 (bitsXor .u32 (bitsXor .u32 (r.getD ((t - 3) % 16) 0) (r.getD ((t - 8) % 16) 0)) (r.getD ((t - 14) % 16) 0)) (r.getD (t % 16) 0)) 1 = W.getD t 0 := by
        rw [v13, v8, v2, v0, hW t h16 (by omega)]; rfl
      rw [if_pos (by simp; omega)]
      simp only [et, e13, e8, e2, (rotl_spec _).1, r5, q30, m1, m2, Option.bind_some, w64 (x := (t : Int) + 1) (by omega) (by omega), Int.toNat_natCast, hn]
      repeat rw [gd_pos (by omega)]
      have hr' : Ring W (t + 1) (r.set (t % 16) (W.getD t 0)) := by
        refine ⟨by simp [hr.1], fun i h1 h2 => ?_⟩
        rw [getD_set (by rw [hr.1]; omega)]
        by_cases hi : i = t
        · subst hi; rw [if_pos rfl]
        · rw [if_neg (by omega)]
          exact hr.2 i (by omega) (by omega)
      have hg : (r.set (t % 16) (W.getD t 0)).getD (t % 16) 0 = W.getD t 0 := by
        rw [getD_set (by rw [hr.1]; omega), if_pos rfl]
      have ih := do_c2 x y W hW k (t + 1) (rd t (W.getD t 0) s) _ (by omega) hr'
      rw [show ((t + 1 : Nat) : Int) = (t : Int) + 1 by omega] at ih
      rw [hg]
      exact ih
    · have v0 := hr.2 t (by omega) (by omega)
      rw [if_neg (by simp; omega)]
      simp only [et, r5, q30, m1, m2, Option.bind_some, w64 (x := (t : Int) + 1) (by omega) (by omega), Int.toNat_natCast, v0]
      repeat rw [gd_pos (by omega)]
      have hr' : Ring W (t + 1) r := ⟨hr.1, fun i h1 h2 => hr.2 i (by omega) (by omega)⟩
      have ih := do_c2 x y W hW k (t + 1) (rd t (W.getD t 0) s) _ (by omega) hr'
      rw [show ((t + 1 : Nat) : Int) = (t : Int) + 1 by omega] at ih
      exact ih
theorem do_spec (x : S5) (b : List Int) (hb : 64 ≤ b.length) (hB : Bts b) : sha_do x.l b = some (blk x (b.take 64)).l := by
  have hl : (b.take 64).length = 64 := by simp; omega
  have hl' : Int.ofNat (b.take 64).length = 64 := by rw [hl]; rfl
  rw [sha_do_eq, gd_pos (by omega), gd_pos (by simp; omega), hl']
  have h1 := do_c1 (b.take 64) hl (hB.take 64) x.l (List.replicate 5 0) 16 0 [] rfl rfl
  refine Eq.trans h1 ?_
  rw [List.nil_append, sha_do_c1_eq, if_neg (by simp)]
  repeat rw [gd_pos (by omega)]
  have hW : ∀ t, 16 ≤ t → t < 80 → _ := fun t h1 h2 => sch_at 64 (wordsB (b.take 64) 0 16) t (by rw [wordsB_len]; omega) (by rw [wordsB_len]; exact h1) (by rw [wordsB_len]; omega)
  have h2 := do_c2 x.l (List.replicate 5 0) (sch 64 (wordsB (b.take 64) 0 16)) hW 80 0 x (wordsB (b.take 64) 0 16) rfl ⟨wordsB_len _ _ _, fun i h1 h2 => by
    have hi : i < 16 := by omega
    rw [sch_pre 64 _ i (by rw [wordsB_len]; exact hi), Nat.mod_eq_of_lt hi]⟩
  refine Eq.trans h2 ?_
  rfl
end Go.Ab

set_option linter.unusedVariables false
set_option linter.unusedSimpArgs false
set_option maxHeartbeats 1000000
namespace Go.Ab
attribute [local irreducible] IntKind.wrap
def outAt (l : List Int) (i : Nat) : Int := IntKind.wrap .u8 (shrBy .u32 (l.getD (i / 4) 0) (24 - 8 * ((i % 4 : Nat) : Int)))
def outs (l : List Int) (t : Nat) : Nat → List Int
  | 0 => []
  | k + 1 => outAt l t :: outs l (t + 1) k
theorem outs_len (l : List Int) : ∀ (k t : Nat), (outs l t k).length = k
  | 0, t => rfl
  | k + 1, t => by simp [outs, outs_len l k]
theorem outs_bts (l : List Int) : ∀ (k t : Nat), Bts (outs l t k)
  | 0, t => Bts.nil
  | k + 1, t => Bts.cons (w8_b _) (outs_bts l k _)
theorem of_c2 (x l : List Int) : ∀ (k t : Nat) (P : List Int), t + k = 20 → P.length = t → bitloftref01_Of_c2 (t : Int) x l (P ++ List.replicate k 0) = some (P ++ outs l t k)
  | 0, t, P, e, hl => by
    rw [bitloftref01_Of_c2_eq, if_neg (by simp; omega)]; rfl
  | k + 1, t, P, e, hl => by
    have e1 : IntKind.wrap .i64 (Int.tdiv (t : Int) 4) = ((t / 4 : Nat) : Int) := by
      rw [tdiv_nn (by omega), w64 (by omega) (by omega)]; omega
    have e2 : IntKind.wrap .i64 (8 * (Int.tmod (t : Int) 4)) = 8 * ((t % 4 : Nat) : Int) := by
      rw [tmod_nn (by omega), w64 (by omega) (by omega)]; omega
    have e3 : IntKind.wrap .i64 (24 - 8 * ((t % 4 : Nat) : Int)) = 24 - 8 * ((t % 4 : Nat) : Int) := w64 (by omega) (by omega)
    rw [bitloftref01_Of_c2_eq, if_pos (by simp; omega), e1, e2, e3, w64 (x := (t : Int) + 1) (by omega) (by omega)]
    repeat rw [gd_pos (by omega)]
    rw [show ((t : Int)).toNat = P.length by omega, show (((t / 4 : Nat) : Int)).toNat = t / 4 by omega, List.replicate_succ, set_mid]
    have ih := of_c2 x l k (t + 1) (P ++ [outAt l t]) (by omega) (by simp; omega)
    rw [show ((t + 1 : Nat) : Int) = (t : Int) + 1 by omega] at ih
    simp only [List.append_assoc, List.singleton_append] at ih
    exact ih
theorem sum_c2 (l : List Int) : ∀ (k t : Nat) (P : List Int), t + k = 5 → P.length = 4 * t → sha_Sum_c2 l (t : Int) (P ++ List.replicate (4 * k) 0) = some (P ++ outs l (4 * t) (4 * k), 0)
  | 0, t, P, e, hl => by
    rw [sha_Sum_c2_eq, if_neg (by simp; omega)]; rfl
  | k + 1, t, P, e, hl => by
    rw [sha_Sum_c2_eq, if_pos (by simp; omega)]
    simp only [w64 (x := 4 * (t : Int)) (by omega) (by omega), w64 (x := 4 * (t : Int) + 1) (by omega) (by omega), w64 (x := 4 * (t : Int) + 2) (by omega) (by omega), w64 (x := 4 * (t : Int) + 3) (by omega) (by omega), w64 (x := (t : Int) + 1) (by omega) (by omega)]
    repeat rw [gd_pos (by omega)]
    rw [show ((t : Int)).toNat = t by omega, show (4 * (t : Int)).toNat = P.length by omega]
    have s0 : IntKind.wrap .u8 (Int.fdiv (l.getD t 0) 16777216) = outAt l (4 * t) := by
      unfold outAt shrBy
      rw [show 4 * t / 4 = t by omega, show 4 * t % 4 = 0 by omega]; rfl
    have s1 : IntKind.wrap .u8 (Int.fdiv (l.getD t 0) 65536) = outAt l (4 * t + 1) := by
      unfold outAt shrBy
      rw [show (4 * t + 1) / 4 = t by omega, show (4 * t + 1) % 4 = 1 by omega]; rfl
    have s2 : IntKind.wrap .u8 (Int.fdiv (l.getD t 0) 256) = outAt l (4 * t + 2) := by
      unfold outAt shrBy
      rw [show (4 * t + 2) / 4 = t by omega, show (4 * t + 2) % 4 = 2 by omega]; rfl
    have s3 : IntKind.wrap .u8 (l.getD t 0) = outAt l (4 * t + 3) := by
      unfold outAt shrBy
      rw [show (4 * t + 3) / 4 = t by omega, show (4 * t + 3) % 4 = 3 by omega]
      have : (2 : Int) ^ (min ((24 : Int) - 8 * ((3 : Nat) : Int)).toNat (IntKind.bits .u32)) = 1 := rfl
      rw [this, Int.fdiv_one]
    rw [s0, s1, s2, s3, show 4 * (k + 1) = 4 * k + 1 + 1 + 1 + 1 by omega, List.replicate_succ, List.replicate_succ, List.replicate_succ, List.replicate_succ, set_mid]
    have a1 := set_mid (P ++ [outAt l (4 * t)]) 0 (outAt l (4 * t + 1)) (0 :: 0 :: List.replicate (4 * k) 0)
    have a2 := set_mid (P ++ [outAt l (4 * t), outAt l (4 * t + 1)]) 0 (outAt l (4 * t + 2)) (0 :: List.replicate (4 * k) 0)
    have a3 := set_mid (P ++ [outAt l (4 * t), outAt l (4 * t + 1), outAt l (4 * t + 2)]) 0 (outAt l (4 * t + 3)) (List.replicate (4 * k) 0)
    simp only [List.append_assoc, List.cons_append, List.nil_append, List.length_append, List.length_cons, List.length_nil] at a1 a2 a3
    rw [show (4 * (t : Int) + 1).toNat = P.length + (0 + 1) by omega, a1, show (4 * (t : Int) + 2).toNat = P.length + (0 + 1 + 1) by omega, a2, show (4 * (t : Int) + 3).toNat = P.length + (0 + 1 + 1 + 1) by omega, a3]
    have ih := sum_c2 l k (t + 1) (P ++ [outAt l (4 * t), outAt l (4 * t + 1), outAt l (4 * t + 2), outAt l (4 * t + 3)]) (by omega) (by simp; omega)
    rw [show ((t + 1 : Nat) : Int) = (t : Int) + 1 by omega] at ih
    simp only [List.append_assoc, List.cons_append, List.nil_append] at ih
    exact ih
def blks : Nat → S5 → List Int → S5
  | 0, x, _ => x
  | k + 1, x, m => blks k (blk x (m.take 64)) (m.drop 64)
theorem sum_c1 : ∀ (k : Nat) (x : S5) (m : List Int), m.length = 64 * k → Bts m → sha_Sum_c1 m (List.replicate 20 0) x.l = some (outs (blks k x m).l 0 20, 0)
  | 0, x, m, hl, hB => by
    obtain rfl : m = [] := List.eq_nil_of_length_eq_zero (by omega)
    rw [sha_Sum_c1_eq, if_neg (by simp)]
    exact sum_c2 x.l 5 0 [] rfl rfl
  | k + 1, x, m, hl, hB => by
    rw [sha_Sum_c1_eq, if_pos (by rw [decide_eq_true_eq]; have : Int.ofNat m.length = (m.length : Int) := rfl; omega), do_spec x m (by omega) hB]
    simp only [Option.bind_some]
    rw [gd_pos (by omega), gd_pos (by simp; omega)]
    exact sum_c1 k _ (m.drop 64) (by simp; omega) (hB.drop 64)
theorem of_c1 (x0 m : List Int) (K : Nat) (hm : m.length = 64 * K) (hK : K ≤ 100000) : ∀ (k t : Nat) (x : S5), t + k = K → bitloftref01_Of_c1 (64 * (t : Int)) x0 m x.l = some (outs (blks k x (m.drop (64 * t))).l 0 20)
  | 0, t, x, e => by
    have hl : Int.ofNat m.length = (64 * K : Nat) := by rw [hm]; rfl
    rw [bitloftref01_Of_c1_eq, hl, if_neg (by simp; omega)]
    exact of_c2 x0 x.l 20 0 [] rfl rfl
  | k + 1, t, x, e => by
    have hl : Int.ofNat m.length = (64 * K : Nat) := by rw [hm]; rfl
    rw [bitloftref01_Of_c1_eq, hl, if_pos (by simp; omega), w64 (by omega) (by omega)]
    repeat rw [gd_pos (by omega)]
    rw [show (64 * (t : Int) + 64).toNat - (64 * (t : Int)).toNat = 64 by omega, show 0 + (64 * (t : Int)).toNat = 64 * t by omega, Done_spec x _ (by simp; omega)]
    simp only [Option.bind_some]
    have ih := of_c1 x0 m K hm hK k (t + 1) (blk x ((m.drop (64 * t)).take 64)) (by omega)
    rw [show 64 * ((t + 1 : Nat) : Int) = 64 * (t : Int) + 64 by omega] at ih
    rw [ih]
    simp only [blks, List.drop_drop]
    rw [show 64 * (t + 1) = 64 * t + 64 by omega]
def iv : S5 := ⟨1732584193, 4023233417, 2562383102, 271733878, 3285377520⟩
def shaB (a : List Int) : List Int := outs (blks ((a ++ padB a.length).length / 64) iv (a ++ padB a.length)).l 0 20
theorem shaB_len (a : List Int) : (shaB a).length = 20 := outs_len _ _ _
theorem shaB_bts (a : List Int) : Bts (shaB a) := outs_bts _ _ _
theorem Of_spec (a : List Int) (h : a.length ≤ 1000000) : bitloftref01_Of a = some (shaB a) := by
  have hp := padB_len (a.length : Int) (by omega)
  have ha : Int.ofNat a.length = (a.length : Int) := rfl
  rw [bitloftref01_Of_eq, gd_pos (by simp; omega), ha, padding_spec _ ⟨by omega, by omega⟩]
  simp only [Option.bind_some, bitloftref01_First_eq, List.nil_append]
  rw [gd_pos (by simp; omega)]
  have hm : (a ++ padB a.length).length = 64 * ((a ++ padB a.length).length / 64) := by
    simp only [List.length_append]; omega
  exact of_c1 (List.replicate 20 0) (a ++ padB a.length) _ hm (by simp only [List.length_append]; omega) _ 0 iv (by omega)
theorem Sum_spec (a : List Int) (hB : Bts a) : sha_Sum a = some (if a.length ≤ 20000 then (shaB a, 0) else (List.replicate 20 0, 4)) := by
  have ha : Int.ofNat a.length = (a.length : Int) := rfl
  rw [sha_Sum_eq, ha]
  by_cases h : a.length ≤ 20000
  · have hp := padB_len (a.length : Int) (by omega)
    rw [if_neg (by simp; omega), if_pos h, sha_pad_spec _ (by omega)]
    simp only [Option.bind_some]
    rw [concat_two _ _ (by omega)]
    simp only [Option.bind_some]
    have hm : (a ++ padB a.length).length = 64 * ((a ++ padB a.length).length / 64) := by
      simp only [List.length_append]; omega
    exact sum_c1 _ iv (a ++ padB a.length) hm (hB.append (padB_bts _))
  · rw [if_pos (by simp; omega), if_neg h]
end Go.Ab

/-
  Headers and blocks, for the laws of chapter 27 (from PureB to PureB5, turned to the text that is printed with the codec).
-/
set_option linter.unusedVariables false
set_option linter.unusedSimpArgs false
set_option maxHeartbeats 1000000
namespace Go.Ab
attribute [local irreducible] IntKind.wrap
def hOK (h : D_api_BlockHead) : Prop := 0 ≤ h.2.1 ∧ h.2.1 < 16 ∧ 1 ≤ h.2.2.2.1 ∧ h.2.2.2.1 ≤ 4096 ∧ 0 ≤ h.2.2.1 ∧ h.2.2.1 + h.2.2.2.1 ≤ 8192 ∧ ((h.1 = 1 ∧ h.2.2.2.2.1 = h.2.2.2.1) ∨ (h.1 = 2 ∧ 0 < h.2.2.2.2.1 ∧ h.2.2.2.2.1 < h.2.2.2.1))
instance (h : D_api_BlockHead) : Decidable (hOK h) := by unfold hOK; infer_instance
def hC (h : D_api_BlockHead) : Int := if hOK h then 0 else 8
theorem header_Check_spec (h : D_api_BlockHead) : header_Check h = some (hC h) := by
  rw [header_Check_eq]
  obtain ⟨m, mem, off, raw, len, sum, u⟩ := h
  simp only [hC, decide_eq_true_eq, beq_iff_eq]
  by_cases hr : 1 ≤ raw ∧ raw ≤ 4096
  · rw [w64 (by omega) (by omega)]
    by_cases ok : hOK (m, mem, off, raw, len, sum, u)
    · rw [if_pos ok]; simp only [hOK] at ok
      rw [if_neg (by omega), if_neg (by omega), if_neg (by omega), if_neg (by omega), if_neg (by omega), if_neg (by omega)]
      rcases ok.2.2.2.2.2.2 with ⟨h1, h2⟩ | ⟨h1, h2, h3⟩
      · rw [if_pos h1, if_pos h2, if_pos h2]
      · rw [if_neg (by omega), if_pos h1, if_pos h2, if_pos h3]
    · rw [if_neg ok]; simp only [hOK] at ok
      by_cases h1 : mem < 0
      · rw [if_pos h1]
      by_cases h2 : mem ≥ 16
      · rw [if_neg h1, if_pos h2, if_pos h2]
      by_cases h3 : off < 0
      · rw [if_neg h1, if_neg h2, if_neg (by omega), if_neg (by omega), if_pos h3]
      by_cases h4 : off > 8192 - raw
      · rw [if_neg h1, if_neg h2, if_neg (by omega), if_neg (by omega), if_neg h3, if_pos h4]
      rw [if_neg h1, if_neg h2, if_neg (by omega), if_neg (by omega), if_neg h3, if_neg h4]
      by_cases h5 : m = 1
      · rw [if_pos h5, if_neg (by omega), if_neg (by omega)]
      by_cases h6 : m = 2
      · rw [if_neg h5, if_pos h6]
        by_cases h7 : len > 0
        · rw [if_pos h7, if_neg (by omega)]
        · rw [if_neg h7]
      · rw [if_neg h5, if_neg h6]
  · rw [if_neg (show ¬ hOK (m, mem, off, raw, len, sum, u) from fun ok => hr (by simp only [hOK] at ok; omega))]
    by_cases h1 : mem < 0
    · rw [if_pos h1]
    by_cases h2 : mem ≥ 16
    · rw [if_neg h1, if_pos h2, if_pos h2]
    by_cases h3 : raw < 1
    · rw [if_neg h1, if_neg h2, if_pos h3]
    · rw [if_neg h1, if_neg h2, if_neg h3, if_pos (by omega), if_pos (by omega)]
def bC (b : D_api_Block) : Int := if hOK b.1 ∧ (b.2.1.length : Int) = b.1.2.2.2.2.1 then 0 else 8
theorem hC_ne (h : D_api_BlockHead) : (hC h != 0) = true ↔ ¬ hOK h := by
  unfold hC; split <;> simp_all
theorem block_Check_spec (b : D_api_Block) : block_Check b = some (bC b) := by
  rw [block_Check_eq, header_Check_spec]
  simp only [Option.bind_some, hC_ne]
  simp only [bC, bne_iff_ne, ne_eq, Int.ofNat_eq_natCast]
  by_cases h1 : hOK b.1 <;> by_cases h2 : (b.2.1.length : Int) = b.1.2.2.2.2.1 <;> simp [h1, h2]
def fr8 (h : D_api_BlockHead) : List Int := [h.1 % 256, h.2.1 % 256, (h.2.2.1 / 256) % 256, h.2.2.1 % 256, (h.2.2.2.1 / 256) % 256, h.2.2.2.1 % 256, (h.2.2.2.2.1 / 256) % 256, h.2.2.2.2.1 % 256]
theorem shr0 (a : Int) : shrBy .i64 a 0 = a := by rw [shr_i64 _ _ (by omega) (by omega)]; simp
theorem shr8 (a : Int) : shrBy .i64 a 8 = a / 256 := by rw [shr_i64 _ _ (by omega) (by omega)]; rfl
theorem wlit (n : Int) (h : -9223372036854775808 ≤ n ∧ n ≤ 9223372036854775807) : IntKind.wrap .i64 n = n := w64 h.1 h.2
theorem front_one (v18 : List Int) (v19 : Int) (h8 : List Int) (v : Int) (h0 : 0 ≤ v19) (h4 : v19 < 5) (hw : G_widths.getD v19.toNat 0 = 1) (hv : v18.getD v19.toNat 0 = v) (hl : h8.length ≤ 100) :
    header_front_c1 v18 v19 h8 = header_front_c1 v18 (v19 + 1) (h8 ++ [v % 256]) := by
  rw [header_front_c1_eq, if_pos (by simpa using h4), gd_pos h0, gd_pos h4, gd_pos h0, gd_pos h4, hw, hv]
  rw [header_front_c2_eq, if_pos (by decide), gd_pos h0, gd_pos h4, hw]
  rw [wlit ((1:Int) - 1) (by omega), wlit ((1:Int) - 1 - 0) (by omega), wlit ((8:Int) * (1 - 1 - 0)) (by omega), wlit ((0:Int)+1) (by omega)]
  rw [gd_pos (by omega), gd_pos (by simp; omega)]
  rw [header_front_c2_eq, if_neg (by decide), w64 (x := v19 + 1) (by omega) (by omega), wu8]
  rw [show (8 * (1 - 1 - 0) : Int) = 0 by decide, shr0]
theorem front_two (v18 : List Int) (v19 : Int) (h8 : List Int) (v : Int) (h0 : 0 ≤ v19) (h4 : v19 < 5) (hw : G_widths.getD v19.toNat 0 = 2) (hv : v18.getD v19.toNat 0 = v) (hl : h8.length ≤ 100) :
    header_front_c1 v18 v19 h8 = header_front_c1 v18 (v19 + 1) (h8 ++ [(v / 256) % 256, v % 256]) := by
  rw [header_front_c1_eq, if_pos (by simpa using h4), gd_pos h0, gd_pos h4, gd_pos h0, gd_pos h4, hw, hv]
  rw [header_front_c2_eq, if_pos (by decide), gd_pos h0, gd_pos h4, hw]
  rw [wlit ((2:Int) - 1) (by omega), wlit ((2:Int) - 1 - 0) (by omega), wlit ((8:Int) * (2 - 1 - 0)) (by omega), wlit ((0:Int)+1) (by omega)]
  rw [gd_pos (by omega), gd_pos (by simp; omega)]
  rw [header_front_c2_eq, if_pos (by decide), gd_pos h0, gd_pos h4, hw]
  rw [wlit ((2:Int) - 1) (by omega), wlit ((2:Int) - 1 - (0 + 1)) (by omega), wlit ((8:Int) * (2 - 1 - (0 + 1))) (by omega), wlit ((0:Int)+1+1) (by omega)]
  rw [gd_pos (by omega), gd_pos (by simp; omega)]
  rw [header_front_c2_eq, if_neg (by decide), w64 (x := v19 + 1) (by omega) (by omega), wu8, wu8]
  rw [show (8 * (2 - 1 - 0) : Int) = 8 by decide, show (8 * (2 - 1 - (0 + 1)) : Int) = 0 by decide, shr0, shr8]
  simp
theorem header_front_spec (h : D_api_BlockHead) (hm : 0 ≤ h.1 ∧ h.1 < 256) : header_front h = some (fr8 h) := by
  rw [header_front_eq, w64 (by omega) (by omega)]
  simp only [List.replicate, List.set_cons_zero, List.set_cons_succ]
  rw [front_one _ 0 _ h.1 (by decide) (by decide) (by decide) rfl (by decide)]
  rw [front_one _ (0+1) _ h.2.1 (by decide) (by decide) (by decide) rfl (by simp)]
  rw [front_two _ (0+1+1) _ h.2.2.1 (by decide) (by decide) (by decide) rfl (by simp)]
  rw [front_two _ (0+1+1+1) _ h.2.2.2.1 (by decide) (by decide) (by decide) rfl (by simp)]
  rw [front_two _ (0+1+1+1+1) _ h.2.2.2.2.1 (by decide) (by decide) (by decide) rfl (by simp)]
  rw [header_front_c1_eq, if_neg (by decide)]
  simp [fr8]
theorem ref26_Front_spec (h : D_api_BlockHead) (hm : 0 ≤ h.1 ∧ h.1 < 256) : bitloftref26_Front h = some (fr8 h) := by
  rw [bitloftref26_Front_eq]
  simp only [bitloftref26_two_eq, wu8, fdiv_pos _ (show (0:Int) < 256 by decide)]
  rw [gd_pos (by decide)]
  simp only [Option.bind_some]
  rw [gd_pos (by simp), gd_pos (by decide)]
  simp only [Option.bind_some]
  rw [gd_pos (by simp), gd_pos (by decide)]
  simp only [Option.bind_some]
  rw [gd_pos (by simp)]
  simp only [fr8, List.cons_append, List.nil_append]
  rw [Int.emod_eq_of_lt hm.1 hm.2]
def mark : List Int := [183, 98, 105, 116, 108, 111, 102, 116, 32, 98, 108, 107, 10]
theorem marker_Bytes_spec : marker_Bytes = some mark := by rw [marker_Bytes_eq, gd_pos (by decide)]; rfl
theorem ref25_Bytes_spec : bitloftref25_Bytes = some mark := by rw [bitloftref25_Bytes_eq]; rfl
def hB (h : D_api_BlockHead) : List Int := fr8 h ++ h.2.2.2.2.2.1
theorem fr8_len (h : D_api_BlockHead) : (fr8 h).length = 8 := rfl
def bB (b : D_api_Block) : List Int := mark ++ hB b.1 ++ b.2.1
def bWf (b : D_api_Block) : Prop := (0 ≤ b.1.1 ∧ b.1.1 < 256) ∧ b.1.2.2.2.2.2.1.length = 20
theorem or_shift (a b : Nat) (ha : a < 4294967296) (hb : b < 256) : bitsOr .i64 ((a : Int) * 256) (b : Int) = (a : Int) * 256 + b := by
  unfold bitsOr
  have h1 : BitVec.ofInt 64 ((a : Int) * 256) = BitVec.ofNat 64 (a * 256) := by
    rw [show (a : Int) * 256 = ((a * 256 : Nat) : Int) by omega]; exact BitVec.ofInt_natCast _ _
  have h2 : BitVec.ofInt 64 (b : Int) = BitVec.ofNat 64 b := BitVec.ofInt_natCast _ _
  show IntKind.wrap .i64 ((BitVec.ofInt 64 ((a : Int) * 256) ||| BitVec.ofInt 64 (b : Int)).toNat : Int) = _
  rw [h1, h2, BitVec.toNat_or, BitVec.toNat_ofNat, BitVec.toNat_ofNat, Nat.mod_eq_of_lt (by omega), Nat.mod_eq_of_lt (by omega)]
  have h3 := Nat.two_pow_add_eq_or_of_lt (i := 8) (b := b) (by omega) a
  rw [show a * 256 = 2 ^ 8 * a by omega, ← h3, w64 (by omega) (by omega)]
  omega
theorem or_byteK {x y : Int} (hx : 0 ≤ x ∧ x < 4294967296) (hy : 0 ≤ y ∧ y < 256) : bitsOr .i64 (x * 256) y = x * 256 + y := by
  obtain ⟨a, rfl⟩ := Int.eq_ofNat_of_zero_le hx.1
  obtain ⟨b, rfl⟩ := Int.eq_ofNat_of_zero_le hy.1
  exact or_shift a b (by omega) (by omega)
theorem getD_setK {α : Type} (xs : List α) (i : Nat) (x d : α) (h : i < xs.length) : (xs.set i x).getD i d = x := by
  simp [List.getD, h]
theorem Bts.getD {xs : List Int} (h : Bts xs) (i : Nat) : 0 ≤ xs.getD i 0 ∧ xs.getD i 0 < 256 := by
  by_cases hi : i < xs.length
  · simp only [List.getD_eq_getElem?_getD, List.getElem?_eq_getElem hi, Option.getD_some]; exact h _ (List.getElem_mem hi)
  · simp [List.getD_eq_getElem?_getD, List.getElem?_eq_none (by omega : xs.length ≤ i)]
theorem parse_step (v0 : List Int) (v5 v17 v18 : Int) (b8 : D_api_BlockHead) (b9 : List Int) (h0 : 0 ≤ v5) (h5 : v5 < 5) (hlt : v18 < v17) (h18 : 0 ≤ v18) (h17 : v17 ≤ 2) (hb : Bts v0) (hl : 0 < v0.length) (hx : 0 ≤ b9.getD v5.toNat 0 ∧ b9.getD v5.toNat 0 < 256) :
    header_Parse_c2 v0 v5 G_widths v5 v17 v18 b8 b9 = header_Parse_c2 (v0.drop 1) v5 G_widths v5 v17 (v18 + 1) b8 (b9.set v5.toNat (b9.getD v5.toNat 0 * 256 + v0.getD 0 0)) := by
  have hy := hb.getD 0
  rw [header_Parse_c2_eq, if_pos (by simpa using hlt)]
  rw [gd_pos h0, gd_pos h5, gd_pos (by decide), gd_pos (by decide), gd_pos (by simp only [Int.ofNat_eq_natCast]; omega), gd_pos h0, gd_pos h5, gd_pos (by decide), gd_pos (by simp only [Int.ofNat_eq_natCast]; omega)]
  rw [w64 (x := v18 + 1) (by omega) (by omega), w64 (x := b9.getD v5.toNat 0 * 256) (by omega) (by omega), w64 (x := v0.getD 0 0) (by omega) (by omega), or_byteK ⟨hx.1, by omega⟩ hy]
theorem parse_one (v0 : List Int) (v5 : Int) (b8 : D_api_BlockHead) (b9 : List Int) (h0 : 0 ≤ v5) (h5 : v5 < 5) (hw : G_widths.getD v5.toNat 0 = 1) (hb : Bts v0) (hl : 0 < v0.length) (hx : b9.getD v5.toNat 0 = 0) (hn : b9.length = 5) :
    header_Parse_c1 v0 G_widths v5 b8 b9 = header_Parse_c1 (v0.drop 1) G_widths (v5 + 1) b8 (b9.set v5.toNat (v0.getD 0 0)) := by
  rw [header_Parse_c1_eq, if_pos (by simpa using h5), gd_pos h0, gd_pos h5, hw, parse_step v0 v5 1 0 b8 b9 h0 h5 (by decide) (by decide) (by decide) hb hl (by rw [hx]; decide)]
  rw [header_Parse_c2_eq, if_neg (by decide), w64 (x := v5 + 1) (by omega) (by omega), hx, Int.zero_mul, Int.zero_add]
theorem parse_two (v0 : List Int) (v5 : Int) (b8 : D_api_BlockHead) (b9 : List Int) (h0 : 0 ≤ v5) (h5 : v5 < 5) (hw : G_widths.getD v5.toNat 0 = 2) (hb : Bts v0) (hl : 1 < v0.length) (hx : b9.getD v5.toNat 0 = 0) (hn : b9.length = 5) :
    header_Parse_c1 v0 G_widths v5 b8 b9 = header_Parse_c1 (v0.drop 2) G_widths (v5 + 1) b8 (b9.set v5.toNat (v0.getD 0 0 * 256 + v0.getD 1 0)) := by
  have hy := hb.getD 0
  have hi : v5.toNat < b9.length := by omega
  have hg : (v0.drop 1).getD 0 0 = v0.getD 1 0 := by simp [List.getD_eq_getElem?_getD]
  rw [header_Parse_c1_eq, if_pos (by simpa using h5), gd_pos h0, gd_pos h5, hw, parse_step v0 v5 2 0 b8 b9 h0 h5 (by decide) (by decide) (by decide) hb (by omega) (by rw [hx]; decide)]
  rw [hx, Int.zero_mul, Int.zero_add (v0.getD 0 0)]
  rw [parse_step (v0.drop 1) v5 2 (0 + 1) b8 _ h0 h5 (by decide) (by decide) (by decide) (hb.drop 1) (by simp; omega) (by rw [getD_setK _ _ _ _ hi]; exact hy)]
  rw [header_Parse_c2_eq, if_neg (by decide), w64 (x := v5 + 1) (by omega) (by omega), getD_setK _ _ _ _ hi, List.set_set, List.drop_drop, hg]
def zH : D_api_BlockHead := (0, (0, (0, (0, (0, (List.replicate 20 0, ()))))))
def pH (a : List Int) : D_api_BlockHead := (a.getD 0 0, (a.getD 1 0, (a.getD 2 0 * 256 + a.getD 3 0, (a.getD 4 0 * 256 + a.getD 5 0, (a.getD 6 0 * 256 + a.getD 7 0, (a.drop 8, ()))))))
def pP (a : List Int) : D_api_BlockHead × Int := if a.length = 28 ∧ hOK (pH a) then (pH a, 0) else (zH, 12)
theorem drop_getD (a : List Int) (k i : Nat) : (a.drop k).getD i 0 = a.getD (k + i) 0 := by simp [List.getD_eq_getElem?_getD]
theorem header_Parse_spec (a : List Int) (hb : Bts a) : header_Parse a = some (pP a) := by
  rw [header_Parse_eq]
  by_cases hl : a.length = 28
  · rw [if_neg (by simp [hl])]
    have hrep : (List.replicate 5 (0:Int)) = [0,0,0,0,0] := rfl
    rw [hrep]
    rw [parse_one a 0 _ _ (by decide) (by decide) (by decide) hb (by omega) (by decide) (by decide)]
    rw [parse_one (a.drop 1) (0+1) _ _ (by decide) (by decide) (by decide) (hb.drop 1) (by simp; omega) (by simp) (by simp)]
    rw [parse_two _ (0+1+1) _ _ (by decide) (by decide) (by decide) ((hb.drop 1).drop 1) (by simp; omega) (by simp) (by simp)]
    rw [parse_two _ (0+1+1+1) _ _ (by decide) (by decide) (by decide) (((hb.drop 1).drop 1).drop 2) (by simp; omega) (by simp) (by simp)]
    rw [parse_two _ (0+1+1+1+1) _ _ (by decide) (by decide) (by decide) ((((hb.drop 1).drop 1).drop 2).drop 2) (by simp; omega) (by simp) (by simp)]
    rw [header_Parse_c1_eq, if_neg (by decide)]
    iterate 10 rw [gd_pos (by decide)]
    simp only [List.drop_drop, drop_getD]
    have h0 := hb.getD 0
    have hsp : splice (List.replicate 20 (0:Int)) 0 (List.take (min (List.drop (1 + 1 + 2 + 2 + 2) a).length 20) (List.drop (1 + 1 + 2 + 2 + 2) a)) = a.drop 8 := by
      have hln : (a.drop 8).length = 20 := by simp [hl]
      show splice (List.replicate 20 (0:Int)) 0 (List.take (min (a.drop 8).length 20) (a.drop 8)) = a.drop 8
      rw [hln, List.take_of_length_le (by omega)]
      unfold splice
      simp [hl]
    rw [hsp]
    have e0 : (([0,0,0,0,0] : List Int).set (Int.toNat 0) (a.getD 0 0) |>.set (Int.toNat (0+1)) (a.getD (1+0) 0) |>.set (Int.toNat (0+1+1)) (a.getD (1+1+0) 0 * 256 + a.getD (1+1+1) 0) |>.set (Int.toNat (0+1+1+1)) (a.getD (1+1+2+0) 0 * 256 + a.getD (1+1+2+1) 0) |>.set (Int.toNat (0+1+1+1+1)) (a.getD (1+1+2+2+0) 0 * 256 + a.getD (1+1+2+2+1) 0)) = [a.getD 0 0, a.getD 1 0, a.getD 2 0 * 256 + a.getD 3 0, a.getD 4 0 * 256 + a.getD 5 0, a.getD 6 0 * 256 + a.getD 7 0] := rfl
    rw [e0]
    simp only [List.getD_cons_zero, List.getD_cons_succ, wu8, Int.emod_eq_of_lt h0.1 h0.2]
    rw [header_Check_spec]
    show (some (hC (pH a))).bind _ = _
    simp only [Option.bind_some, hC_ne]
    unfold pP
    by_cases ok : hOK (pH a)
    · rw [if_neg (by simpa using ok), if_pos ⟨hl, ok⟩]; rfl
    · rw [if_pos ok, if_neg (fun h => ok h.2)]; rfl
  · rw [if_pos (by simp; omega)]
    unfold pP
    rw [if_neg (fun h => hl h.1)]; rfl
theorem mark_bts : Bts mark := by
  intro x hx
  simp [mark] at hx
  omega
theorem mark_len : mark.length = 13 := rfl
theorem marker_At_spec (a : List Int) (hb : Bts a) (h1 : 41 ≤ a.length) (h2 : a.length ≤ 50000) : marker_At a 0 = some (decide (a.take 13 = mark), 0) := by
  rw [marker_At_eq, marker_check_eq, if_neg (by simp; omega), if_neg (by decide), if_neg (by simp)]
  simp only [Option.bind_some]
  rw [if_neg (by decide), gd_pos (by decide), gd_pos (by simp), marker_Bytes_spec]
  simp only [Option.bind_some]
  rw [bytes_HasPrefix_eq, if_pos (by simp [mark_len]; omega), gd_pos (by simp), gd_pos (by simp [mark_len]; omega), bytes_Equal_eq]
  simp only [Option.bind_some]
  rw [eqStr ((hb.drop _).take _) mark_bts]
  rfl
def rdK (a : List Int) : D_api_Block × Int × Int :=
  if a.length > 50000 then ((zH, ([], ())), (0, 4)) else if a.length < 41 then ((zH, ([], ())), (0, 18))
  else if a.take 13 ≠ mark ∨ ¬ hOK (pH ((a.drop 13).take 28)) then ((zH, ([], ())), (0, 12))
  else if (a.length : Int) < 41 + (pH ((a.drop 13).take 28)).2.2.2.2.1 then ((zH, ([], ())), (0, 18))
  else ((pH ((a.drop 13).take 28), ((a.drop 41).take (pH ((a.drop 13).take 28)).2.2.2.2.1.toNat, ())), (41 + (pH ((a.drop 13).take 28)).2.2.2.2.1, 0))
theorem hOK_len {h : D_api_BlockHead} (ok : hOK h) : 1 ≤ h.2.2.2.2.1 ∧ h.2.2.2.2.1 ≤ 4096 := by unfold hOK at ok; omega
theorem pP_eq (a : List Int) (h : 41 ≤ a.length) : pP ((a.drop 13).take 28) = if hOK (pH ((a.drop 13).take 28)) then (pH ((a.drop 13).take 28), 0) else (zH, 12) := by
  have hl : ((a.drop 13).take 28).length = 28 := by simp; omega
  unfold pP
  simp only [hl, true_and]
theorem block_Read_spec (a : List Int) (hb : Bts a) : block_Read a = some (rdK a) := by
  rw [block_Read_eq]
  unfold rdK
  by_cases h1 : a.length > 50000
  · rw [if_pos (by simp; omega), if_pos h1]; rfl
  rw [if_neg (by simp; omega), if_neg h1]
  by_cases h2 : a.length < 41
  · rw [if_pos (by simp; omega), if_pos h2]; rfl
  rw [if_neg (by simp; omega), if_neg h2, gd_pos (by decide), gd_pos (by decide), gd_pos (by simp only [Int.ofNat_eq_natCast]; omega), header_Parse_spec _ ((hb.drop _).take _), pP_eq a (by omega), marker_At_spec a hb (by omega) (by omega)]
  simp only [Option.bind_some]
  by_cases h3 : a.take 13 = mark
  · by_cases ok : hOK (pH ((a.drop 13).take 28))
    · have hlen := hOK_len ok
      rw [if_pos ok, if_neg (by simp [h3]), if_neg (by simp), if_neg (show ¬ (a.take 13 ≠ mark ∨ ¬ hOK (pH ((a.drop 13).take 28))) from fun h => h.elim (fun h => h h3) (fun h => h ok))]
      generalize pH ((a.drop 13).take 28) = h at ok hlen ⊢
      simp only
      rw [w64 (x := 41 + h.2.2.2.2.1) (by omega) (by omega)]
      by_cases h4 : (a.length : Int) < 41 + h.2.2.2.2.1
      · rw [if_pos (by simpa using h4), if_pos h4]; rfl
      · rw [if_neg (by simpa using h4), if_neg h4, gd_pos (by decide), gd_pos (by omega), gd_pos (by simp only [Int.ofNat_eq_natCast]; omega), bytes_Clone_T _ (by simp; omega)]
        have e : Int.toNat (41 + h.2.2.2.2.1) - 41 = h.2.2.2.2.1.toNat := by omega
        simp only [Option.bind_some, e]
    · rw [if_neg ok, if_neg (by simp [h3]), if_pos (by simp), if_pos (show (a.take 13 ≠ mark ∨ ¬ hOK (pH ((a.drop 13).take 28))) from .inr ok)]; rfl
  · rw [if_pos (by simp [h3]), if_pos (show (a.take 13 ≠ mark ∨ ¬ hOK (pH ((a.drop 13).take 28))) from .inl h3)]; rfl
end Go.Ab

/-
  Chapter 27: sealed headers, Make, and the block that every law begins with.
-/
set_option linter.unusedVariables false
set_option linter.unusedSimpArgs false
set_option maxRecDepth 10000
namespace Go.Ab
open Go
attribute [local irreducible] IntKind.wrap
theorem fr8_bts (h : D_api_BlockHead) : Bts (fr8 h) := by
  intro x hx
  simp only [fr8, List.mem_cons, List.not_mem_nil, or_false] at hx
  omega
theorem header_digest_spec (h : D_api_BlockHead) (hm : 0 ≤ h.1 ∧ h.1 < 256) (raw : List Int) (hb : Bts raw) (hl : raw.length ≤ 19000) : header_digest h raw = some (shaB (fr8 h ++ raw)) := by
  rw [header_digest_eq, header_front_spec h hm, Option.bind_some]
  have hL : (fr8 h ++ raw).length = raw.length + 8 := by rw [List.length_append, fr8_len]; omega
  rw [gd_pos (by rw [hL]; omega), Sum_spec _ (Bts.append (fr8_bts h) hb), if_pos (by rw [hL]; omega), Option.bind_some]
def sealed (m a1 a2 raw len : Int) (z : List Int) : D_api_BlockHead := (m, (a1, (a2, (raw, (len, (shaB (fr8 (m, (a1, (a2, (raw, (len, (List.replicate 20 0, ())))))) ++ z), ()))))))
def storedB (a1 a2 : Int) (z : List Int) : D_api_Block := (sealed 1 a1 a2 z.length z.length z, (z, ()))
def mOK (a1 a2 : Int) (z : List Int) : Prop := 0 ≤ a1 ∧ a1 < 16 ∧ 1 ≤ z.length ∧ z.length ≤ 4096 ∧ 0 ≤ a2 ∧ a2 + z.length ≤ 8192
instance (a1 a2 : Int) (z : List Int) : Decidable (mOK a1 a2 z) := by unfold mOK; infer_instance
theorem mOK_stored {a1 a2 : Int} {z : List Int} (h : mOK a1 a2 z) (s : List Int) : hOK (1, (a1, (a2, ((z.length : Int), ((z.length : Int), (s, ())))))) := by
  unfold mOK at h
  exact ⟨h.1, h.2.1, by simp only; omega, by simp only; omega, h.2.2.2.2.1, h.2.2.2.2.2, Or.inl ⟨rfl, rfl⟩⟩
theorem isLevel_spec (l : Int) : block_isLevel l = some (decide (0 ≤ l ∧ l ≤ 7)) := by
  rw [block_isLevel_eq]
  by_cases h : 0 ≤ l
  · rw [if_pos (by simpa using h)]
    exact congrArg some (by simp [h])
  · rw [if_neg (by simpa using h)]
    exact congrArg some (by simp [h])
theorem stored_bC {a1 a2 : Int} {z : List Int} (hm : mOK a1 a2 z) : bC (storedB a1 a2 z) = 0 := if_pos ⟨mOK_stored hm _, rfl⟩
theorem stored_bWf (a1 a2 : Int) (z : List Int) : bWf (storedB a1 a2 z) := ⟨⟨by show (0:Int) ≤ 1; decide, by show (1:Int) < 256; decide⟩, shaB_len _⟩
theorem pH_byte {x : List Int} (hb : Bts x) : 0 ≤ (pH x).1 ∧ (pH x).1 < 256 := Bts.getD hb 0
end Go.Ab

/-
  Chapter 27: limits and errors.
-/
set_option linter.unusedVariables false
set_option linter.unusedSimpArgs false
set_option maxRecDepth 10000
namespace Go.Ab
open Go
attribute [local irreducible] IntKind.wrap
theorem peqL_true {xs ys : List Int} : peqL (peq (.int .u8)) xs ys = true → xs = ys := by
  intro h
  induction xs generalizing ys with
  | nil => cases ys with
    | nil => rfl
    | cons y ys => exact absurd h (by simp [peqL])
  | cons x xs ih => cases ys with
    | nil => exact absurd h (by simp [peqL])
    | cons y ys =>
      rw [peqL, Bool.and_eq_true] at h
      have h1 : x = y := by have := h.1; rw [peq] at this; exact of_decide_eq_true this
      rw [h1, ih h.2]
theorem peqL_eqv (xs ys : List Int) : peqL (peq (.int .u8)) xs ys = decide (xs = ys) := by
  by_cases h : xs = ys
  · subst h
    rw [decide_eq_true rfl]
    exact peqL_same (fun x => by rw [peq]; exact decide_eq_true rfl) _
  · rw [decide_eq_false h]
    cases hq : peqL (peq (.int .u8)) xs ys with
    | false => rfl
    | true => exact absurd (peqL_true hq) h
theorem header_Right_T {h : D_api_BlockHead} (ok : hOK h) (hm : 0 ≤ h.1 ∧ h.1 < 256) {z : List Int} (hb : Bts z) (hl : (z.length : Int) = h.2.2.2.1) : header_Right h z = some (decide (shaB (fr8 h ++ z) = h.2.2.2.2.2.1), 0) := by
  have hz : z.length ≤ 4096 := by unfold hOK at ok; omega
  have hc : hC h = 0 := if_pos ok
  rw [header_Right_eq]
  refine Tot.eq (Tot.be (header_Check_spec h) (Tot.ifne_neg hc (Tot.ifeq_pos hl (Tot.be (header_digest_spec h hm z hb (by omega)) (Tot.so ?_)))))
  rw [peq, peqL_eqv]
theorem Raw_stored {l : Int} {b : D_api_Block} (hl : 0 ≤ l ∧ l ≤ 7) (h1 : b.1.1 = 1) (hc : bC b = 0) (hb : Bts b.2.1) : block_Raw l b = some (if shaB (fr8 b.1 ++ b.2.1) = b.1.2.2.2.2.2.1 then (b.2.1, 0) else ([], 22)) := by
  have ok : hOK b.1 ∧ (b.2.1.length : Int) = b.1.2.2.2.2.1 := by
    unfold bC at hc; split at hc
    · assumption
    · cases hc
  have hlen : b.1.2.2.2.2.1 = b.1.2.2.2.1 := by
    rcases ok.1.2.2.2.2.2.2 with h | h
    · exact h.2
    · omega
  have hz : b.2.1.length ≤ 4096 := by have := ok.1.2.2.2.1; omega
  rw [block_Raw_eq]
  refine Tot.eq (Tot.be (block_Check_spec b) (Tot.ifne_neg hc (Tot.be (isLevel_spec l) ?_)))
  rw [decide_eq_true hl]
  refine Tot.ifn (fun k => absurd k (by decide)) (fun _ => Tot.be (bytes_Clone_T _ (by omega)) (Tot.ifeq_neg (by omega) (Tot.be (header_Right_T ok.1 (by omega) hb (by omega)) ?_)))
  by_cases hs : shaB (fr8 b.1 ++ b.2.1) = b.1.2.2.2.2.2.1
  · rw [if_pos hs, decide_eq_true hs]
    exact Tot.ifn (fun k => absurd k (by decide)) (fun _ => Tot.so rfl)
  · rw [if_neg hs, decide_eq_false hs]
    exact Tot.ifn (fun _ => Tot.so rfl) (fun k => absurd k (by decide))
theorem zeros_bts (n : Nat) : Bts (List.replicate n 0) := fun x hx => by rw [List.eq_of_mem_replicate hx]; omega
end Go.Ab

/-
  Chapter 27: blocks that are changed.
-/
set_option linter.unusedVariables false
set_option linter.unusedSimpArgs false
set_option maxRecDepth 10000
namespace Go.Ab
open Go
attribute [local irreducible] IntKind.wrap
theorem ref26_Of_spec (h : D_api_BlockHead) (hm : 0 ≤ h.1 ∧ h.1 < 256) {z : List Int} (hl : z.length ≤ 100000) : bitloftref26_Of h z = some (shaB (fr8 h ++ z)) := by
  have hL : (fr8 h ++ z).length = z.length + 8 := by rw [List.length_append, fr8_len]; omega
  rw [bitloftref26_Of_eq]
  exact Tot.eq (Tot.be (ref26_Front_spec h hm) (Tot.g (by rw [hL]; omega) (Tot.be (Of_spec _ (by rw [hL]; omega)) (Tot.so rfl))))
end Go.Ab

/-
  The coder there and back, 1: intervals, and what is put out.
-/
set_option linter.unusedVariables false
set_option linter.unusedSimpArgs false
set_option maxRecDepth 10000
namespace Go.Ab
open Go
attribute [local irreducible] IntKind.wrap
def Shp4 (k : Nat) (a b : Int) : Prop := (0 ≤ a ∧ a ≤ b ∧ b < 4294967296) ∧ ((k = 4) ∨ (k = 3 ∧ a % 256 = 0 ∧ b % 256 = 255) ∨ (k = 2 ∧ a % 65536 = 0 ∧ b % 65536 = 65535) ∨ (k = 1 ∧ a % 16777216 = 0 ∧ b % 16777216 = 16777215) ∨ (k = 0 ∧ a = 0 ∧ b = 4294967295))
theorem Shp4.step {k : Nat} {a b : Int} (h : Shp4 (k + 1) a b) (e : a / 16777216 = b / 16777216) : Shp4 k (a * 256 % 4294967296) (b * 256 % 4294967296 + 255) := by
  obtain ⟨⟨h1, h2, h3⟩, h4⟩ := h
  refine ⟨⟨by omega, by omega, by omega⟩, ?_⟩
  rcases h4 with h | ⟨h, ha, hb⟩ | ⟨h, ha, hb⟩ | ⟨h, ha, hb⟩ | ⟨h, _⟩
  · exact Or.inr (Or.inl ⟨by omega, by omega, by omega⟩)
  · exact Or.inr (Or.inr (Or.inl ⟨by omega, by omega, by omega⟩))
  · exact Or.inr (Or.inr (Or.inr (Or.inl ⟨by omega, by omega, by omega⟩)))
  · exact Or.inr (Or.inr (Or.inr (Or.inr ⟨by omega, by omega, by omega⟩)))
  · omega
def EndsX (a b : Int) : Prop := 0 ≤ a ∧ a < b ∧ b < 4294967296 ∧ a / 16777216 ≠ b / 16777216
def at4 (c : List Int) (i : Nat) : Int := c.getD i 0 * 16777216 + c.getD (i + 1) 0 * 65536 + c.getD (i + 2) 0 * 256 + c.getD (i + 3) 0
theorem bts_getD {xs : List Int} (h : Bts xs) (i : Nat) : 0 ≤ xs.getD i 0 ∧ xs.getD i 0 < 256 :=
  getD_all' (P := fun x => 0 ≤ x ∧ x < 256) h (by omega) i
theorem at4_step {c : List Int} (h : Bts c) (i : Nat) : at4 c i * 256 % 4294967296 + c.getD (i + 4) 0 = at4 c (i + 1) ∧ at4 c i = c.getD i 0 * 16777216 + at4 c (i + 1) / 256 ∧ 0 ≤ at4 c i ∧ at4 c i < 4294967296 := by
  have h0 := bts_getD h i
  have h1 := bts_getD h (i + 1)
  have h2 := bts_getD h (i + 2)
  have h3 := bts_getD h (i + 3)
  have h4 := bts_getD h (i + 4)
  have e : at4 c (i + 1) = c.getD (i + 1) 0 * 16777216 + c.getD (i + 2) 0 * 65536 + c.getD (i + 3) 0 * 256 + c.getD (i + 4) 0 := rfl
  rw [e]
  unfold at4
  omega
def spl (a b p : Int) : Int := a + (b - a) / 4096 * p + (b - a) % 4096 * p / 4096
theorem and32u {x : Int} (h0 : 0 ≤ x) (h1 : x < 4294967296) : bitsAnd .u32 x 4095 = x % 4096 := by
  have e : bitsAnd .u32 x 4095 = ((BitVec.ofInt 32 x &&& BitVec.ofInt 32 4095).toNat : Int) := by
    show IntKind.wrap .u32 ((BitVec.ofInt 32 x &&& BitVec.ofInt 32 4095).toNat : Int) = _
    rw [wu32]
    have := (BitVec.ofInt 32 x &&& BitVec.ofInt 32 4095).isLt
    omega
  rw [e, BitVec.toNat_and, ofInt_small 32 x h0 (by omega), ofInt_small 32 4095 (by omega) (by omega)]
  have h3 : (4095 : Int).toNat = 2 ^ 12 - 1 := rfl
  rw [h3, Nat.and_two_pow_sub_one_eq_mod]
  omega
theorem spl_in {a b p : Int} (h : EndsX a b) (hp0 : 0 ≤ p) (hp1 : p ≤ 4095) : a ≤ spl a b p ∧ spl a b p < b ∧ 0 ≤ (b - a) / 4096 * p ∧ (b - a) / 4096 * p < 4294967296 ∧ 0 ≤ (b - a) % 4096 * p ∧ (b - a) % 4096 * p < 4294967296 := by
  obtain ⟨h1, h2, h3, h4⟩ := h
  unfold spl
  have q0 : 0 ≤ (b - a) / 4096 := by omega
  have r0 : 0 ≤ (b - a) % 4096 ∧ (b - a) % 4096 < 4096 := by omega
  have hd : (b - a) = (b - a) / 4096 * 4096 + (b - a) % 4096 := by omega
  have m1 : (b - a) / 4096 * p ≤ (b - a) / 4096 * 4095 := Int.mul_le_mul_of_nonneg_left hp1 q0
  have m2 : 0 ≤ (b - a) / 4096 * p := Int.mul_nonneg q0 hp0
  have m3 : (b - a) % 4096 * p ≤ (b - a) % 4096 * 4095 := Int.mul_le_mul_of_nonneg_left hp1 r0.1
  have m4 : 0 ≤ (b - a) % 4096 * p := Int.mul_nonneg r0.1 hp0
  generalize (b - a) / 4096 * p = z at *
  generalize (b - a) % 4096 * p = y at *
  generalize (b - a) / 4096 = q at *
  generalize (b - a) % 4096 = r at *
  refine ⟨by omega, by omega, m2, by omega, m4, by omega⟩
theorem split_spec {a b p : Int} (h : EndsX a b) (hp0 : 0 ≤ p) (hp1 : p ≤ 4095) : encoder_split a b p = some (spl a b p) := by
  have hs := spl_in h hp0 hp1
  obtain ⟨h1, h2, h3, h4⟩ := h
  rw [encoder_split_eq, gd_pos (by decide), gd_pos (by decide)]
  simp only [wu32, fdiv_pos _ (show (0:Int) < 4096 by decide)]
  have e1 : (b - a) % 4294967296 = b - a := by omega
  have e2 : p % 4294967296 = p := by omega
  rw [e1, e2, and32u (by omega) (by omega)]
  unfold spl at *
  generalize (b - a) / 4096 * p = z at *
  generalize (b - a) % 4096 * p = y at *
  have e3 : z % 4294967296 = z := by omega
  have e4 : y % 4294967296 = y := by omega
  rw [e3, e4]
  have e5 : (a + z) % 4294967296 = a + z := by omega
  rw [e5]
  exact congrArg some (by omega)
def bitA (t : Bool) (a b p : Int) : Int := if t = true then a else spl a b p + 1
def bitZ (t : Bool) (a b p : Int) : Int := if t = true then spl a b p else b
theorem bit_shp {t : Bool} {a b p : Int} (h : EndsX a b) (hp0 : 0 ≤ p) (hp1 : p ≤ 4095) : Shp4 4 (bitA t a b p) (bitZ t a b p) := by
  have hs := spl_in h hp0 hp1
  obtain ⟨h1, h2, h3, h4⟩ := h
  refine ⟨?_, Or.inl rfl⟩
  unfold bitA bitZ
  cases t
  · rw [if_neg (by decide), if_neg (by decide)]; omega
  · rw [if_pos rfl, if_pos rfl]; omega
end Go.Ab

/-
  The coder there and back, 2: what the predictor and the encoder go through.
-/
set_option linter.unusedVariables false
set_option linter.unusedSimpArgs false
set_option maxRecDepth 10000
namespace Go.Ab
open Go
attribute [local irreducible] IntKind.wrap
theorem final_Look_p {f : D_api_Final} (h : WfFin f) {a b st p : Int} (ha : 0 ≤ a ∧ a ≤ 255) (hb : 0 ≤ b ∧ b ≤ 255) (hs : -2047 ≤ st ∧ st ≤ 2047) (hp : 0 ≤ p ∧ p ≤ 4095) : Tot (final_Look f [a, b] st p) fun r => WfCh r.2.1 ∧ 1 ≤ r.1 ∧ r.1 ≤ 4095 := by
  rw [final_Look_eq]
  have e0 : ([a, b] : List Int).getD 0 0 = a := rfl
  have e1 : ([a, b] : List Int).getD 1 0 = b := rfl
  rw [e0, e1]
  refine Tot.be (final_Check_T h) (Tot.ifne_neg rfl (Tot.g (by decide) (Tot.g (by decide) (Tot.b (refine_Look_T h.1 ha.1 ha.2 hs.1 hs.2) (fun r hr => Tot.g (by decide) (Tot.g (by decide) (Tot.b (refine_Look_T h.2 hb.1 hb.2 hs.1 hs.2) (fun q hq => Tot.ifne_neg hr.1 (Tot.ifne_neg hq.1 (Tot.b (final_prob_T p) (fun t ht => Tot.ifn (fun k => ?_) (fun _ => ?_))))))))))))
  · rw [ht hp.1 hp.2] at k; exact absurd k (by decide)
  · refine Tot.b (P := fun z => 1 ≤ z ∧ z ≤ 4095) ?_ (fun z hz => Tot.so ⟨⟨a, b, r.2.1, q.2.1, rfl, rfl, ha.1, ha.2, hb.1, hb.2, hr.2.1, hr.2.2, hq.2.1, hq.2.2⟩, hz⟩)
    rw [final_join_eq]
    refine Tot.g (by decide) (Tot.g (by decide) (Tot.g (by decide) (Tot.so ?_)))
    split <;> split at * <;> omega
theorem see_c1_p {l N : Int} {p : D_api_Predictor} (h : WfP l N p) (b9a : Int) (b9 b10 : (Int × (Int × (D_api_Chosen × Unit)))) {nd : Int} (hn : 1 ≤ nd ∧ nd ≤ 15) (h11 h12 : List Int) : ∀ i : Int, 0 ≤ i → i ≤ 6 → ∀ (h13 h14 : List Int), (h13.length = i.toNat ∧ ∀ x ∈ h13, 0 ≤ x ∧ x ≤ 192) → (h14.length = i.toNat ∧ ∀ x ∈ h14, -2047 ≤ x ∧ x ≤ 2047) →
    Tot (predict_see_c1 p.2.2.1 6 i p b9a b9 nd b10 h11 h12 h13 h14) fun s => WfSeen s ∧ 1 ≤ s.2.2.2.2.1 ∧ s.2.2.2.2.1 ≤ 4095 := by
  obtain ⟨h1, h2, h3, h4, h5, h6⟩ := h
  have hl3 := h3.1
  have hl4 := h4.1
  have hw := h5.2.2.2.2.1
  intro i
  refine up_ind (P := fun i => 0 ≤ i → i ≤ 6 → ∀ (h13 h14 : List Int), (h13.length = i.toNat ∧ ∀ x ∈ h13, 0 ≤ x ∧ x ≤ 192) → (h14.length = i.toNat ∧ ∀ x ∈ h14, -2047 ≤ x ∧ x ≤ 2047) → Tot (predict_see_c1 p.2.2.1 6 i p b9a b9 nd b10 h11 h12 h13 h14) fun s => WfSeen s ∧ 1 ≤ s.2.2.2.2.1 ∧ s.2.2.2.2.1 ≤ 4095) 6 ?_ ?_ i
  · intro i hi h0 h06 h13 h14 k13 k14
    rw [predict_see_c1_eq]
    have e6 : i.toNat = 6 := by omega
    rw [e6] at k13 k14
    refine Tot.ifd_neg (by omega) (Tot.b (match_Input_T h5.2.2.2.1 h2.1 hw) (fun m hm => ?_))
    have hL : (h14 ++ [m.1, 256]).length = 8 := by rw [List.length_append, k14.1]; rfl
    have hA : ∀ x ∈ h14 ++ [m.1, 256], -2047 ≤ x ∧ x ≤ 2047 := by
      intro x hx
      rcases List.mem_append.1 hx with q | q
      · exact k14.2 x q
      · rcases List.mem_cons.1 q with rfl | q
        · exact hm
        · rw [List.mem_singleton.1 q]; omega
    refine Tot.g (by rw [hL]; decide) (Tot.b (mixer_Mix_T h5.1 (by have := hw.1; omega) hw.2 hL hA) (fun x hx => Tot.b (context_Recent_T h2.1) (fun y _ => Tot.b (final_Rows_T _ _ hw.1 hw.2) (fun z hz => ?_))))
    obtain ⟨c, hz1, hz2⟩ := hz
    rw [hz1]
    exact Tot.b (final_Look_p h5.2.1 ⟨by have := hw.1; omega, hw.2⟩ hz2 ⟨hx.1, hx.2.1⟩ ⟨hx.2.2.1, hx.2.2.2⟩) (fun t ht => Tot.so ⟨⟨hn, k13, ⟨hL, hA⟩, ⟨hx.2.2.1, hx.2.2.2⟩, ht.1⟩, ht.2⟩)
  · intro i hi ih h0 h06 h13 h14 k13 k14
    rw [predict_see_c1_eq]
    simp only [Int.ofNat_eq_natCast]
    have hd := getD_all (P := WfTab l) (d := pzero T_api_Table) h3.2 i.toNat (by omega)
    have ha := getD_all (P := WfAd) (d := pzero T_api_Adapt) h4.2 i.toNat (by omega)
    have hs := h5.2.2.2.2.2.at hd.2.1 i.toNat
    rw [w64 (x := i + 1) (by omega) (by omega)]
    refine Tot.ifd_pos (by omega) (Tot.g h0 (Tot.g (by omega) (Tot.g h0 (Tot.g (by omega) (Tot.b (slots_Get_T hd hs.1 hs.2 hn.1 hn.2) (fun r hr => Tot.g h0 (Tot.g (by omega) (Tot.b (adapt_P_T ha hr.2.1 hr.2.2) (fun q hq => Tot.g ?_ (Tot.g (by decide) (Tot.b (stretch_T _) (fun s hs' => Tot.g ?_ ?_))))))))))))
    · rw [List.length_append, List.length_singleton]; omega
    · rw [List.length_append, List.length_singleton]; omega
    · exact ih (by omega) (by omega) _ _ ⟨by rw [List.length_append, List.length_singleton]; omega, app_all k13.2 hr.2⟩ ⟨by rw [List.length_append, List.length_singleton]; omega, app_all k14.2 hs'⟩
theorem see_p {l N : Int} {p : D_api_Predictor} (h : WfP l N p) : Tot (predict_see p) fun s => WfSeen s ∧ 1 ≤ s.2.2.2.2.1 ∧ s.2.2.2.2.1 ≤ 4095 := by
  rw [predict_see_eq]
  have e : Int.ofNat p.2.2.1.length = 6 := by rw [h.2.2.1.1]; rfl
  rw [e]
  exact Tot.b (nibble_Node_T h.2.2.2.2.1.2.2.2.2.1) (fun r hr => see_c1_p h _ _ _ hr _ _ 0 (by omega) (by omega) [] [] ⟨rfl, fun x hx => by cases hx⟩ ⟨rfl, fun x hx => by cases hx⟩)
def PStep (p : D_api_Predictor) (b : Bool) (q : D_api_Predictor) (P : Int) : Prop := ∃ s, predict_see p = some s ∧ P = IntKind.wrap .i64 s.2.2.2.2.1 ∧ predict_update p s b = some (q, 0)
def PRun : List Bool → D_api_Predictor → D_api_Predictor → List Int → Prop
  | [], p, q, Ps => q = p ∧ Ps = []
  | b :: bs, p, q, Ps => ∃ p1 P Ps', PStep p b p1 P ∧ PRun bs p1 q Ps' ∧ Ps = P :: Ps'
theorem PStep_ex {l N : Int} {p : D_api_Predictor} (h : WfP l N p) (hN : N < 1073741824) (b : Bool) : ∃ q P, PStep p b q P := by
  obtain ⟨s, e, hs⟩ := see_p h
  obtain ⟨r, e', hr⟩ := update_T h hN hs.1 b
  exact ⟨r.1, _, s, e, rfl, by rw [e']; exact congrArg some (Prod.ext rfl hr.1)⟩
theorem PStep_wf {l N : Int} {p q : D_api_Predictor} {b : Bool} {P : Int} (h : WfP l N p) (hN : N < 1073741824) (k : PStep p b q P) : WfP l (N + 1) q ∧ 1 ≤ P ∧ P ≤ 4095 := by
  obtain ⟨s, e, hP, hu⟩ := k
  obtain ⟨s', e', hs⟩ := see_p h
  obtain rfl := Option.some.inj (e.symm.trans e')
  obtain ⟨r, e'', hr⟩ := update_T h hN hs.1 b
  obtain rfl := Option.some.inj (hu.symm.trans e'')
  rw [w64 (by omega) (by omega)] at hP
  exact ⟨hr.2, by omega, by omega⟩
theorem Run_c1_spec (v : List Bool) (hv : v.length ≤ 2000) (b9a b9baa : Int) (b9babb : D_api_Walk) (u1 u2 u3 u4 : Unit) (b9bbbbbbaa : Int) (u5 : Unit) (b9bbbbbbb : (D_api_Match × (D_api_Walk × ((List Int) × ((List Int) × Unit)))))
    (h11 : List Int) (h12 : List D_api_Table) (h13 : List D_api_Adapt) (h14 h15 h16 : List (List Int)) (h17 : List Int) (q : D_api_Predictor) : ∀ i : Int, 0 ≤ i → i ≤ v.length → ∀ (p : D_api_Predictor) (h10 Ps : List Int), h10.length = i.toNat → PRun (v.drop i.toNat) p q Ps →
    predict_Run_c1 v v.length i p b9a b9baa b9babb u1 u2 u3 u4 b9bbbbbbaa u5 b9bbbbbbb h10 h11 h12 h13 h14 h15 h16 h17 = some (q, (h10 ++ Ps, 0)) := by
  intro i
  refine up_ind (P := fun i => 0 ≤ i → i ≤ v.length → ∀ (p : D_api_Predictor) (h10 Ps : List Int), h10.length = i.toNat → PRun (v.drop i.toNat) p q Ps → predict_Run_c1 v v.length i p b9a b9baa b9babb u1 u2 u3 u4 b9bbbbbbaa u5 b9bbbbbbb h10 h11 h12 h13 h14 h15 h16 h17 = some (q, (h10 ++ Ps, 0))) v.length ?_ ?_ i
  · intro i hi h0 h1 p h10 Ps hh hr
    rw [List.drop_of_length_le (by omega)] at hr
    obtain ⟨rfl, rfl⟩ := hr
    rw [predict_Run_c1_eq, if_neg (by rw [decide_eq_true_eq]; omega), List.append_nil]
  · intro i hi ih h0 h1 p h10 Ps hh hr
    have hd : v.drop i.toNat = v[i.toNat]'(by omega) :: v.drop (i.toNat + 1) := List.drop_eq_getElem_cons (by omega)
    rw [hd] at hr
    obtain ⟨p1, P, Ps', ⟨s, e1, e2, e3⟩, hr, rfl⟩ := hr
    have hg : v.getD i.toNat false = v[i.toNat]'(by omega) := by rw [List.getD_eq_getElem?_getD, List.getElem?_eq_getElem (by omega)]; rfl
    rw [predict_Run_c1_eq]
    simp only [Int.ofNat_eq_natCast]
    rw [w64 (x := i + 1) (by omega) (by omega), hg, ← hg]
    refine Tot.eq (Tot.ifd_pos (by omega) (Tot.g h0 (Tot.g (by omega) (Tot.be e1 (Tot.be (by rw [hg]; exact e3) (Tot.ifne_neg rfl (Tot.g (by rw [List.length_append, List.length_singleton]; omega) ?_)))))))
    have e : (i + 1).toNat = i.toNat + 1 := by omega
    have := ih (by omega) (by omega) p1 (h10 ++ [P]) Ps' (by rw [List.length_append, List.length_singleton]; omega) (by rw [e]; exact hr)
    rw [← e2]
    simp only
    rw [this, List.append_assoc]
    exact Tot.so rfl
theorem Run_spec {l N : Int} {p q : D_api_Predictor} {v : List Bool} {Ps : List Int} (h : WfP l N p) (hv : v.length ≤ 2000) (hr : PRun v p q Ps) : predict_Run p v = some (q, (Ps, 0)) := by
  rw [predict_Run_eq]
  simp only [Int.ofNat_eq_natCast]
  refine Tot.eq (Tot.be (predict_Check_T h) (Tot.ifne_neg rfl (Tot.ifd_neg (by omega) (Tot.be (twin_T h) ?_))))
  have := Run_c1_spec v hv 0 0 (0, ()) () () () () 0 () ((0, (0, ())), ((0, ()), ((List.replicate 6 0), ((List.replicate 6 0), ())))) [] [] [] [] [] [] [] q 0 (by omega) (by omega) p [] Ps rfl hr
  rw [this]
  exact Tot.so rfl
theorem Update_spec {l N : Int} {p q : D_api_Predictor} {b : Bool} {P : Int} (h : WfP l N p) (k : PStep p b q P) : predict_Update p b = some (q, 0) := by
  rw [predict_Update_eq]
  exact Tot.eq (Tot.be (Run_spec h (v := [b]) (Ps := [P]) (by show 1 ≤ 2000; decide) ⟨q, P, [], k, ⟨rfl, rfl⟩, rfl⟩) (Tot.so rfl))
end Go.Ab

/-
  The coder there and back, 3: what Encode does; and Decode gives the bytes again.
-/
set_option linter.unusedVariables false
set_option linter.unusedSimpArgs false
set_option maxRecDepth 10000
namespace Go.Ab
open Go
attribute [local irreducible] IntKind.wrap
def e0 : D_api_Encoder := (0, (4294967295, ([], ())))
end Go.Ab

/-
  The coder there and back, 4: Decode gives the bytes again.
-/
set_option linter.unusedVariables false
set_option linter.unusedSimpArgs false
set_option maxRecDepth 10000
namespace Go.Ab
open Go
attribute [local irreducible] IntKind.wrap
theorem orU32 {y z : Int} (h0 : 0 ≤ y) (h1 : y < 4294967296) (hm : y % 256 = 0) (z0 : 0 ≤ z) (z1 : z < 256) : bitsOr .u32 y z = y + z := by
  have e : bitsOr .u32 y z = ((BitVec.ofInt 32 y ||| BitVec.ofInt 32 z).toNat : Int) := by
    show IntKind.wrap .u32 ((BitVec.ofInt 32 y ||| BitVec.ofInt 32 z).toNat : Int) = _
    rw [wu32]
    have := (BitVec.ofInt 32 y ||| BitVec.ofInt 32 z).isLt
    omega
  rw [e, BitVec.toNat_or, ofInt_small 32 y h0 (by omega), ofInt_small 32 z (by omega) (by omega)]
  have h2 : y.toNat = 2 ^ 8 * (y.toNat / 256) := by omega
  rw [h2, ← Nat.two_pow_add_eq_or_of_lt (show z.toNat < 2 ^ 8 by omega)]
  omega
theorem dec_at_spec {c : List Int} (i : Nat) : decoder_at c i = some (c.getD i 0) := by
  rw [decoder_at_eq]
  simp only [Int.ofNat_eq_natCast]
  by_cases h : (i : Int) < c.length
  · exact Tot.eq (Tot.ifd_pos h (Tot.g (by omega) (Tot.g h (Tot.so (by rw [Int.toNat_natCast])))))
  · refine Tot.eq (Tot.ifd_neg h (Tot.so ?_))
    rw [List.getD_eq_getElem?_getD, List.getElem?_eq_none (by omega)]
    rfl
theorem dec_start_step {c : List Int} (hc : Bts c) (b8a b8ba b8bba : Int) (b8b : D_api_Walk) (h10 : List Int) (x1 x2 x : Int) (cc : List Int) (u : Unit) (k : Nat) (hk : k < 4) (hx0 : 0 ≤ x) (hx1 : x < 4294967296) :
    decoder_start_c1 c b8a b8ba b8bba b8b (x1, (x2, (x, (cc, ((k : Int), u))))) h10 = decoder_start_c1 c b8a b8ba b8bba b8b (x1, (x2, (x * 256 % 4294967296 + c.getD k 0, (cc, (((k + 1 : Nat) : Int), u))))) h10 := by
  have hb := bts_getD hc k
  rw [decoder_start_c1_eq, if_pos (by rw [decide_eq_true_eq]; simp only; omega), gd_pos (by decide)]
  simp only
  rw [dec_at_spec, Option.bind_some, wu32, wu32, w64 (x := (k : Int) + 1) (by omega) (by omega)]
  have e : c.getD k 0 % 4294967296 = c.getD k 0 := by omega
  rw [e, orU32 (by omega) (by omega) (by omega) hb.1 hb.2]
  rfl
def decAt (e : D_api_Encoder) (c : List Int) : D_api_Decoder := (e.1, (e.2.1, (at4 c e.2.2.1.length, (c, (((e.2.2.1.length + 4 : Nat) : Int), ())))))
theorem dec_New_spec {c : List Int} (hc : Bts c) (hl : c.length ≤ 20000) : decoder_New c = some (decAt e0 c, 0) := by
  have h0 := bts_getD hc 0
  have h1 := bts_getD hc 1
  have h2 := bts_getD hc 2
  have h3 := bts_getD hc 3
  rw [decoder_New_eq]
  simp only [Int.ofNat_eq_natCast]
  refine Tot.eq (Tot.ifd_neg (by omega) (Tot.be (slices_Clone_byte_byte_T _ (by omega)) (Tot.be (v := decAt e0 c) ?_ (Tot.so rfl))))
  rw [decoder_start_eq]
  have s0 := dec_start_step hc 0 0 0 (0, ()) [] 0 4294967295 0 c () 0 (by decide) (by omega) (by omega)
  rw [show ((0 : Nat) : Int) = 0 from rfl] at s0
  rw [s0]
  have e0' : (0 : Int) * 256 % 4294967296 + c.getD 0 0 = c.getD 0 0 := by omega
  rw [e0', dec_start_step hc 0 0 0 (0, ()) [] 0 4294967295 _ c () 1 (by decide) (by omega) (by omega), dec_start_step hc 0 0 0 (0, ()) [] 0 4294967295 _ c () 2 (by decide) (by omega) (by omega), dec_start_step hc 0 0 0 (0, ()) [] 0 4294967295 _ c () 3 (by decide) (by omega) (by omega)]
  rw [decoder_start_c1_eq, if_neg (by simp)]
  have e : ((c.getD 0 0 * 256 % 4294967296 + c.getD 1 0) * 256 % 4294967296 + c.getD 2 0) * 256 % 4294967296 + c.getD 3 0 = at4 c 0 := by
    unfold at4
    simp only [Nat.zero_add]
    omega
  rw [e]
  rfl
end Go.Ab

/-
  Decode always answers.
-/
set_option linter.unusedVariables false
set_option linter.unusedSimpArgs false
set_option maxRecDepth 10000
namespace Go.Ab
open Go
attribute [local irreducible] IntKind.wrap
def WfDec (d : D_api_Decoder) : Prop := (0 ≤ d.1 ∧ d.1 < 4294967296) ∧ (0 ≤ d.2.1 ∧ d.2.1 < 4294967296) ∧ (0 ≤ d.2.2.1 ∧ d.2.2.1 < 4294967296) ∧ Bts d.2.2.2.1 ∧ 0 ≤ d.2.2.2.2.1 ∧ d.2.2.2.2.1 ≤ 1000000
theorem dec_get_c1_T {c : List Int} (hc : Bts c) (v : Bool) (u : Unit) : ∀ (k : Nat) (a b x : Int) (i : Nat), Shp4 k a b → (0 ≤ x ∧ x < 4294967296) → i + k ≤ 2000000 →
    Tot (decoder_get_c1 v (a, (b, (x, (c, ((i : Int), u)))))) fun r => (0 ≤ r.2.1 ∧ r.2.1 < 4294967296) ∧ (0 ≤ r.2.2.1 ∧ r.2.2.1 < 4294967296) ∧ (0 ≤ r.2.2.2.1 ∧ r.2.2.2.1 < 4294967296) ∧ Bts r.2.2.2.2.1 ∧ 0 ≤ r.2.2.2.2.2.1
  | 0, a, b, x, i, hs, hx, hi => by
    obtain ⟨_, hs⟩ := hs
    have : a = 0 ∧ b = 4294967295 := by omega
    obtain ⟨rfl, rfl⟩ := this
    rw [decoder_get_c1_eq, gd_pos (by decide), gd_pos (by decide), if_neg (by show ¬ ((Int.fdiv 0 16777216 == Int.fdiv 4294967295 16777216) = true); decide)]
    exact Tot.so ⟨⟨by simp only; omega, by simp only; omega⟩, ⟨by simp only; omega, by simp only; omega⟩, hx, hc, by simp only; omega⟩
  | k + 1, a, b, x, i, hs, hx, hi => by
    have hr := hs.1
    have hb := bts_getD hc i
    rw [decoder_get_c1_eq, gd_pos (by decide), gd_pos (by decide)]
    simp only [fdiv_pos _ (show (0:Int) < 16777216 by decide), beq_iff_eq]
    by_cases e : a / 16777216 = b / 16777216
    · rw [if_pos e, gd_pos (by decide), gd_pos (by decide), gd_pos (by decide), dec_at_spec, Option.bind_some]
      have ho : bitsOr .u32 (b * 256 % 4294967296) 255 = b * 256 % 4294967296 + 255 := or255 (by omega) (by omega) (by omega)
      have e1 : c.getD i 0 % 4294967296 = c.getD i 0 := by omega
      rw [wu32, wu32, wu32, wu32, ho, e1, orU32 (by omega) (by omega) (by omega) hb.1 hb.2, w64 (by omega) (by omega)]
      have e2 : (i : Int) + 1 = ((i + 1 : Nat) : Int) := by omega
      rw [e2]
      exact dec_get_c1_T hc v u k _ _ _ (i + 1) (hs.step e) (by omega) (by omega)
    · rw [if_neg e]
      exact Tot.so ⟨⟨by simp only; omega, by simp only; omega⟩, ⟨by simp only; omega, by simp only; omega⟩, hx, hc, by simp only; omega⟩
theorem WfDec.zero : WfDec (0, (0, (0, ([], (0, ()))))) := ⟨⟨by decide, by decide⟩, ⟨by decide, by decide⟩, ⟨by decide, by decide⟩, Bts.nil, by decide, by decide⟩
theorem Get_T {d : D_api_Decoder} (h : WfDec d) (p : Int) : Tot (decoder_Get d p) fun r => WfDec r.1 := by
  obtain ⟨h1, h2, h3, h4, h5, h6⟩ := h
  rw [decoder_Get_eq]
  refine Tot.b (P := fun r => r = 0 → EndsX d.1 d.2.1 ∧ d.2.2.2.1.length ≤ 20000) ?_ (fun r hr => Tot.ifne (fun _ => Tot.so WfDec.zero) (fun k => ?_))
  · rw [decoder_Check_eq]
    simp only [Int.ofNat_eq_natCast, fdiv_pos _ (show (0:Int) < 16777216 by decide)]
    refine Tot.ifd (fun _ => Tot.so (fun k => absurd k (by decide))) (fun q1 => Tot.g (by decide) (Tot.g (by decide) (Tot.ifeq (fun _ => Tot.so (fun k => absurd k (by decide))) (fun q2 => ?_))))
    refine Tot.ifd (fun _ => Tot.so (fun k => absurd k (by decide))) (fun _ => Tot.ifd (fun _ => Tot.so (fun k => absurd k (by decide))) (fun _ => Tot.ifd (fun _ => Tot.so (fun k => absurd k (by decide))) (fun q3 => Tot.ifd (fun _ => Tot.so (fun k => absurd k (by decide))) (fun _ => Tot.ifd (fun _ => Tot.so (fun k => absurd k (by decide))) (fun _ => Tot.so (fun _ => ⟨⟨h1.1, by omega, h2.2, q2⟩, by omega⟩))))))
  · obtain ⟨hE, hl⟩ := hr k
    refine Tot.b (P := fun r => r = false → 0 ≤ p ∧ p ≤ 4095) ?_ (fun w hw => Tot.it (fun _ => Tot.so WfDec.zero) (fun hw2 => ?_))
    · rw [decoder_wrong_eq]
      exact Tot.ifd (fun _ => Tot.so (fun k => absurd k (by decide))) (fun q => Tot.so (fun k => by have := of_decide_eq_false k; omega))
    · have hp := hw (by cases w with
        | true => exact absurd rfl hw2
        | false => rfl)
      refine Tot.be (slices_Clone_byte_byte_T _ (by omega)) (Tot.b (P := fun r => (0 ≤ r.2.1 ∧ r.2.1 < 4294967296) ∧ (0 ≤ r.2.2.1 ∧ r.2.2.1 < 4294967296) ∧ (0 ≤ r.2.2.2.1 ∧ r.2.2.2.1 < 4294967296) ∧ Bts r.2.2.2.2.1 ∧ 0 ≤ r.2.2.2.2.2.1) ?_ (fun r hr => Tot.ifd (fun _ => Tot.so WfDec.zero) (fun q => Tot.so ⟨hr.1, hr.2.1, hr.2.2.1, hr.2.2.2.1, hr.2.2.2.2, by simp only; omega⟩)))
      have hsplit : encoder_Split d.1 d.2.1 p = some (spl d.1 d.2.1 p, 0) := by
        have hp' : encoder_prob p = some true := by
          rw [encoder_prob_eq]
          exact Tot.eq (Tot.ifd_pos hp.1 (Tot.so (decide_eq_true hp.2)))
        rw [encoder_Split_eq]
        exact Tot.eq (Tot.ifd_neg (by have := hE.2.1; omega) (Tot.be hp' (Tot.ifn (fun k => absurd k (by decide)) (fun _ => Tot.be (split_spec hE hp.1 hp.2) (Tot.so rfl)))))
      have hs := spl_in hE hp.1 hp.2
      obtain ⟨i, hi⟩ := Int.eq_ofNat_of_zero_le h5
      rw [decoder_get_eq]
      refine Tot.be hsplit ?_
      simp only
      have e2 : d.2.2.2.2 = ((i : Int), d.2.2.2.2.2) := Prod.ext hi rfl
      refine Tot.ifd (fun q => ?_) (fun q => ?_)
      · have := dec_get_c1_T h4 (decide (d.2.2.1 ≤ spl d.1 d.2.1 p)) d.2.2.2.2.2 4 (bitA true d.1 d.2.1 p) (bitZ true d.1 d.2.1 p) d.2.2.1 i (bit_shp hE hp.1 hp.2) h3 (by omega)
        rw [← e2] at this
        exact this
      · have w1 : IntKind.wrap .u32 (spl d.1 d.2.1 p + 1) = spl d.1 d.2.1 p + 1 := by rw [wu32]; omega
        have := dec_get_c1_T h4 (decide (d.2.2.1 ≤ spl d.1 d.2.1 p)) d.2.2.2.2.2 4 (bitA false d.1 d.2.1 p) (bitZ false d.1 d.2.1 p) d.2.2.1 i (bit_shp hE hp.1 hp.2) h3 (by omega)
        rw [← e2] at this
        rw [w1]
        exact this
theorem dec_c2_T {l : Int} (v2 : Int) (hv : v2 ≤ 4096) (h10 : List Int) (hh : h10.length ≤ 4096) (N : Int) (Q : List Int × Int → Prop)
    (next : ∀ (v : Int) (p : D_api_Predictor) (d : D_api_Decoder), 0 ≤ v → v < 256 → WfP l (N + 8) p → WfDec d → Tot (codec_Decode_c1 v2 p d (h10 ++ [v])) Q) (hN : N + 8 < 1073741824) : ∀ (m j : Nat), j + m = 8 → ∀ (v : Int) (p : D_api_Predictor) (d : D_api_Decoder), 0 ≤ v → v < 256 → WfP l (N + j) p → WfDec d → Tot (codec_Decode_c2 v2 v (j : Int) p d h10) Q
  | 0, j, hj, v, p, d, h0, h1, hp, hd => by
    obtain rfl : j = 8 := by omega
    rw [codec_Decode_c2_eq]
    exact Tot.ifd_neg (by omega) (Tot.g (by rw [List.length_append, List.length_singleton]; omega) (next v p d h0 h1 hp hd))
  | m + 1, j, hj, v, p, d, h0, h1, hp, hd => by
    obtain ⟨s, es, hs⟩ := see_p hp
    have eP : predict_P p = some (IntKind.wrap .i64 s.2.2.2.2.1, 0) := by
      rw [predict_P_eq]
      exact Tot.eq (Tot.be (predict_Check_T hp) (Tot.ifne_neg rfl (Tot.be es (Tot.so rfl))))
    rw [codec_Decode_c2_eq]
    refine Tot.ifd_pos (by omega) (Tot.be eP (Tot.b (Get_T hd _) (fun r hr => ?_)))
    obtain ⟨q, P, k⟩ := PStep_ex hp (by omega) r.2.1
    refine Tot.be (Update_spec hp k) ?_
    have hw := (PStep_wf hp (by omega) k).1
    have e3 : (j : Int) + 1 = ((j + 1 : Nat) : Int) := by omega
    have e4 : N + (j : Int) + 1 = N + ((j + 1 : Nat) : Int) := by omega
    rw [e4] at hw
    rw [w64 (x := (j : Int) + 1) (by omega) (by omega), e3]
    refine Tot.it (fun _ => ?_) (fun _ => ?_)
    · exact dec_c2_T v2 hv h10 hh N Q next hN m (j + 1) (by omega) _ _ _ (wr_u8 _).1 (wr_u8 _).2 hw hr
    · exact dec_c2_T v2 hv h10 hh N Q next hN m (j + 1) (by omega) _ _ _ (wr_u8 _).1 (wr_u8 _).2 hw hr
theorem dec_c1_T {l : Int} (v2 : Int) (h0 : 0 ≤ v2) (hv : v2 ≤ 4096) : ∀ (m : Nat) (hs : List Int) (N : Int) (p : D_api_Predictor) (d : D_api_Decoder), v2 - hs.length ≤ m → (hs.length : Int) ≤ v2 → Bts hs → WfP l N p → N + 8 * m < 1073741824 → WfDec d →
    Tot (codec_Decode_c1 v2 p d hs) fun r => Bts r.1 ∧ (r.1.length : Int) = v2 ∧ r.2 = 0
  | 0, hs, N, p, d, hm, hl, hb, hp, hN, hd => by
    rw [codec_Decode_c1_eq]
    simp only [Int.ofNat_eq_natCast]
    exact Tot.ifd_neg (by omega) (Tot.so ⟨hb, by simp only; omega, rfl⟩)
  | m + 1, hs, N, p, d, hm, hl, hb, hp, hN, hd => by
    rw [codec_Decode_c1_eq]
    simp only [Int.ofNat_eq_natCast]
    refine Tot.ifd (fun hlt => ?_) (fun _ => Tot.so ⟨hb, by simp only; omega, rfl⟩)
    have e : ((0 : Nat) : Int) = 0 := rfl
    have := dec_c2_T (l := l) v2 hv hs (by omega) N (fun r => Bts r.1 ∧ (r.1.length : Int) = v2 ∧ r.2 = 0) (fun v p' d' q0 q1 hp' hd' => dec_c1_T v2 h0 hv m (hs ++ [v]) (N + 8) p' d' (by rw [List.length_append, List.length_singleton]; omega) (by rw [List.length_append, List.length_singleton]; omega) (Bts.append hb (Bts.cons ⟨q0, q1⟩ Bts.nil)) hp' (by omega) hd') (by omega) 8 0 rfl 0 p d (by omega) (by omega) (by rw [e, Int.add_zero]; exact hp) hd
    rw [e] at this
    exact this
theorem codec_Decode_T (l : Int) {c : List Int} (hc : Bts c) (n : Int) : Tot (codec_Decode l c n) fun r => Bts r.1 ∧ (r.2 = 0 → (r.1.length : Int) = n) := by
  rw [codec_Decode_eq, codec_start_eq]
  refine Tot.b (P := fun r => r.2 = 0 → WfP l 0 r.1) (Tot.b (New_T l) (fun r hr => Tot.ifeq (fun k => Tot.ifd_neg (by decide) (Tot.so hr)) (fun k => Tot.so (fun q => absurd q k)))) (fun r hr => Tot.ifne (fun _ => Tot.so ⟨Bts.nil, fun q => absurd q (by decide)⟩) (fun k => ?_))
  refine Tot.ifd (fun _ => Tot.so ⟨Bts.nil, fun q => absurd q (by decide)⟩) (fun h0 => Tot.ifd (fun _ => Tot.so ⟨Bts.nil, fun q => absurd q (by decide)⟩) (fun h1 => ?_))
  by_cases hl : c.length ≤ 20000
  · refine Tot.be (dec_New_spec hc hl) (Tot.ifne_neg rfl ?_)
    have h4 := at4_step hc 0
    have hd : WfDec (decAt e0 c) := ⟨⟨by show (0:Int) ≤ 0; decide, by show (0:Int) < 4294967296; decide⟩, ⟨by show (0:Int) ≤ 4294967295; decide, by show (4294967295:Int) < 4294967296; decide⟩, ⟨h4.2.2.1, h4.2.2.2⟩, hc, by show (0:Int) ≤ 4; decide, by show (4:Int) ≤ 1000000; decide⟩
    exact Tot.mono (dec_c1_T n (by omega) (by omega) n.toNat [] 0 r.1 _ (by rw [List.length_nil]; omega) (by rw [List.length_nil]; omega) Bts.nil (hr k) (by omega) hd) (fun q hq => ⟨hq.1, fun _ => hq.2.1⟩)
  · refine Tot.be (v := ((0, (0, (0, ([], (0, ()))))), 4)) ?_ (Tot.ifne_pos (by decide) (Tot.so ⟨Bts.nil, fun q => absurd q (by show ¬ ((4:Int) = 0); decide)⟩))
    rw [decoder_New_eq]
    simp only [Int.ofNat_eq_natCast]
    exact Tot.eq (Tot.ifd_pos (by omega) (Tot.so rfl))
end Go.Ab

/-
  Chapter 34: what is found.
-/
set_option linter.unusedVariables false
set_option linter.unusedSimpArgs false
set_option maxRecDepth 10000
namespace Go.Ab
open Go
attribute [local irreducible] IntKind.wrap
theorem Right_any {h : D_api_BlockHead} (hm : 0 ≤ h.1 ∧ h.1 < 256) {z : List Int} (hb : Bts z) (hl : z.length ≤ 19000) : Tot (header_Right h z) fun _ => True := by
  rw [header_Right_eq]
  exact Tot.be (header_Check_spec h) (Tot.ifne (fun _ => Tot.so trivial) (fun _ => Tot.ifeq (fun _ => Tot.be (header_digest_spec h hm z hb hl) (Tot.so trivial)) (fun _ => Tot.so trivial)))
theorem Raw_T (l : Int) {b : D_api_Block} (hm : 0 ≤ b.1.1 ∧ b.1.1 < 256) (hb : Bts b.2.1) : Tot (block_Raw l b) fun r => Bts r.1 := by
  rw [block_Raw_eq]
  refine Tot.be (block_Check_spec b) (Tot.ifne (fun _ => Tot.so Bts.nil) (fun hc => ?_))
  have ok : hOK b.1 ∧ (b.2.1.length : Int) = b.1.2.2.2.2.1 := by
    unfold bC at hc; split at hc
    · assumption
    · cases hc
  have hlen := hOK_len ok.1
  have hraw : 1 ≤ b.1.2.2.2.1 ∧ b.1.2.2.2.1 ≤ 4096 := ⟨ok.1.2.2.1, ok.1.2.2.2.1⟩
  refine Tot.be (isLevel_spec l) (Tot.ifn (fun _ => Tot.so Bts.nil) (fun _ => Tot.be (bytes_Clone_T _ (by omega)) (Tot.ifeq (fun _ => ?_) (fun _ => ?_))))
  · refine Tot.b (codec_Decode_T l hb _) (fun r hr => Tot.ifne (fun _ => Tot.so Bts.nil) (fun k => Tot.b (codec_Encode_T l r.1) (fun s hs => Tot.ifne (fun _ => Tot.so Bts.nil) (fun _ => ?_))))
    have h2 := hr.2 k
    refine Tot.b (P := fun _ => True) (by rw [bytes_Equal_eq]; exact Tot.so trivial) (fun t _ => Tot.ifn (fun _ => Tot.so Bts.nil) (fun _ => Tot.b (Right_any hm hr.1 (by omega)) (fun u _ => Tot.ifn (fun _ => Tot.so Bts.nil) (fun _ => Tot.so hr.1))))
  · exact Tot.b (Right_any hm hb (by omega)) (fun u _ => Tot.ifn (fun _ => Tot.so Bts.nil) (fun _ => Tot.so hb))
theorem bytesOf_inj {xs ys : List Int} (hx : Bts xs) (hy : Bts ys) (h : Lib.bytesOf xs = Lib.bytesOf ys) : xs = ys := by
  induction xs generalizing ys with
  | nil => cases ys with
    | nil => rfl
    | cons y ys => simp [Lib.bytesOf] at h
  | cons x xs ih => cases ys with
    | nil => simp [Lib.bytesOf] at h
    | cons y ys =>
      simp only [Lib.bytesOf, List.map_cons, List.cons.injEq] at h
      have h1 := hx x List.mem_cons_self
      have h2 := hy y List.mem_cons_self
      have e := congrArg UInt8.toNat h.1
      simp only [UInt8.toNat_ofNat'] at e
      have : x = y := by omega
      rw [this, ih (fun z hz => hx z (List.mem_cons_of_mem _ hz)) (fun z hz => hy z (List.mem_cons_of_mem _ hz)) h.2]
theorem occ_iff {s t : List Int} (hs : Bts s) (ht : Bts t) (j : Nat) : Lib.occAt (Lib.bytesOf s) (Lib.bytesOf t) j = true ↔ (s.drop j).take t.length = t := by
  unfold Lib.occAt
  rw [List.isPrefixOf_iff_prefix, List.prefix_iff_eq_take]
  have e1 : (Lib.bytesOf t).length = t.length := List.length_map ..
  have e2 : List.take t.length (List.drop j (Lib.bytesOf s)) = Lib.bytesOf ((s.drop j).take t.length) := by
    unfold Lib.bytesOf
    rw [List.map_take, List.map_drop]
  rw [e1, e2]
  constructor
  · intro h
    exact (bytesOf_inj ht ((hs.drop _).take _) h).symm
  · intro h
    rw [h]
def hd13 (s : List Int) : Prop := s.take 13 = mark
instance (s : List Int) : Decidable (hd13 s) := by unfold hd13; infer_instance
theorem hd13_len {s : List Int} (h : hd13 s) : 13 ≤ s.length := by
  have := congrArg List.length h
  rw [List.length_take, mark_len] at this
  omega
theorem Find_spec {b : List Int} (hb : Bts b) (hl : b.length ≤ 50000) {k : Nat} (hk : k ≤ b.length) :
    (marker_Find b k = some (0, 6) ∧ ∀ j, ¬ hd13 ((b.drop k).drop j)) ∨ ∃ i : Nat, marker_Find b k = some (((k + i : Nat) : Int), 0) ∧ k + i ≤ b.length ∧ hd13 ((b.drop k).drop i) ∧ ∀ j, j < i → ¬ hd13 ((b.drop k).drop j) := by
  have hI : bytes_Index (b.drop k) mark = some (ixB (b.drop k) mark) := by
    unfold bytes_Index
    exact Tot.eq (Tot.g (by rw [List.length_drop]; omega) (Tot.g (by rw [mark_len]; decide) (Tot.g (by rw [mark_len]; decide) (Tot.g ⟨hb.drop k, mark_bts⟩ (Tot.so rfl)))))
  have hF : marker_Find b k = some (if ixB (b.drop k) mark < 0 then (0, 6) else (IntKind.wrap .i64 ((k : Int) + ixB (b.drop k) mark), 0)) := by
    have hchk : marker_check b k = some 0 := by
      rw [marker_check_eq]
      simp only [Int.ofNat_eq_natCast]
      exact Tot.eq (Tot.ifd_neg (by omega) (Tot.ifd_neg (by omega) (Tot.ifd_neg (by omega) (Tot.so rfl))))
    rw [marker_Find_eq]
    simp only [Int.ofNat_eq_natCast]
    have e : (k : Int).toNat = k := Int.toNat_natCast k
    refine Tot.eq (Tot.be hchk (Tot.ifne_neg rfl (Tot.g (by omega) (Tot.g (by omega) (Tot.be marker_Bytes_spec ?_)))))
    rw [e]
    refine Tot.be hI ?_
    exact Tot.ifd (fun h => Tot.so (by rw [if_pos h])) (fun h => Tot.so (by rw [if_neg h]))
  have hocc := fun j => occ_iff (hb.drop k) mark_bts j
  rcases Lib.index_spec (Lib.bytesOf (b.drop k)) (Lib.bytesOf mark) with ⟨h1, h2⟩ | ⟨i, h1, h2, h3, h4⟩
  · left
    have hx : ixB (b.drop k) mark = -1 := h1
    rw [hF, hx, if_pos (by decide)]
    refine ⟨rfl, fun j hj => ?_⟩
    have hlj := hd13_len hj
    have e1 : (Lib.bytesOf (b.drop k)).length = (b.drop k).length := List.length_map ..
    rw [List.length_drop] at hlj
    have := h2 j (by omega)
    rw [(hocc j).2 (by rw [mark_len]; exact hj)] at this
    cases this
  · right
    have hx : ixB (b.drop k) mark = i := h1
    have e1 : (Lib.bytesOf (b.drop k)).length = (b.drop k).length := List.length_map ..
    rw [e1, List.length_drop] at h2
    refine ⟨i, ?_, by omega, ?_, fun j hj hh => ?_⟩
    · rw [hF, hx, if_neg (by omega), w64 (by omega) (by omega)]
      exact congrArg some (Prod.ext (by simp only; omega) rfl)
    · have := (hocc i).1 h3
      rw [mark_len] at this
      exact this
    · have := h4 j hj
      rw [(hocc j).2 (by rw [mark_len]; exact hh)] at this
      cases this
noncomputable def cand (l : Int) (s : List Int) : Option (D_api_BlockHead × List Int × Nat) :=
  if hd13 s ∧ (rdK s).2.2 = 0 then
    match block_Raw l (rdK s).1 with
    | some r => if r.2 = 0 then some ((rdK s).1.1, r.1, (rdK s).2.1.toNat) else none
    | none => none
  else none
noncomputable def sv (l : Int) : Nat → List Int → Nat → List D_api_Found
  | 0, _, _ => []
  | n + 1, s, k => match s with
    | [] => []
    | x :: s' => match cand l (x :: s') with
      | some c => ((k : Int), (c.1, (c.2.1, ()))) :: sv l n ((x :: s').drop c.2.2) (k + c.2.2)
      | none => sv l n s' (k + 1)
theorem rdK_ok {s : List Int} (h : (rdK s).2.2 = 0) : 41 ≤ s.length ∧ s.length ≤ 50000 ∧ hd13 s ∧ hOK (rdK s).1.1 ∧ (rdK s).2.1 = 41 + (rdK s).1.1.2.2.2.2.1 ∧ (rdK s).2.1 ≤ s.length ∧ (rdK s).1.2.1 = (s.drop 41).take (rdK s).1.1.2.2.2.2.1.toNat ∧ (rdK s).1.1 = pH ((s.drop 13).take 28) := by
  unfold rdK at h ⊢
  by_cases h1 : s.length > 50000
  · rw [if_pos h1] at h; exact absurd h (by decide)
  rw [if_neg h1] at h ⊢
  by_cases h2 : s.length < 41
  · rw [if_pos h2] at h; exact absurd h (by decide)
  rw [if_neg h2] at h ⊢
  by_cases h3 : s.take 13 ≠ mark ∨ ¬ hOK (pH ((s.drop 13).take 28))
  · rw [if_pos h3] at h; exact absurd h (by decide)
  rw [if_neg h3] at h ⊢
  by_cases h4 : (s.length : Int) < 41 + (pH ((s.drop 13).take 28)).2.2.2.2.1
  · rw [if_pos h4] at h; exact absurd h (by decide)
  rw [if_neg h4]
  exact ⟨by omega, by omega, Classical.byContradiction fun k => h3 (Or.inl k), Classical.byContradiction fun k => h3 (Or.inr k), rfl, by simp only; omega, rfl, rfl⟩
theorem cand_some {l : Int} {s : List Int} {c : D_api_BlockHead × List Int × Nat} (h : cand l s = some c) : 42 ≤ c.2.2 ∧ c.2.2 ≤ s.length ∧ hd13 s := by
  unfold cand at h
  by_cases h1 : hd13 s ∧ (rdK s).2.2 = 0
  · rw [if_pos h1] at h
    have hk := rdK_ok h1.2
    have hl := hOK_len hk.2.2.2.1
    split at h
    · split at h
      · have := Option.some.inj h
        subst this
        simp only
        exact ⟨by omega, by omega, h1.1⟩
      · cases h
    · cases h
  · rw [if_neg h1] at h; cases h
theorem sv_fuel (l : Int) : ∀ (n m : Nat) (s : List Int) (k : Nat), s.length ≤ n → s.length ≤ m → sv l n s k = sv l m s k
  | 0, 0, s, k, h1, h2 => rfl
  | 0, m + 1, s, k, h1, h2 => by
    obtain rfl : s = [] := List.length_eq_zero_iff.1 (by omega)
    rfl
  | n + 1, 0, s, k, h1, h2 => by
    obtain rfl : s = [] := List.length_eq_zero_iff.1 (by omega)
    rfl
  | n + 1, m + 1, s, k, h1, h2 => by
    cases s with
    | nil => rfl
    | cons x s' =>
      simp only [List.length_cons] at h1 h2
      simp only [sv]
      cases hc : cand l (x :: s') with
      | some c =>
        have := cand_some hc
        simp only
        rw [sv_fuel l n m _ _ (by rw [List.length_drop, List.length_cons]; omega) (by rw [List.length_drop, List.length_cons]; omega)]
      | none =>
        simp only
        exact sv_fuel l n m s' _ (by omega) (by omega)
noncomputable def svA (l : Int) (s : List Int) (k : Nat) : List D_api_Found := sv l s.length s k
theorem svA_some {l : Int} {s : List Int} {c : D_api_BlockHead × List Int × Nat} (h : cand l s = some c) (k : Nat) : svA l s k = ((k : Int), (c.1, (c.2.1, ()))) :: svA l (s.drop c.2.2) (k + c.2.2) := by
  have hl := cand_some h
  cases s with
  | nil => simp only [List.length_nil] at hl; omega
  | cons x s' =>
    unfold svA
    rw [List.length_cons]
    simp only [sv, h]
    rw [sv_fuel l s'.length _ _ _ (by rw [List.length_drop, List.length_cons]; omega) (Nat.le_refl _)]
theorem svA_none {l : Int} {s : List Int} (h : cand l s = none) (k : Nat) : svA l s k = svA l (s.drop 1) (k + 1) := by
  cases s with
  | nil => rfl
  | cons x s' =>
    unfold svA
    rw [List.length_cons]
    simp only [sv, h]
    rfl
theorem cand_not {l : Int} {s : List Int} (h : ¬ hd13 s) : cand l s = none := by
  unfold cand
  rw [if_neg (fun k => h k.1)]
theorem svA_skip {l : Int} : ∀ (i : Nat) (s : List Int) (k : Nat), (∀ j, j < i → ¬ hd13 (s.drop j)) → svA l s k = svA l (s.drop i) (k + i)
  | 0, s, k, h => rfl
  | i + 1, s, k, h => by
    have h0 := h 0 (by omega)
    rw [List.drop_zero] at h0
    rw [svA_none (cand_not h0), svA_skip i (s.drop 1) (k + 1) (fun j hj => by
      have := h (j + 1) (by omega)
      rw [List.drop_drop, Nat.add_comm 1 j]; exact this), List.drop_drop]
    have e1 : 1 + i = i + 1 := by omega
    have e2 : k + 1 + i = k + (i + 1) := by omega
    rw [e1, e2]
theorem svA_never {l : Int} {s : List Int} (h : ∀ j, ¬ hd13 (s.drop j)) (k : Nat) : svA l s k = [] := by
  rw [svA_skip s.length s k (fun j _ => h j), List.drop_of_length_le (Nat.le_refl _)]
  rfl
def mv (d : Nat) (f : D_api_Found) : D_api_Found := (f.1 + d, f.2)
theorem Salvage_c1_spec (l : Int) {b : List Int} (hb : Bts b) (hl : b.length ≤ 50000) : ∀ (n : Nat) (k : Nat) (out : List D_api_Found), b.length - k ≤ n → k ≤ b.length → out.length ≤ k →
    ((marker_Find b k).bind fun r => salvage_Salvage_c1 l b r.1 r.2 out) = some (out ++ svA l (b.drop k) k, 0) := by
  intro n
  induction n using Nat.strongRecOn with
  | ind n ih =>
    intro k out hn hk ho
    rcases Find_spec hb hl hk with ⟨h1, h2⟩ | ⟨i, h1, h2, h3, h4⟩
    · rw [h1, Option.bind_some, salvage_Salvage_c1_eq, svA_never h2, List.append_nil]
      exact Tot.eq (Tot.ifeq_neg (by decide) (Tot.so rfl))
    · rw [h1, Option.bind_some, svA_skip i _ k h4, List.drop_drop]
      rw [List.drop_drop] at h3
      have h13 := hd13_len h3
      rw [List.length_drop] at h13
      generalize hj : k + i = j at *
      have hR := block_Read_spec (b.drop j) (hb.drop j)
      have e : (j : Int).toNat = j := Int.toNat_natCast j
      rw [salvage_Salvage_c1_eq]
      simp only [Int.ofNat_eq_natCast, e]
      refine Tot.eq (Tot.ifeq_pos rfl (Tot.g (by omega) (Tot.g (by omega) (Tot.be hR ?_))))
      have next : ∀ (m : Nat) (o : List D_api_Found), 1 ≤ m → j + m ≤ b.length → o.length ≤ j + m → ((marker_Find b (IntKind.wrap .i64 ((j : Int) + (m : Int)))).bind fun r => salvage_Salvage_c1 l b r.1 r.2 o) = some (o ++ svA l (b.drop (j + m)) (j + m), 0) := by
        intro m o hm hjm ho'
        rw [w64 (by omega) (by omega)]
        have e2 : (j : Int) + (m : Int) = ((j + m : Nat) : Int) := by omega
        rw [e2]
        exact ih (b.length - (j + m)) (by omega) (j + m) o (Nat.le_refl _) hjm ho'
      have n1 := next 1 out (Nat.le_refl _) (by omega) (by omega)
      rw [show ((1 : Nat) : Int) = 1 from rfl] at n1
      refine Tot.ifne (fun hr => ?_) (fun hr => ?_)
      · have hc : cand l (b.drop j) = none := by
          unfold cand
          rw [if_neg (fun k => hr k.2)]
        rw [svA_none hc, List.drop_drop]
        exact Tot.of_eq n1 rfl
      · have hk' := rdK_ok hr
        have hlen := hOK_len hk'.2.2.2.1
        have hxb : Bts (((b.drop j).drop 13).take 28) := ((hb.drop _).drop _).take _
        have hm : 0 ≤ (rdK (b.drop j)).1.1.1 ∧ (rdK (b.drop j)).1.1.1 < 256 := by rw [hk'.2.2.2.2.2.2.2]; exact pH_byte hxb
        obtain ⟨r4, e4, hr4⟩ := Raw_T l (b := (rdK (b.drop j)).1) hm (by rw [hk'.2.2.2.2.2.2.1]; exact ((hb.drop _).drop _).take _)
        refine Tot.be e4 (Tot.ifne (fun hr2 => ?_) (fun hr2 => ?_))
        · have hc : cand l (b.drop j) = none := by
            unfold cand
            rw [if_pos ⟨h3, hr⟩, e4]
            simp only
            rw [if_neg hr2]
          rw [svA_none hc, List.drop_drop]
          exact Tot.of_eq n1 rfl
        · have hc : cand l (b.drop j) = some ((rdK (b.drop j)).1.1, r4.1, (rdK (b.drop j)).2.1.toNat) := by
            unfold cand
            rw [if_pos ⟨h3, hr⟩, e4]
            simp only
            rw [if_pos hr2]
          have hdl := hk'.2.2.2.2.2.1
          rw [List.length_drop] at hdl
          have nn := next (rdK (b.drop j)).2.1.toNat (out ++ [((j : Int), ((rdK (b.drop j)).1.1, (r4.1, ())))]) (by omega) (by omega) (by rw [List.length_append, List.length_singleton]; omega)
          have e5 : (((rdK (b.drop j)).2.1.toNat : Nat) : Int) = (rdK (b.drop j)).2.1 := by omega
          rw [e5] at nn
          rw [svA_some hc, List.drop_drop]
          refine Tot.g (by rw [List.length_append, List.length_singleton]; omega) (Tot.of_eq nn ?_)
          rw [List.append_assoc]
          rfl
theorem Salvage_spec (l : Int) {b : List Int} (hb : Bts b) : salvage_Salvage l b = some (if ¬ (0 ≤ l ∧ l ≤ 7) then ([], 2) else if b.length > 50000 then ([], 4) else (svA l b 0, 0)) := by
  rw [salvage_Salvage_eq]
  simp only [Int.ofNat_eq_natCast]
  by_cases h0 : l < 0
  · exact Tot.eq (Tot.ifd_pos h0 (Tot.so (by rw [if_pos (show ¬ (0 ≤ l ∧ l ≤ 7) by omega)])))
  by_cases h1 : l > 7
  · exact Tot.eq (Tot.ifd_neg h0 (Tot.ifd_pos h1 (Tot.so (by rw [if_pos (show ¬ (0 ≤ l ∧ l ≤ 7) by omega)]))))
  by_cases h2 : b.length > 50000
  · exact Tot.eq (Tot.ifd_neg h0 (Tot.ifd_neg h1 (Tot.ifd_pos (by omega) (Tot.so (by rw [if_neg (show ¬ ¬ (0 ≤ l ∧ l ≤ 7) by omega), if_pos h2])))))
  have := Salvage_c1_spec l hb (by omega) b.length 0 [] (by omega) (by omega) (by rw [List.length_nil]; omega)
  rw [show ((0 : Nat) : Int) = 0 from rfl] at this
  exact Tot.eq (Tot.ifd_neg h0 (Tot.ifd_neg h1 (Tot.ifd_neg (by omega) (Tot.of_eq this (by rw [if_neg (show ¬ ¬ (0 ≤ l ∧ l ≤ 7) by omega), if_neg h2, List.drop_zero, List.nil_append])))))
end Go.Ab

/-
  Chapter 34: the example.
-/
set_option linter.unusedVariables false
set_option linter.unusedSimpArgs false
set_option maxRecDepth 10000
namespace Go.Ab
open Go
attribute [local irreducible] IntKind.wrap
theorem pH_hB {h : D_api_BlockHead} (ok : hOK h) (hs : h.2.2.2.2.2.1.length = 20) : pH (hB h) = h := by
  obtain ⟨m, mem, off, raw, len, sum, u⟩ := h
  have e : pH (hB (m, mem, off, raw, len, sum, u)) = (m % 256, (mem % 256, (off / 256 % 256 * 256 + off % 256, (raw / 256 % 256 * 256 + raw % 256, (len / 256 % 256 * 256 + len % 256, (sum, ())))))) := rfl
  rw [e]
  unfold hOK at ok
  simp only at ok
  have e1 : m % 256 = m := by omega
  have e2 : mem % 256 = mem := by omega
  have e3 : off / 256 % 256 * 256 + off % 256 = off := by omega
  have e4 : raw / 256 % 256 * 256 + raw % 256 = raw := by omega
  have e5 : len / 256 % 256 * 256 + len % 256 = len := by omega
  rw [e1, e2, e3, e4, e5]
theorem rd_bB {b : D_api_Block} {more : List Int} (hc : bC b = 0) (hw : bWf b) (hl : more.length ≤ 40000) : rdK (bB b ++ more) = (b, (b.1.2.2.2.2.1 + 41, 0)) := by
  have ok : hOK b.1 ∧ (b.2.1.length : Int) = b.1.2.2.2.2.1 := by
    unfold bC at hc; split at hc
    · assumption
    · cases hc
  have hlen := hOK_len ok.1
  have hhl : (hB b.1).length = 28 := by unfold hB; rw [List.length_append, fr8_len, hw.2]
  have hL : (bB b ++ more).length = 41 + b.2.1.length + more.length := by
    unfold bB; simp only [List.length_append, mark_len, hhl]
  have hw13 : (bB b ++ more).take 13 = mark := by
    unfold bB
    rw [List.append_assoc, List.append_assoc, List.take_append_of_le_length (by rw [mark_len]; omega)]
    rfl
  have hd13 : ((bB b ++ more).drop 13).take 28 = hB b.1 := by
    unfold bB
    rw [List.append_assoc, List.append_assoc, List.drop_append_of_le_length (by rw [mark_len]; omega), List.drop_of_length_le (by rw [mark_len]; omega), List.nil_append, List.take_append_of_le_length (by omega), List.take_of_length_le (by omega)]
  have hd41 : (bB b ++ more).drop 41 = b.2.1 ++ more := by
    have e : bB b ++ more = (mark ++ hB b.1) ++ (b.2.1 ++ more) := by unfold bB; simp only [List.append_assoc]
    have e2 : (mark ++ hB b.1).length = 41 := by rw [List.length_append, mark_len, hhl]
    rw [e, List.drop_append_of_le_length (by omega), List.drop_of_length_le (by omega), List.nil_append]
  unfold rdK
  rw [hd13, pH_hB ok.1 hw.2, if_neg (show ¬ (bB b ++ more).length > 50000 by omega), if_neg (show ¬ (bB b ++ more).length < 41 by omega), if_neg (fun h => h.elim (fun h => h hw13) (fun h => h ok.1)), if_neg (by omega), hd41]
  have e : b.1.2.2.2.2.1.toNat = b.2.1.length := by omega
  rw [e, List.take_append_of_le_length (Nat.le_refl _), List.take_length, Int.add_comm]
def exA : ByteArray := ByteArray.mk #[97]
def exR : List D_api_Record := [(exA, (1, (shaB [7], ())))]
def exF : List Int := [66, 76, 70, 1, 0, 0, 16, 1] ++ ([1, 97, 0, 1] ++ shaB [7])
def exH : List Int := exF ++ shaB exF
def exB : D_api_Block := storedB 0 0 [7]
def exW : List Int := exH ++ bB exB
theorem b7 : Bts [7] := Bts.cons (by decide) Bts.nil
theorem m7 : mOK 0 0 [7] := by decide
theorem exF_len : exF.length = 32 := by unfold exF; simp only [List.length_append, shaB_len]; rfl
theorem exH_len : exH.length = 52 := by unfold exH; rw [List.length_append, exF_len, shaB_len]
theorem exB_ok : bC exB = 0 := stored_bC m7
theorem exBB : bB exB = mark ++ ([1, 0, 0, 0, 0, 1, 0, 1] ++ shaB [1, 0, 0, 0, 0, 1, 0, 1, 7]) ++ [7] := rfl
theorem exBB_len : (bB exB).length = 42 := by rw [exBB]; simp only [List.length_append, mark_len, shaB_len]; rfl
theorem lit_bts {l : List Int} (h : l.all (fun x => decide (0 ≤ x) && decide (x < 256)) = true) : Bts l := by
  intro x hx
  have := List.all_eq_true.1 h x hx
  rw [Bool.and_eq_true, decide_eq_true_eq, decide_eq_true_eq] at this
  exact this
theorem exF_bts : Bts exF := Bts.append (lit_bts (by decide)) (Bts.append (lit_bts (by decide)) (shaB_bts _))
theorem exBB_bts : Bts (bB exB) := by rw [exBB]; exact Bts.append (Bts.append mark_bts (Bts.append (lit_bts (by decide)) (shaB_bts _))) b7
theorem exW_bts : Bts exW := Bts.append (Bts.append exF_bts (shaB_bts _)) exBB_bts
theorem exW_len : exW.length = 94 := by unfold exW; rw [List.length_append, exH_len, exBB_len]
theorem exName : bitloftref28_Name exA = some true := by
  rw [bitloftref28_Name_eq, bitloftref28_Name_c1_eq]
  have e : btAt exA (Int.toNat 0) = 97 := by decide
  rw [e, w64 (x := 0 + 1) (by decide) (by decide)]
  refine Tot.eq (Tot.ifd_neg (by decide) (Tot.ifd_neg (by decide) (Tot.ifd_pos (by decide) (Tot.g (by decide) (Tot.g (by decide) (Tot.ifd_neg (by decide) (Tot.g (by decide) (Tot.g (by decide) (Tot.ifd_neg (by decide) ?_)))))))))
  rw [bitloftref28_Name_c1_eq]
  exact Tot.ifd_neg (by decide) (Tot.so rfl)
theorem exOf : bitloftref28_Of [(exA, ([7], ()))] = some (exR, 0) := by
  have hl : Int.ofNat (List.length [(exA, (([7] : List Int), ()))]) = 1 := rfl
  have g0 : List.getD [(exA, (([7] : List Int), ()))] (Int.toNat 0) (pzero T_api_Member) = (exA, ([7], ())) := rfl
  have hc : bitloftref28_Check [(exA, ([7], ()))] = some 0 := by
    rw [bitloftref28_Check_eq, bitloftref28_Check_c1_eq, hl, g0]
    refine Tot.eq (Tot.ifd_neg (by decide) (Tot.ifd_pos (by decide) (Tot.g (by decide) (Tot.g (by decide) ?_))))
    have e1 : IntKind.wrap .i64 (0 + Int.ofNat (List.length ([7] : List Int))) = 1 := w64 (by decide) (by decide)
    have e2 : IntKind.wrap .i64 (0 + 1) = 1 := w64 (by decide) (by decide)
    simp only
    rw [e1, e2, bitloftref28_Check_c1_eq, hl]
    refine Tot.ifd_neg (by decide) (Tot.ifd_neg (by decide) ?_)
    rw [bitloftref28_Check_c2_eq, hl, g0, e2]
    refine Tot.ifd_pos (by decide) (Tot.g (by decide) (Tot.g (by decide) (Tot.be exName (Tot.ifn (fun k => absurd k (by decide)) (fun _ => ?_)))))
    rw [bitloftref28_Check_c2_eq, hl]
    refine Tot.ifd_neg (by decide) ?_
    rw [bitloftref28_Check_c3_eq, hl]
    refine Tot.ifd_pos (by decide) ?_
    rw [bitloftref28_Check_c4_eq, e2]
    refine Tot.ifd_neg (by decide) ?_
    rw [bitloftref28_Check_c3_eq, hl]
    exact Tot.ifd_neg (by decide) (Tot.so rfl)
  have e2 : IntKind.wrap .i64 (0 + 1) = 1 := w64 (by decide) (by decide)
  have hrec : bitloftref28_record (exA, ([7], ())) = some (exA, (1, (shaB [7], ()))) := by
    rw [bitloftref28_record_eq]
    exact Tot.eq (Tot.be (Of_spec [7] (by decide)) (Tot.so rfl))
  rw [bitloftref28_Of_eq]
  refine Tot.eq (Tot.be hc (Tot.ifne_neg rfl ?_))
  rw [bitloftref28_Of_c1_eq, hl, g0, e2]
  refine Tot.ifd_pos (by decide) (Tot.g (by decide) (Tot.g (by decide) (Tot.be hrec (Tot.g (by show 1 * 48 ≤ _; decide) ?_))))
  rw [bitloftref28_Of_c1_eq, hl]
  exact Tot.ifd_neg (by decide) (Tot.so rfl)
theorem ref26_Bytes_ex : bitloftref26_Bytes exB.1 = some (hB exB.1) := by
  have hs : exB.1.2.2.2.2.2.1.length = 20 := shaB_len _
  rw [bitloftref26_Bytes_eq]
  refine Tot.eq (Tot.be (ref26_Front_spec _ ⟨by show (0:Int) ≤ 1; decide, by show (1:Int) < 256; decide⟩) ?_)
  rw [List.drop_zero, List.take_of_length_le (by omega)]
  exact Tot.g (by rw [List.length_append, fr8_len]; omega) (Tot.so rfl)
theorem example_spec : bitloftlaw34_example = some (exW, exR) := by
  have hfr : bitloftref30_Front (0, (16, ())) (Int.ofNat exR.length) = some [66, 76, 70, 1, 0, 0, 16, 1] := by
    rw [bitloftref30_Front_eq]
    refine Tot.eq (Tot.g (by decide) (Tot.so ?_))
    simp only [wu8]
    decide
  have e2 : IntKind.wrap .i64 (0 + 1) = 1 := w64 (by decide) (by decide)
  have hl : Int.ofNat exR.length = 1 := rfl
  have g0 : List.getD exR (Int.toNat 0) (pzero T_api_Record) = (exA, (1, (shaB [7], ()))) := rfl
  have hby : bitloftref28_Bytes exR = some ([1, 97, 0, 1] ++ shaB [7]) := by
    rw [bitloftref28_Bytes_eq, bitloftref28_Bytes_c1_eq, hl, g0, e2]
    simp only
    have o1 : ofStr exA = [97] := by decide
    have o2 : Int.ofNat (ByteArray.size exA) = 1 := rfl
    have o3 : List.take 20 (List.drop 0 (shaB [7])) = shaB [7] := by rw [List.drop_zero, List.take_of_length_le (by rw [shaB_len]; decide)]
    rw [o1, o2, o3]
    simp only [wu8]
    have o4 : (([] ++ [(1 : Int) % 256]) ++ [97] ++ [Int.fdiv 1 256 % 256, 1 % 256]) = [1, 97, 0, 1] := by decide
    rw [o4]
    refine Tot.eq (Tot.ifd_pos (by decide) (Tot.g (by decide) (Tot.g (by decide) (Tot.g (by decide) (Tot.g (by decide) (Tot.g (by decide) (Tot.g (by decide) (Tot.g ?_ ?_))))))))
    · rw [List.length_append, shaB_len]; decide
    · rw [bitloftref28_Bytes_c1_eq, hl]
      exact Tot.ifd_neg (by decide) (Tot.so rfl)
  have hhd : bitloftref30_Bytes (0, (16, ())) exR = some exH := by
    have o3 : List.take 20 (List.drop 0 (shaB exF)) = shaB exF := by rw [List.drop_zero, List.take_of_length_le (by rw [shaB_len]; decide)]
    have hFl := exF_len
    rw [bitloftref30_Bytes_eq]
    refine Tot.eq (Tot.be hfr (Tot.be hby ?_))
    show Tot (gd (exF.length * 1 ≤ 140737488355328) <| (bitloftref01_Of exF).bind fun r3 => gd ((exF ++ List.take 20 (List.drop 0 r3)).length * 1 ≤ 140737488355328) <| some (exF ++ List.take 20 (List.drop 0 r3))) _
    refine Tot.g (by omega) (Tot.be (Of_spec exF (by omega)) ?_)
    rw [o3]
    exact Tot.g (by rw [List.length_append, shaB_len]; omega) (Tot.so rfl)
  have hmd : bitloftref27_Made 0 0 [7] [7] = some exB := by
    rw [bitloftref27_Made_eq]
    refine Tot.eq (Tot.g (by decide) (Tot.ifd_neg (by decide) (Tot.be (ref26_Of_spec _ ⟨by decide, by decide⟩ (by decide)) (Tot.so rfl))))
  have hbb : bitloftref27_Bytes exB = some (bB exB) := by
    have hl2 : (mark ++ hB exB.1).length = 41 := by unfold hB; simp only [List.length_append, mark_len, fr8_len]; show 13 + (8 + (shaB _).length) = 41; rw [shaB_len]
    rw [bitloftref27_Bytes_eq]
    refine Tot.eq (Tot.be ref25_Bytes_spec (Tot.be ref26_Bytes_ex (Tot.g (by omega) (Tot.g (by rw [List.length_append, hl2]; decide) (Tot.so rfl)))))
  have hjn : bitloftref30_Join exH [exB] = some exW := by
    have hl3 : Int.ofNat (List.length [exB]) = 1 := rfl
    have g3 : List.getD [exB] (Int.toNat 0) (pzero T_api_Block) = exB := rfl
    have hHl := exH_len
    have hBl := exBB_len
    rw [bitloftref30_Join_eq, List.nil_append, bitloftref30_Join_c1_eq, hl3, g3, e2]
    refine Tot.eq (Tot.g (by omega) (Tot.ifd_pos (by decide) (Tot.g (by decide) (Tot.g (by decide) (Tot.be hbb (Tot.g (by rw [List.length_append]; omega) ?_))))))
    rw [bitloftref30_Join_c1_eq, hl3]
    exact Tot.ifd_neg (by decide) (Tot.so rfl)
  rw [bitloftlaw34_example_eq]
  refine Tot.eq (Tot.be exOf (Tot.be hhd (Tot.be hmd (Tot.be hjn (Tot.so rfl)))))
set_option maxRecDepth 100000 in
theorem exH_free : ∀ j : Fin 52, ¬ hd13 (exW.drop j.val) := by decide +kernel
theorem exRaw {l : Int} (hl : 0 ≤ l ∧ l ≤ 7) : block_Raw l exB = some ([7], 0) := by
  rw [Raw_stored hl rfl exB_ok b7]; exact congrArg some (if_pos rfl)
def exFd (k : Int) : D_api_Found := (k, (exB.1, ([7], ())))
theorem cand_ex {l : Int} (hl : 0 ≤ l ∧ l ≤ 7) : cand l (bB exB) = some (exB.1, [7], 42) := by
  have hr := rd_bB (more := []) exB_ok (stored_bWf 0 0 [7]) (by show 0 ≤ 40000; decide)
  rw [List.append_nil] at hr
  have h13 : hd13 (bB exB) := by rw [exBB]; rfl
  unfold cand
  rw [hr, if_pos ⟨h13, rfl⟩]
  simp only
  rw [exRaw hl]
  rfl
theorem sv_ex {l : Int} (hl : 0 ≤ l ∧ l ≤ 7) : svA l exW 0 = [exFd 52] := by
  have hd : exW.drop 52 = bB exB := by
    unfold exW
    rw [List.drop_append_of_le_length (by rw [exH_len]; decide), List.drop_of_length_le (by rw [exH_len]; decide), List.nil_append]
  rw [svA_skip 52 exW 0 (fun j hj => exH_free ⟨j, hj⟩), hd, svA_some (cand_ex hl)]
  simp only
  rw [List.drop_of_length_le (by rw [exBB_len]; decide)]
  rfl
end Go.Ab

/-
  Chapter 34: alive; bytes before others.
-/
set_option linter.unusedVariables false
set_option linter.unusedSimpArgs false
set_option maxRecDepth 10000
namespace Go.Ab
open Go
attribute [local irreducible] IntKind.wrap
def exZ : List Int := List.replicate 10 0 ++ exW
set_option maxRecDepth 100000 in
theorem exZ_free : ∀ j : Fin 62, ¬ hd13 (exZ.drop j.val) := by decide +kernel
theorem exZ_bts : Bts exZ := Bts.append (fun x hx => by rw [List.eq_of_mem_replicate hx]; omega) exW_bts
theorem sv_exZ {l : Int} (hl : 0 ≤ l ∧ l ≤ 7) : svA l exZ 0 = [exFd 62] := by
  have hd : exZ.drop 62 = bB exB := by
    have e : exZ = (List.replicate 10 0 ++ exH) ++ bB exB := by unfold exZ exW; rw [List.append_assoc]
    have e2 : (List.replicate 10 (0:Int) ++ exH).length = 62 := by rw [List.length_append, exH_len, List.length_replicate]
    rw [e, List.drop_append_of_le_length (by omega), List.drop_of_length_le (by omega), List.nil_append]
  rw [svA_skip 62 exZ 0 (fun j hj => exZ_free ⟨j, hj⟩), hd, svA_some (cand_ex hl)]
  simp only
  rw [List.drop_of_length_le (by rw [exBB_len]; decide)]
  rfl
def exC : List Int := exH ++ (mark ++ ([1, 0, 0, 0, 0, 1, 0, 1] ++ shaB [1, 0, 0, 0, 0, 1, 0, 1, 7]) ++ [8])
def exCB : D_api_Block := (exB.1, ([8], ()))
theorem exCBB : bB exCB = mark ++ ([1, 0, 0, 0, 0, 1, 0, 1] ++ shaB [1, 0, 0, 0, 0, 1, 0, 1, 7]) ++ [8] := rfl
theorem exC_set : exW.set 93 8 = exC := by
  have h : exW = (exH ++ (mark ++ ([1, 0, 0, 0, 0, 1, 0, 1] ++ shaB [1, 0, 0, 0, 0, 1, 0, 1, 7]))) ++ [7] := by unfold exW; rw [exBB]; simp only [List.append_assoc]
  have hl : (exH ++ (mark ++ ([1, 0, 0, 0, 0, 1, 0, 1] ++ shaB [1, 0, 0, 0, 0, 1, 0, 1, 7]))).length = 93 := by simp only [List.length_append, exH_len, mark_len, shaB_len]; rfl
  have h2 : exC = (exH ++ (mark ++ ([1, 0, 0, 0, 0, 1, 0, 1] ++ shaB [1, 0, 0, 0, 0, 1, 0, 1, 7]))) ++ [8] := by unfold exC; simp only [List.append_assoc]
  rw [h, h2, List.set_append_right _ _ (by omega), hl]
  rfl
set_option maxRecDepth 100000 in
theorem exC_free : ∀ j : Fin 52, ¬ hd13 (exC.drop j.val) := by decide +kernel
set_option maxRecDepth 100000 in
theorem exC_free2 : ∀ j : Fin 41, ¬ hd13 (exC.drop (53 + j.val)) := by decide +kernel
set_option maxRecDepth 100000 in
theorem sum_ne : shaB [1, 0, 0, 0, 0, 1, 0, 1, 8] ≠ shaB [1, 0, 0, 0, 0, 1, 0, 1, 7] := by decide +kernel
theorem exC_len : exC.length = 94 := by rw [← exC_set, List.length_set, exW_len]
theorem exC_bts : Bts exC := by rw [← exC_set]; exact set_all exW_bts (by decide) _
theorem sv_exC {l : Int} (hl : 0 ≤ l ∧ l ≤ 7) : svA l exC 0 = [] := by
  have hd : exC.drop 52 = bB exCB := by
    unfold exC
    rw [List.drop_append_of_le_length (by rw [exH_len]; decide), List.drop_of_length_le (by rw [exH_len]; decide), List.nil_append, exCBB]
  have hc : bC exCB = 0 := if_pos ⟨mOK_stored m7 _, rfl⟩
  have hr := rd_bB (b := exCB) (more := []) hc (stored_bWf 0 0 [7]) (by show 0 ≤ 40000; decide)
  rw [List.append_nil] at hr
  have hraw : block_Raw l exCB = some ([], 22) := by
    rw [Raw_stored hl rfl hc (lit_bts (by decide))]
    exact congrArg some (if_neg sum_ne)
  have h13 : hd13 (bB exCB) := by rw [exCBB]; rfl
  have hn : cand l (bB exCB) = none := by
    unfold cand
    rw [hr, if_pos ⟨h13, rfl⟩]
    simp only
    rw [hraw]
    rfl
  rw [svA_skip 52 exC 0 (fun j hj => exC_free ⟨j, hj⟩), hd, svA_none hn, ← hd, List.drop_drop]
  refine svA_never (fun j => ?_) _
  rw [List.drop_drop]
  by_cases h : j < 41
  · exact exC_free2 ⟨j, h⟩
  · rw [List.drop_of_length_le (by rw [exC_len]; omega)]
    decide
theorem exValid : member_Valid exR = some 0 := by
  have hl : Int.ofNat exR.length = 1 := rfl
  have g0 : List.getD exR (Int.toNat 0) (pzero T_api_Record) = (exA, (1, (shaB [7], ()))) := rfl
  have e2 : IntKind.wrap .i64 (0 + 1) = 1 := w64 (by decide) (by decide)
  have hn : member_isName exA = some true := by
    have hs : Int.ofNat (ByteArray.size exA) = 1 := rfl
    have e : btAt exA (Int.toNat 0) = 97 := by decide
    rw [member_isName_eq, member_isName_c1_eq, hs, e, e2]
    refine Tot.eq (Tot.ifd_pos (by decide) (Tot.g (by decide) (Tot.g (by decide) (Tot.ifd_neg (by decide) (Tot.g (by decide) (Tot.g (by decide) (Tot.ifd_neg (by decide) ?_)))))))
    rw [member_isName_c1_eq, hs]
    exact Tot.ifd_neg (by decide) (Tot.ifd_pos (by decide) (Tot.so (by decide)))
  have ht : member_twice [exA] = some false := by
    have hl3 : Int.ofNat (List.length [exA]) = 1 := rfl
    rw [member_twice_eq, member_twice_c1_eq, hl3, e2]
    refine Tot.eq (Tot.ifd_pos (by decide) (Tot.g (by decide) (Tot.g (by decide) (Tot.it (fun k => absurd k (by decide)) (fun _ => ?_)))))
    rw [member_twice_c1_eq]
    exact Tot.ifd_neg (by decide) (Tot.so rfl)
  rw [member_Valid_eq, member_Valid_c1_eq, hl, g0, e2]
  simp only
  refine Tot.eq (Tot.ifd_neg (by decide) (Tot.ifd_pos (by decide) (Tot.g (by decide) (Tot.g (by decide) (Tot.be hn (Tot.ifn (fun k => absurd k (by decide)) (fun _ => Tot.ifd_neg (by decide) (Tot.ifd_neg (by decide) (Tot.ifeq_neg (by decide) (Tot.g (by show 1 * 16 ≤ _; decide) ?_))))))))))
  rw [member_Valid_c1_eq]
  refine Tot.ifd_neg (by decide) (Tot.ifd_neg (by decide) (Tot.be ht (Tot.iff_ (Tot.so rfl))))
theorem exRebuild : salvage_Rebuild exR [] = some ([(exA, ([0], ()))], ([false], 0)) := by
  have hl : Int.ofNat exR.length = 1 := rfl
  have g0 : List.getD exR (Int.toNat 0) (pzero T_api_Record) = (exA, (1, (shaB [7], ()))) := rfl
  have e2 : IntKind.wrap .i64 (0 + 1) = 1 := w64 (by decide) (by decide)
  have hz : Int.ofNat (List.length ([] : List D_api_Found)) = 0 := rfl
  have hz2 : Int.ofNat (List.length ([] : List D_api_Part)) = 0 := rfl
  have hck : salvage_check exR [] = some 0 := by
    rw [salvage_check_eq, salvage_check_c1_eq, hz]
    exact Tot.eq (Tot.be exValid (Tot.ifne_neg rfl (Tot.ifd_neg (by decide) (Tot.ifd_neg (by decide) (Tot.so rfl)))))
  have hpt : salvage_Parts exR [] = some ([], 0) := by
    rw [salvage_Parts_eq, salvage_Parts_c1_eq, hz]
    exact Tot.eq (Tot.be hck (Tot.ifne_neg rfl (Tot.ifd_neg (by decide) (Tot.so rfl))))
  have hsum : sha_Sum [0] = some (shaB [0], 0) := by rw [Sum_spec [0] (lit_bts (by decide)), if_pos (by decide)]
  rw [salvage_Rebuild_eq]
  refine Tot.eq (Tot.be hpt (Tot.ifne_neg rfl ?_))
  simp only
  rw [salvage_Rebuild_c1_eq, hl, g0, hz2]
  refine Tot.ifd_pos (by decide) (Tot.g (by decide) (Tot.g (by decide) (Tot.g (by first | rfl | trivial) (Tot.g (by decide) (Tot.g (by decide) (Tot.g (by decide) ?_))))))
  have hrep : List.replicate (Int.toNat 1) (0:Int) = [0] := rfl
  rw [hrep, salvage_Rebuild_c2_eq, e2]
  refine Tot.ifd_neg (by decide) (Tot.be hsum (Tot.g (by show 1 * 40 ≤ _; decide) (Tot.ifeq_neg (by decide) (Tot.g (by decide) ?_))))
  rw [salvage_Rebuild_c1_eq]
  exact Tot.ifd_neg (by decide) (Tot.so rfl)
theorem alive34 : bitloftlaw34_alive = some true := by
  have h3 : (0:Int) ≤ 3 ∧ (3:Int) ≤ 7 := by decide
  have hW : salvage_Salvage 3 exW = some ([exFd 52], 0) := by
    rw [Salvage_spec 3 exW_bts, if_neg (by decide), if_neg (by rw [exW_len]; decide), sv_ex h3]
  have hZ : salvage_Salvage 3 (List.replicate 10 0 ++ exW) = some ([exFd 62], 0) := by
    have hl : exZ.length = 104 := by unfold exZ; rw [List.length_append, exW_len, List.length_replicate]
    have := Salvage_spec 3 exZ_bts
    rw [if_neg (by decide), if_neg (by omega), sv_exZ h3] at this
    exact this
  have hC : salvage_Salvage 3 exC = some ([], 0) := by
    rw [Salvage_spec 3 exC_bts, if_neg (by decide), if_neg (by rw [exC_len]; decide), sv_exC h3]
  have hwl := exW_len
  have hlen : Int.ofNat (List.length exW) = 94 := by rw [hwl]; rfl
  have hg : exW.getD 93 0 = 7 := by
    have h : exW = (exH ++ (mark ++ ([1, 0, 0, 0, 0, 1, 0, 1] ++ shaB [1, 0, 0, 0, 0, 1, 0, 1, 7]))) ++ [7] := by unfold exW; rw [exBB]; simp only [List.append_assoc]
    have hl : (exH ++ (mark ++ ([1, 0, 0, 0, 0, 1, 0, 1] ++ shaB [1, 0, 0, 0, 0, 1, 0, 1, 7]))).length = 93 := by simp only [List.length_append, exH_len, mark_len, shaB_len]; rfl
    rw [h, List.getD_eq_getElem?_getD, List.getElem?_append_right (by omega), hl]
    rfl
  have hw93 : IntKind.wrap .i64 (94 - 1) = 93 := w64 (by decide) (by decide)
  have hw8 : IntKind.wrap .u8 (7 + 1) = 8 := by rw [wu8]; decide
  have hsm : bitloftref28_SameMembers [(exA, (([0] : List Int), ()))] [(exA, ([0], ()))] = some true := by
    have hl : Int.ofNat (List.length [(exA, (([0] : List Int), ()))]) = 1 := rfl
    have e2 : IntKind.wrap .i64 (0 + 1) = 1 := w64 (by decide) (by decide)
    rw [bitloftref28_SameMembers_eq, bitloftref28_SameMembers_c1_eq, hl, e2]
    refine Tot.eq (Tot.ifne_neg rfl (Tot.ifd_pos (by decide) (Tot.g (by decide) (Tot.g (by decide) (Tot.g (by decide) (Tot.g (by decide) (Tot.ifn (fun k => absurd k (by simp)) (fun _ => Tot.g (by decide) (Tot.g (by decide) (Tot.g (by decide) (Tot.g (by decide) (Tot.ifn (fun k => absurd k (by simp)) (fun _ => ?_)))))))))))))
    rw [bitloftref28_SameMembers_c1_eq, hl]
    exact Tot.ifd_neg (by decide) (Tot.so rfl)
  have hsb : bitloftref33_SameBools [false] [false] = some true := by
    have hl : Int.ofNat (List.length [false]) = 1 := rfl
    have e2 : IntKind.wrap .i64 (0 + 1) = 1 := w64 (by decide) (by decide)
    rw [bitloftref33_SameBools_eq, bitloftref33_SameBools_c1_eq, hl, e2]
    refine Tot.eq (Tot.ifne_neg rfl (Tot.ifd_pos (by decide) (Tot.g (by decide) (Tot.g (by decide) (Tot.g (by decide) (Tot.g (by decide) (Tot.ifn (fun k => absurd k (by decide)) (fun _ => ?_))))))))
    rw [bitloftref33_SameBools_c1_eq, hl]
    exact Tot.ifd_neg (by decide) (Tot.so rfl)
  rw [bitloftlaw34_alive_eq]
  refine Tot.eq (Tot.be example_spec (Tot.be hW ?_))
  simp only [List.nil_append]
  rw [hlen, hw93]
  have e93 : 0 + Int.toNat 93 = 93 := rfl
  rw [e93, hg, hw8, exC_set]
  refine Tot.g (by first | rfl | trivial) (Tot.g (by decide) (Tot.g (by decide) (Tot.g (by decide) (Tot.g (by rw [List.length_append, hwl]; decide) (Tot.be hZ (Tot.g (by rw [hwl]; decide) (Tot.g (by decide) (Tot.g (by decide) (Tot.g (by decide) (Tot.g (by decide) (Tot.be hC (Tot.be exRebuild ?_))))))))))))
  refine Tot.ifeq_pos rfl (Tot.ifeq_pos rfl (Tot.g (by decide) (Tot.g (by decide) (Tot.ifeq_pos rfl (Tot.g (by decide) (Tot.g (by decide) (Tot.it (fun _ => ?_) (fun k => absurd ?_ k))))))))
  · refine Tot.ifeq_pos rfl (Tot.ifeq_pos rfl (Tot.g (by decide) (Tot.g (by decide) (Tot.ifeq_pos rfl (Tot.ifeq_pos rfl (Tot.ifeq_pos rfl (Tot.ifeq_pos rfl (Tot.be hsm (Tot.ift_ (Tot.be hsb (Tot.so rfl)))))))))))
  · rw [beq_iff_eq]
    rfl
end Go.Ab

/-
  Chapter 34: bytes before others.
-/
set_option linter.unusedVariables false
set_option linter.unusedSimpArgs false
set_option maxRecDepth 10000
namespace Go.Ab
open Go
attribute [local irreducible] IntKind.wrap
end Go.Ab

/-
  Records, parts and members: what chapter 34 leans on.
-/
set_option linter.unusedVariables false
set_option linter.unusedSimpArgs false
set_option maxHeartbeats 1000000
namespace Go.Ab
open Go
attribute [local irreducible] IntKind.wrap
theorem eqBA (a b : ByteArray) : (ByteArray.toList a == ByteArray.toList b) = decide (a = b) := by
  rw [Bool.eq_iff_iff, beq_iff_eq, decide_eq_true_eq]
  exact ⟨fun h => toList_inj h, fun h => by rw [h]⟩
theorem ofStr_len (s : ByteArray) : (ofStr s).length = s.size := by
  unfold ofStr
  rw [List.length_map, Array.length_toList]; rfl
def okC (x : Int) : Bool := decide (33 ≤ x) && decide (x ≤ 126)
def nmOK (s : ByteArray) : Bool := (ofStr s).all okC && decide (1 ≤ s.size) && decide (s.size ≤ 40)
theorem drop_at {xs : List Int} {i : Nat} (h : i < xs.length) : xs.drop i = xs.getD i 0 :: xs.drop (i + 1) := by
  rw [List.drop_eq_getElem_cons h, List.getD_eq_getElem?_getD, List.getElem?_eq_getElem h]; rfl
theorem isName_c1 (s : ByteArray) (hs : s.size ≤ 9223372036854775807) : ∀ (k i : Nat), i + k = s.size → member_isName_c1 s (s.size : Int) (i : Int) = some (((ofStr s).drop i).all okC && decide (1 ≤ s.size) && decide (s.size ≤ 40))
  | 0, i, e => by
    have hd : (ofStr s).drop i = [] := List.drop_eq_nil_of_le (by rw [ofStr_len]; omega)
    rw [member_isName_c1_eq, if_neg (by simp; omega), hd]
    have hl : Int.ofNat s.size = (s.size : Int) := rfl
    rw [hl]
    by_cases h : 1 ≤ s.size
    · rw [if_pos (by simp; omega)]
      simp [h]; omega
    · rw [if_neg (by rw [decide_eq_true_eq]; omega)]
      simp [h]
  | k + 1, i, e => by
    have hi : i < (ofStr s).length := by rw [ofStr_len]; omega
    have hb : btAt s ((i : Int)).toNat = (ofStr s).getD i 0 := by rw [Int.toNat_natCast]; rfl
    rw [member_isName_c1_eq, if_pos (by simp; omega), gd_pos (by omega), gd_pos (by omega), hb, drop_at hi, w64 (by omega) (by omega)]
    have ih := isName_c1 s hs k (i + 1) (by omega)
    rw [show ((i + 1 : Nat) : Int) = (i : Int) + 1 by omega] at ih
    by_cases h1 : (ofStr s).getD i 0 ≤ 32
    · rw [if_pos (by simpa using h1)]
      have : okC ((ofStr s).getD i 0) = false := by simp only [okC, Bool.and_eq_false_iff, decide_eq_false_iff_not]; left; omega
      simp only [List.all_cons, this, Bool.false_and]
    · rw [if_neg (by simpa using h1), gd_pos (by omega), gd_pos (by omega)]
      by_cases h2 : (ofStr s).getD i 0 > 126
      · rw [if_pos (by simpa using h2)]
        have : okC ((ofStr s).getD i 0) = false := by simp only [okC, Bool.and_eq_false_iff, decide_eq_false_iff_not]; right; omega
        simp only [List.all_cons, this, Bool.false_and]
      · rw [if_neg (by simpa using h2), ih]
        have : okC ((ofStr s).getD i 0) = true := by simp only [okC, Bool.and_eq_true, decide_eq_true_eq]; omega
        simp only [List.all_cons, this, Bool.true_and]
theorem member_isName_spec (s : ByteArray) (hs : s.size ≤ 9223372036854775807) : member_isName s = some (nmOK s) := by
  rw [member_isName_eq]
  exact isName_c1 s hs s.size 0 (by omega)
theorem mget_mset {α β : Type} {eq : α → α → Bool} (h : ∀ a b, eq a b = true ↔ a = b) (x y : α) (v : β) : ∀ m : List (α × β), mget eq x (mset eq y v m) = if eq x y then some v else mget eq x m
  | [] => by simp [mset, mget]
  | e :: r => by
    simp only [mset]
    by_cases hy : eq y e.1 = true
    · have := (h _ _).1 hy
      simp only [hy, if_true, mget]
      by_cases hx : eq x y = true
      · simp [hx]
      · have : eq x e.1 = false := by rw [← this]; simpa using hx
        simp [hx, this]
    · simp only [hy, Bool.false_eq_true, if_false, mget, mget_mset h x y v r]
      by_cases hx : eq x y = true
      · have e1 := (h _ _).1 hx
        subst e1
        simp [hx, hy]
      · simp [hx]
theorem peq_str (a b : ByteArray) : peq .str a b = decide (a = b) := eqBA a b
def memB (x : ByteArray) (xs : List ByteArray) : Bool := xs.any fun y => decide (x = y)
theorem memB_append (x y : ByteArray) (xs : List ByteArray) : memB x (xs ++ [y]) = (memB x xs || decide (x = y)) := by simp [memB]
def dupF (seen : List ByteArray) : List ByteArray → Bool
  | [] => false
  | x :: r => memB x seen || dupF (seen ++ [x]) r
theorem dropS_at {xs : List ByteArray} {i : Nat} (h : i < xs.length) : xs.drop i = xs.getD i ByteArray.empty :: xs.drop (i + 1) ∧ xs.take (i + 1) = xs.take i ++ [xs.getD i ByteArray.empty] := by
  have e : xs.getD i ByteArray.empty = xs[i] := by rw [List.getD_eq_getElem?_getD, List.getElem?_eq_getElem h]; rfl
  rw [e]
  exact ⟨List.drop_eq_getElem_cons h, by rw [List.take_add_one, List.getElem?_eq_getElem h]; rfl⟩
theorem twice_c1 (xs : List ByteArray) (hx : xs.length ≤ 9223372036854775807) : ∀ (k i : Nat) (m : List (ByteArray × Bool)), i + k = xs.length → (∀ x, Option.getD (mget (peq .str) x m) false = memB x (xs.take i)) → member_twice_c1 xs (xs.length : Int) (i : Int) m = some (dupF (xs.take i) (xs.drop i))
  | 0, i, m, e, hm => by
    rw [member_twice_c1_eq, if_neg (by simp; omega), List.drop_eq_nil_of_le (by omega)]; rfl
  | k + 1, i, m, e, hm => by
    have hl : Int.ofNat xs.length = (xs.length : Int) := rfl
    obtain ⟨d1, d2⟩ := dropS_at (xs := xs) (i := i) (by omega)
    rw [member_twice_c1_eq, if_pos (by simp; omega), gd_pos (by omega), gd_pos (by rw [hl]; omega), Int.toNat_natCast, hm, d1, dupF]
    by_cases h : memB (xs.getD i ByteArray.empty) (xs.take i) = true
    · rw [if_pos h, h]; rfl
    · rw [if_neg h, w64 (by omega) (by omega)]
      have ih := twice_c1 xs hx k (i + 1) (mset (peq .str) (xs.getD i ByteArray.empty) true m) (by omega) (fun x => by
        rw [mget_mset (fun a b => by rw [peq_str]; simp), d2, peq_str, memB_append, ← hm]
        by_cases hx : x = xs.getD i ByteArray.empty
        · rw [if_pos (by simp [hx])]; simp [hx]
        · rw [decide_eq_false hx, if_neg (by simp), Bool.or_false])
      rw [show ((i + 1 : Nat) : Int) = (i : Int) + 1 by omega] at ih
      rw [ih, d2, Bool.eq_false_iff.2 h]; rfl
theorem member_twice_spec (xs : List ByteArray) (hx : xs.length ≤ 9223372036854775807) : member_twice xs = some (dupF [] xs) := by
  rw [member_twice_eq]
  exact twice_c1 xs hx xs.length 0 [] (by omega) (fun x => by simp [mget, memB])
def badR (r : D_api_Record) : Bool := !nmOK r.1 || decide (r.2.1 < 0) || decide (r.2.1 > 8192) || (r.2.1 == 0 && !peq (.arr 20 (.int .u8)) r.2.2.1 (shaB []))
def vld (acc : Int) (nm : List ByteArray) : List D_api_Record → Int
  | [] => if acc > 8192 then 4 else if dupF [] nm then 14 else 0
  | r :: rest => if badR r then 8 else vld (acc + r.2.1) (nm ++ [r.1]) rest
def valid (rs : List D_api_Record) : Int := if rs.length > 16 then 4 else vld 0 [] rs
def RecsOK (rs : List D_api_Record) : Prop := rs.length ≤ 9223372036854775807 ∧ ∀ r ∈ rs, r.1.size ≤ 9223372036854775807
theorem dropR_at {α : Type} {xs : List α} {i : Nat} (d : α) (h : i < xs.length) : xs.drop i = xs.getD i d :: xs.drop (i + 1) ∧ xs.take (i + 1) = xs.take i ++ [xs.getD i d] ∧ xs.getD i d ∈ xs := by
  have e : xs.getD i d = xs[i] := by rw [List.getD_eq_getElem?_getD, List.getElem?_eq_getElem h]; rfl
  rw [e]
  exact ⟨List.drop_eq_getElem_cons h, by rw [List.take_add_one, List.getElem?_eq_getElem h]; rfl, List.getElem_mem h⟩
theorem digest_nil : member_digest [] = some (shaB []) := by
  rw [member_digest_eq, Sum_spec [] Bts.nil]; rfl
theorem Valid_c1 (rs : List D_api_Record) (hR : RecsOK rs) (hn : rs.length ≤ 16) : ∀ (k i : Nat) (acc : Int) (nm : List ByteArray), i + k = rs.length → nm.length = i → 0 ≤ acc → acc ≤ 8192 * i → member_Valid_c1 acc rs (rs.length : Int) (i : Int) nm = some (vld acc nm (rs.drop i))
  | 0, i, acc, nm, e, hl, a0, a1 => by
    rw [member_Valid_c1_eq, if_neg (by simp; omega), List.drop_eq_nil_of_le (by omega), vld]
    by_cases h : acc > 8192
    · rw [if_pos (by simpa using h), if_pos h]
    · rw [if_neg (by simpa using h), if_neg h, member_twice_spec _ (by omega)]
      simp only [Option.bind_some]
      by_cases h : dupF [] nm = true
      · rw [if_pos h, if_pos h]
      · rw [if_neg h, if_neg h]
  | k + 1, i, acc, nm, e, hl, a0, a1 => by
    have hl' : Int.ofNat rs.length = (rs.length : Int) := rfl
    obtain ⟨d1, d2, d3⟩ := dropR_at (pzero T_api_Record : D_api_Record) (xs := rs) (i := i) (by omega)
    rw [member_Valid_c1_eq, if_pos (by simp; omega), gd_pos (by omega), gd_pos (by rw [hl']; omega), Int.toNat_natCast, d1, vld]
    generalize hr : (List.getD rs i (pzero T_api_Record) : D_api_Record) = r at d3 ⊢
    rw [member_isName_spec _ (hR.2 r d3)]
    simp only [Option.bind_some, digest_nil]
    by_cases h1 : nmOK r.1 = true
    · rw [if_neg (by simp [h1])]
      by_cases h2 : r.2.1 < 0
      · rw [if_pos (by simpa using h2), if_pos (by simp [badR, h2])]
      · rw [if_neg (by simpa using h2)]
        by_cases h3 : r.2.1 > 8192
        · rw [if_pos (by simpa using h3), if_pos (by simp [badR, h3])]
        · rw [if_neg (by simpa using h3)]
          have ih := Valid_c1 rs hR hn k (i + 1) (acc + r.2.1) (nm ++ [r.1]) (by omega) (by simp; omega) (by omega) (by omega)
          rw [show ((i + 1 : Nat) : Int) = (i : Int) + 1 by omega] at ih
          rw [w64 (x := (i : Int) + 1) (by omega) (by omega), w64 (x := acc + r.2.1) (by omega) (by omega), ih]
          by_cases h4 : r.2.1 = 0
          · rw [if_pos (by simp [h4])]
            by_cases h5 : peq (.arr 20 (.int .u8)) r.2.2.1 (shaB []) = true
            · rw [if_neg (by simp [h5]), gd_pos (by simp; omega), if_neg (by simp [badR, h1, h4, h5])]
            · rw [if_pos (by simpa using h5), if_pos (by simp [badR, h4, h5])]
          · rw [if_neg (by simpa using h4), gd_pos (by simp; omega), if_neg (by simp [badR, h1, h4]; omega)]
    · rw [if_pos (by simpa using h1), if_pos (by simp [badR, h1])]
theorem member_Valid_spec (rs : List D_api_Record) (hR : RecsOK rs) : member_Valid rs = some (valid rs) := by
  have hl : Int.ofNat rs.length = (rs.length : Int) := rfl
  rw [member_Valid_eq, hl, valid]
  by_cases h : rs.length > 16
  · rw [if_pos (by simp; omega), if_pos h]
  · rw [if_neg (by simp; omega), if_neg h]
    exact Valid_c1 rs hR (by omega) rs.length 0 0 [] (by omega) rfl (by omega) (by omega)
def names (rs : List D_api_Record) : List ByteArray := rs.map (·.1)
def tot : List D_api_Record → Int
  | [] => 0
  | r :: rest => r.2.1 + tot rest
structure RecsV (rs : List D_api_Record) : Prop where
  len : rs.length ≤ 16
  each : ∀ r ∈ rs, 0 ≤ r.2.1 ∧ r.2.1 ≤ 8192 ∧ r.1.size ≤ 40
  tot : tot rs ≤ 8192
theorem vld_zero : ∀ (rs : List D_api_Record) (acc : Int) (nm : List ByteArray), vld acc nm rs = 0 → (∀ r ∈ rs, 0 ≤ r.2.1 ∧ r.2.1 ≤ 8192 ∧ r.1.size ≤ 40) ∧ acc + tot rs ≤ 8192
  | [], acc, nm, h => by
    simp only [vld] at h
    by_cases h1 : acc > 8192
    · rw [if_pos h1] at h; omega
    · exact ⟨fun r hr => (by cases hr), by simp only [tot]; omega⟩
  | r :: rest, acc, nm, h => by
    simp only [vld] at h
    by_cases hb : badR r = true
    · rw [if_pos hb] at h; omega
    · rw [if_neg hb] at h
      obtain ⟨h1, h2⟩ := vld_zero rest _ _ h
      simp only [badR, nmOK, Bool.or_eq_true, Bool.not_eq_true', Bool.and_eq_false_iff, decide_eq_true_eq, decide_eq_false_iff_not, not_or] at hb
      refine ⟨fun q hq => ?_, by simp only [tot]; omega⟩
      rcases List.mem_cons.1 hq with rfl | hq
      · have := hb.1.1.1.2
        exact ⟨by omega, by omega, by omega⟩
      · exact h1 q hq
theorem valid_zero {rs : List D_api_Record} (h : valid rs = 0) : RecsV rs := by
  unfold valid at h
  split at h
  · omega
  · obtain ⟨h1, h2⟩ := vld_zero rs 0 [] h
    exact ⟨by omega, h1, by omega⟩
instance (h : D_api_BlockHead) : Decidable (hOK h) := by unfold hOK; infer_instance
def isP (h : D_api_BlockHead) (p : D_api_Piece) : Prop := h.2.1 = p.1 ∧ h.2.2.1 = p.2.1 ∧ h.2.2.2.1 = p.2.2.1
instance (h : D_api_BlockHead) (p : D_api_Piece) : Decidable (isP h p) := by unfold isP; infer_instance
def rightB (h : D_api_BlockHead) (raw : List Int) : Bool × Int :=
  if hOK h then (if (raw.length : Int) = h.2.2.2.1 then (peq (.arr 20 (.int .u8)) (shaB (fr8 h ++ raw)) h.2.2.2.2.2.1, 0) else (false, 0)) else (false, 8)
theorem fr8_len8 (h : D_api_BlockHead) : (fr8 h).length = 8 := rfl
theorem hOK_raw' {h : D_api_BlockHead} (ok : hOK h) : 1 ≤ h.2.2.2.1 ∧ h.2.2.2.1 ≤ 4096 := by unfold hOK at ok; omega
theorem header_Right_spec (h : D_api_BlockHead) (hm : 0 ≤ h.1 ∧ h.1 < 256) (raw : List Int) (hb : Bts raw) : header_Right h raw = some (rightB h raw) := by
  have hl' : Int.ofNat raw.length = (raw.length : Int) := rfl
  rw [header_Right_eq, header_Check_spec, hl']
  simp only [Option.bind_some, hC_ne, rightB]
  by_cases ok : hOK h
  · have hr := hOK_raw' ok
    rw [if_neg (fun k => k ok), if_pos ok]
    by_cases e : (raw.length : Int) = h.2.2.2.1
    · rw [if_pos (by simpa using e), if_pos e, header_digest_eq, header_front_spec h hm]
      simp only [Option.bind_some]
      have hlen : (fr8 h ++ raw).length = 8 + raw.length := by rw [List.length_append, fr8_len8]
      rw [gd_pos (by omega), Sum_spec _ ((fr8_bts h).append hb), if_pos (by omega)]
      rfl
    · rw [if_neg (by simpa using e), if_neg e]
  · rw [if_pos ok, if_neg ok]
    have : hC h = 8 := by unfold hC; rw [if_neg ok]
    rw [this]
def fOK (f : D_api_Found) : Prop := hOK f.2.1 ∧ (f.2.2.1.length : Int) = f.2.1.2.2.2.1 ∧ peq (.arr 20 (.int .u8)) (shaB (fr8 f.2.1 ++ f.2.2.1)) f.2.1.2.2.2.2.2.1 = true ∧ 0 ≤ f.1
theorem fOK_iff (f : D_api_Found) : fOK f ↔ (rightB f.2.1 f.2.2.1).1 = true ∧ 0 ≤ f.1 := by
  unfold fOK rightB
  by_cases h1 : hOK f.2.1 <;> by_cases h2 : (f.2.2.1.length : Int) = f.2.1.2.2.2.1 <;> simp [h1, h2]
instance (f : D_api_Found) : Decidable (fOK f) := by unfold fOK; infer_instance
def FndOK (fs : List D_api_Found) : Prop := fs.length ≤ 2000 ∧ ∀ f ∈ fs, (0 ≤ f.2.1.1 ∧ f.2.1.1 < 256) ∧ Bts f.2.2.1
def allF : List D_api_Found → Int
  | [] => 0
  | f :: r => if fOK f then allF r else 8
def fck (rs : List D_api_Record) (fs : List D_api_Found) : Int := if valid rs ≠ 0 then valid rs else if fs.length > 600 then 4 else allF fs
theorem schk_c1 (fs : List D_api_Found) (hF : FndOK fs) : ∀ (k i : Nat), i + k = fs.length → salvage_check_c1 fs (fs.length : Int) (i : Int) = some (allF (fs.drop i))
  | 0, i, e => by
    rw [salvage_check_c1_eq, if_neg (by simp; omega), List.drop_eq_nil_of_le (by omega)]; rfl
  | k + 1, i, e => by
    have hb := hF.1
    have hl' : Int.ofNat fs.length = (fs.length : Int) := rfl
    obtain ⟨d1, d2, d3⟩ := dropR_at (pzero T_api_Found : D_api_Found) (xs := fs) (i := i) (by omega)
    have hv := hF.2 _ d3
    have ih := schk_c1 fs hF k (i + 1) (by omega)
    rw [show ((i + 1 : Nat) : Int) = (i : Int) + 1 by omega] at ih
    rw [salvage_check_c1_eq, if_pos (by simp; omega), gd_pos (by omega), gd_pos (by rw [hl']; omega), Int.toNat_natCast, d1]
    generalize fs.getD i (pzero T_api_Found) = f at *
    rw [header_Right_spec _ hv.1 _ hv.2]
    simp only [Option.bind_some, allF]
    by_cases h1 : (rightB f.2.1 f.2.2.1).1 = true
    · rw [if_neg (by rw [h1]; decide)]
      by_cases h2 : f.1 < 0
      · rw [if_pos (by simpa using h2), if_neg (fun k => by have := ((fOK_iff f).1 k).2; omega)]
      · rw [if_neg (by simpa using h2), w64 (by omega) (by omega), ih, if_pos ((fOK_iff f).2 ⟨h1, by omega⟩)]
    · rw [if_pos (by simpa using h1), if_neg (fun k => h1 ((fOK_iff f).1 k).1)]
theorem salvage_check_spec (rs : List D_api_Record) (hR : RecsOK rs) (fs : List D_api_Found) (hF : FndOK fs) : salvage_check rs fs = some (fck rs fs) := by
  rw [salvage_check_eq, member_Valid_spec rs hR]
  simp only [Option.bind_some, fck]
  by_cases hv : valid rs = 0
  · rw [if_neg (by simp [hv]), if_neg (show ¬ valid rs ≠ 0 from fun k => k hv)]
    by_cases hl : fs.length > 600
    · rw [if_pos (by simp; omega), if_pos hl]
    · rw [if_neg (by simp; omega), if_neg hl]
      exact schk_c1 fs hF fs.length 0 (by omega)
  · rw [if_pos (by simpa using hv), if_pos hv]
open Classical
def partOf (f : D_api_Found) : D_api_Part := ((f.2.1.2.1, (f.2.1.2.2.1, (f.2.1.2.2.2.1, ()))), (f.2.2.1, ()))
def cov (q : D_api_Part) (k x c : Int) : Prop := q.1.1 = k ∧ q.1.2.1 ≤ x ∧ x < q.1.2.1 + (q.2.1.length : Int) ∧ q.2.1.getD (x - q.1.2.1).toNat 0 = c
def okAt (q p : D_api_Part) (i : Nat) : Prop := ∀ c, cov q p.1.1 (p.1.2.1 + i) c → c = p.2.1.getD i 0
def agr (out : List D_api_Part) (p : D_api_Part) : Prop := ∀ q ∈ out, ∀ i, i < p.2.1.length → okAt q p i
def wthn (rs : List D_api_Record) (f : D_api_Found) : Prop := f.2.1.2.1 < (rs.length : Int) ∧ f.2.1.2.2.1 + f.2.1.2.2.2.1 ≤ (rs.getD f.2.1.2.1.toNat (pzero T_api_Record)).2.1
noncomputable def prt (rs : List D_api_Record) : List D_api_Found → List D_api_Part → List D_api_Part
  | [], out => out
  | f :: fs, out => if wthn rs f ∧ agr out (partOf f) then prt rs fs (out ++ [partOf f]) else prt rs fs out
structure PtOK (p : D_api_Part) : Prop where
  mem : 0 ≤ p.1.1 ∧ p.1.1 < 16
  off : 0 ≤ p.1.2.1 ∧ p.1.2.1 ≤ 8192
  len : p.2.1.length ≤ 4096
theorem partOf_ok {f : D_api_Found} (h : fOK f) : PtOK (partOf f) := by
  obtain ⟨h1, h2, _, _⟩ := h
  unfold hOK at h1
  exact ⟨⟨by unfold partOf; simp only; omega, by unfold partOf; simp only; omega⟩, ⟨by unfold partOf; simp only; omega, by unfold partOf; simp only; omega⟩, by unfold partOf; simp only; omega⟩
theorem prt_len (rs : List D_api_Record) : ∀ (fs : List D_api_Found) (out : List D_api_Part), (prt rs fs out).length ≤ out.length + fs.length
  | [], out => by simp [prt]
  | f :: fs, out => by
    unfold prt
    split
    · have := prt_len rs fs (out ++ [partOf f]); simp at this ⊢; omega
    · have := prt_len rs fs out; simp at this ⊢; omega
abbrev Pl := D_api_Settings
abbrev plEq : Pl → Pl → Bool := peq T_api_Settings
theorem plEq_iff (a b : Pl) : plEq a b = true ↔ a = b := ⟨fun h => peq_eq (t := T_api_Settings) (by decide) h, fun h => by subst h; simp [peq]⟩
def ky (k x : Int) : Pl := (k, (x, ()))
def Mp (m : List (Pl × Int)) (out : List D_api_Part) : Prop := ∀ k x c, mget plEq (ky k x) m = some c ↔ ∃ q ∈ out, cov q k x c
theorem fits_c1 (data : List Int) (hd : data.length ≤ 5000) (b0 : List D_api_Record) (m : List (Pl × Int)) (f : D_api_Found) (h : D_api_BlockHead) (ho : 0 ≤ h.2.2.1 ∧ h.2.2.1 ≤ 8192) : ∀ (k i : Nat), i + k = data.length →
    salvage_Parts_1_c1 data (data.length : Int) (i : Int) b0 m f h = if ∀ i', i ≤ i' → i' < data.length → ∀ c, mget plEq (ky h.2.1 (h.2.2.1 + i')) m = some c → c = data.getD i' 0 then salvage_Parts_1_c2 f.2.2.1 (Int.ofNat f.2.2.1.length) 0 b0 m h else some (false, (b0, ((), m)))
  | 0, i, e => by
    rw [salvage_Parts_1_c1_eq, if_neg (by simp; omega), if_pos (fun i' a b => by omega)]
  | k + 1, i, e => by
    have hl' : Int.ofNat data.length = (data.length : Int) := rfl
    have ih := fits_c1 data hd b0 m f h ho k (i + 1) (by omega)
    rw [show ((i + 1 : Nat) : Int) = (i : Int) + 1 by omega] at ih
    rw [salvage_Parts_1_c1_eq, if_pos (by simp; omega), gd_pos (by omega), gd_pos (by rw [hl']; omega), Int.toNat_natCast, w64 (x := h.2.2.1 + i) (by omega) (by omega), w64 (x := (i : Int) + 1) (by omega) (by omega), ih]
    show (if (mget plEq (ky h.2.1 (h.2.2.1 + (i : Int))) m).isSome = true then _ else _) = _
    have step : (∀ c, mget plEq (ky h.2.1 (h.2.2.1 + (i : Int))) m = some c → c = data.getD i 0) → (if ∀ i', i + 1 ≤ i' → i' < data.length → ∀ c, mget plEq (ky h.2.1 (h.2.2.1 + i')) m = some c → c = data.getD i' 0 then salvage_Parts_1_c2 f.2.2.1 (Int.ofNat f.2.2.1.length) 0 b0 m h else some (false, (b0, ((), m)))) = (if ∀ i', i ≤ i' → i' < data.length → ∀ c, mget plEq (ky h.2.1 (h.2.2.1 + i')) m = some c → c = data.getD i' 0 then salvage_Parts_1_c2 f.2.2.1 (Int.ofNat f.2.2.1.length) 0 b0 m h else some (false, (b0, ((), m)))) := fun hh => by
      by_cases hc : ∀ i', i + 1 ≤ i' → i' < data.length → ∀ c, mget plEq (ky h.2.1 (h.2.2.1 + i')) m = some c → c = data.getD i' 0
      · rw [if_pos hc, if_pos (fun i' a b => by
          by_cases e : i' = i
          · rw [e]; exact hh
          · exact hc i' (by omega) b)]
      · rw [if_neg hc, if_neg (fun k => hc (fun i' a b => k i' (by omega) b))]
    cases hg : mget plEq (ky h.2.1 (h.2.2.1 + (i : Int))) m with
    | none =>
      rw [if_neg (by simp)]
      exact step (fun c hc => by rw [hg] at hc; cases hc)
    | some c0 =>
      rw [if_pos (by simp)]
      have hg' : mget (peq T_api_Settings) (h.2.1, (h.2.2.1 + (i : Int), ())) m = some c0 := hg
      rw [hg', Option.getD_some]
      by_cases hc : c0 = data.getD i 0
      · rw [if_neg (by rw [hc]; simp)]
        exact step (fun c h' => by rw [hg] at h'; injection h' with h'; rw [← h', hc])
      · rw [if_pos (bne_iff_ne.2 hc), if_neg (fun k => hc (k i (Nat.le_refl _) (by omega) c0 hg))]
def putM (k o : Int) (data : List Int) : Nat → Nat → List (Pl × Int) → List (Pl × Int)
  | 0, _, m => m
  | n + 1, i, m => putM k o data n (i + 1) (mset plEq (ky k (o + i)) (data.getD i 0) m)
theorem fits_c2 (data : List Int) (hd : data.length ≤ 5000) (b0 : List D_api_Record) (h : D_api_BlockHead) (ho : 0 ≤ h.2.2.1 ∧ h.2.2.1 ≤ 8192) : ∀ (k i : Nat) (m : List (Pl × Int)), i + k = data.length →
    salvage_Parts_1_c2 data (data.length : Int) (i : Int) b0 m h = some (true, (b0, ((), putM h.2.1 h.2.2.1 data k i m)))
  | 0, i, m, e => by
    rw [salvage_Parts_1_c2_eq, if_neg (by simp; omega)]; rfl
  | k + 1, i, m, e => by
    have hl' : Int.ofNat data.length = (data.length : Int) := rfl
    have ih := fits_c2 data hd b0 h ho k (i + 1) (mset plEq (ky h.2.1 (h.2.2.1 + i)) (data.getD i 0) m) (by omega)
    rw [show ((i + 1 : Nat) : Int) = (i : Int) + 1 by omega] at ih
    rw [salvage_Parts_1_c2_eq, if_pos (by simp; omega), gd_pos (by omega), gd_pos (by rw [hl']; omega), Int.toNat_natCast, w64 (x := h.2.2.1 + i) (by omega) (by omega), w64 (x := (i : Int) + 1) (by omega) (by omega)]
    exact ih
theorem ky_inj {k x k' x' : Int} : ky k x = ky k' x' ↔ k = k' ∧ x = x' := by simp [ky]
theorem putM_get (k o : Int) (data : List Int) (k' x : Int) : ∀ (n i : Nat) (m : List (Pl × Int)), i + n = data.length → mget plEq (ky k' x) (putM k o data n i m) = if k' = k ∧ o + i ≤ x ∧ x < o + (data.length : Int) then some (data.getD (x - o).toNat 0) else mget plEq (ky k' x) m
  | 0, i, m, e => by
    unfold putM
    rw [if_neg (by omega)]
  | n + 1, i, m, e => by
    unfold putM
    rw [putM_get k o data k' x n (i + 1) _ (by omega), mget_mset plEq_iff]
    by_cases h1 : k' = k ∧ o + ((i + 1 : Nat) : Int) ≤ x ∧ x < o + (data.length : Int)
    · rw [if_pos h1, if_pos (by omega)]
    · rw [if_neg h1]
      by_cases h2 : k' = k ∧ x = o + i
      · rw [if_pos ((plEq_iff _ _).2 (ky_inj.2 h2)), if_pos (by omega), show (x - o).toNat = i by omega]
      · rw [if_neg (fun h => h2 (ky_inj.1 ((plEq_iff _ _).1 h)))]
        by_cases h3 : k' = k ∧ o + (i : Int) ≤ x ∧ x < o + (data.length : Int)
        · omega
        · rw [if_neg h3]
theorem fits_spec (rs : List D_api_Record) (hR : RecsV rs) (f : D_api_Found) (hf : fOK f) (m : List (Pl × Int)) (out : List D_api_Part) (hM : Mp m out) :
    ∃ m', salvage_Parts_1 f rs m = some (decide (wthn rs f ∧ agr out (partOf f)), (rs, ((), m'))) ∧ Mp m' (if wthn rs f ∧ agr out (partOf f) then out ++ [partOf f] else out) := by
  have hl' : Int.ofNat rs.length = (rs.length : Int) := rfl
  have hl2 : Int.ofNat f.2.2.1.length = (f.2.2.1.length : Int) := rfl
  have hO := hf.1
  have hlen := hf.2.1
  unfold hOK at hO
  rw [salvage_Parts_1_eq, hl']
  by_cases h1 : f.2.1.2.1 < (rs.length : Int)
  · have hm : f.2.1.2.1.toNat < rs.length := by omega
    have hv := hR.each _ (dropR_at (pzero T_api_Record : D_api_Record) hm).2.2
    rw [if_neg (by simpa using h1), gd_pos (by omega), gd_pos (by omega), w64 (by omega) (by omega)]
    by_cases h2 : f.2.1.2.2.1 + f.2.1.2.2.2.1 ≤ (rs.getD f.2.1.2.1.toNat (pzero T_api_Record)).2.1
    · have hw : wthn rs f := ⟨h1, h2⟩
      rw [if_neg (by rw [decide_eq_true_eq]; omega), hl2]
      have e1 := fits_c1 f.2.2.1 (by omega) rs m f f.2.1 ⟨by omega, by omega⟩ f.2.2.1.length 0 (by omega)
      have hag : (∀ i', 0 ≤ i' → i' < f.2.2.1.length → ∀ c, mget plEq (ky f.2.1.2.1 (f.2.1.2.2.1 + (i' : Nat))) m = some c → c = f.2.2.1.getD i' 0) ↔ agr out (partOf f) := by
        constructor
        · intro h q hq i hi c hc
          exact h i (by omega) hi c ((hM _ _ _).2 ⟨q, hq, hc⟩)
        · intro h i _ hi c hc
          obtain ⟨q, hq, hc⟩ := (hM _ _ _).1 hc
          exact h q hq i hi c hc
      by_cases hg : agr out (partOf f)
      · rw [if_pos (hag.2 hg)] at e1
        have e2 := fits_c2 f.2.2.1 (by omega) rs f.2.1 ⟨by omega, by omega⟩ f.2.2.1.length 0 m (by omega)
        refine ⟨_, by rw [decide_eq_true ⟨hw, hg⟩]; exact e1.trans (by rw [hl2]; exact e2), ?_⟩
        rw [if_pos ⟨hw, hg⟩]
        intro k x c
        rw [putM_get _ _ _ _ _ _ _ _ (Nat.zero_add _)]
        by_cases hc : k = f.2.1.2.1 ∧ f.2.1.2.2.1 + ((0 : Nat) : Int) ≤ x ∧ x < f.2.1.2.2.1 + (f.2.2.1.length : Int)
        · rw [if_pos hc]
          have hcov : cov (partOf f) k x (f.2.2.1.getD (x - f.2.1.2.2.1).toNat 0) := ⟨hc.1.symm, by show f.2.1.2.2.1 ≤ x; omega, hc.2.2, rfl⟩
          constructor
          · intro h
            injection h with h
            exact ⟨partOf f, by simp, h ▸ hcov⟩
          · rintro ⟨q, hq, hqc⟩
            rcases List.mem_append.1 hq with hq | hq
            · have := hg q hq (x - f.2.1.2.2.1).toNat (by show _ < f.2.2.1.length; omega) c (by
                show cov q f.2.1.2.1 (f.2.1.2.2.1 + ((x - f.2.1.2.2.1).toNat : Int)) c
                rw [← hc.1, show f.2.1.2.2.1 + ((x - f.2.1.2.2.1).toNat : Int) = x by omega]; exact hqc)
              rw [this]; rfl
            · rw [List.mem_singleton.1 hq] at hqc
              rw [← hqc.2.2.2]; rfl
        · rw [if_neg hc, hM]
          constructor
          · rintro ⟨q, hq, h⟩; exact ⟨q, by simp [hq], h⟩
          · rintro ⟨q, hq, h⟩
            rcases List.mem_append.1 hq with hq | hq
            · exact ⟨q, hq, h⟩
            · rw [List.mem_singleton.1 hq] at h
              have h3 : f.2.1.2.2.1 ≤ x := h.2.1
              exact absurd ⟨h.1.symm, by omega, h.2.2.1⟩ hc
      · rw [if_neg (fun k => hg (hag.1 k))] at e1
        refine ⟨m, by rw [decide_eq_false (fun k => hg k.2)]; exact e1, ?_⟩
        rw [if_neg (fun k => hg k.2)]; exact hM
    · rw [if_pos (by rw [decide_eq_true_eq]; omega)]
      refine ⟨m, by rw [decide_eq_false (fun k => h2 k.1.2)], ?_⟩
      rw [if_neg (fun k => h2 k.1.2)]; exact hM
  · rw [if_pos (by rw [decide_eq_true_eq]; omega)]
    refine ⟨m, by rw [decide_eq_false (fun k => h1 k.1.1)], ?_⟩
    rw [if_neg (fun k => h1 k.1.1)]; exact hM
theorem bytes_Clone_spec' (xs : List Int) (h : xs.length ≤ 1000000) : bytes_Clone xs = some xs := by
  rw [bytes_Clone_eq]
  refine anyv_eq false (by simp) (fun b hb => ?_)
  cases b with
  | true => rw [if_pos rfl, hb rfl]
  | false => rw [if_neg (by simp), gd_pos (by simp; omega)]; simp
theorem sParts_c1 (rs : List D_api_Record) (hR : RecsV rs) (fs : List D_api_Found) (hl : fs.length ≤ 700) (hF : ∀ f ∈ fs, fOK f) : ∀ (k i : Nat) (out : List D_api_Part) (m : List (Pl × Int)), i + k = fs.length → out.length ≤ i → Mp m out →
    salvage_Parts_c1 fs (fs.length : Int) (i : Int) rs out m = some (prt rs (fs.drop i) out, 0)
  | 0, i, out, m, e, ho, hM => by
    rw [salvage_Parts_c1_eq, if_neg (by simp; omega), List.drop_eq_nil_of_le (by omega)]; rfl
  | k + 1, i, out, m, e, ho, hM => by
    have hl' : Int.ofNat fs.length = (fs.length : Int) := rfl
    obtain ⟨d1, _, d3⟩ := dropR_at (pzero T_api_Found : D_api_Found) (xs := fs) (i := i) (by omega)
    have hf := hF _ d3
    have ih := fun out m ho hM => sParts_c1 rs hR fs hl hF k (i + 1) out m (by omega) ho hM
    rw [show ((i + 1 : Nat) : Int) = (i : Int) + 1 by omega] at ih
    rw [salvage_Parts_c1_eq, if_pos (by simp; omega), gd_pos (by omega), gd_pos (by rw [hl']; omega), Int.toNat_natCast, d1, prt, w64 (by omega) (by omega)]
    generalize fs.getD i (pzero T_api_Found) = f at *
    have hpl := (partOf_ok hf).len
    obtain ⟨m', h1, h2⟩ := fits_spec rs hR f hf m out hM
    rw [h1]
    simp only [Option.bind_some]
    by_cases hc : wthn rs f ∧ agr out (partOf f)
    · rw [if_pos hc] at h2
      rw [decide_eq_true hc, if_pos rfl, if_pos hc, bytes_Clone_spec' _ (by show f.2.2.1.length ≤ _; have : (partOf f).2.1.length = f.2.2.1.length := rfl; omega)]
      simp only [Option.bind_some]
      rw [gd_pos (by simp; omega)]
      exact ih _ m' (by simp; omega) h2
    · rw [if_neg hc] at h2
      rw [decide_eq_false hc, if_neg (by simp), if_neg hc]
      exact ih _ m' (by omega) h2
theorem allF_zero : ∀ (fs : List D_api_Found), allF fs = 0 → ∀ f ∈ fs, fOK f
  | [], _, f, hf => by cases hf
  | g :: fs, h, f, hf => by
    simp only [allF] at h
    split at h
    · rename_i hg
      rcases List.mem_cons.1 hf with rfl | hf
      · exact hg
      · exact allF_zero fs h f hf
    · omega
theorem fck_zero {rs : List D_api_Record} {fs : List D_api_Found} (h : fck rs fs = 0) : valid rs = 0 ∧ fs.length ≤ 600 ∧ ∀ f ∈ fs, fOK f := by
  unfold fck at h
  split at h
  · omega
  · split at h
    · omega
    · rename_i h1 h2
      exact ⟨by omega, by omega, allF_zero fs h⟩
noncomputable def prts (rs : List D_api_Record) (fs : List D_api_Found) : List D_api_Part × Int := if fck rs fs ≠ 0 then ([], fck rs fs) else (prt rs fs [], 0)
theorem salvage_Parts_spec (rs : List D_api_Record) (hR : RecsOK rs) (fs : List D_api_Found) (hF : FndOK fs) : salvage_Parts rs fs = some (prts rs fs) := by
  rw [salvage_Parts_eq, salvage_check_spec rs hR fs hF]
  simp only [Option.bind_some, prts]
  by_cases h : fck rs fs = 0
  · obtain ⟨h1, h2, h3⟩ := fck_zero h
    rw [if_neg (by simp [h]), if_neg (show ¬ fck rs fs ≠ 0 from fun k => k h)]
    exact sParts_c1 rs (valid_zero h1) fs (by omega) h3 fs.length 0 [] [] (by omega) (by simp) (fun k x c => by simp [mget])
  · rw [if_pos (by simpa using h), if_pos h]
open Classical
def setD (d : List Int) (o : Nat) (pd : List Int) : Nat → List Int
  | 0 => d
  | n + 1 => (setD d o pd n).set (o + n) (pd.getD n 0)
def setT (t : List Bool) (o : Nat) : Nat → List Bool
  | 0 => t
  | n + 1 => (setT t o n).set (o + n) true
theorem setD_len (d : List Int) (o : Nat) (pd : List Int) : ∀ n, (setD d o pd n).length = d.length
  | 0 => rfl
  | n + 1 => by simp [setD, setD_len d o pd n]
theorem setT_len (t : List Bool) (o : Nat) : ∀ n, (setT t o n).length = t.length
  | 0 => rfl
  | n + 1 => by simp [setT, setT_len t o n]
theorem setD_splice (d : List Int) (o : Nat) (pd : List Int) : ∀ n, n ≤ pd.length → o + n ≤ d.length → setD d o pd n = splice d o (pd.take n)
  | 0, _, h => by simp [setD, splice]
  | n + 1, hn, h => by
    have e1 := (dropR_at (0 : Int) (xs := d) (i := o + n) (by omega)).1
    have e2 := (dropR_at (0 : Int) (xs := pd) (i := n) (by omega)).2.1
    have l1 : (pd.take n).length = n := by simp; omega
    have l2 : (d.take o ++ pd.take n).length = o + n := by rw [List.length_append, l1]; simp; omega
    rw [setD, setD_splice d o pd n (by omega) (by omega)]
    unfold splice
    rw [l1, e1, ← l2, set_mid, e2, List.length_append, l1]
    simp only [List.append_assoc, List.length_cons, List.length_nil, List.cons_append, List.nil_append]
    congr 4
    simp; omega
theorem setD_bts {d pd : List Int} (hd : Bts d) (hp : Bts pd) (o : Nat) : ∀ n, Bts (setD d o pd n)
  | 0 => hd
  | n + 1 => fun x hx => by
    rcases List.mem_or_eq_of_mem_set hx with h | h
    · exact setD_bts hd hp o n x h
    · rw [h]; exact bts_get hp n
abbrev iEq : Int → Int → Bool := peq (.int .i64)
theorem iEq_iff (a b : Int) : iEq a b = true ↔ a = b := by simp [peq]
def Rt (m : List (Int × Bool)) (t : List Bool) : Prop := (∀ x : Int, (mget iEq x m).isSome = true ↔ 0 ≤ x ∧ x < (t.length : Int) ∧ t.getD x.toNat false = true) ∧ m.length = t.countP id
theorem mset_len {α β : Type} {eq : α → α → Bool} (h : ∀ a b, eq a b = true ↔ a = b) (x : α) (v : β) : ∀ m : List (α × β), (mset eq x v m).length = m.length + if (mget eq x m).isSome then 0 else 1
  | [] => by simp [mset, mget]
  | e :: r => by
    have ih := mset_len h x v r
    by_cases hx : eq x e.1 = true
    · have h1 : mset eq x v (e :: r) = (x, v) :: r := if_pos hx
      have h2 : mget eq x (e :: r) = some e.2 := if_pos hx
      rw [h1, h2]; simp
    · have h1 : mset eq x v (e :: r) = e :: mset eq x v r := if_neg hx
      have h2 : mget eq x (e :: r) = mget eq x r := if_neg hx
      rw [h1, h2]
      simp only [List.length_cons, ih]; omega
theorem count_set : ∀ (t : List Bool) (i : Nat), i < t.length → (t.set i true).countP id = t.countP id + if t.getD i false then 0 else 1
  | [], i, h => by simp at h
  | b :: t, 0, h => by cases b <;> simp
  | b :: t, i + 1, h => by
    have := count_set t i (by simpa using h)
    simp only [List.set_cons_succ, List.countP_cons, List.getD_cons_succ, this]; omega
theorem Rt.set {m : List (Int × Bool)} {t : List Bool} (h : Rt m t) {i : Nat} (hi : i < t.length) : Rt (mset iEq (i : Int) true m) (t.set i true) := by
  refine ⟨fun x => ?_, ?_⟩
  · rw [mget_mset iEq_iff, List.length_set]
    by_cases hx : x = (i : Int)
    · rw [if_pos ((iEq_iff _ _).2 hx), hx, Int.toNat_natCast, List.getD_eq_getElem?_getD, List.getElem?_set_self hi]
      simp; omega
    · rw [if_neg (fun k => hx ((iEq_iff _ _).1 k)), h.1 x]
      constructor
      · rintro ⟨a, b, c⟩
        refine ⟨a, b, ?_⟩
        rw [List.getD_eq_getElem?_getD, List.getElem?_set_ne (by omega), ← List.getD_eq_getElem?_getD]; exact c
      · rintro ⟨a, b, c⟩
        refine ⟨a, b, ?_⟩
        rw [List.getD_eq_getElem?_getD, List.getElem?_set_ne (by omega), ← List.getD_eq_getElem?_getD] at c; exact c
  · rw [mset_len iEq_iff, count_set t i hi, h.2]
    congr 1
    have := h.1 (i : Int)
    rw [Int.toNat_natCast] at this
    by_cases hs : t.getD i false = true
    · rw [if_pos (this.2 ⟨by omega, by omega, hs⟩), if_pos hs]
    · rw [if_neg (fun k => hs (this.1 k).2.2), if_neg hs]
theorem Rt.nil (n : Nat) : Rt [] (List.replicate n false) := by
  refine ⟨fun x => ?_, by simp [List.countP_replicate]⟩
  simp only [mget, Option.isSome_none, Bool.false_eq_true, false_iff, not_and, List.length_replicate]
  intro _ _
  rw [List.getD_eq_getElem?_getD, List.getElem?_replicate]
  split <;> simp
structure PtIn (rs : List D_api_Record) (q : D_api_Part) : Prop where
  mem : 0 ≤ q.1.1 ∧ q.1.1 < (rs.length : Int)
  off : 0 ≤ q.1.2.1
  fit : q.1.2.1 + (q.2.1.length : Int) ≤ (rs.getD q.1.1.toNat (pzero T_api_Record)).2.1
  bts : Bts q.2.1
theorem prt_in (rs : List D_api_Record) : ∀ (fs : List D_api_Found) (out : List D_api_Part), (∀ f ∈ fs, fOK f ∧ Bts f.2.2.1) → (∀ q ∈ out, PtIn rs q) → ∀ q ∈ prt rs fs out, PtIn rs q
  | [], out, _, h, q, hq => h q hq
  | f :: fs, out, hF, h, q, hq => by
    unfold prt at hq
    split at hq
    · rename_i hc
      refine prt_in rs fs _ (fun g hg => hF g (by simp [hg])) (fun p hp => ?_) q hq
      rcases List.mem_append.1 hp with hp | hp
      · exact h p hp
      · rw [List.mem_singleton.1 hp]
        obtain ⟨⟨h1, h2, _, _⟩, hb⟩ := hF f (by simp)
        unfold hOK at h1
        have hw := hc.1
        exact ⟨⟨by show 0 ≤ f.2.1.2.1; omega, hw.1⟩, by show 0 ≤ f.2.1.2.2.1; omega, by
          have := hw.2
          show f.2.1.2.2.1 + (f.2.2.1.length : Int) ≤ _
          rw [h2]; exact this, hb⟩
    · exact prt_in rs fs _ (fun g hg => hF g (by simp [hg])) h q hq
def fD (i : Int) : List D_api_Part → List Int → List Int
  | [], d => d
  | p :: ps, d => fD i ps (if p.1.1 = i then setD d p.1.2.1.toNat p.2.1 p.2.1.length else d)
def fT (i : Int) : List D_api_Part → List Bool → List Bool
  | [], t => t
  | p :: ps, t => fT i ps (if p.1.1 = i then setT t p.1.2.1.toNat p.2.1.length else t)
theorem fD_len (i : Int) : ∀ (ps : List D_api_Part) (d : List Int), (fD i ps d).length = d.length
  | [], d => rfl
  | p :: ps, d => by
    simp only [fD, fD_len i ps]
    split
    · rw [setD_len]
    · rfl
theorem fT_len (i : Int) : ∀ (ps : List D_api_Part) (t : List Bool), (fT i ps t).length = t.length
  | [], t => rfl
  | p :: ps, t => by
    simp only [fT, fT_len i ps]
    split
    · rw [setT_len]
    · rfl
theorem fD_bts (i : Int) : ∀ (ps : List D_api_Part) (d : List Int), (∀ q ∈ ps, Bts q.2.1) → Bts d → Bts (fD i ps d)
  | [], d, _, hd => hd
  | p :: ps, d, h, hd => by
    simp only [fD]
    refine fD_bts i ps _ (fun q hq => h q (by simp [hq])) ?_
    split
    · exact setD_bts hd (h p (by simp)) _ _
    · exact hd
section
variable (rs : List D_api_Record) (parts : List D_api_Part)
theorem sR_c3 (i : Int) (rl v42 : Int) (j : Nat) (hj : j ≤ 1000) (h9 : List D_api_Member) (h10 : List Bool) (r : D_api_Record) (d : List Int) (p : D_api_Part) (t : List Bool) (ho : 0 ≤ p.1.2.1) (hf : p.1.2.1 + (p.2.1.length : Int) ≤ (t.length : Int)) (ht : t.length ≤ 8192) : ∀ (k n : Nat) (m : List (Int × Bool)), n + k = p.2.1.length → Rt m (setT t p.1.2.1.toNat n) →
    ∃ m', Rt m' (setT t p.1.2.1.toNat p.2.1.length) ∧ salvage_Rebuild_c3 i rs rl i v42 (j : Int) (p.2.1.length : Int) (n : Int) parts h9 h10 m r d p = salvage_Rebuild_c2 i rs rl i v42 ((j : Int) + 1) parts h9 h10 m' r d
  | 0, n, m, e, hm => by
    have : n = p.2.1.length := by omega
    subst this
    exact ⟨m, hm, by rw [salvage_Rebuild_c3_eq, if_neg (by simp), w64 (by omega) (by omega)]⟩
  | k + 1, n, m, e, hm => by
    have hs := hm.set (i := p.1.2.1.toNat + n) (by rw [setT_len]; omega)
    obtain ⟨m', h1, h2⟩ := sR_c3 i rl v42 j hj h9 h10 r d p t ho hf ht k (n + 1) _ (by omega) hs
    refine ⟨m', h1, ?_⟩
    rw [salvage_Rebuild_c3_eq, if_pos (by simp; omega), w64 (x := p.1.2.1 + n) (by omega) (by omega), w64 (x := (n : Int) + 1) (by omega) (by omega)]
    rw [show ((n + 1 : Nat) : Int) = (n : Int) + 1 by omega, show ((p.1.2.1.toNat + n : Nat) : Int) = p.1.2.1 + n by omega] at h2
    exact h2
theorem sR_c2 (hps : parts.length ≤ 1000) (hin : ∀ q ∈ parts, PtIn rs q) (i : Nat) (rl : Int) (h9 : List D_api_Member) (h10 : List Bool) (r : D_api_Record) (hr : rs.getD i (pzero T_api_Record) = r) (hsz : 0 ≤ r.2.1 ∧ r.2.1 ≤ 8192) : ∀ (k j : Nat) (m : List (Int × Bool)) (d : List Int) (t : List Bool), j + k = parts.length → Rt m t → (d.length : Int) = r.2.1 → (t.length : Int) = r.2.1 →
    ∃ m', Rt m' (fT (i : Int) (parts.drop j) t) ∧ salvage_Rebuild_c2 (i : Int) rs rl (i : Int) (parts.length : Int) (j : Int) parts h9 h10 m r d = salvage_Rebuild_c2 (i : Int) rs rl (i : Int) (parts.length : Int) (parts.length : Int) parts h9 h10 m' r (fD (i : Int) (parts.drop j) d)
  | 0, j, m, d, t, e, hm, hd, ht => by
    have : j = parts.length := by omega
    subst this
    rw [List.drop_eq_nil_of_le (by omega)]
    exact ⟨m, hm, rfl⟩
  | k + 1, j, m, d, t, e, hm, hd, ht => by
    have hl' : Int.ofNat parts.length = (parts.length : Int) := rfl
    obtain ⟨d1, _, d3⟩ := dropR_at (pzero T_api_Part : D_api_Part) (xs := parts) (i := j) (by omega)
    have hp := hin _ d3
    rw [salvage_Rebuild_c2_eq, if_pos (by simp; omega), gd_pos (by omega), gd_pos (by rw [hl']; omega), Int.toNat_natCast, Nat.zero_add, d1]
    generalize parts.getD j (pzero T_api_Part) = p at *
    by_cases hpi : p.1.1 = (i : Int)
    · have hfit := hp.fit
      have hoff := hp.off
      rw [show p.1.1.toNat = i by omega, hr] at hfit
      have hl3 : Int.ofNat d.length = (d.length : Int) := rfl
      have hl4 : Int.ofNat p.2.1.length = (p.2.1.length : Int) := rfl
      rw [if_neg (by rw [hpi]; simp), gd_pos (by omega), gd_pos (by rw [hl3]; omega), Nat.zero_add, Nat.min_eq_left (by omega), List.take_of_length_le (Nat.le_refl _), hl4]
      have e1 : splice d p.1.2.1.toNat p.2.1 = setD d p.1.2.1.toNat p.2.1 p.2.1.length := by
        rw [setD_splice d _ _ _ (Nat.le_refl _) (by omega), List.take_of_length_le (Nat.le_refl _)]
      rw [e1]
      obtain ⟨m1, g1, g2⟩ := sR_c3 rs parts (i : Int) rl (parts.length : Int) j (by omega) h9 h10 r (setD d p.1.2.1.toNat p.2.1 p.2.1.length) p t hoff (by omega) (by omega) p.2.1.length 0 m (by omega) hm
      obtain ⟨m2, k1, k2⟩ := sR_c2 hps hin i rl h9 h10 r hr hsz k (j + 1) m1 (setD d p.1.2.1.toNat p.2.1 p.2.1.length) _ (by omega) g1 (by rw [setD_len]; exact hd) (by rw [setT_len]; exact ht)
      rw [show ((j + 1 : Nat) : Int) = (j : Int) + 1 by omega] at k2
      refine ⟨m2, by rw [fT, if_pos hpi]; exact k1, ?_⟩
      rw [fD, if_pos hpi]
      exact g2.trans k2
    · obtain ⟨m2, k1, k2⟩ := sR_c2 hps hin i rl h9 h10 r hr hsz k (j + 1) m d t (by omega) hm hd ht
      rw [show ((j + 1 : Nat) : Int) = (j : Int) + 1 by omega] at k2
      refine ⟨m2, by rw [fT, if_neg hpi]; exact k1, ?_⟩
      rw [fD, if_neg hpi, if_pos (bne_iff_ne.2 hpi), w64 (by omega) (by omega)]
      exact k2
def zD (r : D_api_Record) : List Int := List.replicate r.2.1.toNat 0
def zT (r : D_api_Record) : List Bool := List.replicate r.2.1.toNat false
def mem1 (i : Nat) (r : D_api_Record) : D_api_Member := (r.1, (fD (i : Int) parts (zD r), ()))
noncomputable def who1 (i : Nat) (r : D_api_Record) : Bool := (fT (i : Int) parts (zT r)).all id && peq (.arr 20 (.int .u8)) (shaB (fD (i : Int) parts (zD r))) r.2.2.1
noncomputable def rebW : Nat → List D_api_Record → List Bool
  | _, [] => []
  | i, r :: q => who1 parts i r :: rebW (i + 1) q
def rebM : Nat → List D_api_Record → List D_api_Member
  | _, [] => []
  | i, r :: q => mem1 parts i r :: rebM (i + 1) q
theorem all_count (t : List Bool) : t.countP id = t.length ↔ t.all id = true := by
  rw [List.countP_eq_length, List.all_eq_true]
theorem sR_c1 (hps : parts.length ≤ 1000) (hR : RecsV rs) (hin : ∀ q ∈ parts, PtIn rs q) : ∀ (k i : Nat) (h9 : List D_api_Member) (h10 : List Bool) (m : List (Int × Bool)), i + k = rs.length → h9.length = i → h10.length = i →
    salvage_Rebuild_c1 rs (rs.length : Int) (i : Int) parts h9 h10 m = some (h9 ++ rebM parts i (rs.drop i), (h10 ++ rebW parts i (rs.drop i), 0))
  | 0, i, h9, h10, m, e, e9, e10 => by
    rw [salvage_Rebuild_c1_eq, if_neg (by simp; omega), List.drop_eq_nil_of_le (by omega)]; simp [rebM, rebW]
  | k + 1, i, h9, h10, m, e, e9, e10 => by
    have hl' : Int.ofNat rs.length = (rs.length : Int) := rfl
    have hl2 : Int.ofNat parts.length = (parts.length : Int) := rfl
    have hlen := hR.len
    obtain ⟨d1, _, d3⟩ := dropR_at (pzero T_api_Record : D_api_Record) (xs := rs) (i := i) (by omega)
    have hv := hR.each _ d3
    have ih := fun h9 h10 m e9 e10 => sR_c1 hps hR hin k (i + 1) h9 h10 m (by omega) e9 e10
    rw [show ((i + 1 : Nat) : Int) = (i : Int) + 1 by omega] at ih
    rw [salvage_Rebuild_c1_eq, if_pos (by simp; omega), gd_pos (by omega), gd_pos (by rw [hl']; omega), Int.toNat_natCast, d1]
    generalize hr : rs.getD i (pzero T_api_Record) = r at *
    rw [gd_pos rfl, gd_pos hv.1, gd_pos (by omega), gd_pos (by omega), hl2]
    have hzd : (zD r).length = r.2.1.toNat := by simp [zD]
    have hzt : (zT r).length = r.2.1.toNat := by simp [zT]
    obtain ⟨m1, g1, g2⟩ := sR_c2 rs parts hps hin i (rs.length : Int) h9 h10 r hr ⟨hv.1, hv.2.1⟩ parts.length 0 [] (zD r) (zT r) (by omega) (Rt.nil _) (by omega) (by omega)
    refine Eq.trans g2 ?_
    rw [List.drop_zero] at g1 ⊢
    have hdl := fD_len (i : Int) parts (zD r)
    have htl := fT_len (i : Int) parts (zT r)
    have hbt : Bts (fD (i : Int) parts (zD r)) := fD_bts _ _ _ (fun q hq => (hin q hq).bts) (fun x hx => by rw [List.eq_of_mem_replicate hx]; omega)
    rw [salvage_Rebuild_c2_eq, if_neg (by simp), Sum_spec _ hbt, if_pos (by omega)]
    simp only [Option.bind_some]
    have hm := g1.2
    rw [gd_pos (by simp; omega), w64 (by omega) (by omega)]
    have hw : who1 parts i r = ((fT (i : Int) parts (zT r)).all id && peq (.arr 20 (.int .u8)) (shaB (fD (i : Int) parts (zD r))) r.2.2.1) := rfl
    by_cases ha : (fT (i : Int) parts (zT r)).all id = true
    · have hc := (all_count _).2 ha
      have : (Int.ofNat m1.length == r.2.1) = true := by
        have : Int.ofNat m1.length = (m1.length : Int) := rfl
        rw [this, beq_iff_eq]; omega
      rw [if_pos this, gd_pos (by simp; omega), ih _ _ _ (by simp; omega) (by simp; omega), rebM, rebW, hw, ha, Bool.true_and]
      simp [mem1]
    · have hc : ¬ (fT (i : Int) parts (zT r)).countP id = (fT (i : Int) parts (zT r)).length := fun k => ha ((all_count _).1 k)
      have : ¬ (Int.ofNat m1.length == r.2.1) = true := by
        have : Int.ofNat m1.length = (m1.length : Int) := rfl
        rw [this, beq_iff_eq]; omega
      rw [if_neg this, gd_pos (by simp; omega), ih _ _ _ (by simp; omega) (by simp; omega), rebM, rebW, hw, Bool.eq_false_iff.2 ha, Bool.false_and]
      simp [mem1]
end
noncomputable def reb (rs : List D_api_Record) (fs : List D_api_Found) : List D_api_Member × List Bool × Int :=
  if fck rs fs ≠ 0 then ([], ([], fck rs fs)) else (rebM (prt rs fs []) 0 rs, (rebW (prt rs fs []) 0 rs, 0))
theorem prts_in {rs : List D_api_Record} {fs : List D_api_Found} (hF : FndOK fs) (h : fck rs fs = 0) : (∀ q ∈ prt rs fs [], PtIn rs q) ∧ (prt rs fs []).length ≤ 1000 := by
  obtain ⟨h1, h2, h3⟩ := fck_zero h
  refine ⟨prt_in rs fs [] (fun f hf => ⟨h3 f hf, (hF.2 f hf).2⟩) (fun q hq => by cases hq), ?_⟩
  have := prt_len rs fs []
  simp at this; omega
theorem salvage_Rebuild_spec (rs : List D_api_Record) (hR : RecsOK rs) (fs : List D_api_Found) (hF : FndOK fs) : salvage_Rebuild rs fs = some (reb rs fs) := by
  rw [salvage_Rebuild_eq, salvage_Parts_spec rs hR fs hF]
  simp only [Option.bind_some, prts, reb]
  by_cases h : fck rs fs = 0
  · obtain ⟨h1, _, _⟩ := fck_zero h
    obtain ⟨h4, h5⟩ := prts_in hF h
    rw [if_neg (show ¬ fck rs fs ≠ 0 from fun k => k h), if_neg (show ¬ fck rs fs ≠ 0 from fun k => k h), if_neg (show ¬ ((0 : Int) != 0) = true by decide)]
    exact sR_c1 rs _ h5 (valid_zero h1) h4 rs.length 0 [] [] [] (by omega) rfl rfl
  · rw [if_pos h, if_pos h, if_pos (bne_iff_ne.2 h)]
theorem SameBools_refl (xs : List Bool) (hl : xs.length ≤ 1000) : bitloftref33_SameBools xs xs = some true := by
  have c1 : ∀ (k i : Nat), i + k = xs.length → bitloftref33_SameBools_c1 xs xs (i : Int) = some true := by
    intro k
    induction k with
    | zero => intro i e; rw [bitloftref33_SameBools_c1_eq, if_neg (by simp; omega)]
    | succ k ih =>
      intro i e
      have hl' : Int.ofNat xs.length = (xs.length : Int) := rfl
      have ih := ih (i + 1) (by omega)
      rw [show ((i + 1 : Nat) : Int) = (i : Int) + 1 by omega] at ih
      rw [bitloftref33_SameBools_c1_eq, if_pos (by simp; omega), gd_pos (by omega), gd_pos (by rw [hl']; omega), gd_pos (by omega), gd_pos (by rw [hl']; omega), if_neg (by simp), w64 (by omega) (by omega), ih]
  rw [bitloftref33_SameBools_eq, if_neg (by simp)]
  exact c1 xs.length 0 (by omega)
end Go.Ab

/-
  Chapter 34: parts are some of what was found; what is whole stays whole.
-/
set_option linter.unusedVariables false
set_option linter.unusedSimpArgs false
set_option maxRecDepth 10000
namespace Go.Ab
open Go
attribute [local irreducible] IntKind.wrap
open Classical
end Go.Ab

/-
  Chapter 34: SalvageMore.
-/
set_option linter.unusedVariables false
set_option linter.unusedSimpArgs false
set_option maxRecDepth 10000
namespace Go.Ab
open Go
attribute [local irreducible] IntKind.wrap
theorem sum_refl (a : List Int) : peq (.arr 20 (.int .u8)) a a = true := by
  simp only [peq]
  exact peqL_same (fun y => by simp) _
theorem fck_many {rs : List D_api_Record} {fs : List D_api_Found} (hv : valid rs = 0) (hl : fs.length > 600) : fck rs fs = 4 := by
  unfold fck
  rw [if_neg (fun h => h hv), if_pos hl]
end Go.Ab
