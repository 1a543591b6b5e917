/-
  Plain laws of the printed functions.
-/
import Derived.Test.YtbgokmkefnepcaaGreatDoorPureR
/-
  The coder there and back, 2: what the predictor and the encoder go through.
-/
set_option linter.unusedVariables false
set_option linter.unusedSimpArgs false
set_option maxRecDepth 10000
namespace Go.Ab
open Go
attribute [local irreducible] IntKind.wrap
/-! ### 1. The probability -/
theorem final_Look_p {f : D_api_Final} (h : WfFin f) {a b st p : Int} (ha : 0 ≤ a ∧ a ≤ 255) (hb : 0 ≤ b ∧ b ≤ 255) (hs : -2047 ≤ st ∧ st ≤ 2047) (hp : 0 ≤ p ∧ p ≤ 4095) : Tot (final_Look f [a, b] st p) fun r => WfCh r.2.1 ∧ 1 ≤ r.1 ∧ r.1 ≤ 4095 := by
  rw [final_Look_eq]
  have e0 : ([a, b] : List Int).getD 0 0 = a := rfl
  have e1 : ([a, b] : List Int).getD 1 0 = b := rfl
  rw [e0, e1]
  refine Tot.be (final_Check_T h) (Tot.ifne_neg rfl (Tot.g (by decide) (Tot.g (by decide) (Tot.b (refine_Look_T h.1 ha.1 ha.2 hs.1 hs.2) (fun r hr => Tot.g (by decide) (Tot.g (by decide) (Tot.b (refine_Look_T h.2 hb.1 hb.2 hs.1 hs.2) (fun q hq => Tot.ifne_neg hr.1 (Tot.ifne_neg hq.1 (Tot.b (final_prob_T p) (fun t ht => Tot.ifn (fun k => ?_) (fun _ => ?_))))))))))))
  · rw [ht hp.1 hp.2] at k; exact absurd k (by decide)
  · refine Tot.b (P := fun z => 1 ≤ z ∧ z ≤ 4095) ?_ (fun z hz => Tot.so ⟨⟨a, b, r.2.1, q.2.1, rfl, rfl, ha.1, ha.2, hb.1, hb.2, hr.2.1, hr.2.2, hq.2.1, hq.2.2⟩, hz⟩)
    rw [final_join_eq]
    refine Tot.g (by decide) (Tot.g (by decide) (Tot.g (by decide) (Tot.so ?_)))
    split <;> split at * <;> omega
theorem see_c1_p {l N : Int} {p : D_api_Predictor} (h : WfP l N p) (b9a : Int) (b9 b10 : (Int × (Int × (D_api_Chosen × Unit)))) {nd : Int} (hn : 1 ≤ nd ∧ nd ≤ 15) (h11 h12 : List Int) : ∀ i : Int, 0 ≤ i → i ≤ 6 → ∀ (h13 h14 : List Int), (h13.length = i.toNat ∧ ∀ x ∈ h13, 0 ≤ x ∧ x ≤ 192) → (h14.length = i.toNat ∧ ∀ x ∈ h14, -2047 ≤ x ∧ x ≤ 2047) →
    Tot (predict_see_c1 p.2.2.1 6 i p b9a b9 nd b10 h11 h12 h13 h14) fun s => WfSeen s ∧ 1 ≤ s.2.2.2.2.1 ∧ s.2.2.2.2.1 ≤ 4095 := by
  obtain ⟨h1, h2, h3, h4, h5, h6⟩ := h
  have hl3 := h3.1
  have hl4 := h4.1
  have hw := h5.2.2.2.2.1
  intro i
  refine up_ind (P := fun i => 0 ≤ i → i ≤ 6 → ∀ (h13 h14 : List Int), (h13.length = i.toNat ∧ ∀ x ∈ h13, 0 ≤ x ∧ x ≤ 192) → (h14.length = i.toNat ∧ ∀ x ∈ h14, -2047 ≤ x ∧ x ≤ 2047) → Tot (predict_see_c1 p.2.2.1 6 i p b9a b9 nd b10 h11 h12 h13 h14) fun s => WfSeen s ∧ 1 ≤ s.2.2.2.2.1 ∧ s.2.2.2.2.1 ≤ 4095) 6 ?_ ?_ i
  · intro i hi h0 h06 h13 h14 k13 k14
    rw [predict_see_c1_eq]
    have e6 : i.toNat = 6 := by omega
    rw [e6] at k13 k14
    refine Tot.ifd_neg (by omega) (Tot.b (match_Input_T h5.2.2.2.1 h2.1 hw) (fun m hm => ?_))
    have hL : (h14 ++ [m.1, 256]).length = 8 := by rw [List.length_append, k14.1]; rfl
    have hA : ∀ x ∈ h14 ++ [m.1, 256], -2047 ≤ x ∧ x ≤ 2047 := by
      intro x hx
      rcases List.mem_append.1 hx with q | q
      · exact k14.2 x q
      · rcases List.mem_cons.1 q with rfl | q
        · exact hm
        · rw [List.mem_singleton.1 q]; omega
    refine Tot.g (by rw [hL]; decide) (Tot.b (mixer_Mix_T h5.1 (by have := hw.1; omega) hw.2 hL hA) (fun x hx => Tot.b (context_Recent_T h2.1) (fun y _ => Tot.b (final_Rows_T _ _ hw.1 hw.2) (fun z hz => ?_))))
    obtain ⟨c, hz1, hz2⟩ := hz
    rw [hz1]
    exact Tot.b (final_Look_p h5.2.1 ⟨by have := hw.1; omega, hw.2⟩ hz2 ⟨hx.1, hx.2.1⟩ ⟨hx.2.2.1, hx.2.2.2⟩) (fun t ht => Tot.so ⟨⟨hn, k13, ⟨hL, hA⟩, ⟨hx.2.2.1, hx.2.2.2⟩, ht.1⟩, ht.2⟩)
  · intro i hi ih h0 h06 h13 h14 k13 k14
    rw [predict_see_c1_eq]
    simp only [Int.ofNat_eq_natCast]
    have hd := getD_all (P := WfTab l) (d := pzero T_api_Table) h3.2 i.toNat (by omega)
    have ha := getD_all (P := WfAd) (d := pzero T_api_Adapt) h4.2 i.toNat (by omega)
    have hs := h5.2.2.2.2.2.at hd.2.1 i.toNat
    rw [w64 (x := i + 1) (by omega) (by omega)]
    refine Tot.ifd_pos (by omega) (Tot.g h0 (Tot.g (by omega) (Tot.g h0 (Tot.g (by omega) (Tot.b (slots_Get_T hd hs.1 hs.2 hn.1 hn.2) (fun r hr => Tot.g h0 (Tot.g (by omega) (Tot.b (adapt_P_T ha hr.2.1 hr.2.2) (fun q hq => Tot.g ?_ (Tot.g (by decide) (Tot.b (stretch_T _) (fun s hs' => Tot.g ?_ ?_))))))))))))
    · rw [List.length_append, List.length_singleton]; omega
    · rw [List.length_append, List.length_singleton]; omega
    · exact ih (by omega) (by omega) _ _ ⟨by rw [List.length_append, List.length_singleton]; omega, app_all k13.2 hr.2⟩ ⟨by rw [List.length_append, List.length_singleton]; omega, app_all k14.2 hs'⟩
theorem see_p {l N : Int} {p : D_api_Predictor} (h : WfP l N p) : Tot (predict_see p) fun s => WfSeen s ∧ 1 ≤ s.2.2.2.2.1 ∧ s.2.2.2.2.1 ≤ 4095 := by
  rw [predict_see_eq]
  have e : Int.ofNat p.2.2.1.length = 6 := by rw [h.2.2.1.1]; rfl
  rw [e]
  exact Tot.b (nibble_Node_T h.2.2.2.2.1.2.2.2.2.1) (fun r hr => see_c1_p h _ _ _ hr _ _ 0 (by omega) (by omega) [] [] ⟨rfl, fun x hx => by cases hx⟩ ⟨rfl, fun x hx => by cases hx⟩)
/-! ### 2. Steps and runs of the predictor -/
def PStep (p : D_api_Predictor) (b : Bool) (q : D_api_Predictor) (P : Int) : Prop := ∃ s, predict_see p = some s ∧ P = IntKind.wrap .i64 s.2.2.2.2.1 ∧ predict_update p s b = some (q, 0)
def PRun : List Bool → D_api_Predictor → D_api_Predictor → List Int → Prop
  | [], p, q, Ps => q = p ∧ Ps = []
  | b :: bs, p, q, Ps => ∃ p1 P Ps', PStep p b p1 P ∧ PRun bs p1 q Ps' ∧ Ps = P :: Ps'
theorem PStep_ex {l N : Int} {p : D_api_Predictor} (h : WfP l N p) (hN : N < 1073741824) (b : Bool) : ∃ q P, PStep p b q P := by
  obtain ⟨s, e, hs⟩ := see_p h
  obtain ⟨r, e', hr⟩ := update_T h hN hs.1 b
  exact ⟨r.1, _, s, e, rfl, by rw [e']; exact congrArg some (Prod.ext rfl hr.1)⟩
theorem PStep_wf {l N : Int} {p q : D_api_Predictor} {b : Bool} {P : Int} (h : WfP l N p) (hN : N < 1073741824) (k : PStep p b q P) : WfP l (N + 1) q ∧ 1 ≤ P ∧ P ≤ 4095 := by
  obtain ⟨s, e, hP, hu⟩ := k
  obtain ⟨s', e', hs⟩ := see_p h
  obtain rfl := Option.some.inj (e.symm.trans e')
  obtain ⟨r, e'', hr⟩ := update_T h hN hs.1 b
  obtain rfl := Option.some.inj (hu.symm.trans e'')
  rw [w64 (by omega) (by omega)] at hP
  exact ⟨hr.2, by omega, by omega⟩
theorem PRun_ex {l : Int} : ∀ (bs : List Bool) (N : Int) (p : D_api_Predictor), WfP l N p → N + bs.length < 1073741824 → ∃ q Ps, PRun bs p q Ps
  | [], N, p, h, hN => ⟨p, [], rfl, rfl⟩
  | b :: bs, N, p, h, hN => by
    simp only [List.length_cons] at hN
    obtain ⟨p1, P, k⟩ := PStep_ex h (by omega) b
    obtain ⟨q, Ps, hr⟩ := PRun_ex bs (N + 1) p1 (PStep_wf h (by omega) k).1 (by omega)
    exact ⟨q, P :: Ps, p1, P, Ps, k, hr, rfl⟩
theorem PRun_wf {l : Int} : ∀ (bs : List Bool) (N : Int) (p q : D_api_Predictor) (Ps : List Int), WfP l N p → N + bs.length < 1073741824 → PRun bs p q Ps → WfP l (N + bs.length) q ∧ Ps.length = bs.length ∧ ∀ P ∈ Ps, 1 ≤ P ∧ P ≤ 4095
  | [], N, p, q, Ps, h, hN, hr => by
    obtain ⟨rfl, rfl⟩ := hr
    exact ⟨by simpa using h, rfl, fun P hP => by cases hP⟩
  | b :: bs, N, p, q, Ps, h, hN, hr => by
    simp only [List.length_cons] at hN
    obtain ⟨p1, P, Ps', k, hr, rfl⟩ := hr
    have hw := PStep_wf h (by omega) k
    have ih := PRun_wf bs (N + 1) p1 q Ps' hw.1 (by omega) hr
    refine ⟨?_, by rw [List.length_cons, List.length_cons, ih.2.1], fun x hx => ?_⟩
    · have e : N + 1 + (bs.length : Int) = N + ((b :: bs).length : Int) := by rw [List.length_cons]; omega
      rw [← e]; exact ih.1
    · rcases List.mem_cons.1 hx with rfl | hx
      · exact hw.2
      · exact ih.2.2 x hx
theorem PRun_app : ∀ (a b : List Bool) (p q : D_api_Predictor) (Ps : List Int) (r : D_api_Predictor) (Qs : List Int), PRun a p q Ps → PRun b q r Qs → PRun (a ++ b) p r (Ps ++ Qs)
  | [], b, p, q, Ps, r, Qs, h, k => by
    obtain ⟨rfl, rfl⟩ := h
    exact k
  | x :: a, b, p, q, Ps, r, Qs, h, k => by
    obtain ⟨p1, P, Ps', s, h, rfl⟩ := h
    exact ⟨p1, P, Ps' ++ Qs, s, PRun_app a b p1 q Ps' r Qs h k, rfl⟩
theorem Run_c1_spec (v : List Bool) (hv : v.length ≤ 2000) (b9a b9baa : Int) (b9babb : D_api_Walk) (u1 u2 u3 u4 : Unit) (b9bbbbbbaa : Int) (u5 : Unit) (b9bbbbbbb : (D_api_Match × (D_api_Walk × ((List Int) × ((List Int) × Unit)))))
    (h11 : List Int) (h12 : List D_api_Table) (h13 : List D_api_Adapt) (h14 h15 h16 : List (List Int)) (h17 : List Int) (q : D_api_Predictor) : ∀ i : Int, 0 ≤ i → i ≤ v.length → ∀ (p : D_api_Predictor) (h10 Ps : List Int), h10.length = i.toNat → PRun (v.drop i.toNat) p q Ps →
    predict_Run_c1 v v.length i p b9a b9baa b9babb u1 u2 u3 u4 b9bbbbbbaa u5 b9bbbbbbb h10 h11 h12 h13 h14 h15 h16 h17 = some (q, (h10 ++ Ps, 0)) := by
  intro i
  refine up_ind (P := fun i => 0 ≤ i → i ≤ v.length → ∀ (p : D_api_Predictor) (h10 Ps : List Int), h10.length = i.toNat → PRun (v.drop i.toNat) p q Ps → predict_Run_c1 v v.length i p b9a b9baa b9babb u1 u2 u3 u4 b9bbbbbbaa u5 b9bbbbbbb h10 h11 h12 h13 h14 h15 h16 h17 = some (q, (h10 ++ Ps, 0))) v.length ?_ ?_ i
  · intro i hi h0 h1 p h10 Ps hh hr
    rw [List.drop_of_length_le (by omega)] at hr
    obtain ⟨rfl, rfl⟩ := hr
    rw [predict_Run_c1_eq, if_neg (by rw [decide_eq_true_eq]; omega), List.append_nil]
  · intro i hi ih h0 h1 p h10 Ps hh hr
    have hd : v.drop i.toNat = v[i.toNat]'(by omega) :: v.drop (i.toNat + 1) := List.drop_eq_getElem_cons (by omega)
    rw [hd] at hr
    obtain ⟨p1, P, Ps', ⟨s, e1, e2, e3⟩, hr, rfl⟩ := hr
    have hg : v.getD i.toNat false = v[i.toNat]'(by omega) := by rw [List.getD_eq_getElem?_getD, List.getElem?_eq_getElem (by omega)]; rfl
    rw [predict_Run_c1_eq]
    simp only [Int.ofNat_eq_natCast]
    rw [w64 (x := i + 1) (by omega) (by omega), hg, ← hg]
    refine Tot.eq (Tot.ifd_pos (by omega) (Tot.g h0 (Tot.g (by omega) (Tot.be e1 (Tot.be (by rw [hg]; exact e3) (Tot.ifne_neg rfl (Tot.g (by rw [List.length_append, List.length_singleton]; omega) ?_)))))))
    have e : (i + 1).toNat = i.toNat + 1 := by omega
    have := ih (by omega) (by omega) p1 (h10 ++ [P]) Ps' (by rw [List.length_append, List.length_singleton]; omega) (by rw [e]; exact hr)
    rw [← e2]
    simp only
    rw [this, List.append_assoc]
    exact Tot.so rfl
theorem Run_spec {l N : Int} {p q : D_api_Predictor} {v : List Bool} {Ps : List Int} (h : WfP l N p) (hv : v.length ≤ 2000) (hr : PRun v p q Ps) : predict_Run p v = some (q, (Ps, 0)) := by
  rw [predict_Run_eq]
  simp only [Int.ofNat_eq_natCast]
  refine Tot.eq (Tot.be (predict_Check_T h) (Tot.ifne_neg rfl (Tot.ifd_neg (by omega) (Tot.be (twin_T h) ?_))))
  have := Run_c1_spec v hv 0 0 (0, ()) () () () () 0 () ((0, (0, ())), ((0, ()), ((List.replicate 6 0), ((List.replicate 6 0), ())))) [] [] [] [] [] [] [] q 0 (by omega) (by omega) p [] Ps rfl hr
  rw [this]
  exact Tot.so rfl
theorem P_spec {l N : Int} {p q : D_api_Predictor} {b : Bool} {P : Int} (h : WfP l N p) (k : PStep p b q P) : predict_P p = some (P, 0) := by
  obtain ⟨s, e1, e2, e3⟩ := k
  rw [predict_P_eq]
  exact Tot.eq (Tot.be (predict_Check_T h) (Tot.ifne_neg rfl (Tot.be e1 (Tot.so (by rw [e2])))))
theorem Update_spec {l N : Int} {p q : D_api_Predictor} {b : Bool} {P : Int} (h : WfP l N p) (k : PStep p b q P) : predict_Update p b = some (q, 0) := by
  rw [predict_Update_eq]
  exact Tot.eq (Tot.be (Run_spec h (v := [b]) (Ps := [P]) (by show 1 ≤ 2000; decide) ⟨q, P, [], k, ⟨rfl, rfl⟩, rfl⟩) (Tot.so rfl))
/-! ### 3. Runs of the encoder -/
def GoodN (e : D_api_Encoder) : Prop := GoodE e ∧ e.2.2.1.length ≤ 20000
def ERun : List Bool → List Int → D_api_Encoder → D_api_Encoder → Prop
  | [], _, e, e' => e' = e
  | b :: bs, Ps, e, e' => ∃ P Ps' e1, Ps = P :: Ps' ∧ encoder_Put e P b = some (e1, 0) ∧ ERun bs Ps' e1 e'
theorem ERun_app : ∀ (a b : List Bool) (Ps Qs : List Int) (e f g : D_api_Encoder), Ps.length = a.length → ERun a Ps e f → ERun b Qs f g → ERun (a ++ b) (Ps ++ Qs) e g
  | [], b, Ps, Qs, e, f, g, hl, h, k => by
    obtain rfl : Ps = [] := List.length_eq_zero_iff.1 hl
    have h' : f = e := h
    subst h'
    exact k
  | x :: a, b, Ps, Qs, e, f, g, hl, h, k => by
    obtain ⟨P, Ps', e1, rfl, hp, h⟩ := h
    simp only [List.length_cons, Nat.add_right_cancel_iff] at hl
    exact ⟨P, Ps' ++ Qs, e1, rfl, hp, ERun_app a b Ps' Qs e1 f g hl h k⟩
/-- A good encoder, put into: too long, or good again. -/
theorem Put_good {e : D_api_Encoder} (h : GoodN e) {p : Int} (t : Bool) (hp0 : 0 ≤ p) (hp1 : p ≤ 4095) :
    Tot (encoder_Put e p t) fun r => (r.2 = 0 → GoodN r.1 ∧ r.1 = ((stp t e.1 e.2.1 p).1, ((stp t e.1 e.2.1 p).2.1, (e.2.2.1 ++ (stp t e.1 e.2.1 p).2.2, ())))) ∧ (e.2.2.1.length + 4 ≤ 20000 → r.2 = 0 ∧ r.1.2.2.1.length ≤ e.2.2.1.length + 4) := by
  have hg := stp_good h.1 t hp0 hp1
  refine Tot.of_eq (Put_spec h.1 t hp0 hp1 h.2) ?_
  by_cases hl : (e.2.2.1 ++ (stp t e.1 e.2.1 p).2.2).length > 20000
  · rw [if_pos hl]
    refine ⟨fun k => absurd k (by decide), fun k => ?_⟩
    rw [List.length_append] at hl
    omega
  · rw [if_neg hl]
    refine ⟨fun _ => ⟨⟨hg.1, by simp only; omega⟩, rfl⟩, fun k => ⟨rfl, ?_⟩⟩
    simp only
    rw [List.length_append]
    omega
theorem Encode_1_good {a : Int} (ha0 : 0 ≤ a) (ha1 : a ≤ 4095) (t : Bool) (e : Int) {c : D_api_Encoder} (h : e = 0 → GoodN c) :
    Tot (codec_Encode_1 a t e c) fun r => (r.1 = 0 → e = 0 ∧ GoodN r.2 ∧ encoder_Put c a t = some (r.2, 0)) ∧ (e = 0 → c.2.2.1.length + 4 ≤ 20000 → r.1 = 0 ∧ r.2.2.2.1.length ≤ c.2.2.1.length + 4) := by
  rw [codec_Encode_1_eq]
  refine Tot.ifeq (fun he => ?_) (fun he => Tot.so ⟨fun k => absurd k he, fun k => absurd k he⟩)
  obtain ⟨r, er, hr⟩ := Put_good (h he) t ha0 ha1
  refine Tot.be er (Tot.so ⟨fun k => ⟨he, (hr.1 k).1, ?_⟩, fun _ k => hr.2 k⟩)
  rw [er]
  exact congrArg some (Prod.ext rfl k)
theorem each_1_c1_good (v : List Bool) (hv : v.length ≤ 2000) (b0 b8 : D_api_Predictor) (Ps : List Int) (hl : Ps.length = v.length) (hP : ∀ P ∈ Ps, 1 ≤ P ∧ P ≤ 4095) : ∀ i : Int, 0 ≤ i → i ≤ v.length → ∀ (e : Int) (c : D_api_Encoder), (e = 0 → GoodN c) →
    Tot (codec_each_1_c1 v v.length i b0 v e c b8 Ps) fun r => r.1 = b8 ∧ r.2.1 = [] ∧ (r.2.2.2.1 = 0 → e = 0 ∧ GoodN r.2.2.2.2 ∧ ERun (v.drop i.toNat) (Ps.drop i.toNat) c r.2.2.2.2) ∧
      (e = 0 → (c.2.2.1.length : Int) + 4 * (v.length - i) ≤ 20000 → r.2.2.2.1 = 0 ∧ (r.2.2.2.2.2.2.1.length : Int) ≤ c.2.2.1.length + 4 * (v.length - i)) := by
  intro i
  refine up_ind (P := fun i => 0 ≤ i → i ≤ v.length → ∀ (e : Int) (c : D_api_Encoder), (e = 0 → GoodN c) → Tot (codec_each_1_c1 v v.length i b0 v e c b8 Ps) fun r => r.1 = b8 ∧ r.2.1 = [] ∧ (r.2.2.2.1 = 0 → e = 0 ∧ GoodN r.2.2.2.2 ∧ ERun (v.drop i.toNat) (Ps.drop i.toNat) c r.2.2.2.2) ∧
      (e = 0 → (c.2.2.1.length : Int) + 4 * (v.length - i) ≤ 20000 → r.2.2.2.1 = 0 ∧ (r.2.2.2.2.2.2.1.length : Int) ≤ c.2.2.1.length + 4 * (v.length - i))) v.length ?_ ?_ i
  · intro i hi h0 h1 e c hc
    rw [codec_each_1_c1_eq]
    refine Tot.ifd_neg (by omega) (Tot.so ⟨rfl, rfl, fun k => ⟨k, hc k, ?_⟩, fun k _ => ⟨k, by simp only; omega⟩⟩)
    rw [List.drop_of_length_le (by omega)]
    rfl
  · intro i hi ih h0 h1 e c hc
    have hp := getD_all (P := fun P => 1 ≤ P ∧ P ≤ 4095) (d := 0) hP i.toNat (by omega)
    have hd : v.drop i.toNat = v[i.toNat]'(by omega) :: v.drop (i.toNat + 1) := List.drop_eq_getElem_cons (by omega)
    have hd2 : Ps.drop i.toNat = Ps[i.toNat]'(by omega) :: Ps.drop (i.toNat + 1) := List.drop_eq_getElem_cons (by omega)
    have hg : v.getD i.toNat false = v[i.toNat]'(by omega) := by rw [List.getD_eq_getElem?_getD, List.getElem?_eq_getElem (by omega)]; rfl
    have hg2 : Ps.getD i.toNat 0 = Ps[i.toNat]'(by omega) := by rw [List.getD_eq_getElem?_getD, List.getElem?_eq_getElem (by omega)]; rfl
    rw [codec_each_1_c1_eq]
    simp only [Int.ofNat_eq_natCast]
    rw [w64 (x := i + 1) (by omega) (by omega), Nat.zero_add]
    refine Tot.ifd_pos (by omega) (Tot.g h0 (Tot.g (by omega) (Tot.g h0 (Tot.g (by omega) (Tot.b (Encode_1_good (by omega) hp.2 _ e hc) (fun r hr => Tot.mono (ih (by omega) (by omega) r.1 r.2 (fun k => (hr.1 k).2.1)) (fun q hq => ⟨hq.1, hq.2.1, fun k => ?_, fun k1 k2 => ?_⟩)))))))
    · have hq3 := hq.2.2.1 k
      have hr1 := hr.1 hq3.1
      refine ⟨hr1.1, hq3.2.1, ?_⟩
      rw [hd, hd2]
      refine ⟨_, _, r.2, rfl, ?_, ?_⟩
      · rw [← hg, ← hg2]; exact hr1.2.2
      · have e : (i + 1).toNat = i.toNat + 1 := by omega
        rw [e] at hq3
        exact hq3.2.2
    · have hr2 := hr.2 k1 (by omega)
      have hq4 := hq.2.2.2 hr2.1 (by omega)
      exact ⟨hq4.1, by omega⟩
theorem each_1_good {l N : Int} {p q : D_api_Predictor} {v : List Bool} {Ps : List Int} (h : WfP l N p) (hv : v.length ≤ 2000) (hN : N + v.length < 1073741824) (hr : PRun v p q Ps) (e : Int) {c : D_api_Encoder} (hc : e = 0 → GoodN c) :
    Tot (codec_each_1 p v e c) fun r => r.1 = q ∧ r.2.1 = [] ∧ (r.2.2.2.1 = 0 → e = 0 ∧ GoodN r.2.2.2.2 ∧ ERun v Ps c r.2.2.2.2) ∧ (e = 0 → c.2.2.1.length + 4 * v.length ≤ 20000 → r.2.2.2.1 = 0 ∧ r.2.2.2.2.2.2.1.length ≤ c.2.2.1.length + 4 * v.length) := by
  have hw := PRun_wf v N p q Ps h hN hr
  rw [codec_each_1_eq]
  refine Tot.be (Run_spec h hv hr) (Tot.mono (each_1_c1_good v hv p q Ps hw.2.1 hw.2.2 0 (by omega) (by omega) e c hc) (fun r k => ⟨k.1, k.2.1, fun z => k.2.2.1 z, fun z1 z2 => ?_⟩))
  have := k.2.2.2 z1 (by omega)
  exact ⟨this.1, by omega⟩
end Go.Ab

/-
  The coder there and back, 3: what Encode does; and Decode gives the bytes again.
-/
set_option linter.unusedVariables false
set_option linter.unusedSimpArgs false
set_option maxRecDepth 10000
namespace Go.Ab
open Go
attribute [local irreducible] IntKind.wrap
theorem New_ok {l : Int} (hl : 0 ≤ l ∧ l ≤ 7) : Tot (predict_New l) fun r => r.2 = 0 := by
  obtain ⟨hl0, hl1⟩ := hl
  rw [predict_New_eq]
  refine Tot.b (ring_New_T hl0 hl1) (fun r1 k1 => Tot.ifne_neg k1.1 (Tot.b final_New_T (fun r2 k2 => Tot.be match_New_eq (Tot.be nibble_New_eq (Tot.b (finder_New_T hl0 hl1) (fun r5 k5 => Tot.b mixer_New_T (fun r6 k6 => ?_)))))))
  refine Tot.mono (New_c1_T hl0 hl1 _ _ _ _ _ _ _ _ _ _ r1.1 (r6.1, (r2, (r5.1, ((-1, (0, ())), ((1, ()), ((List.replicate 6 0), ((List.replicate 6 0), ()))))))) k1.2 ⟨k6, k2, k5, Or.inl ⟨rfl, rfl⟩, ⟨Int.le_refl 1, by show (1:Int) ≤ 255; decide⟩, WfSl.zero ⟨hl0, hl1⟩⟩ _ _ _ _ _ _ _ 0 (by omega) (by omega) [] [] ⟨rfl, fun x hx => by cases hx⟩ ⟨rfl, fun x hx => by cases hx⟩) (fun r hr => hr.1)
/-! ### 1. The rounds -/
def e0 : D_api_Encoder := (0, (4294967295, ([], ())))
theorem e0_good : GoodN e0 := ⟨⟨by unfold EndsX e0; decide, Bts.nil⟩, by decide⟩
/-- Behind 'done' bits, of which some wait. -/
def WfR (l : Int) (p0 : D_api_Predictor) (done : List Bool) (s : each_S) : Prop :=
  ∃ pre Ps, done = pre ++ s.2.1 ∧ s.2.1.length < 2000 ∧ PRun pre p0 s.1 Ps ∧ (s.2.2.1 = 0 → GoodN s.2.2.2 ∧ ERun pre Ps e0 s.2.2.2) ∧ (4 * done.length ≤ 20000 → s.2.2.1 = 0 ∧ s.2.2.2.2.2.1.length ≤ 4 * pre.length)
theorem each_step_R {l : Int} {p0 : D_api_Predictor} (hp : WfP l 0 p0) {done : List Bool} {s : each_S} (h : WfR l p0 done s) (hD : done.length < 1000000) (b : Bool) : Tot (each_step s b) (WfR l p0 (done ++ [b])) := by
  obtain ⟨pre, Ps, hd, hw, hr, hg, hs⟩ := h
  have hdl : done.length = pre.length + s.2.1.length := by rw [hd, List.length_append]
  have hpl := PRun_wf pre 0 p0 s.1 Ps hp (by omega) hr
  unfold each_step
  have hL : (s.2.1 ++ [b]).length = s.2.1.length + 1 := by rw [List.length_append, List.length_singleton]
  have hDL : (done ++ [b]).length = done.length + 1 := by rw [List.length_append, List.length_singleton]
  refine Tot.g (by rw [hL]; omega) (Tot.ifeq (fun k => ?_) (fun k => ?_))
  · obtain ⟨q, Qs, hq⟩ := PRun_ex (s.2.1 ++ [b]) (0 + pre.length) s.1 hpl.1 (by rw [hL]; omega)
    refine Tot.b (each_1_good hpl.1 (by rw [hL]; omega) (by rw [hL]; omega) hq s.2.2.1 (fun z => (hg z).1)) (fun r k2 => Tot.so ⟨pre ++ (s.2.1 ++ [b]), Ps ++ Qs, ?_, ?_, ?_, ?_, ?_⟩)
    · simp only; rw [k2.2.1, hd, List.append_nil, List.append_assoc]
    · simp only; rw [k2.2.1]; decide
    · simp only; rw [k2.1]; exact PRun_app _ _ _ _ _ _ _ hr hq
    · simp only
      intro z
      have a := k2.2.2.1 z
      exact ⟨a.2.1, ERun_app _ _ _ _ _ _ _ hpl.2.1 (hg a.1).2 a.2.2⟩
    · simp only
      intro z
      rw [hDL] at z
      have a := hs (by omega)
      have c := k2.2.2.2 a.1 (by rw [hL]; omega)
      exact ⟨c.1, by rw [List.length_append]; omega⟩
  · have e : Int.ofNat (s.2.1 ++ [b]).length = ((s.2.1 ++ [b]).length : Int) := rfl
    rw [e, hL] at k
    refine Tot.so ⟨pre, Ps, ?_, ?_, hr, hg, fun z => hs (by rw [hDL] at z; omega)⟩
    · simp only; rw [hd, List.append_assoc]
    · simp only; rw [hL]; omega
theorem each_run_R {l : Int} {p0 : D_api_Predictor} (hp : WfP l 0 p0) : ∀ (v done : List Bool) (s : each_S), WfR l p0 done s → done.length + v.length < 1000000 → Tot (each_run v s) (WfR l p0 (done ++ v))
  | [], done, s, h, hM => Tot.so (by rw [List.append_nil]; exact h)
  | b :: v, done, s, h, hM => by
    unfold each_run
    simp only [List.length_cons] at hM
    refine Tot.b (each_step_R hp h (by omega) b) (fun t ht => Tot.mono (each_run_R hp v (done ++ [b]) t ht (by rw [List.length_append, List.length_singleton]; omega)) (fun r hr => ?_))
    rw [List.append_assoc] at hr
    exact hr
/-! ### 2. Encode -/
def tail4 (x : Int) : List Int := [x / 16777216 % 256, x / 65536 % 256, x / 256 % 256, x % 256]
theorem tail4_bts (x : Int) : Bts (tail4 x) := by
  intro y hy
  simp only [tail4, List.mem_cons, List.not_mem_nil, or_false] at hy
  omega
theorem End_spec {e : D_api_Encoder} (h : GoodN e) : encoder_End e = some (if e.2.2.1.length > 19996 then ([], 4) else (e.2.2.1 ++ tail4 e.1, 0)) := by
  obtain ⟨⟨hE, hB⟩, hl⟩ := h
  have hc : encoder_Check e = some 0 := by
    rw [encoder_Check_eq]
    simp only [Int.ofNat_eq_natCast, fdiv_pos _ (show (0:Int) < 16777216 by decide)]
    exact Tot.eq (Tot.ifd_neg (by have := hE.2.1; omega) (Tot.g (by decide) (Tot.g (by decide) (Tot.ifeq_neg hE.2.2.2 (Tot.ifd_neg (by omega) (Tot.so rfl))))))
  rw [encoder_End_eq]
  simp only [Int.ofNat_eq_natCast]
  refine Tot.eq (Tot.be hc (Tot.ifne_neg rfl ?_))
  by_cases hg : e.2.2.1.length > 19996
  · rw [if_pos hg]
    exact Tot.ifd_pos (by omega) (Tot.so rfl)
  · rw [if_neg hg]
    refine Tot.ifd_neg (by omega) ?_
    rw [encoder_end_eq]
    have hL : ∀ a b c d : Int, (e.2.2.1 ++ [a, b, c, d]).length = e.2.2.1.length + 4 := fun a b c d => by rw [List.length_append]; rfl
    refine Tot.b (P := fun r => r = e.2.2.1 ++ tail4 e.1) (Tot.be (slices_Clone_byte_byte_T _ (by omega)) (Tot.g (by decide) (Tot.g (by decide) (Tot.g (by decide) (Tot.g (by rw [hL]; omega) (Tot.so ?_)))))) (fun r hr => Tot.so (by rw [hr]))
    simp only [wu8, fdiv_pos _ (show (0:Int) < 16777216 by decide), fdiv_pos _ (show (0:Int) < 65536 by decide), fdiv_pos _ (show (0:Int) < 256 by decide)]
    rfl
/-- What Encode goes through. -/
theorem Encode_spec {l : Int} (hl : 0 ≤ l ∧ l ≤ 7) {b : List Int} (hb : b.length ≤ 4096) : ∃ p0 q Ps r, predict_New l = some (p0, 0) ∧ WfP l 0 p0 ∧ PRun (bitsL b) p0 q Ps ∧ codec_Encode l b = some r ∧
    (r.2 = 0 → ∃ ef, GoodN ef ∧ ERun (bitsL b) Ps e0 ef ∧ r.1 = ef.2.2.1 ++ tail4 ef.1 ∧ ef.2.2.1.length ≤ 19996) ∧ (b.length ≤ 600 → r.2 = 0) := by
  obtain ⟨rn, en, hn⟩ : Tot (predict_New l) fun r => r.2 = 0 ∧ WfP l 0 r.1 := by
    obtain ⟨r, e, hr⟩ := New_T l
    refine ⟨r, e, ?_⟩
    have h2 : r.2 = 0 := by
      have := New_ok hl
      rw [e] at this
      obtain ⟨r', e', h'⟩ := this
      obtain rfl := Option.some.inj e'
      exact h'
    exact ⟨h2, hr h2⟩
  have hp := hn.2
  have hL := bitsL_len b
  have h0 : WfR l rn.1 [] (rn.1, [], 0, e0) := ⟨[], [], rfl, by show 0 < 2000; decide, ⟨rfl, rfl⟩, fun _ => ⟨e0_good, rfl⟩, fun _ => ⟨rfl, by show 0 ≤ 0; decide⟩⟩
  obtain ⟨s, es, hs⟩ := each_run_R hp (bitsL b) [] _ h0 (by rw [List.length_nil]; omega)
  rw [List.nil_append] at hs
  obtain ⟨pre, Ps, hd, hw, hr, hg, hsm⟩ := hs
  have hdl : (bitsL b).length = pre.length + s.2.1.length := by
    have e9 : (bitsL b).length = (pre ++ s.2.1).length := congrArg List.length hd
    rw [List.length_append] at e9
    exact e9
  have hpl := PRun_wf pre 0 rn.1 s.1 Ps hp (by omega) hr
  obtain ⟨q, Qs, hq⟩ := PRun_ex s.2.1 (0 + pre.length) s.1 hpl.1 (by omega)
  obtain ⟨f, ef, hf⟩ := each_1_good hpl.1 (by omega) (by omega) hq s.2.2.1 (fun z => (hg z).1)
  have hstart : codec_start l b.length = some (rn.1, 0) := by
    rw [codec_start_eq]
    exact Tot.eq (Tot.be en (Tot.ifeq_pos hn.1 (Tot.ifd_neg (by omega) (Tot.so (Prod.ext rfl hn.1)))))
  have heach : codec_each rn.1 b 0 e0 = some (f.2.2.2.1, f.2.2.2.2) := by
    unfold codec_each
    refine Tot.eq (Tot.g (by omega) (Tot.g (fun l' hl' => ?_) (Tot.be es (Tot.be ef (Tot.so rfl)))))
    obtain ⟨r, e1, _⟩ := each_run_R hp l' [] _ h0 (by rw [List.length_nil]; omega)
    rw [e1]; rfl
  have hrun : PRun (bitsL b) rn.1 q (Ps ++ Qs) := by rw [hd]; exact PRun_app _ _ _ _ _ _ _ hr hq
  by_cases hz : f.2.2.2.1 = 0
  · have a := hf.2.2.1 hz
    refine ⟨rn.1, q, Ps ++ Qs, if f.2.2.2.2.2.2.1.length > 19996 then ([], 4) else (f.2.2.2.2.2.2.1 ++ tail4 f.2.2.2.2.1, 0), ?_, hp, hrun, ?_, ?_, ?_⟩
    · rw [en]; exact congrArg some (Prod.ext rfl hn.1)
    · rw [codec_Encode_eq]
      simp only [Int.ofNat_eq_natCast]
      exact Tot.eq (Tot.be hstart (Tot.ifne_neg rfl (Tot.be encoder_New_eq (Tot.be heach (Tot.ifne_neg hz (Tot.be (End_spec a.2.1) (Tot.so rfl)))))))
    · intro k
      by_cases hbig : f.2.2.2.2.2.2.1.length > 19996
      · rw [if_pos hbig] at k; exact absurd k (by decide)
      · rw [if_neg hbig]
        refine ⟨f.2.2.2.2, a.2.1, ?_, rfl, by omega⟩
        rw [hd]; exact ERun_app _ _ _ _ _ _ _ hpl.2.1 (hg a.1).2 a.2.2
    · intro k
      have a1 := hsm (by omega)
      have a2 := hf.2.2.2 a1.1 (by omega)
      rw [if_neg (by omega)]
  · refine ⟨rn.1, q, Ps ++ Qs, ([], 4), ?_, hp, hrun, ?_, fun k => absurd k (by decide), fun k => ?_⟩
    · rw [en]; exact congrArg some (Prod.ext rfl hn.1)
    · rw [codec_Encode_eq]
      simp only [Int.ofNat_eq_natCast]
      exact Tot.eq (Tot.be hstart (Tot.ifne_neg rfl (Tot.be encoder_New_eq (Tot.be heach (Tot.ifne_pos hz (Tot.so rfl))))))
    · have a1 := hsm (by omega)
      exact absurd (hf.2.2.2 a1.1 (by omega)).1 hz
end Go.Ab

/-
  The coder there and back, 4: Decode gives the bytes again.
-/
set_option linter.unusedVariables false
set_option linter.unusedSimpArgs false
set_option maxRecDepth 10000
namespace Go.Ab
open Go
attribute [local irreducible] IntKind.wrap
theorem orU32 {y z : Int} (h0 : 0 ≤ y) (h1 : y < 4294967296) (hm : y % 256 = 0) (z0 : 0 ≤ z) (z1 : z < 256) : bitsOr .u32 y z = y + z := by
  have e : bitsOr .u32 y z = ((BitVec.ofInt 32 y ||| BitVec.ofInt 32 z).toNat : Int) := by
    show IntKind.wrap .u32 ((BitVec.ofInt 32 y ||| BitVec.ofInt 32 z).toNat : Int) = _
    rw [wu32]
    have := (BitVec.ofInt 32 y ||| BitVec.ofInt 32 z).isLt
    omega
  rw [e, BitVec.toNat_or, ofInt_small 32 y h0 (by omega), ofInt_small 32 z (by omega) (by omega)]
  have h2 : y.toNat = 2 ^ 8 * (y.toNat / 256) := by omega
  rw [h2, ← Nat.two_pow_add_eq_or_of_lt (show z.toNat < 2 ^ 8 by omega)]
  omega
/-! ### 1. The decoder's steps -/
theorem dec_at_spec {c : List Int} (i : Nat) : decoder_at c i = some (c.getD i 0) := by
  rw [decoder_at_eq]
  simp only [Int.ofNat_eq_natCast]
  by_cases h : (i : Int) < c.length
  · exact Tot.eq (Tot.ifd_pos h (Tot.g (by omega) (Tot.g h (Tot.so (by rw [Int.toNat_natCast])))))
  · refine Tot.eq (Tot.ifd_neg h (Tot.so ?_))
    rw [List.getD_eq_getElem?_getD, List.getElem?_eq_none (by omega)]
    rfl
theorem dec_start_step {c : List Int} (hc : Bts c) (b8a b8ba b8bba : Int) (b8b : D_api_Walk) (h10 : List Int) (x1 x2 x : Int) (cc : List Int) (u : Unit) (k : Nat) (hk : k < 4) (hx0 : 0 ≤ x) (hx1 : x < 4294967296) :
    decoder_start_c1 c b8a b8ba b8bba b8b (x1, (x2, (x, (cc, ((k : Int), u))))) h10 = decoder_start_c1 c b8a b8ba b8bba b8b (x1, (x2, (x * 256 % 4294967296 + c.getD k 0, (cc, (((k + 1 : Nat) : Int), u))))) h10 := by
  have hb := bts_getD hc k
  rw [decoder_start_c1_eq, if_pos (by rw [decide_eq_true_eq]; simp only; omega), gd_pos (by decide)]
  simp only
  rw [dec_at_spec, Option.bind_some, wu32, wu32, w64 (x := (k : Int) + 1) (by omega) (by omega)]
  have e : c.getD k 0 % 4294967296 = c.getD k 0 := by omega
  rw [e, orU32 (by omega) (by omega) (by omega) hb.1 hb.2]
  rfl
def decAt (e : D_api_Encoder) (c : List Int) : D_api_Decoder := (e.1, (e.2.1, (at4 c e.2.2.1.length, (c, (((e.2.2.1.length + 4 : Nat) : Int), ())))))
theorem dec_New_spec {c : List Int} (hc : Bts c) (hl : c.length ≤ 20000) : decoder_New c = some (decAt e0 c, 0) := by
  have h0 := bts_getD hc 0
  have h1 := bts_getD hc 1
  have h2 := bts_getD hc 2
  have h3 := bts_getD hc 3
  rw [decoder_New_eq]
  simp only [Int.ofNat_eq_natCast]
  refine Tot.eq (Tot.ifd_neg (by omega) (Tot.be (slices_Clone_byte_byte_T _ (by omega)) (Tot.be (v := decAt e0 c) ?_ (Tot.so rfl))))
  rw [decoder_start_eq]
  have s0 := dec_start_step hc 0 0 0 (0, ()) [] 0 4294967295 0 c () 0 (by decide) (by omega) (by omega)
  rw [show ((0 : Nat) : Int) = 0 from rfl] at s0
  rw [s0]
  have e0' : (0 : Int) * 256 % 4294967296 + c.getD 0 0 = c.getD 0 0 := by omega
  rw [e0', dec_start_step hc 0 0 0 (0, ()) [] 0 4294967295 _ c () 1 (by decide) (by omega) (by omega), dec_start_step hc 0 0 0 (0, ()) [] 0 4294967295 _ c () 2 (by decide) (by omega) (by omega), dec_start_step hc 0 0 0 (0, ()) [] 0 4294967295 _ c () 3 (by decide) (by omega) (by omega)]
  rw [decoder_start_c1_eq, if_neg (by simp)]
  have e : ((c.getD 0 0 * 256 % 4294967296 + c.getD 1 0) * 256 % 4294967296 + c.getD 2 0) * 256 % 4294967296 + c.getD 3 0 = at4 c 0 := by
    unfold at4
    simp only [Nat.zero_add]
    omega
  rw [e]
  rfl
theorem get_c1_spec {c : List Int} (hc : Bts c) (v : Bool) (u : Unit) : ∀ (k : Nat) (a b : Int) (i : Nat), Shp4 k a b → i + k ≤ 100000 →
    decoder_get_c1 v (a, (b, (at4 c i, (c, (((i + 4 : Nat) : Int), u))))) = some (v, ((nrm k a b).1, ((nrm k a b).2.1, (at4 c (i + (nrm k a b).2.2.length), (c, (((i + (nrm k a b).2.2.length + 4 : Nat) : Int), u))))))
  | 0, a, b, i, hs, hi => by
    obtain ⟨_, hs⟩ := hs
    have : a = 0 ∧ b = 4294967295 := by omega
    obtain ⟨rfl, rfl⟩ := this
    rw [decoder_get_c1_eq, gd_pos (by decide), gd_pos (by decide), if_neg (by show ¬ ((Int.fdiv 0 16777216 == Int.fdiv 4294967295 16777216) = true); decide)]
    rfl
  | k + 1, a, b, i, hs, hi => by
    have hr := hs.1
    have hb := bts_getD hc (i + 4)
    have h4 := at4_step hc i
    rw [decoder_get_c1_eq, gd_pos (by decide), gd_pos (by decide)]
    simp only [fdiv_pos _ (show (0:Int) < 16777216 by decide), beq_iff_eq]
    unfold nrm
    by_cases e : a / 16777216 = b / 16777216
    · rw [if_pos e, if_pos e, gd_pos (by decide), gd_pos (by decide), gd_pos (by decide), dec_at_spec, Option.bind_some]
      have ho : bitsOr .u32 (b * 256 % 4294967296) 255 = b * 256 % 4294967296 + 255 := or255 (by omega) (by omega) (by omega)
      have e1 : c.getD (i + 4) 0 % 4294967296 = c.getD (i + 4) 0 := by omega
      rw [wu32, wu32, wu32, wu32, ho, e1, orU32 (by omega) (by omega) (by omega) hb.1 hb.2, h4.1, w64 (by omega) (by omega)]
      have e2 : ((i + 4 : Nat) : Int) + 1 = ((i + 1 + 4 : Nat) : Int) := by omega
      rw [e2, get_c1_spec hc v u k _ _ (i + 1) (hs.step e) (by omega)]
      simp only [List.length_cons]
      have e3 : i + 1 + (nrm k (a * 256 % 4294967296) (b * 256 % 4294967296 + 255)).2.2.length = i + ((nrm k (a * 256 % 4294967296) (b * 256 % 4294967296 + 255)).2.2.length + 1) := by omega
      rw [e3]
    · rw [if_neg e, if_neg e]
      rfl
/-- Get, where the number lies between the ends. -/
theorem Get_spec {c : List Int} (hc : Bts c) (hl : c.length ≤ 20000) {e : D_api_Encoder} (h : GoodN e) (hx1 : e.1 ≤ at4 c e.2.2.1.length) (hx2 : at4 c e.2.2.1.length ≤ e.2.1) {p : Int} (hp0 : 0 ≤ p) (hp1 : p ≤ 4095) (t : Bool)
    (ht : t = decide (at4 c e.2.2.1.length ≤ spl e.1 e.2.1 p)) :
    decoder_Get (decAt e c) p = some (decAt ((stp t e.1 e.2.1 p).1, ((stp t e.1 e.2.1 p).2.1, (e.2.2.1 ++ (stp t e.1 e.2.1 p).2.2, ()))) c, (t, 0)) := by
  obtain ⟨⟨hE, hB⟩, hn⟩ := h
  have hs := spl_in hE hp0 hp1
  have hsh := bit_shp (t := t) hE hp0 hp1
  have hlen := (nrm_ends 4 _ _ hsh).2.1
  have hcheck : decoder_Check (decAt e c) = some 0 := by
    rw [decoder_Check_eq]
    simp only [Int.ofNat_eq_natCast, fdiv_pos _ (show (0:Int) < 16777216 by decide), decAt]
    exact Tot.eq (Tot.ifd_neg (by have := hE.2.1; omega) (Tot.g (by decide) (Tot.g (by decide) (Tot.ifeq_neg hE.2.2.2 (Tot.ifd_neg (by omega) (Tot.ifd_neg (by omega) (Tot.ifd_neg (by omega) (Tot.ifd_neg (by omega) (Tot.ifd_neg (by omega) (Tot.so rfl))))))))))
  have hwrong : decoder_wrong p = some false := by
    rw [decoder_wrong_eq]
    exact Tot.eq (Tot.ifd_neg (by omega) (Tot.so (decide_eq_false (by omega))))
  have hsplit : encoder_Split e.1 e.2.1 p = some (spl e.1 e.2.1 p, 0) := by
    have hp : encoder_prob p = some true := by
      rw [encoder_prob_eq]
      exact Tot.eq (Tot.ifd_pos hp0 (Tot.so (decide_eq_true hp1)))
    rw [encoder_Split_eq]
    exact Tot.eq (Tot.ifd_neg (by have := hE.2.1; omega) (Tot.be hp (Tot.ifn (fun k => absurd k (by decide)) (fun _ => Tot.be (split_spec hE hp0 hp1) (Tot.so rfl)))))
  have hget : decoder_get p (decAt e c) = some (t, decAt ((stp t e.1 e.2.1 p).1, ((stp t e.1 e.2.1 p).2.1, (e.2.2.1 ++ (stp t e.1 e.2.1 p).2.2, ()))) c) := by
    have key := get_c1_spec hc t () 4 (bitA t e.1 e.2.1 p) (bitZ t e.1 e.2.1 p) e.2.2.1.length hsh (by omega)
    have hfin : (t, ((nrm 4 (bitA t e.1 e.2.1 p) (bitZ t e.1 e.2.1 p)).1, ((nrm 4 (bitA t e.1 e.2.1 p) (bitZ t e.1 e.2.1 p)).2.1, (at4 c (e.2.2.1.length + (nrm 4 (bitA t e.1 e.2.1 p) (bitZ t e.1 e.2.1 p)).2.2.length), (c, (((e.2.2.1.length + (nrm 4 (bitA t e.1 e.2.1 p) (bitZ t e.1 e.2.1 p)).2.2.length + 4 : Nat) : Int), ())))))) =
        (t, decAt ((stp t e.1 e.2.1 p).1, ((stp t e.1 e.2.1 p).2.1, (e.2.2.1 ++ (stp t e.1 e.2.1 p).2.2, ()))) c) := by
      unfold decAt stp
      simp only [List.length_append]
    rw [hfin] at key
    rw [decoder_get_eq]
    refine Tot.eq (Tot.be hsplit ?_)
    have e1 : (decAt e c).2.2.1 = at4 c e.2.2.1.length := rfl
    simp only
    rw [e1, ← ht]
    refine Tot.it (fun k => ?_) (fun k => ?_)
    · rw [k] at key ⊢
      refine Tot.of_eq ?_ rfl
      exact key
    · have k' : t = false := by cases t with
        | true => exact absurd rfl k
        | false => rfl
      rw [k'] at key ⊢
      have w1 : IntKind.wrap .u32 (spl e.1 e.2.1 p + 1) = spl e.1 e.2.1 p + 1 := by rw [wu32]; have := hE.1; have := hE.2.2.1; omega
      rw [w1]
      refine Tot.of_eq ?_ rfl
      exact key
  rw [decoder_Get_eq]
  refine Tot.eq (Tot.be hcheck (Tot.ifne_neg rfl (Tot.be hwrong (Tot.iff_ (Tot.be (slices_Clone_byte_byte_T _ (by show c.length ≤ 1048576; omega)) (Tot.be hget (Tot.ifd_neg ?_ (Tot.so rfl))))))))
  show ¬ (((e.2.2.1 ++ (stp t e.1 e.2.1 p).2.2).length + 4 : Nat) : Int) > 1000000
  have hlen' : (stp t e.1 e.2.1 p).2.2.length ≤ 4 := hlen
  rw [List.length_append]
  omega
/-! ### 2. The number lies between the ends -/
theorem encl : ∀ (bs : List Bool) (Ps : List Int) (e ef : D_api_Encoder), GoodN e → (∀ P ∈ Ps, 1 ≤ P ∧ P ≤ 4095) → ERun bs Ps e ef → GoodN ef →
    (∃ rest, ef.2.2.1 ++ tail4 ef.1 = e.2.2.1 ++ rest) ∧ e.1 ≤ at4 (ef.2.2.1 ++ tail4 ef.1) e.2.2.1.length ∧ at4 (ef.2.2.1 ++ tail4 ef.1) e.2.2.1.length ≤ e.2.1
  | [], Ps, e, ef, h, hP, hr, hf => by
    have he : ef = e := hr
    subst he
    refine ⟨⟨_, rfl⟩, ?_⟩
    have hE := h.1.1
    have e4 : at4 (ef.2.2.1 ++ tail4 ef.1) ef.2.2.1.length = ef.1 := by
      have g : ∀ j, (ef.2.2.1 ++ tail4 ef.1).getD (ef.2.2.1.length + j) 0 = (tail4 ef.1).getD j 0 := fun j => by
        rw [List.getD_eq_getElem?_getD, List.getElem?_append_right (by omega), Nat.add_sub_cancel_left, ← List.getD_eq_getElem?_getD]
      have g0 := g 0
      rw [Nat.add_zero] at g0
      unfold at4
      rw [g0, g 1, g 2, g 3]
      show ef.1 / 16777216 % 256 * 16777216 + ef.1 / 65536 % 256 * 65536 + ef.1 / 256 % 256 * 256 + ef.1 % 256 = ef.1
      have := hE.1
      have := hE.2.1
      have := hE.2.2.1
      omega
    rw [e4]
    exact ⟨Int.le_refl _, by have := hE.2.1; omega⟩
  | b :: bs, Ps, e, ef, h, hP, hr, hf => by
    obtain ⟨P, Ps', e1, rfl, hp, hr⟩ := hr
    have hPP := hP P List.mem_cons_self
    obtain ⟨r, er, hr1, _⟩ := Put_good h (p := P) b (by omega) hPP.2
    rw [hp] at er
    obtain rfl := Option.some.inj er
    obtain ⟨hg, he⟩ := hr1 rfl
    simp only at hg he
    obtain ⟨⟨rest, h1⟩, h2, h3⟩ := encl bs Ps' e1 ef hg (fun x hx => hP x (List.mem_cons_of_mem _ hx)) hr hf
    have ho : e1.2.2.1 = e.2.2.1 ++ (stp b e.1 e.2.1 P).2.2 := by rw [he]
    have ha : e1.1 = (stp b e.1 e.2.1 P).1 := by rw [he]
    have hb : e1.2.1 = (stp b e.1 e.2.1 P).2.1 := by rw [he]
    have hcB : Bts (ef.2.2.1 ++ tail4 ef.1) := Bts.append hf.1.2 (tail4_bts _)
    have hsh := bit_shp (t := b) h.1.1 (p := P) (by omega) hPP.2
    have hlo : e1.2.2.1.length = e.2.2.1.length + (stp b e.1 e.2.1 P).2.2.length := by rw [ho, List.length_append]
    rw [ha, hlo] at h2
    rw [hb, hlo] at h3
    have hin := nrm_encl hcB 4 _ _ e.2.2.1.length hsh (fun j hj => by
      have hj' : j < (stp b e.1 e.2.1 P).2.2.length := hj
      rw [h1, ho, List.append_assoc]
      rw [List.getD_eq_getElem?_getD, List.getElem?_append_right (by omega), Nat.add_sub_cancel_left, List.getElem?_append_left hj', ← List.getD_eq_getElem?_getD]
      rfl) h2 h3
    refine ⟨⟨(stp b e.1 e.2.1 P).2.2 ++ rest, by rw [h1, ho, List.append_assoc]⟩, ?_⟩
    have hs := spl_in h.1.1 (p := P) (by omega) hPP.2
    unfold bitA bitZ at hin
    cases b with
    | true => rw [if_pos rfl, if_pos rfl] at hin; omega
    | false => rw [if_neg (by decide), if_neg (by decide)] at hin; omega
/-- The bit that the decoder reads is the bit. -/
theorem the_bit {bs : List Bool} {b : Bool} {P : Int} {Ps : List Int} {e e1 ef : D_api_Encoder} (h : GoodN e) (hP : ∀ x ∈ P :: Ps, 1 ≤ x ∧ x ≤ 4095) (hp : encoder_Put e P b = some (e1, 0)) (hr : ERun bs Ps e1 ef) (hf : GoodN ef) :
    GoodN e1 ∧ decoder_Get (decAt e (ef.2.2.1 ++ tail4 ef.1)) P = (if (ef.2.2.1 ++ tail4 ef.1).length ≤ 20000 then some (decAt e1 (ef.2.2.1 ++ tail4 ef.1), (b, 0)) else decoder_Get (decAt e (ef.2.2.1 ++ tail4 ef.1)) P) := by
  have hPP := hP P List.mem_cons_self
  obtain ⟨r, er, hr1, _⟩ := Put_good h (p := P) b (by omega) hPP.2
  rw [hp] at er
  obtain rfl := Option.some.inj er
  obtain ⟨hg, he⟩ := hr1 rfl
  simp only at hg he
  refine ⟨hg, ?_⟩
  by_cases hl : (ef.2.2.1 ++ tail4 ef.1).length ≤ 20000
  rotate_left
  · rw [if_neg hl]
  rw [if_pos hl]
  have hcB : Bts (ef.2.2.1 ++ tail4 ef.1) := Bts.append hf.1.2 (tail4_bts _)
  have hen := encl (b :: bs) (P :: Ps) e ef h hP ⟨P, Ps, e1, rfl, hp, hr⟩ hf
  have hbit : b = decide (at4 (ef.2.2.1 ++ tail4 ef.1) e.2.2.1.length ≤ spl e.1 e.2.1 P) := by
    obtain ⟨⟨rest, h1⟩, h2, h3⟩ := encl bs Ps e1 ef hg (fun x hx => hP x (List.mem_cons_of_mem _ hx)) hr hf
    have ho : e1.2.2.1 = e.2.2.1 ++ (stp b e.1 e.2.1 P).2.2 := by rw [he]
    have ha : e1.1 = (stp b e.1 e.2.1 P).1 := by rw [he]
    have hb : e1.2.1 = (stp b e.1 e.2.1 P).2.1 := by rw [he]
    have hsh := bit_shp (t := b) h.1.1 (p := P) (by omega) hPP.2
    have hlo : e1.2.2.1.length = e.2.2.1.length + (stp b e.1 e.2.1 P).2.2.length := by rw [ho, List.length_append]
    rw [ha, hlo] at h2
    rw [hb, hlo] at h3
    have hin := nrm_encl hcB 4 _ _ e.2.2.1.length hsh (fun j hj => by
      have hj' : j < (stp b e.1 e.2.1 P).2.2.length := hj
      rw [h1, ho, List.append_assoc]
      rw [List.getD_eq_getElem?_getD, List.getElem?_append_right (by omega), Nat.add_sub_cancel_left, List.getElem?_append_left hj', ← List.getD_eq_getElem?_getD]
      rfl) h2 h3
    unfold bitA bitZ at hin
    cases b with
    | true => rw [if_pos rfl, if_pos rfl] at hin; rw [decide_eq_true hin.2]
    | false => rw [if_neg (by decide), if_neg (by decide)] at hin; rw [decide_eq_false (by omega)]
  have := Get_spec hcB hl h hen.2.1 hen.2.2 (p := P) (by omega) hPP.2 b hbit
  rw [this, he]
/-! ### 3. The bytes -/
def accB (v : Int) (b : Bool) : Int := if b = true then IntKind.wrap .u8 (IntKind.wrap .u8 (v * 2) + 1) else IntKind.wrap .u8 (v * 2)
theorem accB_all : ∀ z : Fin 256, (bitsB (z.val : Int)).foldl accB 0 = (z.val : Int) := by decide +kernel
theorem accB_byte {z : Int} (h : 0 ≤ z ∧ z < 256) : (bitsB z).foldl accB 0 = z := by
  have := accB_all ⟨z.toNat, by omega⟩
  have e : ((z.toNat : Nat) : Int) = z := by omega
  simp only [e] at this
  exact this
/-- In the midst of a byte. -/
theorem dec_c2 {l : Int} (c : List Int) (ef : D_api_Encoder) (hf : GoodN ef) (hcd : c = ef.2.2.1 ++ tail4 ef.1) (hcl : c.length ≤ 20000) (v2 : Int) (h10 : List Int) : ∀ (bs : List Bool) (rest : List Bool) (N : Int) (j : Nat) (v : Int) (p q : D_api_Predictor) (e : D_api_Encoder) (Ps : List Int),
    j + bs.length = 8 → WfP l N p → N + ((bs ++ rest).length : Int) < 1073741824 → GoodN e → PRun (bs ++ rest) p q Ps → ERun (bs ++ rest) Ps e ef →
    ∃ p' e' Ps', codec_Decode_c2 v2 v (j : Int) p (decAt e c) h10 = codec_Decode_c2 v2 (bs.foldl accB v) 8 p' (decAt e' c) h10 ∧ WfP l (N + bs.length) p' ∧ GoodN e' ∧ PRun rest p' q Ps' ∧ ERun rest Ps' e' ef
  | [], rest, N, j, v, p, q, e, Ps, hj, hp, hN, he, hr, hE => by
    obtain rfl : j = 8 := by simpa using hj
    exact ⟨p, e, Ps, rfl, by simpa using hp, he, hr, hE⟩
  | b :: bs, rest, N, j, v, p, q, e, Ps, hj, hp, hN, he, hr, hE => by
    simp only [List.length_cons] at hj
    rw [List.cons_append] at hr hE hN
    simp only [List.length_cons] at hN
    have hw := PRun_wf (b :: (bs ++ rest)) N p q Ps hp (by rw [List.length_cons]; omega) hr
    obtain ⟨p1, P, Ps', k, hr, rfl⟩ := hr
    obtain ⟨P', Ps'', e1, hPe, hput, hE⟩ := hE
    obtain ⟨rfl, rfl⟩ := List.cons.inj hPe
    have hs := PStep_wf hp (by omega) k
    have hb := the_bit he hw.2.2 hput hE hf
    have hget := hb.2
    rw [← hcd, if_pos hcl] at hget
    have ih := dec_c2 c ef hf hcd hcl v2 h10 bs rest (N + 1) (j + 1) (accB v b) p1 q e1 Ps' (by omega) hs.1 (by omega) hb.1 hr hE
    obtain ⟨p', e', Ps2, h1, h2, h3, h4, h5⟩ := ih
    refine ⟨p', e', Ps2, ?_, ?_, h3, h4, h5⟩
    · rw [List.foldl_cons, ← h1, codec_Decode_c2_eq, if_pos (by rw [decide_eq_true_eq]; omega), P_spec hp k, Option.bind_some]
      simp only
      rw [hget, Option.bind_some]
      simp only
      rw [Update_spec hp k, Option.bind_some, w64 (x := (j : Int) + 1) (by omega) (by omega)]
      have e3 : (j : Int) + 1 = ((j + 1 : Nat) : Int) := by omega
      rw [e3]
      unfold accB
      cases b with
      | true => rw [if_pos rfl, if_pos rfl]
      | false => rw [if_neg (by decide), if_neg (by decide)]
    · have e4 : N + 1 + (bs.length : Int) = N + ((b :: bs).length : Int) := by rw [List.length_cons]; omega
      rw [← e4]; exact h2
theorem bitsL_cons (z : Int) (zs : List Int) : bitsL (z :: zs) = bitsB z ++ bitsL zs := rfl
theorem dec_c1 {l : Int} (c : List Int) (ef : D_api_Encoder) (hf : GoodN ef) (hcd : c = ef.2.2.1 ++ tail4 ef.1) (hcl : c.length ≤ 20000) : ∀ (zs : List Int) (hs : List Int) (N : Int) (p q : D_api_Predictor) (e : D_api_Encoder) (Ps : List Int), Bts zs → hs.length + zs.length ≤ 4096 →
    WfP l N p → N + 8 * (zs.length : Int) < 1073741824 → GoodN e → PRun (bitsL zs) p q Ps → ERun (bitsL zs) Ps e ef → codec_Decode_c1 ((hs.length + zs.length : Nat) : Int) p (decAt e c) hs = some (hs ++ zs, 0)
  | [], hs, N, p, q, e, Ps, hz, hl, hp, hN, he, hr, hE => by
    rw [codec_Decode_c1_eq, if_neg (by simp), List.append_nil]
  | z :: zs, hs, N, p, q, e, Ps, hz, hl, hp, hN, he, hr, hE => by
    simp only [List.length_cons] at hl hN
    have hb8 := bitsB_len z
    have hL := bitsL_len zs
    rw [bitsL_cons] at hr hE
    obtain ⟨p', e', Ps', h1, h2, h3, h4, h5⟩ := dec_c2 c ef hf hcd hcl ((hs.length + (z :: zs).length : Nat) : Int) hs (bitsB z) (bitsL zs) N 0 0 p q e Ps (by omega) hp (by rw [List.length_append]; omega) he hr hE
    rw [accB_byte (hz z List.mem_cons_self)] at h1
    rw [show ((0 : Nat) : Int) = 0 from rfl] at h1
    rw [codec_Decode_c1_eq, if_pos (by simp; omega), h1, codec_Decode_c2_eq, if_neg (by decide), gd_pos (by rw [List.length_append, List.length_singleton]; omega)]
    have ih := dec_c1 c ef hf hcd hcl zs (hs ++ [z]) (N + (bitsB z).length) p' q e' Ps' (fun x hx => hz x (List.mem_cons_of_mem _ hx)) (by rw [List.length_append, List.length_singleton]; omega) h2 (by omega) h3 h4 h5
    have e6 : (hs ++ [z]).length + zs.length = hs.length + (z :: zs).length := by rw [List.length_append, List.length_singleton, List.length_cons]; omega
    rw [e6] at ih
    rw [ih, List.append_assoc]
    rfl
/-- Decode gives the bytes again. -/
theorem there_and_back {l : Int} (hl : 0 ≤ l ∧ l ≤ 7) {b : List Int} (hB : Bts b) (hb : b.length ≤ 4096) {c : List Int} (h : codec_Encode l b = some (c, 0)) : codec_Decode l c b.length = some (b, 0) := by
  obtain ⟨p0, q, Ps, r, hn, hp, hr, he, hr0, _⟩ := Encode_spec hl hb
  rw [h] at he
  obtain rfl := Option.some.inj he
  obtain ⟨ef, hf, hE, hc, hlen⟩ := hr0 rfl
  simp only at hc
  have hcB : Bts c := by rw [hc]; exact Bts.append hf.1.2 (tail4_bts _)
  have hcl : c.length ≤ 20000 := by rw [hc, List.length_append]; show _ + 4 ≤ _; omega
  have hstart : codec_start l 0 = some (p0, 0) := by
    rw [codec_start_eq]
    exact Tot.eq (Tot.be hn (Tot.ifeq_pos rfl (Tot.ifd_neg (by decide) (Tot.so rfl))))
  have hL := bitsL_len b
  have := dec_c1 c ef hf hc hcl b [] 0 p0 q e0 Ps hB (by rw [List.length_nil]; omega) hp (by omega) e0_good hr hE
  rw [List.length_nil, Nat.zero_add, List.nil_append] at this
  rw [codec_Decode_eq]
  refine Tot.eq (Tot.be hstart (Tot.ifne_neg rfl (Tot.ifd_neg (by omega) (Tot.ifd_neg (by omega) (Tot.be (dec_New_spec hcB hcl) (Tot.ifne_neg rfl ?_))))))
  exact Tot.of_eq this rfl
end Go.Ab

/-
  Chapter 27: read is what was written.
-/
set_option linter.unusedVariables false
set_option linter.unusedSimpArgs false
set_option maxRecDepth 10000
namespace Go.Ab
open Go
attribute [local irreducible] IntKind.wrap
theorem Make_T2 {l a1 a2 : Int} {z : List Int} (hl : 0 ≤ l ∧ l ≤ 7) (hm : mOK a1 a2 z) (hb : Bts z) :
    Tot (block_Make l a1 a2 z) fun r => r.2 = 0 ∧ ((r.1 = storedB a1 a2 z ∧ ∀ c, codec_Encode l z = some (c, 0) → z.length ≤ c.length) ∨ ∃ c, codec_Encode l z = some (c, 0) ∧ Bts c ∧ 4 ≤ c.length ∧ c.length < z.length ∧ r.1 = codedB a1 a2 z c) := by
  rw [block_Make_eq]
  simp only [Int.ofNat_eq_natCast]
  have hc : hC (1, (a1, (a2, ((z.length : Int), ((z.length : Int), (List.replicate 20 0, ())))))) = 0 := if_pos (mOK_stored hm _)
  have hz : z.length ≤ 4096 := by unfold mOK at hm; omega
  refine Tot.be (isLevel_spec l) ?_
  rw [decide_eq_true hl]
  obtain ⟨r, e, hr⟩ := codec_Encode_T l z
  refine Tot.ifn (fun k => absurd k (by decide)) (fun _ => Tot.be (header_Check_spec _) (Tot.ifne_neg hc (Tot.be (bytes_Clone_T z (by omega)) (Tot.be e ?_))))
  refine Tot.ifeq (fun h0 => Tot.ifd (fun h1 => ?_) (fun h1 => ?_)) (fun h0 => ?_)
  · have h2 := hr.2 h0
    refine Tot.be (header_Seal_spec (by decide) hb (mOK_coded hm h2.1 (by omega) _)) (Tot.so ⟨rfl, Or.inr ⟨r.1, ?_, hr.1, h2.1, by omega, rfl⟩⟩)
    rw [e]; exact congrArg some (Prod.ext rfl h0)
  · refine Tot.be (header_Seal_spec (by decide) hb (mOK_stored hm _)) (Tot.so ⟨rfl, Or.inl ⟨rfl, fun c k => ?_⟩⟩)
    rw [e] at k
    have e2 := Option.some.inj k
    rw [e2] at h1
    simp only at h1
    omega
  · refine Tot.be (header_Seal_spec (by decide) hb (mOK_stored hm _)) (Tot.so ⟨rfl, Or.inl ⟨rfl, fun c k => ?_⟩⟩)
    rw [e] at k
    have e2 := Option.some.inj k
    rw [e2] at h0
    exact absurd rfl h0
theorem coded_bC {a1 a2 : Int} {z c : List Int} (hm : mOK a1 a2 z) (h1 : 4 ≤ c.length) (h2 : c.length < z.length) : bC (codedB a1 a2 z c) = 0 := if_pos ⟨mOK_coded hm h1 h2 _, rfl⟩
theorem coded_bWf (a1 a2 : Int) (z c : List Int) : bWf (codedB a1 a2 z c) := ⟨⟨by show (0:Int) ≤ 2; decide, by show (2:Int) < 256; decide⟩, shaB_len _⟩
/-- Raw gives what was made. -/
theorem Raw_coded {l a1 a2 : Int} {z c : List Int} (hl : 0 ≤ l ∧ l ≤ 7) (hm : mOK a1 a2 z) (hb : Bts z) (hc : Bts c) (he : codec_Encode l z = some (c, 0)) (h1 : 4 ≤ c.length) (h2 : c.length < z.length) : block_Raw l (codedB a1 a2 z c) = some (z, 0) := by
  have hz : z.length ≤ 4096 := by unfold mOK at hm; omega
  have hbk := there_and_back hl hb hz he
  have hR := header_Right_T (h := (codedB a1 a2 z c).1) (mOK_coded hm h1 h2 _) (coded_bWf a1 a2 z c).1 hb rfl
  have hRt : header_Right (codedB a1 a2 z c).1 z = some (true, 0) := by
    rw [hR]; exact congrArg some (Prod.ext (decide_eq_true rfl) rfl)
  have hE : bytes_Equal c c = some true := by rw [bytes_Equal_eq]; exact congrArg some (by simp)
  rw [block_Raw_eq]
  refine Tot.eq (Tot.be (block_Check_spec _) (Tot.ifne_neg (coded_bC hm h1 h2) (Tot.be (isLevel_spec l) ?_)))
  rw [decide_eq_true hl]
  exact Tot.ifn (fun k => absurd k (by decide)) (fun _ => Tot.be (bytes_Clone_T _ (by show c.length ≤ 1048576; omega)) (Tot.ifeq_pos rfl (Tot.be hbk (Tot.ifne_neg rfl (Tot.be he (Tot.ifne_neg rfl (Tot.be hE (Tot.ifn (fun k => absurd k (by decide)) (fun _ => Tot.be hRt (Tot.ifn (fun k => absurd k (by decide)) (fun _ => Tot.so rfl)))))))))))
theorem pH_hB {h : D_api_BlockHead} (ok : hOK h) (hs : h.2.2.2.2.2.1.length = 20) : pH (hB h) = h := by
  obtain ⟨m, mem, off, raw, len, sum, u⟩ := h
  have e : pH (hB (m, mem, off, raw, len, sum, u)) = (m % 256, (mem % 256, (off / 256 % 256 * 256 + off % 256, (raw / 256 % 256 * 256 + raw % 256, (len / 256 % 256 * 256 + len % 256, (sum, ())))))) := rfl
  rw [e]
  unfold hOK at ok
  simp only at ok
  have e1 : m % 256 = m := by omega
  have e2 : mem % 256 = mem := by omega
  have e3 : off / 256 % 256 * 256 + off % 256 = off := by omega
  have e4 : raw / 256 % 256 * 256 + raw % 256 = raw := by omega
  have e5 : len / 256 % 256 * 256 + len % 256 = len := by omega
  rw [e1, e2, e3, e4, e5]
/-- Reading a block's bytes, whatever stands behind. -/
theorem Read_bB {b : D_api_Block} {more : List Int} (hc : bC b = 0) (hw : bWf b) (hs : Bts b.1.2.2.2.2.2.1) (hb : Bts b.2.1) (hm : Bts more) (hl : more.length ≤ 40000) :
    block_Read (bB b ++ more) = some (b, (b.1.2.2.2.2.1 + 41, 0)) := by
  have ok : hOK b.1 ∧ (b.2.1.length : Int) = b.1.2.2.2.2.1 := by
    unfold bC at hc; split at hc
    · assumption
    · cases hc
  have hlen := hOK_len ok.1
  have hhl : (hB b.1).length = 28 := by unfold hB; rw [List.length_append, fr8_len, hw.2]
  have hBB : Bts (bB b ++ more) := Bts.append (Bts.append (Bts.append mark_bts (Bts.append (fr8_bts _) hs)) hb) hm
  have hL : (bB b ++ more).length = 41 + b.2.1.length + more.length := by
    unfold bB; simp only [List.length_append, mark_len, hhl]
  have hw13 : (bB b ++ more).take 13 = mark := by
    unfold bB
    rw [List.append_assoc, List.append_assoc, List.take_append_of_le_length (by rw [mark_len]; omega)]
    rfl
  have hd13 : ((bB b ++ more).drop 13).take 28 = hB b.1 := by
    unfold bB
    rw [List.append_assoc, List.append_assoc, List.drop_append_of_le_length (by rw [mark_len]; omega), List.drop_of_length_le (by rw [mark_len]; omega), List.nil_append, List.take_append_of_le_length (by omega), List.take_of_length_le (by omega)]
  have hd41 : (bB b ++ more).drop 41 = b.2.1 ++ more := by
    have e : bB b ++ more = (mark ++ hB b.1) ++ (b.2.1 ++ more) := by unfold bB; simp only [List.append_assoc]
    have e2 : (mark ++ hB b.1).length = 41 := by rw [List.length_append, mark_len, hhl]
    rw [e, List.drop_append_of_le_length (by omega), List.drop_of_length_le (by omega), List.nil_append]
  rw [block_Read_spec _ hBB]
  unfold rdK
  rw [hd13, pH_hB ok.1 hw.2, if_neg (show ¬ (bB b ++ more).length > 50000 by omega), if_neg (show ¬ (bB b ++ more).length < 41 by omega), if_neg (fun h => h.elim (fun h => h hw13) (fun h => h ok.1)), if_neg (by omega), hd41]
  have e : b.1.2.2.2.2.1.toNat = b.2.1.length := by omega
  rw [e, List.take_append_of_le_length (Nat.le_refl _), List.take_length, Int.add_comm]
theorem May_spec2 (l a1 a2 : Int) (z : List Int) : bitloftref27_May l a1 a2 z = some (decide ((0 ≤ l ∧ l ≤ 7) ∧ mOK a1 a2 z)) := by
  rw [bitloftref27_May_eq, bitloftref27_Level_eq]
  by_cases hl : 0 ≤ l ∧ l ≤ 7
  · refine Tot.eq (Tot.be (v := true) (Tot.eq (Tot.ifd_pos hl.1 (Tot.so (decide_eq_true hl.2)))) (Tot.ift_ (Tot.be (ref26_Check_spec _) (Tot.so ?_))))
    simp only [Int.ofNat_eq_natCast]
    by_cases h : mOK a1 a2 z
    · have : hC (1, (a1, (a2, ((z.length : Int), ((z.length : Int), (List.replicate 20 0, ())))))) = 0 := if_pos (mOK_stored h _)
      rw [this, decide_eq_true ⟨hl, h⟩]
      rfl
    · have : hC (1, (a1, (a2, ((z.length : Int), ((z.length : Int), (List.replicate 20 0, ())))))) = 8 := if_neg (fun k => h (hOK_mOK k))
      rw [this, decide_eq_false (fun k => h k.2)]
      rfl
  · refine Tot.eq (Tot.be (v := false) ?_ (Tot.iff_ (Tot.so (decide_eq_false (fun k => hl k.1)).symm)))
    by_cases h0 : 0 ≤ l
    · exact Tot.eq (Tot.ifd_pos h0 (Tot.so (decide_eq_false (by omega))))
    · exact Tot.eq (Tot.ifd_neg h0 (Tot.so rfl))
/-- Of a block that Make gives: what is asked. -/
structure MadeB (l a1 a2 : Int) (z : List Int) (b : D_api_Block) : Prop where
  ok : bC b = 0
  wf : bWf b
  sums : Bts b.1.2.2.2.2.2.1
  bts : Bts b.2.1
  mem : b.1.2.1 = a1
  off : b.1.2.2.1 = a2
  raw : b.1.2.2.2.1 = z.length
  len : b.1.2.2.2.2.1 ≤ z.length
  back : block_Raw l b = some (z, 0)
  right : header_Right b.1 z = some (true, 0)
  mode : ∀ c, codec_Encode l z = some (c, 0) → (b.1.1 = 2 ↔ c.length < z.length)
theorem Make_made {l a1 a2 : Int} {z : List Int} (hl : 0 ≤ l ∧ l ≤ 7) (hm : mOK a1 a2 z) (hb : Bts z) : Tot (block_Make l a1 a2 z) fun r => r.2 = 0 ∧ MadeB l a1 a2 z r.1 := by
  refine Tot.mono (Make_T2 hl hm hb) (fun r hr => ⟨hr.1, ?_⟩)
  rcases hr.2 with ⟨h, hc⟩ | ⟨c, he, hcB, h1, h2, h⟩
  · rw [h]
    refine ⟨stored_bC hm, stored_bWf _ _ _, shaB_bts _, hb, rfl, rfl, rfl, Int.le_refl _, ?_, ?_, fun c k => ?_⟩
    · rw [Raw_stored hl rfl (stored_bC hm) hb]; exact congrArg some (if_pos rfl)
    · rw [header_Right_T (h := (storedB a1 a2 z).1) (mOK_stored hm _) (stored_bWf a1 a2 z).1 hb rfl]; exact congrArg some (Prod.ext (decide_eq_true rfl) rfl)
    · have := hc c k
      constructor
      · intro q; exact absurd q (by show ¬ ((1:Int) = 2); decide)
      · intro q; omega
  · rw [h]
    refine ⟨coded_bC hm h1 h2, coded_bWf _ _ _ _, shaB_bts _, hcB, rfl, rfl, rfl, ?_, Raw_coded hl hm hb hcB he h1 h2, ?_, fun c' k => ?_⟩
    · show (c.length : Int) ≤ z.length; omega
    · rw [header_Right_T (h := (codedB a1 a2 z c).1) (mOK_coded hm h1 h2 _) (coded_bWf a1 a2 z c).1 hb rfl]; exact congrArg some (Prod.ext (decide_eq_true rfl) rfl)
    · rw [he] at k
      have e2 : c = c' := congrArg Prod.fst (Option.some.inj k)
      subst e2
      exact ⟨fun _ => h2, fun _ => rfl⟩
theorem bitloftlaw27_BlockBack_true (x0 : pden (.int .i64)) (z0 : wfP (.int .i64) x0) (x1 : pden (.int .i64)) (z1 : wfP (.int .i64) x1) (x2 : pden (.int .i64)) (z2 : wfP (.int .i64) x2) (x3 : pden (.slice (.int .u8))) (z3 : wfP (.slice (.int .u8)) x3) (x4 : pden (.slice (.int .u8))) (z4 : wfP (.slice (.int .u8)) x4) :
    bitloftlaw27_BlockBack x0 x1 x2 x3 x4 = some true := by
  have key : ∀ (l a1 a2 : Int) (z more : List Int), Bts z → Bts more → bitloftlaw27_BlockBack l a1 a2 z more = some true := by
    intro l a1 a2 z more hz hmore
    rw [bitloftlaw27_BlockBack_eq]
    simp only [Int.ofNat_eq_natCast]
    refine Tot.eq (Tot.be alive_true (Tot.ifd (fun _ => Tot.so rfl) (fun h60 => Tot.ifd (fun _ => Tot.so rfl) (fun h200 => Tot.be (May_spec2 l a1 a2 z) ?_))))
    by_cases hmm : (0 ≤ l ∧ l ≤ 7) ∧ mOK a1 a2 z
    rotate_left
    · rw [decide_eq_false hmm]
      exact Tot.ifn (fun _ => Tot.so rfl) (fun k => absurd k (by decide))
    rw [decide_eq_true hmm]
    obtain ⟨hl, hm⟩ := hmm
    obtain ⟨p0, q, Ps, rE, _, _, _, heE, hE0, hE2⟩ := Encode_spec hl (b := z) (by omega)
    have hE3 := hE2 (by omega)
    have heE' : codec_Encode l z = some (rE.1, 0) := by rw [heE]; exact congrArg some (Prod.ext rfl hE3)
    obtain ⟨rM, eM, hM0, hM⟩ := Make_made hl hm hz
    have hWr := block_Write_spec rM.1 hM.wf
    rw [if_pos hM.ok] at hWr
    have hlen := hM.len
    have hbl : (bB rM.1).length = 41 + rM.1.2.1.length := by
      unfold bB hB
      simp only [List.length_append, mark_len, fr8_len, hM.wf.2]
    have hok : hOK rM.1.1 ∧ (rM.1.2.1.length : Int) = rM.1.1.2.2.2.2.1 := by
      have hc := hM.ok
      unfold bC at hc; split at hc
      · assumption
      · cases hc
    have hRd := Read_bB hM.ok hM.wf hM.sums hM.bts hmore (by omega)
    refine Tot.ifn (fun k => absurd k (by decide)) (fun _ => Tot.ifn (fun k => absurd k (by decide)) (fun _ => Tot.be eM (Tot.ifne_neg hM0 (Tot.be (ref27_Check_spec _) (Tot.ifne_neg hM.ok (Tot.ifd_neg (by omega) (Tot.ifne_neg hM.raw (Tot.ifne_neg hM.mem (Tot.ifne_neg hM.off (Tot.be hM.back (Tot.be heE' (Tot.be hWr ?_))))))))))))
    simp only
    rw [List.drop_zero, List.take_length, List.nil_append, w64 (x := rM.1.1.2.2.2.2.1 + 41) (by omega) (by omega)]
    refine Tot.g (by omega) (Tot.g (by rw [List.length_append]; omega) (Tot.be hRd (Tot.be hM.right (Tot.ifne_neg rfl (Tot.ifn (fun k => ?_) (fun _ => Tot.ifne_neg rfl (Tot.ifn (fun k => ?_) (fun _ => ?_))))))))
    · exact absurd k (by simp)
    · have := hM.mode rE.1 heE'
      exfalso
      by_cases hq : rE.1.length < z.length
      · have h2 := this.2 hq
        rw [h2, decide_eq_true (by omega)] at k
        exact absurd k (by decide)
      · have h2 : ¬ rM.1.1.1 = 2 := fun k => hq (this.1 k)
        rw [decide_eq_false (by omega)] at k
        have h3 : (rM.1.1.1 == 2) = false := by simpa using h2
        rw [h3] at k
        exact absurd k (by decide)
    · exact (Tot.ifeq_pos (by omega) (Tot.ifeq_pos rfl (Tot.ifeq_pos (by first | omega | (simp only; omega)) (Tot.be (Same_refl _) (Tot.ift_ (Tot.ifeq_pos rfl (Tot.so rfl)))))))
  exact key x0 x1 x2 x3 x4 (Bts.of_wf z3.2) (Bts.of_wf z4.2)
end Go.Ab
