/-
  An abstract machine over the model's code and its soundness; what the functions compute, as plain functions (printed by a program of this repo's own, checked here by the kernel); plain laws of them: part 7. Helper text, no statement of the claim stands here.
-/
import Derived.Test.YtfabancjlbbgkaaGreatDoorTxtXf
/-
  Chapter 34: SalvageMore.
-/
set_option linter.unusedVariables false
set_option linter.unusedSimpArgs false
set_option maxRecDepth 10000
namespace Go.Ab
open Go
attribute [local irreducible] IntKind.wrap
theorem qfK (a : List Int) : peq (.arr 20 (.int .u8)) a a = true := by
  simp only [peq]
  exact qIq (fun y => by simp) _
theorem qfs {r : qba} (hv : qxk [r] = 0) (hn : r.1.size ≤ 100) {m : qta} (hb : Bts m.2.1) (hl : m.2.1.length ≤ 8192) (hnm : m.1 = r.1) (hs : (m.2.1.length : Int) = r.2.1) :
    qCm r m = some (peq (.arr 20 (.int .u8)) r.2.2.1 (qUi m.2.1), 0) := by
  have hR : qFn [r] := ⟨by show 1 ≤ _; decide, fun q hq => by rw [List.mem_singleton.1 hq]; omega⟩
  have hd : qgg m.2.1 = some (qUi m.2.1) := by
    rw [qXl, qZn _ hb, if_pos (by omega)]; rfl
  rw [qSv]
  simp only [Int.ofNat_eq_natCast]
  refine Tot.eq (Tot.be (qIk [r] hR) (Tot.ifne_neg hv ?_))
  rw [hnm, if_pos (by simp), if_pos (by rw [beq_iff_eq]; exact hs.symm)]
  exact Tot.be hd (Tot.so rfl)
theorem qWJ (rs : List qba) (hV : qxk rs = 0) (ps p2 : List qxa) (hin : ∀ q ∈ ps, PtIn rs q) (hmore : ∀ i : Nat, i < rs.length → qMH ps i (rs.getD i (qpa T_api_Record)) = true → qMH p2 i (rs.getD i (qpa T_api_Record)) = true) (hl : ps.length ≤ 1000) : ∀ (k i : Nat), i + k = rs.length →
    qYa rs true (ps.length : Int) (i : Int) ps (qMD ps 0 rs) (qLD ps 0 rs) (qLD p2 0 rs) = some true
  | 0, i, e => by
    rw [qwd]
    simp only [Int.ofNat_eq_natCast]
    exact Tot.eq (Tot.ifd_neg (by omega) (Tot.so (by simp)))
  | k + 1, i, e => by
    have hRV := qwk hV
    have h16 := hRV.len
    have hi : i < rs.length := by omega
    have ih := qWJ rs hV ps p2 hin hmore hl k (i + 1) (by omega)
    have e2 : (i : Int) + 1 = ((i + 1 : Nat) : Int) := by omega
    have e3 : 0 + (i : Int).toNat = i := by omega
    have e4 : (i : Int).toNat = i := by omega
    have hm : rs.getD i (qpa T_api_Record) ∈ rs := qHa (P := fun r => r ∈ rs) (fun r hr => hr) i hi
    have hmo := hmore i hi
    have gM := qOF ps rs 0 i hi
    have gW := qYz ps rs 0 i hi
    have gW2 := qYz p2 rs 0 i hi
    rw [Nat.zero_add] at gM gW gW2
    have hr := hRV.each _ hm
    have hv1 := qQH hV hm
    have hML := qZz ps rs 0
    have hWL := qCq ps rs 0
    have hWL2 := qCq p2 rs 0
    rw [qwd]
    simp only [Int.ofNat_eq_natCast, e4, Int.toNat_natCast, Nat.zero_add]
    rw [gM, gW, gW2, w64 (x := (i : Int) + 1) (by omega) (by omega), e2, ih]
    generalize hrr : rs.getD i (qpa T_api_Record) = r at *
    have hzl : (zD r).length = r.2.1.toNat := by unfold zD; rw [List.length_replicate]
    have hmb : Bts (qLI ps i r).2.1 := qhJ (i : Int) ps (zD r) (fun q hq => (hin q hq).bts) (fun x hx => by
      unfold zD at hx; rw [List.eq_of_mem_replicate hx]; omega)
    have hml : (qLI ps i r).2.1.length = r.2.1.toNat := by
      have := qrG (i : Int) ps (zD r)
      rw [hzl] at this
      exact this
    have hR := qfs hv1 (by omega) (m := qLI ps i r) hmb (by omega) rfl (by omega)
    refine Tot.eq (Tot.ifd_pos (by omega) (Tot.g (by omega) (Tot.g (by omega) (Tot.g (by omega) (Tot.g (by omega) (Tot.be hR (Tot.ifne_neg rfl (Tot.g (by omega) (Tot.g (by omega) ?_)))))))))
    have nm : (ByteArray.toList (qLI ps i r).1 == ByteArray.toList r.1) = true := by
      show (ByteArray.toList r.1 == ByteArray.toList r.1) = true
      simp
    have fin : Tot (gd (0 ≤ (i : Int)) <| gd ((i : Int) < ((qMD ps 0 rs).length : Nat)) <| gd (0 ≤ (i : Int)) <| gd ((i : Int) < ((rs.length : Nat) : Int)) <|
        if ((((qLI ps i r).2.1.length : Nat) : Int) != r.2.1) = true then some false else gd (0 ≤ (i : Int)) <| gd ((i : Int) < ((qMD ps 0 rs).length : Nat)) <| gd (0 ≤ (i : Int)) <| gd ((i : Int) < ((rs.length : Nat) : Int)) <| if (not (ByteArray.toList (qLI ps i r).1 == ByteArray.toList r.1)) = true then some false else some true) fun x => x = true := by
      refine Tot.g (by omega) (Tot.g (by omega) (Tot.g (by omega) (Tot.g (by omega) (Tot.ifne_neg (by omega) (Tot.g (by omega) (Tot.g (by omega) (Tot.g (by omega) (Tot.g (by omega) ?_))))))))
      rw [nm]
      exact Tot.ifn (fun k => absurd k (by decide)) (fun _ => Tot.so rfl)
    by_cases hw : qMH ps i r = true
    · have h2 := hmo hw
      rw [hw, h2]
      have hs : qUi (qLI ps i r).2.1 = r.2.2.1 := by
        unfold qMH at hw
        rw [Bool.and_eq_true] at hw
        exact qtv (t := .arr 20 (.int .u8)) (by decide) hw.2
      refine Tot.ift_ ?_
      simp only
      rw [hs, qfK]
      exact Tot.ifn (fun k => absurd k (by decide)) (fun _ => Tot.g (by omega) (Tot.g (by omega) (Tot.ifn (fun k => absurd k (by decide)) (fun _ => fin))))
    · have hw' : qMH ps i r = false := Bool.eq_false_iff.2 hw
      rw [hw']
      exact Tot.iff_ fin
theorem qXJ (rs : List qba) (fs : List qha) (hF : ∀ f ∈ fs, Bts f.2.2.1 ∧ f.2.2.1.length ≤ 5000) (hl : fs.length ≤ 1000) (ps : List qxa) (hP : ∀ q ∈ ps, Bts q.2.1) (hps : ps.length ≤ 1000) (m : List qta) (w w2 : List Bool) : ∀ (n i k : Nat), i + n = fs.length → k ≤ ps.length → grd ((fs.drop i).map qnb) (ps.drop k) = [] →
    qOa rs fs true (k : Int) (i : Int) ps m w w2 = qYa rs true (ps.length : Int) 0 ps m w w2
  | 0, i, k, e, hk, hg => by
    rw [List.drop_of_length_le (show fs.length ≤ i by omega), List.map_nil] at hg
    have hg' : ps.drop k = [] := hg
    rw [List.drop_eq_nil_iff] at hg'
    have ek : k = ps.length := by omega
    rw [qxd, if_neg (by rw [decide_eq_true_eq]; simp only [Int.ofNat_eq_natCast]; omega), ek]
  | n + 1, i, k, e, hk, hg => by
    have hi : i < fs.length := by omega
    have e3 : 0 + (k : Int).toNat = k := by omega
    have e4 : (i : Int).toNat = i := by omega
    have ei : (i : Int) + 1 = ((i + 1 : Nat) : Int) := by omega
    have ek : (k : Int) + 1 = ((k + 1 : Nat) : Int) := by omega
    have hd := (qUd (qpa T_api_Found) hi).1
    have hmem := (qUd (qpa T_api_Found) hi).2.2
    have hf := hF _ hmem
    rw [hd, List.map_cons] at hg
    have nx := fun k' => qXJ rs fs hF hl ps hP hps m w w2 n (i + 1) k' (by omega)
    rw [qxd]
    simp only [Int.ofNat_eq_natCast, e4, Int.toNat_natCast, Nat.zero_add]
    rw [w64 (x := (i : Int) + 1) (by omega) (by omega), w64 (x := (k : Int) + 1) (by omega) (by omega), ei, ek]
    generalize fs.getD i (qpa T_api_Found) = f at *
    have hp : qSg f = some (qnb f) := by
      rw [qeo, qga (by rw [List.nil_append]; omega), List.nil_append]
      rfl
    rw [if_pos (by rw [decide_eq_true_eq]; omega), qga (by omega), qga (by omega), hp, Option.bind_some]
    by_cases hkl : k < ps.length
    · have hdk := (qUd (qpa qFa) hkl).1
      have hmk := hP _ (qUd (qpa qFa) hkl).2.2
      rw [hdk, grd] at hg
      rw [if_pos (by rw [decide_eq_true_eq]; omega), qga (by omega), qga (by omega)]
      generalize ps.getD k (qpa qFa) = p at *
      have hpe : peq qLl p.1 (qnb f).1 = true ↔ p.1 = (qnb f).1 := ⟨fun h => qtv (t := qLl) (by decide) h, fun h => by rw [h]; simp [peq]⟩
      have hse : (ByteArray.toList (qem p.2.1) == ByteArray.toList (qem (qnb f).2.1)) = decide (p.2.1 = (qnb f).2.1) := qbN hmk hf.1
      by_cases h1 : p.1 = (qnb f).1
      · rw [if_pos (hpe.2 h1), qga (by omega), qga (by omega), hse]
        by_cases h2 : p.2.1 = (qnb f).2.1
        · rw [if_pos ⟨h1, h2⟩] at hg
          rw [if_pos (by rw [decide_eq_true_eq]; exact h2)]
          exact nx (k + 1) (by omega) hg
        · rw [if_neg (fun h => h2 h.2), ← hdk] at hg
          rw [if_neg (by rw [decide_eq_true_eq]; exact h2)]
          exact nx k hk hg
      · rw [if_neg (fun h => h1 h.1), ← hdk] at hg
        rw [if_neg (fun h => h1 (hpe.1 h))]
        exact nx k hk hg
    · rw [if_neg (by rw [decide_eq_true_eq]; omega)]
      have hnil : ps.drop k = [] := List.drop_eq_nil_iff.2 (by omega)
      exact nx k hk (by rw [hnil]; exact qLE _)
theorem qWL {rs : List qba} {a b : List qha} (ha : fck rs a = 0) (hb : fck rs b = 0) (hl : (a ++ b).length ≤ 600) : fck rs (a ++ b) = 0 := by
  have h1 := qul ha
  have h2 := qul hb
  unfold fck
  rw [if_neg (fun h => h h1.1), if_neg (by omega)]
  have key : ∀ fs : List qha, (∀ f ∈ fs, fOK f) → qbK fs = 0 := by
    intro fs
    induction fs with
    | nil => intro _; rfl
    | cons f fs ih =>
      intro h
      unfold qbK
      rw [if_pos (h f List.mem_cons_self)]
      exact ih (fun g hg => h g (List.mem_cons_of_mem _ hg))
  refine key _ (fun f hf => ?_)
  rcases List.mem_append.1 hf with hf | hf
  · exact h1.2.2 f hf
  · exact h2.2.2 f hf
theorem qEK {rs : List qba} {fs : List qha} (hv : qxk rs = 0) (hl : fs.length > 600) : fck rs fs = 4 := by
  unfold fck
  rw [if_neg (fun h => h hv), if_pos hl]
theorem bitloftlaw34_SalvageMore_true (x0 : pden (.slice T_api_Record)) (z0 : wfP (.slice T_api_Record) x0) (x1 : pden (.slice T_api_Found)) (z1 : wfP (.slice T_api_Found) x1) (x2 : pden (.slice T_api_Found)) (z2 : wfP (.slice T_api_Found) x2) : qqd x0 x1 x2 = some true := by
  have key : ∀ (rs : List qba) (fs gs : List qha), qFn rs → (∀ f ∈ fs, (0 ≤ f.2.1.1 ∧ f.2.1.1 < 256) ∧ Bts f.2.2.1) → (∀ f ∈ gs, (0 ≤ f.2.1.1 ∧ f.2.1.1 < 256) ∧ Bts f.2.2.1) → qqd rs fs gs = some true := by
    intro rs fs gs hR hbf hbg
    obtain ⟨g, hg⟩ := qlH rs
    obtain ⟨g2, hg2, hgl⟩ := qJE fs fs.length 0 (by omega)
    have hg2' : qPc fs = some g2 := by rw [qAh]; exact hg2
    obtain ⟨g3, hg3, hgl3⟩ := qJE gs gs.length 0 (by omega)
    have hg3' : qPc gs = some g3 := by rw [qAh]; exact hg3
    rw [qTi]
    simp only [Int.ofNat_eq_natCast, List.nil_append]
    refine Tot.eq (Tot.be qmM (Tot.be hg ?_))
    cases g with
    | true => exact Tot.ift_ (Tot.so rfl)
    | false =>
      refine Tot.iff_ (Tot.be hg2' ?_)
      cases g2 with
      | true => exact Tot.ift_ (Tot.so rfl)
      | false =>
        refine Tot.iff_ (Tot.be hg3' ?_)
        cases g3 with
        | true => exact Tot.ift_ (Tot.so rfl)
        | false =>
          have hl1 := hgl rfl
          have hl2 := hgl3 rfl
          have hF : qXy fs := ⟨by omega, hbf⟩
          have hG : qXy gs := ⟨by omega, hbg⟩
          refine Tot.iff_ (Tot.be (qTl rs hR fs hF) (Tot.ifne (fun _ => Tot.so rfl) (fun k1 => Tot.be (qTl rs hR gs hG) (Tot.ifne (fun _ => Tot.so rfl) (fun k2 => Tot.ifn (fun k => absurd k (by decide)) (fun _ => ?_))))))
          have hz1 := qul k1
          have hz2 := qul k2
          have hAl : (fs ++ gs).length = fs.length + gs.length := List.length_append
          have hA : qXy (fs ++ gs) := ⟨by omega, fun f hf => (List.mem_append.1 hf).elim (hbf f) (hbg f)⟩
          refine Tot.be (qej rs hR fs hF) (Tot.be (qPh rs hR fs hF) (Tot.g (by omega) (Tot.g (by omega) (Tot.be (qPh rs hR (fs ++ gs) hA) ?_))))
          have eP : qsN rs fs = (prt rs fs [], 0) := if_neg (fun h => h k1)
          have eR : reb rs fs = (qMD (prt rs fs []) 0 rs, (qLD (prt rs fs []) 0 rs, 0)) := if_neg (fun h => h k1)
          by_cases hm : (fs ++ gs).length > 600
          · have eB : reb rs (fs ++ gs) = ([], ([], 4)) := by
              have := qEK (fs := fs ++ gs) hz1.1 hm
              unfold reb
              rw [this]
              exact if_pos (by decide)
            rw [eB]
            exact Tot.ifd_pos (by omega) (Tot.ift_ (Tot.so rfl))
          · have k3 := qWL k1 k2 (by omega)
            have eB : reb rs (fs ++ gs) = (qMD (prt rs (fs ++ gs) []) 0 rs, (qLD (prt rs (fs ++ gs) []) 0 rs, 0)) := if_neg (fun h => h k3)
            have hpin := qtI hF k1
            obtain ⟨t, ht1, ht2⟩ := qrE rs fs []
            rw [List.nil_append] at ht1
            have hsl := ht2.length_le
            rw [List.length_map] at hsl
            rw [eP, eR, eB]
            refine Tot.ifd_neg (by omega) (Tot.ifne_neg rfl (Tot.ifne_neg rfl (Tot.ifne_neg rfl (Tot.ifd_neg (by simp only; rw [ht1]; omega) (Tot.ifne_neg (by simp only [qZz]) (Tot.ifne_neg (by simp only [qCq]) (Tot.ifne_neg (by simp only [qCq]) ?_)))))))
            have h1 := qXJ rs fs (fun f hf => ⟨(hbf f hf).2, by
              have := hz1.2.2 f hf
              obtain ⟨a, b, _, _⟩ := this
              unfold hOK at a; omega⟩) (by omega) (prt rs fs []) (fun q hq => (hpin.1 q hq).bts) hpin.2 (qMD (prt rs fs []) 0 rs) (qLD (prt rs fs []) 0 rs) (qLD (prt rs (fs ++ gs) []) 0 rs) fs.length 0 0 (by omega) (by omega) (by rw [List.drop_zero, List.drop_zero, ht1]; exact qKE _ _ ht2)
            have h2 := qWJ rs hz1.1 (prt rs fs []) (prt rs (fs ++ gs) []) hpin.1 (fun i hi hw => by
              rw [qtE]
              exact qLH rs (qwk hz1.1) i hi gs _ (fun f hf => ⟨hz2.2.2 f hf, (hbg f hf).2⟩) hpin.1 hw) hpin.2 rs.length 0 (by omega)
            exact Tot.of_eq (h1.trans h2) rfl
  exact key x0 x1 x2 (qNL z0) (fun f hf => ⟨qFL (z1.2 f hf).2.1.1, Bts.of_wf (z1.2 f hf).2.2.1.2⟩) (fun f hf => ⟨qFL (z2.2 f hf).2.1.1, Bts.of_wf (z2.2 f hf).2.2.1.2⟩)
end Go.Ab
