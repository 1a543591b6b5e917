/-
  An abstract machine over the model's code and its soundness; what the functions compute, as plain functions (printed by a program of this repo's own, checked here by the kernel); plain laws of them: part 7. Helper text, no statement of the claim stands here.
-/
import Derived.Test.YtgdhbgphdojmoaaGreatDoorTxtHf
/-
  Archives of stored blocks: what is written is read.
-/
set_option linter.unusedVariables false
set_option linter.unusedSimpArgs false
set_option maxRecDepth 10000
namespace Go.Ab
open Go
attribute [local irreducible] IntKind.wrap
theorem qGw (s : ByteArray) : qEg (qob s) = s := by
  have h := qCj (xs := qob s) (qyv s)
  have e : (qob s).map (fun n => UInt8.ofNat n.toNat) = s.data.toList := by
    unfold qob
    rw [List.map_map]
    refine (List.map_congr_left (fun b _ => ?_)).trans (List.map_id _)
    simp
  unfold qEg
  rw [e]
theorem qcj (a : List Int) (p i : Nat) : (a.drop p).getD i 0 = a.getD (p + i) 0 := by simp [List.getD_eq_getElem?_getD]
theorem qRE {r : qaa} (h1 : r.1.size ≤ 40) (h2 : 0 ≤ r.2.1 ∧ r.2.1 ≤ 8192) (h3 : r.2.2.1.length = 20) : qlv r = (r.1.size : Int) :: (qob r.1 ++ (r.2.1 / 256 :: r.2.1 % 256 :: r.2.2.1)) := by
  unfold qlv
  rw [List.drop_zero, List.take_of_length_le (by omega), wu8, wu8, wu8, qwo _ (by omega)]
  have e1 : (r.1.size : Int) % 256 = r.1.size := by omega
  have e2 : r.2.1 / 256 % 256 = r.2.1 / 256 := by omega
  rw [e1, e2]
  simp only [List.append_assoc, List.cons_append, List.nil_append]
theorem qqD {r : qaa} (h1 : r.1.size ≤ 40) (h2 : 0 ≤ r.2.1 ∧ r.2.1 ≤ 8192) (h3 : r.2.2.1.length = 20) {a post : List Int} {p : Nat} (ha : a.drop p = qlv r ++ post) : rF a p ∧ rK a p = r.1.size ∧ rR a p = r := by
  have hB := qRE h1 h2 h3
  have hl : (qob r.1).length = r.1.size := qNg _
  have hal := congrArg List.length ha
  rw [List.length_drop, List.length_append, qBj r h3] at hal
  have g0 : a.getD p 0 = r.1.size := by
    have e := qcj a p 0
    rw [ha, hB] at e
    exact e.symm
  have hk : rK a p = r.1.size := by unfold rK; rw [g0]; omega
  have d1 : a.drop (p + 1) = qob r.1 ++ (r.2.1 / 256 :: r.2.1 % 256 :: (r.2.2.1 ++ post)) := by
    rw [← List.drop_drop, ha, hB]
    simp only [List.cons_append, List.drop_succ_cons, List.drop_zero, List.append_assoc]
  have d2 : a.drop (p + 1 + r.1.size) = r.2.1 / 256 :: r.2.1 % 256 :: (r.2.2.1 ++ post) := by
    rw [← List.drop_drop, d1, ← hl, List.drop_left]
  have g1 : a.getD (p + 1 + r.1.size) 0 = r.2.1 / 256 := by
    have e := qcj a (p + 1 + r.1.size) 0
    rw [d2] at e
    exact e.symm
  have g2 : a.getD (p + 2 + r.1.size) 0 = r.2.1 % 256 := by
    have := qcj a (p + 1 + r.1.size) 1
    rw [show p + 2 + r.1.size = p + 1 + r.1.size + 1 by omega, ← this, d2]; rfl
  have d3 : a.drop (p + 3 + r.1.size) = r.2.2.1 ++ post := by
    rw [show p + 3 + r.1.size = p + 1 + r.1.size + 2 by omega, ← List.drop_drop, d2]; rfl
  refine ⟨⟨by omega, by rw [hk]; omega⟩, hk, ?_⟩
  unfold rR
  rw [hk, d1, g1, g2, d3, ← hl, List.take_left, qGw, show r.2.1 / 256 * 256 + r.2.1 % 256 = r.2.1 by omega, ← h3, List.take_left]
theorem qjv (a post : List Int) : ∀ (rs acc : List qaa) (p : Nat), (∀ r ∈ rs, r.1.size ≤ 40 ∧ (0 ≤ r.2.1 ∧ r.2.1 ≤ 8192)) → SumsOK rs → qGe (acc ++ rs) = 0 → a.drop p = qMa rs ++ post →
    qfu a rs.length p acc = (acc ++ rs, (((p + (qMa rs).length : Nat) : Int), 0))
  | [], acc, p, h, hS, hv, ha => by
    rw [List.append_nil] at hv
    rw [List.length_nil, qfu, if_neg (fun k => k hv), List.append_nil]
    rfl
  | r :: rs, acc, p, h, hS, hv, ha => by
    have h1 := h r List.mem_cons_self
    have h3 := hS r List.mem_cons_self
    rw [qMa, List.append_assoc] at ha
    obtain ⟨hf, hk, hR⟩ := qqD h1.1 h1.2 h3.1 ha
    have hl := qBj r h3.1
    have e : a.drop (p + rK a p + 23) = qMa rs ++ post := by
      rw [hk, show p + r.1.size + 23 = p + (qlv r).length by omega, ← List.drop_drop, ha, List.drop_left]
    have e2 : acc ++ r :: rs = (acc ++ [r]) ++ rs := by rw [List.append_assoc]; rfl
    have ih := qjv a post rs (acc ++ [r]) (p + rK a p + 23) (fun q hq => h q (List.mem_cons_of_mem _ hq)) (fun q hq => hS q (List.mem_cons_of_mem _ hq)) (by rw [← e2]; exact hv) e
    rw [List.length_cons, qfu, if_pos hf, hR, ih, e2]
    refine Prod.ext rfl (Prod.ext ?_ rfl)
    simp only
    rw [qMa, List.length_append]
    omega
theorem qNB {s : qna} {rs : List qaa} {post : List Int} (hc : chk s = 0) (hv : qGe rs = 0) (hS : SumsOK rs) (hl : post.length ≤ 40000) : hdP (qIh s rs ++ post) = (s, (rs, (28 + ((qMa rs).length : Int), 0))) := by
  have hRV := qhb hv
  have h16 := hRV.len
  have hchk : 0 ≤ s.1 ∧ s.1 ≤ 7 ∧ 16 ≤ s.2.1 ∧ s.2.1 ≤ 4096 := by
    unfold chk at hc; split at hc
    · assumption
    · cases hc
  have key : ∀ (rs : List qaa), SumsOK rs → (∀ r ∈ rs, r.1.size ≤ 40) → (qMa rs).length ≤ 63 * rs.length := by
    intro rs
    induction rs with
    | nil => intro _ _; exact Nat.le_refl _
    | cons r rs ih =>
      intro hS h
      have h1 := qBj r (hS r List.mem_cons_self).1
      have h2 := h r List.mem_cons_self
      have h3 := ih (fun q hq => hS q (List.mem_cons_of_mem _ hq)) (fun q hq => h q (List.mem_cons_of_mem _ hq))
      rw [qMa, List.length_append, List.length_cons]
      omega
  have hrl := key rs hS (fun r hr => (hRV.each r hr).2.2)
  have eF : qls s rs.length = [66, 76, 70, 1, s.1, s.2.1 / 256, s.2.1 % 256, (rs.length : Int)] := by
    unfold qls
    rw [wu8, wu8, wu8, wu8, qwo _ (by omega)]
    have e1 : s.1 % 256 = s.1 := by omega
    have e2 : s.2.1 / 256 % 256 = s.2.1 / 256 := by omega
    have e3 : (rs.length : Int) % 256 = rs.length := by omega
    rw [e1, e2, e3]
  have hbl : (qnf s rs).length = 8 + (qMa rs).length := by unfold qnf; rw [List.length_append, eF]; rfl
  have ea : qIh s rs ++ post = [66, 76, 70, 1, s.1, s.2.1 / 256, s.2.1 % 256, (rs.length : Int)] ++ (qMa rs ++ (qGg (qnf s rs) ++ post)) := by
    have hB : qnf s rs = [66, 76, 70, 1, s.1, s.2.1 / 256, s.2.1 % 256, (rs.length : Int)] ++ qMa rs := by unfold qnf; rw [eF]
    unfold qIh
    rw [List.append_assoc]
    generalize qGg (qnf s rs) = hh
    rw [hB, List.append_assoc]
  have eb : qIh s rs ++ post = qnf s rs ++ (qGg (qnf s rs) ++ post) := by unfold qIh; rw [List.append_assoc]
  have hsl : (qGg (qnf s rs)).length = 20 := qqf _
  generalize ha : qIh s rs ++ post = a at *
  have hal : a.length = 28 + (qMa rs).length + post.length := by rw [eb, List.length_append, List.length_append, hbl, hsl]; omega
  have g4 : a.getD 4 0 = s.1 := by rw [ea]; rfl
  have g5 : a.getD 5 0 = s.2.1 / 256 := by rw [ea]; rfl
  have g6 : a.getD 6 0 = s.2.1 % 256 := by rw [ea]; rfl
  have g7 : a.getD 7 0 = rs.length := by rw [ea]; rfl
  have d8 : a.drop 8 = qMa rs ++ (qGg (qnf s rs) ++ post) := by rw [ea]; rfl
  have t4 : a.take 4 = magic := by rw [ea]; rfl
  have esH : sH a = s := by
    unfold sH
    rw [g4, g5, g6, show s.2.1 / 256 * 256 + s.2.1 % 256 = s.2.1 by omega]
  have hrd : rdM (a.drop 8) (a.getD 7 0) = (rs, (((qMa rs).length : Int), 0)) := by
    have h8 : (a.drop 8).length ≤ 50000 := by rw [List.length_drop]; omega
    have := qjv (a.drop 8) (qGg (qnf s rs) ++ post) rs [] 0 (fun r hr => ⟨(hRV.each r hr).2.2, (hRV.each r hr).1, (hRV.each r hr).2.1⟩) hS hv (by rw [List.drop_zero, d8])
    unfold rdM
    rw [if_neg (by omega), if_neg (by omega), g7, show ((rs.length : Int)).toNat = rs.length by omega, this, Nat.zero_add, List.nil_append]
  have e8 : a.take (8 + (qMa rs).length) = qnf s rs := by rw [eb, ← hbl, List.take_left]
  have e9 : (a.drop (8 + (qMa rs).length)).take 20 = qGg (qnf s rs) := by rw [eb, ← hbl, List.drop_left, ← hsl, List.take_left]
  unfold hdP
  rw [hrd, esH]
  simp only
  rw [if_neg (by omega), if_neg (by omega), if_neg (fun h => by
    rcases h with h | h | h
    · exact h t4
    · exact h hc
    · omega), if_neg (fun h => h rfl), if_neg (by omega), show ((((qMa rs).length : Nat) : Int)).toNat = (qMa rs).length by omega, e8, e9, if_neg (fun h => h rfl)]
def qCs : List qoa → List Int
  | [] => []
  | b :: bs => bB b ++ qCs bs
def Fit : List qoa → List qfa → Prop
  | [], [] => True
  | b :: bs, p :: ps => (bC b = 0 ∧ bWf b ∧ isP b.1 p) ∧ Fit bs ps
  | _, _ => False
theorem qDs {b : qoa} (h : bWf b) : (bB b).length = 41 + b.2.1.length := by
  unfold bB hB
  simp only [List.length_append, qdb, qjn, h.2]
theorem qUy (s : qna) (rs : List qaa) (a : List Int) (hal : a.length ≤ 40000) : ∀ (bs : List qoa) (ps : List qfa) (p : Nat) (hs : List qda) (cs : List qoa), Fit bs ps → p ≤ a.length → a.drop p = qCs bs →
    qPx a s rs ps p hs cs = ((s, (rs, (hs ++ bs.map (·.1), ()))), (cs ++ bs, 0))
  | [], [], p, hs, cs, hF, hp, ha => by
    have := congrArg List.length ha
    rw [List.length_drop] at this
    have h0 : (qCs []).length = 0 := rfl
    unfold qPx
    rw [if_neg (by omega), List.map_nil, List.append_nil, List.append_nil]
  | [], p0 :: ps, p, hs, cs, hF, hp, ha => by cases hF
  | b :: bs, [], p, hs, cs, hF, hp, ha => by cases hF
  | b :: bs, p0 :: ps, p, hs, cs, hF, hp, ha => by
    obtain ⟨⟨h1, h2, h3⟩, hF'⟩ := hF
    have hlen := congrArg List.length ha
    rw [List.length_drop, qCs, List.length_append, qDs h2] at hlen
    have hrd : rdB (a.drop p) = (b, (b.1.2.2.2.2.1 + 41, 0)) := by
      rw [ha, qCs]
      exact qMG h1 h2 (by omega)
    have ok : hOK b.1 ∧ (b.2.1.length : Int) = b.1.2.2.2.2.1 := by
      unfold bC at h1; split at h1
      · assumption
      · cases h1
    have ih := qUy s rs a hal bs ps (p + (b.1.2.2.2.2.1 + 41).toNat) (hs ++ [b.1]) (cs ++ [b]) hF' (by omega) (by
      rw [← List.drop_drop, ha, qCs, show (b.1.2.2.2.2.1 + 41).toNat = (bB b).length by rw [qDs h2]; omega, List.drop_left])
    unfold qPx
    rw [hrd, if_neg (fun k => k rfl), if_neg (fun k => k h3), ih, List.map_cons, List.append_assoc, List.append_assoc]
    rfl
def qEs (s : qna) (rs : List qaa) (bs : List qoa) : List Int := qIh s rs ++ qCs bs
theorem qro {s : qna} {rs : List qaa} : (qIh s rs).length = 28 + (qMa rs).length := by
  unfold qIh qnf
  rw [List.length_append, List.length_append, qqf]
  show 8 + _ + 20 = _
  omega
theorem qGC {s : qna} {rs : List qaa} {bs : List qoa} (hc : chk s = 0) (hv : qGe rs = 0) (hS : SumsOK rs) (hF : Fit bs (ap s.2.1 0 rs)) (hl : (qEs s rs bs).length ≤ 40000) : qSx (qEs s rs bs) = ((s, (rs, (bs.map (·.1), ()))), (bs, 0)) := by
  have hl2 : (qEs s rs bs).length = 28 + (qMa rs).length + (qCs bs).length := by unfold qEs; rw [List.length_append, qro]
  have hh : hdP (qEs s rs bs) = (s, (rs, (28 + ((qMa rs).length : Int), 0))) := qNB hc hv hS (by omega)
  have hd : (qEs s rs bs).drop (28 + (qMa rs).length) = qCs bs := by unfold qEs; rw [← qro (s := s), List.drop_left]
  have := qUy s rs (qEs s rs bs) hl bs (ap s.2.1 0 rs) (28 + (qMa rs).length) [] [] hF (by omega) hd
  unfold qSx
  rw [hh, if_neg (fun k => k rfl)]
  simp only
  rw [show (28 + ((qMa rs).length : Int)).toNat = 28 + (qMa rs).length by omega, this, List.nil_append, List.nil_append]
end Go.Ab

/-
  What is found in damaged bytes; members of what is found.
-/
set_option linter.unusedVariables false
set_option linter.unusedSimpArgs false
set_option maxRecDepth 10000
namespace Go.Ab
open Go
attribute [local irreducible] IntKind.wrap
open Classical
theorem qfr {l : Int} : ∀ (i : Nat) (s : List Int) (k : Nat), (∀ j, j < i → qFo l (s.drop j) = none) → svA l s k = svA l (s.drop i) (k + i)
  | 0, s, k, h => rfl
  | i + 1, s, k, h => by
    have h0 := h 0 (by omega)
    rw [List.drop_zero] at h0
    rw [qKq h0, qfr i (s.drop 1) (k + 1) (fun j hj => by
      have := h (j + 1) (by omega)
      rw [List.drop_drop, Nat.add_comm 1 j]; exact this), List.drop_drop]
    have e1 : 1 + i = i + 1 := by omega
    have e2 : k + 1 + i = k + (i + 1) := by omega
    rw [e1, e2]
theorem qjD {l : Int} {s : List Int} (h : ∀ j, qFo l (s.drop j) = none) (k : Nat) : svA l s k = [] := by
  rw [qfr s.length s k (fun j _ => h j), List.drop_of_length_le (Nat.le_refl _)]
  rfl
abbrev Fnd : Type := Nat × (qda × List Int × Nat)
def fnd (s : Fnd) : qpa := ((s.1 : Int), (s.2.1, (s.2.2.1, ())))
theorem qey {l : Int} {x : List Int} : ∀ (S : List Fnd) (k : Nat), (S.Pairwise fun a b => a.1 + a.2.2.2 ≤ b.1) → (∀ s ∈ S, k ≤ s.1 ∧ qFo l (x.drop s.1) = some s.2) → (∀ j, k ≤ j → qFo l (x.drop j) ≠ none → ∃ s ∈ S, s.1 = j) → svA l (x.drop k) k = S.map fnd
  | [], k, hp, h1, h2 => by
    rw [List.map_nil]
    refine qjD (fun j => ?_) k
    rw [List.drop_drop]
    refine Classical.byContradiction (fun hn => ?_)
    obtain ⟨s, hs, _⟩ := h2 (k + j) (by omega) hn
    cases hs
  | s :: S, k, hp, h1, h2 => by
    obtain ⟨hp1, hp2⟩ := List.pairwise_cons.1 hp
    obtain ⟨hk, hc⟩ := h1 s List.mem_cons_self
    have hl := qEo hc
    have hskip : svA l (x.drop k) k = svA l (x.drop s.1) s.1 := by
      rw [qfr (s.1 - k) (x.drop k) k (fun j hj => by
        rw [List.drop_drop]
        refine Classical.byContradiction (fun hn => ?_)
        obtain ⟨q, hq, hqj⟩ := h2 (k + j) (by omega) hn
        rcases List.mem_cons.1 hq with rfl | hq
        · omega
        · have := hp1 q hq
          omega), List.drop_drop]
      have e : k + (s.1 - k) = s.1 := by omega
      rw [e]
    rw [hskip, qdy hc, List.drop_drop, List.map_cons]
    refine congrArg (fnd s :: ·) (qey S (s.1 + s.2.2.2) hp2 (fun q hq => ⟨hp1 q hq, (h1 q (List.mem_cons_of_mem _ hq)).2⟩) (fun j hj hn => ?_))
    obtain ⟨q, hq, hqj⟩ := h2 j (by omega) hn
    rcases List.mem_cons.1 hq with rfl | hq
    · omega
    · exact ⟨q, hq, hqj⟩
def Gen (D : Nat → List Int) (q : qra) : Prop := 0 ≤ q.1.1 ∧ 0 ≤ q.1.2.1 ∧ q.1.2.1.toNat + q.2.1.length ≤ (D q.1.1.toNat).length ∧ q.2.1 = ((D q.1.1.toNat).drop q.1.2.1.toNat).take q.2.1.length
theorem Gen.at {D : Nat → List Int} {q : qra} (h : Gen D q) {k x c : Int} (hc : cov q k x c) : c = (D k.toNat).getD x.toNat 0 := by
  obtain ⟨h1, h2, h3, h4⟩ := h
  obtain ⟨e, c1, c2, c3⟩ := hc
  rw [← c3, h4]
  have hx : (x - q.1.2.1).toNat < q.2.1.length := by omega
  rw [qXo _ _ _ _ hx, e]
  congr 1
  omega
theorem Gen.agr {D : Nat → List Int} {out : List qra} {p : qra} (h : ∀ q ∈ out, Gen D q) (hp : Gen D p) : agr out p := by
  intro q hq i hi c hc
  rw [Gen.at (h q hq) hc]
  obtain ⟨h1, h2, h3, h4⟩ := hp
  conv => rhs; rw [h4]
  rw [qXo _ _ _ _ hi]
  congr 1
  omega
theorem qiB {D : Nat → List Int} (rs : List qaa) : ∀ (fs : List qpa) (out : List qra), (∀ f ∈ fs, qsF rs f ∧ Gen D (qXd f)) → (∀ q ∈ out, Gen D q) → prt rs fs out = out ++ fs.map qXd
  | [], out, h, ho => by rw [prt, List.map_nil, List.append_nil]
  | f :: fs, out, h, ho => by
    obtain ⟨h1, h2⟩ := h f List.mem_cons_self
    rw [prt, if_pos ⟨h1, Gen.agr ho h2⟩, qiB rs fs _ (fun g hg => h g (List.mem_cons_of_mem _ hg)) (fun q hq => by
      rcases List.mem_append.1 hq with hq | hq
      · exact ho q hq
      · rw [List.mem_singleton.1 hq]; exact h2), List.append_assoc, List.map_cons]
    rfl
theorem qNy (i : Int) (x : Nat) : ∀ (ps : List qra) (t : List Bool), (∀ q ∈ ps, q.1.1 = i → 0 ≤ q.1.2.1 ∧ q.1.2.1.toNat + q.2.1.length ≤ t.length) → ((fT i ps t).getD x false = true ↔ t.getD x false = true ∨ ∃ q ∈ ps, q.1.1 = i ∧ q.1.2.1 ≤ x ∧ (x : Int) < q.1.2.1 + q.2.1.length)
  | [], t, h => by
    rw [fT]
    exact ⟨Or.inl, fun h => h.elim id (fun ⟨q, hq, _⟩ => (by cases hq))⟩
  | p :: ps, t, h => by
    have hp := h p List.mem_cons_self
    rw [fT]
    by_cases hpi : p.1.1 = i
    · obtain ⟨h0, h1⟩ := hp hpi
      rw [if_pos hpi, qNy i x ps _ (fun q hq e => by rw [qZh]; exact h q (List.mem_cons_of_mem _ hq) e), qau t _ x _ h1]
      by_cases hc : p.1.2.1.toNat ≤ x ∧ x < p.1.2.1.toNat + p.2.1.length
      · rw [if_pos hc]
        exact ⟨fun _ => Or.inr ⟨p, List.mem_cons_self, hpi, by omega, by omega⟩, fun _ => Or.inl rfl⟩
      · rw [if_neg hc]
        constructor
        · rintro (h | ⟨q, hq, e⟩)
          · exact Or.inl h
          · exact Or.inr ⟨q, List.mem_cons_of_mem _ hq, e⟩
        · rintro (h | ⟨q, hq, e, a, b⟩)
          · exact Or.inl h
          · rcases List.mem_cons.1 hq with rfl | hq
            · exact absurd ⟨by omega, by omega⟩ hc
            · exact Or.inr ⟨q, hq, e, a, b⟩
    · rw [if_neg hpi, qNy i x ps t (fun q hq e => h q (List.mem_cons_of_mem _ hq) e)]
      constructor
      · rintro (h | ⟨q, hq, e⟩)
        · exact Or.inl h
        · exact Or.inr ⟨q, List.mem_cons_of_mem _ hq, e⟩
      · rintro (h | ⟨q, hq, e, r⟩)
        · exact Or.inl h
        · rcases List.mem_cons.1 hq with rfl | hq
          · exact absurd e hpi
          · exact Or.inr ⟨q, hq, e, r⟩
theorem qbD {D : Nat → List Int} (rs : List qaa) (ps : List qra) (i : Nat) (hD : ((D i).length : Int) = (rs.getD i (qla qba)).2.1) (hS : (rs.getD i (qla qba)).2.2.1 = qGg (D i)) (hin : ∀ q ∈ ps, PtIn rs q) (hg : ∀ q ∈ ps, Gen D q) :
    (qDw ps i (rs.getD i (qla qba)) = true ↔ ∀ x : Nat, x < (D i).length → ∃ q ∈ ps, q.1.1 = (i : Int) ∧ q.1.2.1 ≤ x ∧ (x : Int) < q.1.2.1 + q.2.1.length) ∧ (qDw ps i (rs.getD i (qla qba)) = true → fD (i : Int) ps (zD (rs.getD i (qla qba))) = D i) := by
  have hzl : (zD (rs.getD i (qla qba))).length = (D i).length := by unfold zD; rw [List.length_replicate]; omega
  have htl : (zT (rs.getD i (qla qba))).length = (D i).length := by unfold zT; rw [List.length_replicate]; omega
  have hz0 : ∀ x, (zT (rs.getD i (qla qba))).getD x false = false := fun x => by
    unfold zT
    rw [List.getD_eq_getElem?_getD, List.getElem?_replicate]
    split <;> rfl
  have hfit : ∀ q ∈ ps, q.1.1 = (i : Int) → 0 ≤ q.1.2.1 ∧ q.1.2.1.toNat + q.2.1.length ≤ (zT (rs.getD i (qla qba))).length := fun q hq e => by
    have h1 := (hin q hq).off
    have h2 := (hin q hq).fit
    rw [e, Int.toNat_natCast] at h2
    exact ⟨h1, by rw [htl]; omega⟩
  have hTl := qaC (i : Int) ps (zT (rs.getD i (qla qba)))
  have hDl := qbC (i : Int) ps (zD (rs.getD i (qla qba)))
  have hsrc := qXt rs i ps [] (zD (rs.getD i (qla qba))) (zT (rs.getD i (qla qba))) hin (by rw [hzl, hD]) (by rw [htl, hzl]) (fun x _ hT => by rw [hz0] at hT; cases hT)
  rw [List.nil_append] at hsrc
  have hall : (fT (i : Int) ps (zT (rs.getD i (qla qba)))).all id = true → fD (i : Int) ps (zD (rs.getD i (qla qba))) = D i := by
    intro hA
    refine qno (by rw [hDl, hzl]) (fun x hx => ?_)
    rw [hDl, hzl] at hx
    obtain ⟨q, hq, hcv⟩ := hsrc x (by rw [hTl, htl]; exact hx) (qjs hA (by rw [hTl, htl]; exact hx))
    have := Gen.at (hg q hq) hcv
    rw [Int.toNat_natCast, Int.toNat_natCast] at this
    exact this
  have hwho : qDw ps i (rs.getD i (qla qba)) = true ↔ (fT (i : Int) ps (zT (rs.getD i (qla qba)))).all id = true := by
    unfold qDw
    rw [Bool.and_eq_true]
    refine ⟨fun h => h.1, fun h => ⟨h, ?_⟩⟩
    rw [hall h, hS]
    simp only [peq]
    exact qDk (fun y => by simp) _
  refine ⟨hwho.trans ⟨fun h x hx => ?_, fun h => qRx (fun x hx => ?_)⟩, fun h => hall (hwho.1 h)⟩
  · have := qjs h (x := x) (by rw [hTl, htl]; exact hx)
    rw [qNy (i : Int) x ps _ hfit] at this
    rcases this with h | h
    · rw [hz0] at h; cases h
    · exact h
  · rw [hTl, htl] at hx
    rw [qNy (i : Int) x ps _ hfit]
    exact Or.inr (h x hx)
end Go.Ab

/-
  Pieces of members; a member is whole exactly if all its pieces are there.
-/
set_option linter.unusedVariables false
set_option linter.unusedSimpArgs false
set_option maxRecDepth 10000
namespace Go.Ab
open Go
attribute [local irreducible] IntKind.wrap
theorem qxC (P : Nat → Bool) : ∀ (n a : Nat) (ks : List Nat), ks.Pairwise (· < ·) → (∀ k ∈ ks, a ≤ k ∧ k < a + n) → ks.countP P ≤ (List.range' a n).countP P ∧ (ks.countP P = (List.range' a n).countP P ↔ ∀ k, a ≤ k → k < a + n → P k = true → k ∈ ks)
  | 0, a, ks, hp, h => by
    have : ks = [] := by
      cases ks with
      | nil => rfl
      | cons k ks => have := h k List.mem_cons_self; omega
    subst this
    exact ⟨Nat.le_refl _, ⟨fun _ k h1 h2 => (by omega), fun _ => rfl⟩⟩
  | n + 1, a, ks, hp, h => by
    rw [List.range'_succ, List.countP_cons]
    have step : ∀ (ks : List Nat), ks.Pairwise (· < ·) → (∀ k ∈ ks, a + 1 ≤ k ∧ k < a + 1 + n) → ks.countP P ≤ (List.range' (a + 1) n).countP P ∧ (ks.countP P = (List.range' (a + 1) n).countP P ↔ ∀ k, a + 1 ≤ k → k < a + 1 + n → P k = true → k ∈ ks) := fun ks hp h => qxC P n (a + 1) ks hp h
    by_cases ha : a ∈ ks
    · cases ks with
      | nil => cases ha
      | cons k ks =>
        obtain ⟨hp1, hp2⟩ := List.pairwise_cons.1 hp
        have hk : k = a := by
          rcases List.mem_cons.1 ha with e | e
          · exact e.symm
          · have := hp1 a e
            have := h k List.mem_cons_self
            omega
        subst hk
        obtain ⟨s1, s2⟩ := step ks hp2 (fun q hq => by
          have := hp1 q hq
          have := h q (List.mem_cons_of_mem _ hq)
          omega)
        rw [List.countP_cons]
        refine ⟨by omega, ⟨fun e q h1 h2 h3 => ?_, fun e => ?_⟩⟩
        · by_cases hq : q = k
          · rw [hq]; exact List.mem_cons_self
          · exact List.mem_cons_of_mem _ (s2.1 (by omega) q (by omega) (by omega) h3)
        · have := s2.2 (fun q h1 h2 h3 => by
            rcases List.mem_cons.1 (e q (by omega) (by omega) h3) with e | e
            · omega
            · exact e)
          omega
    · obtain ⟨s1, s2⟩ := step ks hp (fun q hq => by
        have := h q hq
        have : q ≠ a := fun e => ha (e ▸ hq)
        omega)
      refine ⟨by omega, ⟨fun e q h1 h2 h3 => ?_, fun e => ?_⟩⟩
      · by_cases hPa : P a = true
        · rw [if_pos hPa] at e; omega
        · rw [if_neg hPa] at e
          by_cases hq : q = a
          · rw [hq] at h3; exact absurd h3 hPa
          · exact s2.1 (by omega) q (by omega) (by omega) h3
      · by_cases hPa : P a = true
        · exact absurd (e a (Nat.le_refl _) (by omega) hPa) ha
        · rw [if_neg hPa]
          exact s2.2 (fun q h1 h2 h3 => e q (by omega) (by omega) h3)
def InP (rs : List qaa) (i0 : Int) (p : qfa) : Prop := i0 ≤ p.1 ∧ p.1 < i0 + rs.length ∧ 0 ≤ p.2.1 ∧ 1 ≤ p.2.2.1 ∧ p.2.1 + p.2.2.1 ≤ (rs.getD (p.1 - i0).toNat (qla qba)).2.1
theorem qsv (i n s : Int) (hs : 1 ≤ s) : ∀ (k : Nat) (off : Int), 0 ≤ off → ∀ p ∈ pcs i n s k off, p.1 = i ∧ off ≤ p.2.1 ∧ 1 ≤ p.2.2.1 ∧ p.2.2.1 ≤ s ∧ p.2.1 + p.2.2.1 ≤ n
  | 0, off, h0, p, hp => by cases hp
  | k + 1, off, h0, p, hp => by
    rw [pcs] at hp
    by_cases h : off < n
    · rw [if_pos h] at hp
      rcases List.mem_cons.1 hp with rfl | hp
      · refine ⟨rfl, Int.le_refl _, ?_⟩
        simp only
        split <;> omega
      · obtain ⟨a, b, c, d, e⟩ := qsv i n s hs k (off + s) (by omega) p hp
        exact ⟨a, by omega, c, d, e⟩
    · rw [if_neg h] at hp; cases hp
theorem qmE (i n s : Int) (hs : 1 ≤ s) : ∀ (k : Nat) (off : Int), 0 ≤ off → (pcs i n s k off).Pairwise fun p q => p.1 = q.1 → p.2.1 + p.2.2.1 ≤ q.2.1
  | 0, off, h0 => List.Pairwise.nil
  | k + 1, off, h0 => by
    rw [pcs]
    by_cases h : off < n
    · rw [if_pos h]
      refine List.Pairwise.cons (fun q hq _ => ?_) (qmE i n s hs k (off + s) (by omega))
      have := qsv i n s hs k (off + s) (by omega) q hq
      simp only
      split <;> omega
    · rw [if_neg h]; exact List.Pairwise.nil
theorem qpB (i n s : Int) (hs : 1 ≤ s) : ∀ (k : Nat) (off : Int), 0 ≤ off → n - off ≤ k → ∀ x : Int, off ≤ x → x < n → ∃ p ∈ pcs i n s k off, p.2.1 ≤ x ∧ x < p.2.1 + p.2.2.1
  | 0, off, h0, hk, x, h1, h2 => by omega
  | k + 1, off, h0, hk, x, h1, h2 => by
    rw [pcs, if_pos (by omega)]
    by_cases hx : x < off + s
    · refine ⟨_, List.mem_cons_self, h1, ?_⟩
      simp only
      split <;> omega
    · obtain ⟨p, hp, a, b⟩ := qpB i n s hs k (off + s) (by omega) (by omega) x (by omega) h2
      exact ⟨p, List.mem_cons_of_mem _ hp, a, b⟩
theorem qVD (s : Int) (hs : 1 ≤ s) : ∀ (rs : List qaa) (i0 : Int), ∀ p ∈ ap s i0 rs, InP rs i0 p ∧ p.2.2.1 ≤ s
  | [], i0, p, hp => by cases hp
  | r :: rs, i0, p, hp => by
    rw [ap] at hp
    rcases List.mem_append.1 hp with hp | hp
    · obtain ⟨a, b, c, d, e⟩ := qsv i0 r.2.1 s hs 8200 0 (Int.le_refl _) p hp
      refine ⟨⟨by omega, by rw [List.length_cons]; omega, by omega, c, ?_⟩, d⟩
      rw [show (p.1 - i0).toNat = 0 by omega]
      exact e
    · obtain ⟨⟨a, b, c, d, e⟩, f⟩ := qVD s hs rs (i0 + 1) p hp
      refine ⟨⟨by omega, by rw [List.length_cons]; omega, c, d, ?_⟩, f⟩
      rw [show (p.1 - i0).toNat = (p.1 - (i0 + 1)).toNat + 1 by omega, List.getD_cons_succ]
      exact e
theorem qrG (s : Int) (hs : 1 ≤ s) : ∀ (rs : List qaa) (i0 : Int), (ap s i0 rs).Pairwise fun p q => p.1 = q.1 → p.2.1 + p.2.2.1 ≤ q.2.1
  | [], i0 => List.Pairwise.nil
  | r :: rs, i0 => by
    rw [ap, List.pairwise_append]
    refine ⟨qmE i0 r.2.1 s hs 8200 0 (Int.le_refl _), qrG s hs rs (i0 + 1), fun p hp q hq e => ?_⟩
    have h1 := (qsv i0 r.2.1 s hs 8200 0 (Int.le_refl _) p hp).1
    have h2 := (qVD s hs rs (i0 + 1) q hq).1.1
    omega
theorem qCE (s : Int) (hs : 1 ≤ s) : ∀ (rs : List qaa) (i0 : Int), (∀ r ∈ rs, r.2.1 ≤ 8192) → ∀ (i : Nat) (x : Int), i < rs.length → 0 ≤ x → x < (rs.getD i (qla qba)).2.1 → ∃ p ∈ ap s i0 rs, p.1 = i0 + i ∧ p.2.1 ≤ x ∧ x < p.2.1 + p.2.2.1
  | [], i0, h, i, x, hi, h0, hx => by cases hi
  | r :: rs, i0, h, 0, x, hi, h0, hx => by
    have hr := h r List.mem_cons_self
    rw [List.getD_cons_zero] at hx
    obtain ⟨p, hp, a, b⟩ := qpB i0 r.2.1 s hs 8200 0 (Int.le_refl _) (by omega) x h0 hx
    rw [ap]
    exact ⟨p, List.mem_append_left _ hp, by have := (qsv i0 r.2.1 s hs 8200 0 (Int.le_refl _) p hp).1; omega, a, b⟩
  | r :: rs, i0, h, i + 1, x, hi, h0, hx => by
    rw [List.getD_cons_succ] at hx
    obtain ⟨p, hp, e, a, b⟩ := qCE s hs rs (i0 + 1) (fun q hq => h q (List.mem_cons_of_mem _ hq)) i x (by simpa using hi) h0 hx
    rw [ap]
    exact ⟨p, List.mem_append_right _ hp, by omega, a, b⟩
def Zp3 : qfa := (0, (0, (0, ())))
def ptD (D : Nat → List Int) (p : qfa) : qra := (p, ((((D p.1.toNat).drop p.2.1.toNat).take p.2.2.1.toNat), ()))
theorem qyr {D : Nat → List Int} {rs : List qaa} (hD : ∀ i, i < rs.length → ((D i).length : Int) = (rs.getD i (qla qba)).2.1) {p : qfa} (h : InP rs 0 p) : Gen D (ptD D p) ∧ ((ptD D p).2.1.length : Int) = p.2.2.1 := by
  obtain ⟨a, b, c, d, e⟩ := h
  rw [Int.sub_zero] at e
  have hl := hD p.1.toNat (by omega)
  have hlen : (ptD D p).2.1.length = p.2.2.1.toNat := by
    unfold ptD
    simp only [List.length_take, List.length_drop]
    omega
  refine ⟨⟨a, c, ?_, ?_⟩, by omega⟩
  · rw [hlen]
    show p.2.1.toNat + p.2.2.1.toNat ≤ (D p.1.toNat).length
    omega
  · rw [hlen]; rfl
theorem quA {D : Nat → List Int} {rs : List qaa} (hV : RecsV rs) (hD : ∀ i, i < rs.length → ((D i).length : Int) = (rs.getD i (qla qba)).2.1) (hS : ∀ i, i < rs.length → (rs.getD i (qla qba)).2.2.1 = qGg (D i)) (hB : ∀ i, Bts (D i)) (s : Int) (hs : 1 ≤ s) (ks : List Nat) (hk : ∀ k ∈ ks, k < (ap s 0 rs).length) (i : Nat) (hi : i < rs.length) :
    (qDw (ks.map fun k => ptD D ((ap s 0 rs).getD k Zp3)) i (rs.getD i (qla qba)) = true ↔ ∀ k, k < (ap s 0 rs).length → ((ap s 0 rs).getD k Zp3).1 = (i : Int) → k ∈ ks) ∧
    (qDw (ks.map fun k => ptD D ((ap s 0 rs).getD k Zp3)) i (rs.getD i (qla qba)) = true → fD (i : Int) (ks.map fun k => ptD D ((ap s 0 rs).getD k Zp3)) (zD (rs.getD i (qla qba))) = D i) := by
  have hin := fun p hp => (qVD s hs rs 0 p hp).1
  have hpw := qrG s hs rs 0
  have hal := qCE s hs rs 0 (fun r hr => (hV.each r hr).2.1) i
  generalize hps : ap s 0 rs = ps at *
  have hget : ∀ k, k < ps.length → ps.getD k Zp3 ∈ ps := fun k hk => quh (P := fun p => p ∈ ps) (fun p hp => hp) k hk
  have hG : ∀ q ∈ ks.map (fun k => ptD D (ps.getD k Zp3)), Gen D q := fun q hq => by
    obtain ⟨k, hk', rfl⟩ := List.mem_map.1 hq
    exact (qyr hD (hin _ (hget k (hk k hk')))).1
  have hI : ∀ q ∈ ks.map (fun k => ptD D (ps.getD k Zp3)), PtIn rs q := fun q hq => by
    obtain ⟨k, hk', rfl⟩ := List.mem_map.1 hq
    have h1 := hin _ (hget k (hk k hk'))
    have h2 := (qyr hD h1).2
    obtain ⟨a, b, c, d, e⟩ := h1
    rw [Int.sub_zero] at e
    exact ⟨⟨a, by show (ps.getD k Zp3).1 < _; omega⟩, c, by rw [h2]; exact e, ((hB _).drop _).take _⟩
  have hw := qbD rs (ks.map fun k => ptD D (ps.getD k Zp3)) i (hD i hi) (hS i hi) hI hG
  refine ⟨hw.1.trans ⟨fun h k hk1 hk2 => ?_, fun h x hx => ?_⟩, hw.2⟩
  · have hp := hin _ (hget k hk1)
    obtain ⟨a, b, c, d, e⟩ := hp
    rw [Int.sub_zero, hk2, Int.toNat_natCast, ← hD i hi] at e
    obtain ⟨q, hq, h1, h2, h3⟩ := h (ps.getD k Zp3).2.1.toNat (by omega)
    obtain ⟨k', hk', rfl⟩ := List.mem_map.1 hq
    have hp' := hin _ (hget k' (hk k' hk'))
    have hl' := (qyr hD hp').2
    rw [hl'] at h3
    have h1' : (ps.getD k' Zp3).1 = (i : Int) := h1
    have h2' : (ps.getD k' Zp3).2.1 ≤ (((ps.getD k Zp3).2.1.toNat : Nat) : Int) := h2
    have h3' : (((ps.getD k Zp3).2.1.toNat : Nat) : Int) < (ps.getD k' Zp3).2.1 + (ps.getD k' Zp3).2.2.1 := h3
    have eg : ∀ j (hj : j < ps.length), ps.getD j Zp3 = ps[j] := fun j hj => by rw [List.getD_eq_getElem?_getD, List.getElem?_eq_getElem hj]; rfl
    by_cases hkk : k' = k
    · rw [← hkk]; exact hk'
    · exfalso
      have hkl := hk k' hk'
      rcases Nat.lt_or_gt_of_ne hkk with hlt | hlt
      · have := List.pairwise_iff_getElem.1 hpw k' k hkl hk1 hlt
        rw [← eg k' hkl, ← eg k hk1] at this
        have := this (by rw [h1', hk2])
        omega
      · have := List.pairwise_iff_getElem.1 hpw k k' hk1 hkl hlt
        rw [← eg k' hkl, ← eg k hk1] at this
        have := this (by rw [h1', hk2])
        have := hp'.2.2.2.1
        omega
  · obtain ⟨p, hp, e, a, b⟩ := hal (x : Int) hi (by omega) (by rw [← hD i hi]; omega)
    obtain ⟨k, hk1, e2⟩ := List.mem_iff_getElem.1 hp
    have eg : ps.getD k Zp3 = p := by rw [List.getD_eq_getElem?_getD, List.getElem?_eq_getElem hk1, ← e2]; rfl
    have hkm := h k hk1 (by rw [eg]; omega)
    refine ⟨ptD D (ps.getD k Zp3), List.mem_map.2 ⟨k, hkm, rfl⟩, ?_, ?_, ?_⟩
    · rw [eg]; show p.1 = _; omega
    · rw [eg]; exact a
    · rw [(qyr hD (hin _ (hget k hk1))).2, eg]; exact b
end Go.Ab

/-
  What is found where no coded block can be read.
-/
set_option linter.unusedVariables false
set_option linter.unusedSimpArgs false
set_option maxRecDepth 10000
namespace Go.Ab
open Go
attribute [local irreducible] IntKind.wrap
def qMp (b : List Int) : Prop := ∀ j, (rdK (b.drop j)).2.2 = 0 → (rdK (b.drop j)).1.1.1 = 1
theorem qhE {s : List Int} (h : (rdK s).2.2 = 0) : bC (rdK s).1 = 0 := by
  have hk := qwr h
  refine if_pos ⟨hk.2.2.2.1, ?_⟩
  have hlen := qCf hk.2.2.2.1
  rw [hk.2.2.2.2.2.2.1, List.length_take, List.length_drop]
  omega
theorem qcH {l : Int} (hlv : 0 ≤ l ∧ l ≤ 7) {b : List Int} (hb : Bts b) (hN : qMp b) {j : Nat} (hr : (rdK (b.drop j)).2.2 = 0) : ∃ r, qoj l (rdK (b.drop j)).1 = some r := by
  have hk := qwr hr
  exact ⟨_, qLp hlv (hN j hr) (qhE hr) (by rw [hk.2.2.2.2.2.2.1]; exact ((hb.drop _).drop _).take _)⟩
theorem qUx {l : Int} (hlv : 0 ≤ l ∧ l ≤ 7) {b : List Int} (hb : Bts b) (hl : b.length ≤ 50000) (hN : qMp b) : ∀ (n : Nat) (k : Nat) (out : List qpa), b.length - k ≤ n → k ≤ b.length → out.length ≤ k →
    ((qBc b k).bind fun r => qab l b r.1 r.2 out) = some (out ++ svA l (b.drop k) k, 0) := by
  intro n
  induction n using Nat.strongRecOn with
  | ind n ih =>
    intro k out hn hk ho
    rcases qVC hb hl hk with ⟨h1, h2⟩ | ⟨i, h1, h2, h3, h4⟩
    · rw [h1, Option.bind_some, qHg, qCA h2, List.append_nil]
      exact Tot.eq (Tot.ifeq_neg (by decide) (Tot.so rfl))
    · rw [h1, Option.bind_some, qVt i _ k h4, List.drop_drop]
      rw [List.drop_drop] at h3
      have h13 := qso h3
      rw [List.length_drop] at h13
      generalize hj : k + i = j at *
      have hR := qBs (b.drop j) (hb.drop j)
      have e : (j : Int).toNat = j := Int.toNat_natCast j
      rw [qHg]
      simp only [Int.ofNat_eq_natCast, e]
      refine Tot.eq (Tot.ifeq_pos rfl (Tot.g (by omega) (Tot.g (by omega) (Tot.be hR ?_))))
      have next : ∀ (m : Nat) (o : List qpa), 1 ≤ m → j + m ≤ b.length → o.length ≤ j + m → ((qBc b (IntKind.wrap .i64 ((j : Int) + (m : Int)))).bind fun r => qab l b r.1 r.2 o) = some (o ++ svA l (b.drop (j + m)) (j + m), 0) := by
        intro m o hm hjm ho'
        rw [w64 (by omega) (by omega)]
        have e2 : (j : Int) + (m : Int) = ((j + m : Nat) : Int) := by omega
        rw [e2]
        exact ih (b.length - (j + m)) (by omega) (j + m) o (Nat.le_refl _) hjm ho'
      have n1 := next 1 out (Nat.le_refl _) (by omega) (by omega)
      rw [show ((1 : Nat) : Int) = 1 from rfl] at n1
      refine Tot.ifne (fun hr => ?_) (fun hr => ?_)
      · have hc : qFo l (b.drop j) = none := by
          unfold qFo
          rw [if_neg (fun k => hr k.2)]
        rw [qKq hc, List.drop_drop]
        exact Tot.of_eq n1 rfl
      · have hk' := qwr hr
        have hlen := qCf hk'.2.2.2.1
        have hxb : Bts (((b.drop j).drop 13).take 28) := ((hb.drop _).drop _).take _
        have hm : 0 ≤ (rdK (b.drop j)).1.1.1 ∧ (rdK (b.drop j)).1.1.1 < 256 := by rw [hk'.2.2.2.2.2.2.2]; exact qUE hxb
        obtain ⟨r4, e4⟩ := qcH hlv hb hN hr
        refine Tot.be e4 (Tot.ifne (fun hr2 => ?_) (fun hr2 => ?_))
        · have hc : qFo l (b.drop j) = none := by
            unfold qFo
            rw [if_pos ⟨h3, hr⟩, e4]
            simp only
            rw [if_neg hr2]
          rw [qKq hc, List.drop_drop]
          exact Tot.of_eq n1 rfl
        · have hc : qFo l (b.drop j) = some ((rdK (b.drop j)).1.1, r4.1, (rdK (b.drop j)).2.1.toNat) := by
            unfold qFo
            rw [if_pos ⟨h3, hr⟩, e4]
            simp only
            rw [if_pos hr2]
          have hdl := hk'.2.2.2.2.2.1
          rw [List.length_drop] at hdl
          have nn := next (rdK (b.drop j)).2.1.toNat (out ++ [((j : Int), ((rdK (b.drop j)).1.1, (r4.1, ())))]) (by omega) (by omega) (by rw [List.length_append, List.length_singleton]; omega)
          have e5 : (((rdK (b.drop j)).2.1.toNat : Nat) : Int) = (rdK (b.drop j)).2.1 := by omega
          rw [e5] at nn
          rw [qdy hc, List.drop_drop]
          refine Tot.g (by rw [List.length_append, List.length_singleton]; omega) (Tot.of_eq nn ?_)
          rw [List.append_assoc]
          rfl
theorem qTu {l : Int} (hlv : 0 ≤ l ∧ l ≤ 7) {b : List Int} (hb : Bts b) (hl : b.length ≤ 50000) (hN : qMp b) : qrf l b = some (svA l b 0, 0) := by
  rw [qUn]
  simp only [Int.ofNat_eq_natCast]
  have := qUx hlv hb hl hN b.length 0 [] (by omega) (by omega) (by rw [List.length_nil]; omega)
  rw [show ((0 : Nat) : Int) = 0 from rfl] at this
  exact Tot.eq (Tot.ifd_neg (by omega) (Tot.ifd_neg (by omega) (Tot.ifd_neg (by omega) (Tot.of_eq this (by rw [List.drop_zero, List.nil_append])))))
theorem qKF {b : qoa} {more : List Int} (hc : bC b = 0) (hw : bWf b) (hl : (bB b ++ more).length ≤ 50000) : rdK (bB b ++ more) = (b, (b.1.2.2.2.2.1 + 41, 0)) := by
  have ok : hOK b.1 ∧ (b.2.1.length : Int) = b.1.2.2.2.2.1 := by
    unfold bC at hc; split at hc
    · assumption
    · cases hc
  have hlen := qCf ok.1
  have hhl : (hB b.1).length = 28 := by unfold hB; rw [List.length_append, qjn, hw.2]
  have hL : (bB b ++ more).length = 41 + b.2.1.length + more.length := by
    unfold bB; simp only [List.length_append, qdb, hhl]
  have hw13 : (bB b ++ more).take 13 = mark := by
    unfold bB
    rw [List.append_assoc, List.append_assoc, List.take_append_of_le_length (by rw [qdb]; omega)]
    rfl
  have qto : ((bB b ++ more).drop 13).take 28 = hB b.1 := by
    unfold bB
    rw [List.append_assoc, List.append_assoc, List.drop_append_of_le_length (by rw [qdb]; omega), List.drop_of_length_le (by rw [qdb]; omega), List.nil_append, List.take_append_of_le_length (by omega), List.take_of_length_le (by omega)]
  have hd41 : (bB b ++ more).drop 41 = b.2.1 ++ more := by
    have e : bB b ++ more = (mark ++ hB b.1) ++ (b.2.1 ++ more) := by unfold bB; simp only [List.append_assoc]
    have e2 : (mark ++ hB b.1).length = 41 := by rw [List.length_append, qdb, hhl]
    rw [e, List.drop_append_of_le_length (by omega), List.drop_of_length_le (by omega), List.nil_append]
  rw [hL] at hl
  unfold rdK
  rw [qto, qPF ok.1 hw.2, if_neg (show ¬ (bB b ++ more).length > 50000 by omega), if_neg (show ¬ (bB b ++ more).length < 41 by omega), if_neg (fun h => h.elim (fun h => h hw13) (fun h => h ok.1)), if_neg (by omega), hd41]
  have e : b.1.2.2.2.2.1.toNat = b.2.1.length := by omega
  rw [e, List.take_append_of_le_length (Nat.le_refl _), List.take_length, Int.add_comm]
theorem qJx {l : Int} (hlv : 0 ≤ l ∧ l ≤ 7) {a1 a2 : Int} {z more : List Int} (hm : mOK a1 a2 z) (hb : Bts z) (hl : (bB (qzi a1 a2 z) ++ more).length ≤ 50000) : qFo l (bB (qzi a1 a2 z) ++ more) = some ((qzi a1 a2 z).1, z, 41 + z.length) := by
  have hr := qKF (more := more) (qtk hm) (qRe a1 a2 z) hl
  have h13 : qto (bB (qzi a1 a2 z) ++ more) := (qwr (by rw [hr])).2.2.1
  have hraw : qoj l (qzi a1 a2 z) = some (z, 0) := by
    rw [qLp hlv rfl (qtk hm) hb]
    exact congrArg some (if_pos rfl)
  unfold qFo
  rw [hr, if_pos ⟨h13, rfl⟩]
  simp only
  rw [hraw]
  simp only
  have e : ((qzi a1 a2 z).1.2.2.2.2.1 + 41).toNat = 41 + z.length := by
    show ((z.length : Int) + 41).toNat = _
    omega
  rw [e]
  rfl
end Go.Ab

/-
  What survives of an archive of stored blocks is found.
-/
set_option linter.unusedVariables false
set_option linter.unusedSimpArgs false
set_option maxRecDepth 10000
namespace Go.Ab
open Go
attribute [local irreducible] IntKind.wrap
def rgs : Int → List qda → List qfa
  | _, [] => []
  | a, h :: r => (0, (a, (41 + h.2.2.2.2.1, ()))) :: rgs (a + (41 + h.2.2.2.2.1)) r
theorem qXm : ∀ (hs : List qda) (a : Int), (rgs a hs).length = hs.length
  | [], _ => rfl
  | h :: hs, a => by rw [rgs, List.length_cons, List.length_cons, qXm hs]
theorem qfE : ∀ (hs : List qda) (a : Int), (∀ h ∈ hs, 1 ≤ h.2.2.2.2.1) → ∀ p ∈ rgs a hs, a ≤ p.2.1 ∧ 42 ≤ p.2.2.1
  | [], _, _, p, hp => by cases hp
  | h :: hs, a, hh, p, hp => by
    have h1 := hh h List.mem_cons_self
    rw [rgs] at hp
    rcases List.mem_cons.1 hp with rfl | hp
    · exact ⟨Int.le_refl _, by simp only; omega⟩
    · have := qfE hs _ (fun g hg => hh g (List.mem_cons_of_mem _ hg)) p hp
      omega
theorem qeE : ∀ (hs : List qda) (a : Int), (∀ h ∈ hs, 1 ≤ h.2.2.2.2.1) → (rgs a hs).Pairwise fun p q => p.2.1 + p.2.2.1 ≤ q.2.1
  | [], _, _ => List.Pairwise.nil
  | h :: hs, a, hh => by
    rw [rgs]
    exact List.Pairwise.cons (fun q hq => (qfE hs _ (fun g hg => hh g (List.mem_cons_of_mem _ hg)) q hq).1) (qeE hs _ (fun g hg => hh g (List.mem_cons_of_mem _ hg)))
def stB (D : Nat → List Int) (p : qfa) : qoa := qzi p.1 p.2.1 (ptD D p).2.1
theorem qSA (b : List Int) (hbl : b.length ≤ 100000) : ∀ (bs : List qoa) (p : Nat), (∀ x ∈ bs, bC x = 0 ∧ bWf x) → p ≤ b.length → b.drop p = qCs bs → ∀ k, k < bs.length →
    ∃ pos : Nat, (rgs p (bs.map (·.1))).getD k Zp = (0, ((pos : Int), (41 + (bs.getD k zB).1.2.2.2.2.1, ()))) ∧ pos ≤ b.length ∧ b.drop pos = bB (bs.getD k zB) ++ qCs (bs.drop (k + 1))
  | [], p, h, hp, hb, k, hk => by cases hk
  | x :: bs, p, h, hp, hb, 0, hk => ⟨p, rfl, hp, hb⟩
  | x :: bs, p, h, hp, hb, k + 1, hk => by
    obtain ⟨h1, h2⟩ := h x List.mem_cons_self
    have ok : hOK x.1 ∧ (x.2.1.length : Int) = x.1.2.2.2.2.1 := by
      unfold bC at h1; split at h1
      · assumption
      · cases h1
    have hl := qDs h2
    have hlen := congrArg List.length hb
    rw [List.length_drop, qCs, List.length_append, hl] at hlen
    obtain ⟨pos, e1, e2, e3⟩ := qSA b hbl bs (p + (bB x).length) (fun y hy => h y (List.mem_cons_of_mem _ hy)) (by omega) (by rw [← List.drop_drop, hb, qCs, List.drop_left]) k (by simpa using hk)
    refine ⟨pos, ?_, e2, ?_⟩
    · rw [List.map_cons, rgs, List.getD_cons_succ, List.getD_cons_succ, ← e1]
      have e : (p : Int) + (41 + x.1.2.2.2.2.1) = ((p + (bB x).length : Nat) : Int) := by omega
      rw [e]
    · rw [List.getD_cons_succ, List.drop_succ_cons, e3]
theorem qfD {a b : List Int} {n : Nat} (ha : n ≤ a.length) (hb : n ≤ b.length) (h : ∀ t, t < n → a.getD t 0 = b.getD t 0) : a.take n = b.take n := by
  refine qno (by rw [List.length_take, List.length_take]; omega) (fun t ht => ?_)
  rw [List.length_take] at ht
  have e : ∀ l : List Int, (l.take n).getD t 0 = l.getD t 0 := fun l => by
    rw [List.getD_eq_getElem?_getD, List.getElem?_take, if_pos (by omega), ← List.getD_eq_getElem?_getD]
  rw [e, e]
  exact h t (by omega)
theorem qhD {b : List Int} {cs : List qha} (hgd : GD b cs) {a f : Int} {r : Int} (ha : 0 ≤ a) (hf : 0 ≤ f) (hr : 0 ≤ r) (hl : a + r ≤ (cs.length : Int)) (hfl : f + r ≤ (b.length : Int))
    (h : ∀ t : Nat, (t : Int) < r → (cs.map (fun c : qha => c.2.1)).getD (a.toNat + t) 0 = f + t) :
    ((cs.map (fun c : qha => c.1)).drop a.toNat).take r.toNat = (b.drop f.toNat).take r.toNat := by
  refine qfD (by rw [List.length_drop, List.length_map]; omega) (by rw [List.length_drop]; omega) (fun t ht => ?_)
  rw [qcj, qcj]
  have h1 := h t (by omega)
  rcases qfH hgd (j := a.toNat + t) (by omega) with h2 | ⟨_, _, h2⟩
  · rw [h1] at h2; omega
  · rw [h2, h1]
    congr 1
    omega
theorem qYE (o : List Int) (l : List qfa) : ∀ s ∈ lfs o l 0, ∃ k : Nat, k < l.length ∧ (s.1 : Int) = k ∧ s.2.2.1 = (l.getD k Zp).2.2.1 ∧ lf o (l.getD k Zp) = some s.2.1 := fun s hs => by
  obtain ⟨k, h1, h2, h3, h4⟩ := qlx o l 0 s hs
  exact ⟨k, h1, by omega, h3, h4⟩
structure Dmg (D : Nat → List Int) (rs : List qaa) (ps : List qfa) (b : List Int) (cs : List qha) (at0 : Nat) : Prop where
  gd : GD b cs
  len : b.length ≤ 20000
  clen : cs.length ≤ 50000
  lo : at0 ≤ b.length
  bks : b.drop at0 = qCs (ps.map (stB D))
  ok : ∀ p ∈ ps, mOK p.1 p.2.1 (ptD D p).2.1 ∧ Bts (ptD D p).2.1 ∧ ((ptD D p).2.1.length : Int) = p.2.2.1
def svH (D : Nat → List Int) (ps : List qfa) (q : qfa) : Fnd := (q.2.1.toNat, ((stB D (ps.getD q.1.toNat Zp)).1, ((ptD D (ps.getD q.1.toNat Zp)).2.1, 41 + (ptD D (ps.getD q.1.toNat Zp)).2.1.length)))
theorem qeq (D : Nat → List Int) (ps : List qfa) (k : Nat) (hk : k < ps.length) : (ps.map (stB D)).getD k zB = stB D (ps.getD k Zp) := by
  rw [List.getD_eq_getElem?_getD, List.getElem?_map, List.getElem?_eq_getElem hk, List.getD_eq_getElem?_getD, List.getElem?_eq_getElem hk]
  rfl
theorem Dmg.one {D : Nat → List Int} {rs : List qaa} {ps : List qfa} {b : List Int} {cs : List qha} {at0 : Nat} (h : Dmg D rs ps b cs at0) {q : qfa} (hq : q ∈ lfs (cs.map (fun c : qha => c.2.1)) (rgs at0 ((ps.map (stB D)).map (·.1))) 0) :
    ∃ (k pos : Nat), k < ps.length ∧ q.1 = (k : Int) ∧ q.2.2.1 = 41 + ((ptD D (ps.getD k Zp)).2.1.length : Int) ∧ (rgs at0 ((ps.map (stB D)).map (·.1))).getD k Zp = (0, ((pos : Int), (41 + ((ptD D (ps.getD k Zp)).2.1.length : Int), ()))) ∧ 0 ≤ q.2.1 ∧ q.2.1 + q.2.2.1 ≤ cs.length ∧
      (∀ t : Nat, (t : Int) < q.2.2.1 → (cs.map (fun c : qha => c.2.1)).getD (q.2.1.toNat + t) 0 = pos + t) ∧
      qFo 0 ((cs.map (fun c : qha => c.1)).drop q.2.1.toNat) = some (svH D ps q).2 := by
  obtain ⟨k, hk, e1, e2, e3⟩ := qYE _ _ q hq
  rw [qXm, List.length_map, List.length_map] at hk
  have hbs : ∀ x ∈ ps.map (stB D), bC x = 0 ∧ bWf x := fun x hx => by
    obtain ⟨p, hp, rfl⟩ := List.mem_map.1 hx
    exact ⟨qtk (h.ok p hp).1, qRe _ _ _⟩
  have hbl := h.len
  obtain ⟨pos, g1, g2, g3⟩ := qSA b (by omega) (ps.map (stB D)) at0 hbs h.lo h.bks k (by rw [List.length_map]; exact hk)
  rw [qeq D ps k hk] at g1 g3
  have hpm : ps.getD k Zp ∈ ps := quh (P := fun p => p ∈ ps) (fun p hp => hp) k hk
  obtain ⟨o1, o2, o3⟩ := h.ok _ hpm
  have hlen : (stB D (ps.getD k Zp)).1.2.2.2.2.1 = ((ptD D (ps.getD k Zp)).2.1.length : Int) := rfl
  rw [hlen] at g1
  rw [g1] at e2 e3
  have hz : 1 ≤ (ptD D (ps.getD k Zp)).2.1.length := o1.2.2.1
  have hz2 : (ptD D (ps.getD k Zp)).2.1.length ≤ 4096 := o1.2.2.2.1
  obtain ⟨f1, f2, f3⟩ := qZE (by simp only; omega) e3
  simp only at f2 f3 e2
  rw [List.length_map] at f2
  have hbBl : (bB (stB D (ps.getD k Zp))).length = 41 + (ptD D (ps.getD k Zp)).2.1.length := qDs (qRe _ _ _)
  have hdl := congrArg List.length g3
  rw [List.length_drop, List.length_append, hbBl] at hdl
  have hby := qhD h.gd (a := q.2.1) (f := pos) (r := 41 + ((ptD D (ps.getD k Zp)).2.1.length : Int)) f1 (by omega) (by omega) f2 (by omega) f3
  have ek : q.1.toNat = k := by omega
  refine ⟨k, pos, hk, e1, e2, g1, f1, by rw [e2]; exact f2, fun t ht => f3 t (by rw [e2] at ht; exact ht), ?_⟩
  have en : (41 + ((ptD D (ps.getD k Zp)).2.1.length : Int)).toNat = (bB (stB D (ps.getD k Zp))).length := by omega
  rw [en, Int.toNat_natCast, g3, List.take_left] at hby
  have hx : (cs.map (fun c : qha => c.1)).drop q.2.1.toNat = bB (stB D (ps.getD k Zp)) ++ ((cs.map (fun c : qha => c.1)).drop q.2.1.toNat).drop (bB (stB D (ps.getD k Zp))).length := by
    conv => lhs; rw [← List.take_append_drop (bB (stB D (ps.getD k Zp))).length ((cs.map (fun c : qha => c.1)).drop q.2.1.toNat), hby]
  have hcl := h.clen
  have hxl := congrArg List.length hx
  rw [List.length_drop, List.length_map] at hxl
  rw [hx]
  unfold svH
  rw [ek]
  exact qJx (by decide) o1 o2 (Nat.le_trans (Nat.le_of_eq hxl.symm) (by omega))
theorem Dmg.found {D : Nat → List Int} {rs : List qaa} {ps : List qfa} {b : List Int} {cs : List qha} {at0 : Nat} (h : Dmg D rs ps b cs at0)
    (hno : ∀ j, qFo 0 ((cs.map (fun c : qha => c.1)).drop j) ≠ none → ∃ q ∈ lfs (cs.map (fun c : qha => c.2.1)) (rgs at0 ((ps.map (stB D)).map (·.1))) 0, q.2.1 = (j : Int)) :
    svA 0 (cs.map (fun c : qha => c.1)) 0 = (lfs (cs.map (fun c : qha => c.2.1)) (rgs at0 ((ps.map (stB D)).map (·.1))) 0).map (fun q => fnd (svH D ps q)) := by
  have hone := fun q hq => h.one (q := q) hq
  have hpw := qCy (cs.map (fun c : qha => c.2.1)) (rgs at0 ((ps.map (stB D)).map (·.1))) 0
  have hrp := qeE ((ps.map (stB D)).map (·.1)) at0 (fun g hg => by
    obtain ⟨x, hx, rfl⟩ := List.mem_map.1 hg
    obtain ⟨p, hp, rfl⟩ := List.mem_map.1 hx
    have := (h.ok p hp).1.2.2.1
    show (1 : Int) ≤ ((ptD D p).2.1.length : Int)
    omega)
  have hrl := qXm ((ps.map (stB D)).map (·.1)) at0
  generalize hL : lfs (cs.map (fun c : qha => c.2.1)) (rgs at0 ((ps.map (stB D)).map (·.1))) 0 = L at *
  generalize hR : rgs at0 ((ps.map (stB D)).map (·.1)) = R at *
  rw [List.length_map, List.length_map] at hrl
  have key := qey (l := 0) (x := cs.map (fun c : qha => c.1)) (L.map (svH D ps)) 0 ?_ ?_ ?_
  · rw [List.drop_zero, List.map_map] at key
    exact key
  · rw [List.pairwise_map]
    refine List.Pairwise.imp_of_mem (fun {q q'} hq hq' hlt => ?_) hpw
    obtain ⟨k, pos, a1, a2, a3, a4, a5, a6, a7, a8⟩ := hone q hq
    obtain ⟨k', pos', b1, b2, b3, b4, b5, b6, b7, b8⟩ := hone q' hq'
    have eg : ∀ j (hj : j < R.length), R.getD j Zp = R[j] := fun j hj => by rw [List.getD_eq_getElem?_getD, List.getElem?_eq_getElem hj]; rfl
    have hap := List.pairwise_iff_getElem.1 hrp k k' (by omega) (by omega) (by omega)
    rw [← eg k (by omega), ← eg k' (by omega), a4, b4] at hap
    simp only at hap
    have := qiD h.gd (a := q.2.1) (a' := q'.2.1) (r := q.2.2.1) (r' := q'.2.2.1) (f := pos) (f' := pos') (by omega) (by omega) (by omega) (by omega) a5 b5 a6 b6 a7 b7 (by omega)
    have ek : q.1.toNat = k := by omega
    show q.2.1.toNat + (41 + (ptD D (ps.getD q.1.toNat Zp)).2.1.length) ≤ q'.2.1.toNat
    rw [ek]
    omega
  · intro s hs
    obtain ⟨q, hq, rfl⟩ := List.mem_map.1 hs
    obtain ⟨k, pos, a1, a2, a3, a4, a5, a6, a7, a8⟩ := hone q hq
    exact ⟨Nat.zero_le _, a8⟩
  · intro j _ hj
    obtain ⟨q, hq, e⟩ := hno j hj
    exact ⟨svH D ps q, List.mem_map.2 ⟨q, hq, rfl⟩, by show q.2.1.toNat = j; omega⟩
end Go.Ab

/-
  What survives of an archive of stored blocks, and its members.
-/
set_option linter.unusedVariables false
set_option linter.unusedSimpArgs false
set_option maxRecDepth 10000
namespace Go.Ab
open Go
attribute [local irreducible] IntKind.wrap
open Classical
structure Arc (D : Nat → List Int) (rs : List qaa) : Prop where
  val : qGe rs = 0
  sums : SumsOK rs
  sz : ∀ i, i < rs.length → ((D i).length : Int) = (rs.getD i (qla qba)).2.1
  sum : ∀ i, i < rs.length → (rs.getD i (qla qba)).2.2.1 = qGg (D i)
  bts : ∀ i, Bts (D i)
def psA (rs : List qaa) : List qfa := ap 16 0 rs
def bsA (D : Nat → List Int) (rs : List qaa) : List qoa := (psA rs).map (stB D)
def sA : qna := (0, (16, ()))
def qJp (D : Nat → List Int) (rs : List qaa) : List Int := qEs sA rs (bsA D rs)
theorem Arc.piece {D : Nat → List Int} {rs : List qaa} (h : Arc D rs) {p : qfa} (hp : p ∈ psA rs) : InP rs 0 p ∧ p.2.2.1 ≤ 16 ∧ mOK p.1 p.2.1 (ptD D p).2.1 ∧ Bts (ptD D p).2.1 ∧ ((ptD D p).2.1.length : Int) = p.2.2.1 ∧ Gen D (ptD D p) := by
  have hV := qhb h.val
  obtain ⟨hi, h16⟩ := qVD 16 (by decide) rs 0 p hp
  obtain ⟨g, gl⟩ := qyr h.sz hi
  have hl := hV.len
  obtain ⟨a, b, c, d, e⟩ := id hi
  have hm : rs.getD (p.1 - 0).toNat (qla qba) ∈ rs := quh (P := fun r => r ∈ rs) (fun r hr => hr) _ (by omega)
  have hr := (hV.each _ hm).2.1
  refine ⟨hi, h16, ?_, ((h.bts _).drop _).take _, gl, g⟩
  unfold mOK
  refine ⟨?_, ?_, ?_, ?_, ?_, ?_⟩ <;> omega
theorem Arc.fit {D : Nat → List Int} {rs : List qaa} (h : Arc D rs) : ∀ ps : List qfa, (∀ p ∈ ps, p ∈ psA rs) → Fit (ps.map (stB D)) ps
  | [], _ => trivial
  | p :: ps, hp => by
    obtain ⟨a, b, c, d, e, f⟩ := h.piece (hp p List.mem_cons_self)
    exact ⟨⟨qtk c, qRe _ _ _, rfl, rfl, e⟩, h.fit ps (fun q hq => hp q (List.mem_cons_of_mem _ hq))⟩
theorem qVy (D : Nat → List Int) : ∀ ps : List qfa, (∀ p ∈ ps, 1 ≤ (ptD D p).2.1.length ∧ ((ptD D p).2.1.length : Int) = p.2.2.1) → ((qCs (ps.map (stB D))).length : Int) ≤ 42 * (ps.map (fun p => p.2.2.1)).foldr (· + ·) 0
  | [], _ => by show (0 : Int) ≤ 42 * 0; decide
  | p :: ps, h => by
    have h1 := h p List.mem_cons_self
    have ih := qVy D ps (fun q hq => h q (List.mem_cons_of_mem _ hq))
    have hb := qDs (b := stB D p) (qRe _ _ _)
    have hz : (stB D p).2.1.length = (ptD D p).2.1.length := rfl
    rw [List.map_cons, qCs, List.length_append, hb, hz, List.map_cons, List.foldr_cons]
    omega
theorem qnB (i n s : Int) (hs : 1 ≤ s) : ∀ (k : Nat) (off : Int), 0 ≤ off → off ≤ n → ((pcs i n s k off).map (fun p => p.2.2.1)).foldr (· + ·) 0 ≤ n - off
  | 0, off, _, h => by show (0 : Int) ≤ n - off; omega
  | k + 1, off, h0, h => by
    rw [pcs]
    by_cases hlt : off < n
    · rw [if_pos hlt, List.map_cons, List.foldr_cons]
      by_cases h2 : s < n - off
      · have := qnB i n s hs k (off + s) (by omega) (by omega)
        simp only
        rw [if_pos h2]
        omega
      · have hn : pcs i n s k (off + s) = [] := by
          cases k with
          | zero => rfl
          | succ k => rw [pcs, if_neg (by omega)]
        simp only
        rw [if_neg h2, hn]
        show (n - off) + 0 ≤ n - off
        omega
    · rw [if_neg hlt]
      show (0 : Int) ≤ n - off
      omega
theorem qUB (a b : List Int) : (a ++ b).foldr (· + ·) 0 = a.foldr (· + ·) 0 + b.foldr (· + ·) 0 := by
  induction a with
  | nil => show b.foldr (· + ·) 0 = 0 + b.foldr (· + ·) 0; omega
  | cons x a ih => rw [List.cons_append, List.foldr_cons, List.foldr_cons, ih]; omega
theorem qAE (s : Int) (hs : 1 ≤ s) : ∀ (rs : List qaa) (i : Int), (∀ r ∈ rs, 0 ≤ r.2.1) → ((ap s i rs).map (fun p => p.2.2.1)).foldr (· + ·) 0 ≤ tot rs
  | [], i, _ => by show (0 : Int) ≤ 0; decide
  | r :: rs, i, h => by
    have h1 := qnB i r.2.1 s hs 8200 0 (Int.le_refl _) (h r List.mem_cons_self)
    have ih := qAE s hs rs (i + 1) (fun q hq => h q (List.mem_cons_of_mem _ hq))
    rw [ap, List.map_append, qUB, tot]
    omega
theorem qvr : ∀ (rs : List qaa), SumsOK rs → (∀ r ∈ rs, r.1.size ≤ 40) → (qMa rs).length ≤ 63 * rs.length
  | [], _, _ => Nat.le_refl _
  | r :: rs, hS, h => by
    have h1 := qBj r (hS r List.mem_cons_self).1
    have h2 := h r List.mem_cons_self
    have h3 := qvr rs (fun q hq => hS q (List.mem_cons_of_mem _ hq)) (fun q hq => h q (List.mem_cons_of_mem _ hq))
    rw [qMa, List.length_append, List.length_cons]
    omega
theorem Arc.len {D : Nat → List Int} {rs : List qaa} (h : Arc D rs) (ht : tot rs ≤ 80) : (qJp D rs).length ≤ 5000 ∧ (qJp D rs).length = 28 + (qMa rs).length + (qCs (bsA D rs)).length ∧ (psA rs).length ≤ 80 := by
  have hV := qhb h.val
  have hl := hV.len
  have h1 := qvr rs h.sums (fun r hr => (hV.each r hr).2.2)
  have h2 := qVy D (psA rs) (fun p hp => by
    obtain ⟨a, b, c, d, e, f⟩ := h.piece hp
    exact ⟨c.2.2.1, e⟩)
  have h3 := qAE 16 (by decide) rs 0 (fun r hr => (hV.each r hr).1)
  have e : (qJp D rs).length = 28 + (qMa rs).length + (qCs (bsA D rs)).length := by unfold qJp qEs; rw [List.length_append, qro]
  have key : ∀ ps : List qfa, (∀ p ∈ ps, 1 ≤ p.2.2.1) → (ps.length : Int) ≤ (ps.map (fun p => p.2.2.1)).foldr (· + ·) 0 := by
    intro ps
    induction ps with
    | nil => intro _; show (0 : Int) ≤ 0; decide
    | cons p ps ih =>
      intro hp
      have := ih (fun q hq => hp q (List.mem_cons_of_mem _ hq))
      have := hp p List.mem_cons_self
      rw [List.map_cons, List.foldr_cons, List.length_cons]
      omega
  have h4 := key (psA rs) (fun p hp => (h.piece hp).1.2.2.2.1)
  unfold bsA at e
  have e3 : ((psA rs).map (fun p => p.2.2.1)).foldr (· + ·) 0 ≤ tot rs := h3
  refine ⟨?_, e, ?_⟩ <;> omega
theorem Arc.read {D : Nat → List Int} {rs : List qaa} (h : Arc D rs) (ht : tot rs ≤ 80) : qSx (qJp D rs) = ((sA, (rs, ((bsA D rs).map (·.1), ()))), (bsA D rs, 0)) :=
  qGC (s := sA) (by decide) h.val h.sums (h.fit (psA rs) (fun p hp => hp)) (by have := (h.len ht).1; unfold qJp at this; omega)
theorem Arc.dmg {D : Nat → List Int} {rs : List qaa} (h : Arc D rs) (ht : tot rs ≤ 80) {cs : List qha} (hg : GD (qJp D rs) cs) (hc : cs.length ≤ 50000) : Dmg D rs (psA rs) (qJp D rs) cs (28 + (qMa rs).length) := by
  have hl := h.len ht
  refine ⟨hg, by omega, hc, by omega, ?_, fun p hp => ?_⟩
  · unfold qJp qEs
    rw [← qro (s := sA), List.drop_left]
    rfl
  · obtain ⟨a, b, c, d, e, f⟩ := h.piece hp
    exact ⟨c, d, e⟩
def svL (D : Nat → List Int) (rs : List qaa) (cs : List qha) : List qfa := lfs (cs.map (fun c : qha => c.2.1)) (rgs ((28 + (qMa rs).length : Nat) : Int) ((bsA D rs).map (·.1))) 0
def fdL (D : Nat → List Int) (rs : List qaa) (L : List qfa) : List qpa := L.map fun q => fnd (svH D (psA rs) q)
def ksL (L : List qfa) : List Nat := L.map fun q => q.1.toNat
theorem qAF {D : Nat → List Int} {rs : List qaa} {cs : List qha} (h : Arc D rs) (ht : tot rs ≤ 80) (hg : GD (qJp D rs) cs) (hc : cs.length ≤ 50000) : (∀ q ∈ svL D rs cs, 0 ≤ q.1 ∧ q.1 < (psA rs).length ∧ 0 ≤ q.2.1 ∧ q.2.1 ≤ 50000) ∧ (svL D rs cs).length ≤ 80 ∧ (ksL (svL D rs cs)).Pairwise (· < ·) := by
  have hd := h.dmg ht hg hc
  have hl := h.len ht
  have h1 : ∀ q ∈ svL D rs cs, 0 ≤ q.1 ∧ q.1 < (psA rs).length ∧ 0 ≤ q.2.1 ∧ q.2.1 ≤ 50000 := fun q hq => by
    obtain ⟨k, pos, a1, a2, a3, a4, a5, a6, a7, a8⟩ := hd.one (q := q) hq
    omega
  refine ⟨h1, ?_, ?_⟩
  · have := qDB (cs.map (fun c : qha => c.2.1)) (rgs ((28 + (qMa rs).length : Nat) : Int) ((bsA D rs).map (·.1))) 0
    rw [qXm, List.length_map] at this
    unfold bsA at this
    rw [List.length_map] at this
    unfold svL bsA
    omega
  · unfold ksL
    rw [List.pairwise_map]
    refine List.Pairwise.imp_of_mem (fun {q q'} hq hq' hlt => ?_) (qCy _ _ 0)
    have := h1 q hq
    have := h1 q' hq'
    omega
theorem qrB {D : Nat → List Int} {rs : List qaa} (h : Arc D rs) {q : qfa} (hq : 0 ≤ q.1 ∧ q.1 < (psA rs).length) : qXd (fnd (svH D (psA rs) q)) = ptD D ((psA rs).getD q.1.toNat Zp3) := by
  have hp : (psA rs).getD q.1.toNat Zp3 ∈ psA rs := quh (P := fun p => p ∈ psA rs) (fun p hp => hp) _ (by omega)
  obtain ⟨a, b, c, d, e, f⟩ := h.piece hp
  have e1 : qXd (fnd (svH D (psA rs) q)) = ((((psA rs).getD q.1.toNat Zp3).1, (((psA rs).getD q.1.toNat Zp3).2.1, ((((ptD D ((psA rs).getD q.1.toNat Zp3)).2.1.length : Nat) : Int), ()))), ((ptD D ((psA rs).getD q.1.toNat Zp3)).2.1, ())) := rfl
  rw [e1]
  generalize (psA rs).getD q.1.toNat Zp3 = p at *
  rw [e]
  rfl
def ptL (D : Nat → List Int) (rs : List qaa) (L : List qfa) : List qra := (ksL L).map fun k => ptD D ((psA rs).getD k Zp3)
theorem qwE {D : Nat → List Int} {rs : List qaa} (h : Arc D rs) {L : List qfa} (hL : ∀ q ∈ L, 0 ≤ q.1 ∧ q.1 < (psA rs).length ∧ 0 ≤ q.2.1 ∧ q.2.1 ≤ 50000) (hl : L.length ≤ 80) : qpA (fdL D rs L) ∧ fck rs (fdL D rs L) = 0 ∧ prt rs (fdL D rs L) [] = ptL D rs L := by
  have hpc : ∀ q ∈ L, (psA rs).getD q.1.toNat Zp3 ∈ psA rs := fun q hq => quh (P := fun p => p ∈ psA rs) (fun p hp => hp) _ (by have := hL q hq; omega)
  have hz : Zp3 = Zp := rfl
  have each : ∀ f ∈ fdL D rs L, ∃ q ∈ L, f = fnd (svH D (psA rs) q) := fun f hf => by
    obtain ⟨q, hq, e⟩ := List.mem_map.1 hf
    exact ⟨q, hq, e.symm⟩
  have hlen : (fdL D rs L).length = L.length := List.length_map ..
  have hfo : ∀ f ∈ fdL D rs L, fOK f := fun f hf => by
    obtain ⟨q, hq, rfl⟩ := each f hf
    obtain ⟨a, b, c, d, e, g⟩ := h.piece (hpc q hq)
    exact ⟨qGt c _, rfl, qWt _, by show (0 : Int) ≤ ((q.2.1.toNat : Nat) : Int); omega⟩
  refine ⟨⟨by omega, fun f hf => ?_⟩, ?_, ?_⟩
  · obtain ⟨q, hq, rfl⟩ := each f hf
    obtain ⟨a, b, c, d, e, g⟩ := h.piece (hpc q hq)
    exact ⟨⟨by show (0 : Int) ≤ 1; decide, by show (1 : Int) < 256; decide⟩, d⟩
  · unfold fck
    rw [if_neg (fun k => k h.val), if_neg (by omega)]
    have key : ∀ fs : List qpa, (∀ f ∈ fs, fOK f) → qEE fs = 0 := by
      intro fs
      induction fs with
      | nil => intro _; rfl
      | cons f fs ih =>
        intro h
        unfold qEE
        rw [if_pos (h f List.mem_cons_self)]
        exact ih (fun g hg => h g (List.mem_cons_of_mem _ hg))
    exact key _ hfo
  · rw [qiB (D := D) rs (fdL D rs L) [] (fun f hf => by
      obtain ⟨q, hq, rfl⟩ := each f hf
      obtain ⟨a, b, c, d, e, g⟩ := h.piece (hpc q hq)
      have hq' := hL q hq
      obtain ⟨i1, i2, i3, i4, i5⟩ := a
      rw [Int.sub_zero] at i5
      refine ⟨⟨?_, ?_⟩, ?_⟩
      · show ((psA rs).getD q.1.toNat Zp3).1 < _
        omega
      · show ((psA rs).getD q.1.toNat Zp3).2.1 + (((ptD D ((psA rs).getD q.1.toNat Zp3)).2.1.length : Nat) : Int) ≤ (rs.getD ((psA rs).getD q.1.toNat Zp3).1.toNat (qla qba)).2.1
        rw [e]; exact i5
      · rw [qrB h ⟨hq'.1, hq'.2.1⟩]; exact g) (fun q hq => by cases hq), List.nil_append]
    unfold ptL ksL fdL
    rw [List.map_map, List.map_map]
    refine List.map_congr_left (fun q hq => ?_)
    have hq' := hL q hq
    exact qrB h ⟨hq'.1, hq'.2.1⟩
theorem qLG {D : Nat → List Int} {rs : List qaa} (h : Arc D rs) {L : List qfa} (hL : ∀ q ∈ L, 0 ≤ q.1 ∧ q.1 < (psA rs).length ∧ 0 ≤ q.2.1 ∧ q.2.1 ≤ 50000) (hl : L.length ≤ 80) : reb rs (fdL D rs L) = (qmy (ptL D rs L) 0 rs, (qly (ptL D rs L) 0 rs, 0)) := by
  obtain ⟨h1, h2, h3⟩ := qwE h hL hl
  unfold reb
  rw [if_neg (fun k => k h2), h3]
theorem qvA {D : Nat → List Int} {rs : List qaa} (h : Arc D rs) {L : List qfa} (hL : ∀ q ∈ L, 0 ≤ q.1 ∧ q.1 < (psA rs).length ∧ 0 ≤ q.2.1 ∧ q.2.1 ≤ 50000) (hp : (ksL L).Pairwise (· < ·)) (i : Nat) (hi : i < rs.length) :
    (qDw (ptL D rs L) i (rs.getD i (qla qba)) = true ↔ (List.range' 0 (psA rs).length).countP (fun k => decide (((psA rs).getD k Zp3).1 = (i : Int))) = (ksL L).countP (fun k => decide (((psA rs).getD k Zp3).1 = (i : Int)))) ∧
    (qDw (ptL D rs L) i (rs.getD i (qla qba)) = true → fD (i : Int) (ptL D rs L) (zD (rs.getD i (qla qba))) = D i) := by
  have hk : ∀ k ∈ ksL L, k < (psA rs).length := fun k hk => by
    obtain ⟨q, hq, rfl⟩ := List.mem_map.1 hk
    have := hL q hq
    omega
  have hw := quA (qhb h.val) h.sz h.sum h.bts 16 (by decide) (ksL L) hk i hi
  have hc := (qxC (fun k => decide (((psA rs).getD k Zp3).1 = (i : Int))) (psA rs).length 0 (ksL L) hp (fun k hk' => by have := hk k hk'; omega)).2
  refine ⟨hw.1.trans (Iff.trans ?_ ⟨fun e => e.symm, fun e => e.symm⟩), hw.2⟩
  refine Iff.trans ?_ hc.symm
  constructor
  · intro f k _ h2 h3
    rw [decide_eq_true_eq] at h3
    exact f k (by unfold psA at h2; omega) h3
  · intro f k h1 h2
    exact f k (Nat.zero_le _) (by unfold psA; omega) (by rw [decide_eq_true_eq]; exact h2)
end Go.Ab

/-
  Members: the reference's Check and Of.
-/
set_option linter.unusedVariables false
set_option linter.unusedSimpArgs false
set_option maxRecDepth 10000
namespace Go.Ab
open Go
attribute [local irreducible] IntKind.wrap
def qYA (m : qia) : qaa := (m.1, ((m.2.1.length : Int), (qGg m.2.1, ())))
def recs (l : List qia) : List qaa := l.map qYA
structure MemsOK (l : List qia) : Prop where
  nm : ∀ m ∈ l, m.1.size ≤ 9223372036854775807
  ln : ∀ m ∈ l, m.2.1.length ≤ 140737488355328
  bt : ∀ m ∈ l, Bts m.2.1
theorem qGl (l : List qia) {i : Nat} (h : i < l.length) : l.drop i = l.getD i (qla T_api_Member) :: l.drop (i + 1) ∧ l.getD i (qla T_api_Member) ∈ l ∧ l.take (i + 1) = l.take i ++ [l.getD i (qla T_api_Member)] :=
  ⟨(qDa (qla T_api_Member) h).1, (qDa (qla T_api_Member) h).2.2, (qDa (qla T_api_Member) h).2.1⟩
theorem qMd (l : List qia) : (recs l).length = l.length := List.length_map ..
theorem qtj : ∀ l : List qia, 0 ≤ tot (recs l)
  | [] => Int.le_refl _
  | m :: l => by
    have := qtj l
    show 0 ≤ (m.2.1.length : Int) + tot (recs l)
    omega
theorem qFt (l : List qia) (i : Nat) (h : i < l.length) : (l.getD i (qla T_api_Member)).1 = (names (recs l)).getD i ByteArray.empty := by
  unfold names recs
  rw [List.map_map, List.getD_eq_getElem?_getD, List.getD_eq_getElem?_getD, List.getElem?_map, List.getElem?_eq_getElem h]
  rfl
theorem qjp (l : List qia) : (names (recs l)).length = l.length := by unfold names; rw [List.length_map, qMd]
theorem qhz (l : List qia) (hn : l.length ≤ 16) (i : Nat) (hi : i < l.length) : ∀ (k j : Nat), j + k = i → qvc l (i : Int) (j : Int) = if qCw ((names (recs l)).getD i ByteArray.empty) (((names (recs l)).take i).drop j) then some 14 else qWa l ((i : Int) + 1)
  | 0, j, e => by
    have hd : ((names (recs l)).take i).drop j = [] := List.drop_eq_nil_of_le (by rw [List.length_take]; omega)
    rw [qgf, if_neg (by simp; omega), hd, w64 (by omega) (by omega)]
    simp [qCw]
  | k + 1, j, e => by
    have hl' : Int.ofNat l.length = (l.length : Int) := rfl
    have hnl := qjp l
    have ih := qhz l hn i hi k (j + 1) (by omega)
    rw [show ((j + 1 : Nat) : Int) = (j : Int) + 1 by omega] at ih
    rw [qgf, if_pos (by simp; omega), qea (by omega), qea (by rw [hl']; omega), qea (by omega), qea (by rw [hl']; omega), Int.toNat_natCast, Int.toNat_natCast, qFt l j (by omega), qFt l i hi, w64 (x := (j : Int) + 1) (by omega) (by omega), ih, qBv (j := j) (i := i) (by omega) (by omega), qUG]
    by_cases h : (names (recs l)).getD j ByteArray.empty = (names (recs l)).getD i ByteArray.empty
    · rw [decide_eq_true h, decide_eq_true h.symm]; simp
    · rw [decide_eq_false h, decide_eq_false (fun e => h e.symm)]; simp
theorem qiz (l : List qia) (hn : l.length ≤ 16) : ∀ (k i : Nat), i + k = l.length → qWa l (i : Int) = some (if qAx ((names (recs l)).take i) ((names (recs l)).drop i) then 14 else 0)
  | 0, i, e => by
    have hnl := qjp l
    rw [qhf, if_neg (by simp; omega), List.drop_eq_nil_of_le (by omega)]; rfl
  | k + 1, i, e => by
    have hnl := qjp l
    obtain ⟨d1, d2⟩ := qFu (xs := names (recs l)) (i := i) (by omega)
    have ih := qiz l hn k (i + 1) (by omega)
    rw [show ((i + 1 : Nat) : Int) = (i : Int) + 1 by omega] at ih
    have h3 := qhz l hn i (by omega) i 0 (by omega)
    rw [qhf, if_pos (by simp; omega)]
    refine Eq.trans h3 ?_
    rw [ih, List.drop_zero, d1, qAx, ← d2]
    cases qCw ((names (recs l)).getD i ByteArray.empty) ((names (recs l)).take i) <;> simp
theorem qjz (l : List qia) (hM : MemsOK l) (hn : l.length ≤ 16) : ∀ (k i : Nat), i + k = l.length → qtb l (i : Int) = if (l.drop i).all (fun m => qGz m.1) = true then qWa l 0 else some 8
  | 0, i, e => by
    rw [qif, if_neg (by simp; omega), List.drop_eq_nil_of_le (by omega)]
    rfl
  | k + 1, i, e => by
    have hl' : Int.ofNat l.length = (l.length : Int) := rfl
    obtain ⟨d1, d2, d3⟩ := qGl l (i := i) (by omega)
    have ih := qjz l hM hn k (i + 1) (by omega)
    rw [show ((i + 1 : Nat) : Int) = (i : Int) + 1 by omega] at ih
    rw [qif, if_pos (by simp; omega), qea (by omega), qea (by rw [hl']; omega), Int.toNat_natCast, d1, qBk _ (hM.nm _ d2), Option.bind_some, w64 (x := (i : Int) + 1) (by omega) (by omega), ih, List.all_cons]
    cases qGz (l.getD i (qla T_api_Member)).1 with
    | false => rfl
    | true => rw [Bool.true_and]; rfl
theorem qkz (l : List qia) (hM : MemsOK l) (hn : l.length ≤ 16) : ∀ (k i : Nat) (acc : Int), i + k = l.length → 0 ≤ acc → acc ≤ 140737488355328 * i → qwc l acc (i : Int) = if acc + tot (recs (l.drop i)) > 8192 then some 4 else qtb l 0
  | 0, i, acc, e, a0, a1 => by
    rw [qjf, if_neg (by simp; omega), List.drop_eq_nil_of_le (by omega)]
    have : tot (recs []) = 0 := rfl
    rw [this, Int.add_zero]
    by_cases h : acc > 8192
    · rw [if_pos (by simpa using h), if_pos h]
    · rw [if_neg (by simpa using h), if_neg h]
  | k + 1, i, acc, e, a0, a1 => by
    have hl' : Int.ofNat l.length = (l.length : Int) := rfl
    obtain ⟨d1, d2, d3⟩ := qGl l (i := i) (by omega)
    have hln := hM.ln _ d2
    have ih := fun a h0 h1 => qkz l hM hn k (i + 1) a (by omega) h0 h1
    rw [show ((i + 1 : Nat) : Int) = (i : Int) + 1 by omega] at ih
    rw [qjf, if_pos (by simp; omega), qea (by omega), qea (by rw [hl']; omega), Int.toNat_natCast, d1]
    simp only [Int.ofNat_eq_natCast]
    rw [w64 (x := (i : Int) + 1) (by omega) (by omega), w64 (by omega) (by omega), ih _ (by omega) (by omega)]
    have e2 : tot (recs (l.getD i (qla T_api_Member) :: l.drop (i + 1))) = ((l.getD i (qla T_api_Member)).2.1.length : Int) + tot (recs (l.drop (i + 1))) := rfl
    rw [e2, Int.add_assoc]
def mck (l : List qia) : Int := if l.length > 16 then 4 else if tot (recs l) > 8192 then 4 else if l.all (fun m => qGz m.1) = true then (if qAx [] (names (recs l)) then 14 else 0) else 8
theorem qwi (l : List qia) (hM : MemsOK l) : qGa l = some (mck l) := by
  have hl' : Int.ofNat l.length = (l.length : Int) := rfl
  rw [qil, hl', mck]
  by_cases h : l.length > 16
  · rw [if_pos (by simp; omega), if_pos h]
  · have h1 := qkz l hM (by omega) l.length 0 0 (by omega) (Int.le_refl _) (Int.le_refl _)
    have h2 := qjz l hM (by omega) l.length 0 (by omega)
    have h3 := qiz l (by omega) l.length 0 (by omega)
    rw [List.drop_zero] at h1 h2 h3
    rw [if_neg (by simp; omega), if_neg h]
    refine Eq.trans h1 ?_
    rw [Int.zero_add]
    by_cases ht : tot (recs l) > 8192
    · rw [if_pos ht, if_pos ht]
    · rw [if_neg ht, if_neg ht]
      refine Eq.trans h2 ?_
      by_cases ha : l.all (fun m => qGz m.1) = true
      · rw [if_pos ha, if_pos ha]
        exact h3
      · rw [if_neg ha, if_neg ha]
theorem qYx : ∀ (l : List qia) (acc : Int) (nm : List ByteArray), l.all (fun m => qGz m.1) = true → 0 ≤ acc → acc + tot (recs l) ≤ 8192 → qAx [] (nm ++ names (recs l)) = false → vld acc nm (recs l) = 0
  | [], acc, nm, h1, h2, h3, h4 => by
    have e : tot (recs []) = 0 := rfl
    have e2 : names (recs []) = [] := rfl
    rw [e] at h3
    rw [e2, List.append_nil] at h4
    show (if acc > 8192 then 4 else if qAx [] nm then 14 else 0) = 0
    rw [if_neg (by omega), if_neg (by rw [h4]; decide)]
  | m :: l, acc, nm, h1, h2, h3, h4 => by
    rw [List.all_cons, Bool.and_eq_true] at h1
    have e : tot (recs (m :: l)) = (m.2.1.length : Int) + tot (recs l) := rfl
    have hn := qtj l
    rw [e] at h3
    have hb : ¬ qVu (qYA m) = true := by
      unfold qVu
      have hs : (qYA m).2.1 = (m.2.1.length : Int) := rfl
      rw [show (qYA m).1 = m.1 from rfl, h1.1, hs, decide_eq_false (by omega), decide_eq_false (by omega)]
      by_cases h0 : m.2.1.length = 0
      · have : m.2.1 = [] := List.length_eq_zero_iff.1 h0
        have e3 : (qYA m).2.2.1 = qGg [] := by show qGg m.2.1 = _; rw [this]
        rw [e3]
        have : peq (.arr 20 (.int .u8)) (qGg []) (qGg []) = true := qWt _
        rw [this]; simp
      · have : (((m.2.1.length : Nat) : Int) == 0) = false := by rw [beq_eq_false_iff_ne]; omega
        rw [this]; simp
    show (if qVu (qYA m) then 8 else vld (acc + (qYA m).2.1) (nm ++ [(qYA m).1]) (recs l)) = 0
    rw [if_neg hb]
    refine qYx l _ _ h1.2 (by show 0 ≤ acc + (m.2.1.length : Int); omega) (by show acc + (m.2.1.length : Int) + tot (recs l) ≤ 8192; omega) ?_
    rw [List.append_assoc]
    exact h4
def qAc (l : List qia) (i : Nat) : List Int := (l.getD i (qla T_api_Member)).2.1
theorem qeu (l : List qia) (i : Nat) (h : i < l.length) : (recs l).getD i (qla qba) = qYA (l.getD i (qla T_api_Member)) := by
  unfold recs
  rw [List.getD_eq_getElem?_getD, List.getElem?_map, List.getElem?_eq_getElem h, List.getD_eq_getElem?_getD, List.getElem?_eq_getElem h]
  rfl
theorem qYy {l : List qia} (hM : MemsOK l) (h : mck l = 0) : Arc (qAc l) (recs l) ∧ l.length ≤ 16 ∧ tot (recs l) ≤ 8192 := by
  unfold mck at h
  by_cases h1 : l.length > 16
  · rw [if_pos h1] at h; cases h
  rw [if_neg h1] at h
  by_cases h2 : tot (recs l) > 8192
  · rw [if_pos h2] at h; cases h
  rw [if_neg h2] at h
  by_cases h3 : l.all (fun m => qGz m.1) = true
  · rw [if_pos h3] at h
    have h4 : qAx [] (names (recs l)) = false := by
      cases hd : qAx [] (names (recs l)) with
      | false => rfl
      | true => rw [hd] at h; cases h
    refine ⟨⟨?_, fun r hr => ?_, fun i hi => ?_, fun i hi => ?_, fun i => ?_⟩, by omega, by omega⟩
    · unfold qGe
      rw [qMd, if_neg h1]
      exact qYx l 0 [] h3 (Int.le_refl _) (by omega) h4
    · obtain ⟨m, hm, rfl⟩ := List.mem_map.1 hr
      exact ⟨qqf _, qMq _⟩
    · rw [qMd] at hi
      rw [qeu l i hi]; rfl
    · rw [qMd] at hi
      rw [qeu l i hi]; rfl
    · exact qRv (P := fun m : qia => Bts m.2.1) hM.bt Bts.nil i
  · rw [if_neg h3] at h; cases h
theorem qQC (l : List qia) (hM : MemsOK l) (hn : l.length ≤ 16) (hs : tot (recs l) ≤ 8192) : ∀ (k i : Nat), i + k = l.length → qod l (i : Int) (recs (l.take i)) = some (recs l, 0)
  | 0, i, e => by
    rw [qTg, if_neg (by simp; omega), List.take_of_length_le (by omega)]
  | k + 1, i, e => by
    have hl' : Int.ofNat l.length = (l.length : Int) := rfl
    obtain ⟨d1, d2, d3⟩ := qGl l (i := i) (by omega)
    have ih := qQC l hM hn hs k (i + 1) (by omega)
    have hmem : ∀ (l : List qia) (m : qia), m ∈ l → (m.2.1.length : Int) ≤ tot (recs l) := by
      intro l
      induction l with
      | nil => intro m hm; cases hm
      | cons x l ih =>
        intro m hm
        have e : tot (recs (x :: l)) = (x.2.1.length : Int) + tot (recs l) := rfl
        have hnn := qtj l
        rw [e]
        rcases List.mem_cons.1 hm with rfl | hm
        · omega
        · have := ih m hm; omega
    have hml := hmem l _ d2
    have hrec : qOe (l.getD i (qla T_api_Member)) = some (qYA (l.getD i (qla T_api_Member))) := by
      rw [qnk, qJs _ (by omega)]; rfl
    have ht : recs (l.take (i + 1)) = recs (l.take i) ++ [qYA (l.getD i (qla T_api_Member))] := by
      rw [d3]; unfold recs; rw [List.map_append]; rfl
    have hrl : (recs (l.take i)).length = i := by rw [qMd, List.length_take]; omega
    rw [ht, show ((i + 1 : Nat) : Int) = (i : Int) + 1 by omega] at ih
    rw [qTg, if_pos (by simp; omega), qea (by omega), qea (by rw [hl']; omega), Int.toNat_natCast, hrec, Option.bind_some, qea (by rw [List.length_append, hrl]; show (i + 1) * 48 ≤ _; omega), w64 (x := (i : Int) + 1) (by omega) (by omega), ih]
theorem qPC (l : List qia) (hM : MemsOK l) (h : mck l = 0) : qRh l = some (recs l, 0) := by
  obtain ⟨_, hn, hs⟩ := qYy hM h
  rw [qLo, qwi l hM, Option.bind_some, if_neg (by rw [h]; decide)]
  exact qQC l hM hn hs l.length 0 (by omega)
end Go.Ab

/-
  The reference's candidates.
-/
set_option linter.unusedVariables false
set_option linter.unusedSimpArgs false
set_option maxRecDepth 10000
namespace Go.Ab
open Go
attribute [local irreducible] IntKind.wrap
theorem qLs (a : List Int) (hb : Bts a) (hl : a.length ≤ 50000) : qSb a = some (rdK a) := by
  rw [qdg]
  simp only [Int.ofNat_eq_natCast, List.nil_append]
  unfold rdK
  rw [if_neg (show ¬ a.length > 50000 by omega)]
  by_cases h1 : a.length < 41
  · rw [if_pos h1]
    exact Tot.eq (Tot.ifd_pos (by omega) (Tot.so rfl))
  · rw [if_neg h1]
    have hp := qZj ((a.drop 13).take 28) ((hb.drop 13).take 28)
    have hs := qMC a (by omega) (i := 0) (by omega)
    rw [show ((0 : Nat) : Int) = 0 from rfl, List.drop_zero] at hs
    have hpq := qwD a (by omega)
    rw [hpq] at hp
    refine Tot.eq (Tot.ifd_neg (by omega) (Tot.g (by decide) (Tot.g (by decide) (Tot.g (by omega) (Tot.be hp (Tot.be hs ?_))))))
    by_cases h13 : qto a
    · rw [decide_eq_true h13]
      refine Tot.ifn (fun k => absurd k (by decide)) (fun _ => ?_)
      by_cases ok : hOK (pH ((a.drop 13).take 28))
      · rw [if_pos ok]
        have hlen := qCf ok
        rw [if_neg (show ¬ (a.take 13 ≠ mark ∨ ¬ hOK (pH ((a.drop 13).take 28))) from fun h => h.elim (fun h => h h13) (fun h => h ok))]
        simp only
        generalize pH ((a.drop 13).take 28) = h at *
        simp (disch := omega) only [w64 (x := (a.length : Int) - 41), w64 (x := 41 + h.2.2.2.2.1)]
        by_cases h2 : (a.length : Int) < 41 + h.2.2.2.2.1
        · rw [if_pos h2]
          exact Tot.ifne_neg rfl (Tot.ifd_pos (by omega) (Tot.so rfl))
        · rw [if_neg h2]
          have e : (41 + h.2.2.2.2.1).toNat - 41 = h.2.2.2.2.1.toNat := by omega
          rw [e]
          exact Tot.ifne_neg rfl (Tot.ifd_neg (by omega) (Tot.g (by decide) (Tot.g (by omega) (Tot.g (by omega) (Tot.g (by rw [List.length_take, List.length_drop]; omega) (Tot.so rfl))))))
      · rw [if_neg ok, if_pos (show a.take 13 ≠ mark ∨ ¬ hOK (pH ((a.drop 13).take 28)) from Or.inr ok)]
        exact Tot.ifne_pos (by decide) (Tot.so rfl)
    · rw [decide_eq_false h13, if_pos (show a.take 13 ≠ mark ∨ ¬ hOK (pH ((a.drop 13).take 28)) from Or.inl h13)]
      exact Tot.ifn (fun _ => Tot.so rfl) (fun k => absurd k (by decide))
theorem qcx (b : List Int) : ∀ (n k j : Nat), k ≤ j → j < k + n → qto (b.drop j) → (j : Int) ∈ pls b n k
  | 0, k, j, h1, h2, h => by omega
  | n + 1, k, j, h1, h2, h => by
    unfold pls
    by_cases hj : j = k
    · subst hj
      rw [if_pos h]; exact List.mem_cons_self
    · have := qcx b n (k + 1) j (by omega) (by omega) h
      split
      · exact List.mem_cons_of_mem _ this
      · exact this
def cnd (x : List Int) : List Int → List qoa
  | [] => []
  | p :: ps => if (rdK (x.drop p.toNat)).2.2 = 0 then (rdK (x.drop p.toNat)).1 :: cnd x ps else cnd x ps
theorem qzC (x : List Int) : ∀ ps : List Int, (cnd x ps).length ≤ ps.length
  | [] => Nat.le_refl _
  | p :: ps => by
    have := qzC x ps
    rw [cnd]
    split
    · simp only [List.length_cons]; omega
    · simp only [List.length_cons]; omega
theorem qyC (x : List Int) : ∀ (ps : List Int) (p : Int), p ∈ ps → (rdK (x.drop p.toNat)).2.2 = 0 → (rdK (x.drop p.toNat)).1 ∈ cnd x ps
  | [], p, h, _ => by cases h
  | q :: ps, p, h, hr => by
    rw [cnd]
    rcases List.mem_cons.1 h with rfl | h
    · rw [if_pos hr]; exact List.mem_cons_self
    · have := qyC x ps p h hr
      split
      · exact List.mem_cons_of_mem _ this
      · exact this
theorem qYC (x : List Int) (hb : Bts x) (hl : x.length ≤ 50000) (ps : List Int) (hp : ∀ p ∈ ps, 0 ≤ p ∧ p ≤ x.length) (hpl : ps.length ≤ 50000) : ∀ (k i : Nat) (h8 : List qoa), i + k = ps.length → h8.length ≤ i → qPa x (i : Int) h8 ps = some (h8 ++ cnd x (ps.drop i))
  | 0, i, h8, e, h => by
    rw [qfd, if_neg (by simp; omega), List.drop_eq_nil_of_le (by omega), cnd, List.append_nil]
  | k + 1, i, h8, e, h => by
    have hd := qDa (0 : Int) (xs := ps) (i := i) (by omega)
    have hpi := hp _ hd.2.2
    have ih := fun h8 h => qYC x hb hl ps hp hpl k (i + 1) h8 (by omega) h
    rw [show ((i + 1 : Nat) : Int) = (i : Int) + 1 by omega] at ih
    rw [qfd]
    simp only [Int.ofNat_eq_natCast, Nat.zero_add, Int.toNat_natCast]
    rw [hd.1, cnd, w64 (x := (i : Int) + 1) (by omega) (by omega)]
    generalize ps.getD i 0 = p at *
    refine Tot.eq (Tot.ifd_pos (by omega) (Tot.g (by omega) (Tot.g (by omega) (Tot.g hpi.1 (Tot.g hpi.2 (Tot.be (qLs _ (hb.drop _) (by rw [List.length_drop]; omega)) ?_))))))
    by_cases hr : (rdK (x.drop p.toNat)).2.2 = 0
    · rw [if_pos hr]
      refine Tot.ifeq_pos hr (Tot.g (by rw [List.length_append, List.length_singleton]; omega) (Tot.of_eq (ih _ (by rw [List.length_append, List.length_singleton]; omega)) ?_))
      rw [List.append_assoc]; rfl
    · rw [if_neg hr]
      exact Tot.ifeq_neg hr (Tot.of_eq (ih _ (by omega)) rfl)
theorem qdo (x : List Int) : ∀ (n k : Nat), (pls x n k).length ≤ n
  | 0, k => Nat.le_refl _
  | n + 1, k => by
    have := qdo x n (k + 1)
    unfold pls
    split
    · simp only [List.length_cons]; omega
    · omega
def plA (x : List Int) : List Int := pls x x.length 0
theorem qlE (x : List Int) : ∀ p ∈ plA x, ∃ j : Nat, p = j ∧ j < x.length ∧ qto (x.drop j) := fun p hp => by
  obtain ⟨j, e, _, h, k⟩ := qbx x x.length 0 p hp
  exact ⟨j, e, by omega, k⟩
theorem qXC (x : List Int) (hb : Bts x) (hl : x.length ≤ 50000) : qZc x = some (cnd x (plA x)) := by
  rw [qVh, qNC x (by omega), Option.bind_some]
  have hpl := qdo x x.length 0
  exact qYC x hb hl (plA x) (fun p hp => by obtain ⟨j, e, h, _⟩ := qlE x p hp; omega) (by unfold plA; omega) (plA x).length 0 [] (by omega) (Nat.le_refl _)
theorem qFz (x : List Int) (h : (cnd x (plA x)).any (fun b => decide (b.1.1 = 2)) = false) : qMp x := by
  intro j hr
  have hk := qwr hr
  have hj : j < x.length := by
    have := hk.1
    rw [List.length_drop] at this
    omega
  have hm := qyC x (plA x) (j : Int) (qcx x x.length 0 j (Nat.zero_le _) (by omega) hk.2.2.1) (by rw [Int.toNat_natCast]; exact hr)
  rw [Int.toNat_natCast] at hm
  have hn := List.any_eq_false.1 h _ hm
  rw [decide_eq_true_eq] at hn
  rcases hk.2.2.2.1.2.2.2.2.2.2 with h | h
  · exact h.1
  · exact absurd h.1 hn
end Go.Ab

/-
  Archives of stored blocks: what the law makes, and what its calls answer.
-/
set_option linter.unusedVariables false
set_option linter.unusedSimpArgs false
set_option maxRecDepth 10000
namespace Go.Ab
open Go
attribute [local irreducible] IntKind.wrap
theorem qUC (l : List qia) : ∀ (k i : Nat), i + k = 31 → Tot (qVa l (i : Int)) fun g => g = false → l.length ≤ 30 ∧ ∀ m ∈ l.drop i, m.2.1.length ≤ 10000 := by
  have fin : ∀ i : Nat, (31 ≤ i ∨ l.length ≤ i) → Tot (some (decide ((l.length : Int) > 30))) fun g => g = false → l.length ≤ 30 ∧ ∀ m ∈ l.drop i, m.2.1.length ≤ 10000 := fun i hi => Tot.so (fun e => by
    have h := of_decide_eq_false e
    refine ⟨by omega, fun m hm => ?_⟩
    rw [List.drop_of_length_le (by omega)] at hm
    cases hm)
  intro k
  induction k with
  | zero =>
    intro i e
    rw [qff]
    exact Tot.ifd (fun _ => Tot.ifd_neg (by omega) (fin i (by omega))) (fun _ => fin i (by omega))
  | succ k ih =>
    intro i e
    have ih := ih (i + 1) (by omega)
    rw [show ((i + 1 : Nat) : Int) = (i : Int) + 1 by omega] at ih
    rw [qff]
    simp only [Int.ofNat_eq_natCast, Int.toNat_natCast]
    rw [w64 (x := (i : Int) + 1) (by omega) (by omega)]
    refine Tot.ifd (fun h => ?_) (fun h => fin i (by omega))
    obtain ⟨d1, d2, d3⟩ := qGl l (i := i) (by omega)
    refine Tot.ifd_pos (by omega) (Tot.g (by omega) (Tot.g h ?_))
    refine Tot.ifd (fun _ => Tot.so (fun e => by cases e)) (fun _ => Tot.g (by omega) (Tot.g h ?_))
    refine Tot.ifd (fun _ => Tot.so (fun e => by cases e)) (fun hle => Tot.g (by omega) (Tot.g h ?_))
    have nx : Tot (qVa l ((i : Int) + 1)) fun g => g = false → l.length ≤ 30 ∧ ∀ m ∈ l.drop i, m.2.1.length ≤ 10000 := ih.mono (fun g hg e => ⟨(hg e).1, fun m hm => by
      rw [d1] at hm
      rcases List.mem_cons.1 hm with rfl | hm
      · omega
      · exact (hg e).2 m hm⟩)
    refine Tot.ifd (fun _ => Tot.g (by omega) (Tot.g h ?_)) (fun _ => nx)
    exact Tot.ifd (fun _ => Tot.so (fun e => by cases e)) (fun _ => nx)
theorem qby : ∀ (a : List qia) (m : qia), tot (recs (a ++ [m])) = tot (recs a) + (m.2.1.length : Int)
  | [], m => by show (m.2.1.length : Int) + 0 = 0 + (m.2.1.length : Int); omega
  | x :: a, m => by
    have := qby a m
    show (x.2.1.length : Int) + tot (recs (a ++ [m])) = (x.2.1.length : Int) + tot (recs a) + (m.2.1.length : Int)
    omega
theorem qZD : ∀ (l : List qia), (∀ m ∈ l, m.2.1.length ≤ 10000) → tot (recs l) ≤ 10000 * l.length
  | [], h => Int.le_refl _
  | x :: l, h => by
    have h1 := h x List.mem_cons_self
    have := qZD l (fun m hm => h m (List.mem_cons_of_mem _ hm))
    show (x.2.1.length : Int) + tot (recs l) ≤ 10000 * ((l.length + 1 : Nat) : Int)
    omega
theorem qqF (l : List qia) (hnm : ∀ m ∈ l, m.1.size ≤ 9223372036854775807) (hbt : ∀ m ∈ l, Bts m.2.1) : ∀ (k i : Nat) (acc : Int), i + k = 30 → ((∀ m ∈ l, m.2.1.length ≤ 10000) → acc = tot (recs (l.take i))) → Tot (qqc l acc (i : Int)) fun g => g = true → (∀ m ∈ l, m.2.1.length ≤ 10000) ∧ (mck l = 0 → tot (recs l) ≤ 80) := by
  have hG : Tot (quc l) fun g => g = false → l.length ≤ 30 ∧ ∀ m ∈ l, m.2.1.length ≤ 10000 := by
    rw [qhl]
    have := qUC l 31 0 (by omega)
    rw [List.drop_zero] at this
    exact this
  have fin : ∀ (i : Nat) (acc : Int), l.length ≤ i → ((∀ m ∈ l, m.2.1.length ≤ 10000) → acc = tot (recs (l.take i))) → Tot (if (decide ((l.length : Int) ≤ 30)) = true then (quc l).bind fun (r3 : (Bool)) => if (not r3) = true then if (decide (acc ≤ 80)) = true then some (true) else (qGa l).bind fun (r4 : (Int)) => some (r4 != 0) else some (false) else some (false)) fun g => g = true → (∀ m ∈ l, m.2.1.length ≤ 10000) ∧ (mck l = 0 → tot (recs l) ≤ 80) := by
    intro i acc hi hacc
    rw [List.take_of_length_le hi] at hacc
    refine Tot.ifd (fun _ => Tot.b hG (fun r hr => Tot.ifn (fun h0 => ?_) (fun _ => Tot.so (fun h => by cases h)))) (fun _ => Tot.so (fun h => by cases h))
    have hall := (hr h0).2
    have hM : MemsOK l := ⟨hnm, fun m hm => by have := hall m hm; omega, hbt⟩
    have ha := hacc hall
    exact Tot.ifd (fun h => Tot.so (fun _ => ⟨hall, fun _ => by omega⟩)) (fun _ => Tot.be (qwi l hM) (Tot.so (fun h => ⟨hall, fun k => by rw [k] at h; exact absurd h (by decide)⟩)))
  intro k
  induction k with
  | zero =>
    intro i acc e ha
    rw [qZe]
    simp only [Int.ofNat_eq_natCast]
    refine Tot.ifd (fun h => Tot.ifd_neg (by omega) (Tot.ifd_neg (by omega) (Tot.so (fun h => by cases h)))) (fun h => fin i acc (by omega) ha)
  | succ k ih =>
    intro i acc e ha
    rw [qZe]
    simp only [Int.ofNat_eq_natCast, Int.toNat_natCast]
    refine Tot.ifd (fun h => Tot.ifd_pos (by omega) (Tot.g (by omega) (Tot.g h ?_))) (fun h => fin i acc (by omega) ha)
    obtain ⟨d1, d2, d3⟩ := qGl l (i := i) (by omega)
    rw [w64 (x := (i : Int) + 1) (by omega) (by omega), show (i : Int) + 1 = ((i + 1 : Nat) : Int) by omega]
    refine ih (i + 1) _ (by omega) (fun hall => ?_)
    have h1 := ha hall
    have h2 := hall _ d2
    have h3 := qZD (l.take i) (fun m hm => hall m (List.mem_of_mem_take hm))
    have h4 := qtj (l.take i)
    rw [List.length_take] at h3
    rw [d3, qby, w64 (by omega) (by omega), h1]
theorem qlA (l : List qia) (hnm : ∀ m ∈ l, m.1.size ≤ 9223372036854775807) (hbt : ∀ m ∈ l, Bts m.2.1) : ∃ g, qHf l = some g ∧ (g = true → MemsOK l ∧ (mck l = 0 → tot (recs l) ≤ 80)) := by
  have := qqF l hnm hbt 30 0 0 (by omega) (fun _ => rfl)
  rw [qZk]
  obtain ⟨g, h1, h2⟩ := this
  exact ⟨g, h1, fun a => ⟨⟨hnm, fun m hm => by have := (h2 a).1 m hm; omega, hbt⟩, (h2 a).2⟩⟩
theorem qgD (l : List qia) (i : Nat) (h : i < l.length) : szs (recs (l.take (i + 1))) = szs (recs (l.take i)) ++ [((l.getD i (qla T_api_Member)).2.1.length : Int)] := by
  rw [(qGl l h).2.2]
  unfold szs recs
  rw [List.map_append, List.map_append]
  rfl
theorem qPt (l : List qia) (hn : l.length ≤ 16) : ∀ (k i : Nat), i + k = l.length → qGb l (i : Int) (szs (recs (l.take i))) = some (szs (recs l))
  | 0, i, e => by
    rw [qYd, if_neg (by simp; omega), List.take_of_length_le (by omega)]
  | k + 1, i, e => by
    have hl' : Int.ofNat l.length = (l.length : Int) := rfl
    have ih := qPt l hn k (i + 1) (by omega)
    rw [qgD l i (by omega), show ((i + 1 : Nat) : Int) = (i : Int) + 1 by omega] at ih
    have hsl : (szs (recs (l.take i))).length = i := by rw [qhg, qMd, List.length_take]; omega
    rw [qYd, if_pos (by simp; omega), qea (by omega), qea (by rw [hl']; omega), Int.toNat_natCast]
    simp only [Int.ofNat_eq_natCast]
    rw [qea (by rw [List.length_append, hsl]; show (i + 1) * 8 ≤ _; omega), w64 (x := (i : Int) + 1) (by omega) (by omega), ih]
theorem qGE (l : List qia) (h : Arc (qAc l) (recs l)) (hn : l.length ≤ 16) (ps : List qfa) (hp : ∀ p ∈ ps, p ∈ psA (recs l)) (hl : ps.length ≤ 10000) : ∀ (k i : Nat) (out : List qra), i + k = ps.length → out.length = i → qad l (i : Int) ps out = some (out ++ (ps.drop i).map (ptD (qAc l)), 0)
  | 0, i, out, e, ho => by
    rw [qcg, if_neg (by simp; omega), List.drop_eq_nil_of_le (by omega), List.map_nil, List.append_nil]
  | k + 1, i, out, e, ho => by
    have hd := qDa (qla qga : qfa) (xs := ps) (i := i) (by omega)
    obtain ⟨a, b, c, d, f, g⟩ := h.piece (hp _ hd.2.2)
    have ih := fun out ho => qGE l h hn ps hp hl k (i + 1) out (by omega) ho
    rw [show ((i + 1 : Nat) : Int) = (i : Int) + 1 by omega] at ih
    rw [qcg]
    simp only [Int.ofNat_eq_natCast, Nat.zero_add, Int.toNat_natCast, List.nil_append]
    rw [hd.1, List.map_cons, w64 (x := (i : Int) + 1) (by omega) (by omega)]
    generalize ps.getD i (qla qga) = p at *
    obtain ⟨i1, i2, i3, i4, i5⟩ := a
    rw [Int.sub_zero] at i5
    rw [qMd] at i2
    have hm := qeu l p.1.toNat (by omega)
    have hmm : (recs l).getD p.1.toNat (qla qba) ∈ recs l := quh (P := fun r => r ∈ recs l) (fun r hr => hr) _ (by rw [qMd]; omega)
    have hsz := ((qhb h.val).each _ hmm).2.1
    rw [hm] at i5 hsz
    have i5' : p.2.1 + p.2.2.1 ≤ ((l.getD p.1.toNat (qla T_api_Member)).2.1.length : Int) := i5
    rw [w64 (x := p.2.1 + p.2.2.1) (by omega) (by omega), show (p.2.1 + p.2.2.1).toNat - p.2.1.toNat = p.2.2.1.toNat by omega]
    have e2 : (p, ((List.take p.2.2.1.toNat (List.drop p.2.1.toNat (l.getD p.1.toNat (qla T_api_Member)).2.1)), ())) = ptD (qAc l) p := rfl
    rw [e2]
    refine Tot.eq (Tot.ifd_pos (by omega) (Tot.g (by omega) (Tot.g (by omega) (Tot.g (by omega) (Tot.g (by omega) (Tot.g (by omega) (Tot.g (by omega) (Tot.g (by omega) (Tot.g (by omega) (Tot.g (by omega) (Tot.g (by omega) (Tot.g (by omega) (Tot.g (by omega) (Tot.g (by omega) (Tot.g (by omega) (Tot.g (by omega) (Tot.g ?_ (Tot.g ?_ (Tot.of_eq (ih (out ++ [ptD (qAc l) p]) (by rw [List.length_append, List.length_singleton]; omega)) ?_)))))))))))))))))))
    · rw [List.length_take, List.length_drop]; omega
    · rw [List.length_append, List.length_singleton]; omega
    · rw [List.append_assoc]; rfl
theorem qYD (l : List qia) (hM : MemsOK l) (hc : mck l = 0) (ht : tot (recs l) ≤ 80) : qdh l 16 = some ((psA (recs l)).map (ptD (qAc l)), 0) := by
  obtain ⟨hA, hn, _⟩ := qYy hM hc
  have hV := qhb hA.val
  have hlen := (hA.len ht).2.2
  have h1 := qPt l hn l.length 0 (by omega)
  have h2 := qRw 16 (recs l) (by decide) hV (recs l).length 0 [] (by omega) (by show (0 : Int) ≤ _; omega)
  have h3 := qGE l hA hn (psA (recs l)) (fun p hp => hp) (by omega) (psA (recs l)).length 0 [] (by omega) rfl
  rw [List.drop_zero, List.nil_append] at h2 h3
  have hB : qsc 16 = some true := by
    rw [qHd]
    exact Tot.eq (Tot.ifd_pos (by decide) (Tot.so rfl))
  have hL : qme l = some (szs (recs l)) := by rw [qTj]; exact h1
  have hP : qRb (szs (recs l)) 16 = some (psA (recs l)) := by rw [qbg]; exact h2
  rw [qvn]
  exact Tot.eq (Tot.be (qwi l hM) (Tot.ifne_neg hc (Tot.be hB (Tot.ifn (fun k => absurd k (by decide)) (fun _ => Tot.be hL (Tot.be hP (Tot.of_eq h3 rfl)))))))
theorem qSC {a1 a2 : Int} {z : List Int} (hl : z.length ≤ 5000) : qUd a1 a2 z z = some (qzi a1 a2 z) := by
  rw [qhm]
  simp only [Int.ofNat_eq_natCast, List.nil_append]
  exact Tot.eq (Tot.g (by omega) (Tot.ifd_neg (by omega) (Tot.be (qbo _ ⟨by show (0:Int) ≤ 1; decide, by show (1:Int) < 256; decide⟩ (by omega)) (Tot.so rfl))))
theorem qzw {b : qoa} (hw : bWf b) (hl : b.2.1.length ≤ 5000) : qSf b = some (bB b) := by
  have h1 : (mark ++ hB b.1).length = 41 := by unfold hB; simp only [List.length_append, qdb, qjn, hw.2]
  rw [qml]
  exact Tot.eq (Tot.be qah (Tot.be (qrq b.1 hw.1 hw.2) (Tot.g (by omega) (Tot.g (by rw [List.length_append]; omega) (Tot.so rfl)))))
theorem qTC (bs : List qoa) (hb : ∀ b ∈ bs, bWf b ∧ b.2.1.length ≤ 5000) (hl : bs.length ≤ 10000) : ∀ (k i : Nat) (out : List Int), i + k = bs.length → out.length ≤ 10000 + 6000 * i → qHc bs (i : Int) out = some (out ++ qCs (bs.drop i))
  | 0, i, out, e, ho => by
    rw [qIf, if_neg (by simp; omega), List.drop_eq_nil_of_le (by omega), qCs, List.append_nil]
  | k + 1, i, out, e, ho => by
    have hd := qDa (qla qwa : qoa) (xs := bs) (i := i) (by omega)
    have hx := hb _ hd.2.2
    have ih := fun out ho => qTC bs hb hl k (i + 1) out (by omega) ho
    rw [show ((i + 1 : Nat) : Int) = (i : Int) + 1 by omega] at ih
    rw [qIf]
    simp only [Int.ofNat_eq_natCast, Int.toNat_natCast]
    rw [hd.1, qCs, w64 (x := (i : Int) + 1) (by omega) (by omega)]
    generalize bs.getD i (qla qwa) = x at *
    have hxl := qDs hx.1
    refine Tot.eq (Tot.ifd_pos (by omega) (Tot.g (by omega) (Tot.g (by omega) (Tot.be (qzw hx.1 hx.2) (Tot.g (by rw [List.length_append]; omega) (Tot.of_eq (ih _ (by rw [List.length_append]; omega)) ?_))))))
    rw [List.append_assoc]
theorem qbv (l : List qia) (h : Arc (qAc l) (recs l)) (ht : tot (recs l) ≤ 80) : ∀ (k i : Nat), i + k = (psA (recs l)).length → qYb (i : Int) (recs l) ((psA (recs l)).map (ptD (qAc l))) (((psA (recs l)).take i).map (stB (qAc l))) = some (qJp (qAc l) (recs l))
  | 0, i, e => by
    have hV := qhb h.val
    have hlen := h.len ht
    have hh := qXw sA (recs l) hV h.sums
    have hhl : (qIh sA (recs l)).length = 28 + (qMa (recs l)).length := qro
    have hbw : ∀ b ∈ (psA (recs l)).map (stB (qAc l)), bWf b ∧ b.2.1.length ≤ 5000 := fun b hb => by
      obtain ⟨p, hp, rfl⟩ := List.mem_map.1 hb
      obtain ⟨a, b, c, d, f, g⟩ := h.piece hp
      exact ⟨qRe _ _ _, by have := c.2.2.2.1; show (ptD (qAc l) p).2.1.length ≤ 5000; omega⟩
    have hj := qTC ((psA (recs l)).map (stB (qAc l))) hbw (by rw [List.length_map]; omega) ((psA (recs l)).map (stB (qAc l))).length 0 (qIh sA (recs l)) (by omega) (by omega)
    have hJ : qog (qIh sA (recs l)) ((psA (recs l)).map (stB (qAc l))) = some (qJp (qAc l) (recs l)) := by
      rw [qVl, List.nil_append]
      refine Tot.eq (Tot.g (by omega) (Tot.of_eq hj ?_))
      rw [List.drop_zero]; rfl
    rw [qye, List.take_of_length_le (by omega)]
    simp only [Int.ofNat_eq_natCast, List.length_map]
    exact Tot.eq (Tot.ifd_neg (by omega) (Tot.be hh (Tot.be hJ (Tot.so rfl))))
  | k + 1, i, e => by
    have hlen := h.len ht
    have hd := qDa (qla qga : qfa) (xs := psA (recs l)) (i := i) (by omega)
    obtain ⟨a, b, c, d, f, g⟩ := h.piece hd.2.2
    have ih := qbv l h ht k (i + 1) (by omega)
    rw [show ((i + 1 : Nat) : Int) = (i : Int) + 1 by omega, hd.2.1, List.map_append, List.map_cons, List.map_nil] at ih
    have hg : ((psA (recs l)).map (ptD (qAc l))).getD i (qla qya) = ptD (qAc l) ((psA (recs l)).getD i (qla qga)) := by
      rw [List.getD_eq_getElem?_getD, List.getElem?_map, List.getElem?_eq_getElem (show i < (psA (recs l)).length by omega), List.getD_eq_getElem?_getD, List.getElem?_eq_getElem (show i < (psA (recs l)).length by omega)]
      rfl
    rw [qye]
    simp only [Int.ofNat_eq_natCast, Int.toNat_natCast, Nat.zero_add, List.length_map]
    rw [hg, w64 (x := (i : Int) + 1) (by omega) (by omega)]
    generalize (psA (recs l)).getD i (qla qga) = p at *
    have hm : qUd (ptD (qAc l) p).1.1 (ptD (qAc l) p).1.2.1 (ptD (qAc l) p).2.1 (ptD (qAc l) p).2.1 = some (stB (qAc l) p) := qSC (by have := c.2.2.2.1; omega)
    exact Tot.eq (Tot.ifd_pos (by omega) (Tot.g (by omega) (Tot.g (by omega) (Tot.g (by omega) (Tot.g (by omega) (Tot.g (by omega) (Tot.g (by omega) (Tot.g (by omega) (Tot.g (by omega) (Tot.be hm (Tot.g (by rw [List.length_append, List.length_map, List.length_take, List.length_singleton]; omega) (Tot.of_eq ih rfl))))))))))))
theorem qLw (l : List qia) (hM : MemsOK l) (hc : mck l = 0) (ht : tot (recs l) ≤ 80) : qPe l = some (qJp (qAc l) (recs l)) := by
  obtain ⟨hA, hn, _⟩ := qYy hM hc
  have := qbv l hA ht (psA (recs l)).length 0 (by omega)
  rw [qqk]
  exact Tot.eq (Tot.be (qPC l hM hc) (Tot.be (qYD l hM hc ht) (Tot.of_eq this rfl)))
theorem qWy : ∀ (D : Nat → List Int) (ps : List qfa), (∀ i, Bts (D i)) → Bts (qCs (ps.map (stB D)))
  | D, [], h => Bts.nil
  | D, p :: ps, h => by
    have h1 : Bts (bB (stB D p)) := by
      have hf : Bts (fr8 (stB D p).1) := qrx _
      exact Bts.append (Bts.append qRq (Bts.append hf (qMq _))) (((h _).drop _).take _)
    exact Bts.append h1 (qWy D ps h)
theorem Arc.abts {D : Nat → List Int} {rs : List qaa} (h : Arc D rs) : Bts (qJp D rs) := Bts.append (qPv _ _ h.sums) (qWy D _ h.bts)
theorem qRA : ∀ (hs : List qda) (a : Int) (k : Nat), k < hs.length → (rgs a hs).getD k Zp = (0, ((plc a hs).getD k 0, (41 + (hs.getD k (qla qma)).2.2.2.2.1, ())))
  | [], a, k, h => by cases h
  | g :: hs, a, 0, h => rfl
  | g :: hs, a, k + 1, h => by
    rw [rgs, plc, List.getD_cons_succ, List.getD_cons_succ, List.getD_cons_succ]
    exact qRA hs _ k (by simpa using h)
theorem qAw (b : List Int) (hr : List qka) (L : qta) (a : Int) (hs : List qda) (hL : L.2.2.1 = hs) (hl : hs.length ≤ 500) (hh : ∀ h ∈ hs, 1 ≤ h.2.2.2.2.1 ∧ h.2.2.2.2.1 ≤ 4096) : ∀ (k i : Nat), i + k = hs.length →
    qDe b hr (hs.length : Int) (i : Int) L ((rgs a hs).take i) (plc a hs) = (qDc (b.length : Int) hr).bind fun r4 => if (r4.2 != 0) = true then some ([], r4.2) else (qFd (rgs a hs) r4.1).bind fun r5 => some (r5, 0)
  | 0, i, e => by
    rw [qOh, if_neg (by rw [decide_eq_true_eq]; omega), List.take_of_length_le (by rw [qXm]; omega)]
    rfl
  | k + 1, i, e => by
    have hpl := qdx hs a
    have hrl := qXm hs a
    have hd := qDa Zp (xs := rgs a hs) (i := i) (by omega)
    have hz := qRA hs a i (by omega)
    have hm : hs.getD i (qla qma) ∈ hs := quh (P := fun h => h ∈ hs) (fun h k => k) i (by omega)
    have hb := hh _ hm
    have ih := qAw b hr L a hs hL hl hh k (i + 1) (by omega)
    rw [hd.2.1, hz, show ((i + 1 : Nat) : Int) = (i : Int) + 1 by omega] at ih
    rw [qOh, if_pos (by rw [decide_eq_true_eq]; omega)]
    simp only [Int.ofNat_eq_natCast, Nat.zero_add, Int.toNat_natCast]
    rw [hL, w64 (x := (i : Int) + 1) (by omega) (by omega), w64 (by omega) (by omega), qea (by omega), qea (by omega), qea (by omega), qea (by omega), qea (by rw [List.length_append, List.length_take, List.length_singleton]; omega)]
    exact ih
theorem Arc.heads {D : Nat → List Int} {rs : List qaa} (h : Arc D rs) : ∀ g ∈ (bsA D rs).map (·.1), 1 ≤ g.2.2.2.2.1 ∧ g.2.2.2.2.1 ≤ 4096 := fun g hg => by
  obtain ⟨x, hx, rfl⟩ := List.mem_map.1 hg
  obtain ⟨p, hp, rfl⟩ := List.mem_map.1 hx
  obtain ⟨a, b, c, d, f, g⟩ := h.piece hp
  have h1 := c.2.2.1
  have h2 := c.2.2.2.1
  show (1 : Int) ≤ ((ptD D p).2.1.length : Int) ∧ ((ptD D p).2.1.length : Int) ≤ 4096
  omega
theorem Arc.plcs {D : Nat → List Int} {rs : List qaa} (h : Arc D rs) (ht : tot rs ≤ 80) : qIj (sA, (rs, ((bsA D rs).map (·.1), ()))) = some (plc ((28 + (qMa rs).length : Nat) : Int) ((bsA D rs).map (·.1)), 0) := by
  have hV := qhb h.val
  have hRd := h.read ht
  obtain ⟨rs', q, hs', bs', hO⟩ := qoF h.abts (by rw [hRd])
  have he := hO.eq
  rw [hRd] at he
  have hl := qWD hO
  have e1 : (sH (qJp D rs), (rs', (hs', ()))) = (sA, (rs, ((bsA D rs).map (·.1), ()))) := (congrArg Prod.fst he).symm
  rw [e1] at hl
  have hR : RecsOK rs := ⟨by have := hV.len; omega, fun r hr => by have := (hV.each r hr).2.2; omega⟩
  rw [qyq (sA, (rs, ((bsA D rs).map (·.1), ()))) hR h.sums, if_pos hl]
  unfold qMF
  have := qCk rs h.sums
  simp only
  rw [show (28 : Int) + qLB rs = ((28 + (qMa rs).length : Nat) : Int) by omega]
theorem qWx {D : Nat → List Int} {rs : List qaa} (h : Arc D rs) (ht : tot rs ≤ 80) {hr : List qka} (hc : qRg hr = 0) : qNj (qJp D rs) hr = (qDc ((qJp D rs).length : Int) hr).bind fun r4 => if (r4.2 != 0) = true then some ([], r4.2) else (qFd (rgs ((28 + (qMa rs).length : Nat) : Int) ((bsA D rs).map (·.1))) r4.1).bind fun r5 => some (r5, 0) := by
  have hlen := h.len ht
  have hLs : qoo (qJp D rs) = some ((sA, (rs, ((bsA D rs).map (·.1), ()))), 0) := by rw [qdt _ h.abts, h.read ht]
  have hbl : ((bsA D rs).map (·.1)).length = (psA rs).length := by unfold bsA; rw [List.length_map, List.length_map]
  have hpl := qdx ((bsA D rs).map (·.1)) ((28 + (qMa rs).length : Nat) : Int)
  have hc1 := qAw (qJp D rs) hr (sA, (rs, ((bsA D rs).map (·.1), ()))) ((28 + (qMa rs).length : Nat) : Int) ((bsA D rs).map (·.1)) rfl (by omega) h.heads ((bsA D rs).map (·.1)).length 0 (by omega)
  rw [qCq, qmg, Option.bind_some, if_neg (by rw [hc]; decide), hLs, Option.bind_some, if_neg (show ¬ ((0 : Int) != 0) = true by decide), h.plcs ht, Option.bind_some]
  simp only [Int.ofNat_eq_natCast]
  rw [hpl]
  exact hc1
end Go.Ab

/-
  DamageSurvivors.
-/
set_option linter.unusedVariables false
set_option linter.unusedSimpArgs false
set_option maxRecDepth 10000
namespace Go.Ab
open Go
attribute [local irreducible] IntKind.wrap
theorem qQy (bs : List qoa) (hl : bs.length ≤ 100000) : ∀ (k i : Nat), i + k = bs.length → qzc (i : Int) bs = some ((bs.drop i).any (fun b => decide (b.1.1 = 2)))
  | 0, i, e => by
    rw [qmf, if_neg (by simp; omega), List.drop_eq_nil_of_le (by omega)]; rfl
  | k + 1, i, e => by
    have hd := qDa (qla qwa : qoa) (xs := bs) (i := i) (by omega)
    have ih := qQy bs hl k (i + 1) (by omega)
    rw [show ((i + 1 : Nat) : Int) = (i : Int) + 1 by omega] at ih
    rw [qmf]
    simp only [Int.ofNat_eq_natCast, Nat.zero_add, Int.toNat_natCast]
    rw [hd.1, List.any_cons, w64 (x := (i : Int) + 1) (by omega) (by omega)]
    generalize bs.getD i (qla qwa) = b at *
    refine Tot.eq (Tot.ifd_pos (by omega) (Tot.g (by omega) (Tot.g (by omega) (Tot.ifeq (fun h => Tot.so ?_) (fun h => Tot.of_eq ih ?_)))))
    · rw [decide_eq_true h]; rfl
    · rw [decide_eq_false h]; rfl
theorem qfA (x : List Int) (hb : Bts x) (hl : x.length ≤ 50000) : qYf x = some ((cnd x (plA x)).any (fun b => decide (b.1.1 = 2))) := by
  have h1 := qzC x (plA x)
  have h2 := qdo x x.length 0
  have h3 : (plA x).length ≤ x.length := h2
  rw [qul, qXC x hb hl, Option.bind_some]
  exact qQy (cnd x (plA x)) (by omega) (cnd x (plA x)).length 0 (by omega)
theorem qxw {b : qoa} (h1 : b.1.1 = 1) (hc : bC b = 0) : qeh 0 b = some (if qGg (fr8 b.1 ++ b.2.1) = b.1.2.2.2.2.2.1 then (b.2.1, 0) else ([], 22)) := by
  have ok : hOK b.1 ∧ (b.2.1.length : Int) = b.1.2.2.2.2.1 := by
    unfold bC at hc; split at hc
    · assumption
    · cases hc
  have hlen := qCf ok.1
  have hL : qRf 0 = some true := by
    rw [qkl]
    exact Tot.eq (Tot.ifd_pos (by decide) (Tot.so rfl))
  rw [qyn]
  simp only [List.nil_append]
  refine Tot.eq (Tot.be (qqq b) (Tot.ifne_neg hc (Tot.be hL (Tot.ifn (fun k => absurd k (by decide)) (fun _ => Tot.g (by omega) (Tot.ifeq_neg (by omega) (Tot.be (qbo b.1 (by omega) (by omega)) ?_)))))))
  by_cases hs : qGg (fr8 b.1 ++ b.2.1) = b.1.2.2.2.2.2.1
  · rw [if_pos hs, hs, qWt]
    exact Tot.ifn (fun k => absurd k (by decide)) (fun _ => Tot.so rfl)
  · have : peq (.arr 20 (.int .u8)) (qGg (fr8 b.1 ++ b.2.1)) b.1.2.2.2.2.2.1 = false := Bool.eq_false_iff.2 (fun h => hs (qEt (t := .arr 20 (.int .u8)) (by decide) h))
    rw [if_neg hs, this]
    exact Tot.ifn (fun _ => Tot.so rfl) (fun k => absurd k (by decide))
theorem qtH {x : List Int} (hb : Bts x) (hl : x.length ≤ 50000) (hN : qMp x) {j : Nat} (hj : j < x.length) (h13 : qto (x.drop j)) : Tot (qGf 0 x (j : Int)) fun r => ¬ r.2 > 0 → qFo 0 (x.drop j) = none := by
  have h183 := qHy h13
  rw [qIo]
  simp only [Int.ofNat_eq_natCast, Int.toNat_natCast]
  refine Tot.g (by omega) (Tot.g (by omega) (Tot.ifne_neg h183 (Tot.g (by omega) (Tot.g (by omega) (Tot.be (qLs _ (hb.drop _) (by rw [List.length_drop]; omega)) ?_)))))
  by_cases hr : (rdK (x.drop j)).2.2 = 0
  · have hk := qwr hr
    have hst := hN j hr
    have hbc := qhE hr
    have hbb : Bts (rdK (x.drop j)).1.2.1 := by rw [hk.2.2.2.2.2.2.1]; exact ((hb.drop _).drop _).take _
    have hraw := qLp (l := 0) (by decide) hst hbc hbb
    have hlen := qCf hk.2.2.2.1
    refine Tot.ifne_neg hr (Tot.be (qxw hst hbc) ?_)
    by_cases hs : qGg (fr8 (rdK (x.drop j)).1.1 ++ (rdK (x.drop j)).1.2.1) = (rdK (x.drop j)).1.1.2.2.2.2.2.1
    · rw [if_pos hs]
      refine Tot.ifne_neg rfl (Tot.so (fun hn => ?_))
      have := hk.2.2.2.2.1
      exact absurd (show (rdK (x.drop j)).2.1 > 0 by omega) hn
    · rw [if_neg hs] at hraw ⊢
      refine Tot.ifne_pos (by show (22 : Int) ≠ 0; decide) (Tot.so (fun _ => ?_))
      unfold qFo
      rw [if_pos ⟨h13, hr⟩, hraw]
      rfl
  · refine Tot.ifne_pos hr (Tot.so (fun _ => ?_))
    unfold qFo
    rw [if_neg (fun h => hr h.2)]
theorem qyG (l : List qia) (x : List Int) (b : List Int) (s : List qfa) (hs : s.length ≤ 1000) (pl : List Int) (hpl : pl.length ≤ 100000) (v : Nat) (hv : v < pl.length) : ∀ (k i : Nat) (f : Bool), i + k = s.length →
    qBa l true x (v : Int) f (i : Int) b s pl = (qGf 0 x (pl.getD v 0)).bind fun r13 => if (decide (r13.2 > 0)) = true then (if (not (f || (s.drop i).any (fun q => decide (q.2.1 = pl.getD v 0)))) = true then some true else qxa l true x ((v : Int) + 1) b s pl) else qxa l true x ((v : Int) + 1) b s pl
  | 0, i, f, e => by
    rw [qbc, if_neg (by simp; omega), List.drop_eq_nil_of_le (by omega), List.any_nil, Bool.or_false]
    simp only [Int.ofNat_eq_natCast, Nat.zero_add, Int.toNat_natCast]
    rw [w64 (x := (v : Int) + 1) (by omega) (by omega), qea (by omega), qea (by omega)]
  | k + 1, i, f, e => by
    have hd := qDa (qla qga : qfa) (xs := s) (i := i) (by omega)
    have ih := fun f => qyG l x b s hs pl hpl v hv k (i + 1) f (by omega)
    rw [show ((i + 1 : Nat) : Int) = (i : Int) + 1 by omega] at ih
    rw [qbc, if_pos (by simp; omega)]
    simp only [Int.ofNat_eq_natCast, Nat.zero_add, Int.toNat_natCast]
    rw [w64 (x := (i : Int) + 1) (by omega) (by omega), hd.1, List.any_cons]
    cases f with
    | true =>
      rw [if_pos rfl, ih true]
      simp only [Bool.true_or]
    | false =>
      rw [if_neg (by decide), qea (by omega), qea (by omega), qea (by omega), qea (by omega), ih]
      have e2 : ((s.getD i (qla qga)).2.1 == pl.getD v 0) = decide ((s.getD i (qla qga)).2.1 = pl.getD v 0) := rfl
      rw [e2]
      simp only [Bool.false_or]
theorem qzG (l : List qia) {x : List Int} (hb : Bts x) (hl : x.length ≤ 50000) (hN : qMp x) (b : List Int) (s : List qfa) (hs : s.length ≤ 1000)
    (fin : (∀ j, qFo 0 (x.drop j) ≠ none → ∃ q ∈ s, q.2.1 = (j : Int)) → Tot (qxa l true x ((plA x).length : Int) b s (plA x)) fun r => r = true) : ∀ (k i : Nat), i + k = (plA x).length → (∀ v, v < i → qFo 0 (x.drop ((plA x).getD v 0).toNat) ≠ none → ∃ q ∈ s, q.2.1 = (plA x).getD v 0) → Tot (qxa l true x (i : Int) b s (plA x)) fun r => r = true
  | 0, i, e, h => by
    have ei : i = (plA x).length := by omega
    rw [ei]
    refine fin (fun j hj => ?_)
    have h13 : qto (x.drop j) := by
      cases hc : qFo 0 (x.drop j) with
      | none => exact absurd hc hj
      | some c => exact (qEo hc).2.2
    have hlt : j < x.length := by
      have := qso h13
      rw [List.length_drop] at this
      omega
    have hm : (j : Int) ∈ plA x := qcx x x.length 0 j (Nat.zero_le _) (by omega) h13
    obtain ⟨v, hv, ev⟩ := List.mem_iff_getElem.1 hm
    have eg : (plA x).getD v 0 = j := by rw [List.getD_eq_getElem?_getD, List.getElem?_eq_getElem hv, ← ev]; rfl
    have := h v (by omega) (by rw [eg, Int.toNat_natCast]; exact hj)
    rw [eg] at this
    exact this
  | k + 1, i, e, h => by
    have h2 := qdo x x.length 0
    have h3 : (plA x).length ≤ x.length := h2
    have hm : (plA x).getD i 0 ∈ plA x := quh (P := fun p => p ∈ plA x) (fun p hp => hp) i (by omega)
    obtain ⟨j, ej, hj, h13⟩ := qlE x _ hm
    have c2 := qyG l x b s hs (plA x) (by omega) i (by omega) s.length 0 false (by omega)
    rw [List.drop_zero, Bool.false_or] at c2
    have ih := qzG l hb hl hN b s hs fin k (i + 1) (by omega)
    rw [show ((i + 1 : Nat) : Int) = (i : Int) + 1 by omega] at ih
    rw [qcc, if_pos (by simp; omega)]
    show Tot (qBa l true x (i : Int) false ((0 : Nat) : Int) b s (plA x)) _
    rw [c2, ej]
    have nx : (qFo 0 (x.drop j) ≠ none → ∃ q ∈ s, q.2.1 = (j : Int)) → Tot (qxa l true x ((i : Int) + 1) b s (plA x)) fun r => r = true := fun hq => ih (fun v hv hc => by
      by_cases hvi : v = i
      · rw [hvi, ej] at hc ⊢
        rw [Int.toNat_natCast] at hc
        exact hq hc
      · exact h v (by omega) hc)
    refine Tot.b (qtH hb hl hN hj h13) (fun r hr => Tot.ifd (fun hgt => Tot.ifn (fun _ => Tot.so rfl) (fun hsv => nx (fun _ => ?_))) (fun hle => nx (fun hc => absurd (hr hle) hc)))
    obtain ⟨q, hq, e2⟩ := List.any_eq_true.1 hsv
    exact ⟨q, hq, of_decide_eq_true e2⟩
theorem qMB (h : qda) : peq qma h h = true := by
  simp only [peq, decide_true, Bool.true_and, Bool.and_true]
  exact qDk (fun y => by simp) _
theorem qPB (D : Nat → List Int) (ps : List qfa) (k : Nat) (hk : k < ps.length) : ((ps.map (stB D)).map (·.1)).getD k (qla qma) = (stB D (ps.getD k Zp)).1 := by
  rw [List.map_map, List.getD_eq_getElem?_getD, List.getElem?_map, List.getElem?_eq_getElem hk, List.getD_eq_getElem?_getD, List.getElem?_eq_getElem hk]
  rfl
theorem qxG (l : List qia) {D : Nat → List Int} {rs : List qaa} (L : List qfa) (hL : ∀ q ∈ L, 0 ≤ q.1 ∧ q.1 < (psA rs).length ∧ 0 ≤ q.2.1 ∧ q.2.1 ≤ 50000) (hl : L.length ≤ 80) : ∀ (k i : Nat), i + k = L.length →
    qOa l true (i : Int) L (fdL D rs L) (sA, (rs, ((bsA D rs).map (·.1), ()))) = (qMc l (sA, (rs, ((bsA D rs).map (·.1), ()))) L (fdL D rs L)).bind fun r14 => some r14
  | 0, i, e => by
    rw [qac, if_neg (by simp; omega), if_pos rfl]
  | k + 1, i, e => by
    have hd := qDa (qla qga : qfa) (xs := L) (i := i) (by omega)
    have hq := hL _ hd.2.2
    have ih := qxG l (D := D) L hL hl k (i + 1) (by omega)
    rw [show ((i + 1 : Nat) : Int) = (i : Int) + 1 by omega] at ih
    have hfl : (fdL D rs L).length = L.length := List.length_map ..
    have hbl : ((bsA D rs).map (·.1)).length = (psA rs).length := by unfold bsA; rw [List.length_map, List.length_map]
    have hf : (fdL D rs L).getD i (qla qva) = fnd (svH D (psA rs) (L.getD i (qla qga))) := by
      unfold fdL
      rw [List.getD_eq_getElem?_getD, List.getElem?_map, List.getElem?_eq_getElem (show i < L.length by omega), List.getD_eq_getElem?_getD, List.getElem?_eq_getElem (show i < L.length by omega)]
      rfl
    have hh : ((bsA D rs).map (·.1)).getD (L.getD i (qla qga)).1.toNat (qla qma) = (fnd (svH D (psA rs) (L.getD i (qla qga)))).2.1 := qPB D (psA rs) _ (by omega)
    have hAt : (fnd (svH D (psA rs) (L.getD i (qla qga)))).1 = (L.getD i (qla qga)).2.1 := by
      show (((L.getD i (qla qga)).2.1.toNat : Nat) : Int) = _
      omega
    rw [qac]
    simp only [Int.ofNat_eq_natCast, Nat.zero_add, Int.toNat_natCast]
    rw [hf, hh, hAt, qMB, w64 (x := (i : Int) + 1) (by omega) (by omega)]
    generalize L.getD i (qla qga) = q at *
    rw [if_pos (by rw [decide_eq_true_eq]; omega), qea (by omega), qea (by omega), if_neg (by rw [decide_eq_true_eq]; omega), qea (by omega), qea (by omega), if_neg (by rw [decide_eq_true_eq]; omega), qea (by omega), qea (by omega), qea (by omega), qea (by omega), if_neg (by simp), qea (by omega), qea (by omega), qea (by omega), qea (by omega), qea (by omega), qea (by omega), if_neg (by decide)]
    exact ih
section
variable (l : List qia) (L : List qfa) (i : Nat) (m : List qia) (w : List Bool)
theorem quG {D : Nat → List Int} {rs : List qaa} (hN : (psA rs).length ≤ 1000) : ∀ (k j : Nat) (acc : Int), j + k = (psA rs).length → 0 ≤ acc → acc ≤ j →
    qfb l L (i : Int) acc 0 (j : Int) (sA, (rs, ((bsA D rs).map (·.1), ()))) m w = qHa l L (i : Int) (acc + ((List.range' j k).countP (fun k => decide (((psA rs).getD k Zp3).1 = (i : Int))) : Nat)) 0 0 (sA, (rs, ((bsA D rs).map (·.1), ()))) m w
  | 0, j, acc, e, a0, a1 => by
    have hbl : ((bsA D rs).map (·.1)).length = (psA rs).length := by unfold bsA; rw [List.length_map, List.length_map]
    rw [qce]
    simp only [Int.ofNat_eq_natCast]
    rw [if_neg (by rw [decide_eq_true_eq]; omega)]
    have : (List.range' j 0).countP (fun k => decide (((psA rs).getD k Zp3).1 = (i : Int))) = 0 := rfl
    rw [this]
    have e0 : acc + ((0 : Nat) : Int) = acc := by omega
    rw [e0]
  | k + 1, j, acc, e, a0, a1 => by
    have hbl : ((bsA D rs).map (·.1)).length = (psA rs).length := by unfold bsA; rw [List.length_map, List.length_map]
    have ih := fun acc a0 a1 => quG (D := D) hN k (j + 1) acc (by omega) a0 a1
    rw [show ((j + 1 : Nat) : Int) = (j : Int) + 1 by omega] at ih
    have hh : (((bsA D rs).map (·.1)).getD j (qla qma)).2.1 = ((psA rs).getD j Zp3).1 := congrArg (fun h : qda => h.2.1) (qPB D (psA rs) j (by omega))
    rw [qce]
    simp only [Int.ofNat_eq_natCast, Int.toNat_natCast, hh]
    rw [w64 (x := (j : Int) + 1) (by omega) (by omega), w64 (x := acc + 1) (by omega) (by omega), if_pos (by rw [decide_eq_true_eq]; omega), qea (by omega), qea (by omega), List.range'_succ, List.countP_cons]
    by_cases hc : ((psA rs).getD j Zp3).1 = (i : Int)
    · rw [if_pos (by rw [beq_iff_eq]; exact hc), if_pos (by rw [decide_eq_true_eq]; exact hc), ih _ (by omega) (by omega)]
      congr 1
      omega
    · rw [if_neg (by rw [beq_iff_eq]; exact hc), if_neg (by rw [decide_eq_true_eq]; exact hc), ih _ (by omega) (by omega)]
      congr 1
theorem qtG {D : Nat → List Int} {rs : List qaa} (hN : (psA rs).length ≤ 1000) (hL : ∀ q ∈ L, 0 ≤ q.1 ∧ q.1 < (psA rs).length ∧ 0 ≤ q.2.1 ∧ q.2.1 ≤ 50000) (hl : L.length ≤ 80) (A : Int) (R : Option Bool)
    (fin : qHa l L (i : Int) A ((ksL L).countP (fun k => decide (((psA rs).getD k Zp3).1 = (i : Int))) : Nat) (L.length : Int) (sA, (rs, ((bsA D rs).map (·.1), ()))) m w = R) : ∀ (k j : Nat) (acc : Nat), j + k = L.length → acc ≤ j → acc + (ksL (L.drop j)).countP (fun k => decide (((psA rs).getD k Zp3).1 = (i : Int))) = (ksL L).countP (fun k => decide (((psA rs).getD k Zp3).1 = (i : Int))) →
    qHa l L (i : Int) A (acc : Int) (j : Int) (sA, (rs, ((bsA D rs).map (·.1), ()))) m w = R
  | 0, j, acc, e, a1, hc => by
    rw [List.drop_eq_nil_of_le (by omega)] at hc
    have h0 : (ksL []).countP (fun k => decide (((psA rs).getD k Zp3).1 = (i : Int))) = 0 := rfl
    rw [h0, Nat.add_zero] at hc
    have ej : j = L.length := by omega
    rw [ej, hc]
    exact fin
  | k + 1, j, acc, e, a1, hc => by
    have hbl : ((bsA D rs).map (·.1)).length = (psA rs).length := by unfold bsA; rw [List.length_map, List.length_map]
    have hd := qDa (qla qga : qfa) (xs := L) (i := j) (by omega)
    have hq := hL _ hd.2.2
    have ih := fun acc a1 hc => qtG hN hL hl A R fin k (j + 1) acc (by omega) a1 hc
    rw [show ((j + 1 : Nat) : Int) = (j : Int) + 1 by omega] at ih
    have hh : (((bsA D rs).map (·.1)).getD (L.getD j (qla qga)).1.toNat (qla qma)).2.1 = ((psA rs).getD (L.getD j (qla qga)).1.toNat Zp3).1 := congrArg (fun h : qda => h.2.1) (qPB D (psA rs) _ (by omega))
    rw [hd.1] at hc
    have ek : ∀ (q : qfa) (r : List qfa), ksL (q :: r) = q.1.toNat :: ksL r := fun _ _ => rfl
    rw [ek, List.countP_cons] at hc
    rw [qbe]
    simp only [Int.ofNat_eq_natCast, Int.toNat_natCast, hh]
    rw [w64 (x := (j : Int) + 1) (by omega) (by omega), w64 (x := (acc : Int) + 1) (by omega) (by omega), if_pos (by rw [decide_eq_true_eq]; omega), qea (by omega), qea (by omega), qea (by omega), qea (by omega)]
    by_cases hq2 : ((psA rs).getD (L.getD j (qla qga)).1.toNat Zp3).1 = (i : Int)
    · rw [if_pos (by rw [decide_eq_true_eq]; exact hq2)] at hc
      rw [if_pos (by rw [beq_iff_eq]; exact hq2), show (acc : Int) + 1 = ((acc + 1 : Nat) : Int) by omega]
      exact ih (acc + 1) (by omega) (by omega)
    · rw [if_neg (by rw [decide_eq_true_eq]; exact hq2)] at hc
      rw [if_neg (by rw [beq_iff_eq]; exact hq2)]
      exact ih acc (by omega) (by omega)
end
end Go.Ab

/-
  DamageSurvivors: the law.
-/
set_option linter.unusedVariables false
set_option linter.unusedSimpArgs false
set_option maxRecDepth 10000
namespace Go.Ab
open Go
attribute [local irreducible] IntKind.wrap
theorem qaB (parts : List qra) : ∀ (q : List qaa) (i k : Nat), k < q.length → (qmy parts i q).getD k (qla T_api_Member) = qUF parts (i + k) (q.getD k (qla qba))
  | [], i, k, h => by cases h
  | r :: q, i, 0, h => rfl
  | r :: q, i, k + 1, h => by
    have := qaB parts q (i + 1) k (by simpa using h)
    rw [qmy, List.getD_cons_succ, List.getD_cons_succ, this, show i + 1 + k = i + (k + 1) by omega]
theorem qZA (parts : List qra) : ∀ (q : List qaa) (i k : Nat), k < q.length → (qly parts i q).getD k false = qDw parts (i + k) (q.getD k (qla qba))
  | [], i, k, h => by cases h
  | r :: q, i, 0, h => rfl
  | r :: q, i, k + 1, h => by
    have := qZA parts q (i + 1) k (by simpa using h)
    rw [qly, List.getD_cons_succ, List.getD_cons_succ, this, show i + 1 + k = i + (k + 1) by omega]
theorem qWw (parts : List qra) : ∀ (q : List qaa) (i : Nat), (qmy parts i q).length = q.length
  | [], _ => rfl
  | r :: q, i => by rw [qmy, List.length_cons, List.length_cons, qWw parts q]
theorem qVw (parts : List qra) : ∀ (q : List qaa) (i : Nat), (qly parts i q).length = q.length
  | [], _ => rfl
  | r :: q, i => by rw [qly, List.length_cons, List.length_cons, qVw parts q]
theorem qvG (l : List qia) (h : Arc (qAc l) (recs l)) (hn : l.length ≤ 16) (ht : tot (recs l) ≤ 80) (L : List qfa) (hL : ∀ q ∈ L, 0 ≤ q.1 ∧ q.1 < (psA (recs l)).length ∧ 0 ≤ q.2.1 ∧ q.2.1 ≤ 50000) (hl : L.length ≤ 80) (hp : (ksL L).Pairwise (· < ·)) : ∀ (k i : Nat), i + k = l.length →
    qgb l L (i : Int) (sA, (recs l, ((bsA (qAc l) (recs l)).map (·.1), ()))) (qmy (ptL (qAc l) (recs l) L) 0 (recs l)) (qly (ptL (qAc l) (recs l) L) 0 (recs l)) = some true
  | 0, i, e => by
    rw [qde, if_neg (by simp; omega)]
  | k + 1, i, e => by
    have hN := (h.len ht).2.2
    have ih := qvG l h hn ht L hL hl hp k (i + 1) (by omega)
    rw [show ((i + 1 : Nat) : Int) = (i : Int) + 1 by omega] at ih
    have hwc := qvA h hL hp i (by rw [qMd]; omega)
    have gM := qaB (ptL (qAc l) (recs l) L) (recs l) 0 i (by rw [qMd]; omega)
    have gW := qZA (ptL (qAc l) (recs l) L) (recs l) 0 i (by rw [qMd]; omega)
    rw [Nat.zero_add] at gM gW
    have hWl := qVw (ptL (qAc l) (recs l) L) (recs l) 0
    have hMl := qWw (ptL (qAc l) (recs l) L) (recs l) 0
    rw [qMd] at hWl hMl
    rw [qde, if_pos (by simp; omega)]
    have c2 := quG l L i (qmy (ptL (qAc l) (recs l) L) 0 (recs l)) (qly (ptL (qAc l) (recs l) L) 0 (recs l)) (D := qAc l) (rs := recs l) (by omega) (psA (recs l)).length 0 0 (by omega) (Int.le_refl _) (Int.le_refl _)
    refine c2.trans ?_
    rw [Int.zero_add]
    refine qtG l L i (qmy (ptL (qAc l) (recs l) L) 0 (recs l)) (qly (ptL (qAc l) (recs l) L) 0 (recs l)) (D := qAc l) (rs := recs l) (by omega) hL hl _ (some true) ?_ L.length 0 0 (by omega) (Nat.le_refl _) (by rw [List.drop_zero, Nat.zero_add])
    rw [qbe]
    simp only [Int.ofNat_eq_natCast, Int.toNat_natCast, Nat.zero_add]
    rw [gM, gW, w64 (x := (i : Int) + 1) (by omega) (by omega)]
    generalize hA : (List.range' 0 (psA (recs l)).length).countP (fun k => decide (((psA (recs l)).getD k Zp3).1 = (i : Int))) = A at *
    generalize hB : (ksL L).countP (fun k => decide (((psA (recs l)).getD k Zp3).1 = (i : Int))) = B at *
    have hAB : ((A : Int) == (B : Int)) = qDw (ptL (qAc l) (recs l) L) i ((recs l).getD i (qla qba)) := by
      by_cases hw : qDw (ptL (qAc l) (recs l) L) i ((recs l).getD i (qla qba)) = true
      · have := hwc.1.1 hw
        rw [hw, this, beq_iff_eq]
      · have hne : ¬ A = B := fun e => hw (hwc.1.2 e)
        rw [Bool.eq_false_iff.2 hw, beq_eq_false_iff_ne]
        omega
    rw [hAB]
    have hstr : qDw (ptL (qAc l) (recs l) L) i ((recs l).getD i (qla qba)) = true → (qUF (ptL (qAc l) (recs l) L) i ((recs l).getD i (qla qba))).2.1 = (l.getD i (qla T_api_Member)).2.1 := fun hw => hwc.2 hw
    refine Tot.eq (Tot.ifd_neg (by omega) (Tot.g (by omega) (Tot.g (by omega) (Tot.ifn (fun k => absurd k (by simp)) (fun _ => Tot.g (by omega) (Tot.g (by omega) ?_))))))
    by_cases hw : qDw (ptL (qAc l) (recs l) L) i ((recs l).getD i (qla qba)) = true
    · rw [if_pos hw, hstr hw]
      exact Tot.g (by omega) (Tot.g (by omega) (Tot.g (by omega) (Tot.g (by omega) (Tot.ifn (fun k => absurd k (by simp)) (fun _ => Tot.of_eq ih rfl)))))
    · rw [if_neg hw]
      exact Tot.of_eq ih rfl
theorem qmv (l : List qia) (h : Arc (qAc l) (recs l)) (hn : l.length ≤ 16) (ht : tot (recs l) ≤ 80) (L : List qfa) (hL : ∀ q ∈ L, 0 ≤ q.1 ∧ q.1 < (psA (recs l)).length ∧ 0 ≤ q.2.1 ∧ q.2.1 ≤ 50000) (hl : L.length ≤ 80) (hp : (ksL L).Pairwise (· < ·)) :
    qMc l (sA, (recs l, ((bsA (qAc l) (recs l)).map (·.1), ()))) L (fdL (qAc l) (recs l) L) = some true := by
  have hV := qhb h.val
  have hR : RecsOK (recs l) := ⟨by have := hV.len; omega, fun r hr => by have := (hV.each r hr).2.2; omega⟩
  have hreb := qMl (recs l) hR (fdL (qAc l) (recs l) L) (qwE h hL hl).1
  rw [qLG h hL hl] at hreb
  have hWl := qVw (ptL (qAc l) (recs l) L) (recs l) 0
  have hMl := qWw (ptL (qAc l) (recs l) L) (recs l) 0
  rw [qMd] at hWl hMl
  have c1 := qvG l h hn ht L hL hl hp l.length 0 (by omega)
  rw [qWj]
  simp only [Int.ofNat_eq_natCast]
  exact Tot.eq (Tot.be hreb (Tot.ifne_neg rfl (Tot.ifne_neg (by simp only; omega) (Tot.ifne_neg (by simp only; omega) (Tot.of_eq c1 rfl)))))
theorem qCF {a a' : List Int} {h : qka} (hv : HV h) (hb : Bts h.2.2.2.1) (ha : Bts a) (e : st fB a h = some a') : Bts a' := by
  unfold st at e
  unfold HV HVc at hv
  split at e
  · rename_i h1
    split at e
    · have := Option.some.inj e
      subst this
      intro x hx
      rcases List.mem_or_eq_of_mem_set hx with hx | hx
      · exact ha x hx
      · rw [hx]; show 0 ≤ h.2.2.1 ∧ h.2.2.1 < 256; omega
    · cases e
  · split at e
    · split at e
      · have := Option.some.inj e
        subst this
        exact Bts.append (ha.take _) (ha.drop _)
      · cases e
    · split at e
      · split at e
        · have := Option.some.inj e
          subst this
          refine Bts.append (Bts.append (ha.take _) ?_) (ha.drop _)
          intro x hx
          obtain ⟨y, hy, rfl⟩ := List.mem_map.1 hx
          exact hb y hy
        · cases e
      · split at e
        · have := Option.some.inj e
          subst this
          exact ha.take _
        · cases e
theorem qEA : ∀ {hs : List qka} {a a' : List Int}, (∀ h ∈ hs, HV h ∧ Bts h.2.2.2.1) → Bts a → sts fB a hs = some a' → Bts a'
  | [], a, a', h, ha, e => by
    have := Option.some.inj e
    subst this; exact ha
  | x :: hs, a, a', h, ha, e => by
    rw [sts] at e
    cases hx : st fB a x with
    | none => rw [hx] at e; cases e
    | some b =>
      rw [hx, Option.bind_some] at e
      have h1 := h x List.mem_cons_self
      exact qEA (fun q hq => h q (List.mem_cons_of_mem _ hq)) (qCF h1.1 h1.2 ha hx) e
theorem qnF {b : List Int} {hs : List qka} (hc : qRg hs = 0) (hb : Bts b) (hl : b.length ≤ 50000) (hh : ∀ h ∈ hs, Bts h.2.2.2.1) : Bts (app b hs).1 := by
  rw [qzE hc hl]
  have hv := (qkG hc).2
  cases e : sts fB b hs with
  | none => exact Bts.nil
  | some a => exact qEA (fun h hm => ⟨hv h hm, hh h hm⟩) hb e
theorem qrF (l : List qia) (hs : List qka) (hnm : ∀ m ∈ l, m.1.size ≤ 9223372036854775807) (hbt : ∀ m ∈ l, Bts m.2.1) (hhl : hs.length ≤ Go.maxLen) (hhb : ∀ h ∈ hs, Bts h.2.2.2.1) : qJb l hs = some true := by
  obtain ⟨g, hg, hgs⟩ := qlA l hnm hbt
  obtain ⟨g2, hg2⟩ := qoA hs hhl
  rw [qug]
  refine Tot.eq (Tot.be qjA (Tot.be hg (Tot.ifn (fun _ => Tot.so rfl) (fun h1 => ?_))))
  obtain ⟨hM, hsm⟩ := hgs h1
  refine Tot.be (qwi l hM) (Tot.ifne (fun _ => Tot.so rfl) (fun hm => Tot.be hg2 ?_))
  cases g2 with
  | true => exact Tot.ift_ (Tot.so rfl)
  | false =>
    refine Tot.iff_ (Tot.be (qSs hs) (Tot.ifne (fun _ => Tot.so rfl) (fun hc => Tot.ifn (fun k => absurd k (by decide)) (fun _ => ?_))))
    have ht := hsm hm
    obtain ⟨hA, hn, _⟩ := qYy hM hm
    have hlen := hA.len ht
    have hab := hA.abts
    have hbs := qWx hA ht hc
    rw [qzl] at hbs
    refine Tot.be (qLw l hM hm ht) (Tot.be (qRt _ hs) ?_)
    rw [hbs]
    rcases qmF (b := qJp (qAc l) (recs l)) hc (by omega) with ⟨e1, e2⟩ | ⟨cs, e1, e2, hgd, _, hcl⟩
    · rw [e1, e2]
      have eB : ((some (([] : List Int), (16 : Int))).bind fun r4 => if (r4.2 != 0) = true then some (([] : List qfa), r4.2) else (qFd (rgs ((28 + (qMa (recs l)).length : Nat) : Int) ((bsA (qAc l) (recs l)).map (·.1))) r4.1).bind fun r5 => some (r5, 0)) = some ([], 16) := rfl
      rw [eB]
      exact Tot.be rfl (Tot.ifne_pos (by decide) (Tot.ift_ (Tot.ifeq_pos rfl (Tot.so rfl))))
    · have hxb := qnF (b := qJp (qAc l) (recs l)) hc hab (by omega) hhb
      rw [e1] at hxb
      have hxl : (cs.map (fun c : qha => c.1)).length ≤ 50000 := by rw [List.length_map]; exact hcl
      have hsv := qAF hA ht hgd hcl
      have hrl := qXm ((bsA (qAc l) (recs l)).map (·.1)) ((28 + (qMa (recs l)).length : Nat) : Int)
      have hbl : ((bsA (qAc l) (recs l)).map (·.1)).length = (psA (recs l)).length := by unfold bsA; rw [List.length_map, List.length_map]
      have hdm := hA.dmg ht hgd hcl
      have hRG : ∀ p ∈ rgs ((28 + (qMa (recs l)).length : Nat) : Int) ((bsA (qAc l) (recs l)).map (·.1)), RG ((qJp (qAc l) (recs l)).length : Int) p := fun p hp => by
        obtain ⟨k, hk, ek⟩ := List.mem_iff_getElem.1 hp
        have eg : (rgs ((28 + (qMa (recs l)).length : Nat) : Int) ((bsA (qAc l) (recs l)).map (·.1))).getD k Zp = p := by
          rw [List.getD_eq_getElem?_getD, List.getElem?_eq_getElem hk, ← ek]; rfl
        have hbw : ∀ x ∈ (psA (recs l)).map (stB (qAc l)), bC x = 0 ∧ bWf x := fun x hx => by
          obtain ⟨q, hq, rfl⟩ := List.mem_map.1 hx
          exact ⟨qtk (hdm.ok q hq).1, qRe _ _ _⟩
        obtain ⟨pos, a1, a2, a3⟩ := qSA (qJp (qAc l) (recs l)) (by omega) ((psA (recs l)).map (stB (qAc l))) (28 + (qMa (recs l)).length) hbw hdm.lo hdm.bks k (by rw [List.length_map]; omega)
        have e3 : (rgs ((28 + (qMa (recs l)).length : Nat) : Int) ((bsA (qAc l) (recs l)).map (·.1))).getD k Zp = (0, ((pos : Int), (41 + (((psA (recs l)).map (stB (qAc l))).getD k zB).1.2.2.2.2.1, ()))) := a1
        rw [eg] at e3
        have hkp : k < (psA (recs l)).length := by omega
        rw [qeq (qAc l) (psA (recs l)) k hkp] at e3 a3
        have h3 := congrArg List.length a3
        rw [List.length_drop, List.length_append, show (bB (stB (qAc l) ((psA (recs l)).getD k Zp))).length = 41 + (stB (qAc l) ((psA (recs l)).getD k Zp)).2.1.length from qDs (qRe _ _ _)] at h3
        rw [e3]
        have hz : (stB (qAc l) ((psA (recs l)).getD k Zp)).1.2.2.2.2.1 = ((stB (qAc l) ((psA (recs l)).getD k Zp)).2.1.length : Int) := rfl
        rw [hz]
        unfold RG
        simp only
        have h3' : (qJp (qAc l) (recs l)).length - pos = 41 + (stB (qAc l) ((psA (recs l)).getD k Zp)).2.1.length + (qCs (((psA (recs l)).map (stB (qAc l))).drop (k + 1))).length := h3
        omega
      have hleft := qIv (cs.map (fun c : qha => c.2.1)) (by rw [List.length_map]; exact hcl) (rgs ((28 + (qMa (recs l)).length : Nat) : Int) ((bsA (qAc l) (recs l)).map (·.1))) (by omega) ((qJp (qAc l) (recs l)).length : Int) (by omega) hRG
      rw [e1, e2]
      have eB : ((some (cs.map (fun c : qha => c.2.1), (0 : Int))).bind fun r4 => if (r4.2 != 0) = true then some (([] : List qfa), r4.2) else (qFd (rgs ((28 + (qMa (recs l)).length : Nat) : Int) ((bsA (qAc l) (recs l)).map (·.1))) r4.1).bind fun r5 => some (r5, 0)) = some (svL (qAc l) (recs l) cs, 0) := by
        rw [Option.bind_some, if_neg (show ¬ ((0 : Int) != 0) = true by decide), hleft]; rfl
      rw [eB]
      have hcd := qfA _ hxb hxl
      refine Tot.be rfl (Tot.ifne_neg rfl (Tot.ifne_neg rfl (Tot.be hcd ?_)))
      cases hco : (cnd (cs.map (fun c : qha => c.1)) (plA (cs.map (fun c : qha => c.1)))).any (fun b => decide (b.1.1 = 2)) with
      | true => exact Tot.ift_ (Tot.so rfl)
      | false =>
        have hN := qFz _ hco
        refine Tot.iff_ (Tot.be (qNC (cs.map (fun c : qha => c.1)) (by omega)) ?_)
        have key := qzG l (x := cs.map (fun c : qha => c.1)) hxb hxl hN (qJp (qAc l) (recs l)) (svL (qAc l) (recs l) cs) (by omega) ?_ (plA (cs.map (fun c : qha => c.1))).length 0 (by omega) (fun v hv => by omega)
        · exact key
        · intro hno
          have hfound := hdm.found hno
          have hS := qTu (l := 0) (by decide) hxb hxl hN
          have hS2 : qrf 0 (cs.map (fun c : qha => c.1)) = some (fdL (qAc l) (recs l) (svL (qAc l) (recs l) cs), 0) := by rw [hS, hfound]; rfl
          have hLs : qSd (qJp (qAc l) (recs l)) = some ((sA, (recs l, ((bsA (qAc l) (recs l)).map (·.1), ()))), 0) := by rw [qBz _ hab, hA.read ht]
          have c3 := qxG l (D := qAc l) (rs := recs l) (svL (qAc l) (recs l) cs) hsv.1 hsv.2.1 (svL (qAc l) (recs l) cs).length 0 (by omega)
          have hrb := qmv l hA hn ht (svL (qAc l) (recs l) cs) hsv.1 hsv.2.1 hsv.2.2
          rw [hrb, Option.bind_some] at c3
          have hfl : (fdL (qAc l) (recs l) (svL (qAc l) (recs l) cs)).length = (svL (qAc l) (recs l) cs).length := List.length_map ..
          rw [qcc]
          simp only [Int.ofNat_eq_natCast]
          exact Tot.ifd_neg (by omega) (Tot.be hS2 (Tot.be hLs (Tot.ifne_neg rfl (Tot.ifne_neg rfl (Tot.ifne_neg (by simp only; omega) (Tot.of_eq c3 rfl))))))
theorem bitloftlaw35_DamageSurvivors_true (x0 : pden (.slice T_api_Member)) (z0 : wfP (.slice T_api_Member) x0) (x1 : pden (.slice T_api_Harm)) (z1 : wfP (.slice T_api_Harm) x1) : qJb x0 x1 = some true := by
  refine qrF x0 x1 (fun m hm => ?_) (fun m hm => Bts.of_wf (z0.2 m hm).2.1.2) z1.1 (fun h hh => Bts.of_wf (z1.2 h hh).2.2.2.1.2)
  have := (z0.2 m hm).1
  simp [wfP, Go.maxLen] at this
  omega
end Go.Ab
