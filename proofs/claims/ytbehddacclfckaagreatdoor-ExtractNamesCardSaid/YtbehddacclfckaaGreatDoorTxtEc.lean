/-
  An abstract machine over the model's code and its soundness; what the functions compute, as plain functions (printed by a program of this repo's own, checked here by the kernel); plain laws of them: part 3. Helper text, no statement of the claim stands here.
-/
import Derived.Test.YtbehddacclfckaaGreatDoorTxtEb
import Derived.Scope
import Derived.Conc.LoneCalls
import Derived.Laws.Externs
import Derived.Lib.MakeNoZero
import Derived.WalkKit
import Derived.ProofKit
import Derived.OpenShut
import Derived.ShutString
import Derived.ChangeOld
import Derived.Below
import Derived.SizedLaws
import Derived.LaidMore
import Derived.RangeFuncFrom
import Derived.RangeFuncLeaves
import Derived.RangeFuncCalls
import Derived.OrdersIn
import Derived.Shelf.Vars
/-
  Regions in any order that their edges allow.
-/
set_option linter.unusedVariables false
set_option linter.unusedSimpArgs false
namespace Go.Ab
open Go
def sel (L : Nat → Bool) : Nat → List (Oper × Ev) → St → St
  | _, [], σ => σ
  | i, p :: r, σ => sel L (i + 1) r (if L i then σ.put p.1.dst p.2 else σ)
theorem St.put_look {σ : St} {dst : Option Nat} {e : Ev} {d : Nat} : (σ.put dst e).look d = if dst = some d then e.v else σ.look d := by
  cases dst with
  | none => simp [St.look, St.put, qvC]
  | some d' =>
    simp only [St.look, St.put, qvC, lookL, Option.some.injEq]
    by_cases h : d' = d <;> simp [h]
theorem St.put_heap {σ : St} {dst : Option Nat} {e : Ev} {l : Nat} : qAb (σ.put dst e).heap l = match lookL e.upd l with
    | some o => o
    | none => qAb σ.heap l := by
  simp only [St.put, qBo, qbb]
  cases lookL e.upd l <;> rfl
theorem qVk {L : Nat → Bool} : ∀ {tr : List (Oper × Ev)} {i : Nat} {σ : St}, (∀ j, i ≤ j → L j = false) → sel L i tr σ = σ
  | [], _, _, _ => rfl
  | p :: r, i, σ, h => by
    simp only [sel, h i (Nat.le_refl _), Bool.false_eq_true, if_false]
    exact qVk (fun j hj => h j (by omega))
theorem qjn {L L' : Nat → Bool} {d : Nat} : ∀ {tr : List (Oper × Ev)} {i : Nat} {σ τ : St}, (∀ k p, tr[k]? = some p → L (i + k) ≠ L' (i + k) → p.1.dst ≠ some d) → σ.look d = τ.look d → (sel L i tr σ).look d = (sel L' i tr τ).look d
  | [], _, _, _, _, h => h
  | p :: r, i, σ, τ, h, h0 => by
    simp only [sel]
    refine qjn (fun k q hk hl => h (k + 1) q (by simpa using hk) (by rw [show i + (k + 1) = i + 1 + k by omega]; exact hl)) ?_
    have h1 := h 0 p rfl
    simp only [Nat.add_zero] at h1
    cases hL : L i <;> cases hL' : L' i <;> simp only [hL, hL', ne_eq, not_true_eq_false, Bool.false_eq_true, if_false, if_true, reduceCtorEq, not_false_eq_true, forall_const] at h1 ⊢
    · exact h0
    · rw [St.put_look, if_neg h1]; exact h0
    · rw [St.put_look, if_neg h1]; exact h0
    · rw [St.put_look, St.put_look, h0]
theorem qkn {L L' : Nat → Bool} {l : Nat} : ∀ {tr : List (Oper × Ev)} {i : Nat} {σ τ : St}, (∀ k p, tr[k]? = some p → L (i + k) ≠ L' (i + k) → lookL p.2.upd l = none) → qAb σ.heap l = qAb τ.heap l → qAb (sel L i tr σ).heap l = qAb (sel L' i tr τ).heap l
  | [], _, _, _, _, h => h
  | p :: r, i, σ, τ, h, h0 => by
    simp only [sel]
    refine qkn (fun k q hk hl => h (k + 1) q (by simpa using hk) (by rw [show i + (k + 1) = i + 1 + k by omega]; exact hl)) ?_
    have h1 := h 0 p rfl
    simp only [Nat.add_zero] at h1
    cases hL : L i <;> cases hL' : L' i <;> simp only [hL, hL', ne_eq, not_true_eq_false, Bool.false_eq_true, if_false, if_true, reduceCtorEq, not_false_eq_true, forall_const] at h1 ⊢
    · exact h0
    · rw [St.put_heap, h1]; exact h0
    · rw [St.put_heap, h1]; exact h0
    · rw [St.put_heap, St.put_heap, h0]
theorem qHn {L : Nat → Bool} {d : Nat} : ∀ {tr : List (Oper × Ev)} {i k : Nat} {σ : St} {p : Oper × Ev}, tr[k]? = some p → L (i + k) = true → p.1.dst = some d → (∀ k' q, k < k' → tr[k']? = some q → L (i + k') = true → q.1.dst ≠ some d) → (sel L i tr σ).look d = p.2.v
  | [], _, _, _, _, h, _, _, _ => by simp at h
  | q :: r, i, 0, σ, p, h, hL, hd, hl => by
    simp only [List.getElem?_cons_zero, Option.some.injEq] at h; subst h
    simp only [Nat.add_zero] at hL
    simp only [sel, hL, if_true]
    rw [qjn (L' := fun _ => false) (τ := σ.put q.1.dst q.2) (fun k' q' hk hn => ?_) rfl, qVk (fun _ _ => rfl), St.put_look, if_pos hd]
    refine hl (k' + 1) q' (by omega) (by simpa using hk) ?_
    rw [show i + (k' + 1) = i + 1 + k' by omega]
    simpa using hn
  | q :: r, i, k + 1, σ, p, h, hL, hd, hl => by
    simp only [sel]
    refine qHn (k := k) (by simpa using h) (by rw [show i + 1 + k = i + (k + 1) by omega]; exact hL) hd (fun k' q' hk hq hn => hl (k' + 1) q' (by omega) (by simpa using hq) ?_)
    rw [show i + (k' + 1) = i + 1 + k' by omega]; exact hn
theorem qIn {L : Nat → Bool} {l : Nat} {ob : Option Obj} : ∀ {tr : List (Oper × Ev)} {i k : Nat} {σ : St} {p : Oper × Ev}, tr[k]? = some p → L (i + k) = true → lookL p.2.upd l = some ob → (∀ k' q, k < k' → tr[k']? = some q → L (i + k') = true → lookL q.2.upd l = none) → qAb (sel L i tr σ).heap l = ob
  | [], _, _, _, _, h, _, _, _ => by simp at h
  | q :: r, i, 0, σ, p, h, hL, hd, hl => by
    simp only [List.getElem?_cons_zero, Option.some.injEq] at h; subst h
    simp only [Nat.add_zero] at hL
    simp only [sel, hL, if_true]
    rw [qkn (L' := fun _ => false) (τ := σ.put q.1.dst q.2) (fun k' q' hk hn => ?_) rfl, qVk (fun _ _ => rfl), St.put_heap, hd]
    refine hl (k' + 1) q' (by omega) (by simpa using hk) ?_
    rw [show i + (k' + 1) = i + 1 + k' by omega]
    simpa using hn
  | q :: r, i, k + 1, σ, p, h, hL, hd, hl => by
    simp only [sel]
    refine qIn (k := k) (by simpa using h) (by rw [show i + 1 + k = i + (k + 1) by omega]; exact hL) hd (fun k' q' hk hq hn => hl (k' + 1) q' (by omega) (by simpa using hq) ?_)
    rw [show i + (k' + 1) = i + 1 + k' by omega]; exact hn
section
variable {c : Cx} {P : Program} {GT : qvf} {H lk : qzb} {K : Kn} {w : World} {T : Nat → TV} {a : Act} {nl nt : Nat}
theorem qJn {L L' : Nat → Bool} : ∀ {tr : List (Oper × Ev)} {i : Nat} {σ : St}, (∀ k, k < tr.length → L (i + k) = L' (i + k)) → sel L i tr σ = sel L' i tr σ
  | [], _, _, _ => rfl
  | p :: r, i, σ, h => by
    have h0 := h 0 (by simp)
    simp only [Nat.add_zero] at h0
    simp only [sel, h0]
    exact qJn (fun k hk => by
      have := h (k + 1) (by simp; omega)
      rwa [show i + 1 + k = i + (k + 1) by omega])
theorem qzm {ops : List Oper} : ∀ (r : List Oper) (i : Nat) (σ σ' : St) (os os' : List Orc) (cs : List Prop) (tr : List (Oper × Ev)), qJi P GT nt ops i r σ os = some (σ', cs, os', tr) → qVe cs →
    σ' = sel (fun _ => true) i tr σ ∧ tr.map (·.1) = r ∧ ∀ k p, tr[k]? = some p → ∃ os1 os2 cs1, qcy P GT ops (keepT (p.1.looksAt ops.toArray) (sel (fun j => decide (j < i + k)) i tr σ).look) (qAb (sel (fun j => decide (j < i + k)) i tr σ).heap) (σ.next + 8 * (i + k)) (i + k) p.1 os1 = some (p.2, cs1, os2) ∧ qVe cs1 ∧ qdi nt p.1.dst = true
  | [], i, σ, σ', os, os', cs, tr, h, hc => by
    simp only [qJi, Option.some.injEq, Prod.mk.injEq] at h
    obtain ⟨rfl, rfl, rfl, rfl⟩ := h
    exact ⟨rfl, rfl, fun k p hk => by simp at hk⟩
  | o :: r, i, σ, σ', os, os', cs, tr, h, hc => by
    simp only [qJi] at h
    split at h
    · rename_i e c1 os1 hev
      split at h
      · rename_i hd
        split at h
        · rename_i σ2 c2 os2 tr2 hrest
          simp only [Option.some.injEq, Prod.mk.injEq] at h
          obtain ⟨rfl, rfl, rfl, rfl⟩ := h
          obtain ⟨hc1, hc2⟩ := qBg hc
          obtain ⟨h1, h2, h3⟩ := qzm r (i + 1) _ _ _ _ _ _ hrest hc2
          refine ⟨by simp only [sel, if_true]; exact h1, by simp [h2], fun k p hk => ?_⟩
          cases k with
          | zero =>
            simp only [List.getElem?_cons_zero, Option.some.injEq] at hk; subst hk
            rw [qVk (fun j hj => by simp; omega)]
            exact ⟨os, os1, c1, hev, hc1, hd⟩
          | succ k =>
            simp only [List.getElem?_cons_succ] at hk
            obtain ⟨o1, o2, c3, g1, g2, g3⟩ := h3 k p hk
            refine ⟨o1, o2, c3, ?_, g2, g3⟩
            have : sel (fun j => decide (j < i + (k + 1))) i ((o, e) :: tr2) σ = sel (fun j => decide (j < i + 1 + k)) (i + 1) tr2 (σ.put o.dst e) := by
              simp only [sel]
              rw [if_pos (by simp)]
              exact qJn (fun k' _ => by rw [show i + (k + 1) = i + 1 + k by omega])
            rw [this, show i + (k + 1) = i + 1 + k by omega]
            exact g1
        · cases h
      · cases h
    · cases h
theorem qrp {L : List Nat} {H H' : qzb} (h : ∀ l ∈ L, H l = H' l) : qWc H L = qWc H' L := by
  funext l
  unfold qWc
  split
  · rename_i hl
    exact h l (by simpa [List.contains_eq_mem] using hl)
  · rfl
theorem qaw {ops : List Oper} {H H' : qzb} {i : Nat} {o : Oper} {os os' : List Orc} {e : Ev} {cs : List Prop} (h : qcy P GT ops T H nl i o os = some (e, cs, os')) (hH : ∀ l ∈ e.need, H l = H' l) : qcy P GT ops T H' nl i o os = some (e, cs, os') := by
  unfold qcy at h ⊢
  split at h
  · rename_i hw
    unfold qUw at h ⊢
    split at h
    · rename_i oc os1 hoc
      simp only [hoc] at h ⊢
      split at h
      · rename_i out hout
        split at h
        · rename_i v c2 os2 hdec
          simp only [Option.some.injEq, Prod.mk.injEq] at h
          obtain ⟨rfl, rfl, rfl⟩ := h
          rw [← qrp hH, hout]
          simp only [hdec]
        · cases h
      · cases h
    · cases h
  · exact h
  · cases h
theorem qfo {acc : List Nat} {i : Nat} : ∀ {ps : List Nat}, (qQr acc ps).testBit i = true → ∃ p ∈ ps, i = p ∨ (acc.getD p 0).testBit i = true
  | [], h => by simp [qQr] at h
  | p :: ps, h => by
    simp only [qQr, Nat.testBit_or, Bool.or_eq_true] at h
    rcases h with (h | h) | h
    · refine ⟨p, List.mem_cons_self, .inl ?_⟩
      rw [Nat.one_shiftLeft, Nat.testBit_two_pow] at h
      have h9 : p = i := by simpa using h
      exact h9.symm
    · exact ⟨p, List.mem_cons_self, .inr h⟩
    · obtain ⟨q, h1, h2⟩ := qfo h
      exact ⟨q, List.mem_cons_of_mem _ h1, h2⟩
theorem qgp {L : Nat → Bool} : ∀ {ops : List Oper} {acc : List Nat}, (∀ j i, L j = true → (acc.getD j 0).testBit i = true → L i = true) → (∀ k o, ops[k]? = some o → L (acc.length + k) = true → ∀ i ∈ qsp o, L i = true) →
    ∀ j i, L j = true → ((qzB ops acc).getD j 0).testBit i = true → L i = true
  | [], acc, h, _, j, i, hj, hi => h j i hj hi
  | o :: ops, acc, h, hp, j, i, hj, hi => by
    simp only [qzB] at hi
    refine qgp (fun j i hj hi => ?_) (fun k o' hk hL i hi => hp (k + 1) o' (by simpa using hk) (by rw [List.length_append] at hL; simp at hL; rw [show acc.length + (k + 1) = acc.length + 1 + k by omega]; exact hL) i hi) j i hj hi
    by_cases h1 : j < acc.length
    · rw [List.getD_eq_getElem?_getD, List.getElem?_append_left h1, ← List.getD_eq_getElem?_getD] at hi
      exact h j i hj hi
    · by_cases h2 : j = acc.length
      · subst h2
        rw [List.getD_eq_getElem?_getD, List.getElem?_append_right (Nat.le_refl _)] at hi
        simp only [Nat.sub_self, List.getElem?_cons_zero, Option.getD_some] at hi
        obtain ⟨p, hp1, hp2⟩ := qfo hi
        have hLp := hp 0 o rfl hj p hp1
        rcases hp2 with rfl | hp2
        · exact hLp
        · exact h p i hLp hp2
      · rw [List.getD_eq_getElem?_getD, List.getElem?_eq_none (by simp; omega)] at hi
        simp at hi
def lst (listed : Array Bool) (j : Nat) : Bool := listed.getD j false
def cnt (n : Nat) (listed : Array Bool) : Nat := (List.range n).countP fun j => !lst listed j
theorem qbf {listed : Array Bool} {i j : Nat} (hi : i < listed.size) : lst (listed.setIfInBounds i true) j = (decide (j = i) || lst listed j) := by
  unfold lst
  by_cases h : j = i
  · subst h; simp [hi]
  · rw [getD_set_ne false (Ne.symm h)]; simp [h]
theorem qiB {n : Nat} {listed : Array Bool} {i : Nat} (hs : i < listed.size) (hi : lst listed i = false) : i < n → cnt n (listed.setIfInBounds i true) + 1 = cnt n listed := by
  induction n with
  | zero => intro h; omega
  | succ n ih =>
    intro hn
    simp only [cnt, List.range_succ, List.countP_append, List.countP_singleton] at ih ⊢
    by_cases h : i = n
    · subst h
      have : (List.range i).countP (fun j => !lst (listed.setIfInBounds i true) j) = (List.range i).countP (fun j => !lst listed j) := by
        apply List.countP_congr
        intro j hj
        have : j ≠ i := by have := List.mem_range.1 hj; omega
        rw [qbf hs]; simp [this]
      rw [this, qbf hs, hi]; simp
    · have := ih (by omega)
      rw [qbf hs (j := n)]
      simp only [show ¬ n = i from fun e => h e.symm, decide_false, Bool.false_or]
      omega
theorem qFz {n : Nat} {listed : Array Bool} (h : cnt n listed = 0) : ∀ j, j < n → lst listed j = true := by
  intro j hj
  have := List.countP_eq_zero.1 h j (List.mem_range.2 hj)
  simpa using this
theorem mem_preds {o : Oper} {i : Nat} : i ∈ qsp o ↔ ∃ e ∈ o.after, Region.binds .any e = true ∧ e.on = i := by
  simp only [qsp, List.mem_map, List.mem_filter, Array.mem_toList_iff]
  constructor
  · rintro ⟨e, ⟨h1, h2⟩, h3⟩; exact ⟨e, h1, h2, h3⟩
  · rintro ⟨e, h1, h2, h3⟩; exact ⟨e, ⟨h1, h2⟩, h3⟩
theorem apart_spec {ops : List Oper} {x y : Oper × Ev} (h : Ab.apart ops x y = true) :
    (Oper.apart ops.toArray x.1 y.1 = true) ∧ (∀ l ob, lookL x.2.upd l = some ob → l ∉ y.2.need ∧ lookL y.2.upd l = none) ∧ (∀ l ob, lookL y.2.upd l = some ob → l ∉ x.2.need ∧ lookL x.2.upd l = none) := by
  simp only [Ab.apart, Bool.and_eq_true, List.all_eq_true, Bool.not_eq_true', List.contains_eq_mem, decide_eq_false_iff_not, List.any_eq_false, beq_iff_eq] at h
  obtain ⟨⟨h1, h2⟩, h3⟩ := h
  have key : ∀ (u v : List (Nat × Option Obj)) (l : Nat), (∀ q ∈ v, ¬ q.1 = l) → lookL v l = none := by
    intro u v l h
    exact qYl (fun hm => by obtain ⟨q, h4, h5⟩ := List.mem_map.1 hm; exact h q h4 h5)
  refine ⟨h1, fun l ob hl => ?_, fun l ob hl => ?_⟩
  · have := h2 _ (qEb hl)
    exact ⟨this.1, key [] _ _ this.2⟩
  · refine ⟨h3 _ (qEb hl), ?_⟩
    cases hx : lookL x.2.upd l with
    | none => rfl
    | some ob' =>
      have := (h2 _ (qEb hx)).2 _ (qEb hl)
      exact absurd rfl this
theorem qFv {ops : Array Oper} {Q : Exit → Act → World → Prop} {σ σ' : St} {os os' : List Orc} {cs : List Prop} {tr : List (Oper × Ev)} {K0 : Kn}
    (h : qJi P GT nt ops.toList 0 ops.toList σ os = some (σ', cs, os', tr)) (hc : qVe cs) (hd : qYu ops.toList tr = true)
    (hQ : ∀ a' w' K', Rel c P GT nt σ'.look (qAb σ'.heap) K' a' w' → (∀ l, σ.next + 8 * ops.size ≤ l → K' l = none) → (∀ l gh, K0 l = some gh → K' l = some gh) → Q .normal a' w') :
    ∀ (fuel : Nat) (listed : Array Bool) (K : Kn) (a : Act) (w : World), listed.size = ops.size →
      (∀ (j : Nat) (o : Oper), ops[j]? = some o → lst listed j = true → ∀ i ∈ qsp o, lst listed i = true) →
      Rel c P GT nt (sel (lst listed) 0 tr σ).look (qAb (sel (lst listed) 0 tr σ).heap) K a w →
      (∀ i, i < ops.size → lst listed i = false → ∀ l, σ.next + 8 * i ≤ l → l < σ.next + 8 * i + 8 → K l = none) →
      (∀ l, σ.next + 8 * ops.size ≤ l → K l = none) → (∀ l gh, K0 l = some gh → K l = some gh) → cnt ops.size listed ≤ fuel →
      wpAny P .any ops Q fuel listed a w := by
  obtain ⟨hσ', htr, hfacts⟩ := qzm ops.toList 0 σ σ' os os' cs tr h hc
  have hlen : tr.length = ops.size := by
    have := congrArg List.length htr
    simpa using this
  have htri : ∀ (i : Nat) (o : Oper), ops[i]? = some o → ∃ e : Ev, tr[i]? = some (o, e) := by
    intro i o ho
    have hi : i < tr.length := by rw [hlen]; exact (Array.getElem?_eq_some_iff.1 ho).1
    refine ⟨tr[i].2, ?_⟩
    have h1 : (tr.map (·.1))[i]? = some o := by rw [htr, Array.getElem?_toList]; exact ho
    rw [List.getElem?_map, List.getElem?_eq_getElem hi] at h1
    simp only [Option.map_some, Option.some.injEq] at h1
    rw [List.getElem?_eq_getElem hi, ← h1]
  have htro : ∀ (i : Nat) (p : Oper × Ev), tr[i]? = some p → ops[i]? = some p.1 := by
    intro i p hp
    have h1 : (tr.map (·.1))[i]? = some p.1 := by rw [List.getElem?_map, hp]; rfl
    rw [htr, Array.getElem?_toList] at h1; exact h1
  have hdo := hd
  unfold qYu at hdo
  simp only [List.all_eq_true, List.mem_range, Array.length_toList, Bool.and_eq_true, decide_eq_true_eq] at hdo
  have hpre : ∀ (j : Nat) (o : Oper), ops[j]? = some o → ∀ i ∈ qsp o, i < j := by
    intro j o ho i hi
    have hj := (Array.getElem?_eq_some_iff.1 ho).1
    have := (hdo j hj).1 i
    rw [List.getD_eq_getElem?_getD, Array.getElem?_toList, ho] at this
    exact this hi
  have hpair : ∀ (i j : Nat) (x y : Oper × Ev), i < j → tr[i]? = some x → tr[j]? = some y → ((qzB ops.toList []).getD j 0).testBit i = true ∨ Ab.apart ops.toList x y = true := by
    intro i j x y hij hx hy
    have hj : j < ops.size := by rw [← hlen]; exact (List.getElem?_eq_some_iff.1 hy).1
    have := (hdo j hj).2 i hij
    unfold qdA at this
    rw [hx, hy] at this
    simpa [List.contains_eq_mem] using this
  have hanc : ∀ (L : Nat → Bool), (∀ (j : Nat) (o : Oper), ops[j]? = some o → L j = true → ∀ i ∈ qsp o, L i = true) → ∀ j i, L j = true → ((qzB ops.toList []).getD j 0).testBit i = true → L i = true := by
    intro L hL
    refine qgp (fun j i _ hi => by simp at hi) (fun k o hk hLk i hi => ?_)
    simp only [List.length_nil, Nat.zero_add] at hLk
    exact hL k o (by rw [← Array.getElem?_toList]; exact hk) hLk i hi
  have hend : ∀ (listed : Array Bool) (K : Kn) (a : Act) (w : World), Rel c P GT nt (sel (lst listed) 0 tr σ).look (qAb (sel (lst listed) 0 tr σ).heap) K a w → (∀ j, j < ops.size → lst listed j = true) →
      (∀ l, σ.next + 8 * ops.size ≤ l → K l = none) → (∀ l gh, K0 l = some gh → K l = some gh) → Q .normal a w := by
    intro listed K a w R hall hf hm
    have : sel (lst listed) 0 tr σ = σ' := by
      rw [hσ']
      exact qJn (fun k hk => by simp only [Nat.zero_add]; exact hall k (by omega))
    rw [this] at R
    exact hQ a w K R hf hm
  intro fuel
  induction fuel with
  | zero =>
    intro listed K a w hsz hcl R hfr hft hm hcnt
    have hall := qFz (Nat.le_zero.1 hcnt)
    refine ⟨?_, hend listed K a w R hall hft hm⟩
    cases hr : Region.ready .any ops listed with
    | nil => rfl
    | cons x xs =>
      exfalso
      obtain ⟨h0, o, ho, _⟩ := mem_ready.1 (hr ▸ List.mem_cons_self : x ∈ Region.ready .any ops listed)
      have hx := (Array.getElem?_eq_some_iff.1 ho).1
      have := hall x hx
      unfold lst at this
      rw [Array.getD_eq_getD_getElem?] at this h0
      rw [Array.getElem?_eq_getElem (by omega)] at this h0
      simp only [Option.getD_some] at this h0
      rw [this] at h0; cases h0
  | succ fuel ih =>
    intro listed K a w hsz hcl R hfr hft hm hcnt
    have hgd : ∀ j, j < ops.size → listed.getD j true = lst listed j := by
      intro j hj
      unfold lst
      rw [Array.getD_eq_getD_getElem?, Array.getD_eq_getD_getElem?, Array.getElem?_eq_getElem (by omega)]
      rfl
    refine ⟨fun hnil => ?_, fun i hi => ?_⟩
    · refine hend listed K a w R ?_ hft hm
      intro j
      induction j using Nat.strongRecOn with
      | ind j ihj =>
        intro hj
        cases hl : lst listed j with
        | true => rfl
        | false =>
          exfalso
          have hoj : ops[j]? = some ops[j] := Array.getElem?_eq_getElem hj
          have : j ∈ Region.ready .any ops listed := by
            refine mem_ready.2 ⟨by rw [hgd j hj]; exact hl, ops[j], hoj, fun e he hb => ?_⟩
            have h1 := hpre j _ hoj e.on (mem_preds.2 ⟨e, he, hb, rfl⟩)
            exact ihj e.on h1 (by omega)
          rw [hnil] at this; cases this
    · obtain ⟨h0, o, ho, hall⟩ := mem_ready.1 hi
      have hin := (Array.getElem?_eq_some_iff.1 ho).1
      rw [hgd i hin] at h0
      obtain ⟨e, htre⟩ := htri i o ho
      have hpredsL : ∀ j ∈ qsp o, lst listed j = true := by
        intro j hj
        obtain ⟨ed, h1, h2, h3⟩ := mem_preds.1 hj
        rw [← h3]; exact hall ed h1 h2
      obtain ⟨os1, os2, cs1, hev, hcs1, hdst⟩ := hfacts i (o, e) htre
      simp only [Nat.zero_add, Array.toArray_toList] at hev
      have hcl' : ∀ (j : Nat) (o' : Oper), ops[j]? = some o' → lst (listed.setIfInBounds i true) j = true → ∀ i' ∈ qsp o', lst (listed.setIfInBounds i true) i' = true := by
        intro j o' ho' hj i' hi'
        rw [qbf (by omega)] at hj ⊢
        simp only [Bool.or_eq_true, decide_eq_true_eq] at hj ⊢
        rcases hj with rfl | hj
        · rw [ho] at ho'; injection ho' with ho'; subst ho'
          exact .inr (hpredsL i' hi')
        · exact .inr (hcl j o' ho' hj i' hi')
      have hlater : ∀ (k : Nat) (q : Oper × Ev), i < k → tr[k]? = some q → lst listed k = true → Ab.apart ops.toList (o, e) q = true := by
        intro k q hk hq hL
        refine (hpair i k (o, e) q hk htre hq).resolve_left (fun ha => ?_)
        have := hanc (lst listed) hcl k i hL ha
        rw [h0] at this; cases this
      have hearlier : ∀ (k : Nat) (q : Oper × Ev), k < i → tr[k]? = some q → lst listed k = false → Ab.apart ops.toList q (o, e) = true := by
        intro k q hk hq hL
        refine (hpair k i q (o, e) hk hq htre).resolve_left (fun ha => ?_)
        have := hanc (lst (listed.setIfInBounds i true)) hcl' i k (by rw [qbf (by omega)]; simp) ha
        rw [qbf (by omega), hL] at this
        simp at this; omega
      have hT : keepT (o.looksAt ops) (sel (fun j => decide (j < i)) 0 tr σ).look = keepT (o.looksAt ops) (sel (lst listed) 0 tr σ).look := by
        funext d
        unfold keepT
        split
        · rename_i hmem
          have hmem : d ∈ o.looksAt ops := by simpa [List.contains_eq_mem] using hmem
          refine qjn (fun k q hq hne => ?_) rfl
          simp only [Nat.zero_add] at hne
          intro hqd
          by_cases hk : k < i
          · have := (apart_spec (hearlier k q hk hq (by simpa [hk] using hne))).1
            simp only [Array.toArray_toList] at this
            exact (Oper.apart_spec this).1 d hqd hmem
          · by_cases hki : k = i
            · subst hki; rw [h0] at hne; simp at hne
            · have := (apart_spec (hlater k q (by omega) hq (by simpa [hk] using hne))).1
              simp only [Array.toArray_toList] at this
              exact (Oper.apart_spec this).2.2 d hqd hmem
        · rfl
      have hH : ∀ l ∈ e.need, qAb (sel (fun j => decide (j < i)) 0 tr σ).heap l = qAb (sel (lst listed) 0 tr σ).heap l := by
        intro l hl
        refine qkn (fun k q hq hne => ?_) rfl
        simp only [Nat.zero_add] at hne
        cases hx : lookL q.2.upd l with
        | none => rfl
        | some ob =>
          exfalso
          by_cases hk : k < i
          · exact ((apart_spec (hearlier k q hk hq (by simpa [hk] using hne))).2.1 l ob hx).1 hl
          · by_cases hki : k = i
            · subst hki; rw [h0] at hne; simp at hne
            · exact ((apart_spec (hlater k q (by omega) hq (by simpa [hk] using hne))).2.2 l ob hx).1 hl
      rw [hT] at hev
      have hev2 := qaw hev hH
      unfold wpOp
      rw [ho]
      refine qYq R hev2 hcs1 hdst (fun l g1 g2 => hfr i hin h0 l g1 g2) ?_
      intro a' w' K' R' hk hmk
      have hlook : qtq (sel (lst listed) 0 tr σ).look o.dst e.v = (sel (lst (listed.setIfInBounds i true)) 0 tr σ).look := by
        funext d
        by_cases hdd : o.dst = some d
        · have h1 : qtq (sel (lst listed) 0 tr σ).look o.dst e.v d = e.v := by rw [hdd]; simp [qtq]
          rw [h1]
          refine (qHn (k := i) (p := (o, e)) htre (by simp only [Nat.zero_add]; rw [qbf (by omega)]; simp) hdd (fun k' q hk' hq hL => ?_)).symm
          simp only [Nat.zero_add] at hL
          rw [qbf (by omega)] at hL
          have hL' : lst listed k' = true := by
            have : ¬ k' = i := by omega
            simpa [this] using hL
          have := (apart_spec (hlater k' q hk' hq hL')).1
          simp only [Array.toArray_toList] at this
          exact (Oper.apart_spec this).2.1 d hdd
        · have h1 : qtq (sel (lst listed) 0 tr σ).look o.dst e.v d = (sel (lst listed) 0 tr σ).look d := by
            cases hod : o.dst with
            | none => rfl
            | some d' =>
              simp only [qtq]
              rw [if_neg (fun e' => hdd (by rw [hod, e']))]
          rw [h1]
          refine qjn (fun k q hq hne => ?_) rfl
          simp only [Nat.zero_add] at hne
          rw [qbf (by omega)] at hne
          have hki : k = i := by
            rcases Classical.em (k = i) with h | h
            · exact h
            · simp [h] at hne
          subst hki
          rw [htre] at hq; injection hq with hq; subst hq
          exact hdd
      have hheap : qbb (qAb (sel (lst listed) 0 tr σ).heap) e.upd = qAb (sel (lst (listed.setIfInBounds i true)) 0 tr σ).heap := by
        funext l
        cases hx : lookL e.upd l with
        | some ob =>
          simp only [qbb, hx]
          refine (qIn (k := i) (p := (o, e)) htre (by simp only [Nat.zero_add]; rw [qbf (by omega)]; simp) hx (fun k' q hk' hq hL => ?_)).symm
          simp only [Nat.zero_add] at hL
          rw [qbf (by omega)] at hL
          have hL' : lst listed k' = true := by
            have : ¬ k' = i := by omega
            simpa [this] using hL
          exact ((apart_spec (hlater k' q hk' hq hL')).2.1 l ob hx).2
        | none =>
          simp only [qbb, hx]
          refine qkn (fun k q hq hne => ?_) rfl
          simp only [Nat.zero_add] at hne
          rw [qbf (by omega)] at hne
          have hki : k = i := by
            rcases Classical.em (k = i) with h | h
            · exact h
            · simp [h] at hne
          subst hki
          rw [htre] at hq; injection hq with hq; subst hq
          exact hx
      rw [hlook, hheap] at R'
      refine ih (listed.setIfInBounds i true) K' a' w' (by simpa using hsz) hcl' R' (fun j hj hL l g1 g2 => ?_) (fun l hl => ?_) (fun l gh hl => hmk l gh (hm l gh hl)) ?_
      · rw [qbf (by omega)] at hL
        simp only [Bool.or_eq_false_iff, decide_eq_false_iff_not] at hL
        rcases hk l with h1 | h1
        · rw [h1]; exact hfr j hj hL.2 l g1 g2
        · omega
      · rcases hk l with h1 | h1
        · rw [h1]; exact hft l hl
        · omega
      · have := qiB (n := ops.size) (listed := listed) (i := i) (by omega) h0 hin
        omega
end
end Go.Ab

/-
  Runs: from one position to another; calls.
-/
set_option linter.unusedVariables false
set_option linter.unusedSimpArgs false
namespace Go.Ab
open Go
section
variable {P : Program} {GT : qvf} {nt : Nat}
def Reach (P : Program) (GT : qvf) (nt : Nat) (s s' : Pos) : Prop :=
  ∀ (c : Cx) (K : Kn) (a : Act) (w : World) (b : Frame) (cs : List Frame), RelS c P GT nt s.st K a w →
    ∃ K' a' w', RelS c P GT nt s'.st K' a' w' ∧ (∀ l gh, l < 8 → K l = some gh → K' l = some gh) ∧ Steps P (lone (b.at a s.todo) cs w) (lone (b.at a' s'.todo) cs w')
theorem Reach.refl (s : Pos) : Reach P GT nt s s := fun c K a w b cs R => ⟨K, a, w, R, fun _ _ _ h => h, Steps.refl _ _⟩
theorem Reach.trans {s s1 s2 : Pos} (h : Reach P GT nt s s1) (k : Reach P GT nt s1 s2) : Reach P GT nt s s2 := by
  intro c K a w b cs R
  obtain ⟨K1, a1, w1, R1, m1, st1⟩ := h c K a w b cs R
  obtain ⟨K2, a2, w2, R2, m2, st2⟩ := k c K1 a1 w1 b cs R1
  exact ⟨K2, a2, w2, R2, fun l gh hl hk => m2 l gh hl (m1 l gh hl hk), st1.trans st2⟩
theorem Reach.one {todo todo' : List Item} {σ : St} (h : ∀ (a : Act) (w : World) (b : Frame) (cs : List Frame), step P (lone (b.at a todo) cs w) = .next (lone (b.at a todo') cs w)) : Reach P GT nt ⟨todo, σ⟩ ⟨todo', σ⟩ :=
  fun c K a w b cs R => ⟨K, a, w, R, fun _ _ _ h => h, .one (h a w b cs)⟩
theorem qGr (hm : P.follows .mixedOrders = true) {id : Nat} {ops : Array Oper} {draw : Bool} {σ σ' : St} {os os' : List Orc} {cs : List Prop} (h : qIi P GT nt ops.toList draw σ os = some (σ', cs, os')) (hc : qVe cs)
    {c : Cx} {K : Kn} {a : Act} {w : World} (R : RelS c P GT nt σ K a w) :
    (Code.region id ops draw).wp P (fun e a' w' => e = .normal ∧ ∃ K', RelS c P GT nt σ' K' a' w' ∧ (∀ l gh, K l = some gh → K' l = some gh)) a w := by
  unfold qIi at h
  split at h
  · rename_i σ2 c2 os2 tr hrun
    split at h
    · rename_i hd
      simp only [Option.some.injEq, Prod.mk.injEq] at h
      obtain ⟨rfl, rfl, rfl⟩ := h
      have hQ : ∀ a' w' K', Rel c P GT nt σ2.look (qAb σ2.heap) K' a' w' → (∀ l, σ.next + 8 * ops.size ≤ l → K' l = none) → (∀ l gh, K l = some gh → K' l = some gh) →
          (Exit.normal = Exit.normal ∧ ∃ K', RelS c P GT nt { σ2 with next := σ.next + 8 * ops.toList.length } K' a' w' ∧ (∀ l gh, K l = some gh → K' l = some gh)) := by
        intro a' w' K' R' hf hk
        exact ⟨rfl, K', ⟨R', fun l hl => hf l (by simpa using hl)⟩, hk⟩
      cases draw with
      | false =>
        refine wp_region ?_
        have := qUp (Q := fun e a' w' => e = .normal ∧ ∃ K', RelS c P GT nt { σ2 with next := σ.next + 8 * ops.toList.length } K' a' w' ∧ (∀ l gh, K l = some gh → K' l = some gh)) ops.toList 0 σ σ2 os os2 c2 tr K a w hrun hc (by simp) (by simp) rfl R.rel (fun l hl => R.fresh l (by omega)) hQ
        rw [List.range_eq_range']
        simpa using this
      | true =>
        simp only [Bool.not_true, Bool.false_or] at hd
        have R1 : Rel c P GT nt σ.look (qAb σ.heap) K a { w with drawn := w.drawn + 1 } := by
          have := R.rel.put (Stp.drawn R.rel.inv σ.next (w.drawn + 1)) (dst := none) (v := .one .undef) (u := undef) trivial rfl
          exact this
        have hl0 : ∀ j, lst (Array.replicate ops.size false) j = false := by
          intro j
          unfold lst
          rw [Array.getD_eq_getD_getElem?, Array.getElem?_replicate]
          split <;> rfl
        have hs0 : sel (lst (Array.replicate ops.size false)) 0 tr σ = σ := qVk (fun j _ => hl0 j)
        refine wp_region_any hm ?_
        refine qFv (K0 := K) hrun hc hd hQ ops.size (Array.replicate ops.size false) K a _ (by simp) (fun j o _ hj => by rw [hl0] at hj; cases hj) (by rw [hs0]; exact R1) (fun i _ _ l h1 _ => R.fresh l (by omega)) (fun l hl => R.fresh l (by omega)) (fun _ _ h => h) ?_
        have := List.countP_le_length (p := fun j => !lst (Array.replicate ops.size false) j) (l := List.range ops.size)
        simpa [cnt] using this
    · cases h
  · cases h
theorem qGg (hm : P.follows .mixedOrders = true) {s s' : Pos} {os os' : List Orc} {cs : List Prop} (h : qVj P GT nt s os = some (s', cs, os')) (hc : qVe cs) : Reach P GT nt s s' := by
  obtain ⟨todo, σ⟩ := s
  unfold qVj at h
  split at h
  · rename_i k hk; simp only at hk; subst hk
    simp only [Option.some.injEq, Prod.mk.injEq] at h; obtain ⟨rfl, rfl, rfl⟩ := h
    exact Reach.one (fun a w b cs => step_skip)
  · rename_i k hk; simp only at hk; subst hk
    simp only [Option.some.injEq, Prod.mk.injEq] at h; obtain ⟨rfl, rfl, rfl⟩ := h
    exact Reach.one (fun a w b cs => step_label)
  · rename_i k hk; simp only at hk; subst hk
    simp only [Option.some.injEq, Prod.mk.injEq] at h; obtain ⟨rfl, rfl, rfl⟩ := h
    exact Reach.one (fun a w b cs => step_inBlock)
  · rename_i k hk; simp only at hk; subst hk
    simp only [Option.some.injEq, Prod.mk.injEq] at h; obtain ⟨rfl, rfl, rfl⟩ := h
    exact Reach.one (fun a w b cs => step_inScope)
  · rename_i body k hk; simp only at hk; subst hk
    simp only [Option.some.injEq, Prod.mk.injEq] at h; obtain ⟨rfl, rfl, rfl⟩ := h
    exact Reach.one (fun a w b cs => step_scope)
  · rename_i x y k hk; simp only at hk; subst hk
    simp only [Option.some.injEq, Prod.mk.injEq] at h; obtain ⟨rfl, rfl, rfl⟩ := h
    exact Reach.one (fun a w b cs => step_seq)
  · rename_i x y z k hk; simp only at hk; subst hk
    split at h
    · rename_i b t os2 hb
      simp only [Option.some.injEq, Prod.mk.injEq] at h; obtain ⟨rfl, rfl, rfl⟩ := h
      intro c K a w fb cs' R
      have h1 := R.rel.evT x
      have h2 : Ab.evT GT σ.look x = .one (.bool b) := hb
      rw [h2] at h1
      have h3 : a.eval x = .bool b := h1
      have hbt : b = t := hc.1
      subst hbt
      exact ⟨K, a, w, R, fun _ _ _ h => h, .one (step_cond h3)⟩
    · cases h
  · rename_i id body k hk; simp only at hk; subst hk
    simp only [Option.some.injEq, Prod.mk.injEq] at h; obtain ⟨rfl, rfl, rfl⟩ := h
    exact Reach.one (fun a w b cs => step_block)
  · rename_i body k hk; simp only at hk; subst hk
    simp only [Option.some.injEq, Prod.mk.injEq] at h; obtain ⟨rfl, rfl, rfl⟩ := h
    exact Reach.one (fun a w b cs => step_loop)
  · rename_i body k hk; simp only at hk; subst hk
    simp only [Option.some.injEq, Prod.mk.injEq] at h; obtain ⟨rfl, rfl, rfl⟩ := h
    exact Reach.one (fun a w b cs => step_inLoop)
  · rename_i id k hk; simp only at hk; subst hk
    split at h
    · rename_i k' he
      simp only [Option.some.injEq, Prod.mk.injEq] at h; obtain ⟨rfl, rfl, rfl⟩ := h
      exact Reach.one (fun a w b cs => step_exit he)
    · cases h
  · rename_i l k hk; simp only at hk; subst hk
    split at h
    · rename_i k' he
      simp only [Option.some.injEq, Prod.mk.injEq] at h; obtain ⟨rfl, rfl, rfl⟩ := h
      exact Reach.one (fun a w b cs => step_goto he)
    · cases h
  · rename_i id ops draw k hk; simp only at hk; subst hk
    split at h
    · rename_i σ' c' os2 hr
      simp only [Option.some.injEq, Prod.mk.injEq] at h; obtain ⟨rfl, rfl, rfl⟩ := h
      intro c K a w b cs' R
      obtain ⟨e, a', w', ⟨rfl, K', R', hk⟩, harr⟩ := qGr hm (id := id) hr hc R b k cs'
      exact ⟨K', a', w', R', fun l gh _ hl => hk l gh hl, harr⟩
    · cases h
  · cases h
def qpu (tmps : Array Value) : ResultVar → Sem Value
  | .tmp t => pure (tmps.getD t undef)
  | .cell a t => do loadVar t (← asAddr (tmps.getD a undef))
theorem qCv (fn : Func) (tmps : Array Value) : results fn tmps = (do
    let vs ← fn.results.mapM (qpu tmps)
    pure (if h : vs.size = 1 then vs[0] else .tuple vs)) := by
  unfold results
  congr 1
theorem qVp {c : Cx} {σ : St} {K : Kn} {a : Act} {w : World} (R : RelS c P GT nt σ K a w) : ∀ {rs : List ResultVar} {vs : List AV}, qKl P σ rs = some vs →
    ∃ us : List Value, (rs.mapM (qpu a.tmps)).run P w = .ok us w ∧ VRdL w (NN c (qAb σ.heap) K w) K vs us
  | [], vs, h => by
    simp only [qKl, Option.some.injEq] at h; subst h
    exact ⟨[], rfl, rfl⟩
  | r :: rs, vs, h => by
    simp only [qKl] at h
    split at h
    · rename_i v vs' h1 h2
      simp only [Option.some.injEq] at h; subst h
      obtain ⟨us, g1, g2⟩ := qVp R h2
      cases r with
      | tmp t =>
        simp only [qVw] at h1
        split at h1
        · rename_i v' hv
          simp only [Option.some.injEq] at h1; subst h1
          have := R.rel.tmps t
          rw [hv] at this
          refine ⟨a.tmps.getD t undef :: us, ?_, ⟨_, _, rfl, this, g2⟩⟩
          simp only [List.mapM_cons, qpu, Sem.run_bind, Sem.run_pure, Result.andThen_ok, g1]
        · cases h1
      | cell b T =>
        simp only [qVw] at h1
        split at h1
        · rename_i x hx
          have := R.rel.tmps b
          rw [hx] at this
          obtain ⟨ad, u, e1, e2, e3⟩ := qFx (P := P) R.rel.inv (fun _ _ h => h) this h1
          refine ⟨u :: us, ?_, ⟨_, _, rfl, e3, g2⟩⟩
          have e1' : a.tmps.getD b undef = .pointer (some ad) := e1
          simp only [List.mapM_cons, qpu, Sem.run_bind, e1', asAddr, Sem.run_pure, Result.andThen_ok, e2, g1]
        · cases h1
    · cases h
theorem VRdL.len {w : World} {N : Bool → Nat → Prop} {K : Kn} : ∀ {as : List AV} {vs : List Value}, VRdL w N K as vs → vs.length = as.length
  | [], _, h => by simp only [VRdL] at h; simp [h]
  | _ :: _, _, h => by
    obtain ⟨v, r, rfl, _, h⟩ := h
    simp [h.len]
theorem qfz {c : Cx} {σ : St} {K : Kn} {a : Act} {w : World} (R : RelS c P GT nt σ K a w) {fn : Func} {res : TV} (h : qet P σ fn.results.toList = some res) :
    ∃ v, (results fn a.tmps).run P w = .ok v w ∧ TVRd w (NN c (qAb σ.heap) K w) K res v := by
  unfold qet at h
  have key : ∀ vs, qKl P σ fn.results.toList = some vs → ∃ us : List Value, (results fn a.tmps).run P w = .ok (if h : us.toArray.size = 1 then us.toArray[0] else .tuple us.toArray) w ∧ VRdL w (NN c (qAb σ.heap) K w) K vs us := by
    intro vs hvs
    obtain ⟨us, h1, h2⟩ := qVp R hvs
    refine ⟨us, ?_, h2⟩
    rw [qCv, Array.mapM_eq_mapM_toList]
    simp only [Sem.run_bind, Sem.run_map, h1, Result.andThen_ok, bind_pure_comp, Functor.map_map]
  split at h
  · rename_i v hv
    simp only [Option.some.injEq] at h; subst h
    obtain ⟨us, h1, h2⟩ := key _ hv
    obtain ⟨u, rfl, h3⟩ := h2.one_inv
    exact ⟨u, by simpa using h1, h3⟩
  · rename_i vs hv hne
    simp only [Option.some.injEq] at h; subst h
    obtain ⟨us, h1, h2⟩ := key _ hne
    have hl := h2.len
    have : us.toArray.size ≠ 1 := by
      intro e
      simp only [List.size_toArray] at e
      rw [hl] at e
      obtain ⟨x, rfl⟩ := List.length_eq_one_iff.1 e
      exact hv x rfl
    rw [dif_neg this] at h1
    exact ⟨_, h1, us, rfl, h2⟩
  · cases h
def qoC : Nat → List AV → List (Nat × TV)
  | _, [] => []
  | i, v :: r => (i, .one v) :: qoC (i + 1) r
def st0 (args : List AV) (pre : List (Nat × Obj)) : St := { tmps := qoC 0 args, heap := qRb pre, next := 8 }
theorem qcq : ∀ {args : List AV} {i t : Nat}, lookL (qoC i args) t = if i ≤ t then (args[t - i]?).map .one else none
  | [], i, t => by simp [qoC, lookL]
  | v :: r, i, t => by
    simp only [qoC, lookL]
    by_cases h : i = t
    · subst h; simp
    · rw [if_neg h, qcq]
      by_cases h2 : i + 1 ≤ t
      · rw [if_pos h2, if_pos (by omega), show t - i = (t - (i + 1)) + 1 by omega, List.getElem?_cons_succ]
      · rw [if_neg h2]
        rw [if_neg (by omega)]
theorem qZl {rs : List (Nat × Obj)} : qAb (qRb rs) = lookL rs := by
  funext l
  unfold qAb
  induction rs with
  | nil => rfl
  | cons p r ih =>
    simp only [qRb, List.map_cons, lookL] at ih ⊢
    by_cases h : p.1 = l
    · simp [h]
    · simp only [h, if_false]; exact ih
end
end Go.Ab

/-
  Channels of one goroutine: a send into a buffer with room, a receive from a buffer that holds something.
-/
set_option linter.unusedVariables false
set_option linter.unusedSimpArgs false
namespace Go.Ab
open Go Go.Conc
def qxA (P : Program) (o : Oper) (ρ : Operand → Value) (w : World) (R : Value → World → Prop) : Prop :=
  (∃ ch v z cap buf s r, (execOp ρ o).run P w = .ok (.comm #[scase ch v z] true .send) w ∧ w.heap[ch]? = some (.chan cap buf false s r false) ∧ buf.size < cap ∧ R undef (w.setChan ch cap (buf.push v) false (s + 1) r false)) ∨
  ∃ ch z cap buf cl s r, (execOp ρ o).run P w = .ok (.comm #[rcase ch z] true (.recv false)) w ∧ w.heap[ch]? = some (.chan cap buf cl s r false) ∧ 0 < buf.size ∧ R (buf.getD 0 undef) (w.setChan ch cap (buf.extract 1 buf.size) cl s (r + 1) false)
theorem qwy {P : Program} {ops : Array Oper} {i : Nat} {rest : List Nat} {o : Oper} {a : Act} {w : World} {R : Value → World → Prop} (ho : ops[i]? = some o) (hw : Region.wanted o (yielded ops a.tmps) = true) (h : qxA P o a.eval w R) (b : Frame) (k : List Item) (cs : List Frame) :
    ∃ v w', R v w' ∧ step P (lone (b.at a (.inRegion ops (i :: rest) :: k)) cs w) = .next (lone (b.at (a.put o.dst v) (.inRegion ops rest :: k)) cs w') := by
  have hfin : ∀ v, (b.at a (.inRegion ops (i :: rest) :: k)).finish v = b.at (a.put o.dst v) (.inRegion ops rest :: k) := by
    intro v; rw [Frame.finish_at, ho]; rfl
  have hg := stepG_op (P := P) (b := b) (k := k) (cs := cs) (w := w) (rest := rest) ho hw
  rcases h with ⟨ch, v, z, cap, buf, s, r, h1, h2, h3, h4⟩ | ⟨ch, z, cap, buf, cl, s, r, h1, h2, h3, h4⟩
  · have hs : ∃ es, stepG P true (G (b.at a (.inRegion ops (i :: rest) :: k)) cs) w = .comm (G (b.at a (.inRegion ops (i :: rest) :: k)) cs) #[scase ch v z] true .send w es := by
      have hs := hg
      simp only [stepG.apply, Sem.runT_eq, h1] at hs
      exact ⟨_, hs⟩
    obtain ⟨es, hs⟩ := hs
    refine ⟨undef, _, h4, ?_⟩
    rw [← hfin]
    exact step_lone_send_room hs h2 h3
  · have hs : ∃ es, stepG P true (G (b.at a (.inRegion ops (i :: rest) :: k)) cs) w = .comm (G (b.at a (.inRegion ops (i :: rest) :: k)) cs) #[rcase ch z] true (.recv false) w es := by
      have hs := hg
      simp only [stepG.apply, Sem.runT_eq, h1] at hs
      exact ⟨_, hs⟩
    obtain ⟨es, hs⟩ := hs
    refine ⟨buf.getD 0 undef, _, h4, ?_⟩
    rw [← hfin]
    exact step_lone_recv_buf false hs h2 h3
theorem qyq {P : Program} {ops : Array Oper} {i : Nat} {rest : List Nat} {o : Oper} {a : Act} {w : World} {next : Act → World → Prop} (ho : ops[i]? = some o)
    (h : if Region.wanted o (yielded ops a.tmps) then o.wp P a w next (fun _ _ _ => False) ∨ (o.asks P a w ∧ LetsOut (fun _ _ _ => False)) else next (a.put o.dst undef) w) (b : Frame) (k : List Item) (cs : List Frame) :
    ∃ a' w', next a' w' ∧ Steps P (lone (b.at a (.inRegion ops (i :: rest) :: k)) cs w) (lone (b.at a' (.inRegion ops rest :: k)) cs w') := by
  by_cases hw : Region.wanted o (yielded ops a.tmps) = true
  · rw [if_pos hw] at h
    rcases h with h | ⟨_, _, _, h⟩
    · have hfin : ∀ v, (b.at a (.inRegion ops (i :: rest) :: k)).finish v = b.at (a.put o.dst v) (.inRegion ops rest :: k) := by
        intro v; rw [Frame.finish_at, ho]; rfl
      have hg := stepG_op (P := P) (b := b) (k := k) (cs := cs) (w := w) (rest := rest) ho hw
      unfold Oper.wp at h
      cases hr : (execOp a.eval o).run P w with
      | halt x w' =>
        rw [hr] at h
        cases x <;> first | exact h.elim | (simp [Oper.upon] at h)
      | ok n w' =>
        rw [hr] at h
        cases n <;> simp only [Oper.upon] at h
        case value v =>
          refine ⟨_, _, h, .one (step_lone_go ?_)⟩
          rw [hg, ← hfin]; simp [stepG.apply, hr]
        case skip =>
          refine ⟨_, _, h, .one (step_lone_go ?_)⟩
          rw [hg, ← hfin]; simp [stepG.apply, hr]
        case enter f args =>
          obtain ⟨e, w2, fr, hR, hsteps, _, hleave⟩ := h (b.at a (.inRegion ops (i :: rest) :: k) :: cs)
          cases e with
          | returned v =>
            have henter : step P (lone (b.at a (.inRegion ops (i :: rest) :: k)) cs w) = .next (lone (Frame.enter P f args .normal) (b.at a (.inRegion ops (i :: rest) :: k) :: cs) w') :=
              step_lone_go (by rw [hg]; simp [stepG.apply, hr, Frame.at])
            refine ⟨_, _, hR, .head henter (Steps.trans hsteps (.one ?_))⟩
            rw [← hfin]; exact step_leave_returned hleave
          | panicked qce => exact hR.elim
          | outgrown => exact (hR.choose_spec.choose_spec).elim
        case row row args =>
          obtain ⟨v, w2, hR, hsteps⟩ := h (b.at a (.inRegion ops (i :: rest) :: k)) cs
          have henter : step P (lone (b.at a (.inRegion ops (i :: rest) :: k)) cs w) = .next (lone (Frame.ofRow P row args .normal) (b.at a (.inRegion ops (i :: rest) :: k) :: cs) w') :=
            step_lone_go (by rw [hg]; simp [stepG.apply, hr, Frame.at])
          refine ⟨_, _, hR, .head henter ?_⟩
          rw [← hfin]; exact hsteps
        case defer d =>
          refine ⟨_, _, h, .one (step_lone_go ?_)⟩
          have : ({ b.at a (.inRegion ops (i :: rest) :: k) with defers := d :: a.defers } : Frame).finish undef = b.at ({ a with defers := d :: a.defers }.put o.dst undef) (.inRegion ops rest :: k) := by
            have := Frame.finish_at b { a with defers := d :: a.defers } ops i rest k undef
            rw [ho] at this; exact this
          rw [hg]; simp only [stepG.apply, Sem.runT_eq, hr, GStep.bare_after]
          exact congrArg (fun fr => GStep.go { frame := fr, callers := cs, status := .running, dying := none } w') this
    · exact h.elim
  · rw [if_neg hw] at h
    have hs := step_op_skip (P := P) (b := b) (a := a) (k := k) (cs := cs) (w := w) (ops := ops) (i := i) (rest := rest) (by simp [ho]; simpa using hw)
    simp only [ho, Option.bind_some] at hs
    exact ⟨_, _, h, .one hs⟩
section
variable {c : Cx} {P : Program} {GT : qvf} {H lk : qzb} {K : Kn} {w : World} {ev : Operand → TV} {ρ : Operand → Value} {nl : Nat}
theorem ChRd.snoc {w : World} {N : Nat → Prop} {e : Ty} {u : qFa e} {cs : List Value} (hu : PRd w N e u cs) : ∀ {xs : List (qFa e)} {vs : List Value}, ChRd w N e xs vs → ChRd w N e (xs ++ [u]) (vs ++ [qRa e cs])
  | [], _, h => by
    simp only [ChRd] at h; subst h
    exact ⟨cs, [], rfl, hu, rfl⟩
  | _ :: _, _, h => by
    obtain ⟨cs', r, rfl, h2, h3⟩ := h
    exact ⟨cs', _, rfl, h2, ChRd.snoc hu h3⟩
theorem ChRd.len {w : World} {N : Nat → Prop} {e : Ty} : ∀ {xs : List (qFa e)} {vs : List Value}, ChRd w N e xs vs → vs.length = xs.length
  | [], _, h => by simp only [ChRd] at h; subst h; rfl
  | _ :: _, _, h => by
    obtain ⟨cs', r, rfl, h2, h3⟩ := h
    rw [List.length_cons, ChRd.len h3, List.length_cons]
theorem qwm {w : World} {b cap : Nat} {buf : Array Value} {cl : Bool} {s r : Nat} : (w.setChan b cap buf cl s r false).os = w.os ∧ (w.setChan b cap buf cl s r false).tape = w.tape ∧ (w.setChan b cap buf cl s r false).output = w.output ∧ (w.setChan b cap buf cl s r false).heap.size = w.heap.size ∧ ∀ k, k ≠ b → (w.setChan b cap buf cl s r false).heap[k]? = w.heap[k]? :=
  ⟨rfl, rfl, rfl, size_setChan .., fun k hk => by simp only [World.setChan]; rw [Array.getElem?_setIfInBounds_ne (Ne.symm hk)]⟩
theorem qnw (A : At c P GT H lk K w ev ρ nl) {o : Oper} {out : Out} (h : qSt P ev lk o.op = some out) (hc : qVe out.conds) : qxA P o ρ w (Lands c H K w nl out) := by
  unfold qSt at h
  split at h
  · rename_i x y ho
    split at h
    · rename_i l v hx hv
      split at h
      · rename_i e fr cap xs hlk
        split at h
        · rename_i z hz
          split at h
          · rename_i u ls f hab
            split at h
            · cases h
            · rename_i hnl
              simp only [List.contains_eq_mem, decide_eq_true_eq] at hnl
              simp only [Option.some.injEq] at h; subst h
              obtain ⟨sh, pl, k1, k2⟩ := A.one hx
              obtain ⟨z1, z2⟩ := qOl (A.one hv) hz
              have hl := A.sub _ _ hlk
              obtain ⟨gh, hK, hgs, p, buf, s, r, hgp, hb, hC⟩ := A.inv.objs _ _ hl
              rw [k1] at hK
              injection hK with hK; subst hK
              injection hgp with hgp; subst hgp
              simp only at hgs; subst hgs
              have hlt : pl.blk < w.heap.size := (A.inv.own l _ _ pl hl k1 (.inl rfl)).1
              have hlen := hC.len
              have S1 := Stp.kill A.inv nl ls
              have hl1 : qbb H (Ab.kill ls) l = some (.chan e fr cap xs false) := by
                simp only [qbb]
                cases hd : lookL (Ab.kill ls) l with
                | none => exact hl
                | some x => exact absurd (qXl hd) hnl
              have hu : PRd w (NN c (qbb H (Ab.kill ls)) K w f) e u (ρ y).cells.toList := qsj A.inv A.sub (L := ls) hab z1 (fun l hl => hl)
              have hC1 : ChRd w (NN c (qbb H (Ab.kill ls)) K w fr) e xs buf.toList := hC.keep ⟨fun b hb => ⟨hb.killed, rfl⟩⟩
              have low : ∀ f g : Bool, ∀ b, NN c (qbb H (Ab.kill ls)) K w f b → NN c (qbb H (Ab.kill ls)) K w (f && g) b := fun f g b hb => by
                cases f <;> cases g <;> first | exact hb | exact NN.low b hb
              have hC2 : ChRd w (NN c (qbb H (Ab.kill ls)) K w (fr && f)) e (xs ++ [u]) (buf.push (ρ y)).toList := by
                rw [Array.toList_push]
                have h1 : ChRd w (NN c (qbb H (Ab.kill ls)) K w (fr && f)) e xs buf.toList := hC1.keep ⟨fun b hb => ⟨low _ _ b hb, rfl⟩⟩
                have h2 : PRd w (NN c (qbb H (Ab.kill ls)) K w (fr && f)) e u (ρ y).cells.toList := hu.keep ⟨fun b hb => ⟨by rw [Bool.and_comm]; exact low _ _ b hb, rfl⟩⟩
                have h3 := ChRd.snoc h2 h1
                rw [← z2] at h3
                exact h3
              have S2 := Stp.write (w' := w.setChan pl.blk cap (buf.push (ρ y)) false (s + 1) r false) S1.inv nl l _ (.chan e (fr && f) cap (xs ++ [u]) false) ⟨.chan e cap, some pl⟩ pl hl1 k1 (.inl rfl) qwm
                (fun N' K' hNlow hk => ⟨rfl, pl, buf.push (ρ y), s + 1, r, rfl, heap_setChan _ _ _ _ _ _ _ _ hlt, hC2.keep (hk.n _)⟩)
              have hroom : xs.length < cap := hc.1
              refine .inl ⟨pl.blk, ρ y, .tuple #[], cap, buf, s, r, ?_, hb, by rw [← Array.length_toList, hlen]; exact hroom, ⟨K, S1.trans S2, trivial⟩⟩
              simp only [execOp, ho, k2]
              rfl
          · cases h
        · cases h
      · cases h
    · cases h
  · rename_i T x ho
    split at h
    · rename_i l e' E hx hT
      split at h
      · rename_i e fr cap xs cl hlk
        split at h
        · rename_i hz
          simp only [Option.some.injEq] at h; subst h
          obtain ⟨sh, pl, k1, k2⟩ := A.one hx
          have hl := A.sub _ _ hlk
          obtain ⟨gh, hK, hgs, p, buf, s, r, hgp, hb, hC⟩ := A.inv.objs _ _ hl
          rw [k1] at hK
          injection hK with hK; subst hK
          injection hgp with hgp; subst hgp
          simp only at hgs; subst hgs
          have hlt : pl.blk < w.heap.size := (A.inv.own l _ _ pl hl k1 (.inl rfl)).1
          have hsome : 0 < xs.length := hc.1
          cases xs with
          | nil => simp at hsome
          | cons u xs =>
            obtain ⟨cs, rest, hbuf, hu, hr⟩ := hC
            have hbl : 0 < buf.size := by rw [← Array.length_toList, hbuf]; simp
            have hd : (buf.extract 1 buf.size).toList = rest := by
              rw [Array.toList_extract, hbuf, List.extract_eq_take_drop, List.drop_succ_cons, List.drop_zero, List.take_of_length_le]
              rw [← Array.length_toList, hbuf]; simp
            have hg0 : buf.getD 0 undef = qRa e cs := by
              rw [Array.getD_eq_getD_getElem?, ← Array.getElem?_toList, hbuf]; rfl
            obtain ⟨d, hdT, hE⟩ := qol hT
            obtain ⟨zv, z1, _⟩ := qSc (P := P) (w := w) hz
            have S := Stp.write (w' := w.setChan pl.blk cap (buf.extract 1 buf.size) cl s (r + 1) false) A.inv nl l _ (.chan e fr cap xs cl) ⟨.chan e cap, some pl⟩ pl hl k1 (.inl rfl) qwm
              (fun N' K' hNlow hk => ⟨rfl, pl, buf.extract 1 buf.size, s, r + 1, rfl, heap_setChan _ _ _ _ _ _ _ _ hlt, by rw [hd]; exact hr.keep (hk.n _)⟩)
            refine .inr ⟨pl.blk, zv, cap, buf, cl, s, r, ?_, hb, hbl, ⟨K, S, ?_⟩⟩
            · simp only [execOp, ho, k2, Sem.run_bind, run_underlying hdT, Result.andThen_ok, z1]
              rfl
            · have h2 : ARd (w.setChan pl.blk cap (buf.extract 1 buf.size) cl s (r + 1) false) (NN c (qbb H [(l, some (.chan e fr cap xs cl))]) K (w.setChan pl.blk cap (buf.extract 1 buf.size) cl s (r + 1) false)) K e (inj fr e u) cs :=
                (qog (K := K) NN.low fr hu).keep S.keep
              rw [hg0]
              exact qFl h2
        · cases h
      · cases h
    · cases h
  · cases h
end
end Go.Ab

/-
  Where what is known of the elements of a row changes: which rows of one's own they are.
-/
set_option linter.unusedVariables false
set_option linter.unusedSimpArgs false
namespace Go.Ab
open Go
def Chg (ns : Nat → Prop) (K K' : Kn) : Prop := ∀ l, K' l = K l ∨ (ns l ∧ ∃ e n ps ps' pl, K l = some ⟨.row e n ps, pl⟩ ∧ K' l = some ⟨.row e n ps', pl⟩)
theorem Chg.row {ns : Nat → Prop} {K K' : Kn} (h : Chg ns K K') {l n : Nat} {e : Ty} {ps : List (Nat × Option Plc)} {pl : Option Plc} (hk : K l = some ⟨.row e n ps, pl⟩) : ∃ ps', K' l = some ⟨.row e n ps', pl⟩ := by
  rcases h l with h | ⟨_, e', n', ps1, ps2, pl', h1, h2⟩
  · exact ⟨ps, h.trans hk⟩
  · rw [hk] at h1
    simp only [Option.some.injEq, Gh.mk.injEq, Shp.row.injEq] at h1
    obtain ⟨⟨rfl, rfl, rfl⟩, rfl⟩ := h1
    exact ⟨ps2, h2⟩
theorem Chg.pl {ns : Nat → Prop} {K K' : Kn} (h : Chg ns K K') {l : Nat} {gh : Gh} (hk : K l = some gh) : ∃ gh', K' l = some gh' ∧ gh'.pl = gh.pl := by
  rcases h l with h | ⟨_, e', n', ps1, ps2, pl', h1, h2⟩
  · exact ⟨gh, h.trans hk, rfl⟩
  · rw [hk] at h1
    simp only [Option.some.injEq] at h1; subst h1
    exact ⟨_, h2, rfl⟩
theorem Chg.out {ns : Nat → Prop} {K K' : Kn} (h : Chg ns K K') {l : Nat} {gh : Gh} (hl : ¬ ns l) (hk : K l = some gh) : K' l = some gh := by
  rcases h l with h | ⟨h1, _⟩
  · exact h.trans hk
  · exact absurd h1 hl
def okV (ns : List Nat) : AV → Bool
  | .ptr (.slice _) _ [.idx _] => true
  | .ptr _ l _ => !ns.contains l
  | .bref _ l _ _ _ _ => !ns.contains l
  | .ifp _ _ l _ => !ns.contains l
  | .cslice _ l _ => !ns.contains l
  | _ => true
def qwC (ns : List Nat) : TV → Bool
  | .one v => okV ns v
  | .tup vs => vs.all (okV ns)
def okO (ns : List Nat) : Obj → Bool
  | .cell v => okV ns v
  | _ => true
section
variable {w w' : World} {N N' : Bool → Nat → Prop} {K K' : Kn} {ns : List Nat}
theorem RefRd.chg (hc : Chg (· ∈ ns) K K') {e : Ty} {l off len : Nat} {wh : Bool} {v : Value} (h : RefRd K e l off len wh v) : RefRd K' e l off len wh v := by
  obtain ⟨n, pl, ⟨ps, h1⟩, h2⟩ := h
  obtain ⟨ps', h1'⟩ := hc.row h1
  exact ⟨n, pl, ⟨ps', h1'⟩, h2⟩
theorem ARd.chg (hc : Chg (· ∈ ns) K K') (hk : ∀ fr, Keep w w' (N fr) (N' fr)) : ∀ {t : Ty} {x : qfd t} {cs : List Value}, ARd w N K t x cs → ARd w' N' K' t x cs
  | .int _, _, _, h => h
  | .bool, _, _, h => h
  | .str, _, _, h => h
  | .arr n e, xs, _, h => ⟨h.1, h.2.imp (fun _ _ => PRd.keep (hk false))⟩
  | .pair a b, _, _, h => by
    obtain ⟨c1, c2, e, h1, h2⟩ := h
    exact ⟨c1, c2, e, ARd.chg hc hk h1, ARd.chg hc hk h2⟩
  | .unit, _, _, h => h
  | .slice _, x, _, h => by
    cases x with
    | pure fr xs => exact PRd.keep (hk fr) (t := .slice _) h
    | ref l off len wh => obtain ⟨v, e, h⟩ := h; exact ⟨v, e, h.chg hc⟩
    | nil => exact h
    | junk => exact h
    | lng n => exact h
  | .fn, _, _, h => h
theorem capsRd.chg (hc : Chg (· ∈ ns) K K') : ∀ {ls : List Nat} {vs : List Value}, capsRd K ls vs → capsRd K' ls vs
  | [], _, h => h
  | _ :: _, _, h => by
    obtain ⟨gh, p, r, h1, h2, h3, h4⟩ := h
    obtain ⟨gh', g1, g2⟩ := hc.pl h1
    exact ⟨gh', p, r, g1, g2.trans h2, h3, capsRd.chg hc h4⟩
theorem VRd.chg (hc : Chg (· ∈ ns) K K') (hk : ∀ fr, Keep w w' (N fr) (N' fr)) {a : AV} {v : Value} (ho : okV ns a = true) (h : VRd w N K a v) : VRd w' N' K' a v := by
  cases a with
  | agg t x => obtain ⟨cs, e, ha, h⟩ := h; exact ⟨cs, e, ha, h.chg hc hk⟩
  | sl e fr xs => exact PRd.keep (hk fr) (t := .slice e) h
  | ref e l off len wh => exact RefRd.chg hc h
  | bref e l p n off len =>
    have ho : l ∉ ns := by simpa [okV] using ho
    obtain ⟨sh, pl, po, h1, h2⟩ := h
    exact ⟨sh, pl, po, hc.out ho h1, h2⟩
  | ptr t l p =>
    obtain ⟨gh, pl, po, h1, h2, h3⟩ := h
    by_cases hl : l ∈ ns
    · obtain ⟨e, i, rfl, rfl⟩ : ∃ e i, t = .slice e ∧ p = [.idx i] := by
        unfold okV at ho
        split at ho <;> simp_all
      rcases hc l with hx | ⟨_, e1, n, ps, ps', pl', g1, g2⟩
      · exact ⟨gh, pl, po, hx.trans h1, h2, h3⟩
      · rw [h1] at g1
        simp only [Option.some.injEq] at g1; subst g1
        refine ⟨_, pl, po, g2, ?_, h3⟩
        rcases h2 with ⟨q1, q2⟩ | ⟨e2, n2, ps2, i2, q, m, q1, q2, q3, q4⟩ | ⟨a2, e2, n2, ps2, i2, q, m, q1, q2, q3, q4⟩
        · exact .inl ⟨q1, q2⟩
        · simp only [List.cons.injEq] at q2
          obtain ⟨_, rfl⟩ := q2
          simp [qya] at q4
        · simp at q2
    · exact ⟨gh, pl, po, hc.out hl h1, h2, h3⟩
  | rptr t fr x =>
    obtain ⟨b, o, cs, e, hn, hcs, h⟩ := h
    rcases hn with rfl | hn
    · exact ⟨b, o, [], e, .inl rfl, fun j v hj => by simp at hj, h.keep (hk fr)⟩
    · exact ⟨b, o, cs, e, .inr ((hk fr).k b hn).1, hcs.keep ((hk fr).k b hn).2, h.keep (hk fr)⟩
  | cptr l =>
    obtain ⟨sh, pl, h1, h2⟩ := h
    obtain ⟨⟨sh', pl'⟩, g1, g2⟩ := hc.pl h1
    simp only at g2; subst g2
    exact ⟨sh', pl, g1, h2⟩
  | func f caps => obtain ⟨vs, h1, h2⟩ := h; exact ⟨vs, h1, h2.chg hc⟩
  | mapr l =>
    obtain ⟨sh, pl, h1, h2⟩ := h
    obtain ⟨⟨sh', pl'⟩, g1, g2⟩ := hc.pl h1
    simp only at g2; subst g2
    exact ⟨sh', pl, g1, h2⟩
  | chan l =>
    obtain ⟨sh, pl, h1, h2⟩ := h
    obtain ⟨⟨sh', pl'⟩, g1, g2⟩ := hc.pl h1
    simp only at g2; subst g2
    exact ⟨sh', pl, g1, h2⟩
  | sln e fr xs => exact ⟨PRd.keep (hk fr) (t := .slice e) h.1, h.2⟩
  | ifp T t l p =>
    have ho : l ∉ ns := by simpa [okV] using ho
    obtain ⟨sh, pl, po, h1, h2⟩ := h
    exact ⟨sh, pl, po, hc.out ho h1, h2⟩
  | cslice e l n =>
    have ho : l ∉ ns := by simpa [okV] using ho
    obtain ⟨pl, h1, h2⟩ := h
    exact ⟨pl, hc.out ho h1, h2⟩
  | _ => exact h
theorem VRdL.chg (hc : Chg (· ∈ ns) K K') (hk : ∀ fr, Keep w w' (N fr) (N' fr)) : ∀ {as : List AV} {vs : List Value}, as.all (okV ns) = true → VRdL w N K as vs → VRdL w' N' K' as vs
  | [], _, _, h => h
  | _ :: _, _, ho, h => by
    simp only [List.all_cons, Bool.and_eq_true] at ho
    obtain ⟨v, r, e, h1, h2⟩ := h
    exact ⟨v, r, e, h1.chg hc hk ho.1, h2.chg hc hk ho.2⟩
theorem TVRd.chg (hc : Chg (· ∈ ns) K K') (hk : ∀ fr, Keep w w' (N fr) (N' fr)) {a : TV} {v : Value} (ho : qwC ns a = true) (h : TVRd w N K a v) : TVRd w' N' K' a v := by
  cases a with
  | one a => exact VRd.chg hc hk ho h
  | tup as => obtain ⟨vs, e, h⟩ := h; exact ⟨vs, e, h.chg hc hk ho⟩
theorem ORd.chg (hc : Chg (· ∈ ns) K K') (hk : ∀ fr, Keep w w' (N fr) (N' fr)) {o : Obj} {gh : Gh} (ho : okO ns o = true) (hb : ∀ p, Has gh p → w'.heap[p.blk]? = w.heap[p.blk]?) (h : ORd w N K o gh) : ORd w' N' K' o gh := by
  cases o with
  | row e fr xs =>
    refine ⟨h.1, ?_⟩
    have h2 := h.2
    cases hp : gh.pl with
    | none => rw [hp] at h2; exact h2
    | some p =>
      rw [hp] at h2
      obtain ⟨cs, h1, h2⟩ := h2
      exact ⟨cs, h1.keep (hb p (.inl hp)), h2.imp (fun _ _ => PRd.keep (hk fr))⟩
  | box t x =>
    obtain ⟨hs, p, cs, hp, h1, h2⟩ := h
    exact ⟨hs, p, cs, hp, h1.keep (hb p (.inl hp)), h2.chg hc hk⟩
  | cell v =>
    obtain ⟨hs, p, c, hp, h1, h2⟩ := h
    exact ⟨hs, p, c, hp, h1.keep (hb p (.inl hp)), h2.chg hc hk ho⟩
  | map k v es =>
    obtain ⟨hs, p, en, clock, hp, h1, hf1, hf2, h2⟩ := h
    exact ⟨hs, p, en, clock, hp, (hb p (.inl hp)).trans h1, hf1, hf2, h2.keep ⟨fun _ h => h.elim⟩⟩
  | chan e fr cap xs cl =>
    obtain ⟨hs, p, buf, s, r, hp, h1, h2⟩ := h
    exact ⟨hs, p, buf, s, r, hp, (hb p (.inl hp)).trans h1, h2.keep (hk fr)⟩
  | fam e xss =>
    obtain ⟨hf, ps, hs, ha, h⟩ := h
    refine ⟨hf, ps, hs, ha, ?_⟩
    cases hp : gh.pl with
    | none => rw [hp] at h; exact h
    | some p =>
      rw [hp] at h
      obtain ⟨cs, h1, h2⟩ := h
      exact ⟨cs, h1.keep (hb p (.inl hp)), h2.keep hf (fun q hq => hb q (.inr (by rw [hs]; exact hq)))⟩
  | famS a e xs =>
    obtain ⟨ha0, hf, ps, hs, ha, h⟩ := h
    refine ⟨ha0, hf, ps, hs, ha, ?_⟩
    cases hp : gh.pl with
    | none => rw [hp] at h; exact h
    | some p =>
      rw [hp] at h
      obtain ⟨cs, h1, h2⟩ := h
      exact ⟨cs, h1.keep (hb p (.inl hp)), h2.keep ha0 hf (fun q hq => hb q (.inr (by rw [hs]; exact hq)))⟩
end
end Go.Ab

/-
  A row of one's own is stored as an element of a row of such rows.
-/
set_option linter.unusedVariables false
set_option linter.unusedSimpArgs false
namespace Go.Ab
open Go
structure StpC (c : Cx) (H : qzb) (K : Kn) (w : World) (upd : List (Nat × Option Obj)) (l : Nat) (K' : Kn) (w' : World) : Prop where
  inv : Inv c (qbb H upd) K' w'
  chg : Chg (· ∈ [l]) K K'
  keep : ∀ fr, Keep w w' (NN c H K w fr) (NN c (qbb H upd) K' w' fr)
  size : w.heap.size ≤ w'.heap.size
def qhx (P : Program) (ev : Operand → TV) (lk : qzb) (op : Op) : Option (Nat × Out) :=
  match op with
  | .store T a x => match ev1 ev a, ev1 ev x with
    | some (.ptr (.slice e) l [.idx i]), some (.ref e2 l2 off m true) => match lk l, lk l2 with
      | some (.fam e0 xss), some (.row e1 fr ys) => if h : e1 = e0 then (if e0 = e ∧ e2 = e ∧ l ≠ l2 ∧ 8 ≤ l ∧ qGc P tyD T = some (.slice e) then
          some (l, ⟨.one .undef, [(l2, none), (l, some (.fam e0 (xss.set i (h ▸ ys))))], []⟩) else none) else none
      | _, _ => none
    | _, _ => none
  | _ => none
section
variable {c : Cx} {P : Program} {GT : qvf} {H lk : qzb} {K : Kn} {w : World} {T : Nat → TV} {a : Act} {nl nt : Nat} {ev : Operand → TV} {ρ : Operand → Value}
theorem FamRd.put {e : Ty} {ys : List (qFa e)} {v : Value} {q : Option Plc} (hs : Slot w e q v ys) : ∀ {xss : List (List (qFa e))} {ps : List (Nat × Option Plc)} {cs : List Value} {i : Nat}, FamRd w e xss ps cs → i < xss.length → FamRd w e (xss.set i ys) (ps.set i (ys.length, q)) (cs.set i v)
  | [], _, _, i, h, hi => by simp at hi
  | xs :: r, _, _, i, h, hi => by
    obtain ⟨p, ps', u, cs', rfl, rfl, h1, h2⟩ := h
    cases i with
    | zero =>
      simp only [List.set_cons_zero]
      refine ⟨q, ps', v, cs', rfl, rfl, ?_, h2⟩
      cases q with
      | none => exact hs
      | some q => exact hs
    | succ i =>
      simp only [List.set_cons_succ]
      exact ⟨p, _, u, _, rfl, rfl, h1, h2.put hs (by simpa using hi)⟩
theorem FamRd.len2 {e : Ty} : ∀ {xss : List (List (qFa e))} {ps : List (Nat × Option Plc)} {cs : List Value}, FamRd w e xss ps cs → ps.length = xss.length ∧ cs.length = xss.length
  | [], _, _, h => by obtain ⟨rfl, rfl⟩ := h; exact ⟨rfl, rfl⟩
  | xs :: r, _, _, h => by
    obtain ⟨p, ps', u, cs', rfl, rfl, h1, h2⟩ := h
    obtain ⟨a, b⟩ := h2.len2
    exact ⟨by simp [a], by simp [b]⟩
theorem qMA {α : Type} {cs : List α} {i : Nat} {v : α} (h : i < cs.length) : put cs i [v] = cs.set i v := by
  apply List.ext_getElem?
  intro j
  rw [qjg (by simp; omega), List.getElem?_set]
  by_cases h1 : j < i
  · rw [if_pos h1, if_neg (by omega)]
  · rw [if_neg h1]
    by_cases h2 : i = j
    · subst h2; simp [h]
    · rw [if_neg (by simp; omega), if_neg h2]
theorem qvk {α β : Type} : ∀ (ps : List (α × β)) (i : Nat) (x : α × β), (ps.set i x).map (·.2) = (ps.map (·.2)).set i x.2
  | [], _, _ => rfl
  | _ :: r, 0, _ => rfl
  | p :: r, i + 1, x => by simp [qvk r i x]
theorem qjz (hv : Inv c H K w) {l l2 i : Nat} {e : Ty} {xss : List (List (qFa e))} {ys : List (qFa e)} {fr : Bool} {n : Nat} {ps : List (Nat × Option Plc)} {p0 : Plc} {v : Value} {off m : Nat}
    (hl : H l = some (.fam e xss)) (hl2 : H l2 = some (.row e fr ys)) (hne : l ≠ l2) (hK : K l = some ⟨.row (.slice e) n ps, some p0⟩) (hi : i < n) (hr : RefRd K e l2 off m true v)
    (hob : ∀ x ob, H x = some ob → x ≠ l → okO [l] ob = true) :
    (∃ cs, InBlk w p0 cs ∧ i < cs.length) ∧ ∃ K', StpC c H K w [(l2, none), (l, some (.fam e (xss.set i ys)))] l K' (w.setCells p0.blk (p0.ob + i) [v]) := by
  obtain ⟨gh, g1, hf, ps1, g2, ha, g3⟩ := hv.objs l _ hl
  rw [hK] at g1; injection g1 with g1; subst g1
  simp only [Shp.row.injEq, true_and] at g2
  obtain ⟨rfl, rfl⟩ := g2
  obtain ⟨cs, b1, b2⟩ := g3
  obtain ⟨l1, l3⟩ := b2.len2
  obtain ⟨gh2, k1, k2, k3⟩ := hv.objs l2 _ hl2
  obtain ⟨n2, pl2, ⟨ps2, r1⟩, r2, r3, r4⟩ := hr
  rw [k1] at r1; injection r1 with r1; subst r1
  simp only [Shp.row.injEq, true_and] at k2
  obtain ⟨rfl, rfl⟩ := k2
  obtain ⟨rfl, rfl⟩ := r3 rfl
  simp only at k3
  obtain ⟨q1, q2, q3, q4, q5⟩ := qUa p0.blk [v] (p0.ob + i) w
  have hblk2 : ∀ p, pl2 = some p → p.blk ≠ p0.blk := fun p hp e => hne (hv.inj l l2 _ _ _ _ p0 p hl hl2 hK k1 (.inl rfl) (.inl hp) e.symm)
  have hex : ∀ p, some p ∈ ps.map (·.2) → p.blk ≠ p0.blk := fun p hp => ha.2 p0 p rfl hp
  have hslot : Slot (w.setCells p0.blk (p0.ob + i) [v]) e pl2 v ys := by
    cases pl2 with
    | none => exact ⟨r4.1, k3⟩
    | some p =>
      obtain ⟨o, cap, h1, h2, h3⟩ := r4
      obtain ⟨cl, h4, h5⟩ := k3
      refine ⟨o, cap, cl, h1, h2, ?_, h4.keep (q5 _ (hblk2 p rfl)), h5.imp (fun _ _ q => q.flat hf)⟩
      simpa using h3
  have hset : ∀ (x : Option Plc), x ∈ (ps.set i (ys.length, pl2)).map (·.2) → x ∈ ps.map (·.2) ∨ x = pl2 := fun x hx => by
    rw [qvk] at hx
    exact List.mem_or_eq_of_mem_set hx
  refine ⟨⟨cs, b1, by omega⟩, qKg K l ⟨.row (.slice e) xss.length (ps.set i (ys.length, pl2)), some p0⟩, ?_⟩
  have hup : ∀ x, qbb H [(l2, none), (l, some (.fam e (xss.set i ys)))] x = if l2 = x then none else if l = x then some (.fam e (xss.set i ys)) else H x := fun x => by
    simp only [qbb, lookL]
    by_cases h1 : l2 = x
    · simp [h1]
    · by_cases h2 : l = x <;> simp [h1, h2]
  have hwas : ∀ p, Has ⟨.row (.slice e) xss.length (ps.set i (ys.length, pl2)), some p0⟩ p → Has ⟨.row (.slice e) xss.length ps, some p0⟩ p ∨ pl2 = some p := fun p hp => by
    rcases hp with hp | hp
    · exact .inl (.inl hp)
    · rcases hset _ hp with h | h
      · exact .inl (.inr h)
      · exact .inr h.symm
  have hcase : ∀ x o g p, qbb H [(l2, none), (l, some (.fam e (xss.set i ys)))] x = some o → qKg K l ⟨.row (.slice e) xss.length (ps.set i (ys.length, pl2)), some p0⟩ x = some g → Has g p →
      (x = l ∧ ∃ y o' g', (y = l ∨ y = l2) ∧ H y = some o' ∧ K y = some g' ∧ Has g' p) ∨ (x ≠ l ∧ x ≠ l2 ∧ H x = some o ∧ K x = some g) := by
    intro x o g p h1 h2 h3
    rw [hup] at h1
    by_cases e2 : l2 = x
    · rw [if_pos e2] at h1; cases h1
    · rw [if_neg e2] at h1
      by_cases e1 : l = x
      · subst e1
        rw [qGa] at h2; injection h2 with h2; subst h2
        refine .inl ⟨rfl, ?_⟩
        rcases hwas p h3 with h | h
        · exact ⟨l, _, _, .inl rfl, hl, hK, h⟩
        · exact ⟨l2, _, _, .inr rfl, hl2, k1, .inl h⟩
      · rw [if_neg e1] at h1
        rw [qJd (Ne.symm e1)] at h2
        exact .inr ⟨Ne.symm e1, Ne.symm e2, h1, h2⟩
  have hlive : ∀ b, qJb (qbb H [(l2, none), (l, some (.fam e (xss.set i ys)))]) (qKg K l ⟨.row (.slice e) xss.length (ps.set i (ys.length, pl2)), some p0⟩) b → qJb H K b := by
    rintro b ⟨x, o, g, p, h1, h2, h3, h4⟩
    rcases hcase x o g p h1 h2 h3 with ⟨_, y, o', g', _, a1, a2, a3⟩ | ⟨_, _, a1, a2⟩
    · exact ⟨y, o', g', p, a1, a2, a3, h4⟩
    · exact ⟨x, o, g, p, a1, a2, h3, h4⟩
  have hkeep : ∀ fr, Keep w (w.setCells p0.blk (p0.ob + i) [v]) (NN c H K w fr) (NN c (qbb H [(l2, none), (l, some (.fam e (xss.set i ys)))]) (qKg K l ⟨.row (.slice e) xss.length (ps.set i (ys.length, pl2)), some p0⟩) (w.setCells p0.blk (p0.ob + i) [v]) fr) :=
    fun fr => ⟨fun b hb => ⟨⟨by rw [q4]; exact hb.1, fun hn => hb.2.1 (hlive b hn), hb.2.2⟩, q5 b (fun e => hb.2.1 (e ▸ ⟨l, _, _, p0, hl, hK, .inl rfl, rfl⟩))⟩⟩
  have hchg : Chg (· ∈ [l]) K (qKg K l ⟨.row (.slice e) xss.length (ps.set i (ys.length, pl2)), some p0⟩) := fun x => by
    by_cases e1 : x = l
    · subst e1; exact .inr ⟨List.mem_singleton.2 rfl, _, _, _, _, _, hK, qGa⟩
    · exact .inl (qJd e1)
  refine ⟨⟨fun x o hx => ?_, fun x o g p h1 h2 h3 => ?_, fun x x' o1 o2 g1 g2 p1 p2 h1 h2 h3 h4 h5 h6 h7 => ?_, ?_⟩, hchg, hkeep, by rw [q4]; exact Nat.le_refl _⟩
  · rw [hup] at hx
    by_cases e2 : l2 = x
    · rw [if_pos e2] at hx; cases hx
    · rw [if_neg e2] at hx
      by_cases e1 : l = x
      · subst e1
        rw [if_pos rfl] at hx; injection hx with hx; subst hx
        refine ⟨_, qGa, hf, ps.set i (ys.length, pl2), by simp, ⟨?_, ?_⟩, ?_⟩
        · intro i1 j1 p q h1 h2 h3
          rw [qvk, List.getElem?_set] at h1 h2
          have hother : ∀ (j : Nat) (p q : Plc), (ps.map (·.2))[j]? = some (some p) → pl2 = some q → p.blk ≠ q.blk := fun j p q h1 h2 h3 =>
            hne (hv.inj l l2 _ _ _ _ p q hl hl2 hK k1 (.inr (List.mem_of_getElem? h1)) (.inl h2) h3)
          by_cases e3 : i = i1
          · by_cases e4 : i = j1
            · omega
            · rw [if_pos e3] at h1; rw [if_neg e4] at h2
              split at h1
              · injection h1 with h1
                exact absurd h3.symm (hother j1 q p h2 h1)
              · cases h1
          · rw [if_neg e3] at h1
            by_cases e4 : i = j1
            · rw [if_pos e4] at h2
              split at h2
              · injection h2 with h2
                exact absurd h3 (hother i1 p q h1 h2)
              · cases h2
            · rw [if_neg e4] at h2
              exact ha.1 i1 j1 p q h1 h2 h3
        · intro p q hp hq
          injection hp with hp; subst hp
          rcases hset _ hq with h | h
          · exact ha.2 p0 q rfl h
          · exact hblk2 q h.symm
        · have h1 := b1.write (o := i) (s := [v]) (by simp; omega)
          rw [qMA (by omega)] at h1
          exact ⟨_, h1, (b2.keep hf (fun p hp => q5 _ (hex p hp))).put hslot hi⟩
      · rw [if_neg e1] at hx
        obtain ⟨g, a1, a2⟩ := hv.objs x o hx
        refine ⟨g, by rw [qJd (Ne.symm e1)]; exact a1, a2.chg hchg hkeep (hob x o hx (Ne.symm e1)) (fun p hp => q5 _ (fun h => e1 ?_))⟩
        exact hv.inj l x _ _ _ _ p0 p hl hx hK a1 (.inl rfl) hp h.symm
  · rw [q4]
    rcases hcase x o g p h1 h2 h3 with ⟨_, y, o', g', _, a1, a2, a3⟩ | ⟨_, _, a1, a2⟩
    · exact hv.own y o' g' p a1 a2 a3
    · exact hv.own x o g p a1 a2 h3
  · rcases hcase x o1 g1 p1 h1 h3 h5 with ⟨rfl, y, o', g', hy, a1, a2, a3⟩ | ⟨n1, n2, a1, a2⟩
    · rcases hcase x' o2 g2 p2 h2 h4 h6 with ⟨rfl, _⟩ | ⟨n3, n4, b1, b2⟩
      · rfl
      · have := hv.inj y x' _ _ _ _ p1 p2 a1 b1 a2 b2 a3 h6 h7
        rcases hy with rfl | rfl
        · exact this
        · exact absurd this.symm n4
    · rcases hcase x' o2 g2 p2 h2 h4 h6 with ⟨rfl, y, o', g', hy, b1, b2, b3⟩ | ⟨n3, n4, b1, b2⟩
      · have := hv.inj x y _ _ _ _ p1 p2 a1 b1 a2 b2 h5 b3 h7
        rcases hy with rfl | rfl
        · exact this
        · exact absurd this n2
      · exact hv.inj x x' _ _ _ _ p1 p2 a1 b1 a2 b2 h5 h6 h7
  · refine ⟨q1.trans hv.fr.os, q2.trans hv.fr.tape, q3.trans hv.fr.output, by rw [q4]; exact hv.fr.size, fun k hk1 hk2 => ?_⟩
    have h0 := hv.own l _ _ p0 hl hK (.inl rfl)
    by_cases hkp : k = p0.blk
    · subst hkp
      rcases h0.2.1 with h3 | h3
      · omega
      · exact absurd h3 hk2
    · exact (q5 k hkp).trans (hv.fr.block k hk1 hk2)
theorem qfx (A : At c P GT H lk K w ev ρ nl) {o : Oper} {l : Nat} {out : Out} (h : qhx P ev lk o.op = some (l, out)) (hob : ∀ x ob, H x = some ob → x ≠ l → okO [l] ob = true) :
    8 ≤ l ∧ Does P o ρ w (fun u w' => ∃ K', StpC c H K w out.upd l K' w' ∧ TVRd w' (NN c (qbb H out.upd) K' w') K' out.v u) := by
  unfold qhx at h
  split at h
  · rename_i T x y ho
    split at h
    · rename_i e l i e2 l2 off m hx hy
      split at h
      · rename_i e0 xss e1 fr ys hl hl2
        split at h
        · rename_i he
          subst he
          split at h
          · rename_i hq
            obtain ⟨rfl, rfl, hne, h8, hT⟩ := hq
            simp only [Option.some.injEq, Prod.mk.injEq] at h
            obtain ⟨rfl, rfl⟩ := h
            refine ⟨h8, ?_⟩
            obtain ⟨gh, pl, po, k1, k2, k3⟩ := A.one hx
            have hr := A.one hy
            have hH := A.sub _ _ hl
            obtain ⟨gh', g1, hf, ps, g2, ha, g3⟩ := A.inv.objs l _ hH
            rw [k1] at g1; injection g1 with g1; subst g1
            obtain ⟨sh, pl0⟩ := gh
            simp only at g2; subst g2
            rcases k2 with ⟨k2, k4⟩ | ⟨e3, n, ps', i', q, m', q1, q2, q3, q4⟩ | ⟨a3, e3, n, ps', i', q, m', q1, q2, q3, q4⟩
            · simp only at k2; subst k2
              simp only [qkh, qya] at k4
              split at k4
              · rename_i hi
                simp only [Option.some.injEq, Prod.mk.injEq, and_true] at k4
                have hpo : po = i := by simpa [Ty.sz] using k4.symm
                subst hpo
                obtain ⟨⟨cs, b1, b2⟩, K', S⟩ := qjz A.inv hH (A.sub _ _ hl2) hne k1 hi hr hob
                refine Does.skip (w' := w.setCells pl.blk (pl.ob + po) [ρ y]) ?_ ⟨K', S, trivial⟩
                obtain ⟨A0, c0, hv⟩ := hr.form
                have hcl : (ρ y).cells.toList = [ρ y] := by rw [hv]; rfl
                have := qGi (P := P) (w := w) hT b1 (o := po) (s := [ρ y]) (by simp; omega) (v := ρ y) hcl rfl (fun u hu => by rw [List.mem_singleton.1 hu, hv]; rfl)
                simp only [execOp, ho, k3, Instr.storeAt, Instr.sureAddr, Sem.run_bind, Sem.run_pure, Result.andThen_ok, this]
              · cases k4
            · simp only [List.cons.injEq] at q2
              obtain ⟨_, rfl⟩ := q2
              simp [qya] at q4
            · simp at q2
          · cases h
        · cases h
      · cases h
    · cases h
  · cases h
theorem Rel.putC (R : Rel c P GT nt T H K a w) {upd : List (Nat × Option Obj)} {K' : Kn} {w' : World} {l : Nat} (S : StpC c H K w upd l K' w') {dst : Option Nat} {v : TV} {u : Value} (hv : TVRd w' (NN c (qbb H upd) K' w') K' v u) (hd : qdi nt dst = true) (hok : ∀ t, qwC [l] (T t) = true) :
    Rel c P GT nt (qtq T dst v) (qbb H upd) K' (a.put dst u) w' := by
  have hsz : (ngOf GT) ≤ w'.heap.size := by
    have := S.inv.fr.size
    have := R.ng
    have := R.gng
    omega
  refine ⟨S.inv, fun t => ?_, ?_, ?_, R.ng, R.gng, R.glob.keep hsz (fun g hg => ((S.keep false).k g (R.glob_nn hg)).2)⟩
  · cases dst with
    | none => exact (R.tmps t).chg S.chg S.keep (hok t)
    | some d =>
      simp only [qdi, decide_eq_true_eq] at hd
      simp only [qtq]
      split
      · rename_i e
        subst e
        have : (a.put (some t) u).eval (.tmp t) = u := by
          simp [Act.put, Act.eval, R.size, hd]
        rw [this]; exact hv
      · rename_i e
        rw [Act.eval_put (fun d' hd' hx => e (by cases hd'; cases hx; rfl))]
        exact (R.tmps t).chg S.chg S.keep (hok t)
  · cases dst <;> simp [Act.put, R.size]
  · cases dst <;> simp [Act.put, R.defers]
end
end Go.Ab

/-
  append to a part of a row of one's own, where that part is used again: in place, or a copy.
-/
set_option linter.unusedVariables false
set_option linter.unusedSimpArgs false
namespace Go.Ab
open Go
structure StpL (c : Cx) (H : qzb) (K : Kn) (w : World) (upd : List (Nat × Option Obj)) (l : Nat) (K' : Kn) (w' : World) : Prop where
  inv : Inv c (qbb H upd) K' w'
  same : ∀ x, x ≠ l → K' x = K x
  keep : ∀ fr, Keep w w' (NN c H K w fr) (NN c (qbb H upd) K' w' fr)
  size : w.heap.size ≤ w'.heap.size
section
variable {c : Cx} {P : Program} {GT : qvf} {H lk : qzb} {K : Kn} {w : World} {T : Nat → TV} {a : Act} {nl nt : Nat} {ev : Operand → TV} {ρ : Operand → Value}
theorem VRd.other {w w' : World} {N N' : Bool → Nat → Prop} {K K' : Kn} {l : Nat} (hs : ∀ x, x ≠ l → K' x = K x) (hk : ∀ fr, Keep w w' (N fr) (N' fr)) {a : AV} {v : Value} (hl : l ∉ qBf a) (h : VRd w N K a v) : VRd w' N' K' a v := by
  have h1 : ∀ k ∈ qBf a, K' k = K (id k) := fun k hk => hs k (fun e => hl (e ▸ hk))
  have h2 : VRd w N K (qWp id a) v := (qQn (K := K) (K' := K) (f := id) (fun _ _ => rfl)).2 h
  exact ((qQn h1).1 h2).keep ⟨hk, fun _ _ h => h⟩
theorem TVRd.other {w w' : World} {N N' : Bool → Nat → Prop} {K K' : Kn} {l : Nat} (hs : ∀ x, x ≠ l → K' x = K x) (hk : ∀ fr, Keep w w' (N fr) (N' fr)) {a : TV} {v : Value} (hl : l ∉ qWh a) (h : TVRd w N K a v) : TVRd w' N' K' a v := by
  have h1 : ∀ k ∈ qWh a, K' k = K (id k) := fun k hk => hs k (fun e => hl (e ▸ hk))
  have h2 : TVRd w N K (quB id a) v := (qft (K := K) (K' := K) (f := id) (fun _ _ => rfl)).2 h
  exact ((qft h1).1 h2).keep ⟨hk, fun _ _ h => h⟩
theorem ORd.other {w w' : World} {N N' : Bool → Nat → Prop} {K K' : Kn} {l : Nat} (hs : ∀ x, x ≠ l → K' x = K x) (hk : ∀ fr, Keep w w' (N fr) (N' fr)) {o : Obj} {gh : Gh} (hl : l ∉ qwk o) (hb : ∀ p, Has gh p → w'.heap[p.blk]? = w.heap[p.blk]?) (h : ORd w N K o gh) : ORd w' N' K' o gh := by
  have h1 : ∀ k ∈ qwk o, K' k = K (id k) := fun k hk => hs k (fun e => hl (e ▸ hk))
  have h2 : ORd w N K (qEv id o) gh := (qgt (K := K) (K' := K) (f := id) (fun _ _ => rfl)).2 h
  exact ORd.keep ⟨hk, fun _ _ h => h⟩ hb ((qgt h1).1 h2)
theorem qEB (hv : Inv c H K w) {w' : World} {l : Nat} {o0 o' : Obj} {gh gh' : Gh} (hl : H l = some o0) (hK : K l = some gh)
    (hp : ∀ p, Has gh' p → Has gh p)
    (hw : w'.os = w.os ∧ w'.tape = w.tape ∧ w'.output = w.output ∧ w'.heap.size = w.heap.size ∧ ∀ k, (∀ p, Has gh p → p.blk ≠ k) → w'.heap[k]? = w.heap[k]?)
    (ho : ∀ (N' : Bool → Nat → Prop) (K' : Kn), (∀ b, N' true b → N' false b) → (∀ fr, Keep w w' (NN c H K w fr) (N' fr)) → ORd w' N' K' o' gh')
    (hob : ∀ x ob, H x = some ob → x ≠ l → l ∉ qwk ob) : StpL c H K w [(l, some o')] l (qKg K l gh') w' := by
  have hup : ∀ x, qbb H [(l, some o')] x = if l = x then some o' else H x := fun x => by
    simp only [qbb, lookL]; split <;> simp_all
  have hcase : ∀ x o g p, qbb H [(l, some o')] x = some o → qKg K l gh' x = some g → Has g p → (x = l ∧ Has gh p) ∨ (x ≠ l ∧ H x = some o ∧ K x = some g) := by
    intro x o g p h1 h2 h3
    rw [hup] at h1
    by_cases e1 : l = x
    · subst e1
      rw [qGa] at h2; injection h2 with h2; subst h2
      exact .inl ⟨rfl, hp p h3⟩
    · rw [if_neg e1] at h1
      rw [qJd (Ne.symm e1)] at h2
      exact .inr ⟨Ne.symm e1, h1, h2⟩
  have hlive : ∀ b, qJb (qbb H [(l, some o')]) (qKg K l gh') b → qJb H K b := by
    rintro b ⟨x, o, g, p, h1, h2, h3, h4⟩
    rcases hcase x o g p h1 h2 h3 with ⟨rfl, h5⟩ | ⟨_, h5, h6⟩
    · exact ⟨x, o0, gh, p, hl, hK, h5, h4⟩
    · exact ⟨x, o, g, p, h5, h6, h3, h4⟩
  have hkeep : ∀ fr, Keep w w' (NN c H K w fr) (NN c (qbb H [(l, some o')]) (qKg K l gh') w' fr) :=
    fun fr => ⟨fun b hb => ⟨⟨by rw [hw.2.2.2.1]; exact hb.1, fun hn => hb.2.1 (hlive b hn), hb.2.2⟩, hw.2.2.2.2 b (fun p hp e => hb.2.1 ⟨l, o0, gh, p, hl, hK, hp, e⟩)⟩⟩
  have hsame : ∀ x, x ≠ l → qKg K l gh' x = K x := fun x hx => qJd hx
  refine ⟨⟨fun x o hx => ?_, fun x o g p h1 h2 h3 => ?_, fun x x' o1 o2 g1 g2 p1 p2 h1 h2 h3 h4 h5 h6 h7 => ?_, ?_⟩, hsame, hkeep, by rw [hw.2.2.2.1]; exact Nat.le_refl _⟩
  · rw [hup] at hx
    by_cases e1 : l = x
    · subst e1
      rw [if_pos rfl] at hx; injection hx with hx; subst hx
      exact ⟨gh', qGa, ho _ _ NN.low hkeep⟩
    · rw [if_neg e1] at hx
      obtain ⟨g, a1, a2⟩ := hv.objs x o hx
      refine ⟨g, by rw [qJd (Ne.symm e1)]; exact a1, a2.other hsame hkeep (hob x o hx (Ne.symm e1)) (fun p hp => hw.2.2.2.2 _ (fun q hq e => e1 ?_))⟩
      exact hv.inj l x _ _ _ _ q p hl hx hK a1 hq hp e
  · rw [hw.2.2.2.1]
    rcases hcase x o g p h1 h2 h3 with ⟨rfl, h5⟩ | ⟨_, h5, h6⟩
    · exact hv.own x o0 gh p hl hK h5
    · exact hv.own x o g p h5 h6 h3
  · rcases hcase x o1 g1 p1 h1 h3 h5 with ⟨rfl, a1⟩ | ⟨n1, a1, a2⟩
    · rcases hcase x' o2 g2 p2 h2 h4 h6 with ⟨rfl, b1⟩ | ⟨n2, b1, b2⟩
      · rfl
      · exact hv.inj x x' _ _ _ _ p1 p2 hl b1 hK b2 a1 h6 h7
    · rcases hcase x' o2 g2 p2 h2 h4 h6 with ⟨rfl, b1⟩ | ⟨n2, b1, b2⟩
      · exact hv.inj x x' _ _ _ _ p1 p2 a1 hl a2 hK h5 b1 h7
      · exact hv.inj x x' _ _ _ _ p1 p2 a1 b1 a2 b2 h5 h6 h7
  · refine ⟨hw.1.trans hv.fr.os, hw.2.1.trans hv.fr.tape, hw.2.2.1.trans hv.fr.output, by rw [hw.2.2.2.1]; exact hv.fr.size, fun k hk1 hk2 => ?_⟩
    refine (hw.2.2.2.2 k (fun p hp e => ?_)).trans (hv.fr.block k hk1 hk2)
    have h0 := hv.own l o0 gh p hl hK hp
    subst e
    rcases h0.2.1 with h3 | h3
    · omega
    · exact hk2 h3
def qAt (P : Program) (ev : Operand → TV) (lk : qzb) (nl : Nat) (op : Op) : Option (Ty × Nat × Nat × Out × Out) :=
  match op with
  | .call { callee := .builtin .append, args, argTypes } => match argTypes.toList, evs ev args.toList with
    | [T, T2], some [.ref e l 0 n false, x] => match qpi P T, P.underlying T2, qLi lk e l with
      | some e', some (.slice _), some (fr0, zs) => if e' = e ∧ qIz P T e ∧ e.flat ∧ 8 ≤ l then (match x with
        | .str _ => none
        | x => match qrd lk e x with
          | some (fr, [y]) => some (e, l, (zs.take n ++ [y]).length,
              ⟨.one (.ref e l 0 (zs.take n ++ [y]).length true), [(l, some (.row e (fr0 && fr) (zs.take n ++ [y])))], []⟩,
              ⟨.one (.ref e nl 0 (zs.take n ++ [y]).length true), [(nl, some (.row e (fr0 && fr) (zs.take n ++ [y])))], [(zs.take n ++ [y]).length * qBc P T ≤ 140737488355328]⟩)
          | _ => none) else none
      | _, _, _ => none
    | _, _ => none
  | _ => none
structure Grown (K K' : Kn) (e : Ty) (l m : Nat) : Prop where
  at_ : ∃ n p, K l = some ⟨.row e n [], some p⟩ ∧ K' l = some ⟨.row e m [], some p⟩
theorem Grown.ref {K K' : Kn} {e : Ty} {l m n' : Nat} {v : Value} (h : Grown K K' e l m) (hr : RefRd K e l 0 n' false v) (hn : n' ≤ m) : RefRd K' e l 0 n' false v := by
  obtain ⟨n, p, h1, h2⟩ := h.at_
  obtain ⟨n2, pl, ⟨ps, r1⟩, r2, r3, r4⟩ := hr
  rw [h1] at r1
  simp only [Option.some.injEq, Gh.mk.injEq, Shp.row.injEq] at r1
  obtain ⟨⟨_, rfl, rfl⟩, rfl⟩ := r1
  exact ⟨m, some p, ⟨[], h2⟩, by omega, by simp, r4⟩
theorem qWv (A : At c P GT H lk K w ev ρ nl) {o : Oper} {e : Ty} {l m : Nat} {outA outB : Out} (h : qAt P ev lk nl o.op = some (e, l, m, outA, outB)) (hc : qVe outB.conds) (hob : ∀ x ob, H x = some ob → x ≠ l → l ∉ qwk ob) :
    8 ≤ l ∧ Does P o ρ w (fun u w' => (∃ K', StpL c H K w outA.upd l K' w' ∧ Grown K K' e l m ∧ TVRd w' (NN c (qbb H outA.upd) K' w') K' outA.v u) ∨ Lands c H K w nl outB u w') := by
  unfold qAt at h
  split at h
  · rename_i args ats ho
    split at h
    · rename_i T T2 e0 l0 n x hats hvs
      split at h
      · rename_i e' E2 fr0 zs he hd2 hrow
        split at h
        · rename_i hq
          obtain ⟨rfl, hok, hf, h8⟩ := hq
          split at h
          · cases h
          · rename_i hns
            split at h
            · rename_i fr y hcon
              simp only [Option.some.injEq, Prod.mk.injEq] at h
              obtain ⟨rfl, rfl, rfl, rfl, rfl⟩ := h
              refine ⟨h8, ?_⟩
              have hT : qGc P tyD T = some (.slice e') := by
                unfold qpi at he
                split at he
                · rename_i e1 h'; simp only [Option.some.injEq] at he; subst he; exact h'
                · cases he
              obtain ⟨m0, E, _, hdT, hE⟩ := qHb hT
              unfold qIz at hok
              rw [hdT] at hok
              simp only [Bool.and_eq_true, decide_eq_true_eq] at hok
              obtain ⟨⟨hz, hb0⟩, hs0⟩ := hok
              obtain ⟨z, hz1, hz2, i, hi1, hi2⟩ := qSc (P := P) (w := w) hz
              obtain ⟨_, _, i', _, _, _, _, hi3, hi4⟩ := qYb hE
              rw [hi1] at hi3; injection hi3 with hi3; subst hi3
              have hby : P.bytesOf E = i.bytes := by simp [Program.bytesOf, hi1]
              have hzs : z.cells.size = e'.sz := by
                have := (qyd (w := w) (N := fun _ => True) (t := e')).length
                rw [← hz2] at this; simpa using this
              have heb : qBc P T = i.bytes := by unfold qBc; rw [hdT]; exact hby
              have hv := qeq A hvs
              obtain ⟨u, v, hu, hr, hx⟩ := hv.two_inv
              have hat : ats = #[T, T2] := by apply Array.ext'; simpa using hats
              subst hat
              obtain ⟨cn, hex⟩ := qHm (w := w) (ρ := ρ) (P := P) ho
              have hl2 : (args.map ρ) = (args.toList.map ρ).toArray := by apply Array.ext'; simp
              have fin : ∀ {R : Value → World → Prop}, (∃ r w', (Builtin.append_ #[T, T2] o.type #[u, v]).run P w = .ok r w' ∧ R r w') → Does P o ρ w R := by
                rintro R ⟨r, w', h2, h3⟩
                refine Does.value (v := r) (w' := w') ?_ h3
                have h1 : (builtin .append #[T, T2] o.type cn (args.map ρ)).run P w = (do let v ← Builtin.append_ #[T, T2] o.type #[u, v]; pure (Next.value v) : Sem Next).run P w := by rw [hl2, hu]; rfl
                rw [hex, h1]
                simp [h2]
              apply fin
              obtain ⟨cl, y1, y2, y3⟩ := qju (P := P) A.inv A.sub hcon hx
              have hy1l := y1.length (n := e'.sz) (fun _ _ => PRd.length)
              have hsrc : Src P w E T2 e'.sz z.cells v [y].length cl := Src.given (.inl ⟨E2, hd2⟩) y2 (fun w' hw => by
                have := y3 [y].length (Nat.le_refl _) w' hw
                rwa [← hy1l, List.take_length] at this)
              have hlk := A.sub _ _ (qyb hrow)
              obtain ⟨h1, h2, h3, h4⟩ := qKi A.inv hlk hr
              have hcon : SlRd w (NN c H K w fr0) e' (seg zs 0 n false) u := qSz h1 h3 h4
              have hseg : seg zs 0 n false = zs.take n := by simp [seg]
              rw [hseg] at h1 hcon
              have hcon' : ∃ base cap, u = .slice base n cap := by
                obtain ⟨b0, c0, q, _⟩ := hcon
                exact ⟨b0, c0, by rw [q, h1]⟩
              obtain ⟨base, cap, rfl⟩ := hcon'
              have hlen : (zs.take n ++ [y]).length = n + 1 := by rw [List.length_append, h1]; rfl
              by_cases hroom : n + 1 ≤ cap
              · rcases h4 with ⟨q1, _⟩ | ⟨p, cs, o1, cap', q1, q2, q3, q4, q5, q6⟩
                · injection q1 with _ _ q1'; omega
                · injection q2 with q2 _ q2'
                  subst q2; subst q2'
                  obtain ⟨rfl, q4⟩ := q4.resolve_left (by omega)
                  have hxl := q6.length (n := e'.sz) (fun _ _ => PRd.length)
                  have hm1 : (n + 1) * e'.sz ≤ cap * e'.sz := Nat.mul_le_mul_right _ hroom
                  have hm2 : (0 + n) * e'.sz ≤ zs.length * e'.sz := Nat.mul_le_mul_right _ h2
                  rw [Nat.add_mul] at hm1 hm2 q4
                  simp only [List.length_singleton] at hy1l
                  have hst := run_storeCells_cells (P := P) p.blk (p.ob + 0 * e'.sz + n * e'.sz) cl 0 w (fun j hj => q5.is (by omega)) (fun j hj => q5.free (by omega)) (y1.one (fun _ _ => PRd.one))
                  have hcut : (cut cs (0 * e'.sz) (n * e'.sz)).length = n * e'.sz := qEj (by omega)
                  obtain ⟨s1, s2, s3, s4, s5⟩ := qUa p.blk cl (p.ob + 0 * e'.sz + n * e'.sz + 0) w
                  refine ⟨_, w.setCells p.blk (p.ob + 0 * e'.sz + n * e'.sz + 0) cl, qzg hdT hi1 hi2 hi4 hzs hsrc hroom (by simp only [Addr.add_lit]; exact hst), .inl ⟨_, qEB A.inv (gh' := ⟨.row e' (zs.take n ++ [y]).length [], some p⟩) hlk q1 (fun p' hp' => hp') ⟨s1, s2, s3, s4, fun k hk => s5 k (fun e => hk p (.inl rfl) e.symm)⟩ (fun N' K' hN hk => ⟨rfl, cut cs (0 * e'.sz) (n * e'.sz) ++ cl, ?_, ?_⟩) hob, ⟨zs.length, p, q1, qGa⟩, ?_⟩⟩
                  · have := q5.move (q := p.ob) (o := p.ob + 0 * e'.sz + n * e'.sz + 0) (s := cl) (ds := cut cs (0 * e'.sz) (n * e'.sz) ++ cl) (by simp only [List.length_append, hcut, hy1l]; omega) (by omega) (by simp only [List.length_append, hcut, hy1l]; omega) (fun j v hj => by
                      by_cases hj1 : j < n * e'.sz
                      · rw [List.getElem?_append_left (by omega), qhh, if_pos hj1] at hj
                        rw [if_pos (by omega)]
                        exact ⟨by omega, by rw [← hj]; congr 1; omega⟩
                      · rw [List.getElem?_append_right (by omega), hcut] at hj
                        have hj2 := (List.getElem?_eq_some_iff.1 hj).1
                        rw [if_neg (by omega), if_pos (by omega)]
                        rw [← hj]; congr 1; omega)
                    exact this
                  · refine Cat.append ?_ (y1.imp (fun _ _ q => q.flat hf))
                    have := qOh (off := 0) (len := n) (wh := false) (fun _ _ => PRd.length) q6 h3
                    rw [hseg] at this
                    exact this.imp (fun _ _ q => q.flat hf)
                  · show RefRd _ _ _ _ _ _ _
                    rw [hlen]
                    refine ⟨_, some p, ⟨[], qGa⟩, by omega, fun _ => ⟨rfl, by omega⟩, _, cap, rfl, hroom, .inr ⟨rfl, ?_⟩⟩
                    rw [Nat.add_mul]; omega
              · obtain ⟨c1, _⟩ := hc
                rw [heb, hlen] at c1
                obtain ⟨v', w', K', g1, g2, g3⟩ := qrm (ty := o.type) A.inv A.ng (A.fresh nl (Nat.le_refl _) (by omega)) hdT hi1 hi2 hi4 hzs (zs := zs.take n) (fr1 := fr0) hcon hsrc y1 rfl (by simp; omega) (by simpa using c1) (by omega)
                exact ⟨v', w', g1, .inr ⟨K', g2, g3⟩⟩
            · cases h
        · cases h
      · cases h
    · cases h
  · cases h
def okG (e : Ty) (l m : Nat) : TV → Option (List Prop)
  | .one (.ref e' l' 0 n' false) => if l' = l then (if e' = e then some [n' ≤ m] else none) else some []
  | v => if (qWh v).contains l then none else some []
def qxC (e : Ty) (l m : Nat) : List (Nat × TV) → Option (List Prop)
  | [] => some []
  | p :: r => match okG e l m p.2, qxC e l m r with
    | some a, some b => some (a ++ b)
    | _, _ => none
theorem qLB {w w' : World} {N N' : Bool → Nat → Prop} {K K' : Kn} {e : Ty} {l m : Nat} (hs : ∀ x, x ≠ l → K' x = K x) (hk : ∀ fr, Keep w w' (N fr) (N' fr)) (hg : Grown K K' e l m) {v : TV} {u : Value} {cs : List Prop} (h : okG e l m v = some cs) (hc : qVe cs) (hr : TVRd w N K v u) : TVRd w' N' K' v u := by
  unfold okG at h
  split at h
  · rename_i e' l' n'
    split at h
    · rename_i hl
      subst hl
      split at h
      · rename_i he
        subst he
        simp only [Option.some.injEq] at h; subst h
        exact hg.ref hr hc.1
      · cases h
    · rename_i hl
      exact hr.other hs hk (by simp [qWh, qBf]; exact fun e => hl e.symm)
  · split at h
    · cases h
    · rename_i hl
      exact hr.other hs hk (by simpa using hl)
theorem qGu {e : Ty} {l m : Nat} : ∀ {ts : List (Nat × TV)} {cs : List Prop}, qxC e l m ts = some cs → qVe cs → ∀ p ∈ ts, ∃ a, okG e l m p.2 = some a ∧ qVe a
  | [], _, _, _, p, hp => by cases hp
  | q :: r, cs, h, hc, p, hp => by
    simp only [qxC] at h
    split at h
    · rename_i a b ha hb
      simp only [Option.some.injEq] at h; subst h
      obtain ⟨h1, h2⟩ := qBg hc
      rcases List.mem_cons.1 hp with rfl | hp
      · exact ⟨a, ha, h1⟩
      · exact qGu hb h2 p hp
    · cases h
theorem Rel.putL (R : Rel c P GT nt T H K a w) {upd : List (Nat × Option Obj)} {K' : Kn} {w' : World} {l : Nat} (S : StpL c H K w upd l K' w') {dst : Option Nat} {v : TV} {u : Value} (hv : TVRd w' (NN c (qbb H upd) K' w') K' v u) (hd : qdi nt dst = true)
    (hok : ∀ t u, TVRd w (NN c H K w) K (T t) u → TVRd w' (NN c (qbb H upd) K' w') K' (T t) u) :
    Rel c P GT nt (qtq T dst v) (qbb H upd) K' (a.put dst u) w' := by
  have hsz : (ngOf GT) ≤ w'.heap.size := by
    have := S.inv.fr.size
    have := R.ng
    have := R.gng
    omega
  refine ⟨S.inv, fun t => ?_, ?_, ?_, R.ng, R.gng, R.glob.keep hsz (fun g hg => ((S.keep false).k g (R.glob_nn hg)).2)⟩
  · cases dst with
    | none => exact hok t _ (R.tmps t)
    | some d =>
      simp only [qdi, decide_eq_true_eq] at hd
      simp only [qtq]
      split
      · rename_i e
        subst e
        have : (a.put (some t) u).eval (.tmp t) = u := by
          simp [Act.put, Act.eval, R.size, hd]
        rw [this]; exact hv
      · rename_i e
        rw [Act.eval_put (fun d' hd' hx => e (by cases hd'; cases hx; rfl))]
        exact hok t _ (R.tmps t)
  · cases dst <;> simp [Act.put, R.size]
  · cases dst <;> simp [Act.put, R.defers]
end
end Go.Ab

/-
  A state brought into its form: what is no longer needed is let go, rows and boxes get their names.
-/
set_option linter.unusedVariables false
set_option linter.unusedSimpArgs false
namespace Go.Ab
open Go
def qPa : Code → Code
  | .seq a _ => a
  | c => c
def qha : Code → Code
  | .seq _ b => b
  | c => c
def cIn : Code → Code
  | .block _ b => b
  | .loop b => b
  | .scope b => b
  | c => c
def qoa (P : Program) (f : Nat) : Code := match P.funcs[f]? with
  | some fn => match fn.body with
    | some c => c
    | none => .skip
  | none => .skip
def qvr (P : Program) (f : Nat) : Nat := match P.funcs[f]? with
  | some fn => fn.ntmps
  | none => 0
section
variable {P : Program} {GT : qvf} {nt : Nat} {c : Cx} {H lk : qzb} {K K' : Kn} {w : World} {ren : List (Nat × Nat)} {lo : Bool} {N' : Bool → Nat → Prop}
theorem qxk {σ : St} : ∀ {ts : List Nat} {l : List (Nat × TV)} {t : Nat} {v : TV}, qhs σ ren lo ts = some l → lookL l t = some v → qfk (qAb σ.heap) ren lo (σ.look t) = some v
  | [], l, t, v, h, hl => by simp only [qhs, Option.some.injEq] at h; subst h; cases hl
  | a :: r, l, t, v, h, hl => by
    simp only [qhs] at h
    split at h
    · rename_i x vs e1 e2
      simp only [Option.some.injEq] at h; subst h
      simp only [lookL] at hl
      split at hl
      · rename_i e; subst e; simp only [Option.some.injEq] at hl; subst hl; exact e1
      · exact qxk e2 hl
    · cases h
theorem qWw {n n' o : Nat} : ∀ {ren : List (Nat × Nat)}, qsk (ren.map (·.2)) = true → (n, o) ∈ ren → (n', o) ∈ ren → n = n'
  | [], _, h, _ => by cases h
  | (a, b) :: r, hn, h, h' => by
    simp only [List.map_cons] at hn
    obtain ⟨h1, h2⟩ := qRl hn
    rcases List.mem_cons.1 h with e | h3
    · injection e with e1 e2; subst e1; subst e2
      rcases List.mem_cons.1 h' with e' | h4
      · injection e' with e1 _; exact e1.symm
      · exact (h1 (List.mem_map.2 ⟨_, h4, rfl⟩)).elim
    · rcases List.mem_cons.1 h' with e' | h4
      · injection e' with e1 e2; subst e1; subst e2
        exact (h1 (List.mem_map.2 ⟨_, h3, rfl⟩)).elim
      · exact qWw h2 h3 h4
theorem qGo {σ : St} {nx : Nat} {hl0 : List (Nat × Option Obj)} {a : Act} (R : RelS c P GT nt σ K a w) (hok : qDv ren nx = true) (e2 : qec (qAb σ.heap) ren lo ren = some hl0) :
    ∃ K' : Kn, KeepX c (qAb σ.heap) K K' w ren lo (fun _ => True) (NN c (qAb hl0) K' w) ∧ Inv c (qAb hl0) K' w ∧ (∀ l, l < 8 → K' l = K l) ∧ (∀ l, nx ≤ l → K' l = none) := by
  simp only [qDv, Bool.and_eq_true, List.all_eq_true, decide_eq_true_eq, Bool.or_eq_true, beq_iff_eq] at hok
  obtain ⟨⟨⟨h1, h2⟩, h3⟩, h8⟩ := hok
  let K' : Kn := fun l => if l < 8 then K l else match lookL ren l with
    | some o => K o
    | none => none
  have hK' : ∀ n o, (n, o) ∈ ren → K' n = K o := by
    intro n o hm
    have hl := qQl h1 hm
    have := (h3 _ hm).2
    simp only [K']
    split
    · rename_i hn
      rcases this with ⟨a1, _⟩ | a1
      · omega
      · simp only at a1; rw [a1]
    · rw [hl]
  have hO : ∀ n o, qAb hl0 n = some o → ∃ m o', (n, m) ∈ ren ∧ qAb σ.heap m = some o' ∧ qgh (qAb σ.heap) ren lo o' = some o := by
    intro n o hl
    unfold qAb at hl
    split at hl
    · rename_i x hx
      obtain ⟨m, o1, o2, g1, g2, g3, g4⟩ := qyk e2 hx
      subst hl
      injection g4 with g4; subst g4
      exact ⟨m, o1, g1, g2, g3⟩
    · cases hl
  have hlive : ∀ b, qJb (qAb hl0) K' b → ∃ l o gh p, (∃ n, (n, l) ∈ ren) ∧ qAb σ.heap l = some o ∧ K l = some gh ∧ Has gh p ∧ p.blk = b := by
    rintro b ⟨l, o, gh, p, q1, q2, q3, q4⟩
    obtain ⟨m, o', m1, m2, m3⟩ := hO l o q1
    rw [hK' l m m1] at q2
    exact ⟨m, o', gh, p, ⟨l, m1⟩, m2, q2, q3, q4⟩
  have X : KeepX c (qAb σ.heap) K K' w ren lo (fun _ => True) (NN c (qAb hl0) K' w) := by
    refine ⟨fun fr b hb => ?_, fun l n hn => hK' n l (qko hn), fun l o gh p _ hn q1 q2 q3 fr => ?_⟩
    · have h1 : NN c (qAb hl0) K' w fr b := ⟨hb.1, fun hn => by
        obtain ⟨l, o, gh, p, _, q⟩ := hlive b hn
        exact hb.2.1 ⟨l, o, gh, p, q⟩, hb.2.2⟩
      cases fr <;> cases lo <;> first | exact h1 | exact NN.low b h1
    · have ho := R.rel.inv.own l o gh p q1 q2 q3
      refine ⟨ho.1, fun hn2 => ?_, ho.2.1.imp id .inl⟩
      obtain ⟨l', o', gh', p', ⟨n', m1⟩, m2, m3, m4, m5⟩ := hlive _ hn2
      have := R.rel.inv.inj l' l o' o gh' gh p' p m2 q1 m3 q2 m4 q3 m5
      subst this
      exact qBj hn n' m1
  refine ⟨K', X, ⟨fun l o hl => ?_, fun l o gh p q1 q2 q3 => ?_, fun l l' o o' gh gh' p p' q1 q2 q3 q4 q5 q6 q7 => ?_, R.rel.inv.fr⟩, fun l hl => by simp only [K', hl, if_true], fun l hl => ?_⟩
  · obtain ⟨m, o', m1, m2, m3⟩ := hO l o hl
    obtain ⟨gh, g1, g2⟩ := R.rel.inv.objs m o' m2
    exact ⟨gh, by rw [hK' l m m1]; exact g1, qNu X R.rel.inv (fun _ _ h => h) (fun _ _ => trivial) m3 g2⟩
  · obtain ⟨m, o', m1, m2, m3⟩ := hO l o q1
    rw [hK' l m m1] at q2
    exact R.rel.inv.own m o' gh p m2 q2 q3
  · obtain ⟨m, o1, m1, m2, _⟩ := hO l o q1
    obtain ⟨m', o2, m3, m4, _⟩ := hO l' o' q2
    rw [hK' l m m1] at q3
    rw [hK' l' m' m3] at q4
    have e := R.rel.inv.inj m m' o1 o2 gh gh' p p' m2 m4 q3 q4 q5 q6 q7
    subst e
    exact qWw h2 m1 m3
  · have hl8 : ¬ l < 8 := by omega
    simp only [K', hl8, if_false]
    cases hx : lookL ren l with
    | none => rfl
    | some o =>
      exfalso
      have := (h3 _ (qEb hx)).1
      simp only at this
      omega
theorem qTv {σ σ' : St} {ts : List Nat} {nx : Nat} (h : σ.keep ts ren nx lo = some σ') (todo : List Item) : Reach P GT nt ⟨todo, σ⟩ ⟨todo, σ'⟩ := by
  intro c K a w b cs R
  unfold St.keep at h
  split at h
  · rename_i hok
    split at h
    · rename_i tl hl0 e1 e2
      simp only [Option.some.injEq] at h; subst h
      obtain ⟨K', X, hI, h8, hx⟩ := qGo R hok e2
      refine ⟨K', a, w, ⟨⟨hI, fun t => ?_, R.rel.size, R.rel.defers, R.rel.ng, R.rel.gng, R.rel.glob⟩, fun l hl => hx l hl⟩, fun l gh hl hkl => by rw [h8 l hl]; exact hkl, Steps.refl _ _⟩
      show TVRd w (NN c (qAb hl0) K' w) K' (St.look ⟨tl, hl0, nx⟩ t) _
      unfold St.look
      split
      · rename_i v hv
        exact qIo X R.rel.inv (fun _ _ h => h) (fun _ _ => trivial) (qxk e1 hv) (R.rel.tmps t)
      · trivial
    · cases h
  · cases h
def qVv : List Item → Bool
  | [] => true
  | .code .ret :: _ => true
  | _ => false
theorem qUv {todo : List Item} (h : qVv todo = true) : todo = [] ∨ ∃ k, todo = .code .ret :: k := by
  unfold qVv at h
  split at h
  · exact .inl rfl
  · exact .inr ⟨_, rfl⟩
  · cases h
def AVle (a b : AV) : Prop := ∀ (w : World) (N : Bool → Nat → Prop) (K : Kn) (v : Value), VRd w N K a v → VRd w N K b v
theorem AVle.refl (a : AV) : AVle a a := fun _ _ _ _ h => h
def AVsLe : List AV → List AV → Prop
  | [], [] => True
  | a :: as, b :: bs => AVle a b ∧ AVsLe as bs
  | _, _ => False
theorem AVsLe.refl : ∀ (as : List AV), AVsLe as as
  | [] => trivial
  | a :: as => ⟨AVle.refl a, AVsLe.refl as⟩
theorem AVsLe.append : ∀ {a a' b b' : List AV}, AVsLe a a' → AVsLe b b' → AVsLe (a ++ b) (a' ++ b')
  | [], [], _, _, _, h => h
  | _ :: _, _ :: _, _, _, h, h' => ⟨h.1, h.2.append h'⟩
  | [], _ :: _, _, _, h, _ => h.elim
  | _ :: _, [], _, _, h, _ => h.elim
theorem AVsLe.rd {w : World} {N : Bool → Nat → Prop} {K : Kn} : ∀ {as bs : List AV} {vs : List Value}, AVsLe as bs → VRdL w N K as vs → VRdL w N K bs vs
  | [], [], _, _, h => h
  | a :: as, b :: bs, vs, h, hv => by
    obtain ⟨v, q, e, h1, h2⟩ := hv
    exact ⟨v, q, e, h.1 _ _ _ _ h1, h.2.rd h2⟩
  | [], _ :: _, _, h, _ => h.elim
  | _ :: _, [], _, h, _ => h.elim
def TVle : TV → TV → Prop
  | .one a, .one b => AVle a b
  | .tup as, .tup bs => AVsLe as bs
  | _, _ => False
theorem TVle.rd {w : World} {N : Bool → Nat → Prop} {K : Kn} {a b : TV} {v : Value} (h : TVle a b) (hv : TVRd w N K a v) : TVRd w N K b v := by
  cases a <;> cases b <;> first | exact h _ _ _ _ hv | exact h.elim | skip
  obtain ⟨vs, e, h1⟩ := hv
  exact ⟨vs, e, AVsLe.rd h h1⟩
def qgD (P : Program) (GT : qvf) (nt : Nat) (rs : List ResultVar) (s : Pos) (res : TV) (post : List (Nat × Obj)) : Prop :=
  ∀ (c : Cx) (K : Kn) (a : Act) (w : World) (b : Frame) (cs : List Frame), RelS c P GT nt s.st K a w →
    ∃ (s' : Pos) (res0 res1 : TV) (ren : List (Nat × Nat)) (nx : Nat) (lo : Bool) (K' : Kn) (a' : Act) (w' : World), RelS c P GT nt s'.st K' a' w' ∧ (∀ l gh, l < 8 → K l = some gh → K' l = some gh) ∧
      Steps P (lone (b.at a s.todo) cs w) (lone (b.at a' s'.todo) cs w') ∧ qVv s'.todo = true ∧ qet P s'.st rs = some res0 ∧ qDv ren nx = true ∧ qfk (qAb s'.st.heap) ren lo res0 = some res1 ∧ TVle res1 res ∧ qec (qAb s'.st.heap) ren lo ren = some (qRb post)
def qEl : List (Nat × Option Obj) → Option (List (Nat × Obj))
  | [] => some []
  | (l, some o) :: r => match qEl r with
    | some os => some ((l, o) :: os)
    | none => none
  | _ => none
theorem qtm : ∀ {h : List (Nat × Option Obj)} {os : List (Nat × Obj)}, qEl h = some os → h = qRb os
  | [], os, h => by simp only [qEl, Option.some.injEq] at h; subst h; rfl
  | (l, some o) :: r, os, h => by
    simp only [qEl] at h
    split at h
    · rename_i os' e
      simp only [Option.some.injEq] at h; subst h
      rw [qtm e]; rfl
    · cases h
  | (l, none) :: r, os, h => by simp [qEl] at h
theorem qVt {f : Nat} {fn : Func} {body : Code} {args : List AV} {pre post : List (Nat × Obj)} {res : TV}
    (hf : P.funcs[f]? = some fn) (hb : fn.body = some body) (hnm : (fn.name == "runtime.NumGoroutine") = false) (hnt : args.length ≤ fn.ntmps) (hp : pre.all (fun p => decide (p.1 < 8)) = true)
    (h : qgD P GT fn.ntmps fn.results.toList ⟨[.code body], st0 args pre⟩ res post) : CallOK P GT f args pre res post := by
  intro w F G K vs hglob hinv hG hK hF hargs
  have hlen := hargs.len
  have hcf : (callFunc f vs.toArray).run P w = .ok (.enter f vs.toArray) w := by
    have hnm' : ¬ fn.name = "runtime.NumGoroutine" := by simpa using hnm
    simp [callFunc, hf, hnm', hb]
  unfold qLm
  rw [hcf]
  intro cs
  let b : Frame := { (default : Frame) with fn := f, kind := .normal }
  let a0 : Act := { tmps := vs.toArray ++ Array.replicate (fn.ntmps - vs.toArray.size) undef, defers := [] }
  have henter : Frame.enter P f vs.toArray .normal = b.at a0 [.code body] := by
    simp [Frame.enter, Frame.at, hf, hb, b, a0]
  have hK8 : ∀ l, 8 ≤ l → K l = none := by
    intro l hl
    refine hK l (qYl (fun hm => ?_))
    obtain ⟨p, h1, h2⟩ := List.mem_map.1 hm
    have := List.all_eq_true.1 hp p h1
    simp only [decide_eq_true_eq] at this
    omega
  have R0 : RelS ⟨w, F, G, (ngOf GT), []⟩ P GT fn.ntmps (st0 args pre) K a0 w := by
    refine ⟨⟨?_, fun t => ?_, ?_, rfl, hglob.1, rfl, hglob⟩, hK8⟩
    · show Inv _ (qAb (qRb pre)) K w
      rw [qZl]; exact hinv
    · show TVRd w (NN _ (qAb (qRb pre)) K w) K _ _
      rw [qZl]
      simp only [St.look, st0, qcq, Nat.zero_le, if_true, Nat.sub_zero]
      cases ht : args[t]? with
      | none => trivial
      | some v =>
        simp only [Option.map_some]
        obtain ⟨u, hu, hr⟩ := hargs.get ht
        have : a0.eval (.tmp t) = u := by
          have htl : t < vs.length := (List.getElem?_eq_some_iff.1 hu).1
          simp only [Act.eval, a0, Array.getD_eq_getD_getElem?]
          rw [Array.getElem?_append_left (by simpa using htl)]
          simp [hu]
        rw [this]; exact hr
    · simp only [a0, Array.size_append, List.size_toArray, Array.size_replicate]
      omega
  obtain ⟨⟨todo, σ'⟩, res0, res1, ren, nx, lo, K1, a', w', R', hm', hst, ht, hres, hok, e1, ele, e2⟩ := h _ K a0 w b cs R0
  obtain ⟨v, hv1, hv2⟩ := qfz R' hres
  obtain ⟨K2, X, hI, h8, hx⟩ := qGo R' hok e2
  rw [qZl] at X hI
  rw [← henter] at hst
  have hR : ∃ v', Ending.returned v = .returned v' ∧ (∃ K', (∀ l gh, K l = some gh → K' l = some gh) ∧ Inv ⟨w, F, G, (ngOf GT), []⟩ (lookL post) K' w' ∧ TVRd w' (NN ⟨w, F, G, (ngOf GT), []⟩ (lookL post) K' w') K' res v') := by
    refine ⟨v, rfl, K2, fun l gh hl => ?_, hI, ele.rd (qIo X R'.rel.inv (fun _ _ h => h) (fun _ _ => trivial) e1 hv2)⟩
    by_cases hl8 : l < 8
    · rw [h8 l hl8]; exact hm' l gh hl8 hl
    · rw [hK8 l (by omega)] at hl; cases hl
  rcases qUv ht with h0 | ⟨k, h0⟩
  · simp only at h0; subst h0
    exact ⟨.returned v, w', _, hR, Steps.trans hst (.one step_end), rfl, rfl, R'.rel.defers, rfl, fn, hf, hv1⟩
  · simp only at h0; subst h0
    exact ⟨.returned v, w', _, hR, Steps.trans hst (.one step_ret), rfl, rfl, R'.rel.defers, rfl, fn, hf, hv1⟩
def qCB (P : Program) (f : Nat) : List ResultVar := match P.funcs[f]? with
  | some fn => fn.results.toList
  | none => []
def qAC (P : Program) (f : Nat) (n : Nat) : Bool := match P.funcs[f]? with
  | some fn => fn.body.isSome && !(fn.name == "runtime.NumGoroutine") && decide (n ≤ fn.ntmps)
  | none => false
theorem qCy {f : Nat} {args : List AV} {pre post : List (Nat × Obj)} {res : TV} (hok : qAC P f args.length = true) (hp : pre.all (fun p => decide (p.1 < 8)) = true)
    (h : qgD P GT (qvr P f) (qCB P f) ⟨[.code (qoa P f)], st0 args pre⟩ res post) : CallOK P GT f args pre res post := by
  unfold qAC at hok
  split at hok
  · rename_i fn hf
    simp only [Bool.and_eq_true, Bool.not_eq_true', decide_eq_true_eq] at hok
    obtain ⟨⟨h1, h2⟩, h3⟩ := hok
    obtain ⟨body, hb⟩ := Option.isSome_iff_exists.1 h1
    refine qVt hf hb h2 h3 hp ?_
    simpa [qvr, qCB, qoa, hf, hb] using h
  · cases hok
end
end Go.Ab

/-
  Plain functions that the printed functions use.
-/
set_option linter.unusedVariables false
namespace Go.Ab
open Go
def qnh (k : IntKind) (a b : Int) : Int := a.fdiv (2 ^ (min b.toNat k.bits))
def qDA (k : IntKind) (a b : Int) : Int := a * 2 ^ (min b.toNat k.bits)
def qqb (k : IntKind) (x y : Int) : Int := k.wrap (BitVec.ofInt k.bits x &&& BitVec.ofInt k.bits y).toNat
def qrc (k : IntKind) (x y : Int) : Int := k.wrap (BitVec.ofInt k.bits x ||| BitVec.ofInt k.bits y).toNat
def qnb (k : IntKind) (x y : Int) : Int := k.wrap (BitVec.ofInt k.bits x ^^^ BitVec.ofInt k.bits y).toNat
end Go.Ab

/-
  Operations whose answer Go leaves open: a slice held against nil, new memory of whatever bytes.
-/
set_option linter.unusedVariables false
set_option linter.unusedSimpArgs false
namespace Go.Ab
open Go
structure AnyO : Type 1 where
  pre : List Prop
  R : Type
  p : R → Prop
  out : R → Out
def quw (P : Program) (f : Nat) : Prop := ∃ fn ps t e, P.funcs[f]? = some fn ∧ (fn.name == "runtime.NumGoroutine") = false ∧ fn.body.isNone = true ∧ Extern.findNext fn = none ∧
  Extern.find fn = some (Extern.BytealgMakeNoZero.makeNoZero ps #[t]) ∧ P.underlying t = some (.slice e)
def qJy (P : Program) (mnz : List Nat) (ev : Operand → TV) (nl : Nat) (op : Op) : Option AnyO :=
  match op with
  | .binOp op T x y _ => match ev1 ev x, ev1 ev y with
    | some (.sl e fr xs), some .nil => if qai P T then match op with
        | .eql => some ⟨[], Bool, fun b => b = true → xs = [], fun b => ⟨.one (.bool b), [], []⟩⟩
        | .neq => some ⟨[], Bool, fun b => b = false → xs = [], fun b => ⟨.one (.bool b), [], []⟩⟩
        | _ => none
      else none
    | some (.ref e l off len wh), some .nil => if qai P T then match op with
        | .eql => some ⟨[], Bool, fun b => b = true → len = 0, fun b => ⟨.one (.bool b), [], []⟩⟩
        | .neq => some ⟨[], Bool, fun b => b = false → len = 0, fun b => ⟨.one (.bool b), [], []⟩⟩
        | _ => none
      else none
    | _, _ => none
  | .call { callee := .value f, args, argTypes := _ } => match ev1 ev f, evs ev args.toList with
    | some (.func f []), some [.int .i64 n] => if mnz.contains f then
        some ⟨[0 ≤ n, n ≤ 140737488355328], List Int, fun xs => xs.length = n.toNat, fun xs => ⟨.one (.ref (.int .u8) nl 0 xs.length true), [(nl, some (.row (.int .u8) true xs))], []⟩⟩
      else none
    | _, _ => none
  | _ => none
section
variable {c : Cx} {P : Program} {GT : qvf} {H lk : qzb} {K : Kn} {w : World} {ev : Operand → TV} {ρ : Operand → Value} {nl : Nat}
theorem qVo : ∀ (n t : Nat) (acc : Array Value) (xs : List Int), acc.toList = xs.map (Value.int .u8) → ∃ ys : List Int, (Extern.BytealgMakeNoZero.digits n t acc).toList = ys.map (Value.int .u8)
  | 0, _, acc, xs, h => ⟨xs, h⟩
  | n + 1, t, acc, xs, h => by
    rw [Extern.BytealgMakeNoZero.digits]
    exact qVo n _ _ (xs ++ [Int.ofNat (t % 256)]) (by simp [h])
theorem qEA (ps : Array TypeId) (t e : TypeId) (ht : P.underlying t = some (.slice e)) (n : Nat) (hn : n ≤ 140737488355328) :
    ∃ (cs : Array Value) (ys : List Int), cs.toList = ys.map (Value.int .u8) ∧ (Extern.BytealgMakeNoZero.makeNoZero ps #[t] #[.int .i64 n]).run P w = .ok (.slice (some ⟨w.heap.size, 0, none⟩) n cs.size) (w.drew.drew.alloc (.cells cs e)) ∧ n ≤ cs.size := by
  have hdef : Extern.BytealgMakeNoZero.makeNoZero ps #[t] #[.int .i64 n] =
      (do
        let .slice elem ← underlying t | stuck "bytealg.MakeNoZero: slice type expected"
        if (n : Int) < 0 || (n : Int) > 2 ^ 48 then runtimePanic (.error "makeslice: len out of range")
        let cap ← choose (.appendCap (n : Int).toNat 0 elem)
        askRoom cap
        let bytes ← choose (.extern "internal/bytealg.MakeNoZero.bytes" 0)
        let a ← newRow elem (Extern.BytealgMakeNoZero.digits cap bytes #[])
        pure (.slice (some a) (n : Int).toNat cap)) := rfl
  obtain ⟨ys, hys⟩ := qVo (grownCap w n 0 e) ((Question.extern "internal/bytealg.MakeNoZero.bytes" 0).cut (w.tape (w.drawn + 1) (.extern "internal/bytealg.MakeNoZero.bytes" 0))) #[] [] rfl
  refine ⟨_, ys, hys, ?_, ?_⟩
  · rw [hdef]
    have h1 : ¬ (n : Int) < 0 := by omega
    have h2 : ¬ (281474976710656 : Int) < (n : Int) := by omega
    simp [run_underlying ht, h1, h2, Question.forced, newRow, Lib.size_digits, grownCap]
  · rw [Lib.size_digits]
    simpa using grownCap_ge w n 0 e
theorem qIy (A : At c P GT H lk K w ev ρ nl) {mnz : List Nat} (hm : ∀ f ∈ mnz, quw P f) {o : Oper} {a : AnyO} (h : qJy P mnz ev nl o.op = some a) (hc : qVe a.pre) :
    Does P o ρ w (fun v w' => ∃ x, a.p x ∧ Lands c H K w nl (a.out x) v w') := by
  unfold qJy at h
  split at h
  · rename_i op T x y T' ho
    have hnil : ∀ {n cp : Nat} {A0 : Option Addr} {q : Value}, VRd w (NN c H K w) K .nil (ρ y) → ρ x = .slice A0 n cp → qai P T = true →
        (op = .eql → (execOp ρ o).run P w = .ok (.value (.bool A0.isNone)) w) ∧ (op = .neq → (execOp ρ o).run P w = .ok (.value (.bool (!A0.isNone))) w) := by
      intro n cp A0 q h2 h1 hd
      simp only [VRd] at h2
      obtain ⟨e', hd'⟩ := qXi hd
      have heq := qxe 9999 (w := w) (a := A0) (n := n) (c := cp) hd'
      constructor
      · rintro rfl
        simp only [execOp, ho, h1, h2]
        rw [Sem.run_bind, Sem.run_bind, quf]
        simp only [binOp, Op.equal, Op.maxDepth, Sem.run_bind, heq, Result.andThen_ok, Sem.run_pure]
      · rintro rfl
        simp only [execOp, ho, h1, h2]
        rw [Sem.run_bind, Sem.run_bind, quf]
        simp only [binOp, Op.equal, Op.maxDepth, Sem.run_bind, heq, Result.andThen_ok, Sem.run_pure]
    split at h
    · rename_i e fr xs hx hy
      split at h
      · rename_i hd
        obtain ⟨A0, cap, e1, hl, hb⟩ := A.one hx
        simp only [List.cons.injEq, and_true] at e1
        have hk : A0.isNone = true → xs = [] := by
          intro hA
          rcases hb with hb | ⟨b, o', cl, e2, _⟩
          · exact hb
          · subst e2; cases hA
        split at h
        · simp only [Option.some.injEq] at h; subst h
          refine Does.value ((hnil (q := undef) (A.one hy) e1 hd).1 rfl) ⟨A0.isNone, hk, Lands.one A.inv rfl⟩
        · simp only [Option.some.injEq] at h; subst h
          refine Does.value ((hnil (q := undef) (A.one hy) e1 hd).2 rfl) ⟨!A0.isNone, fun hb => hk (by simpa using hb), Lands.one A.inv rfl⟩
        · cases h
      · cases h
    · rename_i e l off len wh hx hy
      split at h
      · rename_i hd
        have hr : ∃ A0 cp, ρ x = .slice A0 len cp ∧ (A0.isNone = true → len = 0) := by
          obtain ⟨n, pl, h1, h2, h3, h4⟩ := A.one hx
          cases pl with
          | none =>
            obtain ⟨e1, rfl⟩ := h4
            have : len = 0 := by omega
            subst this
            exact ⟨none, 0, e1, fun _ => rfl⟩
          | some p =>
            obtain ⟨o', cap, e1, _⟩ := h4
            exact ⟨_, cap, e1, fun hA => by cases hA⟩
        obtain ⟨A0, cp, e1, hk⟩ := hr
        split at h
        · simp only [Option.some.injEq] at h; subst h
          refine Does.value ((hnil (q := undef) (A.one hy) e1 hd).1 rfl) ⟨A0.isNone, hk, Lands.one A.inv rfl⟩
        · simp only [Option.some.injEq] at h; subst h
          refine Does.value ((hnil (q := undef) (A.one hy) e1 hd).2 rfl) ⟨!A0.isNone, fun hb => hk (by simpa using hb), Lands.one A.inv rfl⟩
        · cases h
      · cases h
    · cases h
  · rename_i f args ats ho
    split at h
    · rename_i g n hf hvs
      split at h
      · rename_i hg
        simp only [Option.some.injEq] at h; subst h
        obtain ⟨c0, c1, _⟩ := hc
        obtain ⟨fn, ps, t, e, g1, g2, g3, g4, g5, g6⟩ := hm g (by simpa using hg)
        obtain ⟨cvs, h1, h2⟩ := A.one hf
        simp only [capsRd] at h2; subst h2
        have hv := qeq A hvs
        obtain ⟨u, hu, hun⟩ := hv.one_inv
        simp only [VRd] at hun; subst hun
        obtain ⟨m, rfl⟩ := Int.eq_ofNat_of_zero_le c0
        obtain ⟨cs, ys, hcs, hrun, hle⟩ := qEA (P := P) (w := w) ps t e g6 m (by omega)
        have harr : (args.map ρ ++ #[]) = #[Value.int .i64 (m : Int)] := by
          apply Array.ext'; simp [hu]
        have hex : (execOp ρ o).run P w = (callFunc g #[Value.int .i64 (m : Int)]).run P w := by
          simp only [execOp, ho, resolve, h1, Deferred.ofValue, invoke, pure_bind]
          rw [← harr]
          simp
        rw [run_callFunc_extern g1 g2 g3 g4 g5, hrun] at hex
        refine Does.value hex ⟨ys.take m, ?_, ?_⟩
        · have hln : ys.length = cs.size := by rw [← Array.length_toList, hcs]; simp
          simp; omega
        · have hln : ys.length = cs.size := by rw [← Array.length_toList, hcs]; simp
          have hlt : (ys.take m).length = m := by simp; omega
          have hab := InBlk.new w.drew.drew cs e
          rw [hcs] at hab
          have hsp : ys.map (Value.int .u8) = (ys.take m).map (Value.int .u8) ++ (ys.drop m).map (Value.int .u8) := by rw [← List.map_append, List.take_append_drop]
          rw [hsp] at hab
          have hfn := A.fresh nl (Nat.le_refl _) (by omega)
          refine ⟨_, qgl (w := w) (w' := w.drew.drew.alloc (.cells cs e)) A.inv A.ng ⟨Nat.le_refl _, by omega⟩ hfn (e := .int .u8) (fr := true) (xs := ys.take m) (p := ⟨w.heap.size, 0, cs.size⟩) (cs := (ys.take m).map (Value.int .u8)) (qdb w.drew.drew _) ⟨Nat.le_refl _, by rw [qSa]; exact Nat.lt_succ_self _⟩ hab.front (qrl _), ?_⟩
          show RefRd _ _ _ _ _ _ _
          rw [hlt]
          exact qMi (p := ⟨w.heap.size, 0, cs.size⟩) rfl hle (.inr (by simp [Ty.sz]))
      · cases h
    · cases h
  · cases h
end
end Go.Ab

/-
  The forms of results: what a function returns, and leaves, as plain values.
-/
set_option linter.unusedVariables false
set_option linter.unusedSimpArgs false
namespace Go.Ab
open Go
inductive SF
  | pu | nw | kp (n : Nat)
inductive FI
  | val (t : Ty) (sf : List SF)
  | err (T : Nat) (k : IntKind)
  | box (j : Nat) (t : Ty) (sf : List SF)
  | row (j : Nat) (e : Ty)
  | map (j : Nat) (k v : Ty)
  | cmap (j n : Nat)
  | fams (j : Nat) (a e : Ty)
  | part (e : Ty)
  | sub (j : Nat) (e : Ty)
  | cst (v : AV)
  | cfn (j f : Nat) (caps : List Nat)
  | clo (f : Nat) (t : Ty)
@[reducible] def FI.den : FI → Type
  | .val t _ => qFa t
  | .err _ _ => Option Int
  | .box _ t _ => qFa t
  | .row _ e => List (qFa e)
  | .map _ k v => List (qFa k × qFa v)
  | .cmap _ _ => Unit
  | .fams _ a e => List (qFa a × List (qFa e))
  | .part e => List (qFa e) × Nat × Nat
  | .sub _ _ => Nat × Nat
  | .cst _ => Unit
  | .cfn _ _ _ => Unit
  | .clo _ t => qFa t
@[reducible] def PT : List FI → Type
  | [] => Unit
  | [a] => a.den
  | a :: b :: r => a.den × PT (b :: r)
def qcB (fr : Bool) : (t : Ty) → qFa t → List SF → Nat → qfd t × List SF × Nat
  | .pair a b, x, sf, k => match qcB fr a x.1 sf k with
    | (u, sf1, k1) => match qcB fr b x.2 sf1 k1 with
      | (v, sf2, k2) => ((u, v), sf2, k2)
  | .slice _, xs, sf, k => match sf with
    | .nw :: r => (.ref k 0 xs.length true, r, k + 1)
    | .kp n :: r => (.ref n 0 xs.length true, r, k)
    | .pu :: r => (.pure fr xs, r, k)
    | [] => (.pure fr xs, [], k)
  | .int _, x, sf, k => (x, sf, k)
  | .bool, x, sf, k => (x, sf, k)
  | .str, x, sf, k => (x, sf, k)
  | .arr _ _, x, sf, k => (x, sf, k)
  | .unit, x, sf, k => (x, sf, k)
  | .fn, x, sf, k => (x, sf, k)
def qdt (fr : Bool) : (t : Ty) → qFa t → List SF → Nat → List (Nat × Obj)
  | .pair a b, x, sf, k => match qcB fr a x.1 sf k with
    | (_, sf1, k1) => qdt fr a x.1 sf k ++ qdt fr b x.2 sf1 k1
  | .slice e, xs, sf, k => match sf with
    | .nw :: _ => [(k, .row e fr xs)]
    | _ => []
  | _, _, _, _ => []
structure Enc where
  vs : List AV
  os : List (Nat × Obj)
  rs : List (Nat × Obj)
  k : Nat
def qfq (fr : Bool) : (i : FI) → i.den → Nat → Enc
  | .val t sf, x, k => match qcB fr t x sf k with
    | (u, _, k') => ⟨[qXs t u], [], qdt fr t x sf k, k'⟩
  | .err T ki, x, k => ⟨[.eri T ki x], [], [], k⟩
  | .box j t sf, x, k => match qcB fr t x sf k with
    | (u, _, k') => ⟨[], [(j, .box t u)], qdt fr t x sf k, k'⟩
  | .row j e, xs, k => ⟨[], [(j, .row e fr xs)], [], k⟩
  | .map j kt vt, es, k => ⟨[], [(j, .map kt vt es)], [], k⟩
  | .fams j a e, xs, k => ⟨[], [(j, .famS a e xs)], [], k⟩
  | .cmap j n, _, k => ⟨[], [(j, .cell (.mapr n))], [], k⟩
  | .part e, x, k => ⟨[.ref e k x.2.1 x.2.2 false], [], [(k, .row e fr x.1)], k + 1⟩
  | .sub j e, x, k => ⟨[.ref e j x.1 x.2 false], [], [], k⟩
  | .cst v, _, k => ⟨[v], [], [], k⟩
  | .cfn j f caps, _, k => ⟨[], [(j, .cell (.func f caps))], [], k⟩
  | .clo f t, x, k => ⟨[.func f [k]], [], [(k, .box t (inj fr t x))], k + 1⟩
def qey (fr : Bool) : (is : List FI) → PT is → Nat → Enc
  | [], _, k => ⟨[], [], [], k⟩
  | [a], x, k => qfq fr a x k
  | a :: b :: r, x, k => match qfq fr a x.1 k with
    | e1 => match qey fr (b :: r) x.2 e1.k with
      | e2 => ⟨e1.vs ++ e2.vs, e1.os ++ e2.os, e1.rs ++ e2.rs, e2.k⟩
def qSy : List AV → TV
  | [v] => .one v
  | vs => .tup vs
structure Fm where
  fr : Bool
  is : List FI
@[reducible] def Fm.R (F : Fm) : Type := PT F.is
def Fm.res (F : Fm) (r : F.R) : TV := qSy (qey F.fr F.is r 8).vs
def Fm.post (F : Fm) (r : F.R) : List (Nat × Obj) := (qey F.fr F.is r 8).os ++ (qey F.fr F.is r 8).rs
def qow : (t : Ty) → qfd t → List SF → Nat → List (Nat × Nat) × List SF × Nat
  | .pair a b, x, sf, k => match qow a x.1 sf k with
    | (r1, sf1, k1) => match qow b x.2 sf1 k1 with
      | (r2, sf2, k2) => (r1 ++ r2, sf2, k2)
  | .slice _, v, sf, k => match sf with
    | .nw :: r => match v with
      | .ref l _ _ _ => ([(k, l)], r, k + 1)
      | _ => ([], r, k + 1)
    | _ :: r => ([], r, k)
    | [] => ([], [], k)
  | .int _, _, sf, k => ([], sf, k)
  | .bool, _, sf, k => ([], sf, k)
  | .str, _, sf, k => ([], sf, k)
  | .arr _ _, _, sf, k => ([], sf, k)
  | .unit, _, sf, k => ([], sf, k)
  | .fn, _, sf, k => ([], sf, k)
def outA (lk : qzb) (ren : List (Nat × Nat)) (fr : Bool) : (t : Ty) → qfd t → List SF → Nat → Option (qFa t × List SF × Nat)
  | .pair a b, x, sf, k => match outA lk ren fr a x.1 sf k with
    | some (u, sf1, k1) => match outA lk ren fr b x.2 sf1 k1 with
      | some (v, sf2, k2) => some ((u, v), sf2, k2)
      | none => none
    | none => none
  | .slice e, v, sf, k => match v with
    | .pure f xs => match sf with
      | .pu :: r => if f || !fr then some (xs, r, k) else none
      | [] => if f || !fr then some (xs, [], k) else none
      | _ => none
    | .ref l off len wh => match qgn lk e l with
      | some (f, xs) => match sf with
        | .nw :: r => if wh && (qLd ren l == some k) && (f || !fr) && (qLi lk e l).isSome then some (xs, r, k + 1) else none
        | .kp n :: r => if wh && (qLd ren l == some n) then some (xs, r, k) else none
        | .pu :: r => if (qLd ren l).isNone && (f || e.flat || !fr) then some (seg xs off len wh, r, k) else none
        | [] => if (qLd ren l).isNone && (f || e.flat || !fr) then some (seg xs off len wh, [], k) else none
      | none => none
    | _ => none
  | .int _, x, sf, k => some (x, sf, k)
  | .bool, x, sf, k => some (x, sf, k)
  | .str, x, sf, k => some (x, sf, k)
  | .arr _ _, x, sf, k => some (x, sf, k)
  | .unit, x, sf, k => some (x, sf, k)
  | .fn, x, sf, k => some (x, sf, k)
def qlB : AV → Bool
  | .agg _ _ => true
  | _ => false
def qyB : (t : Ty) → qfd t → qfd t → Bool
  | .pair a b, x, y => qyB a x.1 y.1 && qyB b x.2 y.2
  | .unit, _, _ => true
  | .fn, x, y => match x, y with
    | some f, some g => f == g
    | none, none => true
    | _, _ => false
  | _, _, _ => false
def qWC : AV → AV → Bool
  | .agg t x, .agg t' y => if h : t' = t then qyB t x (h ▸ y) else false
  | .func f [], .func g [] => f == g
  | .nilFunc, .nilFunc => true
  | _, _ => false
def qip (fr : Bool) : (t : Ty) → qfd t → Bool
  | .pair a b, x => qip fr a x.1 && qip fr b x.2
  | .slice _, v => match v with
    | .pure f _ => f == fr
    | _ => false
  | _, _ => true
def qir (lk : qzb) : FI → List AV → Nat → List (Nat × Nat) × List AV × Nat
  | .val t sf, v :: vs, k => match qZj t v with
    | some x => match qow t x sf k with
      | (r, _, k') => (r, vs, k')
    | none => ([], vs, k)
  | .err _ _, _ :: vs, k => ([], vs, k)
  | .part _, v :: vs, k => match v with
    | .ref _ l _ _ _ => ([(k, l)], vs, k + 1)
    | _ => ([], vs, k + 1)
  | .cst _, _ :: vs, k => ([], vs, k)
  | .sub _ _, _ :: vs, k => ([], vs, k)
  | .clo _ _, v :: vs, k => match v with
    | .func _ [l] => ([(k, l)], vs, k + 1)
    | _ => ([], vs, k + 1)
  | .box j t sf, vs, k => match lk j with
    | some (.box t' x) => match qow t' x sf k with
      | (r, _, k') => (r, vs, k')
    | _ => ([], vs, k)
  | _, vs, k => ([], vs, k)
def qxy (lk : qzb) : List FI → List AV → Nat → List (Nat × Nat)
  | [], _, _ => []
  | a :: r, vs, k => match qir lk a vs k with
    | (r1, vs1, k1) => r1 ++ qxy lk r vs1 k1
def qmn (lk : qzb) (ren : List (Nat × Nat)) (fr : Bool) : (i : FI) → List AV → Nat → Option (i.den × List AV × Nat)
  | .val t sf, v :: vs, k => match qZj t v with
    | some x => if qlB v == t.agg then match outA lk ren fr t x sf k with
        | some (u, _, k') => some (u, vs, k')
        | none => none
      else none
    | none => none
  | .err T ki, .errno T' ki' n :: vs, k => if T = T' ∧ ki = ki' then some (some n, vs, k) else none
  | .err T ki, .nilIface :: vs, k => some (none, vs, k)
  | .err T ki, .eri T' ki' x :: vs, k => if T = T' ∧ ki = ki' then some (x, vs, k) else none
  | .box j t sf, vs, k => match lk j with
    | some (.box t' x) => if h : t' = t then match outA lk ren fr t (h ▸ x) sf k with
        | some (u, _, k') => some (u, vs, k')
        | none => none
      else none
    | _ => none
  | .row j e, vs, k => match qLi lk e j with
    | some (f, xs) => if f || !fr then some (xs, vs, k) else none
    | none => none
  | .map j kt vt, vs, k => match lk j with
    | some (.map k' v' es) => if h : kt = k' ∧ vt = v' then some (h.1 ▸ h.2 ▸ es, vs, k) else none
    | _ => none
  | .fams j a e, vs, k => match lk j with
    | some (.famS a' e' xs) => if h : a = a' ∧ e = e' then some (h.1 ▸ h.2 ▸ xs, vs, k) else none
    | _ => none
  | .cmap j n, vs, k => match lk j with
    | some (.cell (.mapr l)) => if qLd ren l == some n then some ((), vs, k) else none
    | _ => none
  | .part e, .ref e' l off len wh :: vs, k => if e' = e then match qLi lk e l with
      | some (f, xs) => if (qLd ren l == some k) && (f || !fr) then some (if wh then (xs, 0, xs.length) else (xs, off, len), vs, k + 1) else none
      | none => none
    else none
  | .cst v, u :: vs, k => if qWC u v then some ((), vs, k) else none
  | .sub j e, .ref e' l off len wh :: vs, k => if e' = e then match qLi lk e l with
      | some (_, xs) => if qLd ren l == some j then some (if wh then (0, xs.length) else (off, len), vs, k) else none
      | none => none
    else none
  | .cfn j f caps, vs, k => match lk j with
    | some (.cell (.func g cs)) => if g = f ∧ qlo ren cs = some caps then some ((), vs, k) else none
    | _ => none
  | .clo f t, .func g [l] :: vs, k => if g = f ∧ qLd ren l = some k then match lk l with
      | some (.box t' x) => if h : t' = t then match qUc lk ren (!fr) t (h ▸ x) with
          | some y => match unj t y with
            | some u => if qip fr t y then some (u, vs, k + 1) else none
            | none => none
          | none => none
        else none
      | _ => none
    else none
  | _, _, _ => none
def qvB (lk : qzb) (ren : List (Nat × Nat)) (fr : Bool) : (is : List FI) → List AV → Nat → Option (PT is × List AV × Nat)
  | [], vs, k => some ((), vs, k)
  | [a], vs, k => qmn lk ren fr a vs k
  | a :: b :: r, vs, k => match qmn lk ren fr a vs k with
    | some (x, vs1, k1) => match qvB lk ren fr (b :: r) vs1 k1 with
      | some (y, vs2, k2) => some ((x, y), vs2, k2)
      | none => none
    | none => none
def FI.own : FI → List (Nat × Nat)
  | .box j _ _ | .row j _ | .map j _ _ | .cmap j _ | .fams j _ _ | .cfn j _ _ => [(j, j)]
  | _ => []
def tvs : TV → List AV
  | .one v => [v]
  | .tup vs => vs
def Fm.fin (F : Fm) (P : Program) (rs : List ResultVar) (s : Pos) : Option F.R :=
  match qet P s.st rs with
  | some res0 =>
    let lk := qAb s.st.heap
    let ren := F.is.flatMap FI.own ++ qxy lk F.is (tvs res0) 8
    if qDv ren 24 then match qvB lk ren F.fr F.is (tvs res0) 8 with
      | some (r, [], _) => some r
      | _ => none
    else none
  | none => none
end Go.Ab

/-
  The forms of results: they are what the machine keeps at a function's end.
-/
set_option linter.unusedVariables false
set_option linter.unusedSimpArgs false
namespace Go.Ab
open Go
section
variable {P : Program} {GT : qvf} {lk : qzb} {ren : List (Nat × Nat)} {fr lo : Bool}
theorem qCe : ∀ {a b : List (Nat × Nat)} {u v : List (Nat × Option Obj)}, qec lk ren lo a = some u → qec lk ren lo b = some v → qec lk ren lo (a ++ b) = some (u ++ v)
  | [], b, u, v, h, h' => by simp only [qec, Option.some.injEq] at h; subst h; exact h'
  | p :: a, b, u, v, h, h' => by
    simp only [qec, List.cons_append] at h ⊢
    split at h
    · rename_i o os e1 e2
      split at h
      · rename_i o' e3
        simp only [Option.some.injEq] at h; subst h
        rw [e1, qCe e2 h']
        simp only [e3, List.cons_append]
      · cases h
    · cases h
theorem qbh {a b : List (Nat × Obj)} : qRb (a ++ b) = qRb a ++ qRb b := by simp [qRb]
theorem qjl {f fr : Bool} (h : (f || !fr) = true) : (f && !!fr) = fr := by cases f <;> cases fr <;> simp_all
theorem qns {f g fr : Bool} (h : (f || g || !fr) = true) : ((f || g) && !!fr) = fr := by cases f <;> cases g <;> cases fr <;> simp_all
theorem qmg {l n : Nat} (h : (qLd ren l == some n) = true) : qLd ren l = some n := by simpa using h
theorem qwq : ∀ {t : Ty} {x : qfd t} {sf sf' : List SF} {k k' : Nat} {u : qFa t}, outA lk ren fr t x sf k = some (u, sf', k') →
    ∃ y, qcB fr t u sf k = (y, sf', k') ∧ qUc lk ren (!fr) t x = some y ∧ ∃ cs, qow t x sf k = (cs, sf', k') ∧ qec lk ren (!fr) cs = some (qRb (qdt fr t u sf k))
  | .int _, x, sf, sf', k, k', u, h => by simp only [outA, Option.some.injEq, Prod.mk.injEq] at h; obtain ⟨rfl, rfl, rfl⟩ := h; exact ⟨_, rfl, rfl, _, rfl, rfl⟩
  | .bool, x, sf, sf', k, k', u, h => by simp only [outA, Option.some.injEq, Prod.mk.injEq] at h; obtain ⟨rfl, rfl, rfl⟩ := h; exact ⟨_, rfl, rfl, _, rfl, rfl⟩
  | .str, x, sf, sf', k, k', u, h => by simp only [outA, Option.some.injEq, Prod.mk.injEq] at h; obtain ⟨rfl, rfl, rfl⟩ := h; exact ⟨_, rfl, rfl, _, rfl, rfl⟩
  | .arr _ _, x, sf, sf', k, k', u, h => by simp only [outA, Option.some.injEq, Prod.mk.injEq] at h; obtain ⟨rfl, rfl, rfl⟩ := h; exact ⟨_, rfl, rfl, _, rfl, rfl⟩
  | .unit, x, sf, sf', k, k', u, h => by simp only [outA, Option.some.injEq, Prod.mk.injEq] at h; obtain ⟨_, rfl, rfl⟩ := h; exact ⟨_, rfl, rfl, _, rfl, rfl⟩
  | .fn, x, sf, sf', k, k', u, h => by simp only [outA, Option.some.injEq, Prod.mk.injEq] at h; obtain ⟨rfl, rfl, rfl⟩ := h; exact ⟨_, rfl, rfl, _, rfl, rfl⟩
  | .pair a b, x, sf, sf', k, k', u, h => by
    simp only [outA] at h
    split at h
    · rename_i u1 sf1 k1 h1
      split at h
      · rename_i u2 sf2 k2 h2
        simp only [Option.some.injEq, Prod.mk.injEq] at h; obtain ⟨rfl, rfl, rfl⟩ := h
        obtain ⟨y1, a1, a2, c1, a3, a4⟩ := qwq h1
        obtain ⟨y2, b1, b2, c2, b3, b4⟩ := qwq h2
        refine ⟨(y1, y2), by simp only [qcB, a1, b1], by simp only [qUc, a2, b2], c1 ++ c2, by simp only [qow, a3, b3], ?_⟩
        simp only [qdt, a1, qbh]
        exact qCe a4 b4
      · cases h
    · cases h
  | .slice e, x, sf, sf', k, k', u, h => by
    cases x with
    | pure f xs =>
      simp only [outA] at h
      split at h
      · split at h
        · rename_i hf
          simp only [Option.some.injEq, Prod.mk.injEq] at h; obtain ⟨rfl, rfl, rfl⟩ := h
          exact ⟨_, rfl, by simp only [qUc, qjl hf], _, rfl, rfl⟩
        · cases h
      · split at h
        · rename_i hf
          simp only [Option.some.injEq, Prod.mk.injEq] at h; obtain ⟨rfl, rfl, rfl⟩ := h
          exact ⟨_, rfl, by simp only [qUc, qjl hf], _, rfl, rfl⟩
        · cases h
      · cases h
    | ref l off len wh =>
      simp only [outA] at h
      split at h
      · rename_i f xs hrow
        split at h
        · split at h
          · rename_i hc
            simp only [Bool.and_eq_true] at hc
            obtain ⟨⟨⟨rfl, hn⟩, hf⟩, hs⟩ := hc
            simp only [Option.some.injEq, Prod.mk.injEq] at h; obtain ⟨rfl, rfl, rfl⟩ := h
            refine ⟨_, rfl, by simp only [qUc, qmg hn, hrow, if_true], _, rfl, ?_⟩
            obtain ⟨y, hy⟩ := Option.isSome_iff_exists.1 hs
            have := qkp hy; rw [hrow] at this; injection this with this; subst this
            simp only [qec, qyb hy, qgh, qdt, qRb, qjl hf, List.map_cons, List.map_nil]
          · cases h
        · split at h
          · rename_i hc
            simp only [Bool.and_eq_true] at hc
            obtain ⟨rfl, hn⟩ := hc
            simp only [Option.some.injEq, Prod.mk.injEq] at h; obtain ⟨rfl, rfl, rfl⟩ := h
            exact ⟨_, rfl, by simp only [qUc, qmg hn, hrow, if_true], _, rfl, rfl⟩
          · cases h
        · split at h
          · rename_i hc
            simp only [Bool.and_eq_true, Option.isNone_iff_eq_none] at hc
            simp only [Option.some.injEq, Prod.mk.injEq] at h; obtain ⟨rfl, rfl, rfl⟩ := h
            exact ⟨_, rfl, by simp only [qUc, hc.1, hrow, qns hc.2], _, rfl, rfl⟩
          · cases h
        · split at h
          · rename_i hc
            simp only [Bool.and_eq_true, Option.isNone_iff_eq_none] at hc
            simp only [Option.some.injEq, Prod.mk.injEq] at h; obtain ⟨rfl, rfl, rfl⟩ := h
            exact ⟨_, rfl, by simp only [qUc, hc.1, hrow, qns hc.2], _, rfl, rfl⟩
          · cases h
      · cases h
    | nil => simp [outA] at h
    | junk => simp [outA] at h
    | lng n => simp [outA] at h
theorem qxx {t : Ty} {v : AV} {x y : qfd t} (h : qZj t v = some x) (hg : (qlB v == t.agg) = true) (hk : qUc lk ren lo t x = some y) : qbe lk ren lo v = some (qXs t y) := by
  cases v with
  | agg t' z =>
    simp only [qZj] at h
    split at h
    · rename_i e
      subst e
      simp only [Option.some.injEq] at h; subst h
      simp only [qbe, hk]
      cases t' <;> simp [qlB, Ty.agg] at hg <;> rfl
    · cases h
  | bool b =>
    cases t <;> simp [qZj] at h
    subst h; simp only [qUc, Option.some.injEq] at hk; subst hk; rfl
  | int k n =>
    cases t <;> simp [qZj] at h
    obtain ⟨rfl, rfl⟩ := h; simp only [qUc, Option.some.injEq] at hk; subst hk; rfl
  | str s =>
    cases t <;> simp [qZj] at h
    subst h; simp only [qUc, Option.some.injEq] at hk; subst hk; rfl
  | sl e f xs =>
    cases t <;> simp only [qZj] at h <;> try cases h
    rename_i e'
    split at h
    · rename_i he; subst he
      simp only [Option.some.injEq] at h; subst h
      simp only [qUc, Option.some.injEq] at hk; subst hk; rfl
    · cases h
  | nil =>
    cases t <;> simp [qZj] at h
    subst h; simp only [qUc, Option.some.injEq] at hk; subst hk; rfl
  | ref e l off len wh =>
    cases t <;> simp only [qZj] at h <;> try cases h
    rename_i e'
    split at h
    · rename_i he; subst he
      simp only [Option.some.injEq] at h; subst h
      cases hn : qLd ren l with
      | none =>
        simp only [qUc, hn] at hk
        simp only [qbe, hn]
        split at hk
        · rename_i hr
          simp only [Option.some.injEq] at hk; subst hk; rfl
        · cases hk
      | some n =>
        simp only [qUc, hn] at hk
        simp only [qbe, hn]
        split at hk
        · rename_i hw
          split at hk
          · rename_i hr
            simp only [Option.some.injEq] at hk; subst hk; simp only [hr, hw, if_true]; rfl
          · cases hk
        · rename_i hw
          simp only [Option.some.injEq] at hk; subst hk; rw [if_neg hw]; rfl
    · cases h
  | func f caps =>
    cases caps with
    | nil =>
      cases t <;> simp [qZj] at h
      subst h; simp only [qUc, Option.some.injEq] at hk; subst hk; rfl
    | cons a b => simp [qZj] at h
  | nilFunc =>
    cases t <;> simp [qZj] at h
    subst h; simp only [qUc, Option.some.injEq] at hk; subst hk; rfl
  | _ => simp [qZj] at h
theorem qhl : ∀ {a b : List AV} {u v : List AV}, qQc lk ren lo a = some u → qQc lk ren lo b = some v → qQc lk ren lo (a ++ b) = some (u ++ v)
  | [], b, u, v, h, h' => by simp only [qQc, Option.some.injEq] at h; subst h; exact h'
  | p :: a, b, u, v, h, h' => by
    simp only [qQc, List.cons_append] at h ⊢
    split at h
    · rename_i o os e1 e2
      simp only [Option.some.injEq] at h; subst h
      simp only [e1, qhl e2 h', List.cons_append]
    · cases h
theorem qQt : ∀ {t : Ty} {x y : qfd t}, qyB t x y = true → x = y ∧ qUc lk ren lo t x = some x
  | .pair a b, x, y, h => by
    simp only [qyB, Bool.and_eq_true] at h
    obtain ⟨h1, h2⟩ := qQt h.1
    obtain ⟨h3, h4⟩ := qQt h.2
    exact ⟨Prod.ext h1 h3, by simp only [qUc, h2, h4]⟩
  | .unit, _, _, _ => ⟨rfl, rfl⟩
  | .fn, x, y, h => by
    simp only [qyB] at h
    refine ⟨?_, rfl⟩
    split at h
    · rw [beq_iff_eq] at h; rw [h]
    · rfl
    · cases h
  | .int _, _, _, h => by cases h
  | .bool, _, _, h => by cases h
  | .str, _, _, h => by cases h
  | .arr _ _, _, _, h => by cases h
  | .slice _, _, _, h => by cases h
theorem quy {u v : AV} (h : qWC u v = true) : qbe lk ren lo u = some v := by
  unfold qWC at h
  split at h
  · split at h
    · rename_i e
      subst e
      obtain ⟨h1, h2⟩ := qQt (lk := lk) (ren := ren) (lo := lo) h
      simp only at h1
      simp only [qbe, ← h1, h2]
    · cases h
  · rw [beq_iff_eq] at h; subst h; rfl
  · rfl
  · cases h
theorem qxt {fr : Bool} : ∀ {t : Ty} {y : qfd t} {u : qFa t}, unj t y = some u → qip fr t y = true → inj fr t u = y
  | .int _, y, u, h, _ => by simp only [unj, Option.some.injEq] at h; subst h; rfl
  | .bool, y, u, h, _ => by simp only [unj, Option.some.injEq] at h; subst h; rfl
  | .str, y, u, h, _ => by simp only [unj, Option.some.injEq] at h; subst h; rfl
  | .arr _ _, y, u, h, _ => by simp only [unj, Option.some.injEq] at h; subst h; rfl
  | .pair a b, y, u, h, hf => by
    simp only [unj] at h
    split at h
    · rename_i u1 u2 h1 h2
      simp only [Option.some.injEq] at h; subst h
      simp only [qip, Bool.and_eq_true] at hf
      simp only [inj, qxt h1 hf.1, qxt h2 hf.2]
    · cases h
  | .unit, y, u, h, _ => rfl
  | .slice _, y, u, h, hf => by
    cases y with
    | pure f xs =>
      simp only [unj, Option.some.injEq] at h; subst h
      simp only [qip, beq_iff_eq] at hf; subst hf; rfl
    | ref l off len wh => simp [unj] at h
    | nil => simp [qip] at hf
    | junk => simp [unj] at h
    | lng n => simp [unj] at h
  | .fn, y, u, h, _ => by simp only [unj, Option.some.injEq] at h; subst h; rfl
theorem qrx {i : FI} {vs vs' : List AV} {k k' : Nat} {r : i.den} (h : qmn lk ren fr i vs k = some (r, vs', k')) :
    ∃ us us1, vs = us ++ vs' ∧ qQc lk ren (!fr) us = some us1 ∧ AVsLe us1 (qfq fr i r k).vs ∧ (qfq fr i r k).k = k' ∧ qec lk ren (!fr) i.own = some (qRb (qfq fr i r k).os) ∧ ∃ cs, qir lk i vs k = (cs, vs', k') ∧ qec lk ren (!fr) cs = some (qRb (qfq fr i r k).rs) := by
  cases i with
  | val t sf =>
    cases vs with
    | nil => simp [qmn] at h
    | cons v vs =>
      simp only [qmn] at h
      split at h
      · rename_i x hx
        split at h
        · rename_i hg
          split at h
          · rename_i u sf' k1 ho
            simp only [Option.some.injEq, Prod.mk.injEq] at h; obtain ⟨rfl, rfl, rfl⟩ := h
            obtain ⟨y, a1, a2, cs, a3, a4⟩ := qwq ho
            refine ⟨[v], [qXs t y], rfl, ?_, by simp only [qfq, a1]; exact AVsLe.refl _, by simp only [qfq, a1], by simp only [FI.own, qfq, a1]; rfl, cs, by simp only [qir, hx, a3], by simp only [qfq, a1]; exact a4⟩
            simp only [qQc, qxx hx hg a2]
          · cases h
        · cases h
      · cases h
  | err T ki =>
    cases vs with
    | nil => simp [qmn] at h
    | cons v vs =>
      cases v <;> simp only [qmn] at h <;> try cases h
      · split at h
        · rename_i hc
          obtain ⟨rfl, rfl⟩ := hc
          simp only [Option.some.injEq, Prod.mk.injEq] at h; obtain ⟨rfl, rfl, rfl⟩ := h
          exact ⟨[_], [_], rfl, rfl, ⟨fun _ _ _ _ h => h, trivial⟩, rfl, rfl, [], rfl, rfl⟩
        · cases h
      · exact ⟨[_], [_], rfl, rfl, ⟨fun _ _ _ _ h => h, trivial⟩, rfl, rfl, [], rfl, rfl⟩
      · split at h
        · rename_i hc
          obtain ⟨rfl, rfl⟩ := hc
          simp only [Option.some.injEq, Prod.mk.injEq] at h; obtain ⟨rfl, rfl, rfl⟩ := h
          exact ⟨[_], [_], rfl, rfl, ⟨fun _ _ _ _ h => h, trivial⟩, rfl, rfl, [], rfl, rfl⟩
        · cases h
  | box j t sf =>
    simp only [qmn] at h
    split at h
    · rename_i t' x hj
      split at h
      · rename_i ht
        subst ht
        split at h
        · rename_i u sf' k1 ho
          simp only [Option.some.injEq, Prod.mk.injEq] at h; obtain ⟨rfl, rfl, rfl⟩ := h
          obtain ⟨y, a1, a2, cs, a3, a4⟩ := qwq ho
          refine ⟨[], [], rfl, rfl, by simp only [qfq, a1]; trivial, by simp only [qfq, a1], ?_, cs, by simp only [qir, hj, a3], by simp only [qfq, a1]; exact a4⟩
          simp only [FI.own, qec, hj, qgh, qfq, a1, qRb, List.map_cons, List.map_nil, a2]
        · cases h
      · cases h
    · cases h
  | row j e =>
    simp only [qmn] at h
    split at h
    · rename_i f xs hr
      split at h
      · rename_i hf
        simp only [Option.some.injEq, Prod.mk.injEq] at h; obtain ⟨rfl, rfl, rfl⟩ := h
        refine ⟨[], [], rfl, rfl, trivial, rfl, ?_, [], by simp only [qir], rfl⟩
        simp only [FI.own, qec, qyb hr, qgh, qfq, qRb, List.map_cons, List.map_nil, qjl hf]
      · cases h
    · cases h
  | map j kt vt =>
    simp only [qmn] at h
    split at h
    · rename_i k' v' es hj
      split at h
      · rename_i hc
        obtain ⟨rfl, rfl⟩ := hc
        simp only [Option.some.injEq, Prod.mk.injEq] at h; obtain ⟨rfl, rfl, rfl⟩ := h
        refine ⟨[], [], rfl, rfl, trivial, rfl, ?_, [], by simp only [qir], rfl⟩
        simp only [FI.own, qec, hj, qgh, qfq, qRb, List.map_cons, List.map_nil]
      · cases h
    · cases h
  | fams j a e =>
    simp only [qmn] at h
    split at h
    · rename_i a' e' xs hj
      split at h
      · rename_i hc
        obtain ⟨rfl, rfl⟩ := hc
        simp only [Option.some.injEq, Prod.mk.injEq] at h; obtain ⟨rfl, rfl, rfl⟩ := h
        refine ⟨[], [], rfl, rfl, trivial, rfl, ?_, [], by simp only [qir], rfl⟩
        simp only [FI.own, qec, hj, qgh, qfq, qRb, List.map_cons, List.map_nil]
      · cases h
    · cases h
  | cmap j n =>
    simp only [qmn] at h
    split at h
    · rename_i l hj
      split at h
      · rename_i hc
        simp only [Option.some.injEq, Prod.mk.injEq] at h; obtain ⟨_, rfl, rfl⟩ := h
        refine ⟨[], [], rfl, rfl, trivial, rfl, ?_, [], by simp only [qir], rfl⟩
        simp only [FI.own, qec, hj, qgh, qbe, qmg hc, qfq, qRb, List.map_cons, List.map_nil]
      · cases h
    · cases h
  | cfn j f caps =>
    simp only [qmn] at h
    split at h
    · rename_i g cs hj
      split at h
      · rename_i hc
        obtain ⟨rfl, hc⟩ := hc
        simp only [Option.some.injEq, Prod.mk.injEq] at h; obtain ⟨_, rfl, rfl⟩ := h
        refine ⟨[], [], rfl, rfl, trivial, rfl, ?_, [], by simp only [qir], rfl⟩
        simp only [FI.own, qec, hj, qgh, qbe, hc, qfq, qRb, List.map_cons, List.map_nil]
      · cases h
    · cases h
  | clo f t =>
    cases vs with
    | nil => simp [qmn] at h
    | cons v vs =>
      cases v with
      | func g caps =>
        cases caps with
        | nil => simp [qmn] at h
        | cons l r =>
          cases r with
          | cons l2 r => simp [qmn] at h
          | nil =>
            simp only [qmn] at h
            split at h
            · rename_i hc
              obtain ⟨rfl, hn⟩ := hc
              split at h
              · rename_i t' x hlk
                split at h
                · rename_i ht
                  subst ht
                  split at h
                  · rename_i y hy
                    split at h
                    · rename_i u hu
                      split at h
                      · rename_i hfa
                        simp only [Option.some.injEq, Prod.mk.injEq] at h; obtain ⟨rfl, rfl, rfl⟩ := h
                        refine ⟨[_], [.func g [k]], rfl, by simp only [qQc, qbe, qlo, hn], AVsLe.refl _, rfl, rfl, [(k, l)], rfl, ?_⟩
                        simp only [qec, hlk, qgh, hy, qfq, qRb, List.map_cons, List.map_nil, qxt hu hfa]
                      · cases h
                    · cases h
                  · cases h
                · cases h
              · cases h
            · cases h
      | _ => simp [qmn] at h
  | part e =>
    cases vs with
    | nil => simp [qmn] at h
    | cons v vs =>
      cases v <;> simp only [qmn] at h <;> try cases h
      rename_i e' l off len wh
      split at h
      · rename_i he
        subst he
        split at h
        · rename_i f xs hrow
          split at h
          · rename_i hc
            simp only [Bool.and_eq_true] at hc
            simp only [Option.some.injEq, Prod.mk.injEq] at h; obtain ⟨rfl, rfl, rfl⟩ := h
            have hks : qec lk ren (!fr) [(k, l)] = some (qRb [(k, .row e' fr xs)]) := by
              simp only [qec, qyb hrow, qgh, qRb, qjl hc.2, List.map_cons, List.map_nil]
            cases wh with
            | true =>
              refine ⟨[_], [.ref e' k 0 xs.length true], rfl, by simp only [qQc, qbe, qmg hc.1, qkp hrow, if_true], ⟨fun w N K v hv => ?_, trivial⟩, rfl, rfl, [(k, l)], rfl, hks⟩
              obtain ⟨n, pl, g1, g2, g3, g4⟩ := hv
              exact ⟨n, pl, g1, g2, (fun h => by cases h), g4⟩
            | false =>
              exact ⟨[_], [.ref e' k off len false], rfl, by simp only [qQc, qbe, qmg hc.1, Bool.false_eq_true, if_false], AVsLe.refl _, rfl, rfl, [(k, l)], rfl, hks⟩
          · cases h
        · cases h
      · cases h
  | sub j e =>
    cases vs with
    | nil => simp [qmn] at h
    | cons v vs =>
      cases v <;> simp only [qmn] at h <;> try cases h
      rename_i e' l off len wh
      split at h
      · rename_i he
        subst he
        split at h
        · rename_i f xs hrow
          split at h
          · rename_i hc
            simp only [Option.some.injEq, Prod.mk.injEq] at h; obtain ⟨rfl, rfl, rfl⟩ := h
            cases wh with
            | true =>
              refine ⟨[_], [.ref e' j 0 xs.length true], rfl, by simp only [qQc, qbe, qmg hc, qkp hrow, if_true], ⟨fun w N K v hv => ?_, trivial⟩, rfl, rfl, [], rfl, rfl⟩
              obtain ⟨n, pl, g1, g2, g3, g4⟩ := hv
              exact ⟨n, pl, g1, g2, (fun h => by cases h), g4⟩
            | false =>
              exact ⟨[_], [.ref e' j off len false], rfl, by simp only [qQc, qbe, qmg hc, Bool.false_eq_true, if_false], AVsLe.refl _, rfl, rfl, [], rfl, rfl⟩
          · cases h
        · cases h
      · cases h
  | cst v =>
    cases vs with
    | nil => simp [qmn] at h
    | cons u vs =>
      simp only [qmn] at h
      split at h
      · rename_i hc
        simp only [Option.some.injEq, Prod.mk.injEq] at h; obtain ⟨_, rfl, rfl⟩ := h
        exact ⟨[_], [v], rfl, by simp only [qQc, quy hc], AVsLe.refl _, rfl, rfl, [], rfl, rfl⟩
      · cases h
theorem qqx : ∀ {is : List FI} {vs vs' : List AV} {k k' : Nat} {r : PT is}, qvB lk ren fr is vs k = some (r, vs', k') →
    ∃ us us1, vs = us ++ vs' ∧ qQc lk ren (!fr) us = some us1 ∧ AVsLe us1 (qey fr is r k).vs ∧ (qey fr is r k).k = k' ∧ qec lk ren (!fr) (is.flatMap FI.own) = some (qRb (qey fr is r k).os) ∧
      qec lk ren (!fr) (qxy lk is vs k) = some (qRb (qey fr is r k).rs)
  | [], vs, vs', k, k', r, h => by
    simp only [qvB, Option.some.injEq, Prod.mk.injEq] at h; obtain ⟨_, rfl, rfl⟩ := h
    exact ⟨[], [], rfl, rfl, trivial, rfl, rfl, rfl⟩
  | [a], vs, vs', k, k', r, h => by
    simp only [qvB] at h
    obtain ⟨us, us1, h1, h2, h2', h3, h4, cs, h5, h6⟩ := qrx h
    refine ⟨us, us1, h1, h2, h2', h3, ?_, ?_⟩
    · simp only [List.flatMap_cons, List.flatMap_nil, List.append_nil]; exact h4
    · simp only [qxy, h5, List.append_nil]; exact h6
  | a :: b :: q, vs, vs', k, k', r, h => by
    simp only [qvB] at h
    split at h
    · rename_i x vs1 k1 ho
      split at h
      · rename_i y vs2 k2 hl
        simp only [Option.some.injEq, Prod.mk.injEq] at h; obtain ⟨rfl, rfl, rfl⟩ := h
        obtain ⟨us, us1, h1, h2, h2', h3, h4, cs, h5, h6⟩ := qrx ho
        obtain ⟨us', us1', g1, g2, g2', g3, g4, g5⟩ := qqx hl
        subst h3
        refine ⟨us ++ us', us1 ++ us1', by rw [h1, g1, List.append_assoc], qhl h2 g2, ?_, g3, ?_, ?_⟩
        · simp only [qey]; exact h2'.append g2'
        · rw [List.flatMap_cons]; simp only [qey, qbh]; exact qCe h4 g4
        · rw [qxy, h5]; simp only [qey, qbh]; exact qCe h6 g5
      · cases h
    · cases h
theorem qHx {res : TV} {us : List AV} (ht : qSy (tvs res) = res) (h : qQc lk ren lo (tvs res) = some us) : qfk lk ren lo res = some (qSy us) := by
  cases res with
  | one v =>
    simp only [tvs, qQc] at h
    simp only [qfk]
    split at h
    · rename_i u us' e1 e2
      simp only [Option.some.injEq] at e2 h; subst e2; subst h
      simp only [e1, qSy]
    · cases h
  | tup vs =>
    simp only [tvs] at h ht
    simp only [qfk, h]
    have : ∀ u, us ≠ [u] := by
      rintro u rfl
      cases vs with
      | nil => simp [qQc] at h
      | cons a r => cases r with
        | nil => simp [qSy] at ht
        | cons b q =>
          simp only [qQc] at h
          split at h
          · rename_i e1 e2
            split at e2
            · simp only [Option.some.injEq] at e2; subst e2; simp at h
            · cases e2
          · cases h
    unfold qSy
    split
    · rename_i v; exact absurd rfl (this v)
    · rfl
theorem qAA : ∀ {as bs : List AV}, AVsLe as bs → TVle (qSy as) (qSy bs)
  | [], [], h => h
  | [_], [_], h => h.1
  | _ :: _ :: _, _ :: _ :: _, h => h
  | [_], _ :: _ :: _, h => h.2.elim
  | _ :: _ :: _, [_], h => h.2.elim
  | [], _ :: _, h => h.elim
  | _ :: _, [], h => h.elim
theorem qez {σ : St} {rs : List ResultVar} {res : TV} (h : qet P σ rs = some res) : qSy (tvs res) = res := by
  unfold qet at h
  split at h
  · simp only [Option.some.injEq] at h; subst h; rfl
  · rename_i vs hv hn
    simp only [Option.some.injEq] at h; subst h
    simp only [tvs]
    unfold qSy
    split
    · rename_i v; exact absurd rfl (hv v)
    · rfl
  · cases h
theorem Fm.fin_ok {F : Fm} {rs : List ResultVar} {s : Pos} {r : F.R} (h : F.fin P rs s = some r) :
    ∃ res0 res1 ren nx lo, qet P s.st rs = some res0 ∧ qDv ren nx = true ∧ qfk (qAb s.st.heap) ren lo res0 = some res1 ∧ TVle res1 (F.res r) ∧ qec (qAb s.st.heap) ren lo ren = some (qRb (F.post r)) := by
  unfold Fm.fin at h
  split at h
  · rename_i res0 hres
    simp only at h
    split at h
    · rename_i hok
      split at h
      · rename_i r' k' ho
        simp only [Option.some.injEq] at h; subst h
        obtain ⟨us, us1, h1, h2, h2', h3, h4, h5⟩ := qqx ho
        rw [List.append_nil] at h1
        rw [← h1] at h2
        refine ⟨res0, _, _, _, _, hres, hok, qHx (qez hres) h2, qAA h2', ?_⟩
        simp only [Fm.post, qbh]
        exact qCe h4 h5
      · cases h
    · cases h
  · cases h
end
end Go.Ab

/-
  What a function computes, as a plain function: the machine's own runs, with what is open left open.
-/
set_option linter.unusedVariables false
set_option linter.unusedSimpArgs false
namespace Go.Ab
open Go
structure Summ (P : Program) (GT : qvf) where
  f : Nat
  acc : List AV → Bool
  rows : Bool
  nils : Bool
  R : Type
  fn : List AV → List (Nat × Obj) → Option R
  res : R → TV
  post : R → List (Nat × Obj)
  drop : Bool := false
  ok : ∀ as pre r, fn as pre = some r → CallOK P GT f as pre (res r) (post r)
@[reducible] def Summ.dropping {P : Program} {GT : qvf} (S : Summ P GT) : Summ P GT := { S with drop := true }
def qkz {P : Program} {GT : qvf} (f : Nat) (vs : List AV) : List (Summ P GT) → Option (Summ P GT)
  | [] => none
  | S :: r => if S.f == f && S.acc vs then some S else qkz f vs r
theorem qix {P : Program} {GT : qvf} {f : Nat} {vs : List AV} : ∀ {tab : List (Summ P GT)} {S : Summ P GT}, qkz f vs tab = some S → S.f = f
  | [], S, h => by cases h
  | T :: r, S, h => by
    simp only [qkz] at h
    split at h
    · rename_i hc
      simp only [Option.some.injEq] at h; subst h
      simp only [Bool.and_eq_true, beq_iff_eq] at hc; exact hc.1
    · exact qix h
inductive Tr : Type 1
  | bit (b : Bool) (t e : Tr)
  | safe (p : Prop) (t : Tr)
  | call (R : Type) (v : Option R) (k : R → Tr)
  | any (R : Type) (p : R → Prop) (k : R → Tr)
  | leaf (s : Pos)
  | ret (s : Pos)
  | dead
@[reducible] noncomputable def gd {R : Type} (p : Prop) (x : Option R) : Option R := @ite _ p (Classical.propDecidable p) x none
theorem qea {R : Type} {p : Prop} (h : p) (x : Option R) : gd p x = x := if_pos h
theorem qOo {R : Type} {p : Prop} {x : Option R} {r : R} (h : gd p x = some r) : p ∧ x = some r := by
  unfold gd at h
  split at h
  · exact ⟨by assumption, h⟩
  · cases h
open Classical in
noncomputable def qHy {X R : Type} (p : X → Prop) (f : X → Option R) : Option R :=
  if h : (∃ x, p x) ∧ ∃ r, ∀ x, p x → f x = some r then some (Classical.choose h.2) else none
theorem qAg {X R : Type} {p : X → Prop} {f : X → Option R} {r : R} (h : qHy p f = some r) : ∀ x, p x → f x = some r := by
  unfold qHy at h
  split at h
  · rename_i hh
    simp only [Option.some.injEq] at h
    exact h ▸ Classical.choose_spec hh.2
  · cases h
theorem qfp {X R : Type} {p : X → Prop} {f : X → Option R} {r : R} (x : X) (hx : p x) (h : ∀ x, p x → f x = some r) : qHy p f = some r := by
  have hh : (∃ x, p x) ∧ ∃ r, ∀ x, p x → f x = some r := ⟨⟨x, hx⟩, r, h⟩
  unfold qHy
  rw [dif_pos hh]
  have := Classical.choose_spec hh.2 x hx
  rw [h x hx] at this
  exact this.symm
theorem qGy {X R : Type} {p : X → Prop} {f : X → Option R} {r : R} (h : qHy p f = some r) : ∃ x, p x := by
  unfold qHy at h
  split at h
  · rename_i hh; exact hh.1
  · cases h
noncomputable def den {R : Type} (lf fin : Pos → Option R) : Tr → Option R
  | .bit b t e => if b = true then den lf fin t else den lf fin e
  | .safe p t => gd p (den lf fin t)
  | .call _ v k => v.bind fun r => den lf fin (k r)
  | .any _ p k => qHy p fun x => den lf fin (k x)
  | .leaf s => lf s
  | .ret s => fin s
  | .dead => none
def qyz (rows : Bool) : AV → List Nat
  | .ptr _ l _ => [l]
  | .ifp _ _ l _ => [l]
  | .cslice _ l _ => [l]
  | .cptr l => [l]
  | .func _ caps => caps
  | .mapr l => [l]
  | .ref _ l _ _ _ => if rows then [l] else []
  | .bref _ l _ _ _ _ => if rows then [l] else []
  | .agg t x => if rows then qZm t x else []
  | _ => []
def qUC (rows : Bool) : Obj → List Nat
  | .box t x => if rows then qZm t x else []
  | .cell v => qyz rows v
  | _ => []
def qYp (lk : qzb) (rows : Bool) : Nat → List Nat → List Nat → List Nat
  | 0, _, acc => acc
  | _, [], acc => acc
  | n + 1, l :: q, acc => if acc.contains l then qYp lk rows n q acc else qYp lk rows n (q ++ (match lk l with
    | some o => qUC rows o
    | none => [])) (acc ++ [l])
def qBC : Nat → List Nat → List (Nat × Nat)
  | _, [] => []
  | n, l :: r => (n, l) :: qBC (n + 1) r
def qCs : List Prop → Tr → Tr
  | [], t => t
  | p :: r, t => .safe p (qCs r t)
def qWo (g : Bool) (v : TV) (k : TV → Tr) : Tr :=
  if g then match v with
    | .one (.bool b) => .bit b (k (.one (.bool true))) (k (.one (.bool false)))
    | _ => .dead
  else k v
section
variable (P : Program) (GT : qvf) (nt : Nat) (mnz : List Nat) (tab : List (Summ P GT))
def qhC (H : qzb) (nl : Nat) (ev : Operand → TV) (op : Op) (k : Out → List Nat → Tr) : Tr :=
  match op with
  | .call { callee := .value f, args, argTypes := _ } => match ev1 ev f, evs ev args.toList with
    | some (.func f caps), some vs0 => match qsl (qWc H (qJv ev op)) caps with
      | some cs => match qkz f (vs0 ++ cs) tab with
        | some S =>
          let locs := qYp H S.rows 60 ((vs0 ++ cs).flatMap (qyz S.rows)) []
          let ren := qBC 0 locs
          let use := (vs0 ++ cs).flatMap qBf ++ locs.flatMap fun l => match H l with
            | some o => qwk o
            | none => []
          let L := qJv ev op ++ (ren.map (·.2) ++ use)
          match qQc (qWc H L) ren true (vs0 ++ cs), qec (qWc H L) ren true ren with
          | some pv, some hl => match qEl hl with
            | some pre => .call S.R (S.fn ((if S.nils then pv else qjo P (qOg P f) pv)) pre) fun r =>
              match qbp P GT (qWc H L) nl f (vs0 ++ cs) ⟨(if S.nils then pv else qjo P (qOg P f) pv), pre, ren, use, S.res r, S.post r, S.drop⟩ with
              | some out => k out L
              | none => .dead
            | none => .dead
          | _, _ => .dead
        | none => .dead
      | none => .dead
    | _, _ => .dead
  | _ => .dead
def opT (ops : List Oper) (T : Nat → TV) (H : qzb) (nl i : Nat) (o : Oper) (k : Ev → Tr) : Tr :=
  match qrv ops T o with
  | some false => k ⟨.one .gone, [], []⟩
  | none => .dead
  | some true =>
    if qgA o.op then qhC P GT tab H nl (evT GT T) o.op fun out L => qWo (qks ops i) out.v fun v => k ⟨v, out.upd, L⟩
    else match qfb P GT (evT GT T) (qWc H (qJv (evT GT T) o.op)) nl none o.type o.op with
      | some out => qCs out.conds (qWo (qks ops i) out.v fun v => k ⟨v, out.upd, qJv (evT GT T) o.op⟩)
      | none => .dead
def opN (draw : Bool) (ops : List Oper) (T : Nat → TV) (H : qzb) (nl i : Nat) (o : Oper) (k : Ev → Tr) : Tr :=
  match (if draw then none else match qrv ops T o with
    | some true => qJy P mnz (evT GT T) nl o.op
    | _ => none) with
  | some a => qCs a.pre (.any a.R a.p fun x => qWo (qks ops i) (a.out x).v fun v => k ⟨v, (a.out x).upd, []⟩)
  | none => opT P GT tab ops T H nl i o k
def qwB (draw : Bool) (ops : List Oper) : Nat → List Oper → St → (St → List (Oper × Ev) → Tr) → Tr
  | _, [], σ, k => k σ []
  | i, o :: r, σ, k => opN P GT mnz tab draw ops (keepT (o.looksAt ops.toArray) σ.look) (qAb σ.heap) (σ.next + 8 * i) i o fun e =>
    if qdi nt o.dst then qwB draw ops (i + 1) r (σ.put o.dst e) fun σ' tr => k σ' ((o, e) :: tr) else .dead
def qTC (P : Program) : Op → Bool
  | .store T _ _ => match P.underlying T with
    | some (.slice _) => decide (qGc P tyD T = some (.slice .bool))
    | _ => false
  | _ => false
def qVB (P : Program) : Op → Bool
  | .call { callee := .builtin .append, args := _, argTypes } => match argTypes.toList with
    | T :: _ => decide (qpi P T = some (.pair (.int .i64) (.pair (.int .i64) (.pair (.int .i64) .unit))))
    | _ => false
  | _ => false
def qpD (P : Program) (op : Op) : Bool := qWB op || qTC P op || qVB P op
def qzD (l : Nat) (h : List (Nat × Option Obj)) : Bool := h.all fun p => match p.2 with
  | some ob => p.1 == l || !(qwk ob).contains l
  | none => true
def qTA (σ : St) (l : Nat) : Bool := σ.tmps.all (fun p => qwC [l] p.2) && σ.heap.all fun p => match p.2 with
  | some o => okO [l] o
  | none => true
def qkD (ops : List Oper) (σ : St) (T : Nat → TV) (H : qzb) (nl i : Nat) (o : Oper) (k : Ev → Tr) : Tr :=
  match (if qpD P o.op then qrv ops T o else none) with
  | some true => if qks ops i then .dead else match qSt P (evT GT T) H o.op with
    | some out => qCs out.conds (k ⟨out.v, out.upd, []⟩)
    | none => match qhx P (evT GT T) H o.op with
      | some (l, out) => if qTA σ l then k ⟨out.v, out.upd, []⟩ else .dead
      | none => match qAt P (evT GT T) H nl o.op with
        | some (e, l, m, A, B) => if qzD l σ.heap then match qxC e l m σ.tmps with
            | some cs => .any Bool (fun _ => True) fun b => .bit b (qCs cs (k ⟨A.v, A.upd, []⟩)) (qCs B.conds (k ⟨B.v, B.upd, []⟩))
            | none => .dead
          else .dead
        | none => opT P GT tab ops T H nl i o k
  | _ => opT P GT tab ops T H nl i o k
def qmt (ops : List Oper) : Nat → List Oper → St → (St → Tr) → Tr
  | _, [], σ, k => k σ
  | i, o :: r, σ, k => qkD P GT tab ops σ (keepT (o.looksAt ops.toArray) σ.look) (qAb σ.heap) (σ.next + 8 * i) i o fun e =>
    if qdi nt o.dst then qmt ops (i + 1) r (σ.put o.dst e) k else .dead
def qqq (ops : List Oper) (draw : Bool) (σ : St) (k : St → Tr) : Tr :=
  if !draw && ops.any (fun o => qpD P o.op) then qmt P GT nt tab ops 0 ops σ fun σ' => k { σ' with next := σ.next + 8 * ops.length }
  else qwB P GT nt mnz tab draw ops 0 ops σ fun σ' tr => if !draw || qYu ops tr then k { σ' with next := σ.next + 8 * ops.length } else .dead
def qbz (s : Pos) (k : Pos → Tr) : Tr :=
  match s.todo with
  | .code .skip :: q | .code (.label _) :: q | .inBlock _ :: q | .inScope _ :: q => k ⟨q, s.st⟩
  | .code (.scope body) :: q => k ⟨.code body :: .inScope body :: q, s.st⟩
  | .code (.seq a b) :: q => k ⟨.code a :: .code b :: q, s.st⟩
  | .code (.cond c x y) :: q => match evO GT s.st c with
    | .one (.bool b) => .bit b (k ⟨.code x :: q, s.st⟩) (k ⟨.code y :: q, s.st⟩)
    | _ => .dead
  | .code (.block id body) :: q => k ⟨.code body :: .inBlock id :: q, s.st⟩
  | .code (.loop body) :: q | .inLoop body :: q => k ⟨.code body :: .inLoop body :: q, s.st⟩
  | .code (.exit id) :: q => match exitTo id q with
    | some q' => k ⟨q', s.st⟩
    | none => .dead
  | .code (.goto l) :: q => match gotoIn l q with
    | some q' => k ⟨q', s.st⟩
    | none => .dead
  | .code (.region _ ops draw) :: q => qqq P GT nt mnz tab ops.toList draw s.st fun σ => k ⟨q, σ⟩
  | _ => .dead
structure Cut where
  key : Nat × Nat
  ts : List Nat
  lo : Bool
  pre : Bool := false
  fams : List Nat := []
  rows : List Nat := []
  parts : List Nat := []
def qGm : Code → Option Nat
  | .region id _ _ => some id
  | .seq a b => match qGm a with
    | some i => some i
    | none => qGm b
  | .cond _ a b => match qGm a with
    | some i => some i
    | none => qGm b
  | .block _ b => qGm b
  | .loop b => qGm b
  | .scope b => qGm b
  | _ => none
def qSC (todo : List Item) : Nat × Nat :=
  match todo with
  | .code c :: q => match qGm c with
    | some i => (i, q.length)
    | none => (0, 0)
  | _ => (0, 0)
def qDt (key : Nat × Nat) : List Cut → Option Cut
  | [] => none
  | c :: r => if c.key.1 == key.1 && c.key.2 == key.2 then some c else qDt key r
def qTB (σ : St) (ts : List Nat) (lo pre : Bool) : Option St :=
  let lk := qAb σ.heap
  let locs := qYp lk true 60 ((if pre then (List.range 8).filter fun l => (lk l).isSome else []) ++ ts.flatMap fun t => qWh (σ.look t)) []
  let ren := (locs.filter (· < 8)).map (fun l => (l, l)) ++ qBC 8 (locs.filter fun l => !(l < 8))
  σ.keep ts ren (8 + locs.length) lo
def qbC : Option Obj → Option Obj
  | some (.row (.slice e) fr []) => if e.flat then some (.fam e []) else some (.row (.slice e) fr [])
  | some (.row (.pair a (.pair (.slice e) .unit)) fr []) => if a.flat && e.flat then some (.famS a e []) else some (.row (qLk a e) fr [])
  | o => o
def qAz (ns : List Nat) : List (Nat × Option Obj) → List (Nat × Option Obj)
  | [] => []
  | p :: r => (if ns.contains p.1 then (p.1, qbC p.2) else p) :: qAz ns r
def qYA (σ : St) (ns : List Nat) : St := match ns with
  | [] => σ
  | ns => { σ with heap := qAz ns σ.heap }
def qtB : Obj → Option Obj
  | .famS a e xs => some (.row (qLk a e) true (qUf xs))
  | .fam e xss => some (.row (.slice e) true xss)
  | _ => none
def qUy (l : Nat) (o : Obj) : List (Nat × Option Obj) → List (Nat × Option Obj)
  | [] => []
  | p :: r => if p.1 = l then (l, some o) :: r else p :: qUy l o r
def qOn (σ : St) (l : Nat) : St := match qAb σ.heap l with
  | some o => match qtB o with
    | some o' => if decide (8 ≤ l) && qTA σ l then { σ with heap := qUy l o' σ.heap } else σ
    | none => σ
  | none => σ
def qFA (σ : St) : List Nat → St
  | [] => σ
  | l :: r => qFA (qOn σ l) r
def qlt : TV → TV
  | .one (.ref e l off n _) => .one (.ref e l off n false)
  | v => v
def qpx (σ : St) (ts : List Nat) : St := match ts with
  | [] => σ
  | ts => { σ with tmps := σ.tmps.map fun p => if ts.contains p.1 then (p.1, qlt p.2) else p }
def qCC (c : Cut) (s : Pos) : Tr :=
  match qTB s.st c.ts c.lo c.pre with
  | some σ => .leaf ⟨s.todo, qpx (qFA (qYA σ c.fams) c.rows) c.parts⟩
  | none => .dead
def qJx (todo : List Item) : Option (List Item) :=
  match todo with
  | .code (.loop body) :: q | .inLoop body :: q => some (.code body :: .inLoop body :: q)
  | .code (.goto l) :: q => gotoIn l q
  | _ => none
def qsv (cuts : List Cut) : Nat → Bool → Pos → Tr
  | 0, _, _ => .dead
  | n + 1, first, s =>
    match qVv s.todo with
    | true => .ret s
    | false => match qJx s.todo with
      | some todo' => match qDt (qSC todo') cuts with
        | some c => qCC c ⟨todo', s.st⟩
        | none => qsv cuts n false ⟨todo', s.st⟩
      | none => match first, s.todo with
        | false, .code (.region id _ _) :: q => match qDt (id, q.length) cuts with
          | some c => qCC c s
          | none => qbz P GT nt mnz tab s (qsv cuts n false)
        | _, _ => qbz P GT nt mnz tab s (qsv cuts n false)
end
structure FnI (P : Program) (GT : qvf) where
  f : Nat
  cuts : List Cut
  tab : List (Summ P GT)
  fm : Fm
  mnz : List Nat := []
  mnzOk : ∀ f ∈ mnz, quw P f := by intro f h; cases h
section
variable {P : Program} {GT : qvf} (I : FnI P GT)
noncomputable def FnI.go (s : Pos) (lf : Pos → Option I.fm.R) : Option I.fm.R :=
  den lf (I.fm.fin P (qCB P I.f)) (qsv P GT (qvr P I.f) I.mnz I.tab I.cuts 3000 true s)
inductive FnI.SemR (r : I.fm.R) : Pos → Prop
  | mk (s : Pos) (lf : Pos → Option I.fm.R) (h : I.go s lf = some r) (hl : ∀ s', lf s' = some r → SemR r s') : SemR r s
open Classical in
noncomputable def FnI.sem (s : Pos) : Option I.fm.R :=
  if h : ∃ r, I.SemR r s then some (Classical.choose h) else none
end
def Lfs {R : Type} (lf fin : Pos → Option R) (r : R) : Tr → Pos → Prop
  | .bit b t e, s => if b = true then Lfs lf fin r t s else Lfs lf fin r e s
  | .safe _ t, s => Lfs lf fin r t s
  | .call R' v k, s => ∃ x, v = some x ∧ Lfs lf fin r (k x) s
  | .any R' p k, s => ∃ x, p x ∧ Lfs lf fin r (k x) s
  | .leaf s', s => s' = s
  | .ret _, _ => False
  | .dead, _ => False
theorem qDj {R : Type} {lf fin : Pos → Option R} {r : R} : ∀ {t : Tr}, den lf fin t = some r → ∀ s, Lfs lf fin r t s → lf s = some r
  | .bit b t e, h, s, hs => by
    simp only [den] at h
    simp only [Lfs] at hs
    split at h
    · rename_i hb; rw [if_pos hb] at hs; exact qDj h s hs
    · rename_i hb; rw [if_neg hb] at hs; exact qDj h s hs
  | .safe p t, h, s, hs => qDj (qOo h).2 s hs
  | .call R' v k, h, s, ⟨x, hx, hs⟩ => by
    simp only [den, hx, Option.bind_some] at h
    exact qDj h s hs
  | .any R' p k, h, s, ⟨x, hx, hs⟩ => qDj (qAg h x hx) s hs
  | .leaf s', h, s, hs => by subst hs; exact h
  | .ret _, h, s, hs => hs.elim
  | .dead, h, s, hs => hs.elim
theorem qgq {R : Type} {lf lf' fin : Pos → Option R} {r : R} : ∀ {t : Tr}, den lf fin t = some r → (∀ s, Lfs lf fin r t s → lf' s = some r) → den lf' fin t = some r
  | .bit b t e, h, hs => by
    simp only [den] at h ⊢
    split at h
    · rename_i hb
      rw [if_pos hb]
      exact qgq h (fun s q => hs s (by simp only [Lfs]; rw [if_pos hb]; exact q))
    · rename_i hb
      rw [if_neg hb]
      exact qgq h (fun s q => hs s (by simp only [Lfs]; rw [if_neg hb]; exact q))
  | .safe p t, h, hs => by
    obtain ⟨hp, h⟩ := qOo h
    simp only [den]
    rw [qea hp]
    exact qgq h hs
  | .call R' v k, h, hs => by
    simp only [den, Option.bind_eq_some_iff] at h ⊢
    obtain ⟨x, hx, h⟩ := h
    exact ⟨x, hx, qgq h (fun s q => hs s ⟨x, hx, q⟩)⟩
  | .any R' p k, h, hs => by
    simp only [den] at h ⊢
    obtain ⟨x, hx⟩ := qGy h
    exact qfp x hx (fun y hy => qgq (qAg h y hy) (fun s q => hs s ⟨y, hy, q⟩))
  | .leaf s', h, hs => hs s' rfl
  | .ret _, h, hs => h
  | .dead, h, hs => by cases h
theorem qgm {R : Type} {lf lf' fin : Pos → Option R} {r r' : R} : ∀ {t : Tr}, den lf fin t = some r → den lf' fin t = some r' → r = r' ∨ ∃ s, lf s = some r ∧ lf' s = some r'
  | .bit b t e, h, h' => by
    simp only [den] at h h'
    split at h
    · rename_i hb; rw [if_pos hb] at h'; exact qgm h h'
    · rename_i hb; rw [if_neg hb] at h'; exact qgm h h'
  | .safe p t, h, h' => qgm (qOo h).2 (qOo h').2
  | .call R' v k, h, h' => by
    simp only [den, Option.bind_eq_some_iff] at h h'
    obtain ⟨x, hx, h⟩ := h
    obtain ⟨x', hx', h'⟩ := h'
    rw [hx] at hx'
    simp only [Option.some.injEq] at hx'
    subst hx'
    exact qgm h h'
  | .any R' p k, h, h' => by
    simp only [den] at h h'
    obtain ⟨x, hx⟩ := qGy h
    exact qgm (qAg h x hx) (qAg h' x hx)
  | .leaf s', h, h' => .inr ⟨s', h, h'⟩
  | .ret _, h, h' => by
    simp only [den] at h h'
    rw [h] at h'
    exact .inl (by simpa using h')
  | .dead, h, h' => by cases h
section
variable {P : Program} {GT : qvf} {I : FnI P GT}
theorem FnI.SemR.det {r r' : I.fm.R} {s : Pos} (h : I.SemR r s) : I.SemR r' s → r = r' := by
  induction h with
  | mk s lf h hl ih =>
    rintro ⟨_, lf', h', hl'⟩
    rcases qgm h h' with e | ⟨s', h1, h2⟩
    · exact e
    · exact ih s' h1 (hl' s' h2)
theorem FnI.sem_iff {s : Pos} {r : I.fm.R} : I.sem s = some r ↔ I.SemR r s := by
  unfold FnI.sem
  constructor
  · intro h
    split at h
    · rename_i he
      simp only [Option.some.injEq] at h
      exact h ▸ Classical.choose_spec he
    · cases h
  · intro h
    have he : ∃ r, I.SemR r s := ⟨r, h⟩
    rw [dif_pos he]
    exact congrArg some ((Classical.choose_spec he).det h)
theorem FnI.sem_eq (s : Pos) : I.sem s = I.go s I.sem := by
  have key : ∀ r, I.sem s = some r ↔ I.go s I.sem = some r := by
    intro r
    constructor
    · intro h
      obtain ⟨_, lf, h, hl⟩ := FnI.sem_iff.1 h
      exact qgq h (fun s' hs => FnI.sem_iff.2 (hl s' (qDj h s' hs)))
    · intro h
      exact FnI.sem_iff.2 ⟨s, I.sem, h, fun s' hs => FnI.sem_iff.1 hs⟩
  cases h : I.go s I.sem with
  | some r => exact (key r).2 h
  | none =>
    cases h' : I.sem s with
    | none => rfl
    | some r => rw [(key r).1 h'] at h; cases h
variable {nt : Nat} {mnz : List Nat} {tab : List (Summ P GT)} {R : Type} {lf fin : Pos → Option R} {r : R}
theorem qah : ∀ {a b : List Prop}, qVe a → qVe b → qVe (a ++ b)
  | [], _, _, h => h
  | _ :: _, _, h, h' => ⟨h.1, qah h.2 h'⟩
theorem qFj : ∀ {cs : List Prop} {t : Tr}, den lf fin (qCs cs t) = some r → qVe cs ∧ den lf fin t = some r
  | [], _, h => ⟨trivial, h⟩
  | p :: q, t, h => by
    simp only [qCs, den] at h
    obtain ⟨hp, h⟩ := qOo h
    obtain ⟨h1, h2⟩ := qFj h
    exact ⟨⟨hp, h1⟩, h2⟩
theorem qhm {g : Bool} {v : TV} {k : TV → Tr} (h : den lf fin (qWo g v k) = some r) :
    ∃ v' c os, (∀ rest, qCk g v (os ++ rest) = some (v', c, rest)) ∧ qVe c ∧ den lf fin (k v') = some r := by
  unfold qWo at h
  split at h
  · rename_i hg
    split at h
    · rename_i b
      simp only [den] at h
      split at h
      · rename_i hb
        exact ⟨.one (.bool true), [b = true], [.bit true], fun rest => by simp [qCk, hg], ⟨hb, trivial⟩, h⟩
      · rename_i hb
        simp only [Bool.not_eq_true] at hb
        exact ⟨.one (.bool false), [b = false], [.bit false], fun rest => by simp [qCk, hg], ⟨hb, trivial⟩, h⟩
    · cases h
  · rename_i hg
    exact ⟨v, [], [], fun rest => by simp [qCk, hg], trivial, h⟩
theorem qDk {lk lk' : qzb} (hs : ∀ l o, lk l = some o → lk' l = some o) : ∀ {ls : List Nat} {cs : List AV}, qsl lk ls = some cs → qsl lk' ls = some cs
  | [], cs, h => h
  | l :: q, cs, h => by
    simp only [qsl] at h ⊢
    split at h
    · rename_i h1 h2
      rw [hs _ _ h1, qDk hs h2]; exact h
    · rename_i h1 h2
      rw [hs _ _ h1, qDk hs h2]; exact h
    · cases h
theorem qwx {ops : List Oper} {T : Nat → TV} {H : qzb} {nl i : Nat} {o : Oper} {k : Ev → Tr} (h : den lf fin (opT P GT tab ops T H nl i o k) = some r) :
    ∃ e c os, (∀ rest, qcy P GT ops T H nl i o (os ++ rest) = some (e, c, rest)) ∧ qVe c ∧ den lf fin (k e) = some r := by
  unfold opT at h
  split at h
  · rename_i hw
    exact ⟨_, [], [], fun rest => by simp [qcy, hw], trivial, h⟩
  · cases h
  · rename_i hw
    split at h
    · rename_i hcall
      unfold qhC at h
      split at h
      · rename_i f args ats hop
        split at h
        · rename_i f caps vs0 hf hvs
          split at h
          · rename_i cs hcs
            split at h
            · rename_i S hS
              simp only at h
              split at h
              · rename_i pv hl hpv hhl
                split at h
                · rename_i pre hpre
                  simp only [den, Option.bind_eq_some_iff] at h
                  obtain ⟨x, hx, h⟩ := h
                  split at h
                  · rename_i out hout
                    obtain ⟨v', c, os, h1, h2, h3⟩ := qhm h
                    let oc : COrc := ⟨(if S.nils then pv else qjo P (qOg P f) pv), pre, qBC 0 (qYp H S.rows 60 ((vs0 ++ cs).flatMap (qyz S.rows)) []), ((vs0 ++ cs).flatMap qBf ++ (qYp H S.rows 60 ((vs0 ++ cs).flatMap (qyz S.rows)) []).flatMap fun l => match H l with
                      | some o => qwk o
                      | none => []), S.res x, S.post x, S.drop⟩
                    refine ⟨_, c ++ out.conds, .call oc :: os, fun rest => ?_, qah h2 ?_, h3⟩
                    · simp only [qcy, hw, qUw, List.cons_append]
                      have ht : qin o.op (.call oc :: (os ++ rest)) = some (some oc, os ++ rest) := by
                        simp only [qin, hcall, if_true]
                      rw [ht]
                      simp only [qxq, hop, qfb, hf, hvs]
                      rw [qDk (fun l ob hlo => ?_) hcs]
                      · simp only
                        rw [hop] at hout
                        rw [hout]
                        simp only [h1]
                        rfl
                      · rw [hop] at hlo
                        unfold qWc at hlo ⊢
                        split at hlo
                        · rename_i hm
                          simp only [List.contains_eq_mem, List.mem_append, decide_eq_true_eq] at hm ⊢
                          rw [if_pos (.inl hm)]; exact hlo
                        · cases hlo
                    · have hA : ∀ as, (if S.nils then pv else qjo P (qOg P f) pv) = as → as = qjo P (qOg P f) pv ∨ as = pv := by
                        rintro as rfl
                        cases S.nils
                        · exact .inl rfl
                        · exact .inr rfl
                      unfold qbp at hout
                      simp only at hout
                      generalize hAs : (if S.nils then pv else qjo P (qOg P f) pv) = as at hout hx
                      rw [hpv, hhl] at hout
                      simp only at hout
                      split at hout
                      · injection hout with hout; subst hout
                        refine ⟨hA _ hAs, qtm hpre, ?_, trivial⟩
                        have := S.ok _ _ _ hx
                        rwa [qix hS] at this
                      · cases hout
                  · cases h
                · cases h
              · cases h
            · cases h
          · cases h
        · cases h
      · cases h
    · rename_i hcall
      split at h
      · rename_i out hout
        obtain ⟨h0, h⟩ := qFj h
        obtain ⟨v', c, os, h1, h2, h3⟩ := qhm h
        refine ⟨_, c ++ out.conds, os, fun rest => ?_, qah h2 h0, h3⟩
        simp only [Bool.not_eq_true] at hcall
        simp only [qcy, hw, qUw, qin, hcall, qxq, List.append_nil, Bool.false_eq_true, if_false]
        rw [hout]
        simp only [h1]
      · cases h
theorem qsz {ops : List Oper} {T : Nat → TV} {H : qzb} {nl i : Nat} {o : Oper} {k : Ev → Tr} : opN P GT mnz tab true ops T H nl i o k = opT P GT tab ops T H nl i o k := rfl
theorem qtx {ops : List Oper} : ∀ {q : List Oper} {i : Nat} {σ : St} {k : St → List (Oper × Ev) → Tr}, den lf fin (qwB P GT nt mnz tab true ops i q σ k) = some r →
    ∃ σ' c os tr, (∀ rest, qJi P GT nt ops i q σ (os ++ rest) = some (σ', c, rest, tr)) ∧ qVe c ∧ den lf fin (k σ' tr) = some r
  | [], i, σ, k, h => ⟨σ, [], [], [], fun rest => rfl, trivial, h⟩
  | o :: q, i, σ, k, h => by
    simp only [qwB, qsz] at h
    obtain ⟨e, c, os, h1, h2, h3⟩ := qwx h
    split at h3
    · rename_i hd
      obtain ⟨σ', c', os', tr, g1, g2, g3⟩ := qtx h3
      refine ⟨σ', c ++ c', os ++ os', _, fun rest => ?_, qah h2 g2, g3⟩
      rw [List.append_assoc]
      simp only [qJi, h1, hd, if_true, g1]
    · cases h3
theorem qGv {ops : List Oper} {σ : St} {k : St → Tr} (h : den lf fin (qqq P GT nt mnz tab ops true σ k) = some r) :
    ∃ σ' c os, (∀ rest, qIi P GT nt ops true σ (os ++ rest) = some (σ', c, rest)) ∧ qVe c ∧ den lf fin (k σ') = some r := by
  unfold qqq at h
  simp only [Bool.not_true, Bool.false_and, Bool.false_eq_true, if_false] at h
  obtain ⟨σ', c, os, tr, h1, h2, h3⟩ := qtx h
  split at h3
  · rename_i hd
    refine ⟨_, c, os, fun rest => ?_, h2, h3⟩
    simp only [qIi, h1, Bool.not_true, hd, if_true]
  · cases h3
theorem qKB (hm : ∀ f ∈ mnz, quw P f) {c : Cx} {T : Nat → TV} {H : qzb} {K : Kn} {a : Act} {w : World} {nl : Nat} (R0 : Rel c P GT nt T H K a w) {ops : Array Oper} {i : Nat} {o : Oper} {ts : List Nat} {k : Ev → Tr}
    (h : den lf fin (opN P GT mnz tab false ops.toList (Ab.keepT ts T) H nl i o k) = some r) (hdk : ∀ e, den lf fin (k e) = some r → qdi nt o.dst = true)
    (hf : ∀ l, nl ≤ l → l < nl + 8 → K l = none) {next : Act → World → Prop} {Q : Exit → Act → World → Prop}
    (hn : ∀ e a' w' K', den lf fin (k e) = some r → Rel c P GT nt (qtq T o.dst e.v) (qbb H e.upd) K' a' w' → (∀ l, K' l = K l ∨ (nl ≤ l ∧ l < nl + 8)) → (∀ l gh, K l = some gh → K' l = some gh) → next a' w') :
    (if Region.wanted o (yielded ops a.tmps) then o.wp P a w next Q ∨ (o.asks P a w ∧ LetsOut Q) else next (a.put o.dst undef) w) := by
  unfold opN at h
  split at h
  · rename_i y hy
    simp only [Bool.false_eq_true, if_false] at hy
    split at hy
    · rename_i hw
      rw [quj R0 hw]
      simp only [if_true]
      refine .inl ?_
      obtain ⟨h0, h⟩ := qFj h
      simp only [den] at h
      have A : At c P GT H (qWc H []) K w (Ab.evT GT (Ab.keepT ts T)) a.eval nl :=
        ⟨R0.inv, qAm, fun x => R0.keepT ts x, hf, R0.ng, R0.glob, R0.gng⟩
      refine qZq (qIy A hm hy h0) ?_
      rintro u w' ⟨x, hx, K', S, hu⟩
      obtain ⟨v', c', os, h1, h2, h3⟩ := qhm (qAg h x hx)
      have hv : TVRd w' (NN c (qbb H (y.out x).upd) K' w') K' v' u := by
        have hdec := h1 []
        unfold qCk at hdec
        split at hdec
        · split at hdec
          · rename_i b c'' os'' hb hos
            simp only [Option.some.injEq, Prod.mk.injEq] at hdec
            obtain ⟨rfl, rfl, _⟩ := hdec
            rw [hb] at hu
            have : b = c'' := h2.1
            rw [← this]; exact hu
          · cases hdec
        · simp only [Option.some.injEq, Prod.mk.injEq] at hdec
          obtain ⟨rfl, rfl, _⟩ := hdec
          exact hu
      exact hn _ _ _ K' h3 (R0.put S hv (hdk _ h3)) S.fresh S.keep.k
    · cases hy
  · obtain ⟨e, c', os, h1, h2, h3⟩ := qwx h
    exact qYq R0 (h1 []) h2 (hdk e h3) hf (fun a' w' K' R' q1 q2 => hn e a' w' K' h3 R' q1 q2)
theorem qsx (hm : ∀ f ∈ mnz, quw P f) {c : Cx} {ops : Array Oper} {Q : Exit → Act → World → Prop} {n0 : Nat} : ∀ (q : List Oper) (i : Nat) (σ : St) (k : St → List (Oper × Ev) → Tr) (K : Kn) (a : Act) (w : World),
    den lf fin (qwB P GT nt mnz tab false ops.toList i q σ k) = some r → ops.toList.drop i = q → i + q.length = ops.size → σ.next = n0 → Rel c P GT nt σ.look (qAb σ.heap) K a w → (∀ l, n0 + 8 * i ≤ l → K l = none) →
    (∀ σ' tr a' w' K', den lf fin (k σ' tr) = some r → σ'.next = n0 → Rel c P GT nt σ'.look (qAb σ'.heap) K' a' w' → (∀ l, n0 + 8 * ops.size ≤ l → K' l = none) → (∀ l gh, K l = some gh → K' l = some gh) → Q .normal a' w') →
    wpOps P ops Q (List.range' i q.length) a w
  | [], i, σ, k, K, a, w, h, hr, hi, hn, R0, hf, hQ => by
    simp only [List.length_nil] at hi
    exact hQ σ [] a w K h hn R0 (fun l hl => hf l (by omega)) (fun _ _ h => h)
  | o :: q, i, σ, k, K, a, w, h, hr, hi, hn, R0, hf, hQ => by
    simp only [qwB] at h
    have hoi : ops[i]? = some o := by
      rw [← Array.getElem?_toList, ← List.head?_drop, hr]; rfl
    have hr2 : ops.toList.drop (i + 1) = q := by
      rw [← List.tail_drop, hr]; rfl
    rw [List.length_cons, List.range'_succ, wpOps_cons]
    unfold wpOp
    rw [hoi]
    refine qKB hm R0 h (fun e he => ?_) (fun l h1 h2 => hf l (by omega)) ?_
    · split at he
      · assumption
      · cases he
    · intro e a' w' K' he R' hk hmn
      rw [qVn, qun (dst := o.dst)] at R'
      split at he
      · refine qsx hm q (i + 1) (σ.put o.dst e) _ K' a' w' he hr2 (by simp only [List.length_cons] at hi; omega) hn R' (fun l hl => ?_) (fun σ' tr a'' w'' K'' g1 g2 R'' h1 h2 => hQ σ' _ a'' w'' K'' g1 g2 R'' h1 (fun l gh hl => h2 l gh (hmn l gh hl)))
        rcases hk l with h1 | h1
        · rw [h1]; exact hf l (by omega)
        · omega
      · cases he
theorem qRr {σ : St} {l : Nat} (h : qTA σ l = true) (t : Nat) : qwC [l] (σ.look t) = true := by
  unfold qTA at h
  simp only [Bool.and_eq_true] at h
  unfold St.look
  split
  · rename_i v hv
    exact List.all_eq_true.1 h.1 (t, v) (qEb hv)
  · rfl
theorem qFu {σ : St} {l : Nat} (h : qTA σ l = true) {x : Nat} {ob : Obj} (hx : qAb σ.heap x = some ob) : okO [l] ob = true := by
  unfold qTA at h
  simp only [Bool.and_eq_true] at h
  unfold qAb at hx
  split at hx
  · rename_i o hv
    subst hx
    exact List.all_eq_true.1 h.2 (x, some ob) (qEb hv)
  · cases hx
theorem qgo {c : Cx} {ops : Array Oper} {n0 : Nat} (b : Frame) (cs : List Frame) (todo : List Item) : ∀ (q : List Oper) (i : Nat) (σ : St) (k : St → Tr) (K : Kn) (a : Act) (w : World),
    den lf fin (qmt P GT nt tab ops.toList i q σ k) = some r → ops.toList.drop i = q → i + q.length = ops.size → σ.next = n0 → Rel c P GT nt σ.look (qAb σ.heap) K a w → (∀ l, n0 + 8 * i ≤ l → K l = none) →
    ∃ σ' K' a' w', den lf fin (k σ') = some r ∧ σ'.next = n0 ∧ Rel c P GT nt σ'.look (qAb σ'.heap) K' a' w' ∧ (∀ l, n0 + 8 * ops.size ≤ l → K' l = none) ∧ (∀ l gh, l < 8 → K l = some gh → K' l = some gh) ∧
      Steps P (lone (b.at a (.inRegion ops (List.range' i q.length) :: todo)) cs w) (lone (b.at a' todo) cs w')
  | [], i, σ, k, K, a, w, h, hr, hi, hn, R0, hf => by
    simp only [List.length_nil] at hi
    exact ⟨σ, K, a, w, h, hn, R0, fun l hl => hf l (by omega), fun _ _ _ h => h, .one step_region_end⟩
  | o :: q, i, σ, k, K, a, w, h, hr, hi, hn, R0, hf => by
    simp only [qmt] at h
    have hoi : ops[i]? = some o := by
      rw [← Array.getElem?_toList, ← List.head?_drop, hr]; rfl
    have hr2 : ops.toList.drop (i + 1) = q := by
      rw [← List.tail_drop, hr]; rfl
    rw [List.length_cons, List.range'_succ]
    have fin' : ∀ (e : Ev) (a' : Act) (w' : World) (K' : Kn), den lf fin (if qdi nt o.dst then qmt P GT nt tab ops.toList (i + 1) q (σ.put o.dst e) k else .dead) = some r → Rel c P GT nt (qtq σ.look o.dst e.v) (qbb (qAb σ.heap) e.upd) K' a' w' →
        (∀ l, σ.next + 8 * i + 8 ≤ l → K' l = none) → (∀ l gh, l < 8 → K l = some gh → K' l = some gh) →
        Steps P (lone (b.at a (.inRegion ops (i :: List.range' (i + 1) q.length) :: todo)) cs w) (lone (b.at a' (.inRegion ops (List.range' (i + 1) q.length) :: todo)) cs w') →
        ∃ σ' K' a' w', den lf fin (k σ') = some r ∧ σ'.next = n0 ∧ Rel c P GT nt σ'.look (qAb σ'.heap) K' a' w' ∧ (∀ l, n0 + 8 * ops.size ≤ l → K' l = none) ∧ (∀ l gh, l < 8 → K l = some gh → K' l = some gh) ∧
          Steps P (lone (b.at a (.inRegion ops (i :: List.range' (i + 1) q.length) :: todo)) cs w) (lone (b.at a' todo) cs w') := by
      intro e a' w' K' he R' hk hmn hs
      rw [qVn, qun (dst := o.dst)] at R'
      split at he
      · obtain ⟨σ2, K2, a2, w2, g1, g2, g3, g4, g5, g6⟩ := qgo b cs todo q (i + 1) (σ.put o.dst e) k K' a' w' he hr2 (by simp only [List.length_cons] at hi; omega) hn R' (fun l hl => hk l (by omega))
        exact ⟨σ2, K2, a2, w2, g1, g2, g3, g4, fun l gh h8 hl => g5 l gh h8 (hmn l gh h8 hl), hs.trans g6⟩
      · cases he
    have hfr : ∀ l, σ.next + 8 * i ≤ l → l < σ.next + 8 * i + 8 → K l = none := fun l h1 _ => hf l (by omega)
    have new_of : ∀ (K' : Kn), (∀ l, K' l = K l ∨ (σ.next + 8 * i ≤ l ∧ l < σ.next + 8 * i + 8)) → ∀ l, σ.next + 8 * i + 8 ≤ l → K' l = none := fun K' hk l hl => by
      rcases hk l with h1 | h1
      · rw [h1]; exact hf l (by omega)
      · omega
    have usual : den lf fin (opT P GT tab ops.toList (keepT (o.looksAt ops.toList.toArray) σ.look) (qAb σ.heap) (σ.next + 8 * i) i o fun e =>
        if qdi nt o.dst then qmt P GT nt tab ops.toList (i + 1) q (σ.put o.dst e) k else .dead) = some r →
        ∃ σ' K' a' w', den lf fin (k σ') = some r ∧ σ'.next = n0 ∧ Rel c P GT nt σ'.look (qAb σ'.heap) K' a' w' ∧ (∀ l, n0 + 8 * ops.size ≤ l → K' l = none) ∧ (∀ l gh, l < 8 → K l = some gh → K' l = some gh) ∧
          Steps P (lone (b.at a (.inRegion ops (i :: List.range' (i + 1) q.length) :: todo)) cs w) (lone (b.at a' todo) cs w') := fun h => by
      obtain ⟨e, c', os, h1, h2, h3⟩ := qwx h
      have hd : qdi nt o.dst = true := by
        split at h3
        · assumption
        · cases h3
      have hwp := qYq (next := fun a' w' => ∃ K', Rel c P GT nt (qtq σ.look o.dst e.v) (qbb (qAb σ.heap) e.upd) K' a' w' ∧ (∀ l, K' l = K l ∨ (σ.next + 8 * i ≤ l ∧ l < σ.next + 8 * i + 8)) ∧ (∀ l gh, K l = some gh → K' l = some gh)) (Q := fun _ _ _ => False) R0 (h1 []) h2 hd hfr (fun a' w' K' R' q1 q2 => ⟨K', R', q1, q2⟩)
      obtain ⟨a', w', ⟨K', R', q1, q2⟩, hst⟩ := qyq (rest := List.range' (i + 1) q.length) hoi hwp b todo cs
      exact fin' e a' w' K' h3 R' (new_of K' q1) (fun l gh _ hl => q2 l gh hl) hst
    unfold qkD at h
    split at h
    · rename_i hw
      split at hw
      · split at h
        · cases h
        · split at h
          · rename_i out hout
            obtain ⟨h0, h⟩ := qFj h
            have A : At c P GT (qAb σ.heap) (qAb σ.heap) K w (Ab.evT GT (Ab.keepT (o.looksAt ops.toList.toArray) σ.look)) a.eval (σ.next + 8 * i) :=
              ⟨R0.inv, fun _ _ h => h, fun x => R0.keepT _ x, hfr, R0.ng, R0.glob, R0.gng⟩
            obtain ⟨v, w', ⟨K', S, hv⟩, hst⟩ := qwy (rest := List.range' (i + 1) q.length) hoi (quj R0 hw) (qnw A hout h0) b todo cs
            have hd : qdi nt o.dst = true := by
              split at h
              · assumption
              · cases h
            exact fin' _ _ _ K' h (R0.put S hv hd) (new_of K' S.fresh) (fun l gh _ hl => S.keep.k l gh hl) (.one hst)
          · split at h
            · rename_i l out hout
              split at h
              · rename_i hok
                have A : At c P GT (qAb σ.heap) (qAb σ.heap) K w (Ab.evT GT (Ab.keepT (o.looksAt ops.toList.toArray) σ.look)) a.eval (σ.next + 8 * i) :=
                  ⟨R0.inv, fun _ _ h => h, fun x => R0.keepT _ x, hfr, R0.ng, R0.glob, R0.gng⟩
                obtain ⟨h8, hdo⟩ := qfx A hout (fun x ob hx _ => qFu hok hx)
                have hd : qdi nt o.dst = true := by
                  split at h
                  · assumption
                  · cases h
                have hwp := qZq (next := fun a' w' => ∃ K', Rel c P GT nt (qtq σ.look o.dst out.v) (qbb (qAb σ.heap) out.upd) K' a' w' ∧ Chg (· ∈ [l]) K K') (Q := fun _ _ _ => False) hdo (fun v w' ⟨K', S, hv⟩ => ⟨K', R0.putC S hv hd (qRr hok), S.chg⟩)
                obtain ⟨a', w', ⟨K', R', q1⟩, hst⟩ := qyq (rest := List.range' (i + 1) q.length) hoi (by rw [quj R0 hw, if_pos rfl]; exact .inl hwp) b todo cs
                refine fin' _ a' w' K' h R' (fun l' hl' => ?_) (fun l' gh hl' hK => ?_) hst
                · rcases q1 l' with h1 | ⟨_, _, _, _, _, _, h1, _⟩
                  · rw [h1]; exact hf l' (by omega)
                  · rw [hf l' (by omega)] at h1; cases h1
                · rcases q1 l' with h1 | ⟨h1, _⟩
                  · rw [h1]; exact hK
                  · rw [List.mem_singleton.1 h1] at hl'; omega
              · cases h
            · split at h
              · rename_i e l m oA oB hout
                split at h
                · rename_i hoks
                  split at h
                  · rename_i gs hgs
                    simp only [den] at h
                    have hA := qAg h true trivial
                    have hB := qAg h false trivial
                    simp only [if_true] at hA
                    simp only [Bool.false_eq_true, if_false] at hB
                    obtain ⟨ha0, hA⟩ := qFj hA
                    obtain ⟨hb0, hB⟩ := qFj hB
                    have A : At c P GT (qAb σ.heap) (qAb σ.heap) K w (Ab.evT GT (Ab.keepT (o.looksAt ops.toList.toArray) σ.look)) a.eval (σ.next + 8 * i) :=
                      ⟨R0.inv, fun _ _ h => h, fun x => R0.keepT _ x, hfr, R0.ng, R0.glob, R0.gng⟩
                    obtain ⟨h8, hdo⟩ := qWv A hout hb0 (fun x ob hx hne => by
                      unfold qAb at hx
                      split at hx
                      · rename_i o1 hv
                        subst hx
                        have := List.all_eq_true.1 hoks (x, some ob) (qEb hv)
                        simp only [Bool.or_eq_true, beq_iff_eq, Bool.not_eq_true', List.contains_eq_mem, decide_eq_false_iff_not] at this
                        exact this.resolve_left hne
                      · cases hx)
                    have hd : qdi nt o.dst = true := by
                      split at hA
                      · assumption
                      · cases hA
                    have hlook : ∀ {K' : Kn} {w' : World}, StpL c (qAb σ.heap) K w oA.upd l K' w' → Grown K K' e l m → ∀ t u, TVRd w (NN c (qAb σ.heap) K w) K (σ.look t) u → TVRd w' (NN c (qbb (qAb σ.heap) oA.upd) K' w') K' (σ.look t) u := fun S hg t u hr => by
                      unfold St.look at hr ⊢
                      split at hr
                      · rename_i v hv
                        obtain ⟨a1, h1, h2⟩ := qGu hgs ha0 (t, v) (qEb hv)
                        exact qLB S.same S.keep hg h1 h2 hr
                      · trivial
                    have hwp := qZq (next := fun a' w' => ∃ e' K', (den lf fin (if qdi nt o.dst then qmt P GT nt tab ops.toList (i + 1) q (σ.put o.dst e') k else .dead) = some r ∧ Rel c P GT nt (qtq σ.look o.dst e'.v) (qbb (qAb σ.heap) e'.upd) K' a' w') ∧ (∀ l, σ.next + 8 * i + 8 ≤ l → K' l = none) ∧ (∀ l gh, l < 8 → K l = some gh → K' l = some gh)) (Q := fun _ _ _ => False) hdo (fun v w' hv => by
                      rcases hv with ⟨K', S, hg, hv⟩ | ⟨K', S, hv⟩
                      · refine ⟨⟨oA.v, oA.upd, []⟩, K', ⟨hA, R0.putL S hv hd (hlook S hg)⟩, fun l' hl' => ?_, fun l' gh hl' hK => ?_⟩
                        · by_cases e1 : l' = l
                          · subst e1
                            obtain ⟨_, _, h1, _⟩ := hg.at_
                            rw [hf l' (by omega)] at h1; cases h1
                          · rw [S.same l' e1]; exact hf l' (by omega)
                        · rw [S.same l' (by omega)]; exact hK
                      · exact ⟨⟨oB.v, oB.upd, []⟩, K', ⟨hB, R0.put S hv hd⟩, new_of K' S.fresh, fun l' gh _ hl => S.keep.k l' gh hl⟩)
                    obtain ⟨a', w', ⟨e', K', ⟨he', R'⟩, q1, q2⟩, hst⟩ := qyq (rest := List.range' (i + 1) q.length) hoi (by rw [quj R0 hw, if_pos rfl]; exact .inl hwp) b todo cs
                    exact fin' e' a' w' K' he' R' q1 q2 hst
                  · cases h
                · cases h
              · exact usual h
      · cases hw
    · exact usual h
def Leads (P : Program) (GT : qvf) (nt : Nat) (Q : Pos → Prop) (s : Pos) : Prop :=
  ∀ (c : Cx) (K : Kn) (a : Act) (w : World) (b : Frame) (cs : List Frame), RelS c P GT nt s.st K a w →
    ∃ s' K' a' w', Q s' ∧ RelS c P GT nt s'.st K' a' w' ∧ (∀ l gh, l < 8 → K l = some gh → K' l = some gh) ∧ Steps P (lone (b.at a s.todo) cs w) (lone (b.at a' s'.todo) cs w')
theorem Leads.of {Q : Pos → Prop} {s s' : Pos} (h : Reach P GT nt s s') (hq : Q s') : Leads P GT nt Q s := by
  intro c K a w b cs R0
  obtain ⟨K', a', w', h1, h2, h3⟩ := h c K a w b cs R0
  exact ⟨s', K', a', w', hq, h1, h2, h3⟩
theorem Leads.bind {Q Q' : Pos → Prop} {s : Pos} (h : Leads P GT nt Q s) (hq : ∀ s', Q s' → Leads P GT nt Q' s') : Leads P GT nt Q' s := by
  intro c K a w b cs R0
  obtain ⟨s1, K1, a1, w1, h1, h2, h3, h4⟩ := h c K a w b cs R0
  obtain ⟨s2, K2, a2, w2, g1, g2, g3, g4⟩ := hq s1 h1 c K1 a1 w1 b cs h2
  exact ⟨s2, K2, a2, w2, g1, g2, fun l gh hl hk => g3 l gh hl (h3 l gh hl hk), h4.trans g4⟩
theorem qiu (hm : P.follows .mixedOrders = true) (hz : ∀ f ∈ mnz, quw P f) {s : Pos} {k : Pos → Tr} (h : den lf fin (qbz P GT nt mnz tab s k) = some r) : Leads P GT nt (fun s' => den lf fin (k s') = some r) s := by
  obtain ⟨todo, σ⟩ := s
  unfold qbz at h
  have go : ∀ {s' : Pos} {os : List Orc} {c : List Prop}, qVj P GT nt ⟨todo, σ⟩ os = some (s', c, []) → qVe c → den lf fin (k s') = some r → Leads P GT nt (fun s' => den lf fin (k s') = some r) ⟨todo, σ⟩ := fun h1 h2 h3 => .of (qGg hm h1 h2) h3
  split at h
  · rename_i q hk; simp only at hk; subst hk
    exact go (os := []) (c := []) rfl trivial h
  · rename_i q hk; simp only at hk; subst hk
    exact go (os := []) (c := []) rfl trivial h
  · rename_i q hk; simp only at hk; subst hk
    exact go (os := []) (c := []) rfl trivial h
  · rename_i q hk; simp only at hk; subst hk
    exact go (os := []) (c := []) rfl trivial h
  · rename_i q hk; simp only at hk; subst hk
    exact go (os := []) (c := []) rfl trivial h
  · rename_i q hk; simp only at hk; subst hk
    exact go (os := []) (c := []) rfl trivial h
  · rename_i x y q hk; simp only at hk; subst hk
    split at h
    · rename_i b hb
      simp only at hb
      simp only [den] at h
      split at h
      · rename_i hbt
        exact go (os := [.bit true]) (c := [b = true]) (by simp only [qVj, hb, if_true]) ⟨hbt, trivial⟩ h
      · rename_i hbt
        simp only [Bool.not_eq_true] at hbt
        exact go (os := [.bit false]) (c := [b = false]) (by simp only [qVj, hb, Bool.false_eq_true, if_false]) ⟨hbt, trivial⟩ h
    · cases h
  · rename_i q hk; simp only at hk; subst hk
    exact go (os := []) (c := []) rfl trivial h
  · rename_i q hk; simp only at hk; subst hk
    exact go (os := []) (c := []) rfl trivial h
  · rename_i q hk; simp only at hk; subst hk
    exact go (os := []) (c := []) rfl trivial h
  · rename_i q hk; simp only at hk; subst hk
    split at h
    · rename_i q' he
      exact go (os := []) (c := []) (by simp only [qVj, he]) trivial h
    · cases h
  · rename_i q hk; simp only at hk; subst hk
    split at h
    · rename_i q' he
      exact go (os := []) (c := []) (by simp only [qVj, he]) trivial h
    · cases h
  · rename_i id ops draw q hk; simp only at hk; subst hk
    cases draw with
    | true =>
      obtain ⟨σ', c, os, h1, h2, h3⟩ := qGv h
      have h1' := h1 []
      rw [List.append_nil] at h1'
      exact go (os := os) (c := c) (by simp only [qVj]; rw [h1']) h2 h3
    | false =>
      intro c K a w b cs R0
      unfold qqq at h
      split at h
      · obtain ⟨σ2, K2, a2, w2, g1, g2, g3, g4, g5, g6⟩ := qgo (n0 := σ.next) b cs q ops.toList 0 σ _ K a w h (by simp) (by simp) rfl R0.rel (fun l hl => R0.fresh l (by omega))
        refine ⟨⟨q, { σ2 with next := σ.next + 8 * ops.toList.length }⟩, K2, a2, w2, g1, ⟨g3, fun l hl => g4 l (by simpa using hl)⟩, fun l gh h8 hl => g5 l gh h8 hl, ?_⟩
        refine .head step_region ?_
        rw [List.range_eq_range']
        simpa using g6
      have hwp : (Code.region id ops false).wp P (fun e a' w' => e = .normal ∧ ∃ σ' K', den lf fin (k ⟨q, σ'⟩) = some r ∧ RelS c P GT nt σ' K' a' w' ∧ (∀ l gh, K l = some gh → K' l = some gh)) a w := by
        refine wp_region ?_
        have := qsx hz (Q := fun e a' w' => e = .normal ∧ ∃ σ' K', den lf fin (k ⟨q, σ'⟩) = some r ∧ RelS c P GT nt σ' K' a' w' ∧ (∀ l gh, K l = some gh → K' l = some gh)) (n0 := σ.next) ops.toList 0 σ _ K a w h (by simp) (by simp) rfl R0.rel (fun l hl => R0.fresh l (by omega)) (fun σ' tr a' w' K' g1 g2 R' g3 g4 => ?_)
        · rw [List.range_eq_range']
          simpa using this
        · simp only [Bool.not_false, Bool.true_or, if_true] at g1
          exact ⟨rfl, { σ' with next := σ.next + 8 * ops.toList.length }, K', g1, ⟨R', fun l hl => g3 l (by simpa using hl)⟩, g4⟩
      obtain ⟨e, a', w', ⟨rfl, σ', K', g1, R', hk⟩, harr⟩ := hwp b q cs
      exact ⟨⟨q, σ'⟩, K', a', w', g1, R', fun l gh _ hl => hk l gh hl, harr⟩
  · cases h
theorem qaB {w : World} {N : Bool → Nat → Prop} {K : Kn} {o : Option Obj} {ob : Obj} {gh : Gh} (h : qbC o = some ob) : (∀ o0, o = some o0 → ORd w N K o0 gh) → ∃ o0, o = some o0 ∧ ORd w N K ob gh := by
  intro hr
  unfold qbC at h
  split at h
  · rename_i e fr
    split at h
    · rename_i hf
      simp only [Option.some.injEq] at h; subst h
      refine ⟨_, rfl, ?_⟩
      obtain ⟨h1, h2⟩ := hr _ rfl
      refine ⟨hf, [], h1, ⟨fun i j p q hi => by simp at hi, fun p q _ hq => by simp at hq⟩, ?_⟩
      revert h2
      cases gh.pl with
      | none => exact fun _ => ⟨rfl, rfl⟩
      | some p =>
        rintro ⟨cs, g1, g2⟩
        simp only [Cat] at g2; subst g2
        exact ⟨[], g1, rfl, rfl⟩
    · simp only [Option.some.injEq] at h; subst h
      exact ⟨_, rfl, hr _ rfl⟩
  · rename_i a e fr
    split at h
    · rename_i hf
      simp only [Bool.and_eq_true] at hf
      simp only [Option.some.injEq] at h; subst h
      refine ⟨_, rfl, ?_⟩
      obtain ⟨h1, h2⟩ := hr _ rfl
      refine ⟨hf.1, hf.2, [], h1, ⟨fun i j p q hi => by simp at hi, fun p q _ hq => by simp at hq⟩, ?_⟩
      revert h2
      cases gh.pl with
      | none => exact fun _ => ⟨rfl, rfl⟩
      | some p =>
        rintro ⟨cs, g1, g2⟩
        simp only [Cat] at g2; subst g2
        exact ⟨[], g1, rfl, rfl⟩
    · simp only [Option.some.injEq] at h; subst h
      exact ⟨_, rfl, hr _ rfl⟩
  · subst h; exact ⟨ob, rfl, hr ob rfl⟩
theorem qrs {ns : List Nat} : ∀ {h : List (Nat × Option Obj)} {l : Nat}, lookL (qAz ns h) l = (if ns.contains l then (lookL h l).map qbC else lookL h l)
  | [], l => by simp [qAz, lookL]
  | (a, b) :: r, l => by
    simp only [qAz]
    by_cases hl : a = l
    · subst hl
      by_cases hc : ns.contains a = true
      · simp only [hc, if_true, lookL, Option.map_some]
      · simp only [Bool.not_eq_true] at hc; simp only [hc, Bool.false_eq_true, if_false, lookL, if_true]
    · have ih := qrs (ns := ns) (h := r) (l := l)
      by_cases hc : ns.contains a = true
      · simp only [hc, if_true, lookL, hl, if_false]; exact ih
      · simp only [Bool.not_eq_true] at hc; simp only [hc, Bool.false_eq_true, if_false] at ih ⊢; simp only [lookL, hl, if_false]; exact ih
theorem qEt {σ : St} {ns : List Nat} (todo : List Item) : Reach P GT nt ⟨todo, σ⟩ ⟨todo, qYA σ ns⟩ := by
  intro c K a w b cs R0
  refine ⟨K, a, w, ?_, fun l gh _ hk => hk, Steps.refl _ _⟩
  unfold qYA
  split
  · exact R0
  · have hH : ∀ l o, qAb (qAz ns σ.heap) l = some o → (∃ o0, qAb σ.heap l = some o0) ∧ ∀ (w : World) (N : Bool → Nat → Prop) (gh : Gh), (∀ o0, qAb σ.heap l = some o0 → ORd w N K o0 gh) → ORd w N K o gh := by
      intro l o hl
      unfold qAb at hl ⊢
      rw [qrs] at hl
      by_cases hc : ns.contains l = true
      · simp only [hc, if_true] at hl
        cases hx : lookL σ.heap l with
        | none => rw [hx] at hl; cases hl
        | some x =>
          rw [hx] at hl
          simp only [Option.map_some] at hl
          refine ⟨?_, fun w N gh h => ?_⟩
          · cases x with
            | none => simp [qbC] at hl
            | some o0 => exact ⟨o0, rfl⟩
          · obtain ⟨_, _, h2⟩ := qaB hl (fun o0 ho => h o0 (by rw [ho]))
            exact h2
      · simp only [hc] at hl
        simp only [Bool.false_eq_true, if_false] at hl
        exact ⟨⟨o, hl⟩, fun w N gh h => h o hl⟩
    have hlive : ∀ b, qJb (qAb (qAz ns σ.heap)) K b → qJb (qAb σ.heap) K b := by
      rintro b ⟨l, o, gh, p, h1, h2⟩
      obtain ⟨⟨o0, h0⟩, _⟩ := hH l o h1
      exact ⟨l, o0, gh, p, h0, h2⟩
    have hN : ∀ fr b, NN c (qAb σ.heap) K w fr b → NN c (qAb (qAz ns σ.heap)) K w fr b := fun fr b hb => ⟨hb.1, fun hn => hb.2.1 (hlive b hn), hb.2.2⟩
    have hk : KeepK w w (NN c (qAb σ.heap) K w) (NN c (qAb (qAz ns σ.heap)) K w) K K := ⟨fun fr => ⟨fun b hb => ⟨hN fr b hb, rfl⟩⟩, fun _ _ h => h⟩
    refine ⟨⟨⟨fun l o hl => ?_, fun l o gh p h1 h2 h3 => ?_, fun l l' o o' gh gh' p p' h1 h2 h3 h4 h5 h6 h7 => ?_, R0.rel.inv.fr⟩, fun t => (R0.rel.tmps t).keep hk, R0.rel.size, R0.rel.defers, R0.rel.ng, R0.rel.gng, R0.rel.glob⟩, R0.fresh⟩
    · obtain ⟨⟨o0, h0⟩, h1⟩ := hH l o hl
      obtain ⟨gh, g1, g2⟩ := R0.rel.inv.objs l o0 h0
      exact ⟨gh, g1, h1 _ _ _ (fun o1 ho => by rw [h0] at ho; injection ho with ho; subst ho; exact g2.keep hk (fun _ _ => rfl))⟩
    · obtain ⟨⟨o0, h0⟩, _⟩ := hH l o h1
      exact R0.rel.inv.own l o0 gh p h0 h2 h3
    · obtain ⟨⟨o0, h0⟩, _⟩ := hH l o h1
      obtain ⟨⟨o0', h0'⟩, _⟩ := hH l' o' h2
      exact R0.rel.inv.inj l l' o0 o0' gh gh' p p' h0 h0' h3 h4 h5 h6 h7
theorem qBr {l : Nat} {o : Obj} : ∀ {h : List (Nat × Option Obj)} {x : Nat}, (lookL h l).isSome → lookL (qUy l o h) x = if l = x then some (some o) else lookL h x
  | [], x, h => by simp [lookL] at h
  | (a, b) :: r, x, h => by
    simp only [qUy]
    by_cases h1 : a = l
    · subst h1
      simp only [if_true, lookL]
      by_cases h2 : a = x <;> simp [h2]
    · simp only [h1, if_false, lookL] at h ⊢
      by_cases h2 : a = x
      · subst h2; simp [Ne.symm h1]
      · simp only [h2, if_false]
        exact qBr h
theorem qzr {w : World} {N : Nat → Prop} {e : Ty} {p : Option Plc} {v : Value} {xs : List (qFa e)} (h : Slot w e p v xs) (hf : e.flat = true) (hN : ∀ q, p = some q → N q.blk) : PRd w N (.slice e) xs [v] := by
  cases p with
  | none => obtain ⟨rfl, rfl⟩ := h; exact ⟨none, 0, rfl, Nat.le_refl _, .inl rfl⟩
  | some p =>
    obtain ⟨o, cap, cl, rfl, h2, h3, h4, h5⟩ := h
    refine ⟨_, cap, rfl, h2, ?_⟩
    rcases h3 with h3 | ⟨rfl, _⟩
    · subst h3
      exact .inl (List.length_eq_zero_iff.1 (by omega))
    · exact .inr ⟨p.blk, p.ob, cl, rfl, hN p rfl, h4.cells, h5.imp (fun _ _ q => q.flat hf)⟩
theorem qVu {w : World} {N : Nat → Prop} {e : Ty} (hf : e.flat = true) : ∀ {xss : List (List (qFa e))} {ps : List (Nat × Option Plc)} {cs : List Value}, FamRd w e xss ps cs → (∀ q, some q ∈ ps.map (·.2) → N q.blk) → Cat (PRd w N (.slice e)) xss cs
  | [], _, _, h, _ => h.2
  | xs :: r, _, _, h, hN => by
    obtain ⟨p, ps', v, cs', rfl, rfl, h1, h2⟩ := h
    have hs : Slot w e p v xs := by cases p <;> exact h1
    exact ⟨[v], cs', rfl, qzr hs hf (fun q hq => hN q (by rw [hq]; simp)), qVu hf h2 (fun q hq => hN q (List.mem_cons_of_mem _ hq))⟩
theorem qqs {w : World} {N : Nat → Prop} {a e : Ty} (ha : a.flat = true) (hf : e.flat = true) : ∀ {xs : List (qFa a × List (qFa e))} {ps : List (Nat × Option Plc)} {cs : List Value}, FamSRd w a e xs ps cs → (∀ q, some q ∈ ps.map (·.2) → N q.blk) → Cat (PRd w N (qLk a e)) (qUf xs) cs
  | [], _, _, h, _ => h.2
  | x :: r, _, _, h, hN => by
    obtain ⟨p, ps', c, v, cs', rfl, rfl, h0, h1, h2⟩ := h
    exact ⟨c ++ [v], cs', by simp, ⟨c, [v], rfl, h0.flat ha, [v], [], rfl, qzr h1 hf (fun q hq => hN q (by rw [hq]; simp)), rfl⟩, qqs ha hf h2 (fun q hq => hN q (List.mem_cons_of_mem _ hq))⟩
theorem qGA {c : Cx} {H : qzb} {K : Kn} {w : World} {o o' : Obj} {gh : Gh} (h : qtB o = some o') (ho : ORd w (NN c H K w) K o gh) : ∃ t n ps, gh.sh = .row t n ps ∧ ∀ (N : Bool → Nat → Prop) (K' : Kn), (∀ q, some q ∈ ps.map (·.2) → N true q.blk) → ORd w N K' o' ⟨.row t n [], gh.pl⟩ := by
  unfold qtB at h
  split at h
  · rename_i a e xs
    simp only [Option.some.injEq] at h; subst h
    obtain ⟨ha, hf, ps, h1, _, h2⟩ := ho
    refine ⟨_, _, ps, h1, fun N K' hN => ?_⟩
    cases hp : gh.pl with
    | none => rw [hp] at h2; obtain ⟨rfl, rfl⟩ := h2; exact ⟨rfl, rfl⟩
    | some p =>
      rw [hp] at h2
      obtain ⟨cs, h3, h4⟩ := h2
      exact ⟨by simp [qUf], cs, h3, qqs ha hf h4 hN⟩
  · rename_i e xss
    simp only [Option.some.injEq] at h; subst h
    obtain ⟨hf, ps, h1, _, h2⟩ := ho
    refine ⟨_, _, ps, h1, fun N K' hN => ?_⟩
    cases hp : gh.pl with
    | none => rw [hp] at h2; obtain ⟨rfl, rfl⟩ := h2; exact ⟨rfl, rfl⟩
    | some p =>
      rw [hp] at h2
      obtain ⟨cs, h3, h4⟩ := h2
      exact ⟨rfl, cs, h3, qVu hf h4 hN⟩
  · cases h
theorem qBv {c : Cx} {H : qzb} {K : Kn} {w : World} {o o' : Obj} {gh : Gh} (h : qtB o = some o') (ho : ORd w (NN c H K w) K o gh) : Apart gh.pl gh.sh.ex := by
  unfold qtB at h
  split at h
  · obtain ⟨ha, hf, ps, h1, h3, h2⟩ := ho
    rw [h1]; exact h3
  · obtain ⟨hf, ps, h1, h3, h2⟩ := ho
    rw [h1]; exact h3
  · cases h
theorem qFr {σ : St} {l : Nat} (todo : List Item) : Leads P GT nt (fun s' => s' = ⟨todo, qOn σ l⟩) ⟨todo, σ⟩ := by
  have same : qOn σ l = σ → Leads P GT nt (fun s' => s' = ⟨todo, qOn σ l⟩) ⟨todo, σ⟩ := fun h => by
    rw [h]; exact .of (Reach.refl _) rfl
  by_cases hsame : qOn σ l = σ
  · exact same hsame
  intro c K a w b cs R0
  have hx : ∃ o o', qAb σ.heap l = some o ∧ qtB o = some o' ∧ 8 ≤ l ∧ qTA σ l = true ∧ qOn σ l = { σ with heap := qUy l o' σ.heap } := by
    unfold qOn at hsame ⊢
    split at hsame
    · rename_i o ho
      split at hsame
      · rename_i o' ho'
        split at hsame
        · rename_i hc
          simp only [Bool.and_eq_true, decide_eq_true_eq] at hc
          exact ⟨o, o', ho, ho', hc.1, hc.2, by simp [ho, ho', hc.1, hc.2]⟩
        · exact absurd rfl hsame
      · exact absurd rfl hsame
    · exact absurd rfl hsame
  obtain ⟨o, o', hl, hro, h8, hok, heq⟩ := hx
  have hv := R0.rel.inv
  obtain ⟨gh, hK, hob⟩ := hv.objs l o hl
  obtain ⟨t, n, ps, hsh, hnew⟩ := qGA hro hob
  have hap := qBv hro hob
  obtain ⟨sh, pl⟩ := gh
  simp only at hsh; subst hsh
  have hup : ∀ x, qAb (qUy l o' σ.heap) x = if l = x then some o' else qAb σ.heap x := fun x => by
    have hs : (lookL σ.heap l).isSome := by
      unfold qAb at hl
      split at hl
      · rename_i y hy; rw [hy]; rfl
      · cases hl
    unfold qAb
    rw [qBr hs]
    by_cases h1 : l = x <;> simp [h1]
  have hchg : Chg (· ∈ [l]) K (qKg K l ⟨.row t n [], pl⟩) := fun x => by
    by_cases e1 : x = l
    · subst e1; exact .inr ⟨List.mem_singleton.2 rfl, _, _, _, _, _, hK, qGa⟩
    · exact .inl (qJd e1)
  have hcase : ∀ x ob g p, qAb (qUy l o' σ.heap) x = some ob → qKg K l ⟨.row t n [], pl⟩ x = some g → Has g p → (x = l ∧ pl = some p) ∨ (x ≠ l ∧ qAb σ.heap x = some ob ∧ K x = some g) := by
    intro x ob g p h1 h2 h3
    rw [hup] at h1
    by_cases e1 : l = x
    · subst e1
      rw [qGa] at h2; injection h2 with h2; subst h2
      rcases h3 with h3 | h3
      · exact .inl ⟨rfl, h3⟩
      · cases h3
    · rw [if_neg e1] at h1
      rw [qJd (Ne.symm e1)] at h2
      exact .inr ⟨Ne.symm e1, h1, h2⟩
  have hlive : ∀ b, qJb (qAb (qUy l o' σ.heap)) (qKg K l ⟨.row t n [], pl⟩) b → qJb (qAb σ.heap) K b := by
    rintro b ⟨x, ob, g, p, h1, h2, h3, h4⟩
    rcases hcase x ob g p h1 h2 h3 with ⟨rfl, h5⟩ | ⟨_, h5, h6⟩
    · exact ⟨x, o, _, p, hl, hK, .inl h5, h4⟩
    · exact ⟨x, ob, g, p, h5, h6, h3, h4⟩
  have hkeep : ∀ fr, Keep w w (NN c (qAb σ.heap) K w fr) (NN c (qAb (qUy l o' σ.heap)) (qKg K l ⟨.row t n [], pl⟩) w fr) :=
    fun fr => ⟨fun b hb => ⟨⟨hb.1, fun hn => hb.2.1 (hlive b hn), hb.2.2⟩, rfl⟩⟩
  have hfree : ∀ q, some q ∈ ps.map (·.2) → NN c (qAb (qUy l o' σ.heap)) (qKg K l ⟨.row t n [], pl⟩) w true q.blk := fun q hq => by
    obtain ⟨o1, o2, _⟩ := hv.own l o _ q hl hK (.inr hq)
    refine ⟨o1, ?_, o2.imp id .inl⟩
    rintro ⟨x, ob, g, p, h1, h2, h3, h4⟩
    rcases hcase x ob g p h1 h2 h3 with ⟨rfl, h5⟩ | ⟨hne, h5, h6⟩
    · exact hap.2 p q h5 hq h4.symm
    · exact hne (hv.inj x l ob o g _ p q h5 hl h6 hK h3 (.inr hq) h4)
  refine ⟨_, qKg K l ⟨.row t n [], pl⟩, a, w, rfl, ?_, fun x gh hx hk => by rw [qJd (by omega)]; exact hk, Steps.refl _ _⟩
  rw [heq]
  refine ⟨⟨⟨fun x ob hx => ?_, fun x ob g p h1 h2 h3 => ?_, fun x x' ob ob' g g' p p' h1 h2 h3 h4 h5 h6 h7 => ?_, hv.fr⟩, fun tt => ?_, R0.rel.size, R0.rel.defers, R0.rel.ng, R0.rel.gng, R0.rel.glob⟩, fun x hx => ?_⟩
  · rw [hup] at hx
    by_cases e1 : l = x
    · subst e1
      rw [if_pos rfl] at hx; injection hx with hx; subst hx
      exact ⟨_, qGa, hnew _ _ hfree⟩
    · rw [if_neg e1] at hx
      obtain ⟨g, a1, a2⟩ := hv.objs x ob hx
      exact ⟨g, by rw [qJd (Ne.symm e1)]; exact a1, a2.chg hchg hkeep (qFu hok hx) (fun _ _ => rfl)⟩
  · rcases hcase x ob g p h1 h2 h3 with ⟨rfl, h5⟩ | ⟨_, h5, h6⟩
    · exact hv.own x o _ p hl hK (.inl h5)
    · exact hv.own x ob g p h5 h6 h3
  · rcases hcase x ob g p h1 h3 h5 with ⟨rfl, a1⟩ | ⟨n1, a1, a2⟩
    · rcases hcase x' ob' g' p' h2 h4 h6 with ⟨rfl, b1⟩ | ⟨n2, b1, b2⟩
      · rfl
      · exact hv.inj x x' _ _ _ _ p p' hl b1 hK b2 (.inl a1) h6 h7
    · rcases hcase x' ob' g' p' h2 h4 h6 with ⟨rfl, b1⟩ | ⟨n2, b1, b2⟩
      · exact hv.inj x x' _ _ _ _ p p' a1 hl a2 hK h5 (.inl b1) h7
      · exact hv.inj x x' _ _ _ _ p p' a1 b1 a2 b2 h5 h6 h7
  · exact (R0.rel.tmps tt).chg hchg hkeep (qRr hok tt)
  · have h1 := R0.fresh x hx
    by_cases e1 : x = l
    · subst e1; rw [hK] at h1; cases h1
    · rw [qJd e1]; exact h1
theorem qNn (todo : List Item) : ∀ {ls : List Nat} {σ : St}, Leads P GT nt (fun s' => s' = ⟨todo, qFA σ ls⟩) ⟨todo, σ⟩
  | [], σ => .of (Reach.refl _) rfl
  | l :: r, σ => (qFr (σ := σ) (l := l) todo).bind (fun s1 h1 => by subst h1; exact qNn todo)
theorem qmz {w : World} {N : Bool → Nat → Prop} {K : Kn} {a : TV} {v : Value} (h : TVRd w N K a v) : TVRd w N K (qlt a) v := by
  unfold qlt
  split
  · obtain ⟨n, pl, h1, h2, h3, h4⟩ := h
    exact ⟨n, pl, h1, h2, by simp, h4⟩
  · exact h
theorem qzo {ts : List Nat} : ∀ {xs : List (Nat × TV)} {t : Nat}, lookL (xs.map fun p => if ts.contains p.1 then (p.1, qlt p.2) else p) t = if ts.contains t then (lookL xs t).map qlt else lookL xs t
  | [], t => by simp [lookL]
  | (a, b) :: r, t => by
    have ih := qzo (ts := ts) (xs := r) (t := t)
    simp only [List.map_cons]
    by_cases h1 : ts.contains a = true
    · simp only [h1, if_true, lookL]
      by_cases h2 : a = t
      · subst h2; simp only [if_true, h1, Option.map_some]
      · simp only [h2, if_false]; exact ih
    · simp only [Bool.not_eq_true] at h1
      simp only [h1, Bool.false_eq_true, if_false, lookL]
      by_cases h2 : a = t
      · subst h2; simp only [if_true, h1, Bool.false_eq_true, if_false]
      · simp only [h2, if_false]; exact ih
theorem qMr {σ : St} {ts : List Nat} (todo : List Item) : Reach P GT nt ⟨todo, σ⟩ ⟨todo, qpx σ ts⟩ := by
  intro c K a w b cs R0
  refine ⟨K, a, w, ?_, fun l gh _ hk => hk, Steps.refl _ _⟩
  unfold qpx
  split
  · exact R0
  · refine ⟨⟨R0.rel.inv, fun t => ?_, R0.rel.size, R0.rel.defers, R0.rel.ng, R0.rel.gng, R0.rel.glob⟩, R0.fresh⟩
    have h := R0.rel.tmps t
    have heq : St.look { σ with tmps := σ.tmps.map fun p => if ts.contains p.1 then (p.1, qlt p.2) else p } t = if ts.contains t then qlt (σ.look t) else σ.look t := by
      unfold St.look
      simp only [qzo]
      by_cases h1 : ts.contains t = true
      · simp only [h1, if_true]
        cases hx : lookL σ.tmps t with
        | none => rfl
        | some v => rfl
      · simp only [Bool.not_eq_true] at h1
        simp only [h1, Bool.false_eq_true, if_false]
    rw [heq]
    split
    · exact qmz h
    · exact h
theorem qsy {c : Cut} {s : Pos} (h : den lf fin (qCC c s) = some r) : Leads P GT nt (fun s' => lf s' = some r) s := by
  unfold qCC at h
  split at h
  · rename_i σ hk
    obtain ⟨todo, σ0⟩ := s
    exact (Leads.of (qTv hk _) rfl).bind (fun s1 h1 => by
      subst h1
      exact (Leads.of (qEt _) rfl).bind (fun s2 h2 => by
        subst h2
        exact (qNn (nt := nt) todo).bind (fun s3 h3 => by subst h3; exact .of (qMr _) h)))
  · cases h
theorem qIx (hm : P.follows .mixedOrders = true) {todo todo' : List Item} {σ : St} (h : qJx todo = some todo') : Reach P GT nt ⟨todo, σ⟩ ⟨todo', σ⟩ := by
  unfold qJx at h
  split at h
  · simp only [Option.some.injEq] at h; subst h
    exact qGg hm (os := []) (cs := []) (os' := []) rfl trivial
  · simp only [Option.some.injEq] at h; subst h
    exact qGg hm (os := []) (cs := []) (os' := []) rfl trivial
  · exact qGg hm (os := []) (cs := []) (os' := []) (by simp only [qVj, h]) trivial
  · cases h
theorem qhn (hm : P.follows .mixedOrders = true) (hz : ∀ f ∈ mnz, quw P f) {cuts : List Cut} : ∀ {n : Nat} {first : Bool} {s : Pos}, den lf fin (qsv P GT nt mnz tab cuts n first s) = some r →
    Leads P GT nt (fun s' => lf s' = some r ∨ (qVv s'.todo = true ∧ fin s' = some r)) s
  | 0, _, _, h => by cases h
  | n + 1, first, s, h => by
    simp only [qsv] at h
    split at h
    · rename_i hr
      exact .of (Reach.refl s) (.inr ⟨hr, h⟩)
    · split at h
      · rename_i todo' hh
        have h0 : Reach P GT nt s ⟨todo', s.st⟩ := qIx hm hh
        split at h
        · exact (Leads.of h0 rfl).bind (fun s1 h1 => by subst h1; exact (qsy h).bind (fun s2 h2 => .of (Reach.refl _) (.inl h2)))
        · exact (Leads.of h0 rfl).bind (fun s1 h1 => by subst h1; exact qhn hm hz h)
      · split at h
        · split at h
          · exact (qsy h).bind (fun s2 h2 => .of (Reach.refl _) (.inl h2))
          · exact (qiu hm hz h).bind (fun s1 h1 => qhn hm hz h1)
        · exact (qiu hm hz h).bind (fun s1 h1 => qhn hm hz h1)
theorem FnI.semR_ok (hm : P.follows .mixedOrders = true) {s : Pos} {r : I.fm.R} (h : I.SemR r s) : Leads P GT (qvr P I.f) (fun s' => qVv s'.todo = true ∧ I.fm.fin P (qCB P I.f) s' = some r) s := by
  induction h with
  | mk s lf h hl ih =>
    refine (qhn hm I.mnzOk h).bind (fun s' hs => ?_)
    rcases hs with hs | hs
    · exact ih s' hs
    · exact .of (Reach.refl _) hs
theorem FnI.sem_ends (hm : P.follows .mixedOrders = true) {s : Pos} {r : I.fm.R} (h : I.sem s = some r) : qgD P GT (qvr P I.f) (qCB P I.f) s (I.fm.res r) (I.fm.post r) := by
  intro c K a w b cs R0
  obtain ⟨s', K', a', w', ⟨h2, h3⟩, R', h4, h5⟩ := FnI.semR_ok hm (FnI.sem_iff.1 h) c K a w b cs R0
  obtain ⟨res0, res1, ren, nx, lo, g1, g2, g3, g3', g4⟩ := Fm.fin_ok h3
  exact ⟨s', res0, res1, ren, nx, lo, K', a', w', R', h4, h5, h2, g1, g2, g3, g3', g4⟩
@[reducible] def FnI.at (I : FnI P GT) (as : List AV) (pre : List (Nat × Obj)) : Pos := ⟨[.code (qoa P I.f)], st0 as pre⟩
noncomputable def FnI.call (I : FnI P GT) (as : List AV) (pre : List (Nat × Obj)) : Option I.fm.R :=
  if qAC P I.f as.length && pre.all (fun p => decide (p.1 < 8)) then I.sem (I.at as pre) else none
theorem FnI.call_ok (hm : P.follows .mixedOrders = true) {as : List AV} {pre : List (Nat × Obj)} {r : I.fm.R} (h : I.call as pre = some r) : CallOK P GT I.f as pre (I.fm.res r) (I.fm.post r) := by
  unfold FnI.call at h
  split at h
  · rename_i hc
    simp only [Bool.and_eq_true] at hc
    exact qCy hc.1 hc.2 (FnI.sem_ends hm h)
  · cases h
noncomputable def FnI.summ (I : FnI P GT) (hm : P.follows .mixedOrders = true) (acc : List AV → Bool) (rows nils : Bool) (drop : Bool := false) : Summ P GT :=
  { f := I.f, acc := acc, rows := rows, nils := nils, drop := drop, R := I.fm.R, fn := I.call, res := I.fm.res, post := I.fm.post, ok := fun as pre r h => FnI.call_ok hm h }
theorem FnI.call_eq {as : List AV} {pre : List (Nat × Obj)} (h : (qAC P I.f as.length && pre.all (fun p => decide (p.1 < 8))) = true) : I.call as pre = I.go (I.at as pre) I.sem := by
  unfold FnI.call
  rw [if_pos h]
  exact FnI.sem_eq _
end
end Go.Ab

/-
  From what a law's arguments read as to plain values, and back.
-/
set_option linter.unusedVariables false
set_option linter.unusedSimpArgs false
namespace Go.Ab
open Go
def qMl : Ty → Bool
  | .arr _ e => qMl e
  | .pair a b => qMl a && qMl b
  | .slice e => qMl e && decide (0 < e.sz)
  | .fn => false
  | _ => true
section
variable {P : Program} {H : Type} {enc : TypeId × Value → H} {w : World} {base : Nat} {spare : Nat → Bool} {held : Bool}
abbrev InW (w : World) : Nat → Prop := fun b => b < w.heap.size
end
section
variable {P : Program} {H : Type} {enc : TypeId × Value → H} {w : World} {base : Nat} {spare : Nat → Bool} {held : Bool}
theorem laid_arr {fuel : Nat} {T E : TypeId} {n : Nat} {k : IntKind} {zs : List Int} {cs : List Value} {q : List MemPlace} (hT : P.underlying T = some (.array n E)) (hE : P.underlying E = some (.int k)) (hc : P.cellsOf E = 1) (hcT : P.cellsOf T = n)
    (h : DataW.trod enc P w base spare held fuel T cs = some (.agg (zs.map fun z => .lit (.int k z)), q)) : cs = zs.map (Value.int k) := by
  obtain ⟨xs, m, _, hx, hlen, hl, he⟩ := DataW.trod_array hT h
  simp only [Prod.mk.injEq, DataW.agg.injEq] at hx
  rw [hcT] at hlen
  have hzl : zs.length = xs.length := by have := congrArg List.length hx.1; simpa using this
  refine List.ext_getElem (by simp; omega) (fun i h1 h2 => ?_)
  have hi := he i (by omega)
  rw [hc, List.getElem?_eq_getElem (by omega)] at hi
  obtain ⟨z, e1, e2, _⟩ := DataW.trod_int hE hi
  have e3 : cs[i]? = some (.int k z) := by
    have := congrArg (·[0]?) e1
    simp only [Nat.mul_one, List.getElem?_take, List.getElem?_drop, Nat.add_zero] at this
    simpa using this
  have e4 : zs[i]? = some z := by
    have := congrArg (·[i]?) hx.1
    simp only [List.getElem?_map] at this
    rw [List.getElem?_eq_getElem (by omega : i < xs.length), e2] at this
    cases hz : zs[i]? with
    | none => rw [hz] at this; simp at this
    | some z' =>
      rw [hz] at this
      simp only [Option.map_some, Option.some.injEq, DataW.lit.injEq, Lit.int.injEq, true_and] at this
      rw [this]
  simp only [List.getElem_map]
  rw [List.getElem?_eq_getElem h1] at e3
  simp only [Option.some.injEq] at e3
  rw [e3]
  rw [List.getElem?_eq_getElem (by simpa using h2)] at e4
  simp only [Option.some.injEq] at e4
  rw [e4]
theorem glob_arr {g n : Nat} {k : IntKind} {zs : List Int} {cs : List Value} (hcs : cs = zs.map (Value.int k)) (hl : zs.length = n) (hcell : ∀ i v, cs[i]? = some v → w.cell? ⟨g, i, none⟩ = some v) :
    ∃ cs, CellsAt w g 0 cs ∧ PRd w (fun _ => False) (.arr n (.int k)) (zs : List Int) cs := by
  refine ⟨cs, fun j v hj => by rw [Nat.zero_add]; exact hcell j v hj, hl, ?_⟩
  subst hcs
  exact qrl zs
end
def qFm : Value → Bool
  | .agg _ => true
  | _ => false
theorem PRd.val {w : World} {N : Bool → Nat → Prop} {K : Kn} (hN : ∀ b, b < w.heap.size → N false b) (hlow : ∀ b, N true b → N false b) {t : Ty} {x : qFa t} {v : Value} {cs : List Value} (h0 : PRd w (InW w) t x cs) (hc : v.cells.toList = cs) (hv : qFm v = t.agg) (hf : qMl t = true) : VRd w N K (qXs t (inj false t x)) v := by
  have h : PRd w (N false) t x cs := h0.keep ⟨fun b hb => ⟨hN b hb, rfl⟩⟩
  clear h0
  cases t with
  | arr n e => 
    cases v <;> simp [Ty.agg, qFm] at hv
    rename_i a
    exact ⟨cs, by simp [Value.cells] at hc; rw [← hc], rfl, qog (N := N) hlow false h⟩
  | pair a b =>
    cases v <;> simp [Ty.agg, qFm] at hv
    exact ⟨cs, by simp [Value.cells] at hc; rw [← hc], rfl, qog (N := N) hlow false h⟩
  | unit =>
    cases v <;> simp [Ty.agg, qFm] at hv
    exact ⟨cs, by simp [Value.cells] at hc; rw [← hc], rfl, qog (N := N) hlow false h⟩
  | int k =>
    simp only [PRd] at h; subst h
    cases v <;> simp [Ty.agg, qFm, Value.cells] at hv hc <;> first | exact hc | skip
    all_goals simp_all [qXs, inj, VRd]
  | bool =>
    simp only [PRd] at h; subst h
    cases v <;> simp [Ty.agg, qFm, Value.cells] at hv hc <;> first | exact hc | skip
    all_goals simp_all [qXs, inj, VRd]
  | str =>
    simp only [PRd] at h; subst h
    cases v <;> simp [Ty.agg, qFm, Value.cells] at hv hc <;> first | exact hc | skip
    all_goals simp_all [qXs, inj, VRd]
  | slice e =>
    obtain ⟨A, cap, rfl, h1, h2⟩ := h
    cases v <;> simp [Ty.agg, qFm, Value.cells] at hv hc
    obtain ⟨rfl, rfl, rfl⟩ := hc
    exact ⟨_, _, rfl, h1, h2⟩
  | fn => simp [qMl] at hf
theorem CallOK.below {P : Program} {GT : qvf} {f : Nat} {args : List AV} {res : TV} {post : List (Nat × Obj)} (h : CallOK P GT f args [] res post) {w : World} (hg : Glob P GT w) {vs : List Value}
    (ha : ∀ (N : Bool → Nat → Prop) (K : Kn), (∀ b, b < w.heap.size → N false b) → (∀ b, N true b → N false b) → VRdL w N K args vs) {v : Value} (hr : ∀ (N : Bool → Nat → Prop) (K : Kn) (w' : World) (u : Value), TVRd w' N K res u → u = v) (hb : (P.funcs[f]?).map (·.body.isSome) = some true) (hn : (P.funcs[f]?).map (·.name == "runtime.NumGoroutine") = some false) :
    Calls P f vs.toArray w fun e w' => e = .returned v ∧ RowKit.Below w.heap.size w w' := by
  have h1 := h w (InW w) (fun _ => False) (fun _ => none) vs hg ⟨(fun l o hl => by cases hl), (fun l o gh p hl => by cases hl), (fun l l' o o' gh gh' p p' hl => by cases hl), ⟨rfl, rfl, rfl, Nat.le_refl _, fun _ _ _ => rfl⟩⟩
    (fun b hb => hb.elim) (fun l hl => rfl) (fun b hb => hb) (ha _ _ (fun b hb => ⟨hb, (fun hl => by obtain ⟨l, o, gh, p, q, _⟩ := hl; cases q), .inr (.inr ⟨rfl, .inl hb⟩)⟩) NN.low)
  unfold qLm at h1
  obtain ⟨fn, hf, hbs⟩ := Option.map_eq_some_iff.1 hb
  obtain ⟨fn', hf', hnm⟩ := Option.map_eq_some_iff.1 hn
  rw [hf] at hf'; injection hf' with hf'; subst hf'
  obtain ⟨body, hbody⟩ := Option.isSome_iff_exists.1 hbs
  have hcf : (callFunc f vs.toArray).run P w = .ok (.enter f vs.toArray) w := by
    have hnm' : ¬ fn.name = "runtime.NumGoroutine" := by simpa using hnm
    simp [callFunc, hf, hnm', hbody]
  rw [hcf] at h1
  refine h1.mono ?_
  rintro e w' ⟨u, rfl, K', _, hI, hu⟩
  exact ⟨by rw [hr _ _ _ _ hu], hI.fr.os, hI.fr.tape, hI.fr.output, hI.fr.size, fun k hk => hI.fr.block k hk (fun h => h)⟩
end Go.Ab

/-
  Functions that are walked by hand: from what a walk tells to what calls ask for.
-/
set_option linter.unusedVariables false
set_option linter.unusedSimpArgs false
namespace Go.Ab
open Go
theorem Inv.more {c : Cx} {H : qzb} {K : Kn} {w w' : World} (h : Inv c H K w) (h1 : w'.os = w.os) (h2 : w'.tape = w.tape) (h3 : w'.output = w.output) (hs : w.heap.size ≤ w'.heap.size) (hb : ∀ k, k < w.heap.size → w'.heap[k]? = w.heap[k]?) :
    Inv c H K w' ∧ KeepK w w' (NN c H K w) (NN c H K w') K K := by
  have hk : KeepK w w' (NN c H K w) (NN c H K w') K K := ⟨fun fr => ⟨fun b hb' => ⟨⟨Nat.lt_of_lt_of_le hb'.1 hs, hb'.2.1, hb'.2.2⟩, hb b hb'.1⟩⟩, fun _ _ h => h⟩
  refine ⟨⟨fun l o hl => ?_, fun l o gh p hl hg hp => ?_, h.inj, ?_⟩, hk⟩
  · obtain ⟨gh, g1, g2⟩ := h.objs l o hl
    exact ⟨gh, g1, g2.keep hk (fun p hp => hb _ (h.own l o gh p hl g1 hp).1)⟩
  · obtain ⟨a, b, d⟩ := h.own l o gh p hl hg hp
    exact ⟨Nat.lt_of_lt_of_le a hs, b, d⟩
  · exact ⟨h1.trans h.fr.os, h2.trans h.fr.tape, h3.trans h.fr.output, Nat.le_trans h.fr.size hs, fun k hk' hG => (hb k (Nat.lt_of_lt_of_le hk' h.fr.size)).trans (h.fr.block k hk' hG)⟩
theorem qAy {P : Program} {f : Nat} {args : Array Value} {w : World} {R : Value → World → Prop} (hb : (P.funcs[f]?).map (·.body.isSome) = some true) (hn : (P.funcs[f]?).map (·.name == "runtime.NumGoroutine") = some false)
    (h : Calls P f args w fun e w' => ∃ v, e = .returned v ∧ R v w') : qLm P f args w R := by
  obtain ⟨fn, hf, hbs⟩ := Option.map_eq_some_iff.1 hb
  obtain ⟨fn', hf', hnm⟩ := Option.map_eq_some_iff.1 hn
  rw [hf] at hf'; injection hf' with hf'; subst hf'
  obtain ⟨body, hbody⟩ := Option.isSome_iff_exists.1 hbs
  have hcf : (callFunc f args).run P w = .ok (.enter f args) w := by
    have hnm' : ¬ fn.name = "runtime.NumGoroutine" := by simpa using hnm
    simp [callFunc, hf, hnm', hbody]
  unfold qLm
  rw [hcf]
  exact h
end Go.Ab

/-
  Plain laws on numbers and lists, for the printed functions.
-/
set_option linter.unusedVariables false
set_option linter.unusedSimpArgs false
namespace Go.Ab
open Go
theorem w64 {x : Int} (h1 : -9223372036854775808 ≤ x) (h2 : x ≤ 9223372036854775807) : IntKind.wrap .i64 x = x := by
  simp [IntKind.wrap, IntKind.signed, IntKind.bits]; omega
theorem wu8 (x : Int) : IntKind.wrap .u8 x = x % 256 := by
  simp [IntKind.wrap, IntKind.signed, IntKind.bits]
theorem qtC (x : Int) : IntKind.wrap .u32 x = x % 4294967296 := by
  simp [IntKind.wrap, IntKind.signed, IntKind.bits]
theorem qwD (x : Int) : IntKind.wrap .u64 x = x % 18446744073709551616 := by
  simp [IntKind.wrap, IntKind.signed, IntKind.bits]
theorem qll (a : Int) {b : Int} (h : 0 < b) : Int.fdiv a b = a / b := Int.fdiv_eq_ediv_of_nonneg _ (by omega)
theorem qYs {a b : Int} (h : 0 ≤ a) : Int.tdiv a b = a / b := Int.tdiv_eq_ediv_of_nonneg h
theorem qGh {a b : Int} (h : 0 ≤ a) : Int.tmod a b = a % b := Int.tmod_eq_emod_of_nonneg h
theorem qLw (a b : Int) (h0 : 0 ≤ b) (h : b ≤ 63) : qnh .i64 a b = a / 2 ^ b.toNat := by
  unfold qnh
  have : min b.toNat (IntKind.bits .i64) = b.toNat := by simp [IntKind.bits]; omega
  rw [this]
  exact Int.fdiv_eq_ediv_of_nonneg _ (by have : (0:Int) < 2 ^ b.toNat := Int.pow_pos (by decide); omega)
def Bts (xs : List Int) : Prop := ∀ x ∈ xs, 0 ≤ x ∧ x < 256
theorem Bts.nil : Bts [] := fun x hx => by cases hx
theorem Bts.append {a b : List Int} (ha : Bts a) (hb : Bts b) : Bts (a ++ b) := fun x hx => (List.mem_append.1 hx).elim (ha x) (hb x)
theorem Bts.take {a : List Int} (h : Bts a) (n : Nat) : Bts (a.take n) := fun x hx => h x (List.mem_of_mem_take hx)
theorem Bts.drop {a : List Int} (h : Bts a) (n : Nat) : Bts (a.drop n) := fun x hx => h x (List.mem_of_mem_drop hx)
theorem Bts.cons {a : List Int} {x : Int} (hx : 0 ≤ x ∧ x < 256) (h : Bts a) : Bts (x :: a) := fun y hy => by
  rcases List.mem_cons.1 hy with rfl | hy
  · exact hx
  · exact h y hy
theorem qSh {xs : List Int} (h : Bts xs) : qDb (qJf xs) = xs := by
  unfold qDb qJf
  simp only [List.map_map]
  refine (List.map_congr_left (fun x hx => ?_)).trans (List.map_id xs)
  obtain ⟨h0, h1⟩ := h x hx
  simp only [Function.comp, UInt8.toNat_ofNat', id]
  omega
theorem qtv (xs : List Int) : (qJf xs).size = xs.length := by
  show ((xs.map fun n => UInt8.ofNat n.toNat).toArray).size = _
  simp
theorem qFw {xs ys : List Int} (hx : Bts xs) (hy : Bts ys) (h : qJf xs = qJf ys) : xs = ys := by
  rw [← qSh hx, h, qSh hy]
theorem qdC {xs ys : List Int} (hx : Bts xs) (hy : Bts ys) : (ByteArray.toList (qJf xs) == ByteArray.toList (qJf ys)) = decide (xs = ys) := by
  rw [Bool.eq_iff_iff, beq_iff_eq, decide_eq_true_eq]
  exact ⟨fun h => qFw hx hy (toList_inj h), fun h => by rw [h]⟩
end Go.Ab

/-
  Regions in the rounds of a range over a function, and what abides while its book-keeping turns.
-/
set_option linter.unusedVariables false
set_option linter.unusedSimpArgs false
namespace Go.Ab
open Go
section
variable {c : Cx} {P : Program} {GT : qvf} {H : qzb} {K : Kn} {w w' : World}
end
section
variable {c : Cx} {P : Program} {GT : qvf} {nt : Nat} {mnz : List Nat} {tab : List (Summ P GT)} {R : Type} {lf fin : Pos → Option R} {r : R}
theorem Does.mono {o : Oper} {ρ : Operand → Value} {w : World} {R R' : Value → World → Prop} (h : Does P o ρ w R) (hr : ∀ v w', R v w' → R' v w') : Does P o ρ w R' := by
  unfold Does at h ⊢
  split at h
  · exact hr _ _ h
  · exact hr _ _ h
  · refine Calls.mono h ?_
    rintro e w'' ⟨v, e1, h2⟩
    exact ⟨v, e1, hr _ _ h2⟩
  · exact h.elim
theorem RelS.keep {σ σ' : St} {K : Kn} {a : Act} {w : World} {ts : List Nat} {ren : List (Nat × Nat)} {nx : Nat} {lo : Bool} (R0 : RelS c P GT nt σ K a w) (h : σ.keep ts ren nx lo = some σ') :
    ∃ K', RelS c P GT nt σ' K' a w ∧ (∀ l, l < 8 → K' l = K l) ∧ (∀ b, NN c (qAb σ.heap) K w false b → NN c (qAb σ'.heap) K' w false b) ∧ (∀ l m, qLd ren l = some m → K' m = K l) ∧ ∀ l o gh p, qLd ren l = none → qAb σ.heap l = some o → K l = some gh → Has gh p → NN c (qAb σ'.heap) K' w false p.blk := by
  unfold St.keep at h
  split at h
  · rename_i hok
    split at h
    · rename_i tl hl0 e1 e2
      simp only [Option.some.injEq] at h; subst h
      obtain ⟨K', X, hI, h8, hx⟩ := qGo R0 hok e2
      refine ⟨K', ⟨⟨hI, fun t => ?_, R0.rel.size, R0.rel.defers, R0.rel.ng, R0.rel.gng, R0.rel.glob⟩, fun l hl => hx l hl⟩, h8, fun b hb => by simpa using X.n false b hb, X.k, fun l o gh p h1 h2 h3 h4 => by simpa using X.gone l o gh p trivial h1 h2 h3 h4 false⟩
      show TVRd w (NN c (qAb hl0) K' w) K' (St.look ⟨tl, hl0, nx⟩ t) _
      unfold St.look
      split
      · rename_i v hv
        exact qIo X R0.rel.inv (fun _ _ h => h) (fun _ _ => trivial) (qxk e1 hv) (R0.rel.tmps t)
      · trivial
    · cases h
  · cases h
theorem Inv.df {H : qzb} {K : Kn} {w : World} (h : Inv c H K w) (d : List Deferred) : Inv { c with df := d } H K w := ⟨h.objs, h.own, h.inj, ⟨h.fr.os, h.fr.tape, h.fr.output, h.fr.size, h.fr.block⟩⟩
theorem RelS.df {σ : St} {K : Kn} {a : Act} {w : World} (h : RelS c P GT nt σ K a w) (d : List Deferred) : RelS { c with df := d } P GT nt σ K { a with defers := d } w :=
  ⟨⟨h.rel.inv.df d, h.rel.tmps, h.rel.size, rfl, h.rel.ng, h.rel.gng, h.rel.glob⟩, h.fresh⟩
end
section
variable {F : Fence} {n : Nat} {P : Program} {Q : Exit → Act → World → Prop} {a : Act} {w : World}
end
section
variable {c : Cx} {P : Program} {GT : qvf} {nt : Nat} {mnz : List Nat} {tab : List (Summ P GT)} {R : Type} {lf fin : Pos → Option R} {r : R}
end
end Go.Ab

/-
  A law's row where the world's shape is kept: some int stands in a variable that no one lists.
-/
set_option linter.unusedVariables false
namespace Go.Ab
open Go
variable {H : Type} {enc : TypeId × Value → H}
end Go.Ab
