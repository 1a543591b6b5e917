/-
  Plain laws of the printed functions.
-/
import Derived.Test.YtdhmnakopofmpaaGenT3c
set_option linter.unusedVariables false
set_option linter.unusedSimpArgs false
set_option maxHeartbeats 1000000
namespace Go.Ab
attribute [local irreducible] IntKind.wrap
/-! ### 1. Scripts: valid harms -/
theorem dropT {α : Type} (z : α) {xs : List α} {i : Nat} (h : i < xs.length) : xs.drop i = xs.getD i z :: xs.drop (i + 1) ∧ xs.getD i z ∈ xs := by
  have e : xs.getD i z = xs[i] := by simp [List.getD_eq_getElem?_getD, List.getElem?_eq_getElem h]
  rw [e]
  exact ⟨List.drop_eq_getElem_cons h, List.getElem_mem h⟩
def HVc (k p n : Int) (m : Nat) : Prop :=
  0 ≤ p ∧ ((k = 1 ∧ 0 ≤ n ∧ n < 256 ∧ m = 0) ∨ (k = 2 ∧ 0 ≤ n ∧ m = 0) ∨ (k = 3 ∧ n = 0 ∧ m ≤ 200) ∨ (k = 4 ∧ n = 0 ∧ m = 0))
instance (k p n : Int) (m : Nat) : Decidable (HVc k p n m) := by unfold HVc; infer_instance
def HV (h : D_api_Harm) : Prop := HVc h.1 h.2.1 h.2.2.1 h.2.2.2.1.length
instance (h : D_api_Harm) : Decidable (HV h) := by unfold HV; infer_instance
theorem valid_core (k p n : Int) (m : Nat) : (if (k == (1 : Int)) = true then
    if (decide (p ≥ (0 : Int))) = true then
      if (decide (n ≥ (0 : Int))) = true then
        if (decide (n < (256 : Int))) = true then some ((Int.ofNat m) == (0 : Int)) else some (false)
      else some (false)
    else some (false)
  else
    if (k == (2 : Int)) = true then
      if (decide (p ≥ (0 : Int))) = true then
        if (decide (n ≥ (0 : Int))) = true then some ((Int.ofNat m) == (0 : Int)) else some (false)
      else some (false)
    else
      if (k == (3 : Int)) = true then
        if (decide (p ≥ (0 : Int))) = true then
          if (n == (0 : Int)) = true then some (decide ((Int.ofNat m) ≤ (200 : Int))) else some (false)
        else some (false)
      else
        if (k == (4 : Int)) = true then
          if (decide (p ≥ (0 : Int))) = true then
            if (n == (0 : Int)) = true then some ((Int.ofNat m) == (0 : Int)) else some (false)
          else some (false)
        else some (false)) = some (decide (HVc k p n m)) := by
  have hm : Int.ofNat m = (m : Int) := rfl
  simp only [decide_eq_true_eq, beq_iff_eq, hm]
  repeat' split
  all_goals
    refine congrArg some (Bool.eq_iff_iff.2 (Iff.trans ?_ decide_eq_true_iff.symm))
    unfold HVc
    simp only [decide_eq_true_eq, beq_iff_eq, bne_iff_ne, ne_eq, Bool.false_eq_true, false_iff] at *
    omega
theorem damage_valid_spec (h : D_api_Harm) : damage_valid h = some (decide (HV h)) := by
  rw [damage_valid_eq]; exact valid_core h.1 h.2.1 h.2.2.1 h.2.2.2.1.length
theorem rvalid_core (k p n : Int) (m : Nat) : (if (decide (p < (0 : Int))) = true then some (false)
  else
    if (decide ((Int.ofNat m) > (0 : Int))) = true then
      if (k != (3 : Int)) = true then some (false)
      else
        if (k == (1 : Int)) = true then
          if (decide (n ≥ (0 : Int))) = true then some (decide (n ≤ (255 : Int))) else some (false)
        else
          if (k == (2 : Int)) = true then some (decide (n ≥ (0 : Int)))
          else
            if (k == (3 : Int)) = true then
              if (n == (0 : Int)) = true then some (decide ((Int.ofNat m) ≤ (200 : Int))) else some (false)
            else
              if (k == (4 : Int)) = true then some (n == (0 : Int)) else some (false)
    else
      if (k == (1 : Int)) = true then
        if (decide (n ≥ (0 : Int))) = true then some (decide (n ≤ (255 : Int))) else some (false)
      else
        if (k == (2 : Int)) = true then some (decide (n ≥ (0 : Int)))
        else
          if (k == (3 : Int)) = true then
            if (n == (0 : Int)) = true then some (decide ((Int.ofNat m) ≤ (200 : Int))) else some (false)
          else
            if (k == (4 : Int)) = true then some (n == (0 : Int)) else some (false)) = some (decide (HVc k p n m)) := by
  have hm : Int.ofNat m = (m : Int) := rfl
  simp only [decide_eq_true_eq, beq_iff_eq, bne_iff_ne, hm]
  repeat' split
  all_goals
    refine congrArg some (Bool.eq_iff_iff.2 (Iff.trans ?_ decide_eq_true_iff.symm))
    unfold HVc
    simp only [decide_eq_true_eq, beq_iff_eq, bne_iff_ne, ne_eq, Bool.false_eq_true, false_iff] at *
    omega
theorem ref_valid_spec (h : D_api_Harm) : bitloftref35_valid h = some (decide (HV h)) := by
  rw [bitloftref35_valid_eq]; exact rvalid_core h.1 h.2.1 h.2.2.1 h.2.2.2.1.length
def chk35 (l : List D_api_Harm) : Int := if 20 < l.length then 4 else if ∀ h ∈ l, HV h then 0 else 8
theorem index_c1 (l : List D_api_Harm) (hl : l.length ≤ 20) : ∀ (k i : Nat), i + k = l.length → ∃ r : Int, slices_IndexFunc_api_Harm_api_Harm_c1 l (l.length : Int) (i : Int) = some r ∧ (0 ≤ r ↔ ¬ ∀ h ∈ l.drop i, HV h)
  | 0, i, e => ⟨-1, by rw [slices_IndexFunc_api_Harm_api_Harm_c1_eq, if_neg (by simp; omega)], by rw [List.drop_of_length_le (by omega)]; simp⟩
  | k + 1, i, e => by
    obtain ⟨d1, d2⟩ := dropT (pzero T_api_Harm : D_api_Harm) (xs := l) (i := i) (by omega)
    obtain ⟨r, h1, h2⟩ := index_c1 l hl k (i + 1) (by omega)
    rw [show ((i + 1 : Nat) : Int) = (i : Int) + 1 by omega] at h1
    have hl' : Int.ofNat l.length = (l.length : Int) := rfl
    rw [slices_IndexFunc_api_Harm_api_Harm_c1_eq, if_pos (by simp; omega), gd_pos (by omega), gd_pos (by rw [hl']; omega), Int.toNat_natCast, damage_Check_1_eq, damage_valid_spec, d1]
    generalize List.getD l i (pzero T_api_Harm) = h at *
    simp only [Option.bind_some, List.forall_mem_cons]
    by_cases hv : HV h
    · rw [if_neg (by simp [hv]), w64 (by omega) (by omega), h1]
      exact ⟨r, rfl, by simp only [hv, true_and]; exact h2⟩
    · rw [if_pos (by simp [hv])]
      exact ⟨i, rfl, by simp [hv]⟩
theorem damage_Check_spec (l : List D_api_Harm) : damage_Check l = some (chk35 l) := by
  have hl' : Int.ofNat l.length = (l.length : Int) := rfl
  rw [damage_Check_eq]
  unfold chk35
  by_cases h : 20 < l.length
  · rw [if_pos (by simp; omega), if_pos h]
  · rw [if_neg (by simp; omega), if_neg h, slices_ContainsFunc_api_Harm_api_Harm_eq, slices_IndexFunc_api_Harm_api_Harm_eq]
    obtain ⟨r, h1, h2⟩ := index_c1 l (by omega) l.length 0 (by omega)
    rw [hl', show (0 : Int) = ((0 : Nat) : Int) from rfl, h1]
    rw [List.drop_zero] at h2
    simp only [Option.bind_some]
    by_cases hv : ∀ h ∈ l, HV h
    · rw [if_neg (by simp only [decide_eq_true_eq]; exact fun h3 => (h2.1 h3) hv), if_pos hv]
    · rw [if_pos (by simp only [decide_eq_true_eq]; exact h2.2 hv), if_neg hv]
theorem rcheck_c1 (l : List D_api_Harm) (hl : l.length ≤ 20) : ∀ (k i : Nat), i + k = l.length → bitloftref35_Check_c1 l (i : Int) = some (if ∀ h ∈ l.drop i, HV h then 0 else 8)
  | 0, i, e => by rw [bitloftref35_Check_c1_eq, if_neg (by simp; omega), List.drop_of_length_le (by omega), if_pos (by simp)]
  | k + 1, i, e => by
    obtain ⟨d1, d2⟩ := dropT (pzero T_api_Harm : D_api_Harm) (xs := l) (i := i) (by omega)
    have h1 := rcheck_c1 l hl k (i + 1) (by omega)
    rw [show ((i + 1 : Nat) : Int) = (i : Int) + 1 by omega] at h1
    have hl' : Int.ofNat l.length = (l.length : Int) := rfl
    rw [bitloftref35_Check_c1_eq, if_pos (by simp; omega), gd_pos (by omega), gd_pos (by rw [hl']; omega), Int.toNat_natCast, ref_valid_spec, d1]
    generalize List.getD l i (pzero T_api_Harm) = h at *
    simp only [Option.bind_some, List.forall_mem_cons]
    by_cases hv : HV h
    · rw [if_neg (by simp [hv]), w64 (by omega) (by omega), h1]
      simp only [hv, true_and]
    · rw [if_pos (by simp [hv]), if_neg (fun h3 => hv h3.1)]
theorem ref_Check_spec (l : List D_api_Harm) : bitloftref35_Check l = some (chk35 l) := by
  rw [bitloftref35_Check_eq]
  unfold chk35
  by_cases h : 20 < l.length
  · rw [if_pos (by simp; omega), if_pos h]
  · have h1 := rcheck_c1 l (by omega) l.length 0 (by omega)
    rw [List.drop_zero] at h1
    rw [if_neg (by simp; omega), if_neg h]
    exact h1
/-! ### 2. What harms leave -/
def st {α : Type} (f : Int → α) (l : List α) (h : D_api_Harm) : Option (List α) :=
  if h.1 = 1 then if h.2.1 < l.length then some (l.set h.2.1.toNat (f h.2.2.1)) else none
  else if h.1 = 2 then if h.2.1 ≤ l.length ∧ h.2.2.1 ≤ l.length - h.2.1 then some (l.take h.2.1.toNat ++ l.drop (h.2.1 + h.2.2.1).toNat) else none
  else if h.1 = 3 then if h.2.1 ≤ l.length ∧ l.length + (h.2.2.2.1.length : Int) ≤ 50000 then some (l.take h.2.1.toNat ++ h.2.2.2.1.map f ++ l.drop h.2.1.toNat) else none
  else if h.2.1 ≤ l.length then some (l.take h.2.1.toNat) else none
def sts {α : Type} (f : Int → α) : List α → List D_api_Harm → Option (List α)
  | l, [] => some l
  | l, h :: r => (st f l h).bind fun l' => sts f l' r
theorem sts_append {α : Type} (f : Int → α) : ∀ (l : List α) (a b : List D_api_Harm), sts f l (a ++ b) = (sts f l a).bind fun l' => sts f l' b
  | l, [], b => rfl
  | l, h :: r, b => by
    simp only [List.cons_append, sts]
    cases st f l h with
    | none => rfl
    | some l' => exact sts_append f l' r b
theorem st_map {α β : Type} (f : Int → α) (g : α → β) (l : List α) (h : D_api_Harm) : (st f l h).map (List.map g) = st (fun x => g (f x)) (l.map g) h := by
  unfold st
  simp only [List.length_map]
  repeat' split
  all_goals simp [List.map_set, List.map_take, List.map_drop]
theorem sts_map {α β : Type} (f : Int → α) (g : α → β) : ∀ (l : List α) (hs : List D_api_Harm), (sts f l hs).map (List.map g) = sts (fun x => g (f x)) (l.map g) hs
  | l, [] => rfl
  | l, h :: r => by
    simp only [sts]
    rw [← st_map]
    cases st f l h with
    | none => rfl
    | some l' => exact sts_map f g l' r
theorem st_len {α : Type} {f : Int → α} {l l' : List α} {h : D_api_Harm} (hv : HV h) (hl : l.length ≤ 50000) (e : st f l h = some l') : l'.length ≤ 50000 := by
  unfold st at e
  have h0 := hv.1
  have h2 : h.1 = 2 → (0 : Int) ≤ h.2.2.1 := fun hk => by
    rcases hv.2 with hh | hh | hh | hh
    · exact hh.2.1
    · exact hh.2.1
    · rw [hh.2.1]; decide
    · rw [hh.2.1]; decide
  repeat' split at e
  all_goals first | (injection e with e; subst e; simp only [List.length_set, List.length_append, List.length_take, List.length_drop, List.length_map]; omega) | cases e | (injection e with e; subst e; simp only [List.length_append, List.length_take, List.length_drop]; have h3 := h2 (by assumption); omega)
theorem sts_len {α : Type} {f : Int → α} : ∀ {l l' : List α} {hs : List D_api_Harm}, (∀ h ∈ hs, HV h) → l.length ≤ 50000 → sts f l hs = some l' → l'.length ≤ 50000
  | l, l', [], _, hl, e => by injection e with e; subst e; exact hl
  | l, l', h :: r, hv, hl, e => by
    simp only [sts] at e
    cases h1 : st f l h with
    | none => rw [h1] at e; cases e
    | some l1 => rw [h1] at e; exact sts_len (fun h hh => hv h (List.mem_cons_of_mem _ hh)) (st_len (hv h List.mem_cons_self) hl h1) e
end Go.Ab

set_option linter.unusedVariables false
set_option linter.unusedSimpArgs false
set_option maxHeartbeats 1000000
namespace Go.Ab
attribute [local irreducible] IntKind.wrap
theorem takeT {α : Type} (z : α) {xs : List α} {i : Nat} (h : i < xs.length) : xs.take (i + 1) = xs.take i ++ [xs.getD i z] := by
  have e : xs.getD i z = xs[i] := by simp [List.getD_eq_getElem?_getD, List.getElem?_eq_getElem h]
  rw [e, List.take_add_one, List.getElem?_eq_getElem h]; rfl
theorem u8id {n : Int} (h0 : 0 ≤ n) (h1 : n < 256) : IntKind.wrap .u8 n = n := by rw [wu8, Int.emod_eq_of_lt h0 h1]
def ps (n : Int) (h : D_api_Harm) : Prop := (h.1 = 1 ∧ h.2.1 < n) ∨ (h.1 = 2 ∧ h.2.1 ≤ n ∧ h.2.2.1 ≤ n - h.2.1) ∨ (h.1 = 3 ∧ h.2.1 ≤ n ∧ n + (h.2.2.2.1.length : Int) ≤ 50000) ∨ (h.1 = 4 ∧ h.2.1 ≤ n)
instance (n : Int) (h : D_api_Harm) : Decidable (ps n h) := by unfold ps; infer_instance
theorem possible_spec {n : Int} {h : D_api_Harm} (hv : HV h) (h0 : 0 ≤ n) (h1 : n ≤ 50000) : damage_possible n h = some (decide (ps n h)) := by
  rw [damage_possible_eq]
  obtain ⟨hp, hv⟩ := hv
  have hof : Int.ofNat h.2.2.2.1.length = (h.2.2.2.1.length : Int) := rfl
  rcases hv with ⟨hk, hn0, hn1, hm⟩ | ⟨hk, hn0, hm⟩ | ⟨hk, hn0, hm⟩ | ⟨hk, hn0, hm⟩
  · rw [if_pos (by rw [hk]; rfl)]
    refine congrArg some (decide_eq_decide.2 ?_)
    unfold ps
    rw [hk]
    simp
  · rw [if_neg (by rw [hk]; decide), if_pos (by rw [hk]; rfl)]
    have e : ps n h ↔ (h.2.1 ≤ n ∧ h.2.2.1 ≤ n - h.2.1) := by unfold ps; rw [hk]; simp
    by_cases h2 : h.2.1 ≤ n
    · rw [if_pos (decide_eq_true h2), w64 (by omega) (by omega)]
      refine congrArg some (decide_eq_decide.2 ?_)
      rw [e]
      exact ⟨fun h => ⟨h2, h⟩, fun h => h.2⟩
    · rw [if_neg (by simp only [decide_eq_true_eq]; exact h2)]
      refine congrArg some (decide_eq_false ?_).symm
      rw [e]; exact fun h => h2 h.1
  · rw [if_neg (by rw [hk]; decide), if_neg (by rw [hk]; decide), if_pos (by rw [hk]; rfl), hof]
    have e : ps n h ↔ (h.2.1 ≤ n ∧ n + (h.2.2.2.1.length : Int) ≤ 50000) := by unfold ps; rw [hk]; simp
    by_cases h2 : h.2.1 ≤ n
    · rw [if_pos (decide_eq_true h2), w64 (by omega) (by omega)]
      refine congrArg some (decide_eq_decide.2 ?_)
      rw [e]
      exact ⟨fun h => ⟨h2, h⟩, fun h => h.2⟩
    · rw [if_neg (by simp only [decide_eq_true_eq]; exact h2)]
      refine congrArg some (decide_eq_false ?_).symm
      rw [e]; exact fun h => h2 h.1
  · rw [if_neg (by rw [hk]; decide), if_neg (by rw [hk]; decide), if_neg (by rw [hk]; decide)]
    refine congrArg some (decide_eq_decide.2 ?_)
    unfold ps
    rw [hk]
    simp
theorem ps1 {n : Int} {h : D_api_Harm} (hk : h.1 = 1) (hp : ps n h) : h.2.1 < n := by
  unfold ps at hp; rw [hk] at hp; simpa using hp
theorem ps2 {n : Int} {h : D_api_Harm} (hk : h.1 = 2) (hp : ps n h) : h.2.1 ≤ n ∧ h.2.2.1 ≤ n - h.2.1 := by
  unfold ps at hp; rw [hk] at hp; simpa using hp
theorem ps3 {n : Int} {h : D_api_Harm} (hk : h.1 = 3) (hp : ps n h) : h.2.1 ≤ n ∧ n + (h.2.2.2.1.length : Int) ≤ 50000 := by
  unfold ps at hp; rw [hk] at hp; simpa using hp
theorem ps4 {n : Int} {h : D_api_Harm} (hk : h.1 = 4) (hp : ps n h) : h.2.1 ≤ n := by
  unfold ps at hp; rw [hk] at hp; simpa using hp
section
variable {α : Type} (f : Int → α) (l : List α) {h : D_api_Harm}
theorem st1 (hk : h.1 = 1) (hq : h.2.1 < (l.length : Int)) : st f l h = some (l.set h.2.1.toNat (f h.2.2.1)) := by
  unfold st; rw [if_pos hk, if_pos hq]
theorem st2 (hk : h.1 = 2) (hq : h.2.1 ≤ (l.length : Int) ∧ h.2.2.1 ≤ (l.length : Int) - h.2.1) : st f l h = some (l.take h.2.1.toNat ++ l.drop (h.2.1 + h.2.2.1).toNat) := by
  unfold st; rw [if_neg (by rw [hk]; decide), if_pos hk, if_pos hq]
theorem st3 (hk : h.1 = 3) (hq : h.2.1 ≤ (l.length : Int) ∧ (l.length : Int) + (h.2.2.2.1.length : Int) ≤ 50000) : st f l h = some (l.take h.2.1.toNat ++ h.2.2.2.1.map f ++ l.drop h.2.1.toNat) := by
  unfold st; rw [if_neg (by rw [hk]; decide), if_neg (by rw [hk]; decide), if_pos hk, if_pos hq]
theorem st4 (hk : h.1 = 4) (hq : h.2.1 ≤ (l.length : Int)) : st f l h = some (l.take h.2.1.toNat) := by
  unfold st; rw [if_neg (by rw [hk]; decide), if_neg (by rw [hk]; decide), if_neg (by rw [hk]; decide), if_pos hq]
theorem stN (hv : HV h) (hp : ¬ ps (l.length : Int) h) : st f l h = none := by
  unfold ps at hp
  unfold st
  rcases hv.2 with ⟨hk, _⟩ | ⟨hk, _⟩ | ⟨hk, _⟩ | ⟨hk, _⟩ <;> rw [hk] at hp ⊢ <;> simp only [true_and, false_and, or_false, false_or, reduceCtorEq, Int.reduceEq] at hp ⊢
  · rw [if_pos trivial, if_neg hp]
  · rw [if_neg (by decide), if_pos trivial, if_neg hp]
  · rw [if_neg (by decide), if_neg (by decide), if_pos trivial, if_neg hp]
  · rw [if_neg (by decide), if_neg (by decide), if_neg (by decide), if_neg hp]
end
def outp : Option (List Int) → List Int × Int
  | some r => (r, 0)
  | none => ([], 16)

def fB : Int → Int := fun x => x
theorem putB (x : Int) : damage_Apply_1 x = some (fB x) := by rw [damage_Apply_1_eq]; rfl
theorem cloneB (l : List Int) (hl : l.length ≤ 50000) : slices_Clone_byte_byte l = some l := by
  rw [slices_Clone_byte_byte_eq]
  refine anyv_eq false (fun h => by cases h) fun r hr => ?_
  cases r with
  | true => rw [if_pos rfl, hr rfl]
  | false => rw [if_neg (by simp), gd_pos (by simp; omega)]; rfl
theorem delB {l : List Int} {p n : Int} (hp : 0 ≤ p) (hn : 0 ≤ n) (h : p + n ≤ l.length) (hl : l.length ≤ 50000) : slices_Delete_u8 l p (IntKind.wrap .i64 (p + n)) = some (l.take p.toNat ++ l.drop (p + n).toNat) := by
  rw [w64 (by omega) (by omega)]
  unfold slices_Delete_u8
  rw [if_pos (by omega)]
theorem insB {l bs : List Int} {p : Int} (hp : 0 ≤ p) (h : p ≤ l.length) (hl : l.length ≤ 50000) (hb : bs.length ≤ 200) : slices_Insert_u8 l p bs = some (l.take p.toNat ++ bs ++ l.drop p.toNat) := by
  unfold slices_Insert_u8
  rw [if_pos (by omega)]
theorem damage_do_byte_c2s (hs : List D_api_Harm) (a b : Int) (bs : List Int) (hb : bs.length ≤ 200) (l : List Int) (h : D_api_Harm) : ∀ (k j : Nat), j + k = bs.length →
    damage_do_byte_c2 hs a b bs (bs.length : Int) (j : Int) l h ((bs.take j).map fB) = (slices_Insert_u8 l h.2.1 (bs.map fB)).bind fun r => damage_do_byte_c1 hs a (IntKind.wrap .i64 (b + 1)) r
  | 0, j, e => by rw [damage_do_byte_c2_eq, if_neg (by simp; omega), show bs.take j = bs from List.take_of_length_le (by omega)]
  | k + 1, j, e => by
    have ih := damage_do_byte_c2s hs a b bs hb l h k (j + 1) (by omega)
    rw [show ((j + 1 : Nat) : Int) = (j : Int) + 1 by omega] at ih
    have hz : (bs.take j).map fB ++ [fB (List.getD bs j 0)] = (bs.take (j + 1)).map fB := by
      rw [takeT (0 : Int) (show j < bs.length by omega), List.map_append]; rfl
    rw [damage_do_byte_c2_eq, if_pos (by simp; omega), gd_pos (by omega), gd_pos (by simp; omega), Int.toNat_natCast, putB]
    simp only [Option.bind_some]
    rw [hz, gd_pos (by rw [List.length_map, List.length_take]; omega), w64 (by omega) (by omega), ih]
theorem damage_do_byte_c4s (o n : Nat) (hs : List D_api_Harm) (a b : Int) (bs : List Int) (hb : bs.length ≤ 200) (l : List Int) (h : D_api_Harm) : ∀ (k j : Nat), j + k = bs.length →
    damage_do_byte_c4 o n hs a b bs (bs.length : Int) (j : Int) l h ((bs.take j).map fB) = (slices_Insert_u8 (List.take n (List.drop o l)) h.2.1 (bs.map fB)).bind fun r => damage_do_byte_c1 hs a (IntKind.wrap .i64 (b + 1)) r
  | 0, j, e => by rw [damage_do_byte_c4_eq, if_neg (by simp; omega), show bs.take j = bs from List.take_of_length_le (by omega)]
  | k + 1, j, e => by
    have ih := damage_do_byte_c4s o n hs a b bs hb l h k (j + 1) (by omega)
    rw [show ((j + 1 : Nat) : Int) = (j : Int) + 1 by omega] at ih
    have hz : (bs.take j).map fB ++ [fB (List.getD bs j 0)] = (bs.take (j + 1)).map fB := by
      rw [takeT (0 : Int) (show j < bs.length by omega), List.map_append]; rfl
    rw [damage_do_byte_c4_eq, if_pos (by simp; omega), gd_pos (by omega), gd_pos (by simp; omega), Int.toNat_natCast, putB]
    simp only [Option.bind_some]
    rw [hz, gd_pos (by rw [List.length_map, List.length_take]; omega), w64 (by omega) (by omega), ih]
theorem damage_do_byte_loops (hs : List D_api_Harm) (hl : hs.length ≤ 20) (hv : ∀ h ∈ hs, HV h) : ∀ (k i : Nat), i + k = hs.length →
    (∀ l : List Int, l.length ≤ 50000 → damage_do_byte_c1 hs (hs.length : Int) (i : Int) l = some (outp (sts fB l (hs.drop i)))) ∧
    (∀ (o n : Nat) (l : List Int), o + n ≤ l.length → n ≤ 50000 → damage_do_byte_c3 o n hs (hs.length : Int) (i : Int) l = some (outp (sts fB (List.take n (List.drop o l)) (hs.drop i))))
  | 0, i, e => by
    constructor
    · intro l h1
      rw [damage_do_byte_c1_eq, if_neg (by simp; omega), show hs.drop i = [] from List.drop_of_length_le (by omega)]; rfl
    · intro o n l h1 h2
      rw [damage_do_byte_c3_eq, if_neg (by simp; omega), show hs.drop i = [] from List.drop_of_length_le (by omega)]; rfl
  | k + 1, i, e => by
    obtain ⟨d1, d2⟩ := dropT (pzero T_api_Harm : D_api_Harm) (xs := hs) (i := i) (by omega)
    obtain ⟨ih1, ih3⟩ := damage_do_byte_loops hs hl hv k (i + 1) (by omega)
    have hl' : Int.ofNat hs.length = (hs.length : Int) := rfl
    have hi : ((i + 1 : Nat) : Int) = (i : Int) + 1 := by omega
    rw [hi] at ih1 ih3
    have hvh := hv _ d2
    rw [d1]
    constructor
    · intro l h1
      have hll : Int.ofNat l.length = (l.length : Int) := rfl
      rw [damage_do_byte_c1_eq, if_pos (by simp; omega), gd_pos (by omega), gd_pos (by rw [hl']; omega), Int.toNat_natCast, hll]
      generalize List.getD hs i (pzero T_api_Harm) = h at *
      rw [possible_spec hvh (by omega) (by omega)]
      simp only [Option.bind_some, sts]
      by_cases hp : ps (l.length : Int) h
      · rw [if_neg (by simp [hp])]
        rcases hvh.2 with ⟨hk, hn0, hn1, hm⟩ | ⟨hk, hn0, hm⟩ | ⟨hk, hn0, hm⟩ | ⟨hk, hn0, hm⟩
        · have hq := ps1 hk hp
          rw [if_pos (by rw [hk]; rfl), putB]
          simp only [Option.bind_some]
          rw [gd_pos hvh.1, gd_pos hq, w64 (by omega) (by omega), Nat.zero_add, u8id hn0 hn1, st1 _ _ hk hq, ih1 _ (by rw [List.length_set]; exact h1)]; rfl
        · have hq := ps2 hk hp
          rw [if_neg (by rw [hk]; decide), if_pos (by rw [hk]; rfl), delB hvh.1 hn0 (by omega) h1]
          simp only [Option.bind_some]
          have h2 := st2 fB l hk hq
          rw [w64 (by omega) (by omega), ih1 _ (st_len hvh h1 h2), h2]; rfl
        · have hq := ps3 hk hp
          have hc2 := damage_do_byte_c2s hs (hs.length : Int) (i : Int) h.2.2.2.1 hm l h h.2.2.2.1.length 0 (by omega)
          have h2 := st3 fB l hk hq
          rw [if_neg (by rw [hk]; decide), if_neg (by rw [hk]; decide), if_pos (by rw [hk]; rfl)]
          refine Eq.trans hc2 ?_
          rw [insB hvh.1 hq.1 h1 (by rw [List.length_map]; exact hm)]
          simp only [Option.bind_some]
          rw [w64 (by omega) (by omega), ih1 _ (st_len hvh h1 h2), h2]; rfl
        · have hq := ps4 hk hp
          rw [if_neg (by rw [hk]; decide), if_neg (by rw [hk]; decide), if_neg (by rw [hk]; decide), if_pos (by rw [hk]; rfl), gd_pos hvh.1, gd_pos hq, w64 (by omega) (by omega), st4 _ _ hk hq, Nat.sub_zero,
            ih3 0 _ l (by have := hq; have := hvh.1; omega) (by have := hq; have := hvh.1; omega)]; rfl
      · rw [if_pos (by simp [hp]), stN _ _ hvh hp]; rfl
    · intro o n l hon h1
      have hll : Int.ofNat n = (n : Int) := rfl
      have hzl : (List.take n (List.drop o l)).length = n := by rw [List.length_take, List.length_drop]; omega
      rw [damage_do_byte_c3_eq, if_pos (by simp; omega), gd_pos (by omega), gd_pos (by rw [hl']; omega), Int.toNat_natCast, hll]
      generalize List.getD hs i (pzero T_api_Harm) = h at *
      rw [possible_spec hvh (by omega) (by omega)]
      simp only [Option.bind_some, sts]
      generalize hz : List.take n (List.drop o l) = z at *
      rw [show (n : Int) = (z.length : Int) by rw [hzl]]
      have h1' : z.length ≤ 50000 := by omega
      by_cases hp : ps (z.length : Int) h
      · rw [if_neg (by simp [hp])]
        rcases hvh.2 with ⟨hk, hn0, hn1, hm⟩ | ⟨hk, hn0, hm⟩ | ⟨hk, hn0, hm⟩ | ⟨hk, hn0, hm⟩
        · have hq := ps1 hk hp
          rw [if_pos (by rw [hk]; rfl), putB]
          simp only [Option.bind_some]
          rw [gd_pos hvh.1, gd_pos hq, w64 (by omega) (by omega), u8id hn0 hn1, st1 _ _ hk hq, ih3 _ _ _ (by rw [List.length_set]; exact hon) h1, List.drop_set, if_neg (by omega), Nat.add_sub_cancel_left, List.take_set, hz]; rfl
        · have hq := ps2 hk hp
          rw [if_neg (by rw [hk]; decide), if_pos (by rw [hk]; rfl), delB hvh.1 hn0 (by omega) h1']
          simp only [Option.bind_some]
          have h2 := st2 fB z hk hq
          rw [w64 (by omega) (by omega), ih1 _ (st_len hvh h1' h2), h2]; rfl
        · have hq := ps3 hk hp
          have hc2 := damage_do_byte_c4s o n hs (hs.length : Int) (i : Int) h.2.2.2.1 hm l h h.2.2.2.1.length 0 (by omega)
          have h2 := st3 fB z hk hq
          rw [hz] at hc2
          rw [if_neg (by rw [hk]; decide), if_neg (by rw [hk]; decide), if_pos (by rw [hk]; rfl)]
          refine Eq.trans hc2 ?_
          rw [insB hvh.1 hq.1 h1' (by rw [List.length_map]; exact hm)]
          simp only [Option.bind_some]
          rw [w64 (by omega) (by omega), ih1 _ (st_len hvh h1' h2), h2]; rfl
        · have hq := ps4 hk hp
          rw [if_neg (by rw [hk]; decide), if_neg (by rw [hk]; decide), if_neg (by rw [hk]; decide), if_pos (by rw [hk]; rfl), gd_pos hvh.1, gd_pos hq, w64 (by omega) (by omega), st4 _ _ hk hq, Nat.sub_zero, Nat.add_zero,
            ih3 o _ l (by have := hq; have := hvh.1; omega) (by have := hq; have := hvh.1; omega), ← hz, List.take_take, Nat.min_eq_left (by have := hq; have := hvh.1; omega)]; rfl
      · rw [if_pos (by simp [hp]), stN _ _ hvh hp]; rfl
theorem damage_do_byte_spec (l : List Int) (hs : List D_api_Harm) (hl : hs.length ≤ 20) (hv : ∀ h ∈ hs, HV h) (h1 : l.length ≤ 50000) : damage_do_byte l hs = some (outp (sts fB l hs)) := by
  rw [damage_do_byte_eq, cloneB l h1]
  exact (damage_do_byte_loops hs hl hv hs.length 0 (by omega)).1 l h1

def fI : Int → Int := fun _ => -1
theorem putI (x : Int) : damage_Origins_1 x = some (fI x) := by rw [damage_Origins_1_eq]; rfl
theorem cloneI (l : List Int) (hl : l.length ≤ 50000) : slices_Clone_int_int l = some l := by
  rw [slices_Clone_int_int_eq]
  refine anyv_eq false (fun h => by cases h) fun r hr => ?_
  cases r with
  | true => rw [if_pos rfl, hr rfl]
  | false => rw [if_neg (by simp), gd_pos (by simp; omega)]; rfl
theorem delI {l : List Int} {p n : Int} (hp : 0 ≤ p) (hn : 0 ≤ n) (h : p + n ≤ l.length) (hl : l.length ≤ 50000) : slices_Delete_i64 l p (IntKind.wrap .i64 (p + n)) = some (l.take p.toNat ++ l.drop (p + n).toNat) := by
  rw [w64 (by omega) (by omega)]
  unfold slices_Delete_i64
  rw [if_pos (by omega)]
theorem insI {l bs : List Int} {p : Int} (hp : 0 ≤ p) (h : p ≤ l.length) (hl : l.length ≤ 50000) (hb : bs.length ≤ 200) : slices_Insert_i64 l p bs = some (l.take p.toNat ++ bs ++ l.drop p.toNat) := by
  unfold slices_Insert_i64
  rw [if_pos (by omega)]
theorem damage_do_int_c2s (hs : List D_api_Harm) (a b : Int) (bs : List Int) (hb : bs.length ≤ 200) (l : List Int) (h : D_api_Harm) : ∀ (k j : Nat), j + k = bs.length →
    damage_do_int_c2 hs a b bs (bs.length : Int) (j : Int) l h ((bs.take j).map fI) = (slices_Insert_i64 l h.2.1 (bs.map fI)).bind fun r => damage_do_int_c1 hs a (IntKind.wrap .i64 (b + 1)) r
  | 0, j, e => by rw [damage_do_int_c2_eq, if_neg (by simp; omega), show bs.take j = bs from List.take_of_length_le (by omega)]
  | k + 1, j, e => by
    have ih := damage_do_int_c2s hs a b bs hb l h k (j + 1) (by omega)
    rw [show ((j + 1 : Nat) : Int) = (j : Int) + 1 by omega] at ih
    have hz : (bs.take j).map fI ++ [fI (List.getD bs j 0)] = (bs.take (j + 1)).map fI := by
      rw [takeT (0 : Int) (show j < bs.length by omega), List.map_append]; rfl
    rw [damage_do_int_c2_eq, if_pos (by simp; omega), gd_pos (by omega), gd_pos (by simp; omega), Int.toNat_natCast, putI]
    simp only [Option.bind_some]
    rw [hz, gd_pos (by rw [List.length_map, List.length_take]; omega), w64 (by omega) (by omega), ih]
theorem damage_do_int_c4s (o n : Nat) (hs : List D_api_Harm) (a b : Int) (bs : List Int) (hb : bs.length ≤ 200) (l : List Int) (h : D_api_Harm) : ∀ (k j : Nat), j + k = bs.length →
    damage_do_int_c4 o n hs a b bs (bs.length : Int) (j : Int) l h ((bs.take j).map fI) = (slices_Insert_i64 (List.take n (List.drop o l)) h.2.1 (bs.map fI)).bind fun r => damage_do_int_c1 hs a (IntKind.wrap .i64 (b + 1)) r
  | 0, j, e => by rw [damage_do_int_c4_eq, if_neg (by simp; omega), show bs.take j = bs from List.take_of_length_le (by omega)]
  | k + 1, j, e => by
    have ih := damage_do_int_c4s o n hs a b bs hb l h k (j + 1) (by omega)
    rw [show ((j + 1 : Nat) : Int) = (j : Int) + 1 by omega] at ih
    have hz : (bs.take j).map fI ++ [fI (List.getD bs j 0)] = (bs.take (j + 1)).map fI := by
      rw [takeT (0 : Int) (show j < bs.length by omega), List.map_append]; rfl
    rw [damage_do_int_c4_eq, if_pos (by simp; omega), gd_pos (by omega), gd_pos (by simp; omega), Int.toNat_natCast, putI]
    simp only [Option.bind_some]
    rw [hz, gd_pos (by rw [List.length_map, List.length_take]; omega), w64 (by omega) (by omega), ih]
theorem damage_do_int_loops (hs : List D_api_Harm) (hl : hs.length ≤ 20) (hv : ∀ h ∈ hs, HV h) : ∀ (k i : Nat), i + k = hs.length →
    (∀ l : List Int, l.length ≤ 50000 → damage_do_int_c1 hs (hs.length : Int) (i : Int) l = some (outp (sts fI l (hs.drop i)))) ∧
    (∀ (o n : Nat) (l : List Int), o + n ≤ l.length → n ≤ 50000 → damage_do_int_c3 o n hs (hs.length : Int) (i : Int) l = some (outp (sts fI (List.take n (List.drop o l)) (hs.drop i))))
  | 0, i, e => by
    constructor
    · intro l h1
      rw [damage_do_int_c1_eq, if_neg (by simp; omega), show hs.drop i = [] from List.drop_of_length_le (by omega)]; rfl
    · intro o n l h1 h2
      rw [damage_do_int_c3_eq, if_neg (by simp; omega), show hs.drop i = [] from List.drop_of_length_le (by omega)]; rfl
  | k + 1, i, e => by
    obtain ⟨d1, d2⟩ := dropT (pzero T_api_Harm : D_api_Harm) (xs := hs) (i := i) (by omega)
    obtain ⟨ih1, ih3⟩ := damage_do_int_loops hs hl hv k (i + 1) (by omega)
    have hl' : Int.ofNat hs.length = (hs.length : Int) := rfl
    have hi : ((i + 1 : Nat) : Int) = (i : Int) + 1 := by omega
    rw [hi] at ih1 ih3
    have hvh := hv _ d2
    rw [d1]
    constructor
    · intro l h1
      have hll : Int.ofNat l.length = (l.length : Int) := rfl
      rw [damage_do_int_c1_eq, if_pos (by simp; omega), gd_pos (by omega), gd_pos (by rw [hl']; omega), Int.toNat_natCast, hll]
      generalize List.getD hs i (pzero T_api_Harm) = h at *
      rw [possible_spec hvh (by omega) (by omega)]
      simp only [Option.bind_some, sts]
      by_cases hp : ps (l.length : Int) h
      · rw [if_neg (by simp [hp])]
        rcases hvh.2 with ⟨hk, hn0, hn1, hm⟩ | ⟨hk, hn0, hm⟩ | ⟨hk, hn0, hm⟩ | ⟨hk, hn0, hm⟩
        · have hq := ps1 hk hp
          rw [if_pos (by rw [hk]; rfl), putI]
          simp only [Option.bind_some]
          rw [gd_pos hvh.1, gd_pos hq, w64 (by omega) (by omega), Nat.zero_add, u8id hn0 hn1, st1 _ _ hk hq, ih1 _ (by rw [List.length_set]; exact h1)]; rfl
        · have hq := ps2 hk hp
          rw [if_neg (by rw [hk]; decide), if_pos (by rw [hk]; rfl), delI hvh.1 hn0 (by omega) h1]
          simp only [Option.bind_some]
          have h2 := st2 fI l hk hq
          rw [w64 (by omega) (by omega), ih1 _ (st_len hvh h1 h2), h2]; rfl
        · have hq := ps3 hk hp
          have hc2 := damage_do_int_c2s hs (hs.length : Int) (i : Int) h.2.2.2.1 hm l h h.2.2.2.1.length 0 (by omega)
          have h2 := st3 fI l hk hq
          rw [if_neg (by rw [hk]; decide), if_neg (by rw [hk]; decide), if_pos (by rw [hk]; rfl)]
          refine Eq.trans hc2 ?_
          rw [insI hvh.1 hq.1 h1 (by rw [List.length_map]; exact hm)]
          simp only [Option.bind_some]
          rw [w64 (by omega) (by omega), ih1 _ (st_len hvh h1 h2), h2]; rfl
        · have hq := ps4 hk hp
          rw [if_neg (by rw [hk]; decide), if_neg (by rw [hk]; decide), if_neg (by rw [hk]; decide), if_pos (by rw [hk]; rfl), gd_pos hvh.1, gd_pos hq, w64 (by omega) (by omega), st4 _ _ hk hq, Nat.sub_zero,
            ih3 0 _ l (by have := hq; have := hvh.1; omega) (by have := hq; have := hvh.1; omega)]; rfl
      · rw [if_pos (by simp [hp]), stN _ _ hvh hp]; rfl
    · intro o n l hon h1
      have hll : Int.ofNat n = (n : Int) := rfl
      have hzl : (List.take n (List.drop o l)).length = n := by rw [List.length_take, List.length_drop]; omega
      rw [damage_do_int_c3_eq, if_pos (by simp; omega), gd_pos (by omega), gd_pos (by rw [hl']; omega), Int.toNat_natCast, hll]
      generalize List.getD hs i (pzero T_api_Harm) = h at *
      rw [possible_spec hvh (by omega) (by omega)]
      simp only [Option.bind_some, sts]
      generalize hz : List.take n (List.drop o l) = z at *
      rw [show (n : Int) = (z.length : Int) by rw [hzl]]
      have h1' : z.length ≤ 50000 := by omega
      by_cases hp : ps (z.length : Int) h
      · rw [if_neg (by simp [hp])]
        rcases hvh.2 with ⟨hk, hn0, hn1, hm⟩ | ⟨hk, hn0, hm⟩ | ⟨hk, hn0, hm⟩ | ⟨hk, hn0, hm⟩
        · have hq := ps1 hk hp
          rw [if_pos (by rw [hk]; rfl), putI]
          simp only [Option.bind_some]
          rw [gd_pos hvh.1, gd_pos hq, w64 (by omega) (by omega), u8id hn0 hn1, st1 _ _ hk hq, ih3 _ _ _ (by rw [List.length_set]; exact hon) h1, List.drop_set, if_neg (by omega), Nat.add_sub_cancel_left, List.take_set, hz]; rfl
        · have hq := ps2 hk hp
          rw [if_neg (by rw [hk]; decide), if_pos (by rw [hk]; rfl), delI hvh.1 hn0 (by omega) h1']
          simp only [Option.bind_some]
          have h2 := st2 fI z hk hq
          rw [w64 (by omega) (by omega), ih1 _ (st_len hvh h1' h2), h2]; rfl
        · have hq := ps3 hk hp
          have hc2 := damage_do_int_c4s o n hs (hs.length : Int) (i : Int) h.2.2.2.1 hm l h h.2.2.2.1.length 0 (by omega)
          have h2 := st3 fI z hk hq
          rw [hz] at hc2
          rw [if_neg (by rw [hk]; decide), if_neg (by rw [hk]; decide), if_pos (by rw [hk]; rfl)]
          refine Eq.trans hc2 ?_
          rw [insI hvh.1 hq.1 h1' (by rw [List.length_map]; exact hm)]
          simp only [Option.bind_some]
          rw [w64 (by omega) (by omega), ih1 _ (st_len hvh h1' h2), h2]; rfl
        · have hq := ps4 hk hp
          rw [if_neg (by rw [hk]; decide), if_neg (by rw [hk]; decide), if_neg (by rw [hk]; decide), if_pos (by rw [hk]; rfl), gd_pos hvh.1, gd_pos hq, w64 (by omega) (by omega), st4 _ _ hk hq, Nat.sub_zero, Nat.add_zero,
            ih3 o _ l (by have := hq; have := hvh.1; omega) (by have := hq; have := hvh.1; omega), ← hz, List.take_take, Nat.min_eq_left (by have := hq; have := hvh.1; omega)]; rfl
      · rw [if_pos (by simp [hp]), stN _ _ hvh hp]; rfl
theorem damage_do_int_spec (l : List Int) (hs : List D_api_Harm) (hl : hs.length ≤ 20) (hv : ∀ h ∈ hs, HV h) (h1 : l.length ≤ 50000) : damage_do_int l hs = some (outp (sts fI l hs)) := by
  rw [damage_do_int_eq, cloneI l h1]
  exact (damage_do_int_loops hs hl hv hs.length 0 (by omega)).1 l h1
end Go.Ab

set_option linter.unusedVariables false
set_option linter.unusedSimpArgs false
set_option maxHeartbeats 1000000
namespace Go.Ab
attribute [local irreducible] IntKind.wrap
/-! ### The reference -/
def fC : Int → D_bitloftref35_cell := fun b => (b, (-1, ()))
def outc : Option (List D_bitloftref35_cell) → List D_bitloftref35_cell × Bool
  | some r => (r, true)
  | none => ([], false)
theorem done_c1s (l : List D_bitloftref35_cell) (hl : l.length ≤ 50000) (h : D_api_Harm) (hp0 : (0 : Int) ≤ h.2.1) (hp : h.2.1 ≤ (l.length : Int)) (hb : h.2.2.2.1.length ≤ 200) (z : List D_bitloftref35_cell) (hz : z.length ≤ 50000) : ∀ (k j : Nat), j + k = h.2.2.2.1.length →
    bitloftref35_done_c1 l (j : Int) h (z ++ (h.2.2.2.1.take j).map fC) = some (z ++ h.2.2.2.1.map fC ++ l.drop h.2.1.toNat, true)
  | 0, j, e => by
    have hof : Int.ofNat l.length = (l.length : Int) := rfl
    rw [bitloftref35_done_c1_eq, if_neg (by simp; omega), gd_pos hp0, gd_pos (by rw [hof]; exact hp), show h.2.2.2.1.take j = h.2.2.2.1 from List.take_of_length_le (by omega),
      gd_pos (by simp only [List.length_append, List.length_map, List.length_drop]; omega)]
  | k + 1, j, e => by
    have ih := done_c1s l hl h hp0 hp hb z hz k (j + 1) (by omega)
    rw [show ((j + 1 : Nat) : Int) = (j : Int) + 1 by omega] at ih
    have hq : z ++ (h.2.2.2.1.take j).map fC ++ [((List.getD h.2.2.2.1 j (0 : Int)), ((-1 : Int), ()))] = z ++ (h.2.2.2.1.take (j + 1)).map fC := by
      rw [takeT (0 : Int) (show j < h.2.2.2.1.length by omega), List.map_append, List.append_assoc]; rfl
    have hof : Int.ofNat h.2.2.2.1.length = (h.2.2.2.1.length : Int) := rfl
    rw [bitloftref35_done_c1_eq, if_pos (by simp; omega), gd_pos (by omega), gd_pos (by rw [hof]; omega), Int.toNat_natCast, hq, gd_pos (by simp only [List.length_append, List.length_map, List.length_take]; omega), w64 (by omega) (by omega), ih]
theorem done_spec {l : List D_bitloftref35_cell} {h : D_api_Harm} (hv : HV h) (hl : l.length ≤ 50000) : bitloftref35_done l h = some (outc (st fC l h)) := by
  have hof : Int.ofNat l.length = (l.length : Int) := rfl
  have hofb : Int.ofNat h.2.2.2.1.length = (h.2.2.2.1.length : Int) := rfl
  have hp := hv.1
  rw [bitloftref35_done_eq, hof, hofb]
  rcases hv.2 with ⟨hk, hn0, hn1, hm⟩ | ⟨hk, hn0, hm⟩ | ⟨hk, hn0, hm⟩ | ⟨hk, hn0, hm⟩
  · rw [if_pos (by rw [hk]; rfl)]
    by_cases hq : h.2.1 < (l.length : Int)
    · rw [if_neg (by simp only [decide_eq_true_eq]; omega), List.nil_append, gd_pos (by omega), gd_pos hp, gd_pos (by rw [hof]; exact hq), Nat.zero_add, u8id hn0 hn1, st1 _ _ hk hq]; rfl
    · rw [if_pos (by simp only [decide_eq_true_eq]; omega)]
      unfold st; rw [if_pos hk, if_neg hq]; rfl
  · rw [if_neg (by rw [hk]; decide), if_pos (by rw [hk]; rfl)]
    by_cases hq : h.2.1 ≤ (l.length : Int)
    · rw [if_neg (by simp only [decide_eq_true_eq]; omega), w64 (by omega) (by omega)]
      by_cases hq2 : h.2.2.1 ≤ (l.length : Int) - h.2.1
      · rw [if_neg (by simp only [decide_eq_true_eq]; omega), gd_pos hp, gd_pos hq, List.nil_append, gd_pos (by rw [List.length_take]; omega), w64 (by omega) (by omega), gd_pos (by omega), gd_pos (by omega),
          gd_pos (by rw [List.length_append, List.length_take, List.length_drop]; omega), st2 _ _ hk ⟨hq, hq2⟩]; rfl
      · rw [if_pos (by simp only [decide_eq_true_eq]; omega)]
        unfold st; rw [if_neg (by rw [hk]; decide), if_pos hk, if_neg (fun h => hq2 h.2)]; rfl
    · rw [if_pos (by simp only [decide_eq_true_eq]; omega)]
      unfold st; rw [if_neg (by rw [hk]; decide), if_pos hk, if_neg (fun h => hq h.1)]; rfl
  · rw [if_neg (by rw [hk]; decide), if_neg (by rw [hk]; decide), if_pos (by rw [hk]; rfl)]
    by_cases hq : h.2.1 ≤ (l.length : Int)
    · rw [if_neg (by simp only [decide_eq_true_eq]; omega), w64 (by omega) (by omega)]
      by_cases hq2 : (l.length : Int) + (h.2.2.2.1.length : Int) ≤ 50000
      · have hd := done_c1s l hl h hp hq hm (l.take h.2.1.toNat) (by rw [List.length_take]; omega) h.2.2.2.1.length 0 (by omega)
        rw [List.take_zero, List.map_nil, List.append_nil] at hd
        rw [if_neg (by simp only [decide_eq_true_eq]; omega), gd_pos hp, gd_pos hq, List.nil_append, gd_pos (by rw [List.length_take]; omega), st3 _ _ hk ⟨hq, hq2⟩]
        exact hd
      · rw [if_pos (by simp only [decide_eq_true_eq]; omega)]
        unfold st; rw [if_neg (by rw [hk]; decide), if_neg (by rw [hk]; decide), if_pos hk, if_neg (fun h => hq2 h.2)]; rfl
    · rw [if_pos (by simp only [decide_eq_true_eq]; omega)]
      unfold st; rw [if_neg (by rw [hk]; decide), if_neg (by rw [hk]; decide), if_pos hk, if_neg (fun h => hq h.1)]; rfl
  · rw [if_neg (by rw [hk]; decide), if_neg (by rw [hk]; decide), if_neg (by rw [hk]; decide)]
    by_cases hq : h.2.1 ≤ (l.length : Int)
    · rw [if_neg (by simp only [decide_eq_true_eq]; omega), gd_pos hp, gd_pos hq, List.nil_append, gd_pos (by rw [List.length_take]; omega), st4 _ _ hk hq]; rfl
    · rw [if_pos (by simp only [decide_eq_true_eq]; omega)]
      unfold st; rw [if_neg (by rw [hk]; decide), if_neg (by rw [hk]; decide), if_neg (by rw [hk]; decide), if_neg hq]; rfl
def cells : List Int → Int → List D_bitloftref35_cell
  | [], _ => []
  | x :: r, i => (x, (i, ())) :: cells r (i + 1)
def upto : Int → Nat → List Int
  | _, 0 => []
  | i, n + 1 => i :: upto (i + 1) n
theorem cells_len : ∀ (l : List Int) (i : Int), (cells l i).length = l.length
  | [], _ => rfl
  | x :: r, i => by simp [cells, cells_len r]
theorem upto_len : ∀ (n : Nat) (i : Int), (upto i n).length = n
  | 0, _ => rfl
  | n + 1, i => by simp [upto, upto_len n]
theorem cells_fst : ∀ (l : List Int) (i : Int), (cells l i).map (fun c => c.1) = l
  | [], _ => rfl
  | x :: r, i => by simp only [cells, List.map_cons, cells_fst r]
theorem cells_snd : ∀ (l : List Int) (i : Int), (cells l i).map (fun c => c.2.1) = upto i l.length
  | [], _ => rfl
  | x :: r, i => by simp only [cells, List.map_cons, cells_snd r, List.length_cons, upto]
theorem cells_app : ∀ (a b : List Int) (i : Int), cells (a ++ b) i = cells a i ++ cells b (i + a.length)
  | [], b, i => by simp [cells]
  | x :: r, b, i => by
    simp only [List.cons_append, cells, cells_app r b, List.length_cons]
    rw [show i + 1 + (r.length : Int) = i + ((r.length + 1 : Nat) : Int) by omega]
theorem upto_app : ∀ (n : Nat) (i : Int), upto i (n + 1) = upto i n ++ [i + n]
  | 0, i => by simp [upto]
  | n + 1, i => by
    rw [upto, upto_app n (i + 1), upto]
    simp only [List.cons_append]
    rw [show i + 1 + (n : Int) = i + ((n + 1 : Nat) : Int) by omega]
theorem all_c2s (hs : List D_api_Harm) (hl : hs.length ≤ 20) (hv : ∀ h ∈ hs, HV h) : ∀ (k i : Nat) (l : List D_bitloftref35_cell), i + k = hs.length → l.length ≤ 50000 → bitloftref35_all_c2 hs (i : Int) l = some (outc (sts fC l (hs.drop i)))
  | 0, i, l, e, h1 => by rw [bitloftref35_all_c2_eq, if_neg (by simp; omega), show hs.drop i = [] from List.drop_of_length_le (by omega)]; rfl
  | k + 1, i, l, e, h1 => by
    obtain ⟨d1, d2⟩ := dropT (pzero T_api_Harm : D_api_Harm) (xs := hs) (i := i) (by omega)
    have hvh := hv _ d2
    have hl' : Int.ofNat hs.length = (hs.length : Int) := rfl
    rw [bitloftref35_all_c2_eq, if_pos (by simp; omega), gd_pos (by omega), gd_pos (by rw [hl']; omega), Int.toNat_natCast, d1]
    generalize List.getD hs i (pzero T_api_Harm) = h at *
    rw [done_spec hvh h1, w64 (by omega) (by omega)]
    simp only [Option.bind_some, sts]
    cases e1 : st fC l h with
    | none => rfl
    | some l' =>
      have ih := all_c2s hs hl hv k (i + 1) l' (by omega) (st_len hvh h1 e1)
      rw [show ((i + 1 : Nat) : Int) = (i : Int) + 1 by omega] at ih
      rw [if_neg (by simp [outc])]
      exact ih
theorem all_c1s (b : List Int) (hs : List D_api_Harm) (hl : hs.length ≤ 20) (hv : ∀ h ∈ hs, HV h) (hb : b.length ≤ 50000) : ∀ (k j : Nat), j + k = b.length → bitloftref35_all_c1 b hs (j : Int) (cells (b.take j) 0) = some (outc (sts fC (cells b 0) hs))
  | 0, j, e => by
    rw [bitloftref35_all_c1_eq, if_neg (by simp; omega), show b.take j = b from List.take_of_length_le (by omega)]
    exact all_c2s hs hl hv hs.length 0 _ (by omega) (by rw [cells_len]; exact hb)
  | k + 1, j, e => by
    have ih := all_c1s b hs hl hv hb k (j + 1) (by omega)
    rw [show ((j + 1 : Nat) : Int) = (j : Int) + 1 by omega] at ih
    have hq : cells (b.take j) 0 ++ [((List.getD b j (0 : Int)), ((j : Int), ()))] = cells (b.take (j + 1)) 0 := by
      rw [takeT (0 : Int) (show j < b.length by omega), cells_app, List.length_take, Nat.min_eq_left (by omega), Int.zero_add]; rfl
    have hof : Int.ofNat b.length = (b.length : Int) := rfl
    rw [bitloftref35_all_c1_eq, if_pos (by simp; omega), gd_pos (by omega), gd_pos (by rw [hof]; omega), Int.toNat_natCast, hq, gd_pos (by rw [cells_len, List.length_take]; omega), w64 (by omega) (by omega), ih]
theorem all_spec (b : List Int) (hs : List D_api_Harm) (hl : hs.length ≤ 20) (hv : ∀ h ∈ hs, HV h) (hb : b.length ≤ 50000) : bitloftref35_all b hs = some (outc (sts fC (cells b 0) hs)) := by
  rw [bitloftref35_all_eq]; exact all_c1s b hs hl hv hb b.length 0 (by omega)
theorem Apply_c1s (c : List D_bitloftref35_cell) (hc : c.length ≤ 50000) : ∀ (k j : Nat), j + k = c.length → bitloftref35_Apply_c1 (j : Int) c ((c.take j).map fun c => c.1) = some (c.map (fun c => c.1), 0)
  | 0, j, e => by rw [bitloftref35_Apply_c1_eq, if_neg (by simp; omega), show c.take j = c from List.take_of_length_le (by omega)]
  | k + 1, j, e => by
    have ih := Apply_c1s c hc k (j + 1) (by omega)
    rw [show ((j + 1 : Nat) : Int) = (j : Int) + 1 by omega, takeT (pzero T_bitloftref35_cell : D_bitloftref35_cell) (show j < c.length by omega), List.map_append] at ih
    have hof : Int.ofNat c.length = (c.length : Int) := rfl
    rw [bitloftref35_Apply_c1_eq, if_pos (by simp; omega), gd_pos (by omega), gd_pos (by rw [hof]; omega), Int.toNat_natCast, Nat.zero_add, gd_pos (by rw [List.length_append, List.length_map, List.length_take, List.length_singleton]; omega), w64 (by omega) (by omega)]
    exact ih
theorem Origins_c1s (c : List D_bitloftref35_cell) (hc : c.length ≤ 50000) : ∀ (k j : Nat), j + k = c.length → bitloftref35_Origins_c1 (j : Int) c ((c.take j).map fun c => c.2.1) = some (c.map (fun c => c.2.1), 0)
  | 0, j, e => by rw [bitloftref35_Origins_c1_eq, if_neg (by simp; omega), show c.take j = c from List.take_of_length_le (by omega)]
  | k + 1, j, e => by
    have ih := Origins_c1s c hc k (j + 1) (by omega)
    rw [show ((j + 1 : Nat) : Int) = (j : Int) + 1 by omega, takeT (pzero T_bitloftref35_cell : D_bitloftref35_cell) (show j < c.length by omega), List.map_append] at ih
    have hof : Int.ofNat c.length = (c.length : Int) := rfl
    rw [bitloftref35_Origins_c1_eq, if_pos (by simp; omega), gd_pos (by omega), gd_pos (by rw [hof]; omega), Int.toNat_natCast, Nat.zero_add, gd_pos (by rw [List.length_append, List.length_map, List.length_take, List.length_singleton]; omega), w64 (by omega) (by omega)]
    exact ih
/-! ### What Apply and Origins return -/
theorem chk0 {l : List D_api_Harm} (h : chk35 l = 0) : l.length ≤ 20 ∧ ∀ x ∈ l, HV x := by
  unfold chk35 at h
  split at h
  · cases h
  · split at h
    · rename_i h1 h2; exact ⟨by omega, h2⟩
    · cases h
def app (b : List Int) (l : List D_api_Harm) : List Int × Int :=
  if chk35 l ≠ 0 then ([], chk35 l) else if 50000 < b.length then ([], 4) else outp (sts fB b l)
def org (n : Int) (l : List D_api_Harm) : List Int × Int :=
  if chk35 l ≠ 0 then ([], chk35 l) else if n < 0 ∨ 50000 < n then ([], 2) else outp (sts fI (upto 0 n.toNat) l)
theorem Apply_spec (b : List Int) (l : List D_api_Harm) : damage_Apply b l = some (app b l) := by
  rw [damage_Apply_eq, damage_Check_spec]
  simp only [Option.bind_some]
  unfold app
  by_cases h : chk35 l = 0
  · obtain ⟨h1, h2⟩ := chk0 h
    rw [if_neg (by rw [h]; decide), if_neg (show ¬ chk35 l ≠ 0 from fun k => k h)]
    by_cases hb : 50000 < b.length
    · rw [if_pos (by simp; omega), if_pos hb]
    · rw [if_neg (by simp; omega), if_neg hb, damage_do_byte_spec b l h1 h2 (by omega)]; rfl
  · rw [if_pos (bne_iff_ne.2 h), if_pos h]
theorem rApply_spec (b : List Int) (l : List D_api_Harm) : bitloftref35_Apply b l = some (app b l) := by
  rw [bitloftref35_Apply_eq, ref_Check_spec]
  simp only [Option.bind_some]
  unfold app
  by_cases h : chk35 l = 0
  · obtain ⟨h1, h2⟩ := chk0 h
    rw [if_neg (by rw [h]; decide), if_neg (show ¬ chk35 l ≠ 0 from fun k => k h)]
    by_cases hb : 50000 < b.length
    · rw [if_pos (by simp; omega), if_pos hb]
    · rw [if_neg (by simp; omega), if_neg hb, all_spec b l h1 h2 (by omega)]
      simp only [Option.bind_some]
      have hm := sts_map fC (fun c : D_bitloftref35_cell => c.1) (cells b 0) l
      rw [cells_fst] at hm
      have hm' : sts fB b l = Option.map (List.map fun c : D_bitloftref35_cell => c.1) (sts fC (cells b 0) l) := hm.symm
      rw [hm']
      cases e : sts fC (cells b 0) l with
      | none => rfl
      | some c =>
        rw [if_neg (by simp [outc])]
        exact Apply_c1s c (sts_len h2 (by rw [cells_len]; omega) e) c.length 0 (by omega)
  · rw [if_pos (bne_iff_ne.2 h), if_pos h]
theorem Origins_fill (hs : List D_api_Harm) (n : Nat) (hn : n ≤ 50000) : ∀ (k j : Nat), j + k = n → damage_Origins_c1 hs (n : Int) (j : Int) (upto 0 j ++ List.replicate k 0) = (damage_do_int (upto 0 n) hs).bind fun r => some r
  | 0, j, e => by
    rw [damage_Origins_c1_eq, if_neg (by simp; omega)]
    obtain rfl : j = n := by omega
    rw [List.replicate_zero, List.append_nil]
  | k + 1, j, e => by
    have ih := Origins_fill hs n hn k (j + 1) (by omega)
    rw [show ((j + 1 : Nat) : Int) = (j : Int) + 1 by omega] at ih
    have hs2 : List.set (upto 0 j ++ List.replicate (k + 1) 0) j (j : Int) = upto 0 (j + 1) ++ List.replicate k 0 := by
      rw [List.set_append_right _ _ (by rw [upto_len]; omega), upto_len, Nat.sub_self, List.replicate_succ, List.set_cons_zero, upto_app, List.append_assoc, Int.zero_add]; rfl
    have hof : Int.ofNat (upto 0 j ++ List.replicate (k + 1) (0 : Int)).length = (n : Int) := by
      rw [List.length_append, upto_len, List.length_replicate]
      show ((j + (k + 1) : Nat) : Int) = n
      omega
    rw [damage_Origins_c1_eq, if_pos (by simp; omega), gd_pos (by omega), gd_pos (by rw [hof]; omega), Int.toNat_natCast, Nat.zero_add, hs2, w64 (by omega) (by omega), ih]
theorem Origins_spec (n : Int) (l : List D_api_Harm) : damage_Origins n l = some (org n l) := by
  rw [damage_Origins_eq, damage_Check_spec]
  simp only [Option.bind_some]
  unfold org
  by_cases h : chk35 l = 0
  · obtain ⟨h1, h2⟩ := chk0 h
    rw [if_neg (by rw [h]; decide), if_neg (show ¬ chk35 l ≠ 0 from fun k => k h)]
    by_cases hn : n < 0
    · rw [if_pos (decide_eq_true hn), if_pos (.inl hn)]
    · by_cases hn2 : 50000 < n
      · rw [if_neg (by simp only [decide_eq_true_eq]; exact hn), if_pos (decide_eq_true hn2), if_pos (.inr hn2)]
      · rw [if_neg (by simp only [decide_eq_true_eq]; exact hn), if_neg (by simp only [decide_eq_true_eq]; omega), if_neg (by omega), gd_pos trivial, gd_pos (by omega), gd_pos (by omega), gd_pos (by omega)]
        have hf := Origins_fill l n.toNat (by omega) n.toNat 0 (by omega)
        rw [damage_do_int_spec _ l h1 h2 (by rw [upto_len]; omega)] at hf
        rw [List.length_replicate]
        exact hf
  · rw [if_pos (bne_iff_ne.2 h), if_pos h]
theorem rOrigins_spec (n : Int) (l : List D_api_Harm) : bitloftref35_Origins n l = some (org n l) := by
  rw [bitloftref35_Origins_eq, ref_Check_spec]
  simp only [Option.bind_some]
  unfold org
  by_cases h : chk35 l = 0
  · obtain ⟨h1, h2⟩ := chk0 h
    rw [if_neg (by rw [h]; decide), if_neg (show ¬ chk35 l ≠ 0 from fun k => k h)]
    by_cases hn : n < 0
    · rw [if_pos (decide_eq_true hn), if_pos (.inl hn)]
    · by_cases hn2 : 50000 < n
      · rw [if_neg (by simp only [decide_eq_true_eq]; exact hn), if_pos (decide_eq_true hn2), if_pos (.inr hn2)]
      · rw [if_neg (by simp only [decide_eq_true_eq]; exact hn), if_neg (by simp only [decide_eq_true_eq]; omega), if_neg (by omega), gd_pos trivial, gd_pos (by omega), gd_pos (by omega), gd_pos (by omega),
          all_spec _ l h1 h2 (by rw [List.length_replicate]; omega)]
        simp only [Option.bind_some]
        have hm := sts_map fC (fun c : D_bitloftref35_cell => c.2.1) (cells (List.replicate n.toNat 0) 0) l
        rw [cells_snd, List.length_replicate] at hm
        have hm' : sts fI (upto 0 n.toNat) l = Option.map (List.map fun c : D_bitloftref35_cell => c.2.1) (sts fC (cells (List.replicate n.toNat 0) 0) l) := hm.symm
        rw [hm']
        cases e : sts fC (cells (List.replicate n.toNat 0) 0) l with
        | none => rfl
        | some c =>
          rw [if_neg (by simp [outc])]
          exact Origins_c1s c (sts_len h2 (by rw [cells_len, List.length_replicate]; omega) e) c.length 0 (by omega)
  · rw [if_pos (bne_iff_ne.2 h), if_pos h]
end Go.Ab

set_option linter.unusedVariables false
set_option linter.unusedSimpArgs false
set_option maxHeartbeats 1000000
namespace Go.Ab
attribute [local irreducible] IntKind.wrap
theorem SameInts_c1 (l : List Int) (hl : l.length ≤ 140737488355328) : ∀ (k i : Nat), i + k = l.length → bitloftref25_SameInts_c1 l l (i : Int) = some true
  | 0, i, e => by rw [bitloftref25_SameInts_c1_eq, if_neg (by simp; omega)]
  | k + 1, i, e => by
    have ih := SameInts_c1 l hl k (i + 1) (by omega)
    rw [show ((i + 1 : Nat) : Int) = (i : Int) + 1 by omega] at ih
    have hof : Int.ofNat l.length = (l.length : Int) := rfl
    rw [bitloftref25_SameInts_c1_eq, if_pos (by simp; omega), gd_pos (by omega), gd_pos (by rw [hof]; omega), gd_pos (by omega), gd_pos (by rw [hof]; omega), if_neg (by simp), w64 (by omega) (by omega), ih]
theorem SameInts_self (l : List Int) (hl : l.length ≤ 140737488355328) : bitloftref25_SameInts l l = some true := by
  rw [bitloftref25_SameInts_eq, if_neg (by simp)]
  exact SameInts_c1 l hl l.length 0 (by omega)
theorem Great_c1 (l : List D_api_Harm) (hl : l.length ≤ Go.maxLen) : ∀ (k i : Nat), i + k = l.length → ∃ g, bitloftref35_Great_c1 l (i : Int) = some g ∧ (g = false → ∀ h ∈ l.drop i, h.2.2.2.1.length ≤ 300)
  | 0, i, e => ⟨_, by rw [bitloftref35_Great_c1_eq, if_neg (by simp; omega)], by rw [show l.drop i = [] from List.drop_of_length_le (by omega)]; simp⟩
  | k + 1, i, e => by
    obtain ⟨d1, d2⟩ := dropT (pzero T_api_Harm : D_api_Harm) (xs := l) (i := i) (by omega)
    obtain ⟨g, ih, ih2⟩ := Great_c1 l hl k (i + 1) (by omega)
    rw [show ((i + 1 : Nat) : Int) = (i : Int) + 1 by omega] at ih
    have hof : Int.ofNat l.length = (l.length : Int) := rfl
    unfold Go.maxLen at hl
    rw [bitloftref35_Great_c1_eq, if_pos (by simp; omega), gd_pos (by omega), gd_pos (by rw [hof]; omega), Int.toNat_natCast, d1]
    generalize List.getD l i (pzero T_api_Harm) = h at *
    by_cases hh : 300 < h.2.2.2.1.length
    · rw [if_pos (decide_eq_true (by show (h.2.2.2.1.length : Int) > 300; omega))]
      exact ⟨true, rfl, fun h => by cases h⟩
    · rw [if_neg (by simp only [decide_eq_true_eq]; show ¬ (h.2.2.2.1.length : Int) > 300; omega), w64 (by omega) (by omega), ih]
      refine ⟨g, rfl, fun hg x hx => ?_⟩
      rcases List.mem_cons.1 hx with rfl | hx
      · omega
      · exact ih2 hg x hx
theorem Great_spec (l : List D_api_Harm) (hl : l.length ≤ Go.maxLen) : ∃ g, bitloftref35_Great l = some g := by
  obtain ⟨g, h, _⟩ := Great_c1 l hl l.length 0 (by omega)
  exact ⟨g, by rw [bitloftref35_Great_eq]; exact h⟩
theorem outp_len {o : Option (List Int)} (h : ∀ r, o = some r → r.length ≤ 50000) : (outp o).1.length ≤ 50000 := by
  cases o with
  | none => exact Nat.zero_le _
  | some r => exact h r rfl
theorem org_len (n : Int) (l : List D_api_Harm) : (org n l).1.length ≤ 50000 := by
  unfold org
  by_cases h : chk35 l = 0
  · obtain ⟨h1, h2⟩ := chk0 h
    rw [if_neg (show ¬ chk35 l ≠ 0 from fun k => k h)]
    split
    · exact Nat.zero_le _
    · exact outp_len fun r hr => sts_len h2 (by rw [upto_len]; omega) hr
  · rw [if_pos h]; exact Nat.zero_le _
theorem bitloftlaw35_DamageDoes_true (x0 : List Int) (z0 : wfP (.slice (.int .u8)) x0) (x1 : Int) (z1 : wfP (.int .i64) x1) (x2 : List D_api_Harm) (z2 : wfP (.slice T_api_Harm) x2) : bitloftlaw35_DamageDoes x0 x1 x2 = some true := by
  obtain ⟨g, hg⟩ := Great_spec x2 z2.1
  have hb : ofStr (toStr x0) = x0 := ofStr_toStr (Bts.of_wf z0.2)
  have hs := SameInts_self (org x1 x2).1 (by have := org_len x1 x2; omega)
  rw [bitloftlaw35_DamageDoes_eq]
  simp only [hg, hb, Apply_spec, rApply_spec, Origins_spec, rOrigins_spec, damage_Check_spec, ref_Check_spec, Option.bind_some, hs, beq_self_eq_true, if_true]
  repeat' split
  all_goals rfl
theorem sts_true : True := trivial
end Go.Ab

set_option linter.unusedVariables false
set_option linter.unusedSimpArgs false
set_option maxHeartbeats 1000000
namespace Go.Ab
attribute [local irreducible] IntKind.wrap
/-! ### Ranges that survive -/
def idx : List Int → Int → Int → Int
  | [], _, _ => -1
  | y :: r, x, i => if x = y then i else idx r x (i + 1)
theorem Index_c1 (o : List Int) (x : Int) (ho : o.length ≤ 50000) : ∀ (k i : Nat), i + k = o.length → slices_Index_int_int_c1 o x (o.length : Int) (i : Int) = some (idx (o.drop i) x i)
  | 0, i, e => by rw [slices_Index_int_int_c1_eq, if_neg (by simp; omega), show o.drop i = [] from List.drop_of_length_le (by omega)]; rfl
  | k + 1, i, e => by
    obtain ⟨d1, d2⟩ := dropT (0 : Int) (xs := o) (i := i) (by omega)
    have ih := Index_c1 o x ho k (i + 1) (by omega)
    rw [show ((i + 1 : Nat) : Int) = (i : Int) + 1 by omega] at ih
    have hof : Int.ofNat o.length = (o.length : Int) := rfl
    rw [slices_Index_int_int_c1_eq, if_pos (by simp; omega), gd_pos (by omega), gd_pos (by rw [hof]; omega), Int.toNat_natCast, d1]
    generalize List.getD o i 0 = y at *
    by_cases h : x = y
    · rw [if_pos (beq_iff_eq.2 h)]; simp only [idx]; rw [if_pos h]
    · rw [if_neg (fun k => h (beq_iff_eq.1 k)), w64 (by omega) (by omega), ih]; simp only [idx]; rw [if_neg h]
theorem Index_spec (o : List Int) (x : Int) (ho : o.length ≤ 50000) : slices_Index_int_int o x = some (idx o x 0) := by
  rw [slices_Index_int_int_eq]; exact Index_c1 o x ho o.length 0 (by omega)
theorem idx_is : ∀ (o : List Int) (x i : Int), idx o x i = -1 ∨ ∃ k : Nat, k < o.length ∧ idx o x i = i + k ∧ o.getD k 0 = x
  | [], x, i => .inl rfl
  | y :: r, x, i => by
    simp only [idx]
    by_cases h : x = y
    · rw [if_pos h]; exact .inr ⟨0, by simp, by simp, by simpa using h.symm⟩
    · rw [if_neg h]
      rcases idx_is r x (i + 1) with h1 | ⟨k, h1, h2, h3⟩
      · exact .inl h1
      · exact .inr ⟨k + 1, by simp only [List.length_cons]; omega, by omega, by simpa using h3⟩
/-- Where a range survives. -/
def lf (o : List Int) (p : D_api_Piece) : Option Int :=
  let a := idx o p.2.1 0
  if a < 0 then none else if (o.length : Int) < a + p.2.2.1 then none else if (o.drop a.toNat).take p.2.2.1.toNat = upto p.2.1 p.2.2.1.toNat then some a else none
def lfs (o : List Int) : List D_api_Piece → Int → List D_api_Piece
  | [], _ => []
  | p :: r, i => match lf o p with
    | some a => (i, (a, (p.2.2.1, ()))) :: lfs o r (i + 1)
    | none => lfs o r (i + 1)
def RG (n : Int) (p : D_api_Piece) : Prop := (0 : Int) ≤ p.2.1 ∧ (1 : Int) ≤ p.2.2.1 ∧ (p.2.1 : Int) + p.2.2.1 ≤ n
instance (n : Int) (p : D_api_Piece) : Decidable (RG n p) := by unfold RG; infer_instance
theorem lfs_len (o : List Int) : ∀ (l : List D_api_Piece) (i : Int), (lfs o l i).length ≤ l.length
  | [], _ => Nat.le_refl _
  | p :: r, i => by
    simp only [lfs]
    have := lfs_len o r (i + 1)
    split <;> simp only [List.length_cons] <;> omega
theorem left_c2 (o : List Int) (i a : Int) (rs : List D_api_Piece) (c d : Int) (z : List Int) (hz : z.length ≤ 50000) (h8 : List D_api_Piece) (p : D_api_Piece) (hp0 : (0 : Int) ≤ p.2.1) (hp1 : (p.2.1 : Int) ≤ 50000) : ∀ (k j : Nat) (fl : Bool), j + k = z.length → fl = decide (z.take j = upto p.2.1 j) →
    damage_left_c2 o i a fl rs c d z (z.length : Int) (j : Int) h8 p = damage_left_c2 o i a (decide (z = upto p.2.1 z.length)) rs c d z (z.length : Int) (z.length : Int) h8 p
  | 0, j, fl, e, hf => by
    obtain rfl : j = z.length := by omega
    rw [List.take_length] at hf
    rw [hf]
  | k + 1, j, fl, e, hf => by
    have hof : Int.ofNat z.length = (z.length : Int) := rfl
    have hq : decide (z.take (j + 1) = upto p.2.1 (j + 1)) = (fl && (z.getD j 0 == p.2.1 + (j : Int))) := by
      rw [takeT (0 : Int) (show j < z.length by omega), upto_app, hf, Bool.eq_iff_iff]
      simp only [decide_eq_true_eq, Bool.and_eq_true, beq_iff_eq]
      constructor
      · intro h
        have := List.append_inj h (by rw [List.length_take, upto_len]; omega)
        exact ⟨this.1, by simpa using this.2⟩
      · rintro ⟨h1, h2⟩
        rw [h1, h2]
    have ih := left_c2 o i a rs c d z hz h8 p hp0 hp1 k (j + 1) _ (by omega) rfl
    rw [show ((j + 1 : Nat) : Int) = (j : Int) + 1 by omega, hq] at ih
    rw [damage_left_c2_eq o i a fl, if_pos (by simp; omega), gd_pos (by omega), gd_pos (by rw [hof]; omega), Int.toNat_natCast, w64 (x := (j : Int) + 1) (by omega) (by omega)]
    cases fl with
    | true =>
      rw [if_pos rfl, w64 (by omega) (by omega)]
      rw [Bool.true_and] at ih
      exact ih
    | false =>
      rw [if_neg (by simp)]
      rw [Bool.false_and] at ih
      exact ih
theorem left_c1 (o : List Int) (ho : o.length ≤ 50000) (rs : List D_api_Piece) (hr : rs.length ≤ 600) (n : Int) (hn : n ≤ 50000) (hg : ∀ p ∈ rs, RG n p) : ∀ (k i : Nat) (acc : List D_api_Piece), i + k = rs.length → acc.length ≤ i →
    damage_left_c1 o rs (rs.length : Int) (i : Int) acc = some (acc ++ lfs o (rs.drop i) i)
  | 0, i, acc, e, ha => by rw [damage_left_c1_eq, if_neg (by simp; omega), show rs.drop i = [] from List.drop_of_length_le (by omega)]; simp [lfs]
  | k + 1, i, acc, e, ha => by
    obtain ⟨d1, d2⟩ := dropT (pzero T_api_Piece : D_api_Piece) (xs := rs) (i := i) (by omega)
    have hgp := hg _ d2
    have ih := fun acc ha => left_c1 o ho rs hr n hn hg k (i + 1) acc (by omega) ha
    rw [show ((i + 1 : Nat) : Int) = (i : Int) + 1 by omega] at ih
    have hof : Int.ofNat rs.length = (rs.length : Int) := rfl
    have hofo : Int.ofNat o.length = (o.length : Int) := rfl
    rw [damage_left_c1_eq, if_pos (by simp; omega), gd_pos (by omega), gd_pos (by rw [hof]; omega), Int.toNat_natCast, d1, hofo]
    generalize List.getD rs i (pzero T_api_Piece) = p at *
    obtain ⟨g1, g2, g3⟩ := hgp
    rw [Index_spec o _ ho]
    simp only [Option.bind_some, lfs]
    unfold lf
    simp only
    rw [w64 (x := (i : Int) + 1) (by omega) (by omega)]
    rcases idx_is o p.2.1 0 with h1 | ⟨q, h1, h2, h3⟩
    · rw [h1, if_pos (by decide), if_pos (by decide), ih acc (by omega)]
    · rw [h2, Int.zero_add, if_neg (by simp only [decide_eq_true_eq]; omega), if_neg (show ¬ ((q : Int) < 0) by omega), w64 (x := (q : Int) + p.2.2.1) (by omega) (by omega)]
      by_cases h4 : (o.length : Int) < (q : Int) + p.2.2.1
      · rw [if_pos (decide_eq_true h4), if_pos h4, ih acc (by omega)]
      · have hz : List.take (((q : Int) + p.2.2.1).toNat - (q : Int).toNat) (List.drop (q : Int).toNat o) = (o.drop q).take p.2.2.1.toNat := by
          rw [Int.toNat_natCast]; congr 1; omega
        have hzl : ((o.drop q).take p.2.2.1.toNat).length = p.2.2.1.toNat := by rw [List.length_take, List.length_drop]; omega
        rw [if_neg (by simp only [decide_eq_true_eq]; exact h4), if_neg h4, gd_pos (by omega), gd_pos (by omega), gd_pos (by omega), hz, Int.toNat_natCast]
        generalize (o.drop q).take p.2.2.1.toNat = z at *
        have hc2 := left_c2 o (i : Int) (q : Int) rs (rs.length : Int) (i : Int) z (by omega) acc p g1 (by omega) z.length 0 true (by omega) (by simp [upto])
        refine Eq.trans hc2 ?_
        rw [damage_left_c2_eq, if_neg (by simp), hzl, w64 (x := (i : Int) + 1) (by omega) (by omega)]
        by_cases h5 : z = upto p.2.1 p.2.2.1.toNat
        · rw [if_pos (decide_eq_true h5), if_pos h5, gd_pos (by simp only [List.length_append, List.length_singleton]; omega), ih _ (by simp only [List.length_append, List.length_singleton]; omega), List.append_assoc]; rfl
        · rw [if_neg (by simp only [decide_eq_true_eq]; exact h5), if_neg h5, ih acc (by omega)]
theorem left_spec (o : List Int) (ho : o.length ≤ 50000) (rs : List D_api_Piece) (hr : rs.length ≤ 600) (n : Int) (hn : n ≤ 50000) (hg : ∀ p ∈ rs, RG n p) : damage_left rs o = some (lfs o rs 0) := by
  rw [damage_left_eq]
  exact left_c1 o ho rs hr n hn hg rs.length 0 [] (by omega) (Nat.le_refl _)
def srv (rs : List D_api_Piece) (n : Int) (l : List D_api_Harm) : List D_api_Piece × Int :=
  if (org n l).2 ≠ 0 then ([], (org n l).2) else if 600 < rs.length then ([], 4) else if ∀ p ∈ rs, RG n p then (lfs (org n l).1 rs 0, 0) else ([], 8)
theorem org_ok {n : Int} {l : List D_api_Harm} (h : (org n l).2 = 0) : chk35 l = 0 ∧ 0 ≤ n ∧ n ≤ 50000 := by
  unfold org at h
  by_cases hc : chk35 l = 0
  · rw [if_neg (show ¬ chk35 l ≠ 0 from fun k => k hc)] at h
    by_cases hn : n < 0 ∨ 50000 < n
    · rw [if_pos hn] at h; cases h
    · exact ⟨hc, by omega, by omega⟩
  · rw [if_pos hc] at h; exact absurd h hc
theorem surv_c1 (rs : List D_api_Piece) (hr : rs.length ≤ 600) (n : Int) (hn0 : 0 ≤ n) (hn : n ≤ 50000) (o : List Int) (ho : o.length ≤ 50000) : ∀ (k i : Nat), i + k = rs.length → (∀ p ∈ rs.take i, RG n p) →
    damage_Survivors_c1 rs n o rs (rs.length : Int) (i : Int) = some (if ∀ p ∈ rs, RG n p then (lfs o rs 0, 0) else ([], 8))
  | 0, i, e, hg => by
    rw [show rs.take i = rs from List.take_of_length_le (by omega)] at hg
    rw [damage_Survivors_c1_eq, if_neg (by simp; omega), left_spec o ho rs hr n hn hg, if_pos hg]; rfl
  | k + 1, i, e, hg => by
    obtain ⟨d1, d2⟩ := dropT (pzero T_api_Piece : D_api_Piece) (xs := rs) (i := i) (by omega)
    have ht := takeT (pzero T_api_Piece : D_api_Piece) (xs := rs) (i := i) (by omega)
    have hof : Int.ofNat rs.length = (rs.length : Int) := rfl
    rw [damage_Survivors_c1_eq, if_pos (by simp; omega), gd_pos (by omega), gd_pos (by rw [hof]; omega), Int.toNat_natCast]
    have ih := surv_c1 rs hr n hn0 hn o ho k (i + 1) (by omega)
    rw [ht, show ((i + 1 : Nat) : Int) = (i : Int) + 1 by omega] at ih
    generalize List.getD rs i (pzero T_api_Piece) = p at *
    have bad : ¬ RG n p → (some (if ∀ p ∈ rs, RG n p then (lfs o rs 0, 0) else ([], 8)) : Option (List D_api_Piece × Int)) = some ([], 8) := fun h => by
      rw [if_neg (fun h2 => h (h2 p d2))]
    by_cases h1 : (p.2.1 : Int) < 0
    · rw [if_pos (decide_eq_true h1), bad (fun h => by have := h.1; omega)]
    · rw [if_neg (by simp only [decide_eq_true_eq]; exact h1)]
      by_cases h2 : (p.2.2.1 : Int) < 1
      · rw [if_pos (decide_eq_true h2), bad (fun h => by have := h.2.1; omega)]
      · rw [if_neg (by simp only [decide_eq_true_eq]; exact h2)]
        by_cases h3 : (p.2.1 : Int) > n
        · rw [if_pos (decide_eq_true h3), bad (fun h => by have h5 := h.2.1; have h6 := h.2.2; omega)]
        · rw [if_neg (by simp only [decide_eq_true_eq]; exact h3), w64 (x := n - p.2.1) (by omega) (by omega)]
          by_cases h4 : (p.2.2.1 : Int) > n - p.2.1
          · rw [if_pos (decide_eq_true h4), bad (fun h => by have h6 := h.2.2; omega)]
          · rw [if_neg (by simp only [decide_eq_true_eq]; exact h4), w64 (by omega) (by omega)]
            exact ih (fun q hq => by
              rcases List.mem_append.1 hq with hq | hq
              · exact hg q hq
              · rw [List.mem_singleton.1 hq]; exact ⟨by omega, by omega, by omega⟩)
theorem Survivors_spec (rs : List D_api_Piece) (n : Int) (l : List D_api_Harm) : damage_Survivors rs n l = some (srv rs n l) := by
  rw [damage_Survivors_eq, Origins_spec]
  simp only [Option.bind_some]
  unfold srv
  by_cases h : (org n l).2 = 0
  · obtain ⟨_, h0, h1⟩ := org_ok h
    rw [if_neg (by rw [h]; decide), if_neg (show ¬ (org n l).2 ≠ 0 from fun k => k h)]
    by_cases hr : 600 < rs.length
    · rw [if_pos (by simp; omega), if_pos hr]
    · rw [if_neg (by simp; omega), if_neg hr]
      exact surv_c1 rs (by omega) n h0 h1 _ (org_len n l) rs.length 0 (by omega) (by simp)
  · rw [if_pos (bne_iff_ne.2 h), if_pos h]
/-! ### The chapter's examples -/
theorem alive_spec : bitloftlaw35_alive = some true := by
  rw [bitloftlaw35_alive_eq, gd_pos (by decide), gd_pos (by decide), Apply_spec, Origins_spec, Survivors_spec]
  have e1 : app [(97 : Int), (98 : Int), (99 : Int), (100 : Int)] [((3 : Int), ((1 : Int), ((0 : Int), ([(120 : Int)], ())))), ((2 : Int), ((2 : Int), ((1 : Int), ([], ())))), ((1 : Int), ((0 : Int), ((121 : Int), ([], ()))))] = ([121, 120, 99, 100], 0) := by kernel_rfl
  have e2 : org (4 : Int) [((3 : Int), ((1 : Int), ((0 : Int), ([(120 : Int)], ())))), ((2 : Int), ((2 : Int), ((1 : Int), ([], ())))), ((1 : Int), ((0 : Int), ((121 : Int), ([], ()))))] = ([-1, -1, 2, 3], 0) := by kernel_rfl
  have e3 : srv [((0 : Int), ((2 : Int), ((2 : Int), ()))), ((0 : Int), ((1 : Int), ((2 : Int), ())))] (4 : Int) [((3 : Int), ((1 : Int), ((0 : Int), ([(120 : Int)], ())))), ((2 : Int), ((2 : Int), ((1 : Int), ([], ())))), ((1 : Int), ((0 : Int), ((121 : Int), ([], ()))))] = ([((0 : Int), ((2 : Int), ((2 : Int), ())))], 0) := by kernel_rfl
  rw [e1, e2, e3]
  have e4 : bitloftref29_Same [((0 : Int), ((2 : Int), ((2 : Int), ())))] [((0 : Int), ((2 : Int), ((2 : Int), ())))] = some true := by
    rw [bitloftref29_Same_eq, if_neg (by decide), bitloftref29_Same_c1_eq, if_pos (by decide), gd_pos (by decide), gd_pos (by decide), gd_pos (by decide), gd_pos (by decide), if_neg (by decide), w64 (by decide) (by decide), bitloftref29_Same_c1_eq, if_neg (by decide)]
  have e5 : (ByteArray.toList (toStr [(121 : Int), 120, 99, 100]) == ByteArray.toList (ByteArray.mk #[121, 120, 99, 100])) = true := by decide +kernel
  simp only [Option.bind_some, SameInts_self [(-1 : Int), -1, 2, 3] (by decide), e4, e5, beq_self_eq_true, if_true]
end Go.Ab

set_option linter.unusedVariables false
set_option linter.unusedSimpArgs false
set_option maxHeartbeats 1000000
namespace Go.Ab
attribute [local irreducible] IntKind.wrap
/-! ### Scripts in parts -/
theorem chk_zero {l : List D_api_Harm} (h1 : l.length ≤ 20) (h2 : ∀ x ∈ l, HV x) : chk35 l = 0 := by
  unfold chk35; rw [if_neg (by omega), if_pos h2]
theorem app_ok {b : List Int} {l : List D_api_Harm} (h : chk35 l = 0) (hb : b.length ≤ 50000) : app b l = outp (sts fB b l) := by
  unfold app; rw [if_neg (show ¬ chk35 l ≠ 0 from fun k => k h), if_neg (by omega)]
theorem org_some {n : Nat} {l : List D_api_Harm} (h : chk35 l = 0) (hn : n ≤ 50000) : org (n : Int) l = outp (sts fI (upto 0 n) l) := by
  unfold org; rw [if_neg (show ¬ chk35 l ≠ 0 from fun k => k h), if_neg (by omega), Int.toNat_natCast]
theorem bitloftlaw35_DamageParts_true (x0 : List Int) (z0 : wfP (.slice (.int .u8)) x0) (x1 : List D_api_Harm) (z1 : wfP (.slice T_api_Harm) x1) (x2 : Int) (z2 : wfP (.int .i64) x2) : bitloftlaw35_DamageParts x0 x1 x2 = some true := by
  obtain ⟨g, hg⟩ := Great_spec x1 z1.1
  have hof : Int.ofNat x1.length = (x1.length : Int) := rfl
  rw [bitloftlaw35_DamageParts_eq, alive_spec]
  simp only [Option.bind_some, hg, ref_Check_spec, Apply_spec]
  by_cases hb : 1000 < x0.length
  · rw [if_pos (by simp; omega)]
  · rw [if_neg (by simp; omega)]
    cases g with
    | true => rw [if_pos rfl]
    | false =>
      rw [if_neg (by simp)]
      by_cases hc : chk35 x1 = 0
      · rw [if_neg (by rw [hc]; decide)]
        by_cases h0 : x2 < 0
        · rw [if_pos (decide_eq_true h0)]
        · rw [if_neg (by simp only [decide_eq_true_eq]; exact h0)]
          by_cases h1 : x2 > (x1.length : Int)
          · rw [if_pos (decide_eq_true (by rw [hof]; exact h1))]
          · obtain ⟨c1, c2⟩ := chk0 hc
            rw [if_neg (by simp only [decide_eq_true_eq]; rw [hof]; exact h1), if_neg (by simp), gd_pos (by omega), gd_pos (by rw [hof]; omega)]
            have ct : chk35 (x1.take x2.toNat) = 0 := chk_zero (by rw [List.length_take]; omega) (fun x hx => c2 x (List.mem_of_mem_take hx))
            have cd : chk35 (x1.drop x2.toNat) = 0 := chk_zero (by rw [List.length_drop]; omega) (fun x hx => c2 x (List.mem_of_mem_drop hx))
            have ha := sts_append fB x0 (x1.take x2.toNat) (x1.drop x2.toNat)
            rw [List.take_append_drop] at ha
            rw [app_ok hc (by omega), app_ok ct (by omega), ha]
            cases e : sts fB x0 (x1.take x2.toNat) with
            | none => rfl
            | some y =>
              have hy := sts_len (fun x hx => c2 x (List.mem_of_mem_take hx)) (show x0.length ≤ 50000 by omega) e
              rw [if_neg (by simp [outp]), gd_pos (by omega), gd_pos (by rw [hof]; omega), if_pos trivial]
              have hyo : (outp (some y)).1 = y := rfl
              rw [hyo, app_ok cd hy]
              simp only [Option.bind_some, beq_self_eq_true, if_true]
      · rw [if_pos (bne_iff_ne.2 hc)]
/-! ### Where bytes come from -/
def GD (b : List Int) (cs : List D_bitloftref35_cell) : Prop :=
  (∀ c ∈ cs, (c.2.1 : Int) = -1 ∨ ((0 : Int) ≤ c.2.1 ∧ (c.2.1 : Int) < b.length ∧ (c.1 : Int) = b.getD (c.2.1 : Int).toNat 0)) ∧ cs.Pairwise fun a c => (0 : Int) ≤ a.2.1 → (0 : Int) ≤ c.2.1 → (a.2.1 : Int) < c.2.1
theorem GD_mid {b : List Int} {cs us : List D_bitloftref35_cell} {i j : Nat} (h : GD b cs) (hij : i ≤ j) (hu : ∀ u ∈ us, (u.2.1 : Int) = -1) : GD b (cs.take i ++ us ++ cs.drop j) := by
  obtain ⟨h1, h2⟩ := h
  have hp := h2
  rw [← List.take_append_drop i cs, List.pairwise_append] at hp
  obtain ⟨p1, p2, p3⟩ := hp
  have hd : cs.drop j = (cs.drop i).drop (j - i) := by rw [List.drop_drop]; congr 1; omega
  refine ⟨fun c hc => ?_, ?_⟩
  · rcases List.mem_append.1 hc with hc | hc
    · rcases List.mem_append.1 hc with hc | hc
      · exact h1 c (List.mem_of_mem_take hc)
      · exact .inl (hu c hc)
    · exact h1 c (List.mem_of_mem_drop hc)
  · refine List.pairwise_append.2 ⟨List.pairwise_append.2 ⟨p1, ?_, fun a _ u hx _ h0 => ?_⟩, ?_, fun a ha c hc => ?_⟩
    · exact List.Pairwise.imp_of_mem (R := fun _ _ => True) (fun hx _ _ h0 => by have := hu _ hx; omega) (List.pairwise_of_forall (fun _ _ => trivial))
    · have := hu u hx; omega
    · rw [hd]; exact p2.sublist (List.drop_sublist _ _)
    · have hc' : c ∈ cs.drop i := by rw [hd] at hc; exact List.mem_of_mem_drop hc
      rcases List.mem_append.1 ha with ha | ha
      · exact p3 a ha c hc'
      · intro h0; have := hu a ha; omega
theorem GD_st {b : List Int} {cs cs' : List D_bitloftref35_cell} {h : D_api_Harm} (hv : HV h) (hg : GD b cs) (e : st fC cs h = some cs') : GD b cs' := by
  have hp := hv.1
  by_cases hq : ps (cs.length : Int) h
  · rcases hv.2 with ⟨hk, hn0, hn1, hm⟩ | ⟨hk, hn0, hm⟩ | ⟨hk, hn0, hm⟩ | ⟨hk, hn0, hm⟩
    · have h1 := ps1 hk hq
      rw [st1 _ _ hk h1] at e; injection e with e; subst e
      rw [List.set_eq_take_append_cons_drop, if_pos (by omega)]
      have := GD_mid (us := [fC h.2.2.1]) (i := h.2.1.toNat) (j := h.2.1.toNat + 1) hg (by omega) (fun u hu => by rw [List.mem_singleton.1 hu]; rfl)
      rw [List.append_assoc] at this
      exact this
    · have h1 := ps2 hk hq
      rw [st2 _ _ hk h1] at e; injection e with e; subst e
      have := GD_mid (us := []) (i := h.2.1.toNat) (j := (h.2.1 + h.2.2.1).toNat) hg (by omega) (fun u hu => by cases hu)
      rw [List.append_nil] at this
      exact this
    · have h1 := ps3 hk hq
      rw [st3 _ _ hk h1] at e; injection e with e; subst e
      exact GD_mid hg (Nat.le_refl _) (fun u hu => by obtain ⟨x, _, rfl⟩ := List.mem_map.1 hu; rfl)
    · have h1 := ps4 hk hq
      rw [st4 _ _ hk h1] at e; injection e with e; subst e
      have := GD_mid (us := []) (i := h.2.1.toNat) (j := cs.length) hg (by omega) (fun u hu => by cases hu)
      rw [List.append_nil, List.drop_length, List.append_nil] at this
      exact this
  · rw [stN _ _ hv hq] at e; cases e
theorem GD_sts {b : List Int} : ∀ {cs cs' : List D_bitloftref35_cell} {hs : List D_api_Harm}, (∀ h ∈ hs, HV h) → GD b cs → sts fC cs hs = some cs' → GD b cs'
  | cs, cs', [], _, hg, e => by injection e with e; subst e; exact hg
  | cs, cs', h :: r, hv, hg, e => by
    simp only [sts] at e
    cases h1 : st fC cs h with
    | none => rw [h1] at e; cases e
    | some c1 => rw [h1] at e; exact GD_sts (fun h hh => hv h (List.mem_cons_of_mem _ hh)) (GD_st (hv h List.mem_cons_self) hg h1) e
theorem cells_mem : ∀ (l : List Int) (i : Int) (c : D_bitloftref35_cell), c ∈ cells l i → ∃ k : Nat, k < l.length ∧ (c.2.1 : Int) = i + k ∧ (c.1 : Int) = l.getD k 0
  | [], i, c, h => by cases h
  | x :: r, i, c, h => by
    rcases List.mem_cons.1 h with rfl | h
    · exact ⟨0, by simp, by simp, by simp⟩
    · obtain ⟨k, h1, h2, h3⟩ := cells_mem r (i + 1) c h
      exact ⟨k + 1, by simp only [List.length_cons]; omega, by omega, by simpa using h3⟩
theorem cells_pw : ∀ (l : List Int) (i : Int), (cells l i).Pairwise fun a c => (0 : Int) ≤ a.2.1 → (0 : Int) ≤ c.2.1 → (a.2.1 : Int) < c.2.1
  | [], i => List.Pairwise.nil
  | x :: r, i => by
    refine List.Pairwise.cons (fun c hc _ _ => ?_) (cells_pw r (i + 1))
    obtain ⟨k, _, h2, _⟩ := cells_mem r (i + 1) c hc
    show i < c.2.1
    omega
theorem GD_cells (b : List Int) : GD b (cells b 0) := by
  refine ⟨fun c hc => ?_, cells_pw b 0⟩
  obtain ⟨k, h1, h2, h3⟩ := cells_mem b 0 c hc
  right
  rw [h2, h3]
  refine ⟨by omega, by omega, by congr 1; omega⟩
/-- Bytes and origins, side by side. -/
theorem both_ok {b : List Int} {l : List D_api_Harm} (hc : chk35 l = 0) (hb : b.length ≤ 50000) :
    (app b l = ([], 16) ∧ org (b.length : Int) l = ([], 16)) ∨ ∃ cs : List D_bitloftref35_cell, app b l = (cs.map (fun c : D_bitloftref35_cell => c.1), 0) ∧ org (b.length : Int) l = (cs.map (fun c : D_bitloftref35_cell => c.2.1), 0) ∧ GD b cs ∧ (l = [] → cs = cells b 0) ∧ cs.length ≤ 50000 := by
  obtain ⟨c1, c2⟩ := chk0 hc
  have m1 := sts_map fC (fun c : D_bitloftref35_cell => c.1) (cells b 0) l
  have m2 := sts_map fC (fun c : D_bitloftref35_cell => c.2.1) (cells b 0) l
  rw [cells_fst] at m1
  rw [cells_snd] at m2
  have m1' : sts fB b l = Option.map (List.map fun c : D_bitloftref35_cell => c.1) (sts fC (cells b 0) l) := m1.symm
  have m2' : sts fI (upto 0 b.length) l = Option.map (List.map fun c : D_bitloftref35_cell => c.2.1) (sts fC (cells b 0) l) := m2.symm
  rw [app_ok hc hb, org_some hc hb, m1', m2']
  cases e : sts fC (cells b 0) l with
  | none => exact .inl ⟨rfl, rfl⟩
  | some cs => exact .inr ⟨cs, rfl, rfl, GD_sts c2 (GD_cells b) e, fun hl => by subst hl; injection e with e; exact e.symm, sts_len c2 (by rw [cells_len]; exact hb) e⟩
theorem getD_map {α : Type} (f : α → Int) (z : α) (l : List α) (j : Nat) (h : j < l.length) : (l.map f).getD j 0 = f (l.getD j z) := by
  simp [List.getD_eq_getElem?_getD, List.getElem?_eq_getElem h]
theorem GD_at {b : List Int} {cs : List D_bitloftref35_cell} (h : GD b cs) {j : Nat} (hj : j < cs.length) :
    (cs.map (fun c : D_bitloftref35_cell => c.2.1)).getD j 0 = -1 ∨ (0 ≤ (cs.map (fun c : D_bitloftref35_cell => c.2.1)).getD j 0 ∧ (cs.map (fun c : D_bitloftref35_cell => c.2.1)).getD j 0 < b.length ∧ (cs.map (fun c : D_bitloftref35_cell => c.1)).getD j 0 = b.getD ((cs.map (fun c : D_bitloftref35_cell => c.2.1)).getD j 0).toNat 0) := by
  rw [getD_map _ (pzero T_bitloftref35_cell : D_bitloftref35_cell) cs j hj, getD_map _ (pzero T_bitloftref35_cell : D_bitloftref35_cell) cs j hj]
  exact h.1 _ (dropT _ hj).2
theorem GD_lt {b : List Int} {cs : List D_bitloftref35_cell} (h : GD b cs) {i j : Nat} (hij : i < j) (hj : j < cs.length) (h0 : 0 ≤ (cs.map (fun c : D_bitloftref35_cell => c.2.1)).getD i 0) (h1 : 0 ≤ (cs.map (fun c : D_bitloftref35_cell => c.2.1)).getD j 0) :
    (cs.map (fun c : D_bitloftref35_cell => c.2.1)).getD i 0 < (cs.map (fun c : D_bitloftref35_cell => c.2.1)).getD j 0 := by
  rw [getD_map _ (pzero T_bitloftref35_cell : D_bitloftref35_cell) cs i (by omega)] at h0 ⊢
  rw [getD_map _ (pzero T_bitloftref35_cell : D_bitloftref35_cell) cs j hj] at h1 ⊢
  have hp := List.pairwise_iff_getElem.1 h.2 i j (by omega) hj hij
  have e : ∀ k (hk : k < cs.length), cs.getD k (pzero T_bitloftref35_cell : D_bitloftref35_cell) = cs[k] := fun k hk => by simp [List.getD_eq_getElem?_getD, List.getElem?_eq_getElem hk]
  rw [e i (by omega)] at h0 ⊢
  rw [e j hj] at h1 ⊢
  exact hp h0 h1
theorem upto_get : ∀ (n : Nat) (i : Int) (j : Nat), j < n → (upto i n).getD j 0 = i + j
  | 0, i, j, h => by omega
  | n + 1, i, 0, h => by simp [upto]
  | n + 1, i, j + 1, h => by
    have := upto_get n (i + 1) j (by omega)
    simp only [upto, List.getD_cons_succ]
    rw [this]; omega
theorem origins_c1 (b : List Int) (hb : b.length ≤ 1000) (l : List D_api_Harm) (cs : List D_bitloftref35_cell) (hcs : cs.length ≤ 50000) (hg : GD b cs) (hl : l = [] → cs = cells b 0) : ∀ (k j : Nat) (last : Int), j + k = cs.length → (last = -1 ∨ ∃ i, i < j ∧ (cs.map (fun c : D_bitloftref35_cell => c.2.1)).getD i 0 = last ∧ 0 ≤ last) → (l = [] → last = (j : Int) - 1) →
    bitloftlaw35_DamageOrigins_c1 b l true (cs.map fun c : D_bitloftref35_cell => c.1) (cs.map fun c : D_bitloftref35_cell => c.2.1) last (j : Int) = some true
  | 0, j, last, e, h1, h2 => by
    have hof : Int.ofNat b.length = (b.length : Int) := rfl
    rw [bitloftlaw35_DamageOrigins_c1_eq, if_neg (by simp; omega), if_pos rfl]
    by_cases h : l = []
    · have hc := hl h
      have hcl : cs.length = b.length := by rw [hc, cells_len]
      rw [h2 h, hc, cells_fst, h, if_neg (by simp), if_pos (by simp), hof, w64 (by omega) (by omega), show (j : Int) = b.length by omega]
      simp
    · rw [if_pos (by simp only [decide_eq_true_eq]; have := List.length_pos_iff.2 h; show (l.length : Int) > 0; omega)]
  | k + 1, j, last, e, h1, h2 => by
    have hof : Int.ofNat b.length = (b.length : Int) := rfl
    have ho1 : Int.ofNat (cs.map fun c : D_bitloftref35_cell => c.1).length = (cs.length : Int) := by rw [List.length_map]; rfl
    have ho2 : Int.ofNat (cs.map fun c : D_bitloftref35_cell => c.2.1).length = (cs.length : Int) := by rw [List.length_map]; rfl
    have hj : j < cs.length := by omega
    have hat := GD_at hg hj
    have ih := fun last h1 h2 => origins_c1 b hb l cs hcs hg hl k (j + 1) last (by omega) h1 h2
    rw [show ((j + 1 : Nat) : Int) = (j : Int) + 1 by omega] at ih
    rw [bitloftlaw35_DamageOrigins_c1_eq, ho1, ho2, hof, Int.toNat_natCast, if_pos (decide_eq_true (by omega)), w64 (by omega) (by omega)]
    have ex : l = [] → (cs.map (fun c : D_bitloftref35_cell => c.2.1)).getD j 0 = (j : Int) := fun h => by
      rw [hl h, cells_snd, upto_get _ _ _ (by rw [hl h, cells_len] at hj; exact hj), Int.zero_add]
    generalize hx : (cs.map (fun c : D_bitloftref35_cell => c.2.1)).getD j 0 = o at *
    generalize (cs.map (fun c : D_bitloftref35_cell => c.1)).getD j 0 = x at *
    rw [gd_pos (by omega), gd_pos (by omega), if_neg (by simp only [decide_eq_true_eq]; omega), gd_pos (by omega), gd_pos (by omega), if_neg (by simp only [decide_eq_true_eq]; omega), gd_pos (by omega), gd_pos (by omega)]
    rcases hat with ha | ⟨ha, hb2, hc⟩
    · rw [if_neg (by simp only [decide_eq_true_eq]; omega)]
      refine ih last (h1.imp id ?_) (fun h => ?_)
      · rintro ⟨i, q1, q2⟩; exact ⟨i, by omega, q2⟩
      · have := ex h; omega
    · have hlt : last < o := by
        rcases h1 with h1 | ⟨i, q1, q2, q3⟩
        · omega
        · have := GD_lt hg q1 hj (by rw [q2]; exact q3) (by rw [hx]; exact ha)
          rw [q2, hx] at this; exact this
      rw [if_pos (decide_eq_true ha), gd_pos (by omega), gd_pos (by omega), if_neg (by simp only [decide_eq_true_eq]; omega), gd_pos (by omega), gd_pos (by omega), gd_pos (by omega), gd_pos (by omega), gd_pos (by omega), gd_pos (by omega), if_neg (by rw [hc]; simp), gd_pos (by omega), gd_pos (by omega)]
      exact ih o (.inr ⟨j, by omega, hx, ha⟩) (fun h => by have := ex h; omega)
theorem bitloftlaw35_DamageOrigins_true (x0 : List Int) (z0 : wfP (.slice (.int .u8)) x0) (x1 : List D_api_Harm) (z1 : wfP (.slice T_api_Harm) x1) : bitloftlaw35_DamageOrigins x0 x1 = some true := by
  obtain ⟨g, hg⟩ := Great_spec x1 z1.1
  have hof : Int.ofNat x0.length = (x0.length : Int) := rfl
  rw [bitloftlaw35_DamageOrigins_eq, alive_spec]
  simp only [Option.bind_some, hg, ref_Check_spec, Apply_spec, Origins_spec]
  by_cases hb : 1000 < x0.length
  · rw [if_pos (by simp; omega)]
  · rw [if_neg (by simp; omega)]
    cases g with
    | true => rw [if_pos rfl]
    | false =>
      rw [if_neg (by simp)]
      by_cases hc : chk35 x1 = 0
      · rw [if_neg (by rw [hc]; decide), if_neg (by simp), hof]
        rcases both_ok hc (show x0.length ≤ 50000 by omega) with ⟨h1, h2⟩ | ⟨cs, h1, h2, h3, h4, h5⟩
        · rw [h1, h2]; rfl
        · rw [h1, h2, if_neg (by simp), if_neg (by simp), if_neg (by simp)]
          exact origins_c1 x0 (by omega) x1 cs h5 h3 h4 cs.length 0 (-1) (by omega) (.inl rfl) (fun _ => rfl)
      · rw [if_pos (bne_iff_ne.2 hc)]
end Go.Ab

set_option linter.unusedVariables false
set_option linter.unusedSimpArgs false
set_option maxHeartbeats 1000000
namespace Go.Ab
attribute [local irreducible] IntKind.wrap
/-! ### Ranges that survive are there -/
abbrev Zp : D_api_Piece := pzero T_api_Piece
theorem lf_some {o : List Int} {p : D_api_Piece} {a : Int} (hr : (1 : Int) ≤ p.2.2.1) (h : lf o p = some a) :
    0 ≤ a ∧ a + p.2.2.1 ≤ (o.length : Int) ∧ ∀ k : Nat, (k : Int) < p.2.2.1 → o.getD (a.toNat + k) 0 = p.2.1 + k := by
  unfold lf at h
  simp only at h
  generalize idx o p.2.1 0 = q at h
  by_cases h1 : q < 0
  · rw [if_pos h1] at h; cases h
  · rw [if_neg h1] at h
    by_cases h2 : (o.length : Int) < q + p.2.2.1
    · rw [if_pos h2] at h; cases h
    · rw [if_neg h2] at h
      split at h
      · rename_i h3
        injection h with h; subst h
        refine ⟨by omega, by omega, fun k hk => ?_⟩
        have h4 := upto_get p.2.2.1.toNat p.2.1 k (by omega)
        rw [← h3] at h4
        rw [← h4]
        simp only [List.getD_eq_getElem?_getD, List.getElem?_take, List.getElem?_drop]
        rw [if_pos (by omega)]
      · cases h
theorem lfs_mem (o : List Int) : ∀ (l : List D_api_Piece) (i : Int) (s : D_api_Piece), s ∈ lfs o l i → ∃ k : Nat, k < l.length ∧ (s.1 : Int) = i + k ∧ s.2.2.1 = (l.getD k Zp).2.2.1 ∧ lf o (l.getD k Zp) = some s.2.1
  | [], i, s, h => by cases h
  | p :: r, i, s, h => by
    simp only [lfs] at h
    have rest : s ∈ lfs o r (i + 1) → ∃ k : Nat, k < (p :: r).length ∧ (s.1 : Int) = i + k ∧ s.2.2.1 = ((p :: r).getD k Zp).2.2.1 ∧ lf o ((p :: r).getD k Zp) = some s.2.1 := fun h => by
      obtain ⟨k, h1, h2, h3, h4⟩ := lfs_mem o r (i + 1) s h
      exact ⟨k + 1, by simp only [List.length_cons]; omega, by omega, by rw [List.getD_cons_succ]; exact h3, by rw [List.getD_cons_succ]; exact h4⟩
    split at h
    · rename_i a ha
      rcases List.mem_cons.1 h with rfl | h
      · exact ⟨0, by simp, by simp, rfl, ha⟩
      · exact rest h
    · exact rest h
theorem lfs_pw (o : List Int) : ∀ (l : List D_api_Piece) (i : Int), (lfs o l i).Pairwise fun a c => (a.1 : Int) < c.1
  | [], i => List.Pairwise.nil
  | p :: r, i => by
    simp only [lfs]
    split
    · refine List.Pairwise.cons (fun c hc => ?_) (lfs_pw o r (i + 1))
      obtain ⟨k, _, h2, _⟩ := lfs_mem o r (i + 1) c hc
      show i < c.1
      omega
    · exact lfs_pw o r (i + 1)
/-- A survivor. -/
def Sv7 (rs : List D_api_Piece) (o : List Int) (N : Int) (s : D_api_Piece) : Prop :=
  ∃ k : Nat, k < rs.length ∧ (s.1 : Int) = k ∧ RG N (rs.getD k Zp) ∧ s.2.2.1 = (rs.getD k Zp).2.2.1 ∧ (0 : Int) ≤ s.2.1 ∧ (s.2.1 : Int) + (rs.getD k Zp).2.2.1 ≤ (o.length : Int) ∧
    ∀ t : Nat, (t : Int) < (rs.getD k Zp).2.2.1 → o.getD ((s.2.1 : Int).toNat + t) 0 = (rs.getD k Zp).2.1 + t
theorem lfs_sv {rs : List D_api_Piece} {o : List Int} {N : Int} (hg : ∀ p ∈ rs, RG N p) {s : D_api_Piece} (h : s ∈ lfs o rs 0) : Sv7 rs o N s := by
  obtain ⟨k, h1, h2, h3, h4⟩ := lfs_mem o rs 0 s h
  have hr := hg _ (dropT Zp h1).2
  obtain ⟨q1, q2, q3⟩ := lf_some hr.2.1 h4
  exact ⟨k, h1, by omega, hr, h3, q1, q2, q3⟩
/-- Ranges that lie apart survive apart. -/
theorem sv_apart {b : List Int} {cs : List D_bitloftref35_cell} (hgd : GD b cs) {a a' r r' f f' : Int} (hr : 1 ≤ r) (hr' : 1 ≤ r') (hf : 0 ≤ f) (hf' : 0 ≤ f') (ha : 0 ≤ a) (ha' : 0 ≤ a') (hl : a + r ≤ (cs.length : Int)) (hl' : a' + r' ≤ (cs.length : Int))
    (h : ∀ t : Nat, (t : Int) < r → (cs.map (fun c : D_bitloftref35_cell => c.2.1)).getD (a.toNat + t) 0 = f + t) (h' : ∀ t : Nat, (t : Int) < r' → (cs.map (fun c : D_bitloftref35_cell => c.2.1)).getD (a'.toNat + t) 0 = f' + t)
    (hap : f + r ≤ f') : a + r ≤ a' := by
  refine Decidable.byContradiction fun hn => ?_
  have e1 := h (r.toNat - 1) (by omega)
  have e2 := h' 0 (by omega)
  rw [Nat.add_zero] at e2
  by_cases heq : a'.toNat = a.toNat + (r.toNat - 1)
  · rw [heq, e1] at e2; omega
  · have := GD_lt hgd (i := a'.toNat) (j := a.toNat + (r.toNat - 1)) (by omega) (by omega) (by rw [e2]; omega) (by rw [e1]; omega)
    rw [e1, e2] at this
    omega
theorem cond_core {α : Type} (A B : Prop) [Decidable A] [Decidable B] (h : A → B) (x y : α) : (if (!(decide A == decide B)) = true then if decide A = true then x else y else y) = y := by
  by_cases hA : A
  · have hB := h hA
    rw [if_neg (by simp [hA, hB])]
  · by_cases hB : B
    · rw [if_pos (by simp [hA, hB]), if_neg (by simp [hA])]
    · rw [if_neg (by simp [hA, hB])]
theorem ranges_c3 {b : List Int} {rs : List D_api_Piece} {cs : List D_bitloftref35_cell} (hb : b.length ≤ 1000) (hrs : rs.length ≤ 50) (hcs : cs.length ≤ 50000) (hgd : GD b cs) (s : List D_api_Piece) (hs : s.length ≤ 50)
    (hsv : ∀ p ∈ s, Sv7 rs (cs.map (fun c : D_bitloftref35_cell => c.2.1)) (b.length : Int) p) (hpw : s.Pairwise fun a c => (a.1 : Int) < c.1) (i : Nat) (hi : i < s.length) :
    ∀ (k j : Nat), j + k = i → bitloftlaw35_DamageRanges_c3 b rs true (cs.map (fun c : D_bitloftref35_cell => c.1)) (i : Int) (s.getD i Zp).1 (j : Int) s = bitloftlaw35_DamageRanges_c2 b rs true (cs.map (fun c : D_bitloftref35_cell => c.1)) ((i : Int) + 1) s
  | 0, j, e => by
    rw [bitloftlaw35_DamageRanges_c3_eq, if_neg (by simp; omega), w64 (by omega) (by omega)]
  | k + 1, j, e => by
    have ih := ranges_c3 hb hrs hcs hgd s hs hsv hpw i hi k (j + 1) (by omega)
    rw [show ((j + 1 : Nat) : Int) = (j : Int) + 1 by omega] at ih
    have hofs : Int.ofNat s.length = (s.length : Int) := rfl
    have hofr : Int.ofNat rs.length = (rs.length : Int) := rfl
    obtain ⟨m, m1, m2, m3, m4, m5, m6, m7⟩ := hsv _ (dropT Zp hi).2
    obtain ⟨q, q1, q2, q3, q4, q5, q6, q7⟩ := hsv _ (dropT Zp (show j < s.length by omega)).2
    have hlt : ((s.getD j Zp).1 : Int) < (s.getD i Zp).1 := by
      have := List.pairwise_iff_getElem.1 hpw j i (by omega) hi (by omega)
      have e : ∀ k (hk : k < s.length), s.getD k Zp = s[k] := fun k hk => by simp [List.getD_eq_getElem?_getD, List.getElem?_eq_getElem hk]
      rw [e j (by omega), e i hi]; exact this
    rw [List.length_map] at m6 q6
    rw [bitloftlaw35_DamageRanges_c3_eq, if_pos (by simp; omega), hofs, hofr]
    simp only [Nat.zero_add, Int.toNat_natCast]
    rw [gd_pos (by omega), gd_pos (by omega)]
    rw [gd_pos (show (0 : Int) ≤ (s.getD j Zp).1 by omega), gd_pos (show ((s.getD j Zp).1 : Int) < rs.length by omega), gd_pos (show (0 : Int) ≤ (s.getD i Zp).1 by omega), gd_pos (show ((s.getD i Zp).1 : Int) < rs.length by omega)]
    rw [gd_pos (by omega), gd_pos (by omega), if_neg (by simp only [decide_eq_true_eq]; show ¬ ((s.getD j Zp).1 : Int) ≥ (s.getD i Zp).1; omega), gd_pos (by omega), gd_pos (by omega), gd_pos (by omega), gd_pos (by omega), gd_pos (by omega), gd_pos (by omega)]
    refine Eq.trans (cond_core _ _ ?_ _ _) ?_
    · intro hA
      show IntKind.wrap .i64 ((s.getD j Zp).2.1 + (s.getD j Zp).2.2.1) ≤ (s.getD i Zp).2.1
      have hA' : IntKind.wrap .i64 ((rs.getD (Int.toNat (s.getD j Zp).1) Zp).2.1 + (rs.getD (Int.toNat (s.getD j Zp).1) Zp).2.2.1) ≤ (rs.getD (Int.toNat (s.getD i Zp).1) Zp).2.1 := hA
      rw [q2, m2, Int.toNat_natCast, Int.toNat_natCast] at hA'
      obtain ⟨g1, g2, g3⟩ := q3
      obtain ⟨g1', g2', g3'⟩ := m3
      rw [w64 (by omega) (by omega)] at hA'
      rw [q4, w64 (by omega) (by omega)]
      exact sv_apart hgd g2 g2' g1 g1' q5 m5 q6 m6 q7 m7 hA'
    · rw [w64 (by omega) (by omega)]; exact ih
theorem ranges_c2 {b : List Int} {rs : List D_api_Piece} {cs : List D_bitloftref35_cell} (hb : b.length ≤ 1000) (hrs : rs.length ≤ 50) (hcs : cs.length ≤ 50000) (hgd : GD b cs) (s : List D_api_Piece) (hs : s.length ≤ 50)
    (hsv : ∀ p ∈ s, Sv7 rs (cs.map (fun c : D_bitloftref35_cell => c.2.1)) (b.length : Int) p) (hpw : s.Pairwise fun a c => (a.1 : Int) < c.1) :
    ∀ (k i : Nat), i + k = s.length → bitloftlaw35_DamageRanges_c2 b rs true (cs.map (fun c : D_bitloftref35_cell => c.1)) (i : Int) s = some true
  | 0, i, e => by rw [bitloftlaw35_DamageRanges_c2_eq, if_neg (by simp; omega)]
  | k + 1, i, e => by
    have ih := ranges_c2 hb hrs hcs hgd s hs hsv hpw k (i + 1) (by omega)
    rw [show ((i + 1 : Nat) : Int) = (i : Int) + 1 by omega] at ih
    have hi : i < s.length := by omega
    have hc3 := ranges_c3 hb hrs hcs hgd s hs hsv hpw i hi i 0 (by omega)
    have hofs : Int.ofNat s.length = (s.length : Int) := rfl
    have hofr : Int.ofNat rs.length = (rs.length : Int) := rfl
    have hofb : Int.ofNat b.length = (b.length : Int) := rfl
    have hofx : Int.ofNat (cs.map (fun c : D_bitloftref35_cell => c.1)).length = (cs.length : Int) := by rw [List.length_map]; rfl
    obtain ⟨m, m1, m2, m3, m4, m5, m6, m7⟩ := hsv _ (dropT Zp hi).2
    rw [List.length_map] at m6
    rw [bitloftlaw35_DamageRanges_c2_eq, if_pos (by simp; omega), hofs, hofr, hofb, hofx]
    simp only [Nat.zero_add, Int.toNat_natCast]
    have hZ : (pzero T_api_Piece : D_api_Piece) = Zp := rfl
    rw [hZ]
    generalize hS : s.getD i Zp = S at *
    rw [m2] at hc3 ⊢
    rw [Int.toNat_natCast, m4]
    generalize hQ : rs.getD m Zp = Q at *
    obtain ⟨g1, g2, g3⟩ := m3
    have hm : ((m : Int)) < rs.length := by omega
    rw [gd_pos (by omega), gd_pos (by omega), if_neg (by simp only [decide_eq_true_eq]; omega), if_neg (by simp only [decide_eq_true_eq]; omega), gd_pos (by omega), gd_pos (by omega), gd_pos (by omega), gd_pos (by omega), if_neg (by simp),
      gd_pos (by omega), gd_pos (by omega), if_neg (by simp only [decide_eq_true_eq]; omega), gd_pos (by omega), gd_pos (by omega), gd_pos (by omega), gd_pos (by omega), w64 (x := (cs.length : Int) - Q.2.2.1) (by omega) (by omega),
      if_neg (by simp only [decide_eq_true_eq]; omega), w64 (x := (S.2.1 : Int) + Q.2.2.1) (by omega) (by omega), w64 (x := (Q.2.1 : Int) + Q.2.2.1) (by omega) (by omega)]
    iterate 18 (first | rw [gd_pos (by omega)] | skip)
    have hstr : List.take (Int.toNat (S.2.1 + Q.2.2.1) - Int.toNat S.2.1) (List.drop (Int.toNat S.2.1) (cs.map (fun c : D_bitloftref35_cell => c.1))) = List.take (Int.toNat (Q.2.1 + Q.2.2.1) - Int.toNat Q.2.1) (List.drop (Int.toNat Q.2.1) b) := by
      apply List.ext_getElem?
      intro t
      rw [List.getElem?_take, List.getElem?_take, List.getElem?_drop, List.getElem?_drop]
      by_cases ht : (t : Int) < Q.2.2.1
      · rw [if_pos (by omega), if_pos (by omega)]
        have h7 := m7 t ht
        have hj : Int.toNat S.2.1 + t < cs.length := by omega
        have hat := GD_at hgd hj
        rw [h7] at hat
        have hx := (hat.resolve_left (by omega)).2.2
        have e1 : ∀ (l : List Int) k, k < l.length → l[k]? = some (l.getD k 0) := fun l k hk => by simp [List.getD_eq_getElem?_getD, List.getElem?_eq_getElem hk]
        rw [e1 _ _ (by rw [List.length_map]; exact hj), e1 b _ (by omega), hx]
        congr 2; omega
      · rw [if_neg (by omega), if_neg (by omega)]
    rw [hstr, if_neg (by simp)]
    rw [show ((0 : Nat) : Int) = 0 from rfl] at hc3
    rw [hc3, ih]
theorem Range_spec (n : Int) (h0 : 0 ≤ n) (hn : n ≤ 50000) (p : D_api_Piece) : bitloftref35_Range n p = some (decide (RG n p)) := by
  rw [bitloftref35_Range_eq]
  unfold RG
  by_cases h1 : (p.2.1 : Int) ≥ 0
  · rw [if_pos (decide_eq_true h1)]
    by_cases h2 : (p.2.2.1 : Int) ≥ 1
    · rw [if_pos (decide_eq_true h2)]
      by_cases h3 : (p.2.2.1 : Int) ≤ n
      · rw [if_pos (decide_eq_true h3), w64 (by omega) (by omega)]
        refine congrArg some (decide_eq_decide.2 ⟨fun h => ⟨h1, h2, by omega⟩, fun h => by have := h.2.2; omega⟩)
      · rw [if_neg (by simp only [decide_eq_true_eq]; exact h3)]
        exact congrArg some (decide_eq_false (fun h => h3 (by have h5 := h.1; have h6 := h.2.2; omega))).symm
    · rw [if_neg (by simp only [decide_eq_true_eq]; exact h2)]
      exact congrArg some (decide_eq_false (fun h => h2 h.2.1)).symm
  · rw [if_neg (by simp only [decide_eq_true_eq]; exact h1)]
    exact congrArg some (decide_eq_false (fun h => h1 h.1)).symm
theorem ranges_c1 (b : List Int) (rs : List D_api_Piece) (l : List D_api_Harm) (hb : b.length ≤ 1000) (hrs : rs.length ≤ 50) (hc : chk35 l = 0) : ∀ (k i : Nat), i + k = rs.length → (∀ p ∈ rs.take i, RG (b.length : Int) p) → bitloftlaw35_DamageRanges_c1 b rs l true (i : Int) = some true
  | 0, i, e, hg => by
    have hofb : Int.ofNat b.length = (b.length : Int) := rfl
    rw [show rs.take i = rs from List.take_of_length_le (by omega)] at hg
    rw [bitloftlaw35_DamageRanges_c1_eq, if_neg (by simp; omega), hofb, Apply_spec, Survivors_spec]
    simp only [Option.bind_some]
    rcases both_ok hc (show b.length ≤ 50000 by omega) with ⟨h1, h2⟩ | ⟨cs, h1, h2, h3, h4, h5⟩
    · have hsrv : srv rs (b.length : Int) l = ([], 16) := by
        unfold srv; rw [h2, if_pos (by simp)]
      rw [h1, hsrv]; rfl
    · have hsrv : srv rs (b.length : Int) l = (lfs (cs.map (fun c : D_bitloftref35_cell => c.2.1)) rs 0, 0) := by
        unfold srv; rw [h2, if_neg (by simp), if_neg (by omega), if_pos hg]
      rw [h1, hsrv, if_neg (by simp), if_neg (by simp)]
      exact ranges_c2 hb hrs h5 h3 _ (by have := lfs_len (cs.map (fun c : D_bitloftref35_cell => c.2.1)) rs 0; omega) (fun p hp => lfs_sv hg hp) (lfs_pw _ _ _) (lfs (cs.map (fun c : D_bitloftref35_cell => c.2.1)) rs 0).length 0 (by omega)
  | k + 1, i, e, hg => by
    obtain ⟨d1, d2⟩ := dropT Zp (xs := rs) (i := i) (by omega)
    have ht := takeT Zp (xs := rs) (i := i) (by omega)
    have hofr : Int.ofNat rs.length = (rs.length : Int) := rfl
    have hofb : Int.ofNat b.length = (b.length : Int) := rfl
    have ih := ranges_c1 b rs l hb hrs hc k (i + 1) (by omega)
    rw [ht, show ((i + 1 : Nat) : Int) = (i : Int) + 1 by omega] at ih
    rw [bitloftlaw35_DamageRanges_c1_eq, if_pos (by simp; omega), gd_pos (by omega), gd_pos (by rw [hofr]; omega), Int.toNat_natCast, hofb, Range_spec _ (by omega) (by omega)]
    simp only [Option.bind_some]
    have hZ : (pzero T_api_Piece : D_api_Piece) = Zp := rfl
    rw [hZ]
    by_cases h : RG (b.length : Int) (rs.getD i Zp)
    · rw [decide_eq_true h, if_neg (by decide), w64 (by omega) (by omega)]
      exact ih (fun q hq => by
        rcases List.mem_append.1 hq with hq | hq
        · exact hg q hq
        · rw [List.mem_singleton.1 hq]; exact h)
    · rw [decide_eq_false h, if_pos (by decide)]
theorem bitloftlaw35_DamageRanges_true (x0 : List Int) (z0 : wfP (.slice (.int .u8)) x0) (x1 : List D_api_Piece) (z1 : wfP (.slice T_api_Piece) x1) (x2 : List D_api_Harm) (z2 : wfP (.slice T_api_Harm) x2) : bitloftlaw35_DamageRanges x0 x1 x2 = some true := by
  obtain ⟨g, hg⟩ := Great_spec x2 z2.1
  rw [bitloftlaw35_DamageRanges_eq, alive_spec]
  simp only [Option.bind_some, hg, ref_Check_spec]
  by_cases hb : 1000 < x0.length
  · rw [if_pos (by simp; omega)]
  · rw [if_neg (by simp; omega)]
    by_cases hr : 50 < x1.length
    · rw [if_pos (by simp; omega)]
    · rw [if_neg (by simp; omega)]
      cases g with
      | true => rw [if_pos rfl]
      | false =>
        rw [if_neg (by simp)]
        by_cases hc : chk35 x2 = 0
        · rw [if_neg (by rw [hc]; decide), if_neg (by simp)]
          exact ranges_c1 x0 x1 x2 (by omega) (by omega) hc x1.length 0 (by omega) (by simp)
        · rw [if_pos (bne_iff_ne.2 hc)]
end Go.Ab
