/-
  Plain laws of the printed functions.
-/
import Derived.Test.YtdhmnakopofmpaaGenTc
set_option linter.unusedVariables false
set_option linter.unusedSimpArgs false
set_option maxHeartbeats 1000000
namespace Go.Ab
attribute [local irreducible] IntKind.wrap
/-! ### 1. Scripts: valid harms -/
theorem dropT {α : Type} (z : α) {xs : List α} {i : Nat} (h : i < xs.length) : xs.drop i = xs.getD i z :: xs.drop (i + 1) ∧ xs.getD i z ∈ xs := by
  have e : xs.getD i z = xs[i] := by simp [List.getD_eq_getElem?_getD, List.getElem?_eq_getElem h]
  rw [e]
  exact ⟨List.drop_eq_getElem_cons h, List.getElem_mem h⟩
def HVc (k p n : Int) (m : Nat) : Prop :=
  0 ≤ p ∧ ((k = 1 ∧ 0 ≤ n ∧ n < 256 ∧ m = 0) ∨ (k = 2 ∧ 0 ≤ n ∧ m = 0) ∨ (k = 3 ∧ n = 0 ∧ m ≤ 200) ∨ (k = 4 ∧ n = 0 ∧ m = 0))
instance (k p n : Int) (m : Nat) : Decidable (HVc k p n m) := by unfold HVc; infer_instance
def HV (h : D_api_Harm) : Prop := HVc h.1 h.2.1 h.2.2.1 h.2.2.2.1.length
instance (h : D_api_Harm) : Decidable (HV h) := by unfold HV; infer_instance
theorem valid_core (k p n : Int) (m : Nat) : (if (k == (1 : Int)) = true then
    if (decide (p ≥ (0 : Int))) = true then
      if (decide (n ≥ (0 : Int))) = true then
        if (decide (n < (256 : Int))) = true then some ((Int.ofNat m) == (0 : Int)) else some (false)
      else some (false)
    else some (false)
  else
    if (k == (2 : Int)) = true then
      if (decide (p ≥ (0 : Int))) = true then
        if (decide (n ≥ (0 : Int))) = true then some ((Int.ofNat m) == (0 : Int)) else some (false)
      else some (false)
    else
      if (k == (3 : Int)) = true then
        if (decide (p ≥ (0 : Int))) = true then
          if (n == (0 : Int)) = true then some (decide ((Int.ofNat m) ≤ (200 : Int))) else some (false)
        else some (false)
      else
        if (k == (4 : Int)) = true then
          if (decide (p ≥ (0 : Int))) = true then
            if (n == (0 : Int)) = true then some ((Int.ofNat m) == (0 : Int)) else some (false)
          else some (false)
        else some (false)) = some (decide (HVc k p n m)) := by
  have hm : Int.ofNat m = (m : Int) := rfl
  simp only [decide_eq_true_eq, beq_iff_eq, hm]
  repeat' split
  all_goals
    refine congrArg some (Bool.eq_iff_iff.2 (Iff.trans ?_ decide_eq_true_iff.symm))
    unfold HVc
    simp only [decide_eq_true_eq, beq_iff_eq, bne_iff_ne, ne_eq, Bool.false_eq_true, false_iff] at *
    omega
theorem damage_valid_spec (h : D_api_Harm) : damage_valid h = some (decide (HV h)) := by
  rw [damage_valid_eq]; exact valid_core h.1 h.2.1 h.2.2.1 h.2.2.2.1.length
theorem rvalid_core (k p n : Int) (m : Nat) : (if (decide (p < (0 : Int))) = true then some (false)
  else
    if (decide ((Int.ofNat m) > (0 : Int))) = true then
      if (k != (3 : Int)) = true then some (false)
      else
        if (k == (1 : Int)) = true then
          if (decide (n ≥ (0 : Int))) = true then some (decide (n ≤ (255 : Int))) else some (false)
        else
          if (k == (2 : Int)) = true then some (decide (n ≥ (0 : Int)))
          else
            if (k == (3 : Int)) = true then
              if (n == (0 : Int)) = true then some (decide ((Int.ofNat m) ≤ (200 : Int))) else some (false)
            else
              if (k == (4 : Int)) = true then some (n == (0 : Int)) else some (false)
    else
      if (k == (1 : Int)) = true then
        if (decide (n ≥ (0 : Int))) = true then some (decide (n ≤ (255 : Int))) else some (false)
      else
        if (k == (2 : Int)) = true then some (decide (n ≥ (0 : Int)))
        else
          if (k == (3 : Int)) = true then
            if (n == (0 : Int)) = true then some (decide ((Int.ofNat m) ≤ (200 : Int))) else some (false)
          else
            if (k == (4 : Int)) = true then some (n == (0 : Int)) else some (false)) = some (decide (HVc k p n m)) := by
  have hm : Int.ofNat m = (m : Int) := rfl
  simp only [decide_eq_true_eq, beq_iff_eq, bne_iff_ne, hm]
  repeat' split
  all_goals
    refine congrArg some (Bool.eq_iff_iff.2 (Iff.trans ?_ decide_eq_true_iff.symm))
    unfold HVc
    simp only [decide_eq_true_eq, beq_iff_eq, bne_iff_ne, ne_eq, Bool.false_eq_true, false_iff] at *
    omega
theorem ref_valid_spec (h : D_api_Harm) : bitloftref35_valid h = some (decide (HV h)) := by
  rw [bitloftref35_valid_eq]; exact rvalid_core h.1 h.2.1 h.2.2.1 h.2.2.2.1.length
def chk35 (l : List D_api_Harm) : Int := if 20 < l.length then 4 else if ∀ h ∈ l, HV h then 0 else 8
theorem index_c1 (l : List D_api_Harm) (hl : l.length ≤ 20) : ∀ (k i : Nat), i + k = l.length → ∃ r : Int, slices_IndexFunc_api_Harm_api_Harm_c1 l (l.length : Int) (i : Int) = some r ∧ (0 ≤ r ↔ ¬ ∀ h ∈ l.drop i, HV h)
  | 0, i, e => ⟨-1, by rw [slices_IndexFunc_api_Harm_api_Harm_c1_eq, if_neg (by simp; omega)], by rw [List.drop_of_length_le (by omega)]; simp⟩
  | k + 1, i, e => by
    obtain ⟨d1, d2⟩ := dropT (pzero T_api_Harm : D_api_Harm) (xs := l) (i := i) (by omega)
    obtain ⟨r, h1, h2⟩ := index_c1 l hl k (i + 1) (by omega)
    rw [show ((i + 1 : Nat) : Int) = (i : Int) + 1 by omega] at h1
    have hl' : Int.ofNat l.length = (l.length : Int) := rfl
    rw [slices_IndexFunc_api_Harm_api_Harm_c1_eq, if_pos (by simp; omega), gd_pos (by omega), gd_pos (by rw [hl']; omega), Int.toNat_natCast, damage_Check_1_eq, damage_valid_spec, d1]
    generalize List.getD l i (pzero T_api_Harm) = h at *
    simp only [Option.bind_some, List.forall_mem_cons]
    by_cases hv : HV h
    · rw [if_neg (by simp [hv]), w64 (by omega) (by omega), h1]
      exact ⟨r, rfl, by simp only [hv, true_and]; exact h2⟩
    · rw [if_pos (by simp [hv])]
      exact ⟨i, rfl, by simp [hv]⟩
theorem damage_Check_spec (l : List D_api_Harm) : damage_Check l = some (chk35 l) := by
  have hl' : Int.ofNat l.length = (l.length : Int) := rfl
  rw [damage_Check_eq]
  unfold chk35
  by_cases h : 20 < l.length
  · rw [if_pos (by simp; omega), if_pos h]
  · rw [if_neg (by simp; omega), if_neg h, slices_ContainsFunc_api_Harm_api_Harm_eq, slices_IndexFunc_api_Harm_api_Harm_eq]
    obtain ⟨r, h1, h2⟩ := index_c1 l (by omega) l.length 0 (by omega)
    rw [hl', show (0 : Int) = ((0 : Nat) : Int) from rfl, h1]
    rw [List.drop_zero] at h2
    simp only [Option.bind_some]
    by_cases hv : ∀ h ∈ l, HV h
    · rw [if_neg (by simp only [decide_eq_true_eq]; exact fun h3 => (h2.1 h3) hv), if_pos hv]
    · rw [if_pos (by simp only [decide_eq_true_eq]; exact h2.2 hv), if_neg hv]
theorem rcheck_c1 (l : List D_api_Harm) (hl : l.length ≤ 20) : ∀ (k i : Nat), i + k = l.length → bitloftref35_Check_c1 l (i : Int) = some (if ∀ h ∈ l.drop i, HV h then 0 else 8)
  | 0, i, e => by rw [bitloftref35_Check_c1_eq, if_neg (by simp; omega), List.drop_of_length_le (by omega), if_pos (by simp)]
  | k + 1, i, e => by
    obtain ⟨d1, d2⟩ := dropT (pzero T_api_Harm : D_api_Harm) (xs := l) (i := i) (by omega)
    have h1 := rcheck_c1 l hl k (i + 1) (by omega)
    rw [show ((i + 1 : Nat) : Int) = (i : Int) + 1 by omega] at h1
    have hl' : Int.ofNat l.length = (l.length : Int) := rfl
    rw [bitloftref35_Check_c1_eq, if_pos (by simp; omega), gd_pos (by omega), gd_pos (by rw [hl']; omega), Int.toNat_natCast, ref_valid_spec, d1]
    generalize List.getD l i (pzero T_api_Harm) = h at *
    simp only [Option.bind_some, List.forall_mem_cons]
    by_cases hv : HV h
    · rw [if_neg (by simp [hv]), w64 (by omega) (by omega), h1]
      simp only [hv, true_and]
    · rw [if_pos (by simp [hv]), if_neg (fun h3 => hv h3.1)]
theorem ref_Check_spec (l : List D_api_Harm) : bitloftref35_Check l = some (chk35 l) := by
  rw [bitloftref35_Check_eq]
  unfold chk35
  by_cases h : 20 < l.length
  · rw [if_pos (by simp; omega), if_pos h]
  · have h1 := rcheck_c1 l (by omega) l.length 0 (by omega)
    rw [List.drop_zero] at h1
    rw [if_neg (by simp; omega), if_neg h]
    exact h1
/-! ### 2. What harms leave -/
def st {α : Type} (f : Int → α) (l : List α) (h : D_api_Harm) : Option (List α) :=
  if h.1 = 1 then if h.2.1 < l.length then some (l.set h.2.1.toNat (f h.2.2.1)) else none
  else if h.1 = 2 then if h.2.1 ≤ l.length ∧ h.2.2.1 ≤ l.length - h.2.1 then some (l.take h.2.1.toNat ++ l.drop (h.2.1 + h.2.2.1).toNat) else none
  else if h.1 = 3 then if h.2.1 ≤ l.length ∧ l.length + (h.2.2.2.1.length : Int) ≤ 50000 then some (l.take h.2.1.toNat ++ h.2.2.2.1.map f ++ l.drop h.2.1.toNat) else none
  else if h.2.1 ≤ l.length then some (l.take h.2.1.toNat) else none
def sts {α : Type} (f : Int → α) : List α → List D_api_Harm → Option (List α)
  | l, [] => some l
  | l, h :: r => (st f l h).bind fun l' => sts f l' r
theorem sts_append {α : Type} (f : Int → α) : ∀ (l : List α) (a b : List D_api_Harm), sts f l (a ++ b) = (sts f l a).bind fun l' => sts f l' b
  | l, [], b => rfl
  | l, h :: r, b => by
    simp only [List.cons_append, sts]
    cases st f l h with
    | none => rfl
    | some l' => exact sts_append f l' r b
theorem st_map {α β : Type} (f : Int → α) (g : α → β) (l : List α) (h : D_api_Harm) : (st f l h).map (List.map g) = st (fun x => g (f x)) (l.map g) h := by
  unfold st
  simp only [List.length_map]
  repeat' split
  all_goals simp [List.map_set, List.map_take, List.map_drop]
theorem sts_map {α β : Type} (f : Int → α) (g : α → β) : ∀ (l : List α) (hs : List D_api_Harm), (sts f l hs).map (List.map g) = sts (fun x => g (f x)) (l.map g) hs
  | l, [] => rfl
  | l, h :: r => by
    simp only [sts]
    rw [← st_map]
    cases st f l h with
    | none => rfl
    | some l' => exact sts_map f g l' r
theorem st_len {α : Type} {f : Int → α} {l l' : List α} {h : D_api_Harm} (hv : HV h) (hl : l.length ≤ 50000) (e : st f l h = some l') : l'.length ≤ 50000 := by
  unfold st at e
  have h0 := hv.1
  have h2 : h.1 = 2 → (0 : Int) ≤ h.2.2.1 := fun hk => by
    rcases hv.2 with hh | hh | hh | hh
    · exact hh.2.1
    · exact hh.2.1
    · rw [hh.2.1]; decide
    · rw [hh.2.1]; decide
  repeat' split at e
  all_goals first | (injection e with e; subst e; simp only [List.length_set, List.length_append, List.length_take, List.length_drop, List.length_map]; omega) | cases e | (injection e with e; subst e; simp only [List.length_append, List.length_take, List.length_drop]; have h3 := h2 (by assumption); omega)
theorem sts_len {α : Type} {f : Int → α} : ∀ {l l' : List α} {hs : List D_api_Harm}, (∀ h ∈ hs, HV h) → l.length ≤ 50000 → sts f l hs = some l' → l'.length ≤ 50000
  | l, l', [], _, hl, e => by injection e with e; subst e; exact hl
  | l, l', h :: r, hv, hl, e => by
    simp only [sts] at e
    cases h1 : st f l h with
    | none => rw [h1] at e; cases e
    | some l1 => rw [h1] at e; exact sts_len (fun h hh => hv h (List.mem_cons_of_mem _ hh)) (st_len (hv h List.mem_cons_self) hl h1) e
end Go.Ab

set_option linter.unusedVariables false
set_option linter.unusedSimpArgs false
set_option maxHeartbeats 1000000
namespace Go.Ab
attribute [local irreducible] IntKind.wrap
theorem takeT {α : Type} (z : α) {xs : List α} {i : Nat} (h : i < xs.length) : xs.take (i + 1) = xs.take i ++ [xs.getD i z] := by
  have e : xs.getD i z = xs[i] := by simp [List.getD_eq_getElem?_getD, List.getElem?_eq_getElem h]
  rw [e, List.take_add_one, List.getElem?_eq_getElem h]; rfl
theorem u8id {n : Int} (h0 : 0 ≤ n) (h1 : n < 256) : IntKind.wrap .u8 n = n := by rw [wu8, Int.emod_eq_of_lt h0 h1]
def ps (n : Int) (h : D_api_Harm) : Prop := (h.1 = 1 ∧ h.2.1 < n) ∨ (h.1 = 2 ∧ h.2.1 ≤ n ∧ h.2.2.1 ≤ n - h.2.1) ∨ (h.1 = 3 ∧ h.2.1 ≤ n ∧ n + (h.2.2.2.1.length : Int) ≤ 50000) ∨ (h.1 = 4 ∧ h.2.1 ≤ n)
instance (n : Int) (h : D_api_Harm) : Decidable (ps n h) := by unfold ps; infer_instance
theorem possible_spec {n : Int} {h : D_api_Harm} (hv : HV h) (h0 : 0 ≤ n) (h1 : n ≤ 50000) : damage_possible n h = some (decide (ps n h)) := by
  rw [damage_possible_eq]
  obtain ⟨hp, hv⟩ := hv
  have hof : Int.ofNat h.2.2.2.1.length = (h.2.2.2.1.length : Int) := rfl
  rcases hv with ⟨hk, hn0, hn1, hm⟩ | ⟨hk, hn0, hm⟩ | ⟨hk, hn0, hm⟩ | ⟨hk, hn0, hm⟩
  · rw [if_pos (by rw [hk]; rfl)]
    refine congrArg some (decide_eq_decide.2 ?_)
    unfold ps
    rw [hk]
    simp
  · rw [if_neg (by rw [hk]; decide), if_pos (by rw [hk]; rfl)]
    have e : ps n h ↔ (h.2.1 ≤ n ∧ h.2.2.1 ≤ n - h.2.1) := by unfold ps; rw [hk]; simp
    by_cases h2 : h.2.1 ≤ n
    · rw [if_pos (decide_eq_true h2), w64 (by omega) (by omega)]
      refine congrArg some (decide_eq_decide.2 ?_)
      rw [e]
      exact ⟨fun h => ⟨h2, h⟩, fun h => h.2⟩
    · rw [if_neg (by simp only [decide_eq_true_eq]; exact h2)]
      refine congrArg some (decide_eq_false ?_).symm
      rw [e]; exact fun h => h2 h.1
  · rw [if_neg (by rw [hk]; decide), if_neg (by rw [hk]; decide), if_pos (by rw [hk]; rfl), hof]
    have e : ps n h ↔ (h.2.1 ≤ n ∧ n + (h.2.2.2.1.length : Int) ≤ 50000) := by unfold ps; rw [hk]; simp
    by_cases h2 : h.2.1 ≤ n
    · rw [if_pos (decide_eq_true h2), w64 (by omega) (by omega)]
      refine congrArg some (decide_eq_decide.2 ?_)
      rw [e]
      exact ⟨fun h => ⟨h2, h⟩, fun h => h.2⟩
    · rw [if_neg (by simp only [decide_eq_true_eq]; exact h2)]
      refine congrArg some (decide_eq_false ?_).symm
      rw [e]; exact fun h => h2 h.1
  · rw [if_neg (by rw [hk]; decide), if_neg (by rw [hk]; decide), if_neg (by rw [hk]; decide)]
    refine congrArg some (decide_eq_decide.2 ?_)
    unfold ps
    rw [hk]
    simp
theorem ps1 {n : Int} {h : D_api_Harm} (hk : h.1 = 1) (hp : ps n h) : h.2.1 < n := by
  unfold ps at hp; rw [hk] at hp; simpa using hp
theorem ps2 {n : Int} {h : D_api_Harm} (hk : h.1 = 2) (hp : ps n h) : h.2.1 ≤ n ∧ h.2.2.1 ≤ n - h.2.1 := by
  unfold ps at hp; rw [hk] at hp; simpa using hp
theorem ps3 {n : Int} {h : D_api_Harm} (hk : h.1 = 3) (hp : ps n h) : h.2.1 ≤ n ∧ n + (h.2.2.2.1.length : Int) ≤ 50000 := by
  unfold ps at hp; rw [hk] at hp; simpa using hp
theorem ps4 {n : Int} {h : D_api_Harm} (hk : h.1 = 4) (hp : ps n h) : h.2.1 ≤ n := by
  unfold ps at hp; rw [hk] at hp; simpa using hp
section
variable {α : Type} (f : Int → α) (l : List α) {h : D_api_Harm}
theorem st1 (hk : h.1 = 1) (hq : h.2.1 < (l.length : Int)) : st f l h = some (l.set h.2.1.toNat (f h.2.2.1)) := by
  unfold st; rw [if_pos hk, if_pos hq]
theorem st2 (hk : h.1 = 2) (hq : h.2.1 ≤ (l.length : Int) ∧ h.2.2.1 ≤ (l.length : Int) - h.2.1) : st f l h = some (l.take h.2.1.toNat ++ l.drop (h.2.1 + h.2.2.1).toNat) := by
  unfold st; rw [if_neg (by rw [hk]; decide), if_pos hk, if_pos hq]
theorem st3 (hk : h.1 = 3) (hq : h.2.1 ≤ (l.length : Int) ∧ (l.length : Int) + (h.2.2.2.1.length : Int) ≤ 50000) : st f l h = some (l.take h.2.1.toNat ++ h.2.2.2.1.map f ++ l.drop h.2.1.toNat) := by
  unfold st; rw [if_neg (by rw [hk]; decide), if_neg (by rw [hk]; decide), if_pos hk, if_pos hq]
theorem st4 (hk : h.1 = 4) (hq : h.2.1 ≤ (l.length : Int)) : st f l h = some (l.take h.2.1.toNat) := by
  unfold st; rw [if_neg (by rw [hk]; decide), if_neg (by rw [hk]; decide), if_neg (by rw [hk]; decide), if_pos hq]
theorem stN (hv : HV h) (hp : ¬ ps (l.length : Int) h) : st f l h = none := by
  unfold ps at hp
  unfold st
  rcases hv.2 with ⟨hk, _⟩ | ⟨hk, _⟩ | ⟨hk, _⟩ | ⟨hk, _⟩ <;> rw [hk] at hp ⊢ <;> simp only [true_and, false_and, or_false, false_or, reduceCtorEq, Int.reduceEq] at hp ⊢
  · rw [if_pos trivial, if_neg hp]
  · rw [if_neg (by decide), if_pos trivial, if_neg hp]
  · rw [if_neg (by decide), if_neg (by decide), if_pos trivial, if_neg hp]
  · rw [if_neg (by decide), if_neg (by decide), if_neg (by decide), if_neg hp]
end
def outp : Option (List Int) → List Int × Int
  | some r => (r, 0)
  | none => ([], 16)

def fB : Int → Int := fun x => x
theorem putB (x : Int) : damage_Apply_1 x = some (fB x) := by rw [damage_Apply_1_eq]; rfl
theorem cloneB (l : List Int) (hl : l.length ≤ 50000) : slices_Clone_byte_byte l = some l := by
  rw [slices_Clone_byte_byte_eq]
  refine anyv_eq false (fun h => by cases h) fun r hr => ?_
  cases r with
  | true => rw [if_pos rfl, hr rfl]
  | false => rw [if_neg (by simp), gd_pos (by simp; omega)]; rfl
theorem delB {l : List Int} {p n : Int} (hp : 0 ≤ p) (hn : 0 ≤ n) (h : p + n ≤ l.length) (hl : l.length ≤ 50000) : slices_Delete_u8 l p (IntKind.wrap .i64 (p + n)) = some (l.take p.toNat ++ l.drop (p + n).toNat) := by
  rw [w64 (by omega) (by omega)]
  unfold slices_Delete_u8
  rw [if_pos (by omega)]
theorem insB {l bs : List Int} {p : Int} (hp : 0 ≤ p) (h : p ≤ l.length) (hl : l.length ≤ 50000) (hb : bs.length ≤ 200) : slices_Insert_u8 l p bs = some (l.take p.toNat ++ bs ++ l.drop p.toNat) := by
  unfold slices_Insert_u8
  rw [if_pos (by omega)]
theorem damage_do_byte_c2s (hs : List D_api_Harm) (a b : Int) (bs : List Int) (hb : bs.length ≤ 200) (l : List Int) (h : D_api_Harm) : ∀ (k j : Nat), j + k = bs.length →
    damage_do_byte_c2 hs a b bs (bs.length : Int) (j : Int) l h ((bs.take j).map fB) = (slices_Insert_u8 l h.2.1 (bs.map fB)).bind fun r => damage_do_byte_c1 hs a (IntKind.wrap .i64 (b + 1)) r
  | 0, j, e => by rw [damage_do_byte_c2_eq, if_neg (by simp; omega), show bs.take j = bs from List.take_of_length_le (by omega)]
  | k + 1, j, e => by
    have ih := damage_do_byte_c2s hs a b bs hb l h k (j + 1) (by omega)
    rw [show ((j + 1 : Nat) : Int) = (j : Int) + 1 by omega] at ih
    have hz : (bs.take j).map fB ++ [fB (List.getD bs j 0)] = (bs.take (j + 1)).map fB := by
      rw [takeT (0 : Int) (show j < bs.length by omega), List.map_append]; rfl
    rw [damage_do_byte_c2_eq, if_pos (by simp; omega), gd_pos (by omega), gd_pos (by simp; omega), Int.toNat_natCast, putB]
    simp only [Option.bind_some]
    rw [hz, gd_pos (by rw [List.length_map, List.length_take]; omega), w64 (by omega) (by omega), ih]
theorem damage_do_byte_c4s (o n : Nat) (hs : List D_api_Harm) (a b : Int) (bs : List Int) (hb : bs.length ≤ 200) (l : List Int) (h : D_api_Harm) : ∀ (k j : Nat), j + k = bs.length →
    damage_do_byte_c4 o n hs a b bs (bs.length : Int) (j : Int) l h ((bs.take j).map fB) = (slices_Insert_u8 (List.take n (List.drop o l)) h.2.1 (bs.map fB)).bind fun r => damage_do_byte_c1 hs a (IntKind.wrap .i64 (b + 1)) r
  | 0, j, e => by rw [damage_do_byte_c4_eq, if_neg (by simp; omega), show bs.take j = bs from List.take_of_length_le (by omega)]
  | k + 1, j, e => by
    have ih := damage_do_byte_c4s o n hs a b bs hb l h k (j + 1) (by omega)
    rw [show ((j + 1 : Nat) : Int) = (j : Int) + 1 by omega] at ih
    have hz : (bs.take j).map fB ++ [fB (List.getD bs j 0)] = (bs.take (j + 1)).map fB := by
      rw [takeT (0 : Int) (show j < bs.length by omega), List.map_append]; rfl
    rw [damage_do_byte_c4_eq, if_pos (by simp; omega), gd_pos (by omega), gd_pos (by simp; omega), Int.toNat_natCast, putB]
    simp only [Option.bind_some]
    rw [hz, gd_pos (by rw [List.length_map, List.length_take]; omega), w64 (by omega) (by omega), ih]
theorem damage_do_byte_loops (hs : List D_api_Harm) (hl : hs.length ≤ 20) (hv : ∀ h ∈ hs, HV h) : ∀ (k i : Nat), i + k = hs.length →
    (∀ l : List Int, l.length ≤ 50000 → damage_do_byte_c1 hs (hs.length : Int) (i : Int) l = some (outp (sts fB l (hs.drop i)))) ∧
    (∀ (o n : Nat) (l : List Int), o + n ≤ l.length → n ≤ 50000 → damage_do_byte_c3 o n hs (hs.length : Int) (i : Int) l = some (outp (sts fB (List.take n (List.drop o l)) (hs.drop i))))
  | 0, i, e => by
    constructor
    · intro l h1
      rw [damage_do_byte_c1_eq, if_neg (by simp; omega), show hs.drop i = [] from List.drop_of_length_le (by omega)]; rfl
    · intro o n l h1 h2
      rw [damage_do_byte_c3_eq, if_neg (by simp; omega), show hs.drop i = [] from List.drop_of_length_le (by omega)]; rfl
  | k + 1, i, e => by
    obtain ⟨d1, d2⟩ := dropT (pzero T_api_Harm : D_api_Harm) (xs := hs) (i := i) (by omega)
    obtain ⟨ih1, ih3⟩ := damage_do_byte_loops hs hl hv k (i + 1) (by omega)
    have hl' : Int.ofNat hs.length = (hs.length : Int) := rfl
    have hi : ((i + 1 : Nat) : Int) = (i : Int) + 1 := by omega
    rw [hi] at ih1 ih3
    have hvh := hv _ d2
    rw [d1]
    constructor
    · intro l h1
      have hll : Int.ofNat l.length = (l.length : Int) := rfl
      rw [damage_do_byte_c1_eq, if_pos (by simp; omega), gd_pos (by omega), gd_pos (by rw [hl']; omega), Int.toNat_natCast, hll]
      generalize List.getD hs i (pzero T_api_Harm) = h at *
      rw [possible_spec hvh (by omega) (by omega)]
      simp only [Option.bind_some, sts]
      by_cases hp : ps (l.length : Int) h
      · rw [if_neg (by simp [hp])]
        rcases hvh.2 with ⟨hk, hn0, hn1, hm⟩ | ⟨hk, hn0, hm⟩ | ⟨hk, hn0, hm⟩ | ⟨hk, hn0, hm⟩
        · have hq := ps1 hk hp
          rw [if_pos (by rw [hk]; rfl), putB]
          simp only [Option.bind_some]
          rw [gd_pos hvh.1, gd_pos hq, w64 (by omega) (by omega), Nat.zero_add, u8id hn0 hn1, st1 _ _ hk hq, ih1 _ (by rw [List.length_set]; exact h1)]; rfl
        · have hq := ps2 hk hp
          rw [if_neg (by rw [hk]; decide), if_pos (by rw [hk]; rfl), delB hvh.1 hn0 (by omega) h1]
          simp only [Option.bind_some]
          have h2 := st2 fB l hk hq
          rw [w64 (by omega) (by omega), ih1 _ (st_len hvh h1 h2), h2]; rfl
        · have hq := ps3 hk hp
          have hc2 := damage_do_byte_c2s hs (hs.length : Int) (i : Int) h.2.2.2.1 hm l h h.2.2.2.1.length 0 (by omega)
          have h2 := st3 fB l hk hq
          rw [if_neg (by rw [hk]; decide), if_neg (by rw [hk]; decide), if_pos (by rw [hk]; rfl)]
          refine Eq.trans hc2 ?_
          rw [insB hvh.1 hq.1 h1 (by rw [List.length_map]; exact hm)]
          simp only [Option.bind_some]
          rw [w64 (by omega) (by omega), ih1 _ (st_len hvh h1 h2), h2]; rfl
        · have hq := ps4 hk hp
          rw [if_neg (by rw [hk]; decide), if_neg (by rw [hk]; decide), if_neg (by rw [hk]; decide), if_pos (by rw [hk]; rfl), gd_pos hvh.1, gd_pos hq, w64 (by omega) (by omega), st4 _ _ hk hq, Nat.sub_zero,
            ih3 0 _ l (by have := hq; have := hvh.1; omega) (by have := hq; have := hvh.1; omega)]; rfl
      · rw [if_pos (by simp [hp]), stN _ _ hvh hp]; rfl
    · intro o n l hon h1
      have hll : Int.ofNat n = (n : Int) := rfl
      have hzl : (List.take n (List.drop o l)).length = n := by rw [List.length_take, List.length_drop]; omega
      rw [damage_do_byte_c3_eq, if_pos (by simp; omega), gd_pos (by omega), gd_pos (by rw [hl']; omega), Int.toNat_natCast, hll]
      generalize List.getD hs i (pzero T_api_Harm) = h at *
      rw [possible_spec hvh (by omega) (by omega)]
      simp only [Option.bind_some, sts]
      generalize hz : List.take n (List.drop o l) = z at *
      rw [show (n : Int) = (z.length : Int) by rw [hzl]]
      have h1' : z.length ≤ 50000 := by omega
      by_cases hp : ps (z.length : Int) h
      · rw [if_neg (by simp [hp])]
        rcases hvh.2 with ⟨hk, hn0, hn1, hm⟩ | ⟨hk, hn0, hm⟩ | ⟨hk, hn0, hm⟩ | ⟨hk, hn0, hm⟩
        · have hq := ps1 hk hp
          rw [if_pos (by rw [hk]; rfl), putB]
          simp only [Option.bind_some]
          rw [gd_pos hvh.1, gd_pos hq, w64 (by omega) (by omega), u8id hn0 hn1, st1 _ _ hk hq, ih3 _ _ _ (by rw [List.length_set]; exact hon) h1, List.drop_set, if_neg (by omega), Nat.add_sub_cancel_left, List.take_set, hz]; rfl
        · have hq := ps2 hk hp
          rw [if_neg (by rw [hk]; decide), if_pos (by rw [hk]; rfl), delB hvh.1 hn0 (by omega) h1']
          simp only [Option.bind_some]
          have h2 := st2 fB z hk hq
          rw [w64 (by omega) (by omega), ih1 _ (st_len hvh h1' h2), h2]; rfl
        · have hq := ps3 hk hp
          have hc2 := damage_do_byte_c4s o n hs (hs.length : Int) (i : Int) h.2.2.2.1 hm l h h.2.2.2.1.length 0 (by omega)
          have h2 := st3 fB z hk hq
          rw [hz] at hc2
          rw [if_neg (by rw [hk]; decide), if_neg (by rw [hk]; decide), if_pos (by rw [hk]; rfl)]
          refine Eq.trans hc2 ?_
          rw [insB hvh.1 hq.1 h1' (by rw [List.length_map]; exact hm)]
          simp only [Option.bind_some]
          rw [w64 (by omega) (by omega), ih1 _ (st_len hvh h1' h2), h2]; rfl
        · have hq := ps4 hk hp
          rw [if_neg (by rw [hk]; decide), if_neg (by rw [hk]; decide), if_neg (by rw [hk]; decide), if_pos (by rw [hk]; rfl), gd_pos hvh.1, gd_pos hq, w64 (by omega) (by omega), st4 _ _ hk hq, Nat.sub_zero, Nat.add_zero,
            ih3 o _ l (by have := hq; have := hvh.1; omega) (by have := hq; have := hvh.1; omega), ← hz, List.take_take, Nat.min_eq_left (by have := hq; have := hvh.1; omega)]; rfl
      · rw [if_pos (by simp [hp]), stN _ _ hvh hp]; rfl
theorem damage_do_byte_spec (l : List Int) (hs : List D_api_Harm) (hl : hs.length ≤ 20) (hv : ∀ h ∈ hs, HV h) (h1 : l.length ≤ 50000) : damage_do_byte l hs = some (outp (sts fB l hs)) := by
  rw [damage_do_byte_eq, cloneB l h1]
  exact (damage_do_byte_loops hs hl hv hs.length 0 (by omega)).1 l h1

def fI : Int → Int := fun _ => -1
theorem putI (x : Int) : damage_Origins_1 x = some (fI x) := by rw [damage_Origins_1_eq]; rfl
theorem cloneI (l : List Int) (hl : l.length ≤ 50000) : slices_Clone_int_int l = some l := by
  rw [slices_Clone_int_int_eq]
  refine anyv_eq false (fun h => by cases h) fun r hr => ?_
  cases r with
  | true => rw [if_pos rfl, hr rfl]
  | false => rw [if_neg (by simp), gd_pos (by simp; omega)]; rfl
theorem delI {l : List Int} {p n : Int} (hp : 0 ≤ p) (hn : 0 ≤ n) (h : p + n ≤ l.length) (hl : l.length ≤ 50000) : slices_Delete_i64 l p (IntKind.wrap .i64 (p + n)) = some (l.take p.toNat ++ l.drop (p + n).toNat) := by
  rw [w64 (by omega) (by omega)]
  unfold slices_Delete_i64
  rw [if_pos (by omega)]
theorem insI {l bs : List Int} {p : Int} (hp : 0 ≤ p) (h : p ≤ l.length) (hl : l.length ≤ 50000) (hb : bs.length ≤ 200) : slices_Insert_i64 l p bs = some (l.take p.toNat ++ bs ++ l.drop p.toNat) := by
  unfold slices_Insert_i64
  rw [if_pos (by omega)]
theorem damage_do_int_c2s (hs : List D_api_Harm) (a b : Int) (bs : List Int) (hb : bs.length ≤ 200) (l : List Int) (h : D_api_Harm) : ∀ (k j : Nat), j + k = bs.length →
    damage_do_int_c2 hs a b bs (bs.length : Int) (j : Int) l h ((bs.take j).map fI) = (slices_Insert_i64 l h.2.1 (bs.map fI)).bind fun r => damage_do_int_c1 hs a (IntKind.wrap .i64 (b + 1)) r
  | 0, j, e => by rw [damage_do_int_c2_eq, if_neg (by simp; omega), show bs.take j = bs from List.take_of_length_le (by omega)]
  | k + 1, j, e => by
    have ih := damage_do_int_c2s hs a b bs hb l h k (j + 1) (by omega)
    rw [show ((j + 1 : Nat) : Int) = (j : Int) + 1 by omega] at ih
    have hz : (bs.take j).map fI ++ [fI (List.getD bs j 0)] = (bs.take (j + 1)).map fI := by
      rw [takeT (0 : Int) (show j < bs.length by omega), List.map_append]; rfl
    rw [damage_do_int_c2_eq, if_pos (by simp; omega), gd_pos (by omega), gd_pos (by simp; omega), Int.toNat_natCast, putI]
    simp only [Option.bind_some]
    rw [hz, gd_pos (by rw [List.length_map, List.length_take]; omega), w64 (by omega) (by omega), ih]
theorem damage_do_int_c4s (o n : Nat) (hs : List D_api_Harm) (a b : Int) (bs : List Int) (hb : bs.length ≤ 200) (l : List Int) (h : D_api_Harm) : ∀ (k j : Nat), j + k = bs.length →
    damage_do_int_c4 o n hs a b bs (bs.length : Int) (j : Int) l h ((bs.take j).map fI) = (slices_Insert_i64 (List.take n (List.drop o l)) h.2.1 (bs.map fI)).bind fun r => damage_do_int_c1 hs a (IntKind.wrap .i64 (b + 1)) r
  | 0, j, e => by rw [damage_do_int_c4_eq, if_neg (by simp; omega), show bs.take j = bs from List.take_of_length_le (by omega)]
  | k + 1, j, e => by
    have ih := damage_do_int_c4s o n hs a b bs hb l h k (j + 1) (by omega)
    rw [show ((j + 1 : Nat) : Int) = (j : Int) + 1 by omega] at ih
    have hz : (bs.take j).map fI ++ [fI (List.getD bs j 0)] = (bs.take (j + 1)).map fI := by
      rw [takeT (0 : Int) (show j < bs.length by omega), List.map_append]; rfl
    rw [damage_do_int_c4_eq, if_pos (by simp; omega), gd_pos (by omega), gd_pos (by simp; omega), Int.toNat_natCast, putI]
    simp only [Option.bind_some]
    rw [hz, gd_pos (by rw [List.length_map, List.length_take]; omega), w64 (by omega) (by omega), ih]
theorem damage_do_int_loops (hs : List D_api_Harm) (hl : hs.length ≤ 20) (hv : ∀ h ∈ hs, HV h) : ∀ (k i : Nat), i + k = hs.length →
    (∀ l : List Int, l.length ≤ 50000 → damage_do_int_c1 hs (hs.length : Int) (i : Int) l = some (outp (sts fI l (hs.drop i)))) ∧
    (∀ (o n : Nat) (l : List Int), o + n ≤ l.length → n ≤ 50000 → damage_do_int_c3 o n hs (hs.length : Int) (i : Int) l = some (outp (sts fI (List.take n (List.drop o l)) (hs.drop i))))
  | 0, i, e => by
    constructor
    · intro l h1
      rw [damage_do_int_c1_eq, if_neg (by simp; omega), show hs.drop i = [] from List.drop_of_length_le (by omega)]; rfl
    · intro o n l h1 h2
      rw [damage_do_int_c3_eq, if_neg (by simp; omega), show hs.drop i = [] from List.drop_of_length_le (by omega)]; rfl
  | k + 1, i, e => by
    obtain ⟨d1, d2⟩ := dropT (pzero T_api_Harm : D_api_Harm) (xs := hs) (i := i) (by omega)
    obtain ⟨ih1, ih3⟩ := damage_do_int_loops hs hl hv k (i + 1) (by omega)
    have hl' : Int.ofNat hs.length = (hs.length : Int) := rfl
    have hi : ((i + 1 : Nat) : Int) = (i : Int) + 1 := by omega
    rw [hi] at ih1 ih3
    have hvh := hv _ d2
    rw [d1]
    constructor
    · intro l h1
      have hll : Int.ofNat l.length = (l.length : Int) := rfl
      rw [damage_do_int_c1_eq, if_pos (by simp; omega), gd_pos (by omega), gd_pos (by rw [hl']; omega), Int.toNat_natCast, hll]
      generalize List.getD hs i (pzero T_api_Harm) = h at *
      rw [possible_spec hvh (by omega) (by omega)]
      simp only [Option.bind_some, sts]
      by_cases hp : ps (l.length : Int) h
      · rw [if_neg (by simp [hp])]
        rcases hvh.2 with ⟨hk, hn0, hn1, hm⟩ | ⟨hk, hn0, hm⟩ | ⟨hk, hn0, hm⟩ | ⟨hk, hn0, hm⟩
        · have hq := ps1 hk hp
          rw [if_pos (by rw [hk]; rfl), putI]
          simp only [Option.bind_some]
          rw [gd_pos hvh.1, gd_pos hq, w64 (by omega) (by omega), Nat.zero_add, u8id hn0 hn1, st1 _ _ hk hq, ih1 _ (by rw [List.length_set]; exact h1)]; rfl
        · have hq := ps2 hk hp
          rw [if_neg (by rw [hk]; decide), if_pos (by rw [hk]; rfl), delI hvh.1 hn0 (by omega) h1]
          simp only [Option.bind_some]
          have h2 := st2 fI l hk hq
          rw [w64 (by omega) (by omega), ih1 _ (st_len hvh h1 h2), h2]; rfl
        · have hq := ps3 hk hp
          have hc2 := damage_do_int_c2s hs (hs.length : Int) (i : Int) h.2.2.2.1 hm l h h.2.2.2.1.length 0 (by omega)
          have h2 := st3 fI l hk hq
          rw [if_neg (by rw [hk]; decide), if_neg (by rw [hk]; decide), if_pos (by rw [hk]; rfl)]
          refine Eq.trans hc2 ?_
          rw [insI hvh.1 hq.1 h1 (by rw [List.length_map]; exact hm)]
          simp only [Option.bind_some]
          rw [w64 (by omega) (by omega), ih1 _ (st_len hvh h1 h2), h2]; rfl
        · have hq := ps4 hk hp
          rw [if_neg (by rw [hk]; decide), if_neg (by rw [hk]; decide), if_neg (by rw [hk]; decide), if_pos (by rw [hk]; rfl), gd_pos hvh.1, gd_pos hq, w64 (by omega) (by omega), st4 _ _ hk hq, Nat.sub_zero,
            ih3 0 _ l (by have := hq; have := hvh.1; omega) (by have := hq; have := hvh.1; omega)]; rfl
      · rw [if_pos (by simp [hp]), stN _ _ hvh hp]; rfl
    · intro o n l hon h1
      have hll : Int.ofNat n = (n : Int) := rfl
      have hzl : (List.take n (List.drop o l)).length = n := by rw [List.length_take, List.length_drop]; omega
      rw [damage_do_int_c3_eq, if_pos (by simp; omega), gd_pos (by omega), gd_pos (by rw [hl']; omega), Int.toNat_natCast, hll]
      generalize List.getD hs i (pzero T_api_Harm) = h at *
      rw [possible_spec hvh (by omega) (by omega)]
      simp only [Option.bind_some, sts]
      generalize hz : List.take n (List.drop o l) = z at *
      rw [show (n : Int) = (z.length : Int) by rw [hzl]]
      have h1' : z.length ≤ 50000 := by omega
      by_cases hp : ps (z.length : Int) h
      · rw [if_neg (by simp [hp])]
        rcases hvh.2 with ⟨hk, hn0, hn1, hm⟩ | ⟨hk, hn0, hm⟩ | ⟨hk, hn0, hm⟩ | ⟨hk, hn0, hm⟩
        · have hq := ps1 hk hp
          rw [if_pos (by rw [hk]; rfl), putI]
          simp only [Option.bind_some]
          rw [gd_pos hvh.1, gd_pos hq, w64 (by omega) (by omega), u8id hn0 hn1, st1 _ _ hk hq, ih3 _ _ _ (by rw [List.length_set]; exact hon) h1, List.drop_set, if_neg (by omega), Nat.add_sub_cancel_left, List.take_set, hz]; rfl
        · have hq := ps2 hk hp
          rw [if_neg (by rw [hk]; decide), if_pos (by rw [hk]; rfl), delI hvh.1 hn0 (by omega) h1']
          simp only [Option.bind_some]
          have h2 := st2 fI z hk hq
          rw [w64 (by omega) (by omega), ih1 _ (st_len hvh h1' h2), h2]; rfl
        · have hq := ps3 hk hp
          have hc2 := damage_do_int_c4s o n hs (hs.length : Int) (i : Int) h.2.2.2.1 hm l h h.2.2.2.1.length 0 (by omega)
          have h2 := st3 fI z hk hq
          rw [hz] at hc2
          rw [if_neg (by rw [hk]; decide), if_neg (by rw [hk]; decide), if_pos (by rw [hk]; rfl)]
          refine Eq.trans hc2 ?_
          rw [insI hvh.1 hq.1 h1' (by rw [List.length_map]; exact hm)]
          simp only [Option.bind_some]
          rw [w64 (by omega) (by omega), ih1 _ (st_len hvh h1' h2), h2]; rfl
        · have hq := ps4 hk hp
          rw [if_neg (by rw [hk]; decide), if_neg (by rw [hk]; decide), if_neg (by rw [hk]; decide), if_pos (by rw [hk]; rfl), gd_pos hvh.1, gd_pos hq, w64 (by omega) (by omega), st4 _ _ hk hq, Nat.sub_zero, Nat.add_zero,
            ih3 o _ l (by have := hq; have := hvh.1; omega) (by have := hq; have := hvh.1; omega), ← hz, List.take_take, Nat.min_eq_left (by have := hq; have := hvh.1; omega)]; rfl
      · rw [if_pos (by simp [hp]), stN _ _ hvh hp]; rfl
theorem damage_do_int_spec (l : List Int) (hs : List D_api_Harm) (hl : hs.length ≤ 20) (hv : ∀ h ∈ hs, HV h) (h1 : l.length ≤ 50000) : damage_do_int l hs = some (outp (sts fI l hs)) := by
  rw [damage_do_int_eq, cloneI l h1]
  exact (damage_do_int_loops hs hl hv hs.length 0 (by omega)).1 l h1
end Go.Ab

set_option linter.unusedVariables false
set_option linter.unusedSimpArgs false
set_option maxHeartbeats 1000000
namespace Go.Ab
attribute [local irreducible] IntKind.wrap
/-! ### The reference -/
def fC : Int → D_bitloftref35_cell := fun b => (b, (-1, ()))
def outc : Option (List D_bitloftref35_cell) → List D_bitloftref35_cell × Bool
  | some r => (r, true)
  | none => ([], false)
theorem done_c1s (l : List D_bitloftref35_cell) (hl : l.length ≤ 50000) (h : D_api_Harm) (hp0 : (0 : Int) ≤ h.2.1) (hp : h.2.1 ≤ (l.length : Int)) (hb : h.2.2.2.1.length ≤ 200) (z : List D_bitloftref35_cell) (hz : z.length ≤ 50000) : ∀ (k j : Nat), j + k = h.2.2.2.1.length →
    bitloftref35_done_c1 l (j : Int) h (z ++ (h.2.2.2.1.take j).map fC) = some (z ++ h.2.2.2.1.map fC ++ l.drop h.2.1.toNat, true)
  | 0, j, e => by
    have hof : Int.ofNat l.length = (l.length : Int) := rfl
    rw [bitloftref35_done_c1_eq, if_neg (by simp; omega), gd_pos hp0, gd_pos (by rw [hof]; exact hp), show h.2.2.2.1.take j = h.2.2.2.1 from List.take_of_length_le (by omega),
      gd_pos (by simp only [List.length_append, List.length_map, List.length_drop]; omega)]
  | k + 1, j, e => by
    have ih := done_c1s l hl h hp0 hp hb z hz k (j + 1) (by omega)
    rw [show ((j + 1 : Nat) : Int) = (j : Int) + 1 by omega] at ih
    have hq : z ++ (h.2.2.2.1.take j).map fC ++ [((List.getD h.2.2.2.1 j (0 : Int)), ((-1 : Int), ()))] = z ++ (h.2.2.2.1.take (j + 1)).map fC := by
      rw [takeT (0 : Int) (show j < h.2.2.2.1.length by omega), List.map_append, List.append_assoc]; rfl
    have hof : Int.ofNat h.2.2.2.1.length = (h.2.2.2.1.length : Int) := rfl
    rw [bitloftref35_done_c1_eq, if_pos (by simp; omega), gd_pos (by omega), gd_pos (by rw [hof]; omega), Int.toNat_natCast, hq, gd_pos (by simp only [List.length_append, List.length_map, List.length_take]; omega), w64 (by omega) (by omega), ih]
theorem done_spec {l : List D_bitloftref35_cell} {h : D_api_Harm} (hv : HV h) (hl : l.length ≤ 50000) : bitloftref35_done l h = some (outc (st fC l h)) := by
  have hof : Int.ofNat l.length = (l.length : Int) := rfl
  have hofb : Int.ofNat h.2.2.2.1.length = (h.2.2.2.1.length : Int) := rfl
  have hp := hv.1
  rw [bitloftref35_done_eq, hof, hofb]
  rcases hv.2 with ⟨hk, hn0, hn1, hm⟩ | ⟨hk, hn0, hm⟩ | ⟨hk, hn0, hm⟩ | ⟨hk, hn0, hm⟩
  · rw [if_pos (by rw [hk]; rfl)]
    by_cases hq : h.2.1 < (l.length : Int)
    · rw [if_neg (by simp only [decide_eq_true_eq]; omega), List.nil_append, gd_pos (by omega), gd_pos hp, gd_pos (by rw [hof]; exact hq), Nat.zero_add, u8id hn0 hn1, st1 _ _ hk hq]; rfl
    · rw [if_pos (by simp only [decide_eq_true_eq]; omega)]
      unfold st; rw [if_pos hk, if_neg hq]; rfl
  · rw [if_neg (by rw [hk]; decide), if_pos (by rw [hk]; rfl)]
    by_cases hq : h.2.1 ≤ (l.length : Int)
    · rw [if_neg (by simp only [decide_eq_true_eq]; omega), w64 (by omega) (by omega)]
      by_cases hq2 : h.2.2.1 ≤ (l.length : Int) - h.2.1
      · rw [if_neg (by simp only [decide_eq_true_eq]; omega), gd_pos hp, gd_pos hq, List.nil_append, gd_pos (by rw [List.length_take]; omega), w64 (by omega) (by omega), gd_pos (by omega), gd_pos (by omega),
          gd_pos (by rw [List.length_append, List.length_take, List.length_drop]; omega), st2 _ _ hk ⟨hq, hq2⟩]; rfl
      · rw [if_pos (by simp only [decide_eq_true_eq]; omega)]
        unfold st; rw [if_neg (by rw [hk]; decide), if_pos hk, if_neg (fun h => hq2 h.2)]; rfl
    · rw [if_pos (by simp only [decide_eq_true_eq]; omega)]
      unfold st; rw [if_neg (by rw [hk]; decide), if_pos hk, if_neg (fun h => hq h.1)]; rfl
  · rw [if_neg (by rw [hk]; decide), if_neg (by rw [hk]; decide), if_pos (by rw [hk]; rfl)]
    by_cases hq : h.2.1 ≤ (l.length : Int)
    · rw [if_neg (by simp only [decide_eq_true_eq]; omega), w64 (by omega) (by omega)]
      by_cases hq2 : (l.length : Int) + (h.2.2.2.1.length : Int) ≤ 50000
      · have hd := done_c1s l hl h hp hq hm (l.take h.2.1.toNat) (by rw [List.length_take]; omega) h.2.2.2.1.length 0 (by omega)
        rw [List.take_zero, List.map_nil, List.append_nil] at hd
        rw [if_neg (by simp only [decide_eq_true_eq]; omega), gd_pos hp, gd_pos hq, List.nil_append, gd_pos (by rw [List.length_take]; omega), st3 _ _ hk ⟨hq, hq2⟩]
        exact hd
      · rw [if_pos (by simp only [decide_eq_true_eq]; omega)]
        unfold st; rw [if_neg (by rw [hk]; decide), if_neg (by rw [hk]; decide), if_pos hk, if_neg (fun h => hq2 h.2)]; rfl
    · rw [if_pos (by simp only [decide_eq_true_eq]; omega)]
      unfold st; rw [if_neg (by rw [hk]; decide), if_neg (by rw [hk]; decide), if_pos hk, if_neg (fun h => hq h.1)]; rfl
  · rw [if_neg (by rw [hk]; decide), if_neg (by rw [hk]; decide), if_neg (by rw [hk]; decide)]
    by_cases hq : h.2.1 ≤ (l.length : Int)
    · rw [if_neg (by simp only [decide_eq_true_eq]; omega), gd_pos hp, gd_pos hq, List.nil_append, gd_pos (by rw [List.length_take]; omega), st4 _ _ hk hq]; rfl
    · rw [if_pos (by simp only [decide_eq_true_eq]; omega)]
      unfold st; rw [if_neg (by rw [hk]; decide), if_neg (by rw [hk]; decide), if_neg (by rw [hk]; decide), if_neg hq]; rfl
def cells : List Int → Int → List D_bitloftref35_cell
  | [], _ => []
  | x :: r, i => (x, (i, ())) :: cells r (i + 1)
def upto : Int → Nat → List Int
  | _, 0 => []
  | i, n + 1 => i :: upto (i + 1) n
theorem cells_len : ∀ (l : List Int) (i : Int), (cells l i).length = l.length
  | [], _ => rfl
  | x :: r, i => by simp [cells, cells_len r]
theorem upto_len : ∀ (n : Nat) (i : Int), (upto i n).length = n
  | 0, _ => rfl
  | n + 1, i => by simp [upto, upto_len n]
theorem cells_fst : ∀ (l : List Int) (i : Int), (cells l i).map (fun c => c.1) = l
  | [], _ => rfl
  | x :: r, i => by simp only [cells, List.map_cons, cells_fst r]
theorem cells_snd : ∀ (l : List Int) (i : Int), (cells l i).map (fun c => c.2.1) = upto i l.length
  | [], _ => rfl
  | x :: r, i => by simp only [cells, List.map_cons, cells_snd r, List.length_cons, upto]
theorem cells_app : ∀ (a b : List Int) (i : Int), cells (a ++ b) i = cells a i ++ cells b (i + a.length)
  | [], b, i => by simp [cells]
  | x :: r, b, i => by
    simp only [List.cons_append, cells, cells_app r b, List.length_cons]
    rw [show i + 1 + (r.length : Int) = i + ((r.length + 1 : Nat) : Int) by omega]
theorem upto_app : ∀ (n : Nat) (i : Int), upto i (n + 1) = upto i n ++ [i + n]
  | 0, i => by simp [upto]
  | n + 1, i => by
    rw [upto, upto_app n (i + 1), upto]
    simp only [List.cons_append]
    rw [show i + 1 + (n : Int) = i + ((n + 1 : Nat) : Int) by omega]
theorem all_c2s (hs : List D_api_Harm) (hl : hs.length ≤ 20) (hv : ∀ h ∈ hs, HV h) : ∀ (k i : Nat) (l : List D_bitloftref35_cell), i + k = hs.length → l.length ≤ 50000 → bitloftref35_all_c2 hs (i : Int) l = some (outc (sts fC l (hs.drop i)))
  | 0, i, l, e, h1 => by rw [bitloftref35_all_c2_eq, if_neg (by simp; omega), show hs.drop i = [] from List.drop_of_length_le (by omega)]; rfl
  | k + 1, i, l, e, h1 => by
    obtain ⟨d1, d2⟩ := dropT (pzero T_api_Harm : D_api_Harm) (xs := hs) (i := i) (by omega)
    have hvh := hv _ d2
    have hl' : Int.ofNat hs.length = (hs.length : Int) := rfl
    rw [bitloftref35_all_c2_eq, if_pos (by simp; omega), gd_pos (by omega), gd_pos (by rw [hl']; omega), Int.toNat_natCast, d1]
    generalize List.getD hs i (pzero T_api_Harm) = h at *
    rw [done_spec hvh h1, w64 (by omega) (by omega)]
    simp only [Option.bind_some, sts]
    cases e1 : st fC l h with
    | none => rfl
    | some l' =>
      have ih := all_c2s hs hl hv k (i + 1) l' (by omega) (st_len hvh h1 e1)
      rw [show ((i + 1 : Nat) : Int) = (i : Int) + 1 by omega] at ih
      rw [if_neg (by simp [outc])]
      exact ih
theorem all_c1s (b : List Int) (hs : List D_api_Harm) (hl : hs.length ≤ 20) (hv : ∀ h ∈ hs, HV h) (hb : b.length ≤ 50000) : ∀ (k j : Nat), j + k = b.length → bitloftref35_all_c1 b hs (j : Int) (cells (b.take j) 0) = some (outc (sts fC (cells b 0) hs))
  | 0, j, e => by
    rw [bitloftref35_all_c1_eq, if_neg (by simp; omega), show b.take j = b from List.take_of_length_le (by omega)]
    exact all_c2s hs hl hv hs.length 0 _ (by omega) (by rw [cells_len]; exact hb)
  | k + 1, j, e => by
    have ih := all_c1s b hs hl hv hb k (j + 1) (by omega)
    rw [show ((j + 1 : Nat) : Int) = (j : Int) + 1 by omega] at ih
    have hq : cells (b.take j) 0 ++ [((List.getD b j (0 : Int)), ((j : Int), ()))] = cells (b.take (j + 1)) 0 := by
      rw [takeT (0 : Int) (show j < b.length by omega), cells_app, List.length_take, Nat.min_eq_left (by omega), Int.zero_add]; rfl
    have hof : Int.ofNat b.length = (b.length : Int) := rfl
    rw [bitloftref35_all_c1_eq, if_pos (by simp; omega), gd_pos (by omega), gd_pos (by rw [hof]; omega), Int.toNat_natCast, hq, gd_pos (by rw [cells_len, List.length_take]; omega), w64 (by omega) (by omega), ih]
theorem all_spec (b : List Int) (hs : List D_api_Harm) (hl : hs.length ≤ 20) (hv : ∀ h ∈ hs, HV h) (hb : b.length ≤ 50000) : bitloftref35_all b hs = some (outc (sts fC (cells b 0) hs)) := by
  rw [bitloftref35_all_eq]; exact all_c1s b hs hl hv hb b.length 0 (by omega)
theorem Apply_c1s (c : List D_bitloftref35_cell) (hc : c.length ≤ 50000) : ∀ (k j : Nat), j + k = c.length → bitloftref35_Apply_c1 (j : Int) c ((c.take j).map fun c => c.1) = some (c.map (fun c => c.1), 0)
  | 0, j, e => by rw [bitloftref35_Apply_c1_eq, if_neg (by simp; omega), show c.take j = c from List.take_of_length_le (by omega)]
  | k + 1, j, e => by
    have ih := Apply_c1s c hc k (j + 1) (by omega)
    rw [show ((j + 1 : Nat) : Int) = (j : Int) + 1 by omega, takeT (pzero T_bitloftref35_cell : D_bitloftref35_cell) (show j < c.length by omega), List.map_append] at ih
    have hof : Int.ofNat c.length = (c.length : Int) := rfl
    rw [bitloftref35_Apply_c1_eq, if_pos (by simp; omega), gd_pos (by omega), gd_pos (by rw [hof]; omega), Int.toNat_natCast, Nat.zero_add, gd_pos (by rw [List.length_append, List.length_map, List.length_take, List.length_singleton]; omega), w64 (by omega) (by omega)]
    exact ih
theorem Origins_c1s (c : List D_bitloftref35_cell) (hc : c.length ≤ 50000) : ∀ (k j : Nat), j + k = c.length → bitloftref35_Origins_c1 (j : Int) c ((c.take j).map fun c => c.2.1) = some (c.map (fun c => c.2.1), 0)
  | 0, j, e => by rw [bitloftref35_Origins_c1_eq, if_neg (by simp; omega), show c.take j = c from List.take_of_length_le (by omega)]
  | k + 1, j, e => by
    have ih := Origins_c1s c hc k (j + 1) (by omega)
    rw [show ((j + 1 : Nat) : Int) = (j : Int) + 1 by omega, takeT (pzero T_bitloftref35_cell : D_bitloftref35_cell) (show j < c.length by omega), List.map_append] at ih
    have hof : Int.ofNat c.length = (c.length : Int) := rfl
    rw [bitloftref35_Origins_c1_eq, if_pos (by simp; omega), gd_pos (by omega), gd_pos (by rw [hof]; omega), Int.toNat_natCast, Nat.zero_add, gd_pos (by rw [List.length_append, List.length_map, List.length_take, List.length_singleton]; omega), w64 (by omega) (by omega)]
    exact ih
/-! ### What Apply and Origins return -/
theorem chk0 {l : List D_api_Harm} (h : chk35 l = 0) : l.length ≤ 20 ∧ ∀ x ∈ l, HV x := by
  unfold chk35 at h
  split at h
  · cases h
  · split at h
    · rename_i h1 h2; exact ⟨by omega, h2⟩
    · cases h
def app (b : List Int) (l : List D_api_Harm) : List Int × Int :=
  if chk35 l ≠ 0 then ([], chk35 l) else if 50000 < b.length then ([], 4) else outp (sts fB b l)
def org (n : Int) (l : List D_api_Harm) : List Int × Int :=
  if chk35 l ≠ 0 then ([], chk35 l) else if n < 0 ∨ 50000 < n then ([], 2) else outp (sts fI (upto 0 n.toNat) l)
theorem Apply_spec (b : List Int) (l : List D_api_Harm) : damage_Apply b l = some (app b l) := by
  rw [damage_Apply_eq, damage_Check_spec]
  simp only [Option.bind_some]
  unfold app
  by_cases h : chk35 l = 0
  · obtain ⟨h1, h2⟩ := chk0 h
    rw [if_neg (by rw [h]; decide), if_neg (show ¬ chk35 l ≠ 0 from fun k => k h)]
    by_cases hb : 50000 < b.length
    · rw [if_pos (by simp; omega), if_pos hb]
    · rw [if_neg (by simp; omega), if_neg hb, damage_do_byte_spec b l h1 h2 (by omega)]; rfl
  · rw [if_pos (bne_iff_ne.2 h), if_pos h]
theorem rApply_spec (b : List Int) (l : List D_api_Harm) : bitloftref35_Apply b l = some (app b l) := by
  rw [bitloftref35_Apply_eq, ref_Check_spec]
  simp only [Option.bind_some]
  unfold app
  by_cases h : chk35 l = 0
  · obtain ⟨h1, h2⟩ := chk0 h
    rw [if_neg (by rw [h]; decide), if_neg (show ¬ chk35 l ≠ 0 from fun k => k h)]
    by_cases hb : 50000 < b.length
    · rw [if_pos (by simp; omega), if_pos hb]
    · rw [if_neg (by simp; omega), if_neg hb, all_spec b l h1 h2 (by omega)]
      simp only [Option.bind_some]
      have hm := sts_map fC (fun c : D_bitloftref35_cell => c.1) (cells b 0) l
      rw [cells_fst] at hm
      have hm' : sts fB b l = Option.map (List.map fun c : D_bitloftref35_cell => c.1) (sts fC (cells b 0) l) := hm.symm
      rw [hm']
      cases e : sts fC (cells b 0) l with
      | none => rfl
      | some c =>
        rw [if_neg (by simp [outc])]
        exact Apply_c1s c (sts_len h2 (by rw [cells_len]; omega) e) c.length 0 (by omega)
  · rw [if_pos (bne_iff_ne.2 h), if_pos h]
theorem Origins_fill (hs : List D_api_Harm) (n : Nat) (hn : n ≤ 50000) : ∀ (k j : Nat), j + k = n → damage_Origins_c1 hs (n : Int) (j : Int) (upto 0 j ++ List.replicate k 0) = (damage_do_int (upto 0 n) hs).bind fun r => some r
  | 0, j, e => by
    rw [damage_Origins_c1_eq, if_neg (by simp; omega)]
    obtain rfl : j = n := by omega
    rw [List.replicate_zero, List.append_nil]
  | k + 1, j, e => by
    have ih := Origins_fill hs n hn k (j + 1) (by omega)
    rw [show ((j + 1 : Nat) : Int) = (j : Int) + 1 by omega] at ih
    have hs2 : List.set (upto 0 j ++ List.replicate (k + 1) 0) j (j : Int) = upto 0 (j + 1) ++ List.replicate k 0 := by
      rw [List.set_append_right _ _ (by rw [upto_len]; omega), upto_len, Nat.sub_self, List.replicate_succ, List.set_cons_zero, upto_app, List.append_assoc, Int.zero_add]; rfl
    have hof : Int.ofNat (upto 0 j ++ List.replicate (k + 1) (0 : Int)).length = (n : Int) := by
      rw [List.length_append, upto_len, List.length_replicate]
      show ((j + (k + 1) : Nat) : Int) = n
      omega
    rw [damage_Origins_c1_eq, if_pos (by simp; omega), gd_pos (by omega), gd_pos (by rw [hof]; omega), Int.toNat_natCast, Nat.zero_add, hs2, w64 (by omega) (by omega), ih]
theorem Origins_spec (n : Int) (l : List D_api_Harm) : damage_Origins n l = some (org n l) := by
  rw [damage_Origins_eq, damage_Check_spec]
  simp only [Option.bind_some]
  unfold org
  by_cases h : chk35 l = 0
  · obtain ⟨h1, h2⟩ := chk0 h
    rw [if_neg (by rw [h]; decide), if_neg (show ¬ chk35 l ≠ 0 from fun k => k h)]
    by_cases hn : n < 0
    · rw [if_pos (decide_eq_true hn), if_pos (.inl hn)]
    · by_cases hn2 : 50000 < n
      · rw [if_neg (by simp only [decide_eq_true_eq]; exact hn), if_pos (decide_eq_true hn2), if_pos (.inr hn2)]
      · rw [if_neg (by simp only [decide_eq_true_eq]; exact hn), if_neg (by simp only [decide_eq_true_eq]; omega), if_neg (by omega), gd_pos trivial, gd_pos (by omega), gd_pos (by omega), gd_pos (by omega)]
        have hf := Origins_fill l n.toNat (by omega) n.toNat 0 (by omega)
        rw [damage_do_int_spec _ l h1 h2 (by rw [upto_len]; omega)] at hf
        rw [List.length_replicate]
        exact hf
  · rw [if_pos (bne_iff_ne.2 h), if_pos h]
theorem rOrigins_spec (n : Int) (l : List D_api_Harm) : bitloftref35_Origins n l = some (org n l) := by
  rw [bitloftref35_Origins_eq, ref_Check_spec]
  simp only [Option.bind_some]
  unfold org
  by_cases h : chk35 l = 0
  · obtain ⟨h1, h2⟩ := chk0 h
    rw [if_neg (by rw [h]; decide), if_neg (show ¬ chk35 l ≠ 0 from fun k => k h)]
    by_cases hn : n < 0
    · rw [if_pos (decide_eq_true hn), if_pos (.inl hn)]
    · by_cases hn2 : 50000 < n
      · rw [if_neg (by simp only [decide_eq_true_eq]; exact hn), if_pos (decide_eq_true hn2), if_pos (.inr hn2)]
      · rw [if_neg (by simp only [decide_eq_true_eq]; exact hn), if_neg (by simp only [decide_eq_true_eq]; omega), if_neg (by omega), gd_pos trivial, gd_pos (by omega), gd_pos (by omega), gd_pos (by omega),
          all_spec _ l h1 h2 (by rw [List.length_replicate]; omega)]
        simp only [Option.bind_some]
        have hm := sts_map fC (fun c : D_bitloftref35_cell => c.2.1) (cells (List.replicate n.toNat 0) 0) l
        rw [cells_snd, List.length_replicate] at hm
        have hm' : sts fI (upto 0 n.toNat) l = Option.map (List.map fun c : D_bitloftref35_cell => c.2.1) (sts fC (cells (List.replicate n.toNat 0) 0) l) := hm.symm
        rw [hm']
        cases e : sts fC (cells (List.replicate n.toNat 0) 0) l with
        | none => rfl
        | some c =>
          rw [if_neg (by simp [outc])]
          exact Origins_c1s c (sts_len h2 (by rw [cells_len, List.length_replicate]; omega) e) c.length 0 (by omega)
  · rw [if_pos (bne_iff_ne.2 h), if_pos h]
end Go.Ab

set_option linter.unusedVariables false
set_option linter.unusedSimpArgs false
set_option maxHeartbeats 1000000
namespace Go.Ab
attribute [local irreducible] IntKind.wrap
theorem SameInts_c1 (l : List Int) (hl : l.length ≤ 140737488355328) : ∀ (k i : Nat), i + k = l.length → bitloftref25_SameInts_c1 l l (i : Int) = some true
  | 0, i, e => by rw [bitloftref25_SameInts_c1_eq, if_neg (by simp; omega)]
  | k + 1, i, e => by
    have ih := SameInts_c1 l hl k (i + 1) (by omega)
    rw [show ((i + 1 : Nat) : Int) = (i : Int) + 1 by omega] at ih
    have hof : Int.ofNat l.length = (l.length : Int) := rfl
    rw [bitloftref25_SameInts_c1_eq, if_pos (by simp; omega), gd_pos (by omega), gd_pos (by rw [hof]; omega), gd_pos (by omega), gd_pos (by rw [hof]; omega), if_neg (by simp), w64 (by omega) (by omega), ih]
theorem SameInts_self (l : List Int) (hl : l.length ≤ 140737488355328) : bitloftref25_SameInts l l = some true := by
  rw [bitloftref25_SameInts_eq, if_neg (by simp)]
  exact SameInts_c1 l hl l.length 0 (by omega)
theorem Great_c1 (l : List D_api_Harm) (hl : l.length ≤ Go.maxLen) : ∀ (k i : Nat), i + k = l.length → ∃ g, bitloftref35_Great_c1 l (i : Int) = some g ∧ (g = false → ∀ h ∈ l.drop i, h.2.2.2.1.length ≤ 300)
  | 0, i, e => ⟨_, by rw [bitloftref35_Great_c1_eq, if_neg (by simp; omega)], by rw [show l.drop i = [] from List.drop_of_length_le (by omega)]; simp⟩
  | k + 1, i, e => by
    obtain ⟨d1, d2⟩ := dropT (pzero T_api_Harm : D_api_Harm) (xs := l) (i := i) (by omega)
    obtain ⟨g, ih, ih2⟩ := Great_c1 l hl k (i + 1) (by omega)
    rw [show ((i + 1 : Nat) : Int) = (i : Int) + 1 by omega] at ih
    have hof : Int.ofNat l.length = (l.length : Int) := rfl
    unfold Go.maxLen at hl
    rw [bitloftref35_Great_c1_eq, if_pos (by simp; omega), gd_pos (by omega), gd_pos (by rw [hof]; omega), Int.toNat_natCast, d1]
    generalize List.getD l i (pzero T_api_Harm) = h at *
    by_cases hh : 300 < h.2.2.2.1.length
    · rw [if_pos (decide_eq_true (by show (h.2.2.2.1.length : Int) > 300; omega))]
      exact ⟨true, rfl, fun h => by cases h⟩
    · rw [if_neg (by simp only [decide_eq_true_eq]; show ¬ (h.2.2.2.1.length : Int) > 300; omega), w64 (by omega) (by omega), ih]
      refine ⟨g, rfl, fun hg x hx => ?_⟩
      rcases List.mem_cons.1 hx with rfl | hx
      · omega
      · exact ih2 hg x hx
theorem Great_spec (l : List D_api_Harm) (hl : l.length ≤ Go.maxLen) : ∃ g, bitloftref35_Great l = some g := by
  obtain ⟨g, h, _⟩ := Great_c1 l hl l.length 0 (by omega)
  exact ⟨g, by rw [bitloftref35_Great_eq]; exact h⟩
theorem outp_len {o : Option (List Int)} (h : ∀ r, o = some r → r.length ≤ 50000) : (outp o).1.length ≤ 50000 := by
  cases o with
  | none => exact Nat.zero_le _
  | some r => exact h r rfl
theorem org_len (n : Int) (l : List D_api_Harm) : (org n l).1.length ≤ 50000 := by
  unfold org
  by_cases h : chk35 l = 0
  · obtain ⟨h1, h2⟩ := chk0 h
    rw [if_neg (show ¬ chk35 l ≠ 0 from fun k => k h)]
    split
    · exact Nat.zero_le _
    · exact outp_len fun r hr => sts_len h2 (by rw [upto_len]; omega) hr
  · rw [if_pos h]; exact Nat.zero_le _
theorem bitloftlaw35_DamageDoes_true (x0 : List Int) (z0 : wfP (.slice (.int .u8)) x0) (x1 : Int) (z1 : wfP (.int .i64) x1) (x2 : List D_api_Harm) (z2 : wfP (.slice T_api_Harm) x2) : bitloftlaw35_DamageDoes x0 x1 x2 = some true := by
  obtain ⟨g, hg⟩ := Great_spec x2 z2.1
  have hb : ofStr (toStr x0) = x0 := ofStr_toStr (Bts.of_wf z0.2)
  have hs := SameInts_self (org x1 x2).1 (by have := org_len x1 x2; omega)
  rw [bitloftlaw35_DamageDoes_eq]
  simp only [hg, hb, Apply_spec, rApply_spec, Origins_spec, rOrigins_spec, damage_Check_spec, ref_Check_spec, Option.bind_some, hs, beq_self_eq_true, if_true]
  repeat' split
  all_goals rfl
theorem sts_true : True := trivial
end Go.Ab
