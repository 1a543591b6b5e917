/-
  An abstract machine over the model's code and its soundness; what the functions compute, as plain functions (printed by a program of this repo's own, checked here by the kernel); plain laws of them: part 3. Helper text, no statement of the claim stands here.
-/
import Derived.Test.YteblhbgnmdophaaDoorTxtLb
import Derived.WalkKit
import Derived.ProofKit
import Derived.OpenShut
import Derived.ShutString
import Derived.ChangeOld
import Derived.Below
import Derived.SizedLaws
import Derived.LaidMore
import Derived.RangeFuncFrom
import Derived.RangeFuncLeaves
import Derived.RangeFuncCalls
import Derived.OrdersIn
import Derived.Shelf.Vars
/-
  The forms of results: they are what the machine keeps at a function's end.
-/
set_option linter.unusedVariables false
set_option linter.unusedSimpArgs false
namespace Go.Ab
open Go
section
variable {P : Program} {GT : GTab} {lk : Look} {ren : List (Nat × Nat)} {fr lo : Bool}
theorem keepHs_append : ∀ {a b : List (Nat × Nat)} {u v : List (Nat × Option Obj)}, keepHs lk ren lo a = some u → keepHs lk ren lo b = some v → keepHs lk ren lo (a ++ b) = some (u ++ v)
  | [], b, u, v, h, h' => by simp only [keepHs, Option.some.injEq] at h; subst h; exact h'
  | p :: a, b, u, v, h, h' => by
    simp only [keepHs, List.cons_append] at h ⊢
    split at h
    · rename_i o os e1 e2
      split at h
      · rename_i o' e3
        simp only [Option.some.injEq] at h; subst h
        rw [e1, keepHs_append e2 h']
        simp only [e3, List.cons_append]
      · cases h
    · cases h
theorem alive_append {a b : List (Nat × Obj)} : alive (a ++ b) = alive a ++ alive b := by simp [alive]
theorem flag_and {f fr : Bool} (h : (f || !fr) = true) : (f && !!fr) = fr := by cases f <;> cases fr <;> simp_all
theorem flag_and3 {f g fr : Bool} (h : (f || g || !fr) = true) : ((f || g) && !!fr) = fr := by cases f <;> cases g <;> cases fr <;> simp_all
theorem newOf_beq {l n : Nat} (h : (newOf ren l == some n) = true) : newOf ren l = some n := by simpa using h
theorem outA_ok : ∀ {t : Ty} {x : aden t} {sf sf' : List SF} {k k' : Nat} {u : pden t}, outA lk ren fr t x sf k = some (u, sf', k') →
    ∃ y, encA fr t u sf k = (y, sf', k') ∧ keepA lk ren (!fr) t x = some y ∧ ∃ cs, collA t x sf k = (cs, sf', k') ∧ keepHs lk ren (!fr) cs = some (alive (rowsA fr t u sf k))
  | .int _, x, sf, sf', k, k', u, h => by simp only [outA, Option.some.injEq, Prod.mk.injEq] at h; obtain ⟨rfl, rfl, rfl⟩ := h; exact ⟨_, rfl, rfl, _, rfl, rfl⟩
  | .bool, x, sf, sf', k, k', u, h => by simp only [outA, Option.some.injEq, Prod.mk.injEq] at h; obtain ⟨rfl, rfl, rfl⟩ := h; exact ⟨_, rfl, rfl, _, rfl, rfl⟩
  | .str, x, sf, sf', k, k', u, h => by simp only [outA, Option.some.injEq, Prod.mk.injEq] at h; obtain ⟨rfl, rfl, rfl⟩ := h; exact ⟨_, rfl, rfl, _, rfl, rfl⟩
  | .arr _ _, x, sf, sf', k, k', u, h => by simp only [outA, Option.some.injEq, Prod.mk.injEq] at h; obtain ⟨rfl, rfl, rfl⟩ := h; exact ⟨_, rfl, rfl, _, rfl, rfl⟩
  | .unit, x, sf, sf', k, k', u, h => by simp only [outA, Option.some.injEq, Prod.mk.injEq] at h; obtain ⟨_, rfl, rfl⟩ := h; exact ⟨_, rfl, rfl, _, rfl, rfl⟩
  | .fn, x, sf, sf', k, k', u, h => by simp only [outA, Option.some.injEq, Prod.mk.injEq] at h; obtain ⟨rfl, rfl, rfl⟩ := h; exact ⟨_, rfl, rfl, _, rfl, rfl⟩
  | .pair a b, x, sf, sf', k, k', u, h => by
    simp only [outA] at h
    split at h
    · rename_i u1 sf1 k1 h1
      split at h
      · rename_i u2 sf2 k2 h2
        simp only [Option.some.injEq, Prod.mk.injEq] at h; obtain ⟨rfl, rfl, rfl⟩ := h
        obtain ⟨y1, a1, a2, c1, a3, a4⟩ := outA_ok h1
        obtain ⟨y2, b1, b2, c2, b3, b4⟩ := outA_ok h2
        refine ⟨(y1, y2), by simp only [encA, a1, b1], by simp only [keepA, a2, b2], c1 ++ c2, by simp only [collA, a3, b3], ?_⟩
        simp only [rowsA, a1, alive_append]
        exact keepHs_append a4 b4
      · cases h
    · cases h
  | .slice e, x, sf, sf', k, k', u, h => by
    cases x with
    | pure f xs =>
      simp only [outA] at h
      split at h
      · split at h
        · rename_i hf
          simp only [Option.some.injEq, Prod.mk.injEq] at h; obtain ⟨rfl, rfl, rfl⟩ := h
          exact ⟨_, rfl, by simp only [keepA, flag_and hf], _, rfl, rfl⟩
        · cases h
      · split at h
        · rename_i hf
          simp only [Option.some.injEq, Prod.mk.injEq] at h; obtain ⟨rfl, rfl, rfl⟩ := h
          exact ⟨_, rfl, by simp only [keepA, flag_and hf], _, rfl, rfl⟩
        · cases h
      · cases h
    | ref l off len wh =>
      simp only [outA] at h
      split at h
      · rename_i f xs hrow
        split at h
        · split at h
          · rename_i hc
            simp only [Bool.and_eq_true] at hc
            obtain ⟨⟨⟨rfl, hn⟩, hf⟩, hs⟩ := hc
            simp only [Option.some.injEq, Prod.mk.injEq] at h; obtain ⟨rfl, rfl, rfl⟩ := h
            refine ⟨_, rfl, by simp only [keepA, newOf_beq hn, hrow, if_true], _, rfl, ?_⟩
            obtain ⟨y, hy⟩ := Option.isSome_iff_exists.1 hs
            have := absOf_row hy; rw [hrow] at this; injection this with this; subst this
            simp only [keepHs, rowOf_some hy, keepO, rowsA, alive, flag_and hf, List.map_cons, List.map_nil]
          · cases h
        · split at h
          · rename_i hc
            simp only [Bool.and_eq_true] at hc
            obtain ⟨rfl, hn⟩ := hc
            simp only [Option.some.injEq, Prod.mk.injEq] at h; obtain ⟨rfl, rfl, rfl⟩ := h
            exact ⟨_, rfl, by simp only [keepA, newOf_beq hn, hrow, if_true], _, rfl, rfl⟩
          · cases h
        · split at h
          · rename_i hc
            simp only [Bool.and_eq_true, Option.isNone_iff_eq_none] at hc
            simp only [Option.some.injEq, Prod.mk.injEq] at h; obtain ⟨rfl, rfl, rfl⟩ := h
            exact ⟨_, rfl, by simp only [keepA, hc.1, hrow, flag_and3 hc.2], _, rfl, rfl⟩
          · cases h
        · split at h
          · rename_i hc
            simp only [Bool.and_eq_true, Option.isNone_iff_eq_none] at hc
            simp only [Option.some.injEq, Prod.mk.injEq] at h; obtain ⟨rfl, rfl, rfl⟩ := h
            exact ⟨_, rfl, by simp only [keepA, hc.1, hrow, flag_and3 hc.2], _, rfl, rfl⟩
          · cases h
      · cases h
    | nil => simp [outA] at h
    | junk => simp [outA] at h
theorem ofAV_keep {t : Ty} {v : AV} {x y : aden t} (h : ofAV t v = some x) (hg : (aggAV v == t.agg) = true) (hk : keepA lk ren lo t x = some y) : keepV lk ren lo v = some (toAV t y) := by
  cases v with
  | agg t' z =>
    simp only [ofAV] at h
    split at h
    · rename_i e
      subst e
      simp only [Option.some.injEq] at h; subst h
      simp only [keepV, hk]
      cases t' <;> simp [aggAV, Ty.agg] at hg <;> rfl
    · cases h
  | bool b =>
    cases t <;> simp [ofAV] at h
    subst h; simp only [keepA, Option.some.injEq] at hk; subst hk; rfl
  | int k n =>
    cases t <;> simp [ofAV] at h
    obtain ⟨rfl, rfl⟩ := h; simp only [keepA, Option.some.injEq] at hk; subst hk; rfl
  | str s =>
    cases t <;> simp [ofAV] at h
    subst h; simp only [keepA, Option.some.injEq] at hk; subst hk; rfl
  | sl e f xs =>
    cases t <;> simp only [ofAV] at h <;> try cases h
    rename_i e'
    split at h
    · rename_i he; subst he
      simp only [Option.some.injEq] at h; subst h
      simp only [keepA, Option.some.injEq] at hk; subst hk; rfl
    · cases h
  | nil =>
    cases t <;> simp [ofAV] at h
    subst h; simp only [keepA, Option.some.injEq] at hk; subst hk; rfl
  | ref e l off len wh =>
    cases t <;> simp only [ofAV] at h <;> try cases h
    rename_i e'
    split at h
    · rename_i he; subst he
      simp only [Option.some.injEq] at h; subst h
      cases hn : newOf ren l with
      | none =>
        simp only [keepA, hn] at hk
        simp only [keepV, hn]
        split at hk
        · rename_i hr
          simp only [Option.some.injEq] at hk; subst hk; rfl
        · cases hk
      | some n =>
        simp only [keepA, hn] at hk
        simp only [keepV, hn]
        split at hk
        · rename_i hw
          split at hk
          · rename_i hr
            simp only [Option.some.injEq] at hk; subst hk; simp only [hr, hw, if_true]; rfl
          · cases hk
        · rename_i hw
          simp only [Option.some.injEq] at hk; subst hk; rw [if_neg hw]; rfl
    · cases h
  | func f caps =>
    cases caps with
    | nil =>
      cases t <;> simp [ofAV] at h
      subst h; simp only [keepA, Option.some.injEq] at hk; subst hk; rfl
    | cons a b => simp [ofAV] at h
  | nilFunc =>
    cases t <;> simp [ofAV] at h
    subst h; simp only [keepA, Option.some.injEq] at hk; subst hk; rfl
  | _ => simp [ofAV] at h
theorem keepVs_append : ∀ {a b : List AV} {u v : List AV}, keepVs lk ren lo a = some u → keepVs lk ren lo b = some v → keepVs lk ren lo (a ++ b) = some (u ++ v)
  | [], b, u, v, h, h' => by simp only [keepVs, Option.some.injEq] at h; subst h; exact h'
  | p :: a, b, u, v, h, h' => by
    simp only [keepVs, List.cons_append] at h ⊢
    split at h
    · rename_i o os e1 e2
      simp only [Option.some.injEq] at h; subst h
      simp only [e1, keepVs_append e2 h', List.cons_append]
    · cases h
theorem cstA_eq : ∀ {t : Ty} {x y : aden t}, cstA t x y = true → x = y ∧ keepA lk ren lo t x = some x
  | .pair a b, x, y, h => by
    simp only [cstA, Bool.and_eq_true] at h
    obtain ⟨h1, h2⟩ := cstA_eq h.1
    obtain ⟨h3, h4⟩ := cstA_eq h.2
    exact ⟨Prod.ext h1 h3, by simp only [keepA, h2, h4]⟩
  | .unit, _, _, _ => ⟨rfl, rfl⟩
  | .fn, x, y, h => by
    simp only [cstA] at h
    refine ⟨?_, rfl⟩
    split at h
    · rw [beq_iff_eq] at h; rw [h]
    · rfl
    · cases h
  | .int _, _, _, h => by cases h
  | .bool, _, _, h => by cases h
  | .str, _, _, h => by cases h
  | .arr _ _, _, _, h => by cases h
  | .slice _, _, _, h => by cases h
theorem cstV_keep {u v : AV} (h : cstV u v = true) : keepV lk ren lo u = some v := by
  unfold cstV at h
  split at h
  · split at h
    · rename_i e
      subst e
      obtain ⟨h1, h2⟩ := cstA_eq (lk := lk) (ren := ren) (lo := lo) h
      simp only at h1
      simp only [keepV, ← h1, h2]
    · cases h
  · rw [beq_iff_eq] at h; subst h; rfl
  · rfl
  · cases h
theorem inj_unj {fr : Bool} : ∀ {t : Ty} {y : aden t} {u : pden t}, unj t y = some u → allFrA fr t y = true → inj fr t u = y
  | .int _, y, u, h, _ => by simp only [unj, Option.some.injEq] at h; subst h; rfl
  | .bool, y, u, h, _ => by simp only [unj, Option.some.injEq] at h; subst h; rfl
  | .str, y, u, h, _ => by simp only [unj, Option.some.injEq] at h; subst h; rfl
  | .arr _ _, y, u, h, _ => by simp only [unj, Option.some.injEq] at h; subst h; rfl
  | .pair a b, y, u, h, hf => by
    simp only [unj] at h
    split at h
    · rename_i u1 u2 h1 h2
      simp only [Option.some.injEq] at h; subst h
      simp only [allFrA, Bool.and_eq_true] at hf
      simp only [inj, inj_unj h1 hf.1, inj_unj h2 hf.2]
    · cases h
  | .unit, y, u, h, _ => rfl
  | .slice _, y, u, h, hf => by
    cases y with
    | pure f xs =>
      simp only [unj, Option.some.injEq] at h; subst h
      simp only [allFrA, beq_iff_eq] at hf; subst hf; rfl
    | ref l off len wh => simp [unj] at h
    | nil => simp [allFrA] at hf
    | junk => simp [unj] at h
  | .fn, y, u, h, _ => by simp only [unj, Option.some.injEq] at h; subst h; rfl
theorem outI_ok {i : FI} {vs vs' : List AV} {k k' : Nat} {r : i.den} (h : outI lk ren fr i vs k = some (r, vs', k')) :
    ∃ us us1, vs = us ++ vs' ∧ keepVs lk ren (!fr) us = some us1 ∧ AVsLe us1 (encI fr i r k).vs ∧ (encI fr i r k).k = k' ∧ keepHs lk ren (!fr) i.own = some (alive (encI fr i r k).os) ∧ ∃ cs, collI lk i vs k = (cs, vs', k') ∧ keepHs lk ren (!fr) cs = some (alive (encI fr i r k).rs) := by
  cases i with
  | val t sf =>
    cases vs with
    | nil => simp [outI] at h
    | cons v vs =>
      simp only [outI] at h
      split at h
      · rename_i x hx
        split at h
        · rename_i hg
          split at h
          · rename_i u sf' k1 ho
            simp only [Option.some.injEq, Prod.mk.injEq] at h; obtain ⟨rfl, rfl, rfl⟩ := h
            obtain ⟨y, a1, a2, cs, a3, a4⟩ := outA_ok ho
            refine ⟨[v], [toAV t y], rfl, ?_, by simp only [encI, a1]; exact AVsLe.refl _, by simp only [encI, a1], by simp only [FI.own, encI, a1]; rfl, cs, by simp only [collI, hx, a3], by simp only [encI, a1]; exact a4⟩
            simp only [keepVs, ofAV_keep hx hg a2]
          · cases h
        · cases h
      · cases h
  | err T ki =>
    cases vs with
    | nil => simp [outI] at h
    | cons v vs =>
      cases v <;> simp only [outI] at h <;> try cases h
      · split at h
        · rename_i hc
          obtain ⟨rfl, rfl⟩ := hc
          simp only [Option.some.injEq, Prod.mk.injEq] at h; obtain ⟨rfl, rfl, rfl⟩ := h
          exact ⟨[_], [_], rfl, rfl, ⟨fun _ _ _ _ h => h, trivial⟩, rfl, rfl, [], rfl, rfl⟩
        · cases h
      · exact ⟨[_], [_], rfl, rfl, ⟨fun _ _ _ _ h => h, trivial⟩, rfl, rfl, [], rfl, rfl⟩
      · split at h
        · rename_i hc
          obtain ⟨rfl, rfl⟩ := hc
          simp only [Option.some.injEq, Prod.mk.injEq] at h; obtain ⟨rfl, rfl, rfl⟩ := h
          exact ⟨[_], [_], rfl, rfl, ⟨fun _ _ _ _ h => h, trivial⟩, rfl, rfl, [], rfl, rfl⟩
        · cases h
  | box j t sf =>
    simp only [outI] at h
    split at h
    · rename_i t' x hj
      split at h
      · rename_i ht
        subst ht
        split at h
        · rename_i u sf' k1 ho
          simp only [Option.some.injEq, Prod.mk.injEq] at h; obtain ⟨rfl, rfl, rfl⟩ := h
          obtain ⟨y, a1, a2, cs, a3, a4⟩ := outA_ok ho
          refine ⟨[], [], rfl, rfl, by simp only [encI, a1]; trivial, by simp only [encI, a1], ?_, cs, by simp only [collI, hj, a3], by simp only [encI, a1]; exact a4⟩
          simp only [FI.own, keepHs, hj, keepO, encI, a1, alive, List.map_cons, List.map_nil, a2]
        · cases h
      · cases h
    · cases h
  | row j e =>
    simp only [outI] at h
    split at h
    · rename_i f xs hr
      split at h
      · rename_i hf
        simp only [Option.some.injEq, Prod.mk.injEq] at h; obtain ⟨rfl, rfl, rfl⟩ := h
        refine ⟨[], [], rfl, rfl, trivial, rfl, ?_, [], by simp only [collI], rfl⟩
        simp only [FI.own, keepHs, rowOf_some hr, keepO, encI, alive, List.map_cons, List.map_nil, flag_and hf]
      · cases h
    · cases h
  | map j kt vt =>
    simp only [outI] at h
    split at h
    · rename_i k' v' es hj
      split at h
      · rename_i hc
        obtain ⟨rfl, rfl⟩ := hc
        simp only [Option.some.injEq, Prod.mk.injEq] at h; obtain ⟨rfl, rfl, rfl⟩ := h
        refine ⟨[], [], rfl, rfl, trivial, rfl, ?_, [], by simp only [collI], rfl⟩
        simp only [FI.own, keepHs, hj, keepO, encI, alive, List.map_cons, List.map_nil]
      · cases h
    · cases h
  | cmap j n =>
    simp only [outI] at h
    split at h
    · rename_i l hj
      split at h
      · rename_i hc
        simp only [Option.some.injEq, Prod.mk.injEq] at h; obtain ⟨_, rfl, rfl⟩ := h
        refine ⟨[], [], rfl, rfl, trivial, rfl, ?_, [], by simp only [collI], rfl⟩
        simp only [FI.own, keepHs, hj, keepO, keepV, newOf_beq hc, encI, alive, List.map_cons, List.map_nil]
      · cases h
    · cases h
  | cfn j f caps =>
    simp only [outI] at h
    split at h
    · rename_i g cs hj
      split at h
      · rename_i hc
        obtain ⟨rfl, hc⟩ := hc
        simp only [Option.some.injEq, Prod.mk.injEq] at h; obtain ⟨_, rfl, rfl⟩ := h
        refine ⟨[], [], rfl, rfl, trivial, rfl, ?_, [], by simp only [collI], rfl⟩
        simp only [FI.own, keepHs, hj, keepO, keepV, hc, encI, alive, List.map_cons, List.map_nil]
      · cases h
    · cases h
  | clo f t =>
    cases vs with
    | nil => simp [outI] at h
    | cons v vs =>
      cases v with
      | func g caps =>
        cases caps with
        | nil => simp [outI] at h
        | cons l r =>
          cases r with
          | cons l2 r => simp [outI] at h
          | nil =>
            simp only [outI] at h
            split at h
            · rename_i hc
              obtain ⟨rfl, hn⟩ := hc
              split at h
              · rename_i t' x hlk
                split at h
                · rename_i ht
                  subst ht
                  split at h
                  · rename_i y hy
                    split at h
                    · rename_i u hu
                      split at h
                      · rename_i hfa
                        simp only [Option.some.injEq, Prod.mk.injEq] at h; obtain ⟨rfl, rfl, rfl⟩ := h
                        refine ⟨[_], [.func g [k]], rfl, by simp only [keepVs, keepV, newAll, hn], AVsLe.refl _, rfl, rfl, [(k, l)], rfl, ?_⟩
                        simp only [keepHs, hlk, keepO, hy, encI, alive, List.map_cons, List.map_nil, inj_unj hu hfa]
                      · cases h
                    · cases h
                  · cases h
                · cases h
              · cases h
            · cases h
      | _ => simp [outI] at h
  | part e =>
    cases vs with
    | nil => simp [outI] at h
    | cons v vs =>
      cases v <;> simp only [outI] at h <;> try cases h
      rename_i e' l off len wh
      split at h
      · rename_i he
        subst he
        split at h
        · rename_i f xs hrow
          split at h
          · rename_i hc
            simp only [Bool.and_eq_true] at hc
            simp only [Option.some.injEq, Prod.mk.injEq] at h; obtain ⟨rfl, rfl, rfl⟩ := h
            have hks : keepHs lk ren (!fr) [(k, l)] = some (alive [(k, .row e' fr xs)]) := by
              simp only [keepHs, rowOf_some hrow, keepO, alive, flag_and hc.2, List.map_cons, List.map_nil]
            cases wh with
            | true =>
              refine ⟨[_], [.ref e' k 0 xs.length true], rfl, by simp only [keepVs, keepV, newOf_beq hc.1, absOf_row hrow, if_true], ⟨fun w N K v hv => ?_, trivial⟩, rfl, rfl, [(k, l)], rfl, hks⟩
              obtain ⟨n, pl, g1, g2, g3, g4⟩ := hv
              exact ⟨n, pl, g1, g2, (fun h => by cases h), g4⟩
            | false =>
              exact ⟨[_], [.ref e' k off len false], rfl, by simp only [keepVs, keepV, newOf_beq hc.1, Bool.false_eq_true, if_false], AVsLe.refl _, rfl, rfl, [(k, l)], rfl, hks⟩
          · cases h
        · cases h
      · cases h
  | cst v =>
    cases vs with
    | nil => simp [outI] at h
    | cons u vs =>
      simp only [outI] at h
      split at h
      · rename_i hc
        simp only [Option.some.injEq, Prod.mk.injEq] at h; obtain ⟨_, rfl, rfl⟩ := h
        exact ⟨[_], [v], rfl, by simp only [keepVs, cstV_keep hc], AVsLe.refl _, rfl, rfl, [], rfl, rfl⟩
      · cases h
theorem outL_ok : ∀ {is : List FI} {vs vs' : List AV} {k k' : Nat} {r : PT is}, outL lk ren fr is vs k = some (r, vs', k') →
    ∃ us us1, vs = us ++ vs' ∧ keepVs lk ren (!fr) us = some us1 ∧ AVsLe us1 (encL fr is r k).vs ∧ (encL fr is r k).k = k' ∧ keepHs lk ren (!fr) (is.flatMap FI.own) = some (alive (encL fr is r k).os) ∧
      keepHs lk ren (!fr) (collL lk is vs k) = some (alive (encL fr is r k).rs)
  | [], vs, vs', k, k', r, h => by
    simp only [outL, Option.some.injEq, Prod.mk.injEq] at h; obtain ⟨_, rfl, rfl⟩ := h
    exact ⟨[], [], rfl, rfl, trivial, rfl, rfl, rfl⟩
  | [a], vs, vs', k, k', r, h => by
    simp only [outL] at h
    obtain ⟨us, us1, h1, h2, h2', h3, h4, cs, h5, h6⟩ := outI_ok h
    refine ⟨us, us1, h1, h2, h2', h3, ?_, ?_⟩
    · simp only [List.flatMap_cons, List.flatMap_nil, List.append_nil]; exact h4
    · simp only [collL, h5, List.append_nil]; exact h6
  | a :: b :: q, vs, vs', k, k', r, h => by
    simp only [outL] at h
    split at h
    · rename_i x vs1 k1 ho
      split at h
      · rename_i y vs2 k2 hl
        simp only [Option.some.injEq, Prod.mk.injEq] at h; obtain ⟨rfl, rfl, rfl⟩ := h
        obtain ⟨us, us1, h1, h2, h2', h3, h4, cs, h5, h6⟩ := outI_ok ho
        obtain ⟨us', us1', g1, g2, g2', g3, g4, g5⟩ := outL_ok hl
        subst h3
        refine ⟨us ++ us', us1 ++ us1', by rw [h1, g1, List.append_assoc], keepVs_append h2 g2, ?_, g3, ?_, ?_⟩
        · simp only [encL]; exact h2'.append g2'
        · rw [List.flatMap_cons]; simp only [encL, alive_append]; exact keepHs_append h4 g4
        · rw [collL, h5]; simp only [encL, alive_append]; exact keepHs_append h6 g5
      · cases h
    · cases h
theorem keepVs_tv {res : TV} {us : List AV} (ht : tvOf (tvs res) = res) (h : keepVs lk ren lo (tvs res) = some us) : keepTV lk ren lo res = some (tvOf us) := by
  cases res with
  | one v =>
    simp only [tvs, keepVs] at h
    simp only [keepTV]
    split at h
    · rename_i u us' e1 e2
      simp only [Option.some.injEq] at e2 h; subst e2; subst h
      simp only [e1, tvOf]
    · cases h
  | tup vs =>
    simp only [tvs] at h ht
    simp only [keepTV, h]
    have : ∀ u, us ≠ [u] := by
      rintro u rfl
      cases vs with
      | nil => simp [keepVs] at h
      | cons a r => cases r with
        | nil => simp [tvOf] at ht
        | cons b q =>
          simp only [keepVs] at h
          split at h
          · rename_i e1 e2
            split at e2
            · simp only [Option.some.injEq] at e2; subst e2; simp at h
            · cases e2
          · cases h
    unfold tvOf
    split
    · rename_i v; exact absurd rfl (this v)
    · rfl
theorem tvOf_le : ∀ {as bs : List AV}, AVsLe as bs → TVle (tvOf as) (tvOf bs)
  | [], [], h => h
  | [_], [_], h => h.1
  | _ :: _ :: _, _ :: _ :: _, h => h
  | [_], _ :: _ :: _, h => h.2.elim
  | _ :: _ :: _, [_], h => h.2.elim
  | [], _ :: _, h => h.elim
  | _ :: _, [], h => h.elim
theorem resTV_tv {σ : St} {rs : List ResultVar} {res : TV} (h : resTV P σ rs = some res) : tvOf (tvs res) = res := by
  unfold resTV at h
  split at h
  · simp only [Option.some.injEq] at h; subst h; rfl
  · rename_i vs hv hn
    simp only [Option.some.injEq] at h; subst h
    simp only [tvs]
    unfold tvOf
    split
    · rename_i v; exact absurd rfl (hv v)
    · rfl
  · cases h
theorem Fm.fin_ok {F : Fm} {rs : List ResultVar} {s : Pos} {r : F.R} (h : F.fin P rs s = some r) :
    ∃ res0 res1 ren nx lo, resTV P s.st rs = some res0 ∧ renOk ren nx = true ∧ keepTV (lkOf s.st.heap) ren lo res0 = some res1 ∧ TVle res1 (F.res r) ∧ keepHs (lkOf s.st.heap) ren lo ren = some (alive (F.post r)) := by
  unfold Fm.fin at h
  split at h
  · rename_i res0 hres
    simp only at h
    split at h
    · rename_i hok
      split at h
      · rename_i r' k' ho
        simp only [Option.some.injEq] at h; subst h
        obtain ⟨us, us1, h1, h2, h2', h3, h4, h5⟩ := outL_ok ho
        rw [List.append_nil] at h1
        rw [← h1] at h2
        refine ⟨res0, _, _, _, _, hres, hok, keepVs_tv (resTV_tv hres) h2, tvOf_le h2', ?_⟩
        simp only [Fm.post, alive_append]
        exact keepHs_append h4 h5
      · cases h
    · cases h
  · cases h
end
end Go.Ab

/-
  What a function computes, as a plain function: the machine's own runs, with what is open left open.
-/
set_option linter.unusedVariables false
set_option linter.unusedSimpArgs false
namespace Go.Ab
open Go
structure Summ (P : Program) (GT : GTab) where
  f : Nat
  acc : List AV → Bool
  rows : Bool
  nils : Bool
  R : Type
  fn : List AV → List (Nat × Obj) → Option R
  res : R → TV
  post : R → List (Nat × Obj)
  drop : Bool := false
  ok : ∀ as pre r, fn as pre = some r → CallOK P GT f as pre (res r) (post r)
@[reducible] def Summ.dropping {P : Program} {GT : GTab} (S : Summ P GT) : Summ P GT := { S with drop := true }
def pickS {P : Program} {GT : GTab} (f : Nat) (vs : List AV) : List (Summ P GT) → Option (Summ P GT)
  | [] => none
  | S :: r => if S.f == f && S.acc vs then some S else pickS f vs r
theorem pickS_f {P : Program} {GT : GTab} {f : Nat} {vs : List AV} : ∀ {tab : List (Summ P GT)} {S : Summ P GT}, pickS f vs tab = some S → S.f = f
  | [], S, h => by cases h
  | T :: r, S, h => by
    simp only [pickS] at h
    split at h
    · rename_i hc
      simp only [Option.some.injEq] at h; subst h
      simp only [Bool.and_eq_true, beq_iff_eq] at hc; exact hc.1
    · exact pickS_f h
inductive Tr : Type 1
  | bit (b : Bool) (t e : Tr)
  | safe (p : Prop) (t : Tr)
  | call (R : Type) (v : Option R) (k : R → Tr)
  | any (R : Type) (p : R → Prop) (k : R → Tr)
  | leaf (s : Pos)
  | ret (s : Pos)
  | dead
@[reducible] noncomputable def gd {R : Type} (p : Prop) (x : Option R) : Option R := @ite _ p (Classical.propDecidable p) x none
theorem gd_pos {R : Type} {p : Prop} (h : p) (x : Option R) : gd p x = x := if_pos h
theorem gd_some {R : Type} {p : Prop} {x : Option R} {r : R} (h : gd p x = some r) : p ∧ x = some r := by
  unfold gd at h
  split at h
  · exact ⟨by assumption, h⟩
  · cases h
open Classical in
noncomputable def anyv {X R : Type} (p : X → Prop) (f : X → Option R) : Option R :=
  if h : (∃ x, p x) ∧ ∃ r, ∀ x, p x → f x = some r then some (Classical.choose h.2) else none
theorem anyv_some {X R : Type} {p : X → Prop} {f : X → Option R} {r : R} (h : anyv p f = some r) : ∀ x, p x → f x = some r := by
  unfold anyv at h
  split at h
  · rename_i hh
    simp only [Option.some.injEq] at h
    exact h ▸ Classical.choose_spec hh.2
  · cases h
theorem anyv_eq {X R : Type} {p : X → Prop} {f : X → Option R} {r : R} (x : X) (hx : p x) (h : ∀ x, p x → f x = some r) : anyv p f = some r := by
  have hh : (∃ x, p x) ∧ ∃ r, ∀ x, p x → f x = some r := ⟨⟨x, hx⟩, r, h⟩
  unfold anyv
  rw [dif_pos hh]
  have := Classical.choose_spec hh.2 x hx
  rw [h x hx] at this
  exact this.symm
theorem anyv_ex {X R : Type} {p : X → Prop} {f : X → Option R} {r : R} (h : anyv p f = some r) : ∃ x, p x := by
  unfold anyv at h
  split at h
  · rename_i hh; exact hh.1
  · cases h
noncomputable def den {R : Type} (lf fin : Pos → Option R) : Tr → Option R
  | .bit b t e => if b = true then den lf fin t else den lf fin e
  | .safe p t => gd p (den lf fin t)
  | .call _ v k => v.bind fun r => den lf fin (k r)
  | .any _ p k => anyv p fun x => den lf fin (k x)
  | .leaf s => lf s
  | .ret s => fin s
  | .dead => none
def handV (rows : Bool) : AV → List Nat
  | .ptr _ l _ => [l]
  | .ifp _ _ l _ => [l]
  | .cslice _ l _ => [l]
  | .cptr l => [l]
  | .func _ caps => caps
  | .mapr l => [l]
  | .ref _ l _ _ _ => if rows then [l] else []
  | .bref _ l _ _ _ _ => if rows then [l] else []
  | .agg t x => if rows then locsA t x else []
  | _ => []
def handO (rows : Bool) : Obj → List Nat
  | .box t x => if rows then locsA t x else []
  | .cell v => handV rows v
  | _ => []
def reachL (lk : Look) (rows : Bool) : Nat → List Nat → List Nat → List Nat
  | 0, _, acc => acc
  | _, [], acc => acc
  | n + 1, l :: q, acc => if acc.contains l then reachL lk rows n q acc else reachL lk rows n (q ++ (match lk l with
    | some o => handO rows o
    | none => [])) (acc ++ [l])
def enum : Nat → List Nat → List (Nat × Nat)
  | _, [] => []
  | n, l :: r => (n, l) :: enum (n + 1) r
def condT : List Prop → Tr → Tr
  | [], t => t
  | p :: r, t => .safe p (condT r t)
def decideT (g : Bool) (v : TV) (k : TV → Tr) : Tr :=
  if g then match v with
    | .one (.bool b) => .bit b (k (.one (.bool true))) (k (.one (.bool false)))
    | _ => .dead
  else k v
section
variable (P : Program) (GT : GTab) (nt : Nat) (mnz : List Nat) (tab : List (Summ P GT))
def callT (H : Look) (nl : Nat) (ev : Operand → TV) (op : Op) (k : Out → List Nat → Tr) : Tr :=
  match op with
  | .call { callee := .value f, args, argTypes := _ } => match ev1 ev f, evs ev args.toList with
    | some (.func f caps), some vs0 => match capsAV (restrict H (needs ev op)) caps with
      | some cs => match pickS f (vs0 ++ cs) tab with
        | some S =>
          let locs := reachL H S.rows 60 ((vs0 ++ cs).flatMap (handV S.rows)) []
          let ren := enum 0 locs
          let use := (vs0 ++ cs).flatMap locsV ++ locs.flatMap fun l => match H l with
            | some o => locsO o
            | none => []
          let L := needs ev op ++ (ren.map (·.2) ++ use)
          match keepVs (restrict H L) ren true (vs0 ++ cs), keepHs (restrict H L) ren true ren with
          | some pv, some hl => match unalive hl with
            | some pre => .call S.R (S.fn ((if S.nils then pv else nilTo P (paramTys P f) pv)) pre) fun r =>
              match callOut P GT (restrict H L) nl f (vs0 ++ cs) ⟨(if S.nils then pv else nilTo P (paramTys P f) pv), pre, ren, use, S.res r, S.post r, S.drop⟩ with
              | some out => k out L
              | none => .dead
            | none => .dead
          | _, _ => .dead
        | none => .dead
      | none => .dead
    | _, _ => .dead
  | _ => .dead
def opT (ops : List Oper) (T : Nat → TV) (H : Look) (nl i : Nat) (o : Oper) (k : Ev → Tr) : Tr :=
  match wants ops T o with
  | some false => k ⟨.one .gone, [], []⟩
  | none => .dead
  | some true =>
    if isCall o.op then callT P GT tab H nl (evT GT T) o.op fun out L => decideT (guards ops i) out.v fun v => k ⟨v, out.upd, L⟩
    else match opOut P GT (evT GT T) (restrict H (needs (evT GT T) o.op)) nl none o.type o.op with
      | some out => condT out.conds (decideT (guards ops i) out.v fun v => k ⟨v, out.upd, needs (evT GT T) o.op⟩)
      | none => .dead
def opN (draw : Bool) (ops : List Oper) (T : Nat → TV) (H : Look) (nl i : Nat) (o : Oper) (k : Ev → Tr) : Tr :=
  match (if draw then none else match wants ops T o with
    | some true => anyOut P mnz (evT GT T) nl o.op
    | _ => none) with
  | some a => condT a.pre (.any a.R a.p fun x => decideT (guards ops i) (a.out x).v fun v => k ⟨v, (a.out x).upd, []⟩)
  | none => opT P GT tab ops T H nl i o k
def opsT (draw : Bool) (ops : List Oper) : Nat → List Oper → St → (St → List (Oper × Ev) → Tr) → Tr
  | _, [], σ, k => k σ []
  | i, o :: r, σ, k => opN P GT mnz tab draw ops (keepT (o.looksAt ops.toArray) σ.look) (lkOf σ.heap) (σ.next + 8 * i) i o fun e =>
    if dstOk nt o.dst then opsT draw ops (i + 1) r (σ.put o.dst e) fun σ' tr => k σ' ((o, e) :: tr) else .dead
def regionT (ops : List Oper) (draw : Bool) (σ : St) (k : St → Tr) : Tr :=
  opsT P GT nt mnz tab draw ops 0 ops σ fun σ' tr => if !draw || drawOk ops tr then k { σ' with next := σ.next + 8 * ops.length } else .dead
def stepT (s : Pos) (k : Pos → Tr) : Tr :=
  match s.todo with
  | .code .skip :: q | .code (.label _) :: q | .inBlock _ :: q | .inScope _ :: q => k ⟨q, s.st⟩
  | .code (.scope body) :: q => k ⟨.code body :: .inScope body :: q, s.st⟩
  | .code (.seq a b) :: q => k ⟨.code a :: .code b :: q, s.st⟩
  | .code (.cond c x y) :: q => match evO GT s.st c with
    | .one (.bool b) => .bit b (k ⟨.code x :: q, s.st⟩) (k ⟨.code y :: q, s.st⟩)
    | _ => .dead
  | .code (.block id body) :: q => k ⟨.code body :: .inBlock id :: q, s.st⟩
  | .code (.loop body) :: q | .inLoop body :: q => k ⟨.code body :: .inLoop body :: q, s.st⟩
  | .code (.exit id) :: q => match exitTo id q with
    | some q' => k ⟨q', s.st⟩
    | none => .dead
  | .code (.goto l) :: q => match gotoIn l q with
    | some q' => k ⟨q', s.st⟩
    | none => .dead
  | .code (.region _ ops draw) :: q => regionT P GT nt mnz tab ops.toList draw s.st fun σ => k ⟨q, σ⟩
  | _ => .dead
structure Cut where
  key : Nat × Nat
  ts : List Nat
  lo : Bool
  pre : Bool := false
  fams : List Nat := []
def headId : Code → Option Nat
  | .region id _ _ => some id
  | .seq a b => match headId a with
    | some i => some i
    | none => headId b
  | .cond _ a b => match headId a with
    | some i => some i
    | none => headId b
  | .block _ b => headId b
  | .loop b => headId b
  | .scope b => headId b
  | _ => none
def keyAt (todo : List Item) : Nat × Nat :=
  match todo with
  | .code c :: q => match headId c with
    | some i => (i, q.length)
    | none => (0, 0)
  | _ => (0, 0)
def findCut (key : Nat × Nat) : List Cut → Option Cut
  | [] => none
  | c :: r => if c.key.1 == key.1 && c.key.2 == key.2 then some c else findCut key r
def keepSt (σ : St) (ts : List Nat) (lo pre : Bool) : Option St :=
  let lk := lkOf σ.heap
  let locs := reachL lk true 60 ((if pre then (List.range 8).filter fun l => (lk l).isSome else []) ++ ts.flatMap fun t => locsT (σ.look t)) []
  let ren := (locs.filter (· < 8)).map (fun l => (l, l)) ++ enum 8 (locs.filter fun l => !(l < 8))
  σ.keep ts ren (8 + locs.length) lo
def famO : Option Obj → Option Obj
  | some (.row (.slice e) fr []) => if e.flat then some (.fam e []) else some (.row (.slice e) fr [])
  | o => o
def famH (ns : List Nat) : List (Nat × Option Obj) → List (Nat × Option Obj)
  | [] => []
  | p :: r => (if ns.contains p.1 then (p.1, famO p.2) else p) :: famH ns r
def famSt (σ : St) (ns : List Nat) : St := match ns with
  | [] => σ
  | ns => { σ with heap := famH ns σ.heap }
def cutT (c : Cut) (s : Pos) : Tr :=
  match keepSt s.st c.ts c.lo c.pre with
  | some σ => .leaf ⟨s.todo, famSt σ c.fams⟩
  | none => .dead
def isHead (todo : List Item) : Option (List Item) :=
  match todo with
  | .code (.loop body) :: q | .inLoop body :: q => some (.code body :: .inLoop body :: q)
  | .code (.goto l) :: q => gotoIn l q
  | _ => none
def treeT (cuts : List Cut) : Nat → Bool → Pos → Tr
  | 0, _, _ => .dead
  | n + 1, first, s =>
    match isRet s.todo with
    | true => .ret s
    | false => match isHead s.todo with
      | some todo' => match findCut (keyAt todo') cuts with
        | some c => cutT c ⟨todo', s.st⟩
        | none => treeT cuts n false ⟨todo', s.st⟩
      | none => match first, s.todo with
        | false, .code (.region id _ _) :: q => match findCut (id, q.length) cuts with
          | some c => cutT c s
          | none => stepT P GT nt mnz tab s (treeT cuts n false)
        | _, _ => stepT P GT nt mnz tab s (treeT cuts n false)
end
structure FnI (P : Program) (GT : GTab) where
  f : Nat
  cuts : List Cut
  tab : List (Summ P GT)
  fm : Fm
  mnz : List Nat := []
  mnzOk : ∀ f ∈ mnz, IsMNZ P f := by intro f h; cases h
section
variable {P : Program} {GT : GTab} (I : FnI P GT)
noncomputable def FnI.go (s : Pos) (lf : Pos → Option I.fm.R) : Option I.fm.R :=
  den lf (I.fm.fin P (rsOf P I.f)) (treeT P GT (tmpsOf P I.f) I.mnz I.tab I.cuts 3000 true s)
inductive FnI.SemR (r : I.fm.R) : Pos → Prop
  | mk (s : Pos) (lf : Pos → Option I.fm.R) (h : I.go s lf = some r) (hl : ∀ s', lf s' = some r → SemR r s') : SemR r s
open Classical in
noncomputable def FnI.sem (s : Pos) : Option I.fm.R :=
  if h : ∃ r, I.SemR r s then some (Classical.choose h) else none
end
def Lfs {R : Type} (lf fin : Pos → Option R) (r : R) : Tr → Pos → Prop
  | .bit b t e, s => if b = true then Lfs lf fin r t s else Lfs lf fin r e s
  | .safe _ t, s => Lfs lf fin r t s
  | .call R' v k, s => ∃ x, v = some x ∧ Lfs lf fin r (k x) s
  | .any R' p k, s => ∃ x, p x ∧ Lfs lf fin r (k x) s
  | .leaf s', s => s' = s
  | .ret _, _ => False
  | .dead, _ => False
theorem den_leaf {R : Type} {lf fin : Pos → Option R} {r : R} : ∀ {t : Tr}, den lf fin t = some r → ∀ s, Lfs lf fin r t s → lf s = some r
  | .bit b t e, h, s, hs => by
    simp only [den] at h
    simp only [Lfs] at hs
    split at h
    · rename_i hb; rw [if_pos hb] at hs; exact den_leaf h s hs
    · rename_i hb; rw [if_neg hb] at hs; exact den_leaf h s hs
  | .safe p t, h, s, hs => den_leaf (gd_some h).2 s hs
  | .call R' v k, h, s, ⟨x, hx, hs⟩ => by
    simp only [den, hx, Option.bind_some] at h
    exact den_leaf h s hs
  | .any R' p k, h, s, ⟨x, hx, hs⟩ => den_leaf (anyv_some h x hx) s hs
  | .leaf s', h, s, hs => by subst hs; exact h
  | .ret _, h, s, hs => hs.elim
  | .dead, h, s, hs => hs.elim
theorem den_of {R : Type} {lf lf' fin : Pos → Option R} {r : R} : ∀ {t : Tr}, den lf fin t = some r → (∀ s, Lfs lf fin r t s → lf' s = some r) → den lf' fin t = some r
  | .bit b t e, h, hs => by
    simp only [den] at h ⊢
    split at h
    · rename_i hb
      rw [if_pos hb]
      exact den_of h (fun s q => hs s (by simp only [Lfs]; rw [if_pos hb]; exact q))
    · rename_i hb
      rw [if_neg hb]
      exact den_of h (fun s q => hs s (by simp only [Lfs]; rw [if_neg hb]; exact q))
  | .safe p t, h, hs => by
    obtain ⟨hp, h⟩ := gd_some h
    simp only [den]
    rw [gd_pos hp]
    exact den_of h hs
  | .call R' v k, h, hs => by
    simp only [den, Option.bind_eq_some_iff] at h ⊢
    obtain ⟨x, hx, h⟩ := h
    exact ⟨x, hx, den_of h (fun s q => hs s ⟨x, hx, q⟩)⟩
  | .any R' p k, h, hs => by
    simp only [den] at h ⊢
    obtain ⟨x, hx⟩ := anyv_ex h
    exact anyv_eq x hx (fun y hy => den_of (anyv_some h y hy) (fun s q => hs s ⟨y, hy, q⟩))
  | .leaf s', h, hs => hs s' rfl
  | .ret _, h, hs => h
  | .dead, h, hs => by cases h
theorem den_det {R : Type} {lf lf' fin : Pos → Option R} {r r' : R} : ∀ {t : Tr}, den lf fin t = some r → den lf' fin t = some r' → r = r' ∨ ∃ s, lf s = some r ∧ lf' s = some r'
  | .bit b t e, h, h' => by
    simp only [den] at h h'
    split at h
    · rename_i hb; rw [if_pos hb] at h'; exact den_det h h'
    · rename_i hb; rw [if_neg hb] at h'; exact den_det h h'
  | .safe p t, h, h' => den_det (gd_some h).2 (gd_some h').2
  | .call R' v k, h, h' => by
    simp only [den, Option.bind_eq_some_iff] at h h'
    obtain ⟨x, hx, h⟩ := h
    obtain ⟨x', hx', h'⟩ := h'
    rw [hx] at hx'
    simp only [Option.some.injEq] at hx'
    subst hx'
    exact den_det h h'
  | .any R' p k, h, h' => by
    simp only [den] at h h'
    obtain ⟨x, hx⟩ := anyv_ex h
    exact den_det (anyv_some h x hx) (anyv_some h' x hx)
  | .leaf s', h, h' => .inr ⟨s', h, h'⟩
  | .ret _, h, h' => by
    simp only [den] at h h'
    rw [h] at h'
    exact .inl (by simpa using h')
  | .dead, h, h' => by cases h
section
variable {P : Program} {GT : GTab} {I : FnI P GT}
theorem FnI.SemR.det {r r' : I.fm.R} {s : Pos} (h : I.SemR r s) : I.SemR r' s → r = r' := by
  induction h with
  | mk s lf h hl ih =>
    rintro ⟨_, lf', h', hl'⟩
    rcases den_det h h' with e | ⟨s', h1, h2⟩
    · exact e
    · exact ih s' h1 (hl' s' h2)
theorem FnI.sem_iff {s : Pos} {r : I.fm.R} : I.sem s = some r ↔ I.SemR r s := by
  unfold FnI.sem
  constructor
  · intro h
    split at h
    · rename_i he
      simp only [Option.some.injEq] at h
      exact h ▸ Classical.choose_spec he
    · cases h
  · intro h
    have he : ∃ r, I.SemR r s := ⟨r, h⟩
    rw [dif_pos he]
    exact congrArg some ((Classical.choose_spec he).det h)
theorem FnI.sem_eq (s : Pos) : I.sem s = I.go s I.sem := by
  have key : ∀ r, I.sem s = some r ↔ I.go s I.sem = some r := by
    intro r
    constructor
    · intro h
      obtain ⟨_, lf, h, hl⟩ := FnI.sem_iff.1 h
      exact den_of h (fun s' hs => FnI.sem_iff.2 (hl s' (den_leaf h s' hs)))
    · intro h
      exact FnI.sem_iff.2 ⟨s, I.sem, h, fun s' hs => FnI.sem_iff.1 hs⟩
  cases h : I.go s I.sem with
  | some r => exact (key r).2 h
  | none =>
    cases h' : I.sem s with
    | none => rfl
    | some r => rw [(key r).1 h'] at h; cases h
variable {nt : Nat} {mnz : List Nat} {tab : List (Summ P GT)} {R : Type} {lf fin : Pos → Option R} {r : R}
theorem allP_append' : ∀ {a b : List Prop}, allP a → allP b → allP (a ++ b)
  | [], _, _, h => h
  | _ :: _, _, h, h' => ⟨h.1, allP_append' h.2 h'⟩
theorem condT_ok : ∀ {cs : List Prop} {t : Tr}, den lf fin (condT cs t) = some r → allP cs ∧ den lf fin t = some r
  | [], _, h => ⟨trivial, h⟩
  | p :: q, t, h => by
    simp only [condT, den] at h
    obtain ⟨hp, h⟩ := gd_some h
    obtain ⟨h1, h2⟩ := condT_ok h
    exact ⟨⟨hp, h1⟩, h2⟩
theorem decideT_ok {g : Bool} {v : TV} {k : TV → Tr} (h : den lf fin (decideT g v k) = some r) :
    ∃ v' c os, (∀ rest, decideV g v (os ++ rest) = some (v', c, rest)) ∧ allP c ∧ den lf fin (k v') = some r := by
  unfold decideT at h
  split at h
  · rename_i hg
    split at h
    · rename_i b
      simp only [den] at h
      split at h
      · rename_i hb
        exact ⟨.one (.bool true), [b = true], [.bit true], fun rest => by simp [decideV, hg], ⟨hb, trivial⟩, h⟩
      · rename_i hb
        simp only [Bool.not_eq_true] at hb
        exact ⟨.one (.bool false), [b = false], [.bit false], fun rest => by simp [decideV, hg], ⟨hb, trivial⟩, h⟩
    · cases h
  · rename_i hg
    exact ⟨v, [], [], fun rest => by simp [decideV, hg], trivial, h⟩
theorem capsAV_mono {lk lk' : Look} (hs : ∀ l o, lk l = some o → lk' l = some o) : ∀ {ls : List Nat} {cs : List AV}, capsAV lk ls = some cs → capsAV lk' ls = some cs
  | [], cs, h => h
  | l :: q, cs, h => by
    simp only [capsAV] at h ⊢
    split at h
    · rename_i h1 h2
      rw [hs _ _ h1, capsAV_mono hs h2]; exact h
    · rename_i h1 h2
      rw [hs _ _ h1, capsAV_mono hs h2]; exact h
    · cases h
theorem opT_ok {ops : List Oper} {T : Nat → TV} {H : Look} {nl i : Nat} {o : Oper} {k : Ev → Tr} (h : den lf fin (opT P GT tab ops T H nl i o k) = some r) :
    ∃ e c os, (∀ rest, evOf P GT ops T H nl i o (os ++ rest) = some (e, c, rest)) ∧ allP c ∧ den lf fin (k e) = some r := by
  unfold opT at h
  split at h
  · rename_i hw
    exact ⟨_, [], [], fun rest => by simp [evOf, hw], trivial, h⟩
  · cases h
  · rename_i hw
    split at h
    · rename_i hcall
      unfold callT at h
      split at h
      · rename_i f args ats hop
        split at h
        · rename_i f caps vs0 hf hvs
          split at h
          · rename_i cs hcs
            split at h
            · rename_i S hS
              simp only at h
              split at h
              · rename_i pv hl hpv hhl
                split at h
                · rename_i pre hpre
                  simp only [den, Option.bind_eq_some_iff] at h
                  obtain ⟨x, hx, h⟩ := h
                  split at h
                  · rename_i out hout
                    obtain ⟨v', c, os, h1, h2, h3⟩ := decideT_ok h
                    let oc : COrc := ⟨(if S.nils then pv else nilTo P (paramTys P f) pv), pre, enum 0 (reachL H S.rows 60 ((vs0 ++ cs).flatMap (handV S.rows)) []), ((vs0 ++ cs).flatMap locsV ++ (reachL H S.rows 60 ((vs0 ++ cs).flatMap (handV S.rows)) []).flatMap fun l => match H l with
                      | some o => locsO o
                      | none => []), S.res x, S.post x, S.drop⟩
                    refine ⟨_, c ++ out.conds, .call oc :: os, fun rest => ?_, allP_append' h2 ?_, h3⟩
                    · simp only [evOf, hw, runOp, List.cons_append]
                      have ht : takeCall o.op (.call oc :: (os ++ rest)) = some (some oc, os ++ rest) := by
                        simp only [takeCall, hcall, if_true]
                      rw [ht]
                      simp only [orcLocs, hop, opOut, hf, hvs]
                      rw [capsAV_mono (fun l ob hlo => ?_) hcs]
                      · simp only
                        rw [hop] at hout
                        rw [hout]
                        simp only [h1]
                        rfl
                      · rw [hop] at hlo
                        unfold restrict at hlo ⊢
                        split at hlo
                        · rename_i hm
                          simp only [List.contains_eq_mem, List.mem_append, decide_eq_true_eq] at hm ⊢
                          rw [if_pos (.inl hm)]; exact hlo
                        · cases hlo
                    · have hA : ∀ as, (if S.nils then pv else nilTo P (paramTys P f) pv) = as → as = nilTo P (paramTys P f) pv ∨ as = pv := by
                        rintro as rfl
                        cases S.nils
                        · exact .inl rfl
                        · exact .inr rfl
                      unfold callOut at hout
                      simp only at hout
                      generalize hAs : (if S.nils then pv else nilTo P (paramTys P f) pv) = as at hout hx
                      rw [hpv, hhl] at hout
                      simp only at hout
                      split at hout
                      · injection hout with hout; subst hout
                        refine ⟨hA _ hAs, unalive_spec hpre, ?_, trivial⟩
                        have := S.ok _ _ _ hx
                        rwa [pickS_f hS] at this
                      · cases hout
                  · cases h
                · cases h
              · cases h
            · cases h
          · cases h
        · cases h
      · cases h
    · rename_i hcall
      split at h
      · rename_i out hout
        obtain ⟨h0, h⟩ := condT_ok h
        obtain ⟨v', c, os, h1, h2, h3⟩ := decideT_ok h
        refine ⟨_, c ++ out.conds, os, fun rest => ?_, allP_append' h2 h0, h3⟩
        simp only [Bool.not_eq_true] at hcall
        simp only [evOf, hw, runOp, takeCall, hcall, orcLocs, List.append_nil, Bool.false_eq_true, if_false]
        rw [hout]
        simp only [h1]
      · cases h
theorem opN_draw {ops : List Oper} {T : Nat → TV} {H : Look} {nl i : Nat} {o : Oper} {k : Ev → Tr} : opN P GT mnz tab true ops T H nl i o k = opT P GT tab ops T H nl i o k := rfl
theorem opsT_ok {ops : List Oper} : ∀ {q : List Oper} {i : Nat} {σ : St} {k : St → List (Oper × Ev) → Tr}, den lf fin (opsT P GT nt mnz tab true ops i q σ k) = some r →
    ∃ σ' c os tr, (∀ rest, runOps P GT nt ops i q σ (os ++ rest) = some (σ', c, rest, tr)) ∧ allP c ∧ den lf fin (k σ' tr) = some r
  | [], i, σ, k, h => ⟨σ, [], [], [], fun rest => rfl, trivial, h⟩
  | o :: q, i, σ, k, h => by
    simp only [opsT, opN_draw] at h
    obtain ⟨e, c, os, h1, h2, h3⟩ := opT_ok h
    split at h3
    · rename_i hd
      obtain ⟨σ', c', os', tr, g1, g2, g3⟩ := opsT_ok h3
      refine ⟨σ', c ++ c', os ++ os', _, fun rest => ?_, allP_append' h2 g2, g3⟩
      rw [List.append_assoc]
      simp only [runOps, h1, hd, if_true, g1]
    · cases h3
theorem regionT_ok {ops : List Oper} {σ : St} {k : St → Tr} (h : den lf fin (regionT P GT nt mnz tab ops true σ k) = some r) :
    ∃ σ' c os, (∀ rest, runRegion P GT nt ops true σ (os ++ rest) = some (σ', c, rest)) ∧ allP c ∧ den lf fin (k σ') = some r := by
  unfold regionT at h
  obtain ⟨σ', c, os, tr, h1, h2, h3⟩ := opsT_ok h
  split at h3
  · rename_i hd
    refine ⟨_, c, os, fun rest => ?_, h2, h3⟩
    simp only [runRegion, h1, hd, if_true]
  · cases h3
theorem opN_wp (hm : ∀ f ∈ mnz, IsMNZ P f) {c : Cx} {T : Nat → TV} {H : Look} {K : Kn} {a : Act} {w : World} {nl : Nat} (R0 : Rel c P GT nt T H K a w) {ops : Array Oper} {i : Nat} {o : Oper} {ts : List Nat} {k : Ev → Tr}
    (h : den lf fin (opN P GT mnz tab false ops.toList (Ab.keepT ts T) H nl i o k) = some r) (hdk : ∀ e, den lf fin (k e) = some r → dstOk nt o.dst = true)
    (hf : ∀ l, nl ≤ l → l < nl + 8 → K l = none) {next : Act → World → Prop} {Q : Exit → Act → World → Prop}
    (hn : ∀ e a' w' K', den lf fin (k e) = some r → Rel c P GT nt (putF T o.dst e.v) (updL H e.upd) K' a' w' → (∀ l, K' l = K l ∨ (nl ≤ l ∧ l < nl + 8)) → (∀ l gh, K l = some gh → K' l = some gh) → next a' w') :
    (if Region.wanted o (yielded ops a.tmps) then o.wp P a w next Q ∨ (o.asks P a w ∧ LetsOut Q) else next (a.put o.dst undef) w) := by
  unfold opN at h
  split at h
  · rename_i y hy
    simp only [Bool.false_eq_true, if_false] at hy
    split at hy
    · rename_i hw
      rw [wants_rd R0 hw]
      simp only [if_true]
      refine .inl ?_
      obtain ⟨h0, h⟩ := condT_ok h
      simp only [den] at h
      have A : At c P GT H (restrict H []) K w (Ab.evT GT (Ab.keepT ts T)) a.eval nl :=
        ⟨R0.inv, restrict_sub, fun x => R0.keepT ts x, hf, R0.ng, R0.glob, R0.gng⟩
      refine does_wp (any_sound A hm hy h0) ?_
      rintro u w' ⟨x, hx, K', S, hu⟩
      obtain ⟨v', c', os, h1, h2, h3⟩ := decideT_ok (anyv_some h x hx)
      have hv : TVRd w' (NN c (updL H (y.out x).upd) K' w') K' v' u := by
        have hdec := h1 []
        unfold decideV at hdec
        split at hdec
        · split at hdec
          · rename_i b c'' os'' hb hos
            simp only [Option.some.injEq, Prod.mk.injEq] at hdec
            obtain ⟨rfl, rfl, _⟩ := hdec
            rw [hb] at hu
            have : b = c'' := h2.1
            rw [← this]; exact hu
          · cases hdec
        · simp only [Option.some.injEq, Prod.mk.injEq] at hdec
          obtain ⟨rfl, rfl, _⟩ := hdec
          exact hu
      exact hn _ _ _ K' h3 (R0.put S hv (hdk _ h3)) S.fresh S.keep.k
    · cases hy
  · obtain ⟨e, c', os, h1, h2, h3⟩ := opT_ok h
    exact evOf_wp R0 (h1 []) h2 (hdk e h3) hf (fun a' w' K' R' q1 q2 => hn e a' w' K' h3 R' q1 q2)
theorem opsT_wp (hm : ∀ f ∈ mnz, IsMNZ P f) {c : Cx} {ops : Array Oper} {Q : Exit → Act → World → Prop} {n0 : Nat} : ∀ (q : List Oper) (i : Nat) (σ : St) (k : St → List (Oper × Ev) → Tr) (K : Kn) (a : Act) (w : World),
    den lf fin (opsT P GT nt mnz tab false ops.toList i q σ k) = some r → ops.toList.drop i = q → i + q.length = ops.size → σ.next = n0 → Rel c P GT nt σ.look (lkOf σ.heap) K a w → (∀ l, n0 + 8 * i ≤ l → K l = none) →
    (∀ σ' tr a' w' K', den lf fin (k σ' tr) = some r → σ'.next = n0 → Rel c P GT nt σ'.look (lkOf σ'.heap) K' a' w' → (∀ l, n0 + 8 * ops.size ≤ l → K' l = none) → (∀ l gh, K l = some gh → K' l = some gh) → Q .normal a' w') →
    wpOps P ops Q (List.range' i q.length) a w
  | [], i, σ, k, K, a, w, h, hr, hi, hn, R0, hf, hQ => by
    simp only [List.length_nil] at hi
    exact hQ σ [] a w K h hn R0 (fun l hl => hf l (by omega)) (fun _ _ h => h)
  | o :: q, i, σ, k, K, a, w, h, hr, hi, hn, R0, hf, hQ => by
    simp only [opsT] at h
    have hoi : ops[i]? = some o := by
      rw [← Array.getElem?_toList, ← List.head?_drop, hr]; rfl
    have hr2 : ops.toList.drop (i + 1) = q := by
      rw [← List.tail_drop, hr]; rfl
    rw [List.length_cons, List.range'_succ, wpOps_cons]
    unfold wpOp
    rw [hoi]
    refine opN_wp hm R0 h (fun e he => ?_) (fun l h1 h2 => hf l (by omega)) ?_
    · split at he
      · assumption
      · cases he
    · intro e a' w' K' he R' hk hmn
      rw [putF_look, updL_look (dst := o.dst)] at R'
      split at he
      · refine opsT_wp hm q (i + 1) (σ.put o.dst e) _ K' a' w' he hr2 (by simp only [List.length_cons] at hi; omega) hn R' (fun l hl => ?_) (fun σ' tr a'' w'' K'' g1 g2 R'' h1 h2 => hQ σ' _ a'' w'' K'' g1 g2 R'' h1 (fun l gh hl => h2 l gh (hmn l gh hl)))
        rcases hk l with h1 | h1
        · rw [h1]; exact hf l (by omega)
        · omega
      · cases he
def Leads (P : Program) (GT : GTab) (nt : Nat) (Q : Pos → Prop) (s : Pos) : Prop :=
  ∀ (c : Cx) (K : Kn) (a : Act) (w : World) (b : Frame) (cs : List Frame), RelS c P GT nt s.st K a w →
    ∃ s' K' a' w', Q s' ∧ RelS c P GT nt s'.st K' a' w' ∧ (∀ l gh, l < 8 → K l = some gh → K' l = some gh) ∧ Steps P (lone (b.at a s.todo) cs w) (lone (b.at a' s'.todo) cs w')
theorem Leads.of {Q : Pos → Prop} {s s' : Pos} (h : Reach P GT nt s s') (hq : Q s') : Leads P GT nt Q s := by
  intro c K a w b cs R0
  obtain ⟨K', a', w', h1, h2, h3⟩ := h c K a w b cs R0
  exact ⟨s', K', a', w', hq, h1, h2, h3⟩
theorem Leads.bind {Q Q' : Pos → Prop} {s : Pos} (h : Leads P GT nt Q s) (hq : ∀ s', Q s' → Leads P GT nt Q' s') : Leads P GT nt Q' s := by
  intro c K a w b cs R0
  obtain ⟨s1, K1, a1, w1, h1, h2, h3, h4⟩ := h c K a w b cs R0
  obtain ⟨s2, K2, a2, w2, g1, g2, g3, g4⟩ := hq s1 h1 c K1 a1 w1 b cs h2
  exact ⟨s2, K2, a2, w2, g1, g2, fun l gh hl hk => g3 l gh hl (h3 l gh hl hk), h4.trans g4⟩
theorem stepT_ok (hm : P.follows .mixedOrders = true) (hz : ∀ f ∈ mnz, IsMNZ P f) {s : Pos} {k : Pos → Tr} (h : den lf fin (stepT P GT nt mnz tab s k) = some r) : Leads P GT nt (fun s' => den lf fin (k s') = some r) s := by
  obtain ⟨todo, σ⟩ := s
  unfold stepT at h
  have go : ∀ {s' : Pos} {os : List Orc} {c : List Prop}, stepTo P GT nt ⟨todo, σ⟩ os = some (s', c, []) → allP c → den lf fin (k s') = some r → Leads P GT nt (fun s' => den lf fin (k s') = some r) ⟨todo, σ⟩ := fun h1 h2 h3 => .of (stepTo_sound hm h1 h2) h3
  split at h
  · rename_i q hk; simp only at hk; subst hk
    exact go (os := []) (c := []) rfl trivial h
  · rename_i q hk; simp only at hk; subst hk
    exact go (os := []) (c := []) rfl trivial h
  · rename_i q hk; simp only at hk; subst hk
    exact go (os := []) (c := []) rfl trivial h
  · rename_i q hk; simp only at hk; subst hk
    exact go (os := []) (c := []) rfl trivial h
  · rename_i q hk; simp only at hk; subst hk
    exact go (os := []) (c := []) rfl trivial h
  · rename_i q hk; simp only at hk; subst hk
    exact go (os := []) (c := []) rfl trivial h
  · rename_i x y q hk; simp only at hk; subst hk
    split at h
    · rename_i b hb
      simp only at hb
      simp only [den] at h
      split at h
      · rename_i hbt
        exact go (os := [.bit true]) (c := [b = true]) (by simp only [stepTo, hb, if_true]) ⟨hbt, trivial⟩ h
      · rename_i hbt
        simp only [Bool.not_eq_true] at hbt
        exact go (os := [.bit false]) (c := [b = false]) (by simp only [stepTo, hb, Bool.false_eq_true, if_false]) ⟨hbt, trivial⟩ h
    · cases h
  · rename_i q hk; simp only at hk; subst hk
    exact go (os := []) (c := []) rfl trivial h
  · rename_i q hk; simp only at hk; subst hk
    exact go (os := []) (c := []) rfl trivial h
  · rename_i q hk; simp only at hk; subst hk
    exact go (os := []) (c := []) rfl trivial h
  · rename_i q hk; simp only at hk; subst hk
    split at h
    · rename_i q' he
      exact go (os := []) (c := []) (by simp only [stepTo, he]) trivial h
    · cases h
  · rename_i q hk; simp only at hk; subst hk
    split at h
    · rename_i q' he
      exact go (os := []) (c := []) (by simp only [stepTo, he]) trivial h
    · cases h
  · rename_i id ops draw q hk; simp only at hk; subst hk
    cases draw with
    | true =>
      obtain ⟨σ', c, os, h1, h2, h3⟩ := regionT_ok h
      have h1' := h1 []
      rw [List.append_nil] at h1'
      exact go (os := os) (c := c) (by simp only [stepTo]; rw [h1']) h2 h3
    | false =>
      intro c K a w b cs R0
      unfold regionT at h
      have hwp : (Code.region id ops false).wp P (fun e a' w' => e = .normal ∧ ∃ σ' K', den lf fin (k ⟨q, σ'⟩) = some r ∧ RelS c P GT nt σ' K' a' w' ∧ (∀ l gh, K l = some gh → K' l = some gh)) a w := by
        refine wp_region ?_
        have := opsT_wp hz (Q := fun e a' w' => e = .normal ∧ ∃ σ' K', den lf fin (k ⟨q, σ'⟩) = some r ∧ RelS c P GT nt σ' K' a' w' ∧ (∀ l gh, K l = some gh → K' l = some gh)) (n0 := σ.next) ops.toList 0 σ _ K a w h (by simp) (by simp) rfl R0.rel (fun l hl => R0.fresh l (by omega)) (fun σ' tr a' w' K' g1 g2 R' g3 g4 => ?_)
        · rw [List.range_eq_range']
          simpa using this
        · simp only [Bool.not_false, Bool.true_or, if_true] at g1
          exact ⟨rfl, { σ' with next := σ.next + 8 * ops.toList.length }, K', g1, ⟨R', fun l hl => g3 l (by simpa using hl)⟩, g4⟩
      obtain ⟨e, a', w', ⟨rfl, σ', K', g1, R', hk⟩, harr⟩ := hwp b q cs
      exact ⟨⟨q, σ'⟩, K', a', w', g1, R', fun l gh _ hl => hk l gh hl, harr⟩
  · cases h
theorem famO_rd {w : World} {N : Bool → Nat → Prop} {K : Kn} {o : Option Obj} {ob : Obj} {gh : Gh} (h : famO o = some ob) : (∀ o0, o = some o0 → ORd w N K o0 gh) → ∃ o0, o = some o0 ∧ ORd w N K ob gh := by
  intro hr
  unfold famO at h
  split at h
  · rename_i e fr
    split at h
    · rename_i hf
      simp only [Option.some.injEq] at h; subst h
      refine ⟨_, rfl, ?_⟩
      obtain ⟨h1, h2⟩ := hr _ rfl
      refine ⟨hf, [], h1, ⟨fun i j p q hi => by simp at hi, fun p q _ hq => by simp at hq⟩, ?_⟩
      revert h2
      cases gh.pl with
      | none => exact fun _ => ⟨rfl, rfl⟩
      | some p =>
        rintro ⟨cs, g1, g2⟩
        simp only [Cat] at g2; subst g2
        exact ⟨[], g1, rfl, rfl⟩
    · simp only [Option.some.injEq] at h; subst h
      exact ⟨_, rfl, hr _ rfl⟩
  · subst h; exact ⟨ob, rfl, hr ob rfl⟩
theorem famH_look {ns : List Nat} : ∀ {h : List (Nat × Option Obj)} {l : Nat}, lookL (famH ns h) l = (if ns.contains l then (lookL h l).map famO else lookL h l)
  | [], l => by simp [famH, lookL]
  | (a, b) :: r, l => by
    simp only [famH]
    by_cases hl : a = l
    · subst hl
      by_cases hc : ns.contains a = true
      · simp only [hc, if_true, lookL, Option.map_some]
      · simp only [Bool.not_eq_true] at hc; simp only [hc, Bool.false_eq_true, if_false, lookL, if_true]
    · have ih := famH_look (ns := ns) (h := r) (l := l)
      by_cases hc : ns.contains a = true
      · simp only [hc, if_true, lookL, hl, if_false]; exact ih
      · simp only [Bool.not_eq_true] at hc; simp only [hc, Bool.false_eq_true, if_false] at ih ⊢; simp only [lookL, hl, if_false]; exact ih
theorem famSt_sound {σ : St} {ns : List Nat} (todo : List Item) : Reach P GT nt ⟨todo, σ⟩ ⟨todo, famSt σ ns⟩ := by
  intro c K a w b cs R0
  refine ⟨K, a, w, ?_, fun l gh _ hk => hk, Steps.refl _ _⟩
  unfold famSt
  split
  · exact R0
  · have hH : ∀ l o, lkOf (famH ns σ.heap) l = some o → (∃ o0, lkOf σ.heap l = some o0) ∧ ∀ (w : World) (N : Bool → Nat → Prop) (gh : Gh), (∀ o0, lkOf σ.heap l = some o0 → ORd w N K o0 gh) → ORd w N K o gh := by
      intro l o hl
      unfold lkOf at hl ⊢
      rw [famH_look] at hl
      by_cases hc : ns.contains l = true
      · simp only [hc, if_true] at hl
        cases hx : lookL σ.heap l with
        | none => rw [hx] at hl; cases hl
        | some x =>
          rw [hx] at hl
          simp only [Option.map_some] at hl
          refine ⟨?_, fun w N gh h => ?_⟩
          · cases x with
            | none => simp [famO] at hl
            | some o0 => exact ⟨o0, rfl⟩
          · obtain ⟨_, _, h2⟩ := famO_rd hl (fun o0 ho => h o0 (by rw [ho]))
            exact h2
      · simp only [hc] at hl
        simp only [Bool.false_eq_true, if_false] at hl
        exact ⟨⟨o, hl⟩, fun w N gh h => h o hl⟩
    have hlive : ∀ b, liveAt (lkOf (famH ns σ.heap)) K b → liveAt (lkOf σ.heap) K b := by
      rintro b ⟨l, o, gh, p, h1, h2⟩
      obtain ⟨⟨o0, h0⟩, _⟩ := hH l o h1
      exact ⟨l, o0, gh, p, h0, h2⟩
    have hN : ∀ fr b, NN c (lkOf σ.heap) K w fr b → NN c (lkOf (famH ns σ.heap)) K w fr b := fun fr b hb => ⟨hb.1, fun hn => hb.2.1 (hlive b hn), hb.2.2⟩
    have hk : KeepK w w (NN c (lkOf σ.heap) K w) (NN c (lkOf (famH ns σ.heap)) K w) K K := ⟨fun fr => ⟨fun b hb => ⟨hN fr b hb, rfl⟩⟩, fun _ _ h => h⟩
    refine ⟨⟨⟨fun l o hl => ?_, fun l o gh p h1 h2 h3 => ?_, fun l l' o o' gh gh' p p' h1 h2 h3 h4 h5 h6 h7 => ?_, R0.rel.inv.fr⟩, fun t => (R0.rel.tmps t).keep hk, R0.rel.size, R0.rel.defers, R0.rel.ng, R0.rel.gng, R0.rel.glob⟩, R0.fresh⟩
    · obtain ⟨⟨o0, h0⟩, h1⟩ := hH l o hl
      obtain ⟨gh, g1, g2⟩ := R0.rel.inv.objs l o0 h0
      exact ⟨gh, g1, h1 _ _ _ (fun o1 ho => by rw [h0] at ho; injection ho with ho; subst ho; exact g2.keep hk (fun _ _ => rfl))⟩
    · obtain ⟨⟨o0, h0⟩, _⟩ := hH l o h1
      exact R0.rel.inv.own l o0 gh p h0 h2 h3
    · obtain ⟨⟨o0, h0⟩, _⟩ := hH l o h1
      obtain ⟨⟨o0', h0'⟩, _⟩ := hH l' o' h2
      exact R0.rel.inv.inj l l' o0 o0' gh gh' p p' h0 h0' h3 h4 h5 h6 h7
theorem cutT_ok {c : Cut} {s : Pos} (h : den lf fin (cutT c s) = some r) : Leads P GT nt (fun s' => lf s' = some r) s := by
  unfold cutT at h
  split at h
  · rename_i σ hk
    obtain ⟨todo, σ0⟩ := s
    exact (Leads.of (keep_sound hk _) rfl).bind (fun s1 h1 => by subst h1; exact .of (famSt_sound _) h)
  · cases h
theorem isHead_ok (hm : P.follows .mixedOrders = true) {todo todo' : List Item} {σ : St} (h : isHead todo = some todo') : Reach P GT nt ⟨todo, σ⟩ ⟨todo', σ⟩ := by
  unfold isHead at h
  split at h
  · simp only [Option.some.injEq] at h; subst h
    exact stepTo_sound hm (os := []) (cs := []) (os' := []) rfl trivial
  · simp only [Option.some.injEq] at h; subst h
    exact stepTo_sound hm (os := []) (cs := []) (os' := []) rfl trivial
  · exact stepTo_sound hm (os := []) (cs := []) (os' := []) (by simp only [stepTo, h]) trivial
  · cases h
theorem treeT_ok (hm : P.follows .mixedOrders = true) (hz : ∀ f ∈ mnz, IsMNZ P f) {cuts : List Cut} : ∀ {n : Nat} {first : Bool} {s : Pos}, den lf fin (treeT P GT nt mnz tab cuts n first s) = some r →
    Leads P GT nt (fun s' => lf s' = some r ∨ (isRet s'.todo = true ∧ fin s' = some r)) s
  | 0, _, _, h => by cases h
  | n + 1, first, s, h => by
    simp only [treeT] at h
    split at h
    · rename_i hr
      exact .of (Reach.refl s) (.inr ⟨hr, h⟩)
    · split at h
      · rename_i todo' hh
        have h0 : Reach P GT nt s ⟨todo', s.st⟩ := isHead_ok hm hh
        split at h
        · exact (Leads.of h0 rfl).bind (fun s1 h1 => by subst h1; exact (cutT_ok h).bind (fun s2 h2 => .of (Reach.refl _) (.inl h2)))
        · exact (Leads.of h0 rfl).bind (fun s1 h1 => by subst h1; exact treeT_ok hm hz h)
      · split at h
        · split at h
          · exact (cutT_ok h).bind (fun s2 h2 => .of (Reach.refl _) (.inl h2))
          · exact (stepT_ok hm hz h).bind (fun s1 h1 => treeT_ok hm hz h1)
        · exact (stepT_ok hm hz h).bind (fun s1 h1 => treeT_ok hm hz h1)
theorem FnI.semR_ok (hm : P.follows .mixedOrders = true) {s : Pos} {r : I.fm.R} (h : I.SemR r s) : Leads P GT (tmpsOf P I.f) (fun s' => isRet s'.todo = true ∧ I.fm.fin P (rsOf P I.f) s' = some r) s := by
  induction h with
  | mk s lf h hl ih =>
    refine (treeT_ok hm I.mnzOk h).bind (fun s' hs => ?_)
    rcases hs with hs | hs
    · exact ih s' hs
    · exact .of (Reach.refl _) hs
theorem FnI.sem_ends (hm : P.follows .mixedOrders = true) {s : Pos} {r : I.fm.R} (h : I.sem s = some r) : Ends P GT (tmpsOf P I.f) (rsOf P I.f) s (I.fm.res r) (I.fm.post r) := by
  intro c K a w b cs R0
  obtain ⟨s', K', a', w', ⟨h2, h3⟩, R', h4, h5⟩ := FnI.semR_ok hm (FnI.sem_iff.1 h) c K a w b cs R0
  obtain ⟨res0, res1, ren, nx, lo, g1, g2, g3, g3', g4⟩ := Fm.fin_ok h3
  exact ⟨s', res0, res1, ren, nx, lo, K', a', w', R', h4, h5, h2, g1, g2, g3, g3', g4⟩
@[reducible] def FnI.at (I : FnI P GT) (as : List AV) (pre : List (Nat × Obj)) : Pos := ⟨[.code (bodyOf P I.f)], st0 as pre⟩
noncomputable def FnI.call (I : FnI P GT) (as : List AV) (pre : List (Nat × Obj)) : Option I.fm.R :=
  if fnOk P I.f as.length && pre.all (fun p => decide (p.1 < 8)) then I.sem (I.at as pre) else none
theorem FnI.call_ok (hm : P.follows .mixedOrders = true) {as : List AV} {pre : List (Nat × Obj)} {r : I.fm.R} (h : I.call as pre = some r) : CallOK P GT I.f as pre (I.fm.res r) (I.fm.post r) := by
  unfold FnI.call at h
  split at h
  · rename_i hc
    simp only [Bool.and_eq_true] at hc
    exact callOK_of hc.1 hc.2 (FnI.sem_ends hm h)
  · cases h
noncomputable def FnI.summ (I : FnI P GT) (hm : P.follows .mixedOrders = true) (acc : List AV → Bool) (rows nils : Bool) (drop : Bool := false) : Summ P GT :=
  { f := I.f, acc := acc, rows := rows, nils := nils, drop := drop, R := I.fm.R, fn := I.call, res := I.fm.res, post := I.fm.post, ok := fun as pre r h => FnI.call_ok hm h }
theorem FnI.call_eq {as : List AV} {pre : List (Nat × Obj)} (h : (fnOk P I.f as.length && pre.all (fun p => decide (p.1 < 8))) = true) : I.call as pre = I.go (I.at as pre) I.sem := by
  unfold FnI.call
  rw [if_pos h]
  exact FnI.sem_eq _
end
end Go.Ab

/-
  From what a law's arguments read as to plain values, and back.
-/
set_option linter.unusedVariables false
set_option linter.unusedSimpArgs false
namespace Go.Ab
open Go
def plainTy : Ty → Bool
  | .arr _ e => plainTy e
  | .pair a b => plainTy a && plainTy b
  | .slice e => plainTy e && decide (0 < e.sz)
  | .fn => false
  | _ => true
section
variable {P : Program} {H : Type} {enc : TypeId × Value → H} {w : World} {base : Nat} {spare : Nat → Bool} {held : Bool}
abbrev InW (w : World) : Nat → Prop := fun b => b < w.heap.size
end
section
variable {P : Program} {H : Type} {enc : TypeId × Value → H} {w : World} {base : Nat} {spare : Nat → Bool} {held : Bool}
theorem laid_arr {fuel : Nat} {T E : TypeId} {n : Nat} {k : IntKind} {zs : List Int} {cs : List Value} {q : List MemPlace} (hT : P.underlying T = some (.array n E)) (hE : P.underlying E = some (.int k)) (hc : P.cellsOf E = 1) (hcT : P.cellsOf T = n)
    (h : DataW.trod enc P w base spare held fuel T cs = some (.agg (zs.map fun z => .lit (.int k z)), q)) : cs = zs.map (Value.int k) := by
  obtain ⟨xs, m, _, hx, hlen, hl, he⟩ := DataW.trod_array hT h
  simp only [Prod.mk.injEq, DataW.agg.injEq] at hx
  rw [hcT] at hlen
  have hzl : zs.length = xs.length := by have := congrArg List.length hx.1; simpa using this
  refine List.ext_getElem (by simp; omega) (fun i h1 h2 => ?_)
  have hi := he i (by omega)
  rw [hc, List.getElem?_eq_getElem (by omega)] at hi
  obtain ⟨z, e1, e2, _⟩ := DataW.trod_int hE hi
  have e3 : cs[i]? = some (.int k z) := by
    have := congrArg (·[0]?) e1
    simp only [Nat.mul_one, List.getElem?_take, List.getElem?_drop, Nat.add_zero] at this
    simpa using this
  have e4 : zs[i]? = some z := by
    have := congrArg (·[i]?) hx.1
    simp only [List.getElem?_map] at this
    rw [List.getElem?_eq_getElem (by omega : i < xs.length), e2] at this
    cases hz : zs[i]? with
    | none => rw [hz] at this; simp at this
    | some z' =>
      rw [hz] at this
      simp only [Option.map_some, Option.some.injEq, DataW.lit.injEq, Lit.int.injEq, true_and] at this
      rw [this]
  simp only [List.getElem_map]
  rw [List.getElem?_eq_getElem h1] at e3
  simp only [Option.some.injEq] at e3
  rw [e3]
  rw [List.getElem?_eq_getElem (by simpa using h2)] at e4
  simp only [Option.some.injEq] at e4
  rw [e4]
theorem glob_arr {g n : Nat} {k : IntKind} {zs : List Int} {cs : List Value} (hcs : cs = zs.map (Value.int k)) (hl : zs.length = n) (hcell : ∀ i v, cs[i]? = some v → w.cell? ⟨g, i, none⟩ = some v) :
    ∃ cs, CellsAt w g 0 cs ∧ PRd w (fun _ => False) (.arr n (.int k)) (zs : List Int) cs := by
  refine ⟨cs, fun j v hj => by rw [Nat.zero_add]; exact hcell j v hj, hl, ?_⟩
  subst hcs
  exact cat_nums zs
end
def isAggV : Value → Bool
  | .agg _ => true
  | _ => false
theorem PRd.val {w : World} {N : Bool → Nat → Prop} {K : Kn} (hN : ∀ b, b < w.heap.size → N false b) (hlow : ∀ b, N true b → N false b) {t : Ty} {x : pden t} {v : Value} {cs : List Value} (h0 : PRd w (InW w) t x cs) (hc : v.cells.toList = cs) (hv : isAggV v = t.agg) (hf : plainTy t = true) : VRd w N K (toAV t (inj false t x)) v := by
  have h : PRd w (N false) t x cs := h0.keep ⟨fun b hb => ⟨hN b hb, rfl⟩⟩
  clear h0
  cases t with
  | arr n e => 
    cases v <;> simp [Ty.agg, isAggV] at hv
    rename_i a
    exact ⟨cs, by simp [Value.cells] at hc; rw [← hc], rfl, inj_rd (N := N) hlow false h⟩
  | pair a b =>
    cases v <;> simp [Ty.agg, isAggV] at hv
    exact ⟨cs, by simp [Value.cells] at hc; rw [← hc], rfl, inj_rd (N := N) hlow false h⟩
  | unit =>
    cases v <;> simp [Ty.agg, isAggV] at hv
    exact ⟨cs, by simp [Value.cells] at hc; rw [← hc], rfl, inj_rd (N := N) hlow false h⟩
  | int k =>
    simp only [PRd] at h; subst h
    cases v <;> simp [Ty.agg, isAggV, Value.cells] at hv hc <;> first | exact hc | skip
    all_goals simp_all [toAV, inj, VRd]
  | bool =>
    simp only [PRd] at h; subst h
    cases v <;> simp [Ty.agg, isAggV, Value.cells] at hv hc <;> first | exact hc | skip
    all_goals simp_all [toAV, inj, VRd]
  | str =>
    simp only [PRd] at h; subst h
    cases v <;> simp [Ty.agg, isAggV, Value.cells] at hv hc <;> first | exact hc | skip
    all_goals simp_all [toAV, inj, VRd]
  | slice e =>
    obtain ⟨A, cap, rfl, h1, h2⟩ := h
    cases v <;> simp [Ty.agg, isAggV, Value.cells] at hv hc
    obtain ⟨rfl, rfl, rfl⟩ := hc
    exact ⟨_, _, rfl, h1, h2⟩
  | fn => simp [plainTy] at hf
theorem CallOK.below {P : Program} {GT : GTab} {f : Nat} {args : List AV} {res : TV} {post : List (Nat × Obj)} (h : CallOK P GT f args [] res post) {w : World} (hg : Glob P GT w) {vs : List Value}
    (ha : ∀ (N : Bool → Nat → Prop) (K : Kn), (∀ b, b < w.heap.size → N false b) → (∀ b, N true b → N false b) → VRdL w N K args vs) {v : Value} (hr : ∀ (N : Bool → Nat → Prop) (K : Kn) (w' : World) (u : Value), TVRd w' N K res u → u = v) (hb : (P.funcs[f]?).map (·.body.isSome) = some true) (hn : (P.funcs[f]?).map (·.name == "runtime.NumGoroutine") = some false) :
    Calls P f vs.toArray w fun e w' => e = .returned v ∧ RowKit.Below w.heap.size w w' := by
  have h1 := h w (InW w) (fun _ => False) (fun _ => none) vs hg ⟨(fun l o hl => by cases hl), (fun l o gh p hl => by cases hl), (fun l l' o o' gh gh' p p' hl => by cases hl), ⟨rfl, rfl, rfl, Nat.le_refl _, fun _ _ _ => rfl⟩⟩
    (fun b hb => hb.elim) (fun l hl => rfl) (fun b hb => hb) (ha _ _ (fun b hb => ⟨hb, (fun hl => by obtain ⟨l, o, gh, p, q, _⟩ := hl; cases q), .inr (.inr ⟨rfl, .inl hb⟩)⟩) NN.low)
  unfold Called at h1
  obtain ⟨fn, hf, hbs⟩ := Option.map_eq_some_iff.1 hb
  obtain ⟨fn', hf', hnm⟩ := Option.map_eq_some_iff.1 hn
  rw [hf] at hf'; injection hf' with hf'; subst hf'
  obtain ⟨body, hbody⟩ := Option.isSome_iff_exists.1 hbs
  have hcf : (callFunc f vs.toArray).run P w = .ok (.enter f vs.toArray) w := by
    have hnm' : ¬ fn.name = "runtime.NumGoroutine" := by simpa using hnm
    simp [callFunc, hf, hnm', hbody]
  rw [hcf] at h1
  refine h1.mono ?_
  rintro e w' ⟨u, rfl, K', _, hI, hu⟩
  exact ⟨by rw [hr _ _ _ _ hu], hI.fr.os, hI.fr.tape, hI.fr.output, hI.fr.size, fun k hk => hI.fr.block k hk (fun h => h)⟩
end Go.Ab

/-
  Functions that are walked by hand: from what a walk tells to what calls ask for.
-/
set_option linter.unusedVariables false
set_option linter.unusedSimpArgs false
namespace Go.Ab
open Go
theorem Inv.more {c : Cx} {H : Look} {K : Kn} {w w' : World} (h : Inv c H K w) (h1 : w'.os = w.os) (h2 : w'.tape = w.tape) (h3 : w'.output = w.output) (hs : w.heap.size ≤ w'.heap.size) (hb : ∀ k, k < w.heap.size → w'.heap[k]? = w.heap[k]?) :
    Inv c H K w' ∧ KeepK w w' (NN c H K w) (NN c H K w') K K := by
  have hk : KeepK w w' (NN c H K w) (NN c H K w') K K := ⟨fun fr => ⟨fun b hb' => ⟨⟨Nat.lt_of_lt_of_le hb'.1 hs, hb'.2.1, hb'.2.2⟩, hb b hb'.1⟩⟩, fun _ _ h => h⟩
  refine ⟨⟨fun l o hl => ?_, fun l o gh p hl hg hp => ?_, h.inj, ?_⟩, hk⟩
  · obtain ⟨gh, g1, g2⟩ := h.objs l o hl
    exact ⟨gh, g1, g2.keep hk (fun p hp => hb _ (h.own l o gh p hl g1 hp).1)⟩
  · obtain ⟨a, b, d⟩ := h.own l o gh p hl hg hp
    exact ⟨Nat.lt_of_lt_of_le a hs, b, d⟩
  · exact ⟨h1.trans h.fr.os, h2.trans h.fr.tape, h3.trans h.fr.output, Nat.le_trans h.fr.size hs, fun k hk' hG => (hb k (Nat.lt_of_lt_of_le hk' h.fr.size)).trans (h.fr.block k hk' hG)⟩
theorem called_of {P : Program} {f : Nat} {args : Array Value} {w : World} {R : Value → World → Prop} (hb : (P.funcs[f]?).map (·.body.isSome) = some true) (hn : (P.funcs[f]?).map (·.name == "runtime.NumGoroutine") = some false)
    (h : Calls P f args w fun e w' => ∃ v, e = .returned v ∧ R v w') : Called P f args w R := by
  obtain ⟨fn, hf, hbs⟩ := Option.map_eq_some_iff.1 hb
  obtain ⟨fn', hf', hnm⟩ := Option.map_eq_some_iff.1 hn
  rw [hf] at hf'; injection hf' with hf'; subst hf'
  obtain ⟨body, hbody⟩ := Option.isSome_iff_exists.1 hbs
  have hcf : (callFunc f args).run P w = .ok (.enter f args) w := by
    have hnm' : ¬ fn.name = "runtime.NumGoroutine" := by simpa using hnm
    simp [callFunc, hf, hnm', hbody]
  unfold Called
  rw [hcf]
  exact h
end Go.Ab

/-
  Plain laws on numbers and lists, for the printed functions.
-/
set_option linter.unusedVariables false
set_option linter.unusedSimpArgs false
namespace Go.Ab
open Go
theorem w64 {x : Int} (h1 : -9223372036854775808 ≤ x) (h2 : x ≤ 9223372036854775807) : IntKind.wrap .i64 x = x := by
  simp [IntKind.wrap, IntKind.signed, IntKind.bits]; omega
theorem wu8 (x : Int) : IntKind.wrap .u8 x = x % 256 := by
  simp [IntKind.wrap, IntKind.signed, IntKind.bits]
theorem wu32 (x : Int) : IntKind.wrap .u32 x = x % 4294967296 := by
  simp [IntKind.wrap, IntKind.signed, IntKind.bits]
theorem fdiv_pos (a : Int) {b : Int} (h : 0 < b) : Int.fdiv a b = a / b := Int.fdiv_eq_ediv_of_nonneg _ (by omega)
theorem tdiv_nn {a b : Int} (h : 0 ≤ a) : Int.tdiv a b = a / b := Int.tdiv_eq_ediv_of_nonneg h
theorem tmod_nn {a b : Int} (h : 0 ≤ a) : Int.tmod a b = a % b := Int.tmod_eq_emod_of_nonneg h
def Bts (xs : List Int) : Prop := ∀ x ∈ xs, 0 ≤ x ∧ x < 256
theorem Bts.nil : Bts [] := fun x hx => by cases hx
theorem Bts.append {a b : List Int} (ha : Bts a) (hb : Bts b) : Bts (a ++ b) := fun x hx => (List.mem_append.1 hx).elim (ha x) (hb x)
theorem Bts.take {a : List Int} (h : Bts a) (n : Nat) : Bts (a.take n) := fun x hx => h x (List.mem_of_mem_take hx)
theorem Bts.drop {a : List Int} (h : Bts a) (n : Nat) : Bts (a.drop n) := fun x hx => h x (List.mem_of_mem_drop hx)
theorem Bts.cons {a : List Int} {x : Int} (hx : 0 ≤ x ∧ x < 256) (h : Bts a) : Bts (x :: a) := fun y hy => by
  rcases List.mem_cons.1 hy with rfl | hy
  · exact hx
  · exact h y hy
theorem ofStr_toStr {xs : List Int} (h : Bts xs) : ofStr (toStr xs) = xs := by
  unfold ofStr toStr
  simp only [List.map_map]
  refine (List.map_congr_left (fun x hx => ?_)).trans (List.map_id xs)
  obtain ⟨h0, h1⟩ := h x hx
  simp only [Function.comp, UInt8.toNat_ofNat', id]
  omega
theorem toStr_size (xs : List Int) : (toStr xs).size = xs.length := by
  show ((xs.map fun n => UInt8.ofNat n.toNat).toArray).size = _
  simp
theorem toStr_inj {xs ys : List Int} (hx : Bts xs) (hy : Bts ys) (h : toStr xs = toStr ys) : xs = ys := by
  rw [← ofStr_toStr hx, h, ofStr_toStr hy]
theorem eqStr {xs ys : List Int} (hx : Bts xs) (hy : Bts ys) : (ByteArray.toList (toStr xs) == ByteArray.toList (toStr ys)) = decide (xs = ys) := by
  rw [Bool.eq_iff_iff, beq_iff_eq, decide_eq_true_eq]
  exact ⟨fun h => toStr_inj hx hy (toList_inj h), fun h => by rw [h]⟩
end Go.Ab

/-
  Regions in the rounds of a range over a function, and what abides while its book-keeping turns.
-/
set_option linter.unusedVariables false
set_option linter.unusedSimpArgs false
namespace Go.Ab
open Go
section
variable {c : Cx} {P : Program} {GT : GTab} {H : Look} {K : Kn} {w w' : World}
end
section
variable {c : Cx} {P : Program} {GT : GTab} {nt : Nat} {mnz : List Nat} {tab : List (Summ P GT)} {R : Type} {lf fin : Pos → Option R} {r : R}
theorem Does.mono {o : Oper} {ρ : Operand → Value} {w : World} {R R' : Value → World → Prop} (h : Does P o ρ w R) (hr : ∀ v w', R v w' → R' v w') : Does P o ρ w R' := by
  unfold Does at h ⊢
  split at h
  · exact hr _ _ h
  · exact hr _ _ h
  · refine Calls.mono h ?_
    rintro e w'' ⟨v, e1, h2⟩
    exact ⟨v, e1, hr _ _ h2⟩
  · exact h.elim
theorem RelS.keep {σ σ' : St} {K : Kn} {a : Act} {w : World} {ts : List Nat} {ren : List (Nat × Nat)} {nx : Nat} {lo : Bool} (R0 : RelS c P GT nt σ K a w) (h : σ.keep ts ren nx lo = some σ') :
    ∃ K', RelS c P GT nt σ' K' a w ∧ (∀ l, l < 8 → K' l = K l) ∧ (∀ b, NN c (lkOf σ.heap) K w false b → NN c (lkOf σ'.heap) K' w false b) ∧ (∀ l m, newOf ren l = some m → K' m = K l) ∧ ∀ l o gh p, newOf ren l = none → lkOf σ.heap l = some o → K l = some gh → Has gh p → NN c (lkOf σ'.heap) K' w false p.blk := by
  unfold St.keep at h
  split at h
  · rename_i hok
    split at h
    · rename_i tl hl0 e1 e2
      simp only [Option.some.injEq] at h; subst h
      obtain ⟨K', X, hI, h8, hx⟩ := keep_core R0 hok e2
      refine ⟨K', ⟨⟨hI, fun t => ?_, R0.rel.size, R0.rel.defers, R0.rel.ng, R0.rel.gng, R0.rel.glob⟩, fun l hl => hx l hl⟩, h8, fun b hb => by simpa using X.n false b hb, X.k, fun l o gh p h1 h2 h3 h4 => by simpa using X.gone l o gh p trivial h1 h2 h3 h4 false⟩
      show TVRd w (NN c (lkOf hl0) K' w) K' (St.look ⟨tl, hl0, nx⟩ t) _
      unfold St.look
      split
      · rename_i v hv
        exact keepTV_rd X R0.rel.inv (fun _ _ h => h) (fun _ _ => trivial) (keepTs_look e1 hv) (R0.rel.tmps t)
      · trivial
    · cases h
  · cases h
theorem Inv.df {H : Look} {K : Kn} {w : World} (h : Inv c H K w) (d : List Deferred) : Inv { c with df := d } H K w := ⟨h.objs, h.own, h.inj, ⟨h.fr.os, h.fr.tape, h.fr.output, h.fr.size, h.fr.block⟩⟩
theorem RelS.df {σ : St} {K : Kn} {a : Act} {w : World} (h : RelS c P GT nt σ K a w) (d : List Deferred) : RelS { c with df := d } P GT nt σ K { a with defers := d } w :=
  ⟨⟨h.rel.inv.df d, h.rel.tmps, h.rel.size, rfl, h.rel.ng, h.rel.gng, h.rel.glob⟩, h.fresh⟩
end
section
variable {F : Fence} {n : Nat} {P : Program} {Q : Exit → Act → World → Prop} {a : Act} {w : World}
end
section
variable {c : Cx} {P : Program} {GT : GTab} {nt : Nat} {mnz : List Nat} {tab : List (Summ P GT)} {R : Type} {lf fin : Pos → Option R} {r : R}
end
end Go.Ab

/-
  A law's row where the world's shape is kept: some int stands in a variable that no one lists.
-/
set_option linter.unusedVariables false
namespace Go.Ab
open Go
variable {H : Type} {enc : TypeId × Value → H}
end Go.Ab
