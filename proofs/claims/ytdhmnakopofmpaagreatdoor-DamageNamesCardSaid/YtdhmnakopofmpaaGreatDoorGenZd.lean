/-
  What the functions compute, as plain functions: printed by a program of this repo's own and checked here by the kernel.
-/
import Derived.Test.YtdhmnakopofmpaaGreatDoorGenZc
set_option linter.unusedVariables false
set_option linter.unusedSimpArgs false
namespace Go.Ab
open Go Go.Proofs Go.RowKit
/-- What errors.As answers, and what the variable holds behind it. -/
def errors_As (a0 : Option Int) (b0 : Int) : Option (Bool × Int) := some (match a0 with
  | some n => (true, n)
  | none => (false, b0))
theorem errors_As_some (n b0 : Int) : errors_As (some n) b0 = some (true, n) := rfl
theorem errors_As_none (b0 : Int) : errors_As none b0 = some (false, b0) := rfl
def errors_As_fn : List AV → List (Nat × Obj) → Option (Bool × Int)
  | [.eri T .i64 x, .ifp TP (.int .i64) 0 []], [(0, .box (.int .i64) v)] => if T = 26 ∧ TP = 133 then errors_As x v else none
  | _, _ => none
theorem As.oneRow : ((List.range Tryz.prog.types.size).filter fun t => Tryz.prog.rowNamed t [101, 114, 114, 111, 114]) = [129] := by kernel_rfl
theorem As.rt : (Tryz.prog.cutTypes.find? (·.1 == "internal/reflectlite.rtype")).map (·.2) = some 162 := by kernel_rfl
theorem As.hdl {w : World} {g : Nat} (h : Hdl Tryz.prog w g) : w.cell? ⟨g, 0, none⟩ = some (.iface 162 (.agg #[.pointer (some ⟨3, 129, none⟩)])) := by
  obtain ⟨u, ty, e1, e2, e3, e4⟩ := h
  obtain rfl := Option.some.inj (As.rt.symm.trans e1)
  have hm : ty ∈ (List.range Tryz.prog.types.size).filter fun t => Tryz.prog.rowNamed t [101, 114, 114, 111, 114] := List.mem_filter.2 ⟨List.mem_range.2 e2, e3⟩
  rw [As.oneRow] at hm
  obtain rfl := List.mem_singleton.1 hm
  have hh : typeHandle Tryz.prog 129 = .pointer (some ⟨3, 129, none⟩) := by kernel_rfl
  rw [hh] at e4
  exact e4
set_option maxRecDepth 100000 in
theorem errors_As_ok {GT : GTab} (hGT : lookL GT 2 = some ⟨.unit, ()⟩) {avs : List AV} {pre : List (Nat × Obj)} {r : Bool × Int} (h : errors_As_fn avs pre = some r) : CallOK Tryz.prog GT 74 avs pre (.one (.bool r.1)) [(0, .box (.int .i64) r.2)] := by
  unfold errors_As_fn at h
  split at h
  · rename_i T x TP v
    split at h
    · rename_i hT
      obtain ⟨rfl, rfl⟩ := hT
      intro w F G K vs hg hI hG hK hF hv
      obtain ⟨v1, r1, rfl, h1, h2⟩ := hv
      obtain ⟨v2, r2, rfl, h2, h3⟩ := h2
      simp only [VRdL] at h3; subst h3
      obtain ⟨sh, pl, po, k1, k2, rfl⟩ := h2
      obtain ⟨gh, g1, g2⟩ := hI.objs 0 (.box (.int .i64) v) rfl
      rw [k1] at g1; injection g1 with g1; subst g1
      obtain ⟨q1, p, cs, q2, q3, q4⟩ := g2
      injection q2 with q2; subst q2
      simp only at q1; subst q1
      simp only [ARd] at q4; subst q4
      simp only [shAt, pathAt, Option.some.injEq, Prod.mk.injEq] at k2
      obtain ⟨rfl, _⟩ := k2
      have hcell : w.cell? ⟨pl.blk, pl.ob + 0, none⟩ = some (.int .i64 v) := q3.cells 0 _ rfl
      have hlt := q3.lt
      have hob : pl.ob + 0 < pl.bs := by obtain ⟨_, _, _, _, _, _, h5, _⟩ := q3; simp only [List.length_cons, List.length_nil] at h5; omega
      have hfree : w.frozen? ⟨pl.blk, pl.ob + 0, none⟩ = false := q3.free hob
      refine called_of (by kernel_rfl) (by kernel_rfl) ?_
      cases x with
      | none =>
        simp only [errors_As, Option.some.injEq] at h; subst h
        simp only [VRd] at h1; subst h1
        refine (As.as_nil _ w).mono ?_
        rintro e w' ⟨rfl, rfl⟩
        exact ⟨_, rfl, K, fun _ _ h => h, hI, rfl⟩
      | some n =>
        simp only [errors_As, Option.some.injEq] at h; subst h
        simp only [VRd] at h1; subst h1
        have hc := As.hdl (hg.2.2 2 hGT)
        refine (As.as_hit n ⟨pl.blk, pl.ob + 0, none⟩ _ w hc hcell hfree).mono ?_
        rintro e w' ⟨rfl, rfl⟩
        refine ⟨_, rfl, K, fun _ _ h => h, ?_, rfl⟩
        generalize hw4 : (((w.alloc _).alloc _).alloc _).alloc _ = w4
        have hm := hI.more (w' := w4) (by subst hw4; rfl) (by subst hw4; rfl) (by subst hw4; rfl) (by subst hw4; simp; omega) (fun k hk => by
          subst hw4
          simp only [World.alloc]
          rw [Array.getElem?_push_lt (by simp; omega), Array.getElem_push_lt (by simp; omega), Array.getElem_push_lt (by simp; omega), Array.getElem_push_lt hk]
          exact (Array.getElem?_eq_getElem hk).symm)
        have q5 : InBlk w4 pl [.int .i64 v] := q3.keep (by
          subst hw4
          simp only [World.alloc]
          rw [Array.getElem?_push_lt (by simp; omega), Array.getElem_push_lt (by simp; omega), Array.getElem_push_lt (by simp; omega), Array.getElem_push_lt hlt]
          exact (Array.getElem?_eq_getElem hlt).symm)
        have S := Stp.write (w' := w4.setCells pl.blk (pl.ob + 0) [.int .i64 n]) hm.1 0 0 (.box (.int .i64) v) (.box (.int .i64) n) _ pl rfl k1 rfl (setCells_same pl.blk _ _ w4)
          (fun N' K' _ _ => ⟨rfl, pl, [.int .i64 n], rfl, q5.write (o := 0) (s := [.int .i64 n]) (by simp), rfl⟩)
        have hup : updL (lookL [(0, .box (.int .i64) v)]) [(0, some (.box (.int .i64) n))] = lookL [(0, .box (.int .i64) n)] := by
          funext l
          simp only [updL, lookL]
          by_cases hl : 0 = l <;> simp [hl]
        have := S.inv
        rw [hup] at this
        exact this
    · cases h
  · cases h
end Go.Ab
