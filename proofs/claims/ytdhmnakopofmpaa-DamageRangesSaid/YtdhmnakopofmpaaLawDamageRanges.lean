/-
  DamageRanges: ranges that survive are there with their bytes, in their order, for every input.
-/
import Derived.Test.YtdhmnakopofmpaaPureT3
import Derived.Test.YtdhmnakopofmpaaRows
import Derived.SevenTiedAt
namespace Go.Proofs.Ytdhmnakopofmpaa.damageRanges
open Go Go.ChangeShapes Go.WideShapes Go.ChangeAt Go.RowKit
set_option linter.unusedVariables false
set_option maxRecDepth 100000
theorem own : ownKnob Try.prog.godebug = none := by kernel_rfl
theorem laidOut : laidOutB Try.prog = true := by kernel_rfl
theorem lifted (os : Os) (started : os.Started) (H : Type) (enc : TypeId × Value → H) :
    ReturnsInHanded {} Try.checked os 6 .any (Rows.damageRangesSpec.pre6 enc Try.prog Try.f6 [] false) (Rows.damageRangesSpec.post enc Try.prog Try.f6 false true false false) := by
  refine returnsInHanded_of_change_sized (C := Try.checked) own started (by kernel_rfl) Try.func6
    (ChangeSpec.witness6 (enc := enc) (C := Try.checked) false ⟨#[], #[.slice none 0 0, .slice none 0 0, .slice none 0 0], []⟩ 8 (by kernel_rfl) (by kernel_rfl) (by kernel_rfl) (by kernel_rfl)) ?_
  intro W base args ds gs before hval0 hW _ _ _
  have hval : ∀ (j : Nat) t v, Try.f6.params[j]? = some t → args[j]? = some v → Value.okWide Try.prog W .any base t v := hval0
  have hW' := hW
  obtain ⟨p, q, hA0, hV, rfl, hfz, hnd⟩ := hW
  have hA : DataW.TrodAll enc Try.prog W 0 (fun _ => true) true Try.f6.params.toList args.toList ds p := hA0
  rw [Try.params6] at hA hval
  obtain ⟨v0, vs0, d0, ds0, p0, q0, hargs, rfl, rfl, h0, r0⟩ := trodAll_cons hA
  obtain ⟨v1, vs1, d1, ds1, p1, q1, rfl, rfl, rfl, h1, r1⟩ := trodAll_cons r0
  obtain ⟨v2, vs2, d2, ds2, p2, q2, rfl, rfl, rfl, h2, r2⟩ := trodAll_cons r1
  obtain ⟨rfl, rfl, rfl⟩ := trodAll_nil r2
  obtain rfl : args = #[v0, v1, v2] := by cases args; simp_all
  obtain ⟨rfl, rfl⟩ := trodVars_none hV
  have k0 := h0
  have lt0 : ∀ x ∈ p0, x.block < W.heap.size := by obtain ⟨m, hm⟩ := k0; exact DataW.trod_lt m _ _ _ hm
  obtain ⟨x0, y0, z0⟩ : ∃ x : Ab.pden (.slice (.int .u8)), Ab.PRd W (Ab.InW W) (.slice (.int .u8)) x v0.cells.toList ∧ Ab.wfP (.slice (.int .u8)) x := by
    obtain ⟨m, hm⟩ := h0; exact Ab.open_ty (m := Ab.tyD) (T := 22) (by kernel_rfl) (by kernel_rfl) hm
  have a0 := Ab.okWide_form (t := (.slice (.int .u8))) (m := 11) (by kernel_rfl) (by kernel_rfl) (hval 0 22 v0 rfl rfl)
  have k1 := h1
  have lt1 : ∀ x ∈ p1, x.block < W.heap.size := by obtain ⟨m, hm⟩ := k1; exact DataW.trod_lt m _ _ _ hm
  obtain ⟨x1, y1, z1⟩ : ∃ x : Ab.pden (.slice Ab.T_api_Piece), Ab.PRd W (Ab.InW W) (.slice Ab.T_api_Piece) x v1.cells.toList ∧ Ab.wfP (.slice Ab.T_api_Piece) x := by
    obtain ⟨m, hm⟩ := h1; exact Ab.open_ty (m := Ab.tyD) (T := 42) (by kernel_rfl) (by kernel_rfl) hm
  have a1 := Ab.okWide_form (t := (.slice Ab.T_api_Piece)) (m := 11) (by kernel_rfl) (by kernel_rfl) (hval 1 42 v1 rfl rfl)
  have k2 := h2
  have lt2 : ∀ x ∈ p2, x.block < W.heap.size := by obtain ⟨m, hm⟩ := k2; exact DataW.trod_lt m _ _ _ hm
  obtain ⟨x2, y2, z2⟩ : ∃ x : Ab.pden (.slice Ab.T_api_Harm), Ab.PRd W (Ab.InW W) (.slice Ab.T_api_Harm) x v2.cells.toList ∧ Ab.wfP (.slice Ab.T_api_Harm) x := by
    obtain ⟨m, hm⟩ := h2; exact Ab.open_ty (m := Ab.tyD) (T := 23) (by kernel_rfl) (by kernel_rfl) hm
  have a2 := Ab.okWide_form (t := (.slice Ab.T_api_Harm)) (m := 11) (by kernel_rfl) (by kernel_rfl) (hval 2 23 v2 rfl rfl)
  have hc := Ab.bitloftlaw35_DamageRanges_true x0 z0 x1 z1 x2 z2
  refine ((Ab.FnI.call_ok (I := Ab.bitloftlaw35_DamageRanges_I) Ab.mixed hc).below ⟨Nat.zero_le _, (fun g t x hl => by cases hl), (fun g hl => by cases hl)⟩ (vs := [v0, v1, v2]) (fun N K hN hl => ⟨_, _, rfl, y0.val hN hl rfl a0 (by kernel_rfl), ⟨_, _, rfl, y1.val hN hl rfl a1 (by kernel_rfl), ⟨_, _, rfl, y2.val hN hl rfl a2 (by kernel_rfl), rfl⟩⟩⟩) (v := .bool true) (fun N K w' u hu => hu) (by kernel_rfl) (by kernel_rfl)).mono fun e W' ⟨he, bel⟩ => ?_
  subst he
  exact ⟨_, rfl, _, _, _, [], _, [], hW', trodAll_mk1 (shut_bool Try.underlying4 _), (trodAll_cons_mk (Below.trod laidOut (by kernel_rfl) (of_decide_eq_true (by kernel_rfl)) k0 bel lt0) (trodAll_cons_mk (Below.trod laidOut (by kernel_rfl) (of_decide_eq_true (by kernel_rfl)) k1 bel lt1) (trodAll_cons_mk (Below.trod laidOut (by kernel_rfl) (of_decide_eq_true (by kernel_rfl)) k2 bel lt2) trodAll_mk0))), rfl, bel.frame _, fun h => by cases h⟩
theorem over : Rows.damageRangesRow.holds Try.pinned (OpenSpec.ofChange Rows.damageRangesSpec) :=
  OpenClaim.holds_of_wide 6 Try.f6 rfl rfl rfl rfl rfl rfl rfl ⟨rfl, rfl, rfl, rfl, rfl⟩ rfl rfl rfl rfl rfl (by kernel_rfl) Try.func6 (by kernel_rfl)
    (of_decide_eq_true (by kernel_rfl)) (by unfold Func.isWrapper; first | (rw [if_pos (by decide +kernel)]; kernel_rfl) | (rw [if_neg (by decide +kernel)]; exact ⟨rfl, rfl⟩))
    (fun os started H enc _ => lifted os started H enc)
theorem proved : Rows.DamageRangesSaid := over
#print axioms proved
end Go.Proofs.Ytdhmnakopofmpaa.damageRanges
namespace Go.Proofs.Ytdhmnakopofmpaa
/-- The statement, under a short name. -/
theorem damageRanges_holds : Rows.DamageRangesSaid := damageRanges.proved
end Go.Proofs.Ytdhmnakopofmpaa
