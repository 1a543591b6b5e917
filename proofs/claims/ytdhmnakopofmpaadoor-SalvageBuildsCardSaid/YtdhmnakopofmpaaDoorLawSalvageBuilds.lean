/-
  SalvageBuilds: the parts that fit, and the members that are rebuilt of them, are the reference's, for every input.
-/
import Derived.Test.YtdhmnakopofmpaaDoorPureG3
import Derived.Test.YtdhmnakopofmpaaDoorCards
import Derived.Test.YtdhmnakopofmpaaDoorTie
import Derived.SevenTiedAt
namespace Go.Proofs.YtdhmnakopofmpaaDoor.salvageBuilds
open Go Go.ChangeShapes Go.WideShapes Go.ChangeAt Go.RowKit
set_option linter.unusedVariables false
set_option maxRecDepth 100000
theorem own : ownKnob Tryd.prog.godebug = none := by kernel_rfl
theorem laidOut : laidOutB Tryd.prog = true := by kernel_rfl
theorem door_met (os : Os) (args : Array Value) : laidMetH Tryd.prog Rows.salvageBuildsRow.laid ((World.doorLaid Tryd.prog 26 os).forCall (fun _ _ => 0) ⟨#[], args, []⟩).memory :=
  laidMetH_of_parts3 (fuel := 8) (laidMet_of_run' 8 (by kernel_rfl) (by kernel_rfl)) (by kernel_rfl) (by kernel_rfl)
theorem glob {W : World} (h : laidMetH Tryd.prog Rows.salvageBuildsRow.laid W) : Ab.Glob Tryd.prog Ab.GT W := by
  rw [MakeChecks.laidMetH_plain _ _ _ (by kernel_rfl)] at h
  obtain ⟨ps, ⟨g0, t0, cs0, f0, p0, q0, hg0, ht0, hv0, hd0, ⟨g1, t1, cs1, f1, p1, q1, hg1, ht1, hv1, hd1, _, _⟩, _⟩, _, _⟩ := h
  obtain rfl := Option.some.inj ((show Tryd.prog.globalNamed "bitloft/sha.quarters" = some 2 by kernel_rfl).symm.trans hg0)
  obtain rfl := Option.some.inj ((show (Tryd.prog.globals[2]?).map (·.type) = some 228 by kernel_rfl).symm.trans ht0)
  have c0 := Ab.laid_arr (zs := ([1518500249, 1859775393, 2400959708, 3395469782] : List Int)) Tryd.underlying228 Tryd.underlying196 (by kernel_rfl) (by kernel_rfl) hd0
  have e0 : ∀ (j : Nat) (v : Value), cs0.toList[j]? = some v → W.cell? ⟨2, j, none⟩ = some v := fun j v hj => by
    rw [World.var?_cell hg0 hv0 j, ← Array.getElem?_toList]; exact hj
  have s0 : 2 < W.heap.size := by
    have h0 := e0 0 (Value.int .u32 1518500249) (by rw [c0]; rfl)
    simp only [World.cell?] at h0
    by_cases hlt : 2 < W.heap.size
    · exact hlt
    · rw [Array.getElem?_eq_none (by omega)] at h0; cases h0
  obtain rfl := Option.some.inj ((show Tryd.prog.globalNamed "bitloft/header.widths" = some 0 by kernel_rfl).symm.trans hg1)
  obtain rfl := Option.some.inj ((show (Tryd.prog.globals[0]?).map (·.type) = some 192 by kernel_rfl).symm.trans ht1)
  have c1 := Ab.laid_arr (zs := ([1, 1, 2, 2, 2] : List Int)) Tryd.underlying192 Tryd.underlying3 (by kernel_rfl) (by kernel_rfl) hd1
  have e1 : ∀ (j : Nat) (v : Value), cs1.toList[j]? = some v → W.cell? ⟨0, j, none⟩ = some v := fun j v hj => by
    rw [World.var?_cell hg1 hv1 j, ← Array.getElem?_toList]; exact hj
  have s1 : 0 < W.heap.size := by
    have h0 := e1 0 (Value.int .i64 1) (by rw [c1]; rfl)
    simp only [World.cell?] at h0
    by_cases hlt : 0 < W.heap.size
    · exact hlt
    · rw [Array.getElem?_eq_none (by omega)] at h0; cases h0
  refine ⟨by simp only [Ab.ngOf, Ab.GT]; omega, fun g t x hl => ?_, fun g hl => ?_⟩
  rotate_left
  · simp only [Ab.GT, Ab.lookL] at hl
    split at hl
    · injection hl with hl; injection hl with h1 h2; cases h1
    split at hl
    · injection hl with hl; injection hl with h1 h2; cases h1
    cases hl
  simp only [Ab.GT, Ab.lookL] at hl
  split at hl
  · rename_i e; subst e; injection hl with hl; injection hl with h1 h2; subst h1; obtain rfl := eq_of_heq h2
    exact ⟨by decide, rfl, Ab.glob_arr c1 rfl e1⟩
  split at hl
  · rename_i e; subst e; injection hl with hl; injection hl with h1 h2; subst h1; obtain rfl := eq_of_heq h2
    exact ⟨by decide, rfl, Ab.glob_arr c0 rfl e0⟩
  cases hl
theorem lifted (os : Os) (started : os.Started) (H : Type) (enc : TypeId × Value → H) :
    ReturnsInHanded {} Tryd.checked os 6 .any (fun w args => (Rows.salvageBuildsSpec.pre enc Tryd.prog Tryd.f6 [] false w args ∧ laidMetH Tryd.prog Rows.salvageBuildsRow.laid w) ∧ sizedMet enc Tryd.prog Tryd.f6 (OpenSpec.ofChange Rows.salvageBuildsSpec) false w args)
      (Rows.salvageBuildsSpec.post enc Tryd.prog Tryd.f6 false true false false) := by
  refine returnsInHanded_of_change_and (C := Tryd.checked) (X := fun w _ => laidMetH Tryd.prog Rows.salvageBuildsRow.laid w) (fun _ _ _ hh h => h.of_heap hh) own started (by kernel_rfl) Tryd.func6
    (ChangeSpec.witness_shaped (enc := enc) (C := Tryd.checked) (os := os) (X := fun w _ => laidMetH Tryd.prog Rows.salvageBuildsRow.laid w) false (World.doorLaid Tryd.prog 26 os) #[.slice none 0 0, .slice none 0 0] 8 rfl (World.shaped_of_RefB (by kernel_rfl) (by kernel_rfl)) (by kernel_rfl) (by kernel_rfl) (by kernel_rfl) (door_met os _)) ?_
  intro W base args ds gs before hval0 hW _ _ hL _
  have hval : ∀ (j : Nat) t v, Tryd.f6.params[j]? = some t → args[j]? = some v → Value.okWide Tryd.prog W .any base t v := hval0
  have hW' := hW
  obtain ⟨p, q, hA0, hV, rfl, hfz, hnd⟩ := hW
  have hA : DataW.TrodAll enc Tryd.prog W 0 (fun _ => true) true Tryd.f6.params.toList args.toList ds p := hA0
  rw [Tryd.params6] at hA hval
  obtain ⟨v0, vs0, d0, ds0, p0, q0, hargs, rfl, rfl, h0, r0⟩ := trodAll_cons hA
  obtain ⟨v1, vs1, d1, ds1, p1, q1, rfl, rfl, rfl, h1, r1⟩ := trodAll_cons r0
  obtain ⟨rfl, rfl, rfl⟩ := trodAll_nil r1
  obtain rfl : args = #[v0, v1] := by cases args; simp_all
  obtain ⟨rfl, rfl⟩ := trodVars_none hV
  have k0 := h0
  have lt0 : ∀ x ∈ p0, x.block < W.heap.size := by obtain ⟨m, hm⟩ := k0; exact DataW.trod_lt m _ _ _ hm
  obtain ⟨x0, y0, z0⟩ : ∃ x : Ab.pden (.slice Ab.T_api_Record), Ab.PRd W (Ab.InW W) (.slice Ab.T_api_Record) x v0.cells.toList ∧ Ab.wfP (.slice Ab.T_api_Record) x := by
    obtain ⟨m, hm⟩ := h0; exact Ab.open_ty (m := Ab.tyD) (T := 44) (by kernel_rfl) (by kernel_rfl) hm
  have a0 := Ab.okWide_form (t := (.slice Ab.T_api_Record)) (m := 11) (by kernel_rfl) (by kernel_rfl) (hval 0 44 v0 rfl rfl)
  have k1 := h1
  have lt1 : ∀ x ∈ p1, x.block < W.heap.size := by obtain ⟨m, hm⟩ := k1; exact DataW.trod_lt m _ _ _ hm
  obtain ⟨x1, y1, z1⟩ : ∃ x : Ab.pden (.slice Ab.T_api_Found), Ab.PRd W (Ab.InW W) (.slice Ab.T_api_Found) x v1.cells.toList ∧ Ab.wfP (.slice Ab.T_api_Found) x := by
    obtain ⟨m, hm⟩ := h1; exact Ab.open_ty (m := Ab.tyD) (T := 61) (by kernel_rfl) (by kernel_rfl) hm
  have a1 := Ab.okWide_form (t := (.slice Ab.T_api_Found)) (m := 11) (by kernel_rfl) (by kernel_rfl) (hval 1 61 v1 rfl rfl)
  have hc := Ab.bitloftlaw34_SalvageBuilds_true x0 z0 x1 z1
  refine ((Ab.FnI.call_ok (I := Ab.bitloftlaw34_SalvageBuilds_I) Ab.mixed hc).below (glob hL) (vs := [v0, v1]) (fun N K hN hl => ⟨_, _, rfl, y0.val hN hl rfl a0 (by kernel_rfl), ⟨_, _, rfl, y1.val hN hl rfl a1 (by kernel_rfl), rfl⟩⟩) (v := .bool true) (fun N K w' u hu => hu) (by kernel_rfl) (by kernel_rfl)).mono fun e W' ⟨he, bel⟩ => ?_
  subst he
  exact ⟨_, rfl, _, _, _, [], _, [], hW', trodAll_mk1 (shut_bool Tryd.underlying4 _), (trodAll_cons_mk (Below.trod laidOut (by kernel_rfl) (of_decide_eq_true (by kernel_rfl)) k0 bel lt0) (trodAll_cons_mk (Below.trod laidOut (by kernel_rfl) (of_decide_eq_true (by kernel_rfl)) k1 bel lt1) trodAll_mk0)), rfl, bel.frame _, fun h => by cases h⟩
theorem over : Rows.salvageBuildsRow.holds Tryd.pinned (OpenSpec.ofChange Rows.salvageBuildsSpec) :=
  OpenClaim.holds_of_wide 6 Tryd.f6 rfl rfl rfl rfl rfl rfl rfl ⟨rfl, rfl, rfl, rfl, rfl⟩ rfl rfl rfl rfl rfl (by kernel_rfl) Tryd.func6 (by kernel_rfl)
    (of_decide_eq_true (by kernel_rfl)) (by unfold Func.isWrapper; first | (rw [if_pos (by decide +kernel)]; kernel_rfl) | (rw [if_neg (by decide +kernel)]; exact ⟨rfl, rfl⟩))
    (fun os started H enc _ => lifted os started H enc)
theorem card_holds : Rows.SalvageBuildsCardSaid :=
  Claim7.holds_tied_plain_at .later [] [.data, .data] true (true, "aa92b200415bcab4fc89bdb95d0137d8ed52c0cd11e70dc3850a8702f95c58b4") true
    over (fun _ h => by cases h) (by kernel_rfl) (fun _ h => by cases h) salvageBuilds_row_tie rfl ⟨rfl, rfl⟩ (by kernel_rfl) rfl
    (fun f fn hf hfn => by
      obtain rfl : f = 6 := Option.some.inj ((show Tryd.prog.funcNamed "bitloft/bitloftlaw34.SalvageBuilds" = some 6 by kernel_rfl).symm.trans hf) |>.symm
      obtain rfl : fn = Tryd.f6 := (Option.some.inj (Tryd.func6.symm.trans hfn)).symm
      exact ⟨by kernel_rfl, fun j t ht => by
        rw [Tryd.params6] at ht
        have hm : t ∈ [44, 61] := by
          have := List.mem_of_getElem? (l := [44, 61]) (i := j) (a := t) (by simpa using ht)
          exact this
        simp only [List.mem_cons, List.not_mem_nil, or_false] at hm
        rcases hm with rfl | rfl
        · exact (show Tryd.prog.wantsStandIn 44 = false by kernel_rfl)
        · exact (show Tryd.prog.wantsStandIn 61 = false by kernel_rfl)⟩)
    (by kernel_rfl)
#print axioms card_holds
end Go.Proofs.YtdhmnakopofmpaaDoor.salvageBuilds
namespace Go.Proofs.YtdhmnakopofmpaaDoor
/-- The statement, under a short name. -/
theorem salvageBuilds_holds : Rows.SalvageBuildsCardSaid := salvageBuilds.card_holds
end Go.Proofs.YtdhmnakopofmpaaDoor
