/-
  BoundNames: the limits, small pieces, and errors of the lengths are as the law tells.
-/
import Derived.Test.YtdhmnakopofmpaaDoorPureN
import Derived.Test.YtdhmnakopofmpaaDoorCards
import Derived.Test.YtdhmnakopofmpaaDoorTie
import Derived.SevenTiedAt
namespace Go.Proofs.YtdhmnakopofmpaaDoor.boundNames
open Go Go.ChangeShapes Go.WideShapes Go.ChangeAt Go.RowKit
set_option linter.unusedVariables false
set_option maxRecDepth 100000
theorem own : ownKnob Tryd.prog.godebug = none := by kernel_rfl
theorem laidOut : laidOutB Tryd.prog = true := by kernel_rfl
theorem door_met (os : Os) (args : Array Value) : laidMetH Tryd.prog Rows.boundNamesRow.laid ((World.doorLaid Tryd.prog 26 os).forCall (fun _ _ => 0) ⟨#[], args, []⟩).memory :=
  laidMetH_of_parts3 (fuel := 8) (laidMet_of_run' 8 (by kernel_rfl) (by kernel_rfl)) (by kernel_rfl) (by kernel_rfl)
theorem glob {W : World} (h : laidMetH Tryd.prog Rows.boundNamesRow.laid W) : Ab.Glob Tryd.prog Ab.GT W := by
  rw [MakeChecks.laidMetH_plain _ _ _ (by kernel_rfl)] at h
  obtain ⟨ps, ⟨g0, t0, cs0, f0, p0, q0, hg0, ht0, hv0, hd0, _, _⟩, _, _⟩ := h
  obtain rfl := Option.some.inj ((show Tryd.prog.globalNamed "bitloft/sha.quarters" = some 2 by kernel_rfl).symm.trans hg0)
  obtain rfl := Option.some.inj ((show (Tryd.prog.globals[2]?).map (·.type) = some 228 by kernel_rfl).symm.trans ht0)
  have c0 := Ab.laid_arr (zs := ([1518500249, 1859775393, 2400959708, 3395469782] : List Int)) Tryd.underlying228 Tryd.underlying196 (by kernel_rfl) (by kernel_rfl) hd0
  have e0 : ∀ (j : Nat) (v : Value), cs0.toList[j]? = some v → W.cell? ⟨2, j, none⟩ = some v := fun j v hj => by
    rw [World.var?_cell hg0 hv0 j, ← Array.getElem?_toList]; exact hj
  have s0 : 2 < W.heap.size := by
    have h0 := e0 0 (Value.int .u32 1518500249) (by rw [c0]; rfl)
    simp only [World.cell?] at h0
    by_cases hlt : 2 < W.heap.size
    · exact hlt
    · rw [Array.getElem?_eq_none (by omega)] at h0; cases h0
  refine ⟨by simp only [Ab.ngOf, Ab.GT]; omega, fun g t x hl => ?_, fun g hl => ?_⟩
  rotate_left
  · simp only [Ab.GT, Ab.lookL] at hl
    split at hl
    · injection hl with hl; injection hl with h1 h2; cases h1
    cases hl
  simp only [Ab.GT, Ab.lookL] at hl
  split at hl
  · rename_i e; subst e; injection hl with hl; injection hl with h1 h2; subst h1; obtain rfl := eq_of_heq h2
    exact ⟨by decide, rfl, Ab.glob_arr c0 rfl e0⟩
  cases hl
theorem lifted (os : Os) (started : os.Started) (H : Type) (enc : TypeId × Value → H) :
    ReturnsInHanded {} Tryd.checked os 11 .any (fun w args => (Rows.boundNamesSpec.pre enc Tryd.prog Tryd.f11 [] false w args ∧ laidMetH Tryd.prog Rows.boundNamesRow.laid w) ∧ sizedMet enc Tryd.prog Tryd.f11 (OpenSpec.ofChange Rows.boundNamesSpec) false w args)
      (Rows.boundNamesSpec.post enc Tryd.prog Tryd.f11 false true false false) := by
  refine returnsInHanded_of_change_and (C := Tryd.checked) (X := fun w _ => laidMetH Tryd.prog Rows.boundNamesRow.laid w) (fun _ _ _ hh h => h.of_heap hh) own started (by kernel_rfl) Tryd.func11
    (ChangeSpec.witness_shaped (enc := enc) (C := Tryd.checked) (os := os) (X := fun w _ => laidMetH Tryd.prog Rows.boundNamesRow.laid w) false (World.doorLaid Tryd.prog 26 os) #[] 8 rfl (World.shaped_of_RefB (by kernel_rfl) (by kernel_rfl)) (by kernel_rfl) (by kernel_rfl) (by kernel_rfl) (door_met os _)) ?_
  intro W base args ds gs before hval0 hW _ _ hL _
  have hval : ∀ (j : Nat) t v, Tryd.f11.params[j]? = some t → args[j]? = some v → Value.okWide Tryd.prog W .any base t v := hval0
  have hW' := hW
  obtain ⟨p, q, hA0, hV, rfl, hfz, hnd⟩ := hW
  have hA : DataW.TrodAll enc Tryd.prog W 0 (fun _ => true) true Tryd.f11.params.toList args.toList ds p := hA0
  rw [Tryd.params11] at hA hval
  obtain ⟨hargs, rfl, rfl⟩ := trodAll_nil hA
  obtain rfl : args = #[] := by cases args; simp_all
  obtain ⟨rfl, rfl⟩ := trodVars_none hV
  have hc := Ab.bitloftlaw36_BoundNames_true 
  refine ((Ab.FnI.call_ok (I := Ab.bitloftlaw36_BoundNames_I) Ab.mixed hc).below (glob hL) (vs := []) (fun N K hN hl => rfl) (v := .bool true) (fun N K w' u hu => hu) (by kernel_rfl) (by kernel_rfl)).mono fun e W' ⟨he, bel⟩ => ?_
  subst he
  exact ⟨_, rfl, _, _, _, [], _, [], hW', trodAll_mk1 (shut_bool Tryd.underlying4 _), trodAll_mk0, rfl, bel.frame _, fun h => by cases h⟩
theorem over : Rows.boundNamesRow.holds Tryd.pinned (OpenSpec.ofChange Rows.boundNamesSpec) :=
  OpenClaim.holds_of_wide 11 Tryd.f11 rfl rfl rfl rfl rfl rfl rfl ⟨rfl, rfl, rfl, rfl, rfl⟩ rfl rfl rfl rfl rfl (by kernel_rfl) Tryd.func11 (by kernel_rfl)
    (of_decide_eq_true (by kernel_rfl)) (by unfold Func.isWrapper; first | (rw [if_pos (by decide +kernel)]; kernel_rfl) | (rw [if_neg (by decide +kernel)]; exact ⟨rfl, rfl⟩))
    (fun os started H enc _ => lifted os started H enc)
theorem card_holds : Rows.BoundNamesCardSaid :=
  Claim7.holds_tied_plain_at .later [] [.data] true (true, "aa92b200415bcab4fc89bdb95d0137d8ed52c0cd11e70dc3850a8702f95c58b4") true
    over (fun _ h => by cases h) (by kernel_rfl) (fun _ h => by cases h) boundNames_row_tie rfl ⟨rfl, rfl⟩ (by kernel_rfl) rfl
    (fun f fn hf hfn => by
      obtain rfl : f = 11 := Option.some.inj ((show Tryd.prog.funcNamed "bitloft/bitloftlaw36.BoundNames" = some 11 by kernel_rfl).symm.trans hf) |>.symm
      obtain rfl : fn = Tryd.f11 := (Option.some.inj (Tryd.func11.symm.trans hfn)).symm
      exact ⟨by kernel_rfl, fun j t ht => by
        rw [Tryd.params11] at ht
        simp at ht⟩)
    (by kernel_rfl)
#print axioms card_holds
end Go.Proofs.YtdhmnakopofmpaaDoor.boundNames
namespace Go.Proofs.YtdhmnakopofmpaaDoor
/-- The statement, under a short name. -/
theorem boundNames_holds : Rows.BoundNamesCardSaid := boundNames.card_holds
end Go.Proofs.YtdhmnakopofmpaaDoor
