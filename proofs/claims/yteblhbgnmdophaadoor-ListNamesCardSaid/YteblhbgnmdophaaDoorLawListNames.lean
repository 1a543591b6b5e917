/-
  limits and errors
-/
import Derived.Test.YteblhbgnmdophaaDoorTxtLe
import Derived.Lay
import Derived.Test.YteblhbgnmdophaaDoorCards
import Derived.Test.YteblhbgnmdophaaDoorTie
import Derived.SevenTiedAt
namespace Go.Proofs.YteblhbgnmdophaaDoor.listNames
open Go Go.ChangeShapes Go.WideShapes Go.ChangeAt Go.RowKit
set_option linter.unusedVariables false
set_option maxRecDepth 100000
theorem own : ownKnob Tryd.prog.godebug = none := by kernel_rfl
theorem laidOut : laidOutB Tryd.prog = true := by kernel_rfl
theorem door_met (os : Os) (args : Array Value) : laidMetH Tryd.prog Rows.listNamesRow.laid (((World.doorLaid Tryd.prog 26 os).layVars Tryd.prog []).forCall (fun _ _ => 0) ⟨#[], args, []⟩).memory := by
  have h : laidMet Tryd.prog (Rows.listNamesRow.laid.filter fun x => x.2.handleName?.isNone) ((World.doorLaid Tryd.prog 26 os).layVars Tryd.prog []) :=
    laidMet_layVars (w0 := World.doorLaid Tryd.prog 26 os) [] [1, 2] (by kernel_rfl) (by kernel_rfl) (by kernel_rfl) (LaidIn.of_run [1, 2] 8 (by kernel_rfl) (by kernel_rfl) (by kernel_rfl) (by kernel_rfl))
  exact laidMetH_of_parts3 (fuel := 8) (h.of_heap (by simp [World.memory, World.forCall, Input.heap])) (by kernel_rfl) (by kernel_rfl)
theorem glob {W : World} (h : laidMetH Tryd.prog Rows.listNamesRow.laid W) : Ab.Glob Tryd.prog Ab.GT W := by
  obtain ⟨h, hh⟩ := h
  obtain ⟨ps, ⟨g0, t0, cs0, f0, p0, q0, hg0, ht0, hv0, hd0, ⟨g1, t1, cs1, f1, p1, q1, hg1, ht1, hv1, hd1, _, _⟩, _⟩, _, _⟩ := h
  obtain rfl := Option.some.inj ((show Tryd.prog.globalNamed "bitloft/sha.quarters" = some 1 by kernel_rfl).symm.trans hg0)
  obtain rfl := Option.some.inj ((show (Tryd.prog.globals[1]?).map (·.type) = some 154 by kernel_rfl).symm.trans ht0)
  have c0 := Ab.laid_arr (zs := ([1518500249, 1859775393, 2400959708, 3395469782] : List Int)) Tryd.underlying154 Tryd.underlying120 (by kernel_rfl) (by kernel_rfl) hd0
  have e0 : ∀ (j : Nat) (v : Value), cs0.toList[j]? = some v → W.cell? ⟨1, j, none⟩ = some v := fun j v hj => by
    rw [World.var?_cell hg0 hv0 j, ← Array.getElem?_toList]; exact hj
  have s0 : 1 < W.heap.size := by
    have h0 := e0 0 (Value.int .u32 1518500249) (by rw [c0]; rfl)
    simp only [World.cell?] at h0
    by_cases hlt : 1 < W.heap.size
    · exact hlt
    · rw [Array.getElem?_eq_none (by omega)] at h0; cases h0
  obtain rfl := Option.some.inj ((show Tryd.prog.globalNamed "bitloft/header.widths" = some 2 by kernel_rfl).symm.trans hg1)
  obtain rfl := Option.some.inj ((show (Tryd.prog.globals[2]?).map (·.type) = some 155 by kernel_rfl).symm.trans ht1)
  have c1 := Ab.laid_arr (zs := ([1, 1, 2, 2, 2] : List Int)) Tryd.underlying155 Tryd.underlying3 (by kernel_rfl) (by kernel_rfl) hd1
  have e1 : ∀ (j : Nat) (v : Value), cs1.toList[j]? = some v → W.cell? ⟨2, j, none⟩ = some v := fun j v hj => by
    rw [World.var?_cell hg1 hv1 j, ← Array.getElem?_toList]; exact hj
  have s1 : 2 < W.heap.size := by
    have h0 := e1 0 (Value.int .i64 1) (by rw [c1]; rfl)
    simp only [World.cell?] at h0
    by_cases hlt : 2 < W.heap.size
    · exact hlt
    · rw [Array.getElem?_eq_none (by omega)] at h0; cases h0
  obtain ⟨name, u, ty, k1, k2, k3, k4, k5⟩ := hh _ (List.mem_singleton.2 rfl)
  have en : name = [101, 114, 114, 111, 114] := (Option.some.inj k1).symm
  subst en
  have kc : W.cell? ⟨0, 0, none⟩ = some (.iface u (.agg #[typeHandle Tryd.prog ty])) := by
    simpa using World.var?_cell (show Tryd.prog.globalNamed "errors.errorType" = some 0 by kernel_rfl) k5 0
  have sh : 0 < W.heap.size := by
    simp only [World.cell?] at kc
    by_cases hlt : 0 < W.heap.size
    · exact hlt
    · rw [Array.getElem?_eq_none (by omega)] at kc; cases kc
  refine ⟨by simp only [Ab.ngOf, Ab.GT]; omega, fun g t x hl => ?_, fun g hl => ?_, fun g hl => ?_⟩
  · simp only [Ab.GT, Ab.lookL] at hl
    split at hl
    · rename_i e; subst e; injection hl with hl; injection hl with h1 h2; subst h1; obtain rfl := eq_of_heq h2
      exact ⟨by decide, rfl, [], fun j v hj => by simp at hj, rfl⟩
    split at hl
    · rename_i e; subst e; injection hl with hl; injection hl with h1 h2; subst h1; obtain rfl := eq_of_heq h2
      exact ⟨by decide, rfl, Ab.glob_arr c0 rfl e0⟩
    split at hl
    · rename_i e; subst e; injection hl with hl; injection hl with h1 h2; subst h1; obtain rfl := eq_of_heq h2
      exact ⟨by decide, rfl, Ab.glob_arr c1 rfl e1⟩
    cases hl
  · simp only [Ab.GT, Ab.lookL] at hl
    split at hl
    · rename_i e; subst e; exact ⟨u, ty, k2, k3, k4, kc⟩
    split at hl
    · injection hl with hl; injection hl with h1 h2; cases h1
    split at hl
    · injection hl with hl; injection hl with h1 h2; cases h1
    cases hl
  · simp only [Ab.GT, Ab.lookL] at hl
    split at hl
    · injection hl with hl; injection hl with h1 h2; cases h1
    split at hl
    · injection hl with hl; injection hl with h1 h2; cases h1
    split at hl
    · injection hl with hl; injection hl with h1 h2; cases h1
    cases hl
theorem lifted (os : Os) (started : os.Started) (H : Type) (enc : TypeId × Value → H) :
    ReturnsInHanded {} Tryd.checked os 3 .any (fun w args => (Rows.listNamesSpec.pre enc Tryd.prog Tryd.f3 [] false w args ∧ laidMetH Tryd.prog Rows.listNamesRow.laid w) ∧ sizedMet enc Tryd.prog Tryd.f3 (OpenSpec.ofChange Rows.listNamesSpec) false w args)
      (Rows.listNamesSpec.post enc Tryd.prog Tryd.f3 false true false false) := by
  refine returnsInHanded_of_change_and (C := Tryd.checked) (X := fun w _ => laidMetH Tryd.prog Rows.listNamesRow.laid w) (fun _ _ _ hh h => h.of_heap hh) own started (by kernel_rfl) Tryd.func3
    (ChangeSpec.witness_shaped (enc := enc) (C := Tryd.checked) (os := os) (X := fun w _ => laidMetH Tryd.prog Rows.listNamesRow.laid w) false ((World.doorLaid Tryd.prog 26 os).layVars Tryd.prog []) #[] 8 (World.layVars_os _ _ _) (World.shaped_of_ZipB (by kernel_rfl) (by kernel_rfl)) (by kernel_rfl) (by kernel_rfl) (by kernel_rfl) (door_met os _)) ?_
  intro W base args ds gs before hval0 hW _ _ hL _
  have hval : ∀ (j : Nat) t v, Tryd.f3.params[j]? = some t → args[j]? = some v → Value.okWide Tryd.prog W .any base t v := hval0
  have hW' := hW
  obtain ⟨p, q, hA0, hV, rfl, hfz, hnd⟩ := hW
  have hA : DataW.TrodAll enc Tryd.prog W 0 (fun _ => true) true Tryd.f3.params.toList args.toList ds p := hA0
  rw [Tryd.params3] at hA hval
  obtain ⟨hargs, rfl, rfl⟩ := trodAll_nil hA
  obtain rfl : args = #[] := by cases args; simp_all
  obtain ⟨rfl, rfl⟩ := trodVars_none hV
  have hc := Ab.bitloftlaw31_ListNames_true 
  refine ((Ab.FnI.call_ok (I := Ab.bitloftlaw31_ListNames_I) Ab.mixed hc).below (glob hL) (vs := []) (fun N K hN hl => rfl) (v := .bool true) (fun N K w' u hu => hu) (by kernel_rfl) (by kernel_rfl)).mono fun e W' ⟨he, bel⟩ => ?_
  subst he
  exact ⟨_, rfl, _, _, _, [], _, [], hW', trodAll_mk1 (shut_bool Tryd.underlying4 _), trodAll_mk0, rfl, bel.frame _, fun h => by cases h⟩
theorem over : Rows.listNamesRow.holds Tryd.pinned (OpenSpec.ofChange Rows.listNamesSpec) :=
  OpenClaim.holds_of_wide 3 Tryd.f3 rfl rfl rfl rfl rfl rfl rfl ⟨rfl, rfl, rfl, rfl, rfl⟩ rfl rfl rfl rfl rfl (by kernel_rfl) Tryd.func3 (by kernel_rfl)
    (of_decide_eq_true (by kernel_rfl)) (by unfold Func.isWrapper; first | (rw [if_pos (by decide +kernel)]; kernel_rfl) | (rw [if_neg (by decide +kernel)]; exact ⟨rfl, rfl⟩))
    (fun os started H enc _ => lifted os started H enc)
theorem card_holds : Rows.ListNamesCardSaid :=
  Claim7.holds_tied_plain_at .later [] [.handle, .data, .data] true (true, "e46b10818c4d28d59bd67ac7d4a17549315779df9b2e243e1f38ef4a06073e66") true
    over (fun _ h => by cases h) (by kernel_rfl) (fun _ h => by cases h) listNames_row_tie rfl ⟨rfl, rfl⟩ (by kernel_rfl) rfl
    (fun f fn hf hfn => by
      obtain rfl : f = 3 := Option.some.inj ((show Tryd.prog.funcNamed "bitloft/bitloftlaw31.ListNames" = some 3 by kernel_rfl).symm.trans hf) |>.symm
      obtain rfl : fn = Tryd.f3 := (Option.some.inj (Tryd.func3.symm.trans hfn)).symm
      exact ⟨by kernel_rfl, fun j t ht => by
        rw [Tryd.params3] at ht
        simp at ht⟩)
    (by kernel_rfl)
#print axioms card_holds
end Go.Proofs.YteblhbgnmdophaaDoor.listNames
namespace Go.Proofs.YteblhbgnmdophaaDoor
/-- The statement, under a short name. -/
theorem listNames_holds : Rows.ListNamesCardSaid := listNames.card_holds
end Go.Proofs.YteblhbgnmdophaaDoor
