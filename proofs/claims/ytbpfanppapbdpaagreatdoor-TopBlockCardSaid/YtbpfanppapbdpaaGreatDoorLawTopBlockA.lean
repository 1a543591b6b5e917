/-
  markers, headers, blocks, members and pieces agree
-/
import Derived.Test.YtbpfanppapbdpaaGreatDoorTxtTg
import Derived.Lay
import Derived.Test.YtbpfanppapbdpaaGreatDoorCards
import Derived.Test.YtbpfanppapbdpaaGreatDoorTie
import Derived.SevenTiedAt
namespace Go.Proofs.YtbpfanppapbdpaaGreatDoor.topBlock
open Go Go.ChangeShapes Go.WideShapes Go.ChangeAt Go.RowKit
set_option linter.unusedVariables false
set_option maxRecDepth 100000
theorem own : ownKnob Tryz.prog.godebug = none := by kernel_rfl
theorem laidOut : laidOutB Tryz.prog = true := by kernel_rfl
theorem door_met (os : Os) (args : Array Value) : laidMetH Tryz.prog Rows.topBlockRow.laid (((World.doorLaid Tryz.prog 46 os).layVars Tryz.prog [("unicode/utf8.first", Rows.laid_unicode_utf8_first)]).forCall (fun _ _ => 0) ⟨#[], args, []⟩).memory := by
  have h : laidMet Tryz.prog (Rows.topBlockRow.laid.filter fun x => x.2.handleName?.isNone) ((World.doorLaid Tryz.prog 46 os).layVars Tryz.prog [("unicode/utf8.first", Rows.laid_unicode_utf8_first)]) :=
    laidMet_layVars (w0 := World.doorLaid Tryz.prog 46 os) ["unicode/utf8.first"] [7, 3, 1, 4, 5] (by kernel_rfl) (by kernel_rfl) (by kernel_rfl) (LaidIn.of_run [7, 3, 1, 4, 5] 8 (by kernel_rfl) (by kernel_rfl) (by kernel_rfl) (by kernel_rfl))
  exact laidMetH_of_parts3 (fuel := 8) (h.of_heap (by simp [World.memory, World.forCall, Input.heap])) (by kernel_rfl) (by kernel_rfl)
theorem glob {W : World} (hsh : W.ShapedOpen Tryz.prog) (h : laidMetH Tryz.prog Rows.topBlockRow.laid W) : Ab.Glob Tryz.prog Ab.GT W := by
  obtain ⟨mi2, hmi2⟩ := cell_of_shapedOpen_int (g := 2) (zero := #[.int .i64 0]) (t := 3) hsh (of_decide_eq_true (by kernel_rfl)) (by kernel_rfl) rfl (by kernel_rfl) (by kernel_rfl) Tryz.underlying3
  have si2 : 2 < W.heap.size := by
    simp only [World.cell?] at hmi2
    by_cases hlt : 2 < W.heap.size
    · exact hlt
    · rw [Array.getElem?_eq_none (by omega)] at hmi2; cases hmi2
  obtain ⟨h, hh⟩ := h
  obtain ⟨ps, ⟨g0, t0, cs0, f0, p0, q0, hg0, ht0, hv0, hd0, ⟨g1, t1, cs1, f1, p1, q1, hg1, ht1, hv1, hd1, ⟨g2, t2, cs2, f2, p2, q2, hg2, ht2, hv2, hd2, ⟨g3, t3, cs3, f3, p3, q3, hg3, ht3, hv3, hd3, ⟨g4, t4, cs4, f4, p4, q4, hg4, ht4, hv4, hd4, ⟨g5, t5, cs5, f5, p5, q5, hg5, ht5, hv5, hd5, _, _⟩, _⟩, _⟩, _⟩, _⟩, _⟩, _, _⟩ := h
  obtain rfl := Option.some.inj ((show Tryz.prog.globalNamed "bitloft/sha.quarters" = some 3 by kernel_rfl).symm.trans hg1)
  obtain rfl := Option.some.inj ((show (Tryz.prog.globals[3]?).map (·.type) = some 225 by kernel_rfl).symm.trans ht1)
  have c1 := Ab.laid_arr (zs := ([1518500249, 1859775393, 2400959708, 3395469782] : List Int)) Tryz.underlying225 Tryz.underlying152 (by kernel_rfl) (by kernel_rfl) hd1
  have e1 : ∀ (j : Nat) (v : Value), cs1.toList[j]? = some v → W.cell? ⟨3, j, none⟩ = some v := fun j v hj => by
    rw [World.var?_cell hg1 hv1 j, ← Array.getElem?_toList]; exact hj
  have s1 : 3 < W.heap.size := by
    have h0 := e1 0 (Value.int .u32 1518500249) (by rw [c1]; rfl)
    simp only [World.cell?] at h0
    by_cases hlt : 3 < W.heap.size
    · exact hlt
    · rw [Array.getElem?_eq_none (by omega)] at h0; cases h0
  obtain rfl := Option.some.inj ((show Tryz.prog.globalNamed "bitloft/header.widths" = some 1 by kernel_rfl).symm.trans hg2)
  obtain rfl := Option.some.inj ((show (Tryz.prog.globals[1]?).map (·.type) = some 170 by kernel_rfl).symm.trans ht2)
  have c2 := Ab.laid_arr (zs := ([1, 1, 2, 2, 2] : List Int)) Tryz.underlying170 Tryz.underlying3 (by kernel_rfl) (by kernel_rfl) hd2
  have e2 : ∀ (j : Nat) (v : Value), cs2.toList[j]? = some v → W.cell? ⟨1, j, none⟩ = some v := fun j v hj => by
    rw [World.var?_cell hg2 hv2 j, ← Array.getElem?_toList]; exact hj
  have s2 : 1 < W.heap.size := by
    have h0 := e2 0 (Value.int .i64 1) (by rw [c2]; rfl)
    simp only [World.cell?] at h0
    by_cases hlt : 1 < W.heap.size
    · exact hlt
    · rw [Array.getElem?_eq_none (by omega)] at h0; cases h0
  obtain rfl := Option.some.inj ((show Tryz.prog.globalNamed "bitloft/adapt.targets" = some 4 by kernel_rfl).symm.trans hg3)
  obtain rfl := Option.some.inj ((show (Tryz.prog.globals[4]?).map (·.type) = some 390 by kernel_rfl).symm.trans ht3)
  have c3 := Ab.laid_arr (zs := ([0, 65535] : List Int)) Tryz.underlying390 Tryz.underlying21 (by kernel_rfl) (by kernel_rfl) hd3
  have e3 : ∀ (j : Nat) (v : Value), cs3.toList[j]? = some v → W.cell? ⟨4, j, none⟩ = some v := fun j v hj => by
    rw [World.var?_cell hg3 hv3 j, ← Array.getElem?_toList]; exact hj
  have s3 : 4 < W.heap.size := by
    have h0 := e3 0 (Value.int .i32 0) (by rw [c3]; rfl)
    simp only [World.cell?] at h0
    by_cases hlt : 4 < W.heap.size
    · exact hlt
    · rw [Array.getElem?_eq_none (by omega)] at h0; cases h0
  obtain rfl := Option.some.inj ((show Tryz.prog.globalNamed "bitloft/squash.row" = some 5 by kernel_rfl).symm.trans hg4)
  obtain rfl := Option.some.inj ((show (Tryz.prog.globals[5]?).map (·.type) = some 394 by kernel_rfl).symm.trans ht4)
  have c4 := Ab.laid_arr (zs := ([1, 2, 3, 6, 10, 16, 27, 45, 73, 120, 194, 310, 488, 747, 1101, 1546, 2047, 2549, 2994, 3348, 3607, 3785, 3901, 3975, 4022, 4050, 4068, 4079, 4085, 4089, 4092, 4093, 4094] : List Int)) Tryz.underlying394 Tryz.underlying21 (by kernel_rfl) (by kernel_rfl) hd4
  have e4 : ∀ (j : Nat) (v : Value), cs4.toList[j]? = some v → W.cell? ⟨5, j, none⟩ = some v := fun j v hj => by
    rw [World.var?_cell hg4 hv4 j, ← Array.getElem?_toList]; exact hj
  have s4 : 5 < W.heap.size := by
    have h0 := e4 0 (Value.int .i32 1) (by rw [c4]; rfl)
    simp only [World.cell?] at h0
    by_cases hlt : 5 < W.heap.size
    · exact hlt
    · rw [Array.getElem?_eq_none (by omega)] at h0; cases h0
  obtain ⟨name, u, ty, k1, k2, k3, k4, k5⟩ := hh _ (List.mem_singleton.2 rfl)
  have en : name = [101, 114, 114, 111, 114] := (Option.some.inj k1).symm
  subst en
  have kc : W.cell? ⟨0, 0, none⟩ = some (.iface u (.agg #[typeHandle Tryz.prog ty])) := by
    simpa using World.var?_cell (show Tryz.prog.globalNamed "errors.errorType" = some 0 by kernel_rfl) k5 0
  have sh : 0 < W.heap.size := by
    simp only [World.cell?] at kc
    by_cases hlt : 0 < W.heap.size
    · exact hlt
    · rw [Array.getElem?_eq_none (by omega)] at kc; cases kc
  refine ⟨by simp only [Ab.ngOf, Ab.GT]; omega, fun g t x hl => ?_, fun g hl => ?_, fun g hl => ?_⟩
  · simp only [Ab.GT, Ab.lookL] at hl
    split at hl
    · rename_i e; subst e; injection hl with hl; injection hl with h1 h2; subst h1; obtain rfl := eq_of_heq h2
      exact ⟨by decide, rfl, [], fun j v hj => by simp at hj, rfl⟩
    split at hl
    · rename_i e; subst e; injection hl with hl; injection hl with h1 h2; subst h1; obtain rfl := eq_of_heq h2
      exact ⟨by decide, rfl, Ab.glob_arr c2 rfl e2⟩
    split at hl
    · rename_i e; subst e; injection hl with hl; injection hl with h1 h2; subst h1; obtain rfl := eq_of_heq h2
      exact ⟨by decide, rfl, [], fun j v hj => by simp at hj, [], [], rfl, rfl, rfl⟩
    split at hl
    · rename_i e; subst e; injection hl with hl; injection hl with h1 h2; subst h1; obtain rfl := eq_of_heq h2
      exact ⟨by decide, rfl, Ab.glob_arr c1 rfl e1⟩
    split at hl
    · rename_i e; subst e; injection hl with hl; injection hl with h1 h2; subst h1; obtain rfl := eq_of_heq h2
      exact ⟨by decide, rfl, Ab.glob_arr c3 rfl e3⟩
    split at hl
    · rename_i e; subst e; injection hl with hl; injection hl with h1 h2; subst h1; obtain rfl := eq_of_heq h2
      exact ⟨by decide, rfl, Ab.glob_arr c4 rfl e4⟩
    cases hl
  · simp only [Ab.GT, Ab.lookL] at hl
    split at hl
    · rename_i e; subst e; exact ⟨u, ty, k2, k3, k4, kc⟩
    split at hl
    · injection hl with hl; injection hl with h1 h2; cases h1
    split at hl
    · injection hl with hl; injection hl with h1 h2; cases h1
    split at hl
    · injection hl with hl; injection hl with h1 h2; cases h1
    split at hl
    · injection hl with hl; injection hl with h1 h2; cases h1
    split at hl
    · injection hl with hl; injection hl with h1 h2; cases h1
    cases hl
  · simp only [Ab.GT, Ab.lookL] at hl
    split at hl
    · injection hl with hl; injection hl with h1 h2; cases h1
    split at hl
    · injection hl with hl; injection hl with h1 h2; cases h1
    split at hl
    · rename_i e; subst e; exact ⟨mi2, hmi2⟩
    split at hl
    · injection hl with hl; injection hl with h1 h2; cases h1
    split at hl
    · injection hl with hl; injection hl with h1 h2; cases h1
    split at hl
    · injection hl with hl; injection hl with h1 h2; cases h1
    cases hl
theorem lifted (os : Os) (started : os.Started) (H : Type) (enc : TypeId × Value → H) :
    ReturnsInHanded {} Tryz.checked os 3 .any (fun w args => (Rows.topBlockSpec.pre enc Tryz.prog Tryz.f3 [] false w args ∧ laidMetH Tryz.prog Rows.topBlockRow.laid w) ∧ sizedMet enc Tryz.prog Tryz.f3 (OpenSpec.ofChange Rows.topBlockSpec) false w args)
      (Rows.topBlockSpec.post enc Tryz.prog Tryz.f3 false true false false) := by
  refine Ab.returns_shaped (C := Tryz.checked) (X := fun w => laidMetH Tryz.prog Rows.topBlockRow.laid w) (fun _ _ hh h => h.of_heap hh) own started (by kernel_rfl) Tryz.func3
    (ChangeSpec.witness_shaped (enc := enc) (C := Tryz.checked) (os := os) (X := fun w _ => laidMetH Tryz.prog Rows.topBlockRow.laid w) false ((World.doorLaid Tryz.prog 46 os).layVars Tryz.prog [("unicode/utf8.first", Rows.laid_unicode_utf8_first)]) #[.agg #[.int .i64 0, .int .i64 0], .slice none 0 0] 8 (World.layVars_os _ _ _) (World.shaped_of_ZipB (by kernel_rfl) (by kernel_rfl)) (by kernel_rfl) (by kernel_rfl) (by kernel_rfl) (door_met os _)) ?_
  intro W base args ds gs before hL hsh hval0 hW
  have hval : ∀ (j : Nat) t v, Tryz.f3.params[j]? = some t → args[j]? = some v → Value.okWide Tryz.prog W .any base t v := hval0
  have hW' := hW
  obtain ⟨p, q, hA0, hV, rfl, hfz, hnd⟩ := hW
  have hA : DataW.TrodAll enc Tryz.prog W 0 (fun _ => true) true Tryz.f3.params.toList args.toList ds p := hA0
  rw [Tryz.params3] at hA hval
  obtain ⟨v0, vs0, d0, ds0, p0, q0, hargs, rfl, rfl, h0, r0⟩ := trodAll_cons hA
  obtain ⟨v1, vs1, d1, ds1, p1, q1, rfl, rfl, rfl, h1, r1⟩ := trodAll_cons r0
  obtain ⟨rfl, rfl, rfl⟩ := trodAll_nil r1
  obtain rfl : args = #[v0, v1] := by cases args; simp_all
  obtain ⟨rfl, rfl⟩ := trodVars_none hV
  have k0 := h0
  have lt0 : ∀ x ∈ p0, x.block < W.heap.size := by obtain ⟨m, hm⟩ := k0; exact DataW.trod_lt m _ _ _ hm
  obtain ⟨x0, y0, z0⟩ : ∃ x : Ab.pden Ab.T_api_Settings, Ab.PRd W (Ab.InW W) Ab.T_api_Settings x v0.cells.toList ∧ Ab.wfP Ab.T_api_Settings x := by
    obtain ⟨m, hm⟩ := h0; exact Ab.open_ty (m := Ab.tyD) (T := 23) (by kernel_rfl) (by kernel_rfl) hm
  have a0 := Ab.okWide_form (t := Ab.T_api_Settings) (m := 11) (by kernel_rfl) (by kernel_rfl) (hval 0 23 v0 rfl rfl)
  have k1 := h1
  have lt1 : ∀ x ∈ p1, x.block < W.heap.size := by obtain ⟨m, hm⟩ := k1; exact DataW.trod_lt m _ _ _ hm
  obtain ⟨x1, y1, z1⟩ : ∃ x : Ab.pden (.slice Ab.T_api_Member), Ab.PRd W (Ab.InW W) (.slice Ab.T_api_Member) x v1.cells.toList ∧ Ab.wfP (.slice Ab.T_api_Member) x := by
    obtain ⟨m, hm⟩ := h1; exact Ab.open_ty (m := Ab.tyD) (T := 24) (by kernel_rfl) (by kernel_rfl) hm
  have a1 := Ab.okWide_form (t := (.slice Ab.T_api_Member)) (m := 11) (by kernel_rfl) (by kernel_rfl) (hval 1 24 v1 rfl rfl)
  have hc := Ab.bitlofttop_TopBlock_true x0 z0 x1 z1
  refine ((Ab.FnI.call_ok (I := Ab.bitlofttop_TopBlock_I) Ab.mixed hc).below (glob hsh hL) (vs := [v0, v1]) (fun N K hN hl => ⟨_, _, rfl, y0.val hN hl rfl a0 (by kernel_rfl), ⟨_, _, rfl, y1.val hN hl rfl a1 (by kernel_rfl), rfl⟩⟩) (v := .bool true) (fun N K w' u hu => hu) (by kernel_rfl) (by kernel_rfl)).mono fun e W' ⟨he, bel⟩ => ?_
  subst he
  exact ⟨_, rfl, _, _, _, [], _, [], hW', trodAll_mk1 (shut_bool Tryz.underlying4 _), (trodAll_cons_mk (Below.trod laidOut (by kernel_rfl) (of_decide_eq_true (by kernel_rfl)) k0 bel lt0) (trodAll_cons_mk (Below.trod laidOut (by kernel_rfl) (of_decide_eq_true (by kernel_rfl)) k1 bel lt1) trodAll_mk0)), rfl, bel.frame _, fun h => by cases h⟩
end Go.Proofs.YtbpfanppapbdpaaGreatDoor.topBlock
