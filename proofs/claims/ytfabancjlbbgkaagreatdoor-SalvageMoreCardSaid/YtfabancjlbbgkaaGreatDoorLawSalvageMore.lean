/-
  what is whole stays whole
-/
import Derived.Test.YtfabancjlbbgkaaGreatDoorTxtXg
import Derived.Lay
import Derived.Test.YtfabancjlbbgkaaGreatDoorCards
import Derived.Test.YtfabancjlbbgkaaGreatDoorTie
import Derived.SevenTiedAt
namespace Go.Proofs.YtfabancjlbbgkaaGreatDoor.salvageMore
open Go Go.ChangeShapes Go.WideShapes Go.ChangeAt Go.RowKit
set_option linter.unusedVariables false
set_option maxRecDepth 100000
theorem own : ownKnob Tryz.prog.godebug = none := by kernel_rfl
theorem qGE : laidOutB Tryz.prog = true := by kernel_rfl
theorem qMK (os : Os) (args : Array Value) : laidMetH Tryz.prog Rows.salvageMoreRow.laid ((World.laidAll Tryz.prog os Rows.salvageMoreRow.laid).forCall (fun _ _ => 0) ⟨#[], args, []⟩).memory := by
  rw [MakeChecks.laidMetH_plain _ _ _ (by kernel_rfl)]; exact laidMet_laidAll _ (by kernel_rfl) (by kernel_rfl)
theorem glob {W : World} (hsh : W.ShapedOpen Tryz.prog) (h : laidMetH Tryz.prog Rows.salvageMoreRow.laid W) : Ab.Glob Tryz.prog Ab.GT W := by
  obtain ⟨mi0, hmi0⟩ := cell_of_shapedOpen_int (g := 0) (zero := #[.int .i64 0]) (t := 3) hsh (of_decide_eq_true (by kernel_rfl)) (by kernel_rfl) rfl (by kernel_rfl) (by kernel_rfl) Tryz.underlying3
  have si0 : 0 < W.heap.size := by
    simp only [World.cell?] at hmi0
    by_cases hlt : 0 < W.heap.size
    · exact hlt
    · rw [Array.getElem?_eq_none (by omega)] at hmi0; cases hmi0
  rw [MakeChecks.laidMetH_plain _ _ _ (by kernel_rfl)] at h
  obtain ⟨ps, ⟨g0, t0, cs0, f0, p0, q0, hg0, ht0, hv0, hd0, ⟨g1, t1, cs1, f1, p1, q1, hg1, ht1, hv1, hd1, ⟨g2, t2, cs2, f2, p2, q2, hg2, ht2, hv2, hd2, ⟨g3, t3, cs3, f3, p3, q3, hg3, ht3, hv3, hd3, ⟨g4, t4, cs4, f4, p4, q4, hg4, ht4, hv4, hd4, ⟨g5, t5, cs5, f5, p5, q5, hg5, ht5, hv5, hd5, _, _⟩, _⟩, _⟩, _⟩, _⟩, _⟩, _, _⟩ := h
  obtain rfl := Option.some.inj ((show Tryz.prog.globalNamed "bitloft/sha.quarters" = some 2 by kernel_rfl).symm.trans hg1)
  obtain rfl := Option.some.inj ((show (Tryz.prog.globals[2]?).map (·.type) = some 178 by kernel_rfl).symm.trans ht1)
  have c1 := Ab.laid_arr (zs := ([1518500249, 1859775393, 2400959708, 3395469782] : List Int)) Tryz.underlying178 Tryz.underlying114 (by kernel_rfl) (by kernel_rfl) hd1
  have e1 : ∀ (j : Nat) (v : Value), cs1.toList[j]? = some v → W.cell? ⟨2, j, none⟩ = some v := fun j v hj => by
    rw [World.var?_cell hg1 hv1 j, ← Array.getElem?_toList]; exact hj
  have s1 : 2 < W.heap.size := by
    have h0 := e1 0 (Value.int .u32 1518500249) (by rw [c1]; rfl)
    simp only [World.cell?] at h0
    by_cases hlt : 2 < W.heap.size
    · exact hlt
    · rw [Array.getElem?_eq_none (by omega)] at h0; cases h0
  obtain rfl := Option.some.inj ((show Tryz.prog.globalNamed "bitloft/header.widths" = some 1 by kernel_rfl).symm.trans hg2)
  obtain rfl := Option.some.inj ((show (Tryz.prog.globals[1]?).map (·.type) = some 130 by kernel_rfl).symm.trans ht2)
  have c2 := Ab.laid_arr (zs := ([1, 1, 2, 2, 2] : List Int)) Tryz.underlying130 Tryz.underlying3 (by kernel_rfl) (by kernel_rfl) hd2
  have e2 : ∀ (j : Nat) (v : Value), cs2.toList[j]? = some v → W.cell? ⟨1, j, none⟩ = some v := fun j v hj => by
    rw [World.var?_cell hg2 hv2 j, ← Array.getElem?_toList]; exact hj
  have s2 : 1 < W.heap.size := by
    have h0 := e2 0 (Value.int .i64 1) (by rw [c2]; rfl)
    simp only [World.cell?] at h0
    by_cases hlt : 1 < W.heap.size
    · exact hlt
    · rw [Array.getElem?_eq_none (by omega)] at h0; cases h0
  obtain rfl := Option.some.inj ((show Tryz.prog.globalNamed "bitloft/adapt.targets" = some 3 by kernel_rfl).symm.trans hg3)
  obtain rfl := Option.some.inj ((show (Tryz.prog.globals[3]?).map (·.type) = some 322 by kernel_rfl).symm.trans ht3)
  have c3 := Ab.laid_arr (zs := ([0, 65535] : List Int)) Tryz.underlying322 Tryz.underlying21 (by kernel_rfl) (by kernel_rfl) hd3
  have e3 : ∀ (j : Nat) (v : Value), cs3.toList[j]? = some v → W.cell? ⟨3, j, none⟩ = some v := fun j v hj => by
    rw [World.var?_cell hg3 hv3 j, ← Array.getElem?_toList]; exact hj
  have s3 : 3 < W.heap.size := by
    have h0 := e3 0 (Value.int .i32 0) (by rw [c3]; rfl)
    simp only [World.cell?] at h0
    by_cases hlt : 3 < W.heap.size
    · exact hlt
    · rw [Array.getElem?_eq_none (by omega)] at h0; cases h0
  obtain rfl := Option.some.inj ((show Tryz.prog.globalNamed "bitloft/squash.row" = some 4 by kernel_rfl).symm.trans hg4)
  obtain rfl := Option.some.inj ((show (Tryz.prog.globals[4]?).map (·.type) = some 327 by kernel_rfl).symm.trans ht4)
  have c4 := Ab.laid_arr (zs := ([1, 2, 3, 6, 10, 16, 27, 45, 73, 120, 194, 310, 488, 747, 1101, 1546, 2047, 2549, 2994, 3348, 3607, 3785, 3901, 3975, 4022, 4050, 4068, 4079, 4085, 4089, 4092, 4093, 4094] : List Int)) Tryz.underlying327 Tryz.underlying21 (by kernel_rfl) (by kernel_rfl) hd4
  have e4 : ∀ (j : Nat) (v : Value), cs4.toList[j]? = some v → W.cell? ⟨4, j, none⟩ = some v := fun j v hj => by
    rw [World.var?_cell hg4 hv4 j, ← Array.getElem?_toList]; exact hj
  have s4 : 4 < W.heap.size := by
    have h0 := e4 0 (Value.int .i32 1) (by rw [c4]; rfl)
    simp only [World.cell?] at h0
    by_cases hlt : 4 < W.heap.size
    · exact hlt
    · rw [Array.getElem?_eq_none (by omega)] at h0; cases h0
  refine ⟨by simp only [Ab.ngOf, Ab.GT]; omega, fun g t x hl => ?_, fun g hl => ?_, fun g hl => ?_⟩
  · simp only [Ab.GT, Ab.lookL] at hl
    split at hl
    · rename_i e; subst e; injection hl with hl; injection hl with h1 h2; subst h1; obtain rfl := eq_of_heq h2
      exact ⟨by decide, rfl, [], fun j v hj => by simp at hj, [], [], rfl, rfl, rfl⟩
    split at hl
    · rename_i e; subst e; injection hl with hl; injection hl with h1 h2; subst h1; obtain rfl := eq_of_heq h2
      exact ⟨by decide, rfl, Ab.glob_arr c2 rfl e2⟩
    split at hl
    · rename_i e; subst e; injection hl with hl; injection hl with h1 h2; subst h1; obtain rfl := eq_of_heq h2
      exact ⟨by decide, rfl, Ab.glob_arr c1 rfl e1⟩
    split at hl
    · rename_i e; subst e; injection hl with hl; injection hl with h1 h2; subst h1; obtain rfl := eq_of_heq h2
      exact ⟨by decide, rfl, Ab.glob_arr c3 rfl e3⟩
    split at hl
    · rename_i e; subst e; injection hl with hl; injection hl with h1 h2; subst h1; obtain rfl := eq_of_heq h2
      exact ⟨by decide, rfl, Ab.glob_arr c4 rfl e4⟩
    cases hl
  · simp only [Ab.GT, Ab.lookL] at hl
    split at hl
    · injection hl with hl; injection hl with h1 h2; cases h1
    split at hl
    · injection hl with hl; injection hl with h1 h2; cases h1
    split at hl
    · injection hl with hl; injection hl with h1 h2; cases h1
    split at hl
    · injection hl with hl; injection hl with h1 h2; cases h1
    split at hl
    · injection hl with hl; injection hl with h1 h2; cases h1
    cases hl
  · simp only [Ab.GT, Ab.lookL] at hl
    split at hl
    · rename_i e; subst e; exact ⟨mi0, hmi0⟩
    split at hl
    · injection hl with hl; injection hl with h1 h2; cases h1
    split at hl
    · injection hl with hl; injection hl with h1 h2; cases h1
    split at hl
    · injection hl with hl; injection hl with h1 h2; cases h1
    split at hl
    · injection hl with hl; injection hl with h1 h2; cases h1
    cases hl
theorem qPM (os : Os) (started : os.Started) (H : Type) (enc : TypeId × Value → H) :
    ReturnsInHanded {} Tryz.checked os 5 .any (fun w args => (Rows.salvageMoreSpec.pre enc Tryz.prog Tryz.f5 [] false w args ∧ laidMetH Tryz.prog Rows.salvageMoreRow.laid w) ∧ sizedMet enc Tryz.prog Tryz.f5 (OpenSpec.ofChange Rows.salvageMoreSpec) false w args)
      (Rows.salvageMoreSpec.post enc Tryz.prog Tryz.f5 false true false false) := by
  refine Ab.returns_shaped (C := Tryz.checked) (X := fun w => laidMetH Tryz.prog Rows.salvageMoreRow.laid w) (fun _ _ hh h => h.of_heap hh) own started (by kernel_rfl) Tryz.func5
    (ChangeSpec.witness_shaped (enc := enc) (C := Tryz.checked) (os := os) (X := fun w _ => laidMetH Tryz.prog Rows.salvageMoreRow.laid w) false (World.laidAll Tryz.prog os Rows.salvageMoreRow.laid) #[.slice none 0 0, .slice none 0 0, .slice none 0 0] 8 (World.laidAll_os _ _ _) (World.shaped_of_ZipB (by kernel_rfl) (by kernel_rfl)) (by kernel_rfl) (by kernel_rfl) (by kernel_rfl) (qMK os _)) ?_
  intro W base args ds gs before hL hsh hval0 hW
  have hval : ∀ (j : Nat) t v, Tryz.f5.params[j]? = some t → args[j]? = some v → Value.okWide Tryz.prog W .any base t v := hval0
  have hW' := hW
  obtain ⟨p, q, hA0, hV, rfl, hfz, hnd⟩ := hW
  have hA : DataW.TrodAll enc Tryz.prog W 0 (fun _ => true) true Tryz.f5.params.toList args.toList ds p := hA0
  rw [Tryz.params5] at hA hval
  obtain ⟨v0, vs0, d0, ds0, p0, q0, hargs, rfl, rfl, h0, r0⟩ := trodAll_cons hA
  obtain ⟨v1, vs1, d1, ds1, p1, q1, rfl, rfl, rfl, h1, r1⟩ := trodAll_cons r0
  obtain ⟨v2, vs2, d2, ds2, p2, q2, rfl, rfl, rfl, h2, r2⟩ := trodAll_cons r1
  obtain ⟨rfl, rfl, rfl⟩ := trodAll_nil r2
  obtain rfl : args = #[v0, v1, v2] := by cases args; simp_all
  obtain ⟨rfl, rfl⟩ := trodVars_none hV
  have k0 := h0
  have lt0 : ∀ x ∈ p0, x.block < W.heap.size := by obtain ⟨m, hm⟩ := k0; exact DataW.trod_lt m _ _ _ hm
  obtain ⟨x0, y0, z0⟩ : ∃ x : Ab.pden (.slice Ab.T_api_Record), Ab.PRd W (Ab.InW W) (.slice Ab.T_api_Record) x v0.cells.toList ∧ Ab.wfP (.slice Ab.T_api_Record) x := by
    obtain ⟨m, hm⟩ := h0; exact Ab.open_ty (m := Ab.tyD) (T := 27) (by kernel_rfl) (by kernel_rfl) hm
  have a0 := Ab.okWide_form (t := (.slice Ab.T_api_Record)) (m := 11) (by kernel_rfl) (by kernel_rfl) (hval 0 27 v0 rfl rfl)
  have k1 := h1
  have lt1 : ∀ x ∈ p1, x.block < W.heap.size := by obtain ⟨m, hm⟩ := k1; exact DataW.trod_lt m _ _ _ hm
  obtain ⟨x1, y1, z1⟩ : ∃ x : Ab.pden (.slice Ab.T_api_Found), Ab.PRd W (Ab.InW W) (.slice Ab.T_api_Found) x v1.cells.toList ∧ Ab.wfP (.slice Ab.T_api_Found) x := by
    obtain ⟨m, hm⟩ := h1; exact Ab.open_ty (m := Ab.tyD) (T := 23) (by kernel_rfl) (by kernel_rfl) hm
  have a1 := Ab.okWide_form (t := (.slice Ab.T_api_Found)) (m := 11) (by kernel_rfl) (by kernel_rfl) (hval 1 23 v1 rfl rfl)
  have k2 := h2
  have lt2 : ∀ x ∈ p2, x.block < W.heap.size := by obtain ⟨m, hm⟩ := k2; exact DataW.trod_lt m _ _ _ hm
  obtain ⟨x2, y2, z2⟩ : ∃ x : Ab.pden (.slice Ab.T_api_Found), Ab.PRd W (Ab.InW W) (.slice Ab.T_api_Found) x v2.cells.toList ∧ Ab.wfP (.slice Ab.T_api_Found) x := by
    obtain ⟨m, hm⟩ := h2; exact Ab.open_ty (m := Ab.tyD) (T := 23) (by kernel_rfl) (by kernel_rfl) hm
  have a2 := Ab.okWide_form (t := (.slice Ab.T_api_Found)) (m := 11) (by kernel_rfl) (by kernel_rfl) (hval 2 23 v2 rfl rfl)
  have hc := Ab.bitloftlaw34_SalvageMore_true x0 z0 x1 z1 x2 z2
  refine ((Ab.FnI.call_ok (I := Ab.bitloftlaw34_SalvageMore_I) Ab.mixed hc).below (glob hsh hL) (vs := [v0, v1, v2]) (fun N K hN hl => ⟨_, _, rfl, y0.val hN hl rfl a0 (by kernel_rfl), ⟨_, _, rfl, y1.val hN hl rfl a1 (by kernel_rfl), ⟨_, _, rfl, y2.val hN hl rfl a2 (by kernel_rfl), rfl⟩⟩⟩) (v := .bool true) (fun N K w' u hu => hu) (by kernel_rfl) (by kernel_rfl)).mono fun e W' ⟨he, bel⟩ => ?_
  subst he
  exact ⟨_, rfl, _, _, _, [], _, [], hW', trodAll_mk1 (shut_bool Tryz.underlying4 _), (trodAll_cons_mk (Below.trod qGE (by kernel_rfl) (of_decide_eq_true (by kernel_rfl)) k0 bel lt0) (trodAll_cons_mk (Below.trod qGE (by kernel_rfl) (of_decide_eq_true (by kernel_rfl)) k1 bel lt1) (trodAll_cons_mk (Below.trod qGE (by kernel_rfl) (of_decide_eq_true (by kernel_rfl)) k2 bel lt2) trodAll_mk0))), rfl, bel.frame _, fun h => by cases h⟩
theorem qrL : Rows.salvageMoreRow.holds Tryz.pinned (OpenSpec.ofChange Rows.salvageMoreSpec) :=
  OpenClaim.holds_of_wide 5 Tryz.f5 rfl rfl rfl rfl rfl rfl rfl ⟨rfl, rfl, rfl, rfl, rfl⟩ rfl rfl rfl rfl rfl (by kernel_rfl) Tryz.func5 (by kernel_rfl)
    (of_decide_eq_true (by kernel_rfl)) (by unfold Func.isWrapper; first | (rw [if_pos (by decide +kernel)]; kernel_rfl) | (rw [if_neg (by decide +kernel)]; exact ⟨rfl, rfl⟩))
    (fun os started H enc _ => qPM os started H enc)
theorem card_holds : Rows.SalvageMoreCardSaid :=
  Claim7.holds_tied_plain_at .later [] [.data, .data, .data, .data, .data, .pinned] true (true, "88a3727bd520289a021c5a1dcb05d793b632ca22f8315a44ce3a129bc138a550") false
    qrL (fun _ h => by cases h) (by kernel_rfl) (fun _ h => by cases h) salvageMore_row_tie rfl ⟨rfl, rfl⟩ (by kernel_rfl) rfl
    (fun f fn hf hfn => by
      obtain rfl : f = 5 := Option.some.inj ((show Tryz.prog.funcNamed "bitloft/bitloftlaw34.SalvageMore" = some 5 by kernel_rfl).symm.trans hf) |>.symm
      obtain rfl : fn = Tryz.f5 := (Option.some.inj (Tryz.func5.symm.trans hfn)).symm
      exact ⟨by kernel_rfl, fun j t ht => by
        rw [Tryz.params5] at ht
        have hm : t ∈ [27, 23, 23] := by
          have := List.mem_of_getElem? (l := [27, 23, 23]) (i := j) (a := t) (by simpa using ht)
          exact this
        simp only [List.mem_cons, List.not_mem_nil, or_false] at hm
        rcases hm with rfl | rfl | rfl
        · exact (show Tryz.prog.wantsStandIn 27 = false by kernel_rfl)
        · exact (show Tryz.prog.wantsStandIn 23 = false by kernel_rfl)
        · exact (show Tryz.prog.wantsStandIn 23 = false by kernel_rfl)⟩)
    (by kernel_rfl)
#print axioms card_holds
end Go.Proofs.YtfabancjlbbgkaaGreatDoor.salvageMore
namespace Go.Proofs.YtfabancjlbbgkaaGreatDoor
/-- The statement, under a short name. -/
theorem salvageMore_holds : Rows.SalvageMoreCardSaid := salvageMore.card_holds
end Go.Proofs.YtfabancjlbbgkaaGreatDoor
