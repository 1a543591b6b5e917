/-
  survivors are salvaged
-/
import Derived.Test.YtgdhbgphdojmoaaGreatDoorLawDamageSurvivorsA
import Derived.Test.YtgdhbgphdojmoaaGreatDoorLawDamageSurvivorsJ
namespace Go.Proofs.YtgdhbgphdojmoaaGreatDoor.damageSurvivors
open Go Go.ChangeShapes Go.WideShapes Go.ChangeAt Go.RowKit
set_option linter.unusedVariables false
set_option maxRecDepth 100000
theorem goes_none {P : Program} (h : P.funcs.any Func.goes = false) (f : FuncId) : P.goes f = false := by
  have h2 : ∀ g : FuncId, (P.funcs[g]?).any Func.goes = false := fun g => by
    cases e : P.funcs[g]? with
    | none => rfl
    | some fn =>
      cases hg : fn.goes with
      | false => simpa using hg
      | true =>
        obtain ⟨hl, hv⟩ := Array.getElem?_eq_some_iff.1 e
        have : P.funcs.any Func.goes = true := Array.any_eq_true.2 ⟨g, hl, by rw [hv]; exact hg⟩
        rw [h] at this; cases this
  unfold Program.goes
  rw [h, Bool.and_false, Bool.or_false]
  exact List.any_eq_false.2 (fun g _ => by rw [h2 g]; decide)
theorem goesAll : Tryz.pinned.checked.prog.funcs.any Func.goes = false := by kernel_rfl
theorem hNamed : Tryz.pinned.checked.prog.funcNamed Rows.damageSurvivorsRow.func = some 3 := by kernel_rfl
theorem hGoes : false = Rows.damageSurvivorsRow.goesBy Tryz.pinned.checked.prog := by
  unfold OpenClaim.goesBy Program.goesAt Program.goesFrom
  rw [hNamed, Option.any_some, goes_none goesAll, Bool.false_or]
  rfl
theorem hInst : Tryz.f3.isInstance Tryz.pinned.checked.prog Rows.damageSurvivorsRow.origin Rows.damageSurvivorsRow.targs := of_decide_eq_true (by kernel_rfl)
theorem hWrap : Tryz.f3.isWrapper Tryz.pinned.checked.prog Rows.damageSurvivorsRow.wrapper Rows.damageSurvivorsRow.mainSum := by unfold Func.isWrapper; first | (rw [if_pos (by decide +kernel)]; kernel_rfl) | (rw [if_neg (by decide +kernel)]; exact ⟨rfl, rfl⟩)
theorem over : Rows.damageSurvivorsRow.holds Tryz.pinned (OpenSpec.ofChange Rows.damageSurvivorsSpec) :=
  OpenClaim.holds_of_wide 3 Tryz.f3 rfl rfl rfl rfl rfl rfl rfl ⟨rfl, rfl, rfl, rfl, rfl⟩ rfl rfl rfl rfl rfl hNamed Tryz.func3 jfAll
    hInst hWrap
    (fun os started H enc _ => lifted os started H enc)
theorem hWf : Rows.damageSurvivorsRow.wfByText (OpenSpec.ofChange Rows.damageSurvivorsSpec) = true := by kernel_rfl
theorem hMain : Tryz.pinned.checked.prog.mainIs = some (true, "2d31ef27e479737ac8d95e5da77d92ecfa6c2d8551563498930bdd85908ec3d4".toList) := by kernel_rfl
theorem hLooks : true = Tryz.pinned.checked.prog.looks [] := by kernel_rfl
theorem card_holds : Rows.DamageSurvivorsCardSaid :=
  Claim7.holds_tied_plain_at .later [] [.data, .handle, .data, .data, .data, .data, .pinned] true (true, "2d31ef27e479737ac8d95e5da77d92ecfa6c2d8551563498930bdd85908ec3d4") true
    over (fun _ h => by cases h) hWf (fun _ h => by cases h) damageSurvivors_row_tie rfl ⟨rfl, rfl⟩ hMain rfl
    (fun f fn hf hfn => by
      obtain rfl : f = 3 := Option.some.inj (hNamed.symm.trans hf) |>.symm
      obtain rfl : fn = Tryz.f3 := (Option.some.inj (Tryz.func3.symm.trans hfn)).symm
      exact ⟨hLooks, fun j t ht => by
        rw [Tryz.params3] at ht
        have hm : t ∈ [22, 23] := by
          have := List.mem_of_getElem? (l := [22, 23]) (i := j) (a := t) (by simpa using ht)
          exact this
        simp only [List.mem_cons, List.not_mem_nil, or_false] at hm
        rcases hm with rfl | rfl
        · exact (show Tryz.prog.wantsStandIn 22 = false by kernel_rfl)
        · exact (show Tryz.prog.wantsStandIn 23 = false by kernel_rfl)⟩)
    hGoes
#print axioms card_holds
end Go.Proofs.YtgdhbgphdojmoaaGreatDoor.damageSurvivors
namespace Go.Proofs.YtgdhbgphdojmoaaGreatDoor
/-- The statement, under a short name. -/
theorem damageSurvivors_holds : Rows.DamageSurvivorsCardSaid := damageSurvivors.card_holds
end Go.Proofs.YtgdhbgphdojmoaaGreatDoor
