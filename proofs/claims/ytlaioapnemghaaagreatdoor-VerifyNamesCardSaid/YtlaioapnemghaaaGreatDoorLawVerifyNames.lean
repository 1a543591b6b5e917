/-
  limits and errors
-/
import Derived.Test.YtlaioapnemghaaaGreatDoorLawVerifyNamesA
import Derived.Test.YtlaioapnemghaaaGreatDoorLawVerifyNamesJ
namespace Go.Proofs.YtlaioapnemghaaaGreatDoor.verifyNames
open Go Go.ChangeShapes Go.WideShapes Go.ChangeAt Go.RowKit
set_option linter.unusedVariables false
set_option maxRecDepth 100000
theorem goes_none {P : Program} (h : P.funcs.any Func.goes = false) (f : FuncId) : P.goes f = false := by
  have h2 : ∀ g : FuncId, (P.funcs[g]?).any Func.goes = false := fun g => by
    cases e : P.funcs[g]? with
    | none => rfl
    | some fn =>
      cases hg : fn.goes with
      | false => simpa using hg
      | true =>
        obtain ⟨hl, hv⟩ := Array.getElem?_eq_some_iff.1 e
        have : P.funcs.any Func.goes = true := Array.any_eq_true.2 ⟨g, hl, by rw [hv]; exact hg⟩
        rw [h] at this; cases this
  unfold Program.goes
  rw [h, Bool.and_false, Bool.or_false]
  exact List.any_eq_false.2 (fun g _ => by rw [h2 g]; decide)
theorem goesAll : Tryz.pinned.checked.prog.funcs.any Func.goes = false := by kernel_rfl
theorem hNamed : Tryz.pinned.checked.prog.funcNamed Rows.verifyNamesRow.func = some 5 := by kernel_rfl
theorem hGoes : false = Rows.verifyNamesRow.goesBy Tryz.pinned.checked.prog := by
  unfold OpenClaim.goesBy Program.goesAt Program.goesFrom
  rw [hNamed, Option.any_some, goes_none goesAll, Bool.false_or]
  rfl
theorem over : Rows.verifyNamesRow.holds Tryz.pinned (OpenSpec.ofChange Rows.verifyNamesSpec) :=
  OpenClaim.holds_of_wide 5 Tryz.f5 rfl rfl rfl rfl rfl rfl rfl ⟨rfl, rfl, rfl, rfl, rfl⟩ rfl rfl rfl rfl rfl hNamed Tryz.func5 jfAll
    (of_decide_eq_true (by kernel_rfl)) (by unfold Func.isWrapper; first | (rw [if_pos (by decide +kernel)]; kernel_rfl) | (rw [if_neg (by decide +kernel)]; exact ⟨rfl, rfl⟩))
    (fun os started H enc _ => lifted os started H enc)
theorem hWf : Rows.verifyNamesRow.wfByText (OpenSpec.ofChange Rows.verifyNamesSpec) = true := by kernel_rfl
theorem hMain : Tryz.pinned.checked.prog.mainIs = some (true, "28ec1a917a95d16f651eb9cbc358497f96e3c36dd55bf783a8f9784b0131f14f".toList) := by kernel_rfl
theorem hLooks : true = Tryz.pinned.checked.prog.looks [] := by kernel_rfl
theorem card_holds : Rows.VerifyNamesCardSaid :=
  Claim7.holds_tied_plain_at .later [] [.data, .handle, .data, .data, .data, .data, .pinned] true (true, "28ec1a917a95d16f651eb9cbc358497f96e3c36dd55bf783a8f9784b0131f14f") true
    over (fun _ h => by cases h) hWf (fun _ h => by cases h) verifyNames_row_tie rfl ⟨rfl, rfl⟩ hMain rfl
    (fun f fn hf hfn => by
      obtain rfl : f = 5 := Option.some.inj (hNamed.symm.trans hf) |>.symm
      obtain rfl : fn = Tryz.f5 := (Option.some.inj (Tryz.func5.symm.trans hfn)).symm
      exact ⟨hLooks, fun j t ht => by
        rw [Tryz.params5] at ht
        simp at ht⟩)
    hGoes
#print axioms card_holds
end Go.Proofs.YtlaioapnemghaaaGreatDoor.verifyNames
namespace Go.Proofs.YtlaioapnemghaaaGreatDoor
/-- The statement, under a short name. -/
theorem verifyNames_holds : Rows.VerifyNamesCardSaid := verifyNames.card_holds
end Go.Proofs.YtlaioapnemghaaaGreatDoor
