/-
  What the functions compute, as plain functions: printed by a program of this repo's own and checked here by the kernel.
-/
import Derived.Test.YtbgokmkefnepcaaGreatDoorFwC6
import Derived.Test.YtbgokmkefnepcaaGreatDoorProg
import Derived.Laws.Externs
set_option linter.unusedVariables false
set_option linter.unusedSimpArgs false
namespace Go.Ab
open Go Go.Proofs
/-- math/bits.Add64: the model's own entry. -/
def bits_Add64 (x y c : Int) : Option (Int × Int) :=
  if 0 ≤ x ∧ 0 ≤ y ∧ 0 ≤ c ∧ c ≤ 1 then some ((x + y + c) % 18446744073709551616, (x + y + c) / 18446744073709551616) else none
def bits_Add64_fn : List AV → List (Nat × Obj) → Option (Int × Int)
  | [.int .u64 x, .int .u64 y, .int .u64 c], [] => bits_Add64 x y c
  | _, _ => none
set_option maxRecDepth 100000 in
theorem bits_Add64_ok {GT : GTab} {avs : List AV} {pre : List (Nat × Obj)} {r : Int × Int} (h : bits_Add64_fn avs pre = some r) : CallOK Tryz.prog GT 275 avs pre (.tup [.int .u64 r.1, .int .u64 r.2]) [] := by
  unfold bits_Add64_fn at h
  split at h
  · rename_i x y c
    unfold bits_Add64 at h
    split at h
    · rename_i hc
      obtain ⟨c1, c2, c3, c4⟩ := hc
      injection h with h; subst h
      intro w F G K vs hg hI hG hK hF hv
      obtain ⟨v1, r1, rfl, h1, h2⟩ := hv
      obtain ⟨v2, r2, rfl, h2, h3⟩ := h2
      obtain ⟨v3, r3, rfl, h3, h4⟩ := h3
      simp only [VRdL] at h4; subst h4
      simp only [VRd] at h1 h2 h3; subst h1; subst h2; subst h3
      have hr := run_callFunc_extern (w := w) (args := #[.int .u64 x, .int .u64 y, .int .u64 c]) Tryz.func275 (by kernel_rfl) (by kernel_rfl) (by kernel_rfl) (e := add64Entry) (by kernel_rfl)
      rw [run_add64 x y c c1 c2 c3 c4] at hr
      unfold Called
      rw [hr]
      exact ⟨K, fun _ _ h => h, hI, _, rfl, _, _, rfl, rfl, _, _, rfl, rfl, rfl⟩
    · cases h
  · cases h
end Go.Ab
