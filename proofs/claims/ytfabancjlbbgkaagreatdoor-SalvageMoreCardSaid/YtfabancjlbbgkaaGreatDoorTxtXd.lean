/-
  An abstract machine over the model's code and its soundness; what the functions compute, as plain functions (printed by a program of this repo's own, checked here by the kernel); plain laws of them: part 4. Helper text, no statement of the claim stands here.
-/
import Derived.Test.YtfabancjlbbgkaaGreatDoorTxtXc
import Derived.Test.YtfabancjlbbgkaaGreatDoorProg
import Derived.Laws.Externs
import Derived.Shelf.Bytes.SlIndexWhole
set_option linter.unusedVariables false
set_option linter.unusedSimpArgs false
namespace Go.Ab
open Go Go.Proofs
def qYn (x y c : Int) : Option (Int × Int) :=
  if 0 ≤ x ∧ 0 ≤ y ∧ 0 ≤ c ∧ c ≤ 1 then some ((x + y + c) % 18446744073709551616, (x + y + c) / 18446744073709551616) else none
def qEl : List AV → List (Nat × Obj) → Option (Int × Int)
  | [.int .u64 x, .int .u64 y, .int .u64 c], [] => qYn x y c
  | _, _ => none
set_option maxRecDepth 100000 in
theorem qwB {GT : qEh} {avs : List AV} {pre : List (Nat × Obj)} {r : Int × Int} (h : qEl avs pre = some r) : CallOK Tryz.prog GT 211 avs pre (.tup [.int .u64 r.1, .int .u64 r.2]) [] := by
  unfold qEl at h
  split at h
  · rename_i x y c
    unfold qYn at h
    split at h
    · rename_i hc
      obtain ⟨c1, c2, c3, c4⟩ := hc
      injection h with h; subst h
      intro w F G K vs hg hI hG hK hF hv
      obtain ⟨v1, r1, rfl, h1, h2⟩ := hv
      obtain ⟨v2, r2, rfl, h2, h3⟩ := h2
      obtain ⟨v3, r3, rfl, h3, h4⟩ := h3
      simp only [VRdL] at h4; subst h4
      simp only [VRd] at h1 h2 h3; subst h1; subst h2; subst h3
      have hr := run_callFunc_extern (w := w) (args := #[.int .u64 x, .int .u64 y, .int .u64 c]) Tryz.func211 (by kernel_rfl) (by kernel_rfl) (by kernel_rfl) (e := add64Entry) (by kernel_rfl)
      rw [run_add64 x y c c1 c2 c3 c4] at hr
      unfold qjp
      rw [hr]
      exact ⟨K, fun _ _ h => h, hI, _, rfl, _, _, rfl, rfl, _, _, rfl, rfl, rfl⟩
    · cases h
  · cases h
end Go.Ab

/-
  bytes.Index, by the shelf's contract.
-/
set_option linter.unusedVariables false
set_option linter.unusedSimpArgs false
namespace Go.Ab
open Go Go.Proofs Go.Shelf
def qHN : Ren := ⟨fun | 185 => 39 | 187 => 65 | 115 => 47 | 253 => 66 | 224 => 67 | 254 => 68 | 255 => 92 | 291 => 93 | n => n, fun | 37 => 22 | 3 => 3 | 4 => 4 | 0 => 0 | 5 => 5 | 46 => 119 | 9 => 9 | 146 => 183 | 51 => 114 | n => n, fun | 1 => 0 | n => n⟩
set_option maxRecDepth 100000 in
theorem qtL : Lays.n185 Tryz.prog qHN := {
  mixed := by kernel_rfl,
  f115 := Tryz.func47.trans (congrArg some (by kernel_rfl)),
  f185 := Tryz.func39.trans (congrArg some (by kernel_rfl)),
  f187 := Tryz.func65.trans (congrArg some (by kernel_rfl)),
  f224 := Tryz.func67.trans (congrArg some (by kernel_rfl)),
  f253 := Tryz.func66.trans (congrArg some (by kernel_rfl)),
  f254 := Tryz.func68.trans (congrArg some (by kernel_rfl)),
  f255 := Tryz.func92.trans (congrArg some (by kernel_rfl)),
  f291 := Tryz.func93.trans (congrArg some (by kernel_rfl)),
  t0 := Tryz.underlying0,
  a0 := Tryz.isAgg0,
  z0 := Tryz.sizeOf0,
  v0 := Tryz.zeroValue0,
  t3 := Tryz.underlying3,
  a3 := Tryz.isAgg3,
  z3 := Tryz.sizeOf3,
  v3 := Tryz.zeroValue3,
  t4 := Tryz.underlying4,
  a4 := Tryz.isAgg4,
  z4 := Tryz.sizeOf4,
  v4 := Tryz.zeroValue4,
  t5 := Tryz.underlying5,
  a5 := Tryz.isAgg5,
  z5 := Tryz.sizeOf5,
  v5 := Tryz.zeroValue5,
  t9 := Tryz.underlying9,
  a9 := Tryz.isAgg9,
  z9 := Tryz.sizeOf9,
  v9 := Tryz.zeroValue9,
  t37 := Tryz.underlying22,
  a37 := Tryz.isAgg22,
  z37 := Tryz.sizeOf22,
  v37 := Tryz.zeroValue22,
  t46 := Tryz.underlying119,
  a46 := Tryz.isAgg119,
  z46 := Tryz.sizeOf119,
  v46 := Tryz.zeroValue119,
  t51 := Tryz.underlying114,
  a51 := Tryz.isAgg114,
  z51 := Tryz.sizeOf114,
  v51 := Tryz.zeroValue114,
  t146 := Tryz.underlying183,
  a146 := Tryz.isAgg183,
  z146 := Tryz.sizeOf183,
  v146 := Tryz.zeroValue183,
  g1 := by kernel_rfl }
def ixB (s t : List Int) : Int := Lib.index (Lib.bytesOf s) (Lib.bytesOf t)
noncomputable def qNi (s t : List Int) : Option Int :=
  gd (s.length < 4294967281) <|
  gd (2 ≤ t.length) <|
  gd (t.length ≤ 9223372036854775807) <|
  gd ((∀ x ∈ s, 0 ≤ x ∧ x < 256) ∧ ∀ y ∈ t, 0 ≤ y ∧ y < 256) <|
  some (ixB s t)
noncomputable def qrk : List AV → List (Nat × Obj) → Option Int
  | [.sl (.int .u8) _ s, .sl (.int .u8) _ t], [] => qNi s t
  | _, _ => none
theorem qgG {w : World} {N : Nat → Prop} {xs : List Int} {A : Option Addr} (h1 : xs ≠ []) (h : xs = [] ∨ ∃ b o cl, A = some ⟨b, o, none⟩ ∧ N b ∧ CellsAt w b o cl ∧ Cat (PRd w N (.int .u8)) xs cl) :
    ∃ a, A = some a ∧ ∀ i, i < xs.length → w.cell? (a.add i) = some (.int .u8 (xs.getD i 0)) := by
  rcases h with h | ⟨b, o, cl, hA, hN, hc, hx⟩
  · exact absurd h h1
  · refine ⟨_, hA, fun i hi => ?_⟩
    have e : cl = xs.map (Value.int .u8) := qfh (k := .u8) hx
    rw [Lib.add_plain']
    refine hc i _ ?_
    rw [e, List.getElem?_map, List.getElem?_eq_getElem hi, List.getD_eq_getElem?_getD, List.getElem?_eq_getElem hi]
    rfl
set_option maxRecDepth 100000 in
theorem qOy {GT : qEh} (hGT : lookL GT 0 = some ⟨.pair .unit .unit, ((), ())⟩) {avs : List AV} {pre : List (Nat × Obj)} {r : Int} (h : qrk avs pre = some r) : CallOK Tryz.prog GT 39 avs pre (.one (.int .i64 r)) [] := by
  unfold qrk at h
  split at h
  · rename_i f1 s f2 t
    unfold qNi at h
    obtain ⟨hs, h⟩ := qLh h
    obtain ⟨ht, h⟩ := qLh h
    obtain ⟨ht2, h⟩ := qLh h
    obtain ⟨⟨hb1, hb2⟩, h⟩ := qLh h
    obtain rfl := Option.some.inj h
    intro w F G K vs hg hI hG hK hF hv
    obtain ⟨v1, r1, rfl, h1, h2⟩ := hv
    obtain ⟨v2, r2, rfl, h2, h3⟩ := h2
    simp only [VRdL] at h3; subst h3
    obtain ⟨A1, c1, e1, l1, k1⟩ := h1
    obtain ⟨A2, c2, e2, l2, k2⟩ := h2
    obtain rfl := (List.cons.inj e1).1
    obtain rfl := (List.cons.inj e2).1
    obtain ⟨m, hm⟩ := hg.2.2.2 0 hGT
    have fin : ∀ (w' : World) (q : Nat), w' = w.drewN q → ∃ K', (∀ l gh, K l = some gh → K' l = some gh) ∧ Inv ⟨w, F, G, (ngOf GT), []⟩ (lookL []) K' w' ∧ TVRd w' (NN ⟨w, F, G, (ngOf GT), []⟩ (lookL []) K' w') K' (.one (.int .i64 (ixB s t))) (.int .i64 (ixB s t)) := by
      rintro w' q rfl
      exact ⟨K, fun _ _ h => h, (hI.more (w' := w.drewN q) rfl rfl rfl (Nat.le_refl _) (fun k hk => rfl)).1, rfl⟩
    refine qMJ (by kernel_rfl) (by kernel_rfl) ?_
    by_cases hlt : s.length < t.length
    · have hc := Any.bytes_Index_longer qtL A1 A2 s.length c1 t.length c2 w ht hlt ht2
      have hi : ixB s t = -1 := by
        have hr := Lib.index_room (Lib.bytesOf s) (Lib.bytesOf t)
        have hge := Lib.index_ge (Lib.bytesOf s) (Lib.bytesOf t)
        unfold ixB
        have e1 : (Lib.bytesOf s).length = s.length := List.length_map ..
        have e2 : (Lib.bytesOf t).length = t.length := List.length_map ..
        rw [e1, e2] at hr
        by_cases h0 : 0 ≤ Lib.index (Lib.bytesOf s) (Lib.bytesOf t)
        · have := hr h0; omega
        · omega
      refine Calls.mono hc ?_
      rintro e w' ⟨rfl, rfl⟩
      refine ⟨_, rfl, ?_⟩
      rw [← hi]
      exact fin _ 0 rfl
    · obtain ⟨a1, rfl, hc1⟩ := qgG (xs := s) (by intro h; rw [h] at hlt; simp only [List.length_nil] at hlt; omega) k1
      obtain ⟨a2, rfl, hc2⟩ := qgG (xs := t) (by intro h; rw [h] at ht; simp at ht) k2
      have hc := Any.bytes_Index_at qtL a1 a2 s.length c1 t.length c2 s t m w rfl rfl hb1 hb2 hc1 hc2 l1 hs ht2 hm
      refine Calls.mono hc ?_
      rintro e w' ⟨rfl, q, rfl⟩
      exact ⟨_, rfl, fin _ q rfl⟩
  · cases h
end Go.Ab

set_option linter.unusedVariables false
set_option maxRecDepth 20000
namespace Go.Ab
open Go Go.Proofs
def t38Tab1 : ByteArray := (ByteArray.mk #[0, 1, 2, 2, 3, 3, 3, 3, 4, 4, 4, 4, 4, 4, 4, 4, 5, 5, 5, 5, 5, 5, 5, 5, 5, 5, 5, 5, 5, 5, 5, 5, 6, 6, 6, 6, 6, 6, 6, 6, 6, 6, 6, 6, 6, 6, 6, 6, 6, 6, 6, 6, 6, 6, 6, 6, 6, 6, 6, 6, 6, 6, 6, 6, 7, 7, 7, 7, 7, 7, 7, 7, 7, 7, 7, 7, 7, 7, 7, 7, 7, 7, 7, 7, 7, 7, 7, 7, 7, 7, 7, 7, 7, 7, 7, 7, 7, 7, 7, 7, 7, 7, 7, 7, 7, 7, 7, 7, 7, 7, 7, 7, 7, 7, 7, 7, 7, 7, 7, 7, 7, 7, 7, 7, 7, 7, 7, 7, 8, 8, 8, 8, 8, 8, 8, 8, 8, 8, 8, 8, 8, 8, 8, 8, 8, 8, 8, 8, 8, 8, 8, 8, 8, 8, 8, 8, 8, 8, 8, 8, 8, 8, 8, 8, 8, 8, 8, 8, 8, 8, 8, 8, 8, 8, 8, 8, 8, 8, 8, 8, 8, 8, 8, 8, 8, 8, 8, 8, 8, 8, 8, 8, 8, 8, 8, 8, 8, 8, 8, 8, 8, 8, 8, 8, 8, 8, 8, 8, 8, 8, 8, 8, 8, 8, 8, 8, 8, 8, 8, 8, 8, 8, 8, 8, 8, 8, 8, 8, 8, 8, 8, 8, 8, 8, 8, 8, 8, 8, 8, 8, 8, 8, 8, 8, 8, 8, 8, 8, 8, 8, 8, 8, 8, 8, 8, 8])
abbrev qya : Ty := (.pair (.int .u8) (.pair (.int .i64) (.pair (.int .i64) (.pair (.int .i64) (.pair (.int .i64) (.pair (.arr 20 (.int .u8)) .unit))))))
abbrev qfa : Type := (Int × (Int × (Int × (Int × (Int × ((List Int) × Unit))))))
abbrev T_api_Found : Ty := (.pair (.int .i64) (.pair qya (.pair (.slice (.int .u8)) .unit)))
abbrev qha : Type := (Int × (qfa × ((List Int) × Unit)))
abbrev qXb : Ty := (.pair qya (.pair (.slice (.int .u8)) .unit))
abbrev qPa : Type := (qfa × ((List Int) × Unit))
abbrev qza : Ty := (.pair .str (.pair (.slice (.int .u8)) .unit))
abbrev qta : Type := (ByteArray × ((List Int) × Unit))
abbrev qLl : Ty := (.pair (.int .i64) (.pair (.int .i64) (.pair (.int .i64) .unit)))
abbrev qjq : Type := (Int × (Int × (Int × Unit)))
abbrev qFa : Ty := (.pair qLl (.pair (.slice (.int .u8)) .unit))
abbrev qxa : Type := (qjq × ((List Int) × Unit))
abbrev T_api_Record : Ty := (.pair .str (.pair (.int .i64) (.pair (.arr 20 (.int .u8)) .unit)))
abbrev qba : Type := (ByteArray × (Int × ((List Int) × Unit)))
abbrev qua : Ty := (.pair (.int .i64) (.pair (.int .i64) .unit))
abbrev qma : Type := (Int × (Int × Unit))
abbrev qva : Ty := (.pair (.int .i64) (.pair (.slice (.int .u8)) (.pair (.int .i64) .unit)))
abbrev qla : Type := (Int × ((List Int) × (Int × Unit)))
abbrev qsa : Ty := (.pair (.slice (.slice (.int .i32))) .unit)
abbrev qqa : Type := ((List (List Int)) × Unit)
abbrev qpb : Ty := (.pair qsa (.pair qsa .unit))
abbrev qIa : Type := (qqa × (qqa × Unit))
abbrev qSa : Ty := (.pair (.int .i64) (.pair (.slice (.int .i64)) .unit))
abbrev qAa : Type := (Int × ((List Int) × Unit))
abbrev qqb : Type := qma
abbrev qBa : Ty := (.pair (.int .i64) .unit)
abbrev qka : Type := (Int × Unit)
abbrev qea : Ty := (.pair (.int .i64) (.pair qva (.pair (.slice (.pair (.int .i64) (.pair (.slice (.pair (.int .u8) (.pair (.arr 15 (.int .u8)) .unit))) .unit))) (.pair (.slice (.pair (.int .i32) (.pair (.slice (.int .i32)) (.pair (.slice (.int .i32)) .unit)))) (.pair qsa (.pair qpb (.pair qSa (.pair qua (.pair qBa (.pair (.arr 6 (.int .u32)) (.pair (.arr 6 (.int .i64)) .unit)))))))))))
abbrev qca : Type := (Int × (qla × ((List (Int × ((List (Int × ((List Int) × Unit))) × Unit))) × ((List (Int × ((List Int) × ((List Int) × Unit)))) × (qqa × (qIa × (qAa × (qma × (qka × ((List Int) × ((List Int) × Unit)))))))))))
abbrev qEa : Ty := (.pair (.int .u32) (.pair (.int .u32) (.pair (.int .u32) (.pair (.slice (.int .u8)) qBa))))
abbrev qCa : Type := (Int × (Int × (Int × ((List Int) × qka))))
abbrev qoa : Ty := (.pair (.int .u32) (.pair (.int .u32) (.pair (.slice (.int .u8)) .unit)))
abbrev qra : Type := (Int × (Int × ((List Int) × Unit)))
abbrev qPf : Ty := (.pair (.arr 2 (.int .i64)) (.pair (.arr 2 (.int .i64)) .unit))
abbrev qDb : Type := ((List Int) × ((List Int) × Unit))
abbrev qxb : Ty := (.pair (.int .i64) (.pair (.slice (.int .u8)) (.pair (.slice (.int .i32)) (.pair (.int .i32) (.pair (.int .i32) (.pair qPf .unit))))))
abbrev qMb : Type := (Int × ((List Int) × ((List Int) × (Int × (Int × (qDb × Unit))))))
abbrev qwa : Ty := (.pair (.int .i64) (.pair (.slice (.pair (.int .u8) (.pair (.arr 15 (.int .u8)) .unit))) .unit))
abbrev qja : Type := (Int × ((List (Int × ((List Int) × Unit))) × Unit))
abbrev qna : Ty := (.pair (.int .i32) (.pair (.slice (.int .i32)) (.pair (.slice (.int .i32)) .unit)))
abbrev qia : Type := (Int × ((List Int) × ((List Int) × Unit)))
abbrev qfb : Ty := (.pair (.int .u8) (.pair (.arr 15 (.int .u8)) .unit))
abbrev qsd : Type := (Int × ((List Int) × Unit))
abbrev qZa : Ty := (.pair (.int .i32) (.pair (.int .i32) (.pair (.int .u8) .unit)))
abbrev qTa : Type := (Int × (Int × (Int × Unit)))
def G_widths : List Int := [1, 1, 2, 2, 2]
def G_targets : List Int := [0, 65535]
def G_row : List Int := [1, 2, 3, 6, 10, 16, 27, 45, 73, 120, 194, 310, 488, 747, 1101, 1546, 2047, 2549, 2994, 3348, 3607, 3785, 3901, 3975, 4022, 4050, 4068, 4079, 4085, 4089, 4092, 4093, 4094]
def G_quarters : List Int := [1518500249, 1859775393, 2400959708, 3395469782]
def GT : qEh := [(0, ⟨(.pair .unit .unit), ((), ())⟩), (1, ⟨(.arr 5 (.int .i64)), G_widths⟩), (2, ⟨(.arr 4 (.int .u32)), G_quarters⟩), (3, ⟨(.arr 2 (.int .i32)), G_targets⟩), (4, ⟨(.arr 33 (.int .i32)), G_row⟩)]
theorem mixed : Tryz.prog.follows .mixedOrders = true := by kernel_rfl
noncomputable def qwD (acc : List AV → Bool) : Summ Tryz.prog GT := { f := 211, acc := acc, rows := false, nils := false, R := Int × Int, fn := qEl, res := fun r => .tup [.int .u64 r.1, .int .u64 r.2], post := fun _ => [], ok := fun _ _ _ h => qwB h }
noncomputable def qsB (acc : List AV → Bool) : Summ Tryz.prog GT := { f := 39, acc := acc, rows := false, nils := false, R := Int, fn := qrk, res := fun r => .one (.int .i64 r), post := fun _ => [], ok := fun _ _ _ h => qOy rfl h }
noncomputable def bitloftref28_Name_I : FnI Tryz.prog GT := { f := 61, cuts := [⟨(4, 3), [0, 3], false, false, []⟩], tab := [], fm := ⟨true, [.val .bool []]⟩ }
noncomputable def qnd (a0 : ByteArray) : Option (Bool) := bitloftref28_Name_I.call [(.str a0)] []
noncomputable def qad (v0 : ByteArray) (v3 : Int) : Option (Bool) := bitloftref28_Name_I.sem ⟨[.code (cIn (cIn (qaa (qGa (qaa (qaa (qda Tryz.prog 61))))))), .inLoop (cIn (cIn (qaa (qGa (qaa (qaa (qda Tryz.prog 61))))))), .inBlock 0, .code (qaa (qaa (qaa (qda Tryz.prog 61))))], ⟨[(0, (.one (.str v0))), (3, (.one (.int .i64 v3)))], [], 8⟩⟩
theorem qVh (a0 : ByteArray) : qnd a0 = (
if (decide ((Int.ofNat (ByteArray.size a0)) < (1 : Int))) = true then
some (false)
else
if (decide ((Int.ofNat (ByteArray.size a0)) > (40 : Int))) = true then
some (false)
else
qad a0 (0 : Int)) := (FnI.call_eq (by kernel_rfl)).trans (by kernel_rfl)
theorem qgc (v0 : ByteArray) (v3 : Int) : qad v0 v3 = (
if (decide (v3 < (Int.ofNat (ByteArray.size v0)))) = true then
gd (0 ≤ v3) <|
gd (v3 < (v0.size : Int)) <|
if (decide ((qGr v0 (Int.toNat v3)) < (33 : Int))) = true then
some (false)
else
gd (0 ≤ v3) <|
gd (v3 < (v0.size : Int)) <|
if (decide ((qGr v0 (Int.toNat v3)) > (126 : Int))) = true then
some (false)
else
qad v0 (IntKind.wrap .i64 (v3 + (1 : Int)))
else
some (true)) := (FnI.sem_eq _).trans (by kernel_rfl)
noncomputable def qRi (acc : List AV → Bool) : Summ Tryz.prog GT := bitloftref28_Name_I.summ mixed acc false false
noncomputable def bitloftref28_Check_I : FnI Tryz.prog GT := { f := 49, cuts := [⟨(5, 3), [0, 3, 4], false, false, []⟩, ⟨(11, 3), [0, 5], false, false, []⟩, ⟨(16, 3), [0, 6], false, false, []⟩, ⟨(19, 7), [0, 6, 7], false, false, []⟩], tab := [qRi (fun _ => true)], fm := ⟨true, [.val (.int .i64) []]⟩ }
noncomputable def qYd (a0 : List qta) : Option (Int) := bitloftref28_Check_I.call [(.sl qza false a0)] []
noncomputable def qCe (v0 : List qta) (v3 : Int) (v4 : Int) : Option (Int) := bitloftref28_Check_I.sem ⟨[.code (cIn (cIn (qaa (qGa (qaa (qaa (qaa (qda Tryz.prog 49)))))))), .inLoop (cIn (cIn (qaa (qGa (qaa (qaa (qaa (qda Tryz.prog 49)))))))), .inBlock 0, .code (qaa (qaa (qaa (qaa (qda Tryz.prog 49)))))], ⟨[(0, (.one (.sl qza false v0))), (3, (.one (.int .i64 v3))), (4, (.one (.int .i64 v4)))], [], 8⟩⟩
noncomputable def qBe (v0 : List qta) (v5 : Int) : Option (Int) := bitloftref28_Check_I.sem ⟨[.code (cIn (cIn (qaa (qGa (qaa (qaa (qaa (qaa (qaa (qda Tryz.prog 49)))))))))), .inLoop (cIn (cIn (qaa (qGa (qaa (qaa (qaa (qaa (qaa (qda Tryz.prog 49)))))))))), .inBlock 2, .code (qaa (qaa (qaa (qaa (qaa (qaa (qda Tryz.prog 49)))))))], ⟨[(0, (.one (.sl qza false v0))), (5, (.one (.int .i64 v5)))], [], 8⟩⟩
noncomputable def qAe (v0 : List qta) (v6 : Int) : Option (Int) := bitloftref28_Check_I.sem ⟨[.code (cIn (cIn (qaa (qGa (qaa (qaa (qaa (qaa (qaa (qaa (qda Tryz.prog 49))))))))))), .inLoop (cIn (cIn (qaa (qGa (qaa (qaa (qaa (qaa (qaa (qaa (qda Tryz.prog 49))))))))))), .inBlock 4, .code (qaa (qaa (qaa (qaa (qaa (qaa (qaa (qda Tryz.prog 49))))))))], ⟨[(0, (.one (.sl qza false v0))), (6, (.one (.int .i64 v6)))], [], 8⟩⟩
noncomputable def qze (v0 : List qta) (v6 : Int) (v7 : Int) : Option (Int) := bitloftref28_Check_I.sem ⟨[.code (cIn (cIn (qaa (cIn (qGa (qaa (cIn (cIn (qaa (qGa (qaa (qaa (qaa (qaa (qaa (qaa (qda Tryz.prog 49))))))))))))))))), .inLoop (cIn (cIn (qaa (cIn (qGa (qaa (cIn (cIn (qaa (qGa (qaa (qaa (qaa (qaa (qaa (qaa (qda Tryz.prog 49))))))))))))))))), .inBlock 6, .inBlock 5, .code (qaa (qaa (cIn (cIn (qaa (qGa (qaa (qaa (qaa (qaa (qaa (qaa (qda Tryz.prog 49))))))))))))), .inLoop (cIn (cIn (qaa (qGa (qaa (qaa (qaa (qaa (qaa (qaa (qda Tryz.prog 49))))))))))), .inBlock 4, .code (qaa (qaa (qaa (qaa (qaa (qaa (qaa (qda Tryz.prog 49))))))))], ⟨[(0, (.one (.sl qza false v0))), (6, (.one (.int .i64 v6))), (7, (.one (.int .i64 v7)))], [], 8⟩⟩
theorem qpn (a0 : List qta) : qYd a0 = (
if (decide ((Int.ofNat (List.length a0)) > (16 : Int))) = true then
some (4 : Int)
else
qCe a0 (0 : Int) (0 : Int)) := (FnI.call_eq (by kernel_rfl)).trans (by kernel_rfl)
theorem qNf (v0 : List qta) (v3 : Int) (v4 : Int) : qCe v0 v3 v4 = (
if (decide (v4 < (Int.ofNat (List.length v0)))) = true then
gd (0 ≤ v4) <|
gd (v4 < (Int.ofNat (List.length v0))) <|
qCe v0 (IntKind.wrap .i64 (v3 + (Int.ofNat (List.length (List.getD v0 (Int.toNat v4) (qpa qza)).2.1)))) (IntKind.wrap .i64 (v4 + (1 : Int)))
else
if (decide (v3 > (8192 : Int))) = true then
some (4 : Int)
else
qBe v0 (0 : Int)) := (FnI.sem_eq _).trans (by kernel_rfl)
theorem qMf (v0 : List qta) (v5 : Int) : qBe v0 v5 = (
if (decide (v5 < (Int.ofNat (List.length v0)))) = true then
gd (0 ≤ v5) <|
gd (v5 < (Int.ofNat (List.length v0))) <|
(qnd (List.getD v0 (Int.toNat v5) (qpa qza)).1).bind fun r1 =>
if (not r1) = true then
some (8 : Int)
else
qBe v0 (IntKind.wrap .i64 (v5 + (1 : Int)))
else
qAe v0 (0 : Int)) := (FnI.sem_eq _).trans (by kernel_rfl)
theorem qLf (v0 : List qta) (v6 : Int) : qAe v0 v6 = (
if (decide (v6 < (Int.ofNat (List.length v0)))) = true then
qze v0 v6 (0 : Int)
else
some (0 : Int)) := (FnI.sem_eq _).trans (by kernel_rfl)
theorem qXk (v0 : List qta) (v6 : Int) (v7 : Int) : qze v0 v6 v7 = (
if (decide (v7 < v6)) = true then
gd (0 ≤ v7) <|
gd (v7 < (Int.ofNat (List.length v0))) <|
gd (0 ≤ v6) <|
gd (v6 < (Int.ofNat (List.length v0))) <|
if ((ByteArray.toList (List.getD v0 (Int.toNat v7) (qpa qza)).1) == (ByteArray.toList (List.getD v0 (Int.toNat v6) (qpa qza)).1)) = true then
some (14 : Int)
else
qze v0 v6 (IntKind.wrap .i64 (v7 + (1 : Int)))
else
qAe v0 (IntKind.wrap .i64 (v6 + (1 : Int)))) := (FnI.sem_eq _).trans (by kernel_rfl)
noncomputable def qlo (acc : List AV → Bool) : Summ Tryz.prog GT := bitloftref28_Check_I.summ mixed acc false false
noncomputable def bitloftref01_Padding_I : FnI Tryz.prog GT := { f := 83, cuts := [⟨(2, 3), [0, 3], false, false, []⟩, ⟨(5, 3), [0, 3, 4], false, false, []⟩], tab := [], fm := ⟨true, [.val (.slice (.int .u8)) [.nw]]⟩ }
noncomputable def qWe (a0 : Int) : Option (List Int) := bitloftref01_Padding_I.call [(.int .i64 a0)] []
noncomputable def qic (v0 : Int) (h8 : List Int) : Option (List Int) := bitloftref01_Padding_I.sem ⟨[.code (cIn (cIn (qGa (qaa (qaa (qda Tryz.prog 83)))))), .inLoop (cIn (cIn (qGa (qaa (qaa (qda Tryz.prog 83)))))), .inBlock 0, .code (qaa (qaa (qaa (qda Tryz.prog 83))))], ⟨[(0, (.one (.int .i64 v0))), (3, (.one (.ref (.int .u8) 8 0 (List.length h8) true)))], [(8, some (.row (.int .u8) true h8))], 9⟩⟩
noncomputable def qhc (v0 : Int) (v4 : Int) (h8 : List Int) : Option (List Int) := bitloftref01_Padding_I.sem ⟨[.code (cIn (cIn (qaa (qGa (qaa (qaa (qaa (qda Tryz.prog 83)))))))), .inLoop (cIn (cIn (qaa (qGa (qaa (qaa (qaa (qda Tryz.prog 83)))))))), .inBlock 2, .code (qaa (qaa (qaa (qaa (qda Tryz.prog 83)))))], ⟨[(0, (.one (.int .i64 v0))), (3, (.one (.ref (.int .u8) 8 0 (List.length h8) true))), (4, (.one (.int .i64 v4)))], [(8, some (.row (.int .u8) true h8))], 9⟩⟩
theorem qFl (a0 : Int) : qWe a0 = (
qic a0 [(128 : Int)]) := (FnI.call_eq (by kernel_rfl)).trans (by kernel_rfl)
theorem qQe (v0 : Int) (h8 : List Int) : qic v0 h8 = (
gd ((64 : Int) ≠ 0) <|
if ((Int.tmod (IntKind.wrap .i64 ((IntKind.wrap .i64 (v0 + (Int.ofNat (List.length h8)))) + (8 : Int))) (64 : Int)) != (0 : Int)) = true then
gd ((List.length (h8 ++ [(0 : Int)])) * 1 ≤ 140737488355328) <|
qic v0 (h8 ++ [(0 : Int)])
else
qhc v0 (7 : Int) h8) := (FnI.sem_eq _).trans (by kernel_rfl)
theorem qPe (v0 : Int) (v4 : Int) (h8 : List Int) : qhc v0 v4 h8 = (
if (decide (v4 ≥ (0 : Int))) = true then
gd (0 ≤ (IntKind.wrap .i64 ((8 : Int) * v4))) <|
gd ((List.length (h8 ++ [(IntKind.wrap .u8 (qjh .u64 (IntKind.wrap .u64 ((8 : Int) * (IntKind.wrap .u64 v0))) (IntKind.wrap .i64 ((8 : Int) * v4))))])) * 1 ≤ 140737488355328) <|
qhc v0 (IntKind.wrap .i64 (v4 - (1 : Int))) (h8 ++ [(IntKind.wrap .u8 (qjh .u64 (IntKind.wrap .u64 ((8 : Int) * (IntKind.wrap .u64 v0))) (IntKind.wrap .i64 ((8 : Int) * v4))))])
else
some (h8)) := (FnI.sem_eq _).trans (by kernel_rfl)
noncomputable def qhm (acc : List AV → Bool) : Summ Tryz.prog GT := bitloftref01_Padding_I.summ mixed acc false false
noncomputable def bitloftref01_First_I : FnI Tryz.prog GT := { f := 84, cuts := [], tab := [], fm := ⟨true, [.val (.arr 5 (.int .u32)) []]⟩ }
noncomputable def qNj : Option ((List Int)) := bitloftref01_First_I.call [] []
theorem qxn : qNj = (
some (List.set (List.set (List.set (List.set (List.set (List.replicate 5 (0 : Int)) 0 (1732584193 : Int)) 1 (4023233417 : Int)) 2 (2562383102 : Int)) 3 (271733878 : Int)) 4 (3285377520 : Int))) := (FnI.call_eq (by kernel_rfl)).trans (by kernel_rfl)
noncomputable def qwo (acc : List AV → Bool) : Summ Tryz.prog GT := bitloftref01_First_I.summ mixed acc false false
noncomputable def bitloftref01_turn_I : FnI Tryz.prog GT := { f := 110, cuts := [], tab := [], fm := ⟨true, [.val (.int .u32) []]⟩ }
noncomputable def qpd (a0 : Int) (a1 : Int) : Option (Int) := bitloftref01_turn_I.call [(.int .u32 a0), (.int .i64 a1)] []
theorem qto (a0 : Int) (a1 : Int) : qpd a0 a1 = (
gd (0 ≤ a1) <|
gd (0 ≤ (IntKind.wrap .i64 ((32 : Int) - a1))) <|
some (qFb .u32 (IntKind.wrap .u32 (qMr .u32 a0 a1)) (qjh .u32 a0 (IntKind.wrap .i64 ((32 : Int) - a1))))) := (FnI.call_eq (by kernel_rfl)).trans (by kernel_rfl)
noncomputable def qeq (acc : List AV → Bool) : Summ Tryz.prog GT := bitloftref01_turn_I.summ mixed acc false false
noncomputable def bitloftref01_part_I : FnI Tryz.prog GT := { f := 111, cuts := [], tab := [], fm := ⟨true, [.val (.int .u32) [], .val (.int .u32) []]⟩ }
noncomputable def qVg (a0 : Int) (a1 : Int) (a2 : Int) (a3 : Int) : Option (Int × Int) := bitloftref01_part_I.call [(.int .i64 a0), (.int .u32 a1), (.int .u32 a2), (.int .u32 a3)] []
theorem qvo (a0 : Int) (a1 : Int) (a2 : Int) (a3 : Int) : qVg a0 a1 a2 a3 = (
if (decide (a0 < (20 : Int))) = true then
some ((qFb .u32 (qDa .u32 a1 a2) (qDa .u32 (qNa .u32 (4294967295 : Int) a1) a3)), (1518500249 : Int))
else
if (decide (a0 < (40 : Int))) = true then
some ((qNa .u32 (qNa .u32 a1 a2) a3), (1859775393 : Int))
else
if (decide (a0 < (60 : Int))) = true then
some ((qFb .u32 (qFb .u32 (qDa .u32 a1 a2) (qDa .u32 a1 a3)) (qDa .u32 a2 a3)), (2400959708 : Int))
else
some ((qNa .u32 (qNa .u32 a1 a2) a3), (3395469782 : Int))) := (FnI.call_eq (by kernel_rfl)).trans (by kernel_rfl)
noncomputable def qfq (acc : List AV → Bool) : Summ Tryz.prog GT := bitloftref01_part_I.summ mixed acc false false
noncomputable def bitloftref01_Done_I : FnI Tryz.prog GT := { f := 85, cuts := [⟨(3, 3), [1, 2, 4, 5, 6], false, false, []⟩, ⟨(7, 3), [2, 4, 5, 7], false, false, []⟩, ⟨(12, 3), [2, 4, 5, 8, 9], false, false, []⟩, ⟨(17, 3), [2, 4, 8, 12], false, false, []⟩], tab := [qeq (fun _ => true), qfq (fun _ => true)], fm := ⟨true, [.val (.arr 5 (.int .u32)) []]⟩ }
noncomputable def qWg (a0 : (List Int)) (a1 : List Int) : Option ((List Int)) := bitloftref01_Done_I.call [(.agg (.arr 5 (.int .u32)) a0), (.sl (.int .u8) false a1)] []
noncomputable def qbd (v1 : List Int) (v6 : Int) (b8 : (List Int)) (b9 : (List Int)) (h10 : List Int) : Option ((List Int)) := bitloftref01_Done_I.sem ⟨[.code (cIn (cIn (qaa (qGa (qaa (qaa (qda Tryz.prog 85))))))), .inLoop (cIn (cIn (qaa (qGa (qaa (qaa (qda Tryz.prog 85))))))), .inBlock 0, .code (qaa (qaa (qaa (qda Tryz.prog 85))))], ⟨[(1, (.one (.sl (.int .u8) false v1))), (2, (.one (.ptr (.arr 5 (.int .u32)) 8 []))), (4, (.one (.ptr (.arr 5 (.int .u32)) 9 []))), (5, (.one (.ref (.int .u32) 10 0 (List.length h10) true))), (6, (.one (.int .i64 v6)))], [(8, some (.box (.arr 5 (.int .u32)) b8)), (9, some (.box (.arr 5 (.int .u32)) b9)), (10, some (.row (.int .u32) true h10))], 11⟩⟩
noncomputable def qdc (v7 : Int) (b8 : (List Int)) (b9 : (List Int)) (h10 : List Int) : Option ((List Int)) := bitloftref01_Done_I.sem ⟨[.code (cIn (cIn (qaa (qGa (qaa (qaa (qaa (qda Tryz.prog 85)))))))), .inLoop (cIn (cIn (qaa (qGa (qaa (qaa (qaa (qda Tryz.prog 85)))))))), .inBlock 2, .code (qaa (qaa (qaa (qaa (qda Tryz.prog 85)))))], ⟨[(2, (.one (.ptr (.arr 5 (.int .u32)) 8 []))), (4, (.one (.ptr (.arr 5 (.int .u32)) 9 []))), (5, (.one (.ref (.int .u32) 10 0 (List.length h10) true))), (7, (.one (.int .i64 v7)))], [(8, some (.box (.arr 5 (.int .u32)) b8)), (9, some (.box (.arr 5 (.int .u32)) b9)), (10, some (.row (.int .u32) true h10))], 11⟩⟩
noncomputable def qcc (v9 : Int) (b8 : (List Int)) (b9 : (List Int)) (h10 : List Int) (b11 : (List Int)) : Option ((List Int)) := bitloftref01_Done_I.sem ⟨[.code (cIn (cIn (qaa (qGa (qaa (qaa (qaa (qaa (qaa (qda Tryz.prog 85)))))))))), .inLoop (cIn (cIn (qaa (qGa (qaa (qaa (qaa (qaa (qaa (qda Tryz.prog 85)))))))))), .inBlock 4, .code (qaa (qaa (qaa (qaa (qaa (qaa (qda Tryz.prog 85)))))))], ⟨[(2, (.one (.ptr (.arr 5 (.int .u32)) 8 []))), (4, (.one (.ptr (.arr 5 (.int .u32)) 9 []))), (5, (.one (.ref (.int .u32) 10 0 (List.length h10) true))), (8, (.one (.ptr (.arr 5 (.int .u32)) 11 []))), (9, (.one (.int .i64 v9)))], [(8, some (.box (.arr 5 (.int .u32)) b8)), (9, some (.box (.arr 5 (.int .u32)) b9)), (10, some (.row (.int .u32) true h10)), (11, some (.box (.arr 5 (.int .u32)) b11))], 12⟩⟩
noncomputable def qbc (v12 : Int) (b8 : (List Int)) (b9 : (List Int)) (b10 : (List Int)) : Option ((List Int)) := bitloftref01_Done_I.sem ⟨[.code (cIn (cIn (qaa (qGa (qaa (qaa (qaa (qaa (qaa (qaa (qda Tryz.prog 85))))))))))), .inLoop (cIn (cIn (qaa (qGa (qaa (qaa (qaa (qaa (qaa (qaa (qda Tryz.prog 85))))))))))), .inBlock 6, .code (qaa (qaa (qaa (qaa (qaa (qaa (qaa (qda Tryz.prog 85))))))))], ⟨[(2, (.one (.ptr (.arr 5 (.int .u32)) 8 []))), (4, (.one (.ptr (.arr 5 (.int .u32)) 9 []))), (8, (.one (.ptr (.arr 5 (.int .u32)) 10 []))), (12, (.one (.int .i64 v12)))], [(8, some (.box (.arr 5 (.int .u32)) b8)), (9, some (.box (.arr 5 (.int .u32)) b9)), (10, some (.box (.arr 5 (.int .u32)) b10))], 11⟩⟩
theorem qxo (a0 : (List Int)) (a1 : List Int) : qWg a0 a1 = (
qbd a1 (0 : Int) a0 (List.replicate 5 (0 : Int)) []) := (FnI.call_eq (by kernel_rfl)).trans (by kernel_rfl)
theorem qFg (v1 : List Int) (v6 : Int) (b8 : (List Int)) (b9 : (List Int)) (h10 : List Int) : qbd v1 v6 b8 b9 h10 = (
if (decide (v6 < (16 : Int))) = true then
gd (0 ≤ (IntKind.wrap .i64 ((4 : Int) * v6))) <|
gd ((IntKind.wrap .i64 ((4 : Int) * v6)) < (Int.ofNat (List.length v1))) <|
gd (0 ≤ (IntKind.wrap .i64 ((IntKind.wrap .i64 ((4 : Int) * v6)) + (1 : Int)))) <|
gd ((IntKind.wrap .i64 ((IntKind.wrap .i64 ((4 : Int) * v6)) + (1 : Int))) < (Int.ofNat (List.length v1))) <|
gd (0 ≤ (IntKind.wrap .i64 ((IntKind.wrap .i64 ((4 : Int) * v6)) + (2 : Int)))) <|
gd ((IntKind.wrap .i64 ((IntKind.wrap .i64 ((4 : Int) * v6)) + (2 : Int))) < (Int.ofNat (List.length v1))) <|
gd (0 ≤ (IntKind.wrap .i64 ((IntKind.wrap .i64 ((4 : Int) * v6)) + (3 : Int)))) <|
gd ((IntKind.wrap .i64 ((IntKind.wrap .i64 ((4 : Int) * v6)) + (3 : Int))) < (Int.ofNat (List.length v1))) <|
gd ((List.length (h10 ++ [(IntKind.wrap .u32 ((IntKind.wrap .u32 ((IntKind.wrap .u32 ((IntKind.wrap .u32 ((IntKind.wrap .u32 ((IntKind.wrap .u32 ((IntKind.wrap .u32 (List.getD v1 (Int.toNat (IntKind.wrap .i64 ((4 : Int) * v6))) (0 : Int))) * (256 : Int))) + (IntKind.wrap .u32 (List.getD v1 (Int.toNat (IntKind.wrap .i64 ((IntKind.wrap .i64 ((4 : Int) * v6)) + (1 : Int)))) (0 : Int))))) * (256 : Int))) + (IntKind.wrap .u32 (List.getD v1 (Int.toNat (IntKind.wrap .i64 ((IntKind.wrap .i64 ((4 : Int) * v6)) + (2 : Int)))) (0 : Int))))) * (256 : Int))) + (IntKind.wrap .u32 (List.getD v1 (Int.toNat (IntKind.wrap .i64 ((IntKind.wrap .i64 ((4 : Int) * v6)) + (3 : Int)))) (0 : Int)))))])) * 4 ≤ 140737488355328) <|
qbd v1 (IntKind.wrap .i64 (v6 + (1 : Int))) b8 b9 (h10 ++ [(IntKind.wrap .u32 ((IntKind.wrap .u32 ((IntKind.wrap .u32 ((IntKind.wrap .u32 ((IntKind.wrap .u32 ((IntKind.wrap .u32 ((IntKind.wrap .u32 (List.getD v1 (Int.toNat (IntKind.wrap .i64 ((4 : Int) * v6))) (0 : Int))) * (256 : Int))) + (IntKind.wrap .u32 (List.getD v1 (Int.toNat (IntKind.wrap .i64 ((IntKind.wrap .i64 ((4 : Int) * v6)) + (1 : Int)))) (0 : Int))))) * (256 : Int))) + (IntKind.wrap .u32 (List.getD v1 (Int.toNat (IntKind.wrap .i64 ((IntKind.wrap .i64 ((4 : Int) * v6)) + (2 : Int)))) (0 : Int))))) * (256 : Int))) + (IntKind.wrap .u32 (List.getD v1 (Int.toNat (IntKind.wrap .i64 ((IntKind.wrap .i64 ((4 : Int) * v6)) + (3 : Int)))) (0 : Int)))))])
else
qdc (16 : Int) b8 b9 h10) := (FnI.sem_eq _).trans (by kernel_rfl)
theorem qEg (v7 : Int) (b8 : (List Int)) (b9 : (List Int)) (h10 : List Int) : qdc v7 b8 b9 h10 = (
if (decide (v7 < (80 : Int))) = true then
gd (0 ≤ (IntKind.wrap .i64 (v7 - (3 : Int)))) <|
gd ((IntKind.wrap .i64 (v7 - (3 : Int))) < (Int.ofNat (List.length h10))) <|
gd (0 ≤ (IntKind.wrap .i64 (v7 - (8 : Int)))) <|
gd ((IntKind.wrap .i64 (v7 - (8 : Int))) < (Int.ofNat (List.length h10))) <|
gd (0 ≤ (IntKind.wrap .i64 (v7 - (14 : Int)))) <|
gd ((IntKind.wrap .i64 (v7 - (14 : Int))) < (Int.ofNat (List.length h10))) <|
gd (0 ≤ (IntKind.wrap .i64 (v7 - (16 : Int)))) <|
gd ((IntKind.wrap .i64 (v7 - (16 : Int))) < (Int.ofNat (List.length h10))) <|
(qpd (qNa .u32 (qNa .u32 (qNa .u32 (List.getD h10 (0 + (Int.toNat (IntKind.wrap .i64 (v7 - (3 : Int))))) (0 : Int)) (List.getD h10 (0 + (Int.toNat (IntKind.wrap .i64 (v7 - (8 : Int))))) (0 : Int))) (List.getD h10 (0 + (Int.toNat (IntKind.wrap .i64 (v7 - (14 : Int))))) (0 : Int))) (List.getD h10 (0 + (Int.toNat (IntKind.wrap .i64 (v7 - (16 : Int))))) (0 : Int))) (1 : Int)).bind fun r1 =>
gd ((List.length (h10 ++ [r1])) * 4 ≤ 140737488355328) <|
qdc (IntKind.wrap .i64 (v7 + (1 : Int))) b8 b9 (h10 ++ [r1])
else
qcc (0 : Int) b8 b9 h10 b8) := (FnI.sem_eq _).trans (by kernel_rfl)
theorem qDg (v9 : Int) (b8 : (List Int)) (b9 : (List Int)) (h10 : List Int) (b11 : (List Int)) : qcc v9 b8 b9 h10 b11 = (
if (decide (v9 < (80 : Int))) = true then
gd (0 ≤ (1 : Int)) <|
gd ((1 : Int) < (5 : Int)) <|
gd (0 ≤ (2 : Int)) <|
gd ((2 : Int) < (5 : Int)) <|
gd (0 ≤ (3 : Int)) <|
gd ((3 : Int) < (5 : Int)) <|
(qVg v9 (List.getD b11 1 (0 : Int)) (List.getD b11 2 (0 : Int)) (List.getD b11 3 (0 : Int))).bind fun r2 =>
gd (0 ≤ (0 : Int)) <|
gd ((0 : Int) < (5 : Int)) <|
(qpd (List.getD b11 0 (0 : Int)) (5 : Int)).bind fun r3 =>
gd (0 ≤ (4 : Int)) <|
gd ((4 : Int) < (5 : Int)) <|
gd (0 ≤ v9) <|
gd (v9 < (Int.ofNat (List.length h10))) <|
gd (0 ≤ (0 : Int)) <|
gd ((0 : Int) < (5 : Int)) <|
gd (0 ≤ (1 : Int)) <|
gd ((1 : Int) < (5 : Int)) <|
(qpd (List.getD b11 1 (0 : Int)) (30 : Int)).bind fun r4 =>
gd (0 ≤ (2 : Int)) <|
gd ((2 : Int) < (5 : Int)) <|
gd (0 ≤ (3 : Int)) <|
gd ((3 : Int) < (5 : Int)) <|
qcc (IntKind.wrap .i64 (v9 + (1 : Int))) b8 b9 h10 (List.set (List.set (List.set (List.set (List.set (List.replicate 5 (0 : Int)) 0 (IntKind.wrap .u32 ((IntKind.wrap .u32 ((IntKind.wrap .u32 ((IntKind.wrap .u32 (r3 + r2.1)) + (List.getD b11 4 (0 : Int)))) + r2.2)) + (List.getD h10 (0 + (Int.toNat v9)) (0 : Int))))) 1 (List.getD b11 0 (0 : Int))) 2 r4) 3 (List.getD b11 2 (0 : Int))) 4 (List.getD b11 3 (0 : Int)))
else
qbc (0 : Int) b8 b9 b11) := (FnI.sem_eq _).trans (by kernel_rfl)
theorem qib (v12 : Int) (b8 : (List Int)) (b9 : (List Int)) (b10 : (List Int)) : qbc v12 b8 b9 b10 = (
if (decide (v12 < (5 : Int))) = true then
gd (0 ≤ v12) <|
gd (v12 < (5 : Int)) <|
gd (0 ≤ v12) <|
gd (v12 < (5 : Int)) <|
gd (0 ≤ v12) <|
gd (v12 < (5 : Int)) <|
qbc (IntKind.wrap .i64 (v12 + (1 : Int))) (List.set b8 (Int.toNat v12) (IntKind.wrap .u32 ((List.getD b8 (Int.toNat v12) (0 : Int)) + (List.getD b10 (Int.toNat v12) (0 : Int))))) b9 b10
else
some (b8)) := (FnI.sem_eq _).trans (by kernel_rfl)
noncomputable def qgq (acc : List AV → Bool) : Summ Tryz.prog GT := bitloftref01_Done_I.summ mixed acc false false
noncomputable def bitloftref01_Of_I : FnI Tryz.prog GT := { f := 54, cuts := [⟨(4, 3), [2, 3, 4, 5], false, false, []⟩, ⟨(9, 3), [2, 4, 6, 7], false, false, []⟩], tab := [qhm (fun _ => true), qwo (fun _ => true), qgq (fun _ => true)], fm := ⟨true, [.val (.arr 20 (.int .u8)) []]⟩ }
noncomputable def qRb (a0 : List Int) : Option ((List Int)) := bitloftref01_Of_I.call [(.sl (.int .u8) false a0)] []
noncomputable def qce (v5 : Int) (b8 : (List Int)) (h9 : List Int) (b10 : (List Int)) : Option ((List Int)) := bitloftref01_Of_I.sem ⟨[.code (cIn (cIn (qaa (qGa (qaa (qaa (qaa (qda Tryz.prog 54)))))))), .inLoop (cIn (cIn (qaa (qGa (qaa (qaa (qaa (qda Tryz.prog 54)))))))), .inBlock 0, .code (qaa (qaa (qaa (qaa (qda Tryz.prog 54)))))], ⟨[(2, (.one (.ptr (.arr 20 (.int .u8)) 8 []))), (3, (.one (.ref (.int .u8) 9 0 (List.length h9) true))), (4, (.one (.ptr (.arr 5 (.int .u32)) 10 []))), (5, (.one (.int .i64 v5)))], [(8, some (.box (.arr 20 (.int .u8)) b8)), (9, some (.row (.int .u8) true h9)), (10, some (.box (.arr 5 (.int .u32)) b10))], 11⟩⟩
noncomputable def qbe (v7 : Int) (b8 : (List Int)) (b9 : (List Int)) (b10 : (List Int)) : Option ((List Int)) := bitloftref01_Of_I.sem ⟨[.code (cIn (cIn (qaa (qGa (qaa (qaa (qaa (qaa (qaa (qda Tryz.prog 54)))))))))), .inLoop (cIn (cIn (qaa (qGa (qaa (qaa (qaa (qaa (qaa (qda Tryz.prog 54)))))))))), .inBlock 2, .code (qaa (qaa (qaa (qaa (qaa (qaa (qda Tryz.prog 54)))))))], ⟨[(2, (.one (.ptr (.arr 20 (.int .u8)) 8 []))), (4, (.one (.ptr (.arr 5 (.int .u32)) 9 []))), (6, (.one (.ptr (.arr 20 (.int .u8)) 10 []))), (7, (.one (.int .i64 v7)))], [(8, some (.box (.arr 20 (.int .u8)) b8)), (9, some (.box (.arr 5 (.int .u32)) b9)), (10, some (.box (.arr 20 (.int .u8)) b10))], 11⟩⟩
theorem qxr (a0 : List Int) : qRb a0 = (
gd ((List.length ([] ++ a0)) * 1 ≤ 140737488355328) <|
(qWe (Int.ofNat (List.length a0))).bind fun r1 =>
gd ((List.length (([] ++ a0) ++ r1)) * 1 ≤ 140737488355328) <|
(qNj).bind fun r2 =>
qce (0 : Int) (List.replicate 20 (0 : Int)) (([] ++ a0) ++ r1) r2) := (FnI.call_eq (by kernel_rfl)).trans (by kernel_rfl)
theorem qDh (v5 : Int) (b8 : (List Int)) (h9 : List Int) (b10 : (List Int)) : qce v5 b8 h9 b10 = (
if (decide (v5 < (Int.ofNat (List.length h9)))) = true then
gd (0 ≤ v5) <|
gd (v5 ≤ (IntKind.wrap .i64 (v5 + (64 : Int)))) <|
gd ((IntKind.wrap .i64 (v5 + (64 : Int))) ≤ (Int.ofNat (List.length h9))) <|
(qWg b10 (List.take ((Int.toNat (IntKind.wrap .i64 (v5 + (64 : Int)))) - (Int.toNat v5)) (List.drop (0 + (Int.toNat v5)) h9))).bind fun r3 =>
qce (IntKind.wrap .i64 (v5 + (64 : Int))) b8 h9 r3
else
qbe (0 : Int) b8 b10 (List.replicate 20 (0 : Int))) := (FnI.sem_eq _).trans (by kernel_rfl)
theorem qCh (v7 : Int) (b8 : (List Int)) (b9 : (List Int)) (b10 : (List Int)) : qbe v7 b8 b9 b10 = (
if (decide (v7 < (20 : Int))) = true then
gd ((4 : Int) ≠ 0) <|
gd (0 ≤ (IntKind.wrap .i64 (Int.tdiv v7 (4 : Int)))) <|
gd ((IntKind.wrap .i64 (Int.tdiv v7 (4 : Int))) < (5 : Int)) <|
gd ((4 : Int) ≠ 0) <|
gd (0 ≤ (IntKind.wrap .i64 ((24 : Int) - (IntKind.wrap .i64 ((8 : Int) * (Int.tmod v7 (4 : Int))))))) <|
gd (0 ≤ v7) <|
gd (v7 < (20 : Int)) <|
qbe (IntKind.wrap .i64 (v7 + (1 : Int))) b8 b9 (List.set b10 (Int.toNat v7) (IntKind.wrap .u8 (qjh .u32 (List.getD b9 (Int.toNat (IntKind.wrap .i64 (Int.tdiv v7 (4 : Int)))) (0 : Int)) (IntKind.wrap .i64 ((24 : Int) - (IntKind.wrap .i64 ((8 : Int) * (Int.tmod v7 (4 : Int)))))))))
else
some (b10)) := (FnI.sem_eq _).trans (by kernel_rfl)
noncomputable def qMe (acc : List AV → Bool) : Summ Tryz.prog GT := bitloftref01_Of_I.summ mixed acc false false
noncomputable def bitloftref28_record_I : FnI Tryz.prog GT := { f := 50, cuts := [], tab := [qMe (fun _ => true)], fm := ⟨true, [.val T_api_Record []]⟩ }
noncomputable def qvf (a0 : qta) : Option (qba) := bitloftref28_record_I.call [(.agg qza (inj false qza a0))] []
theorem qgm (a0 : qta) : qvf a0 = (
(qRb a0.2.1).bind fun r1 =>
some (a0.1, ((Int.ofNat (List.length a0.2.1)), (r1, ())))) := (FnI.call_eq (by kernel_rfl)).trans (by kernel_rfl)
noncomputable def qnn (acc : List AV → Bool) : Summ Tryz.prog GT := bitloftref28_record_I.summ mixed acc false false
noncomputable def bitloftref28_Of_I : FnI Tryz.prog GT := { f := 23, cuts := [⟨(5, 3), [0, 4, 5], false, false, []⟩], tab := [qlo (fun _ => true), qnn (fun _ => true)], fm := ⟨true, [.val (.slice T_api_Record) [.nw], .val (.int .i64) []]⟩ }
noncomputable def qQi (a0 : List qta) : Option (List qba × Int) := bitloftref28_Of_I.call [(.sl qza false a0)] []
noncomputable def qxg (v0 : List qta) (v5 : Int) (h8 : List qba) : Option (List qba × Int) := bitloftref28_Of_I.sem ⟨[.code (cIn (cIn (qaa (qGa (qaa (qaa (qaa (qda Tryz.prog 23)))))))), .inLoop (cIn (cIn (qaa (qGa (qaa (qaa (qaa (qda Tryz.prog 23)))))))), .inBlock 0, .code (qaa (qaa (qaa (qaa (qda Tryz.prog 23)))))], ⟨[(0, (.one (.sl qza false v0))), (4, (.one (.ref T_api_Record 8 0 (List.length h8) true))), (5, (.one (.int .i64 v5)))], [(8, some (.row T_api_Record true h8))], 9⟩⟩
theorem qvr (a0 : List qta) : qQi a0 = (
(qYd a0).bind fun r1 =>
if (r1 != (0 : Int)) = true then
(qYd a0).bind fun r2 =>
some ([], r2)
else
qxg a0 (0 : Int) []) := (FnI.call_eq (by kernel_rfl)).trans (by kernel_rfl)
theorem qBh (v0 : List qta) (v5 : Int) (h8 : List qba) : qxg v0 v5 h8 = (
if (decide (v5 < (Int.ofNat (List.length v0)))) = true then
gd (0 ≤ v5) <|
gd (v5 < (Int.ofNat (List.length v0))) <|
(qvf (List.getD v0 (Int.toNat v5) (qpa qza))).bind fun r3 =>
gd ((List.length (h8 ++ [r3])) * 48 ≤ 140737488355328) <|
qxg v0 (IntKind.wrap .i64 (v5 + (1 : Int))) (h8 ++ [r3])
else
some (h8, (0 : Int))) := (FnI.sem_eq _).trans (by kernel_rfl)
noncomputable def qLs (acc : List AV → Bool) : Summ Tryz.prog GT := bitloftref28_Of_I.summ mixed acc false false
noncomputable def bitloftref30_Front_I : FnI Tryz.prog GT := { f := 52, cuts := [], tab := [], fm := ⟨true, [.val (.slice (.int .u8)) [.nw]]⟩ }
noncomputable def qvg (a0 : qma) (a1 : Int) : Option (List Int) := bitloftref30_Front_I.call [(.agg qua (inj false qua a0)), (.int .i64 a1)] []
theorem qln (a0 : qma) (a1 : Int) : qvg a0 a1 = (
gd (0 ≤ (8 : Int)) <|
some ([(66 : Int), (76 : Int), (70 : Int), (1 : Int), (IntKind.wrap .u8 a0.1), (IntKind.wrap .u8 (Int.fdiv a0.2.1 (256 : Int))), (IntKind.wrap .u8 a0.2.1), (IntKind.wrap .u8 a1)])) := (FnI.call_eq (by kernel_rfl)).trans (by kernel_rfl)
noncomputable def qio (acc : List AV → Bool) : Summ Tryz.prog GT := bitloftref30_Front_I.summ mixed acc false false
noncomputable def bitloftref28_Bytes_I : FnI Tryz.prog GT := { f := 53, cuts := [⟨(3, 3), [0, 3, 4], false, false, []⟩], tab := [], fm := ⟨true, [.val (.slice (.int .u8)) [.nw]]⟩ }
noncomputable def qyg (a0 : List qba) : Option (List Int) := bitloftref28_Bytes_I.call [(.sl T_api_Record false a0)] []
noncomputable def qDe (v0 : List qba) (v4 : Int) (h8 : List Int) : Option (List Int) := bitloftref28_Bytes_I.sem ⟨[.code (cIn (cIn (qaa (qGa (qaa (qaa (qda Tryz.prog 53))))))), .inLoop (cIn (cIn (qaa (qGa (qaa (qaa (qda Tryz.prog 53))))))), .inBlock 0, .code (qaa (qaa (qaa (qda Tryz.prog 53))))], ⟨[(0, (.one (.sl T_api_Record false v0))), (3, (.one (.ref (.int .u8) 8 0 (List.length h8) true))), (4, (.one (.int .i64 v4)))], [(8, some (.row (.int .u8) true h8))], 9⟩⟩
theorem qqn (a0 : List qba) : qyg a0 = (
qDe a0 (0 : Int) []) := (FnI.call_eq (by kernel_rfl)).trans (by kernel_rfl)
theorem qOf (v0 : List qba) (v4 : Int) (h8 : List Int) : qDe v0 v4 h8 = (
if (decide (v4 < (Int.ofNat (List.length v0)))) = true then
gd (0 ≤ v4) <|
gd (v4 < (Int.ofNat (List.length v0))) <|
gd ((List.length (h8 ++ [(IntKind.wrap .u8 (Int.ofNat (ByteArray.size (List.getD v0 (Int.toNat v4) (qpa T_api_Record)).1)))])) * 1 ≤ 140737488355328) <|
gd ((List.length ((h8 ++ [(IntKind.wrap .u8 (Int.ofNat (ByteArray.size (List.getD v0 (Int.toNat v4) (qpa T_api_Record)).1)))]) ++ (qAd (List.getD v0 (Int.toNat v4) (qpa T_api_Record)).1))) * 1 ≤ 140737488355328) <|
gd (0 ≤ (8 : Int)) <|
gd ((List.length (((h8 ++ [(IntKind.wrap .u8 (Int.ofNat (ByteArray.size (List.getD v0 (Int.toNat v4) (qpa T_api_Record)).1)))]) ++ (qAd (List.getD v0 (Int.toNat v4) (qpa T_api_Record)).1)) ++ [(IntKind.wrap .u8 (Int.fdiv (List.getD v0 (Int.toNat v4) (qpa T_api_Record)).2.1 (256 : Int))), (IntKind.wrap .u8 (List.getD v0 (Int.toNat v4) (qpa T_api_Record)).2.1)])) * 1 ≤ 140737488355328) <|
gd ((List.length ((((h8 ++ [(IntKind.wrap .u8 (Int.ofNat (ByteArray.size (List.getD v0 (Int.toNat v4) (qpa T_api_Record)).1)))]) ++ (qAd (List.getD v0 (Int.toNat v4) (qpa T_api_Record)).1)) ++ [(IntKind.wrap .u8 (Int.fdiv (List.getD v0 (Int.toNat v4) (qpa T_api_Record)).2.1 (256 : Int))), (IntKind.wrap .u8 (List.getD v0 (Int.toNat v4) (qpa T_api_Record)).2.1)]) ++ (List.take 20 (List.drop 0 (List.getD v0 (Int.toNat v4) (qpa T_api_Record)).2.2.1)))) * 1 ≤ 140737488355328) <|
qDe v0 (IntKind.wrap .i64 (v4 + (1 : Int))) ((((h8 ++ [(IntKind.wrap .u8 (Int.ofNat (ByteArray.size (List.getD v0 (Int.toNat v4) (qpa T_api_Record)).1)))]) ++ (qAd (List.getD v0 (Int.toNat v4) (qpa T_api_Record)).1)) ++ [(IntKind.wrap .u8 (Int.fdiv (List.getD v0 (Int.toNat v4) (qpa T_api_Record)).2.1 (256 : Int))), (IntKind.wrap .u8 (List.getD v0 (Int.toNat v4) (qpa T_api_Record)).2.1)]) ++ (List.take 20 (List.drop 0 (List.getD v0 (Int.toNat v4) (qpa T_api_Record)).2.2.1)))
else
some (h8)) := (FnI.sem_eq _).trans (by kernel_rfl)
noncomputable def qmo (acc : List AV → Bool) : Summ Tryz.prog GT := bitloftref28_Bytes_I.summ mixed acc false false
noncomputable def bitloftref30_Bytes_I : FnI Tryz.prog GT := { f := 25, cuts := [], tab := [qio (fun _ => true), qmo (fun _ => true), qMe (fun _ => true)], fm := ⟨true, [.val (.slice (.int .u8)) [.nw]]⟩ }
noncomputable def qwg (a0 : qma) (a1 : List qba) : Option (List Int) := bitloftref30_Bytes_I.call [(.agg qua (inj false qua a0)), (.sl T_api_Record false a1)] []
theorem qmn (a0 : qma) (a1 : List qba) : qwg a0 a1 = (
(qvg a0 (Int.ofNat (List.length a1))).bind fun r1 =>
(qyg a1).bind fun r2 =>
gd ((List.length (r1 ++ r2)) * 1 ≤ 140737488355328) <|
(qRb (r1 ++ r2)).bind fun r3 =>
gd ((List.length ((r1 ++ r2) ++ (List.take 20 (List.drop 0 r3)))) * 1 ≤ 140737488355328) <|
some ((r1 ++ r2) ++ (List.take 20 (List.drop 0 r3)))) := (FnI.call_eq (by kernel_rfl)).trans (by kernel_rfl)
noncomputable def qjo (acc : List AV → Bool) : Summ Tryz.prog GT := bitloftref30_Bytes_I.summ mixed acc false false
noncomputable def bitloftref26_two_I : FnI Tryz.prog GT := { f := 89, cuts := [], tab := [], fm := ⟨true, [.val (.slice (.int .u8)) [.nw]]⟩ }
noncomputable def qnf (a0 : Int) : Option (List Int) := bitloftref26_two_I.call [(.int .i64 a0)] []
theorem qdq (a0 : Int) : qnf a0 = (
gd (0 ≤ (8 : Int)) <|
some ([(IntKind.wrap .u8 (Int.fdiv a0 (256 : Int))), (IntKind.wrap .u8 a0)])) := (FnI.call_eq (by kernel_rfl)).trans (by kernel_rfl)
noncomputable def qwr (acc : List AV → Bool) : Summ Tryz.prog GT := bitloftref26_two_I.summ mixed acc false false
noncomputable def bitloftref26_Front_I : FnI Tryz.prog GT := { f := 58, cuts := [], tab := [qwr (fun _ => true)], fm := ⟨true, [.val (.slice (.int .u8)) [.nw]]⟩ }
noncomputable def qZd (a0 : qfa) : Option (List Int) := bitloftref26_Front_I.call [(.agg qya (inj false qya a0))] []
theorem qtn (a0 : qfa) : qZd a0 = (
(qnf a0.2.2.1).bind fun r1 =>
gd ((List.length ([a0.1, (IntKind.wrap .u8 a0.2.1)] ++ r1)) * 1 ≤ 140737488355328) <|
(qnf a0.2.2.2.1).bind fun r2 =>
gd ((List.length (([a0.1, (IntKind.wrap .u8 a0.2.1)] ++ r1) ++ r2)) * 1 ≤ 140737488355328) <|
(qnf a0.2.2.2.2.1).bind fun r3 =>
gd ((List.length ((([a0.1, (IntKind.wrap .u8 a0.2.1)] ++ r1) ++ r2) ++ r3)) * 1 ≤ 140737488355328) <|
some ((([a0.1, (IntKind.wrap .u8 a0.2.1)] ++ r1) ++ r2) ++ r3)) := (FnI.call_eq (by kernel_rfl)).trans (by kernel_rfl)
noncomputable def qWh (acc : List AV → Bool) : Summ Tryz.prog GT := bitloftref26_Front_I.summ mixed acc false false
noncomputable def bitloftref26_Of_I : FnI Tryz.prog GT := { f := 30, cuts := [], tab := [qWh (fun _ => true), qMe (fun _ => true)], fm := ⟨true, [.val (.arr 20 (.int .u8)) []]⟩ }
noncomputable def qEe (a0 : qfa) (a1 : List Int) : Option ((List Int)) := bitloftref26_Of_I.call [(.agg qya (inj false qya a0)), (.sl (.int .u8) false a1)] []
theorem qMj (a0 : qfa) (a1 : List Int) : qEe a0 a1 = (
(qZd a0).bind fun r1 =>
gd ((List.length (r1 ++ a1)) * 1 ≤ 140737488355328) <|
(qRb (r1 ++ a1)).bind fun r2 =>
some (r2)) := (FnI.call_eq (by kernel_rfl)).trans (by kernel_rfl)
noncomputable def qYk (acc : List AV → Bool) : Summ Tryz.prog GT := bitloftref26_Of_I.summ mixed acc false false
noncomputable def bitloftref27_Made_I : FnI Tryz.prog GT := { f := 10, cuts := [], tab := [qYk (fun _ => true)], fm := ⟨true, [.val qXb []]⟩ }
noncomputable def qUg (a0 : Int) (a1 : Int) (a2 : List Int) (a3 : List Int) : Option (qPa) := bitloftref27_Made_I.call [(.int .i64 a0), (.int .i64 a1), (.sl (.int .u8) false a2), (.sl (.int .u8) false a3)] []
theorem qno (a0 : Int) (a1 : Int) (a2 : List Int) (a3 : List Int) : qUg a0 a1 a2 a3 = (
gd ((List.length ([] ++ a2)) * 1 ≤ 140737488355328) <|
if (decide ((Int.ofNat (List.length a3)) < (Int.ofNat (List.length a2)))) = true then
gd ((List.length ([] ++ a3)) * 1 ≤ 140737488355328) <|
(qEe ((2 : Int), (a0, (a1, ((Int.ofNat (List.length a2)), ((Int.ofNat (List.length a3)), ((List.replicate 20 (0 : Int)), ())))))) a2).bind fun r1 =>
some (((2 : Int), (a0, (a1, ((Int.ofNat (List.length a2)), ((Int.ofNat (List.length a3)), (r1, ())))))), (([] ++ a3), ()))
else
(qEe ((1 : Int), (a0, (a1, ((Int.ofNat (List.length a2)), ((Int.ofNat (List.length a2)), ((List.replicate 20 (0 : Int)), ())))))) a2).bind fun r2 =>
some (((1 : Int), (a0, (a1, ((Int.ofNat (List.length a2)), ((Int.ofNat (List.length a2)), (r2, ())))))), (([] ++ a2), ()))) := (FnI.call_eq (by kernel_rfl)).trans (by kernel_rfl)
noncomputable def qcq (acc : List AV → Bool) : Summ Tryz.prog GT := bitloftref27_Made_I.summ mixed acc false false
noncomputable def bitloftref25_Bytes_I : FnI Tryz.prog GT := { f := 60, cuts := [], tab := [], fm := ⟨true, [.val (.slice (.int .u8)) [.nw]]⟩ }
noncomputable def qCg : Option (List Int) := bitloftref25_Bytes_I.call [] []
theorem qwn : qCg = (
some ([(183 : Int), (98 : Int), (105 : Int), (116 : Int), (108 : Int), (111 : Int), (102 : Int), (116 : Int), (32 : Int), (98 : Int), (108 : Int), (107 : Int), (10 : Int)])) := (FnI.call_eq (by kernel_rfl)).trans (by kernel_rfl)
noncomputable def qso (acc : List AV → Bool) : Summ Tryz.prog GT := bitloftref25_Bytes_I.summ mixed acc false false
noncomputable def bitloftref26_Bytes_I : FnI Tryz.prog GT := { f := 82, cuts := [], tab := [qWh (fun _ => true)], fm := ⟨true, [.val (.slice (.int .u8)) [.nw]]⟩ }
noncomputable def qBg (a0 : qfa) : Option (List Int) := bitloftref26_Bytes_I.call [(.agg qya (inj false qya a0))] []
theorem qvn (a0 : qfa) : qBg a0 = (
(qZd a0).bind fun r1 =>
gd ((List.length (r1 ++ (List.take 20 (List.drop 0 a0.2.2.2.2.2.1)))) * 1 ≤ 140737488355328) <|
some (r1 ++ (List.take 20 (List.drop 0 a0.2.2.2.2.2.1)))) := (FnI.call_eq (by kernel_rfl)).trans (by kernel_rfl)
noncomputable def qro (acc : List AV → Bool) : Summ Tryz.prog GT := bitloftref26_Bytes_I.summ mixed acc false false
noncomputable def bitloftref27_Bytes_I : FnI Tryz.prog GT := { f := 51, cuts := [], tab := [qso (fun _ => true), qro (fun _ => true)], fm := ⟨true, [.val (.slice (.int .u8)) [.nw]]⟩ }
noncomputable def qzg (a0 : qPa) : Option (List Int) := bitloftref27_Bytes_I.call [(.agg qXb (inj false qXb a0))] []
theorem qrn (a0 : qPa) : qzg a0 = (
(qCg).bind fun r1 =>
(qBg a0.1).bind fun r2 =>
gd ((List.length (r1 ++ r2)) * 1 ≤ 140737488355328) <|
gd ((List.length ((r1 ++ r2) ++ a0.2.1)) * 1 ≤ 140737488355328) <|
some ((r1 ++ r2) ++ a0.2.1)) := (FnI.call_eq (by kernel_rfl)).trans (by kernel_rfl)
noncomputable def qoo (acc : List AV → Bool) : Summ Tryz.prog GT := bitloftref27_Bytes_I.summ mixed acc false false
noncomputable def bitloftref30_Join_I : FnI Tryz.prog GT := { f := 24, cuts := [⟨(3, 3), [1, 5, 6], false, false, []⟩], tab := [qoo (fun _ => true)], fm := ⟨true, [.val (.slice (.int .u8)) [.nw]]⟩ }
noncomputable def qTg (a0 : List Int) (a1 : List qPa) : Option (List Int) := bitloftref30_Join_I.call [(.sl (.int .u8) false a0), (.sl qXb false a1)] []
noncomputable def qVe (v1 : List qPa) (v6 : Int) (h8 : List Int) : Option (List Int) := bitloftref30_Join_I.sem ⟨[.code (cIn (cIn (qaa (qGa (qaa (qaa (qda Tryz.prog 24))))))), .inLoop (cIn (cIn (qaa (qGa (qaa (qaa (qda Tryz.prog 24))))))), .inBlock 0, .code (qaa (qaa (qaa (qda Tryz.prog 24))))], ⟨[(1, (.one (.sl qXb false v1))), (5, (.one (.ref (.int .u8) 8 0 (List.length h8) true))), (6, (.one (.int .i64 v6)))], [(8, some (.row (.int .u8) true h8))], 9⟩⟩
theorem qho (a0 : List Int) (a1 : List qPa) : qTg a0 a1 = (
gd ((List.length ([] ++ a0)) * 1 ≤ 140737488355328) <|
qVe a1 (0 : Int) ([] ++ a0)) := (FnI.call_eq (by kernel_rfl)).trans (by kernel_rfl)
theorem qug (v1 : List qPa) (v6 : Int) (h8 : List Int) : qVe v1 v6 h8 = (
if (decide (v6 < (Int.ofNat (List.length v1)))) = true then
gd (0 ≤ v6) <|
gd (v6 < (Int.ofNat (List.length v1))) <|
(qzg (List.getD v1 (Int.toNat v6) (qpa qXb))).bind fun r1 =>
gd ((List.length (h8 ++ r1)) * 1 ≤ 140737488355328) <|
qVe v1 (IntKind.wrap .i64 (v6 + (1 : Int))) (h8 ++ r1)
else
some (h8)) := (FnI.sem_eq _).trans (by kernel_rfl)
noncomputable def qbq (acc : List AV → Bool) : Summ Tryz.prog GT := bitloftref30_Join_I.summ mixed acc false false
noncomputable def bitloftlaw34_example_I : FnI Tryz.prog GT := { f := 7, cuts := [], tab := [qLs (fun _ => true), qjo (fun _ => true), qcq (fun _ => true), qbq (fun _ => true)], fm := ⟨true, [.val (.slice (.int .u8)) [.nw], .val (.slice T_api_Record) [.nw]]⟩ }
noncomputable def qXe : Option (List Int × List qba) := bitloftlaw34_example_I.call [] []
theorem qGl : qXe = (
(qQi [((ByteArray.mk #[97]), ([(7 : Int)], ()))]).bind fun r1 =>
(qwg ((0 : Int), ((16 : Int), ())) r1.1).bind fun r2 =>
(qUg (0 : Int) (0 : Int) [(7 : Int)] [(7 : Int)]).bind fun r3 =>
(qTg r2 [r3]).bind fun r4 =>
some (r4, r1.1)) := (FnI.call_eq (by kernel_rfl)).trans (by kernel_rfl)
noncomputable def qim (acc : List AV → Bool) : Summ Tryz.prog GT := bitloftlaw34_example_I.summ mixed acc false false
noncomputable def marker_check_I : FnI Tryz.prog GT := { f := 38, cuts := [], tab := [], fm := ⟨true, [.val (.int .i64) []]⟩ }
noncomputable def qvj (a0 : List Int) (a1 : Int) : Option (Int) := marker_check_I.call [(.sl (.int .u8) false a0), (.int .i64 a1)] []
theorem qIm (a0 : List Int) (a1 : Int) : qvj a0 a1 = (
if (decide ((Int.ofNat (List.length a0)) > (50000 : Int))) = true then
some (4 : Int)
else
if (decide (a1 < (0 : Int))) = true then
some (2 : Int)
else
if (decide (a1 > (Int.ofNat (List.length a0)))) = true then
some (2 : Int)
else
some (0 : Int)) := (FnI.call_eq (by kernel_rfl)).trans (by kernel_rfl)
noncomputable def qSo (acc : List AV → Bool) : Summ Tryz.prog GT := marker_check_I.summ mixed acc false false
noncomputable def marker_Bytes_I : FnI Tryz.prog GT := { f := 40, cuts := [], tab := [], fm := ⟨true, [.val (.slice (.int .u8)) [.pu]]⟩ }
noncomputable def qwj : Option (List Int) := marker_Bytes_I.call [] []
theorem qXv : qwj = (
gd (0 < 13) <|
some ([(183 : Int), (98 : Int), (105 : Int), (116 : Int), (108 : Int), (111 : Int), (102 : Int), (116 : Int), (32 : Int), (98 : Int), (108 : Int), (107 : Int), (10 : Int)])) := (FnI.call_eq (by kernel_rfl)).trans (by kernel_rfl)
noncomputable def qTo (acc : List AV → Bool) : Summ Tryz.prog GT := marker_Bytes_I.summ mixed acc false false
noncomputable def marker_Find_I : FnI Tryz.prog GT := { f := 20, cuts := [], tab := [qSo (fun _ => true), qTo (fun _ => true), qsB (fun _ => true)], fm := ⟨true, [.val (.int .i64) [], .val (.int .i64) []]⟩ }
noncomputable def qVc (a0 : List Int) (a1 : Int) : Option (Int × Int) := marker_Find_I.call [(.sl (.int .u8) false a0), (.int .i64 a1)] []
theorem qay (a0 : List Int) (a1 : Int) : qVc a0 a1 = (
(qvj a0 a1).bind fun r1 =>
if (r1 != (0 : Int)) = true then
some ((0 : Int), r1)
else
gd (0 ≤ a1) <|
gd (a1 ≤ (Int.ofNat (List.length a0))) <|
(qwj).bind fun r2 =>
(qNi (List.drop (Int.toNat a1) a0) r2).bind fun r3 =>
if (decide (r3 < (0 : Int))) = true then
some ((0 : Int), (6 : Int))
else
some ((IntKind.wrap .i64 (a1 + r3)), (0 : Int))) := (FnI.call_eq (by kernel_rfl)).trans (by kernel_rfl)
noncomputable def qsA (acc : List AV → Bool) : Summ Tryz.prog GT := marker_Find_I.summ mixed acc false false
noncomputable def header_Check_I : FnI Tryz.prog GT := { f := 69, cuts := [], tab := [], fm := ⟨true, [.val (.int .i64) []]⟩ }
noncomputable def qsh (a0 : qfa) : Option (Int) := header_Check_I.call [(.agg qya (inj false qya a0))] []
theorem qlw (a0 : qfa) : qsh a0 = (
if (decide (a0.2.1 < (0 : Int))) = true then
some (8 : Int)
else
if (decide (a0.2.1 ≥ (16 : Int))) = true then
if (decide (a0.2.1 ≥ (16 : Int))) = true then
some (8 : Int)
else
if (a0.1 == (1 : Int)) = true then
if (a0.2.2.2.2.1 == a0.2.2.2.1) = true then
if (a0.2.2.2.2.1 == a0.2.2.2.1) = true then
some (0 : Int)
else
some (8 : Int)
else
if (a0.1 == (2 : Int)) = true then
if (decide (a0.2.2.2.2.1 > (0 : Int))) = true then
if (decide (a0.2.2.2.2.1 < a0.2.2.2.1)) = true then
some (0 : Int)
else
some (8 : Int)
else
some (8 : Int)
else
some (8 : Int)
else
if (a0.1 == (2 : Int)) = true then
if (decide (a0.2.2.2.2.1 > (0 : Int))) = true then
if (decide (a0.2.2.2.2.1 < a0.2.2.2.1)) = true then
some (0 : Int)
else
some (8 : Int)
else
some (8 : Int)
else
some (8 : Int)
else
if (decide (a0.2.2.2.1 < (1 : Int))) = true then
some (8 : Int)
else
if (decide (a0.2.2.2.1 > (4096 : Int))) = true then
if (decide (a0.2.2.2.1 > (4096 : Int))) = true then
some (8 : Int)
else
if (a0.1 == (1 : Int)) = true then
if (a0.2.2.2.2.1 == a0.2.2.2.1) = true then
if (a0.2.2.2.2.1 == a0.2.2.2.1) = true then
some (0 : Int)
else
some (8 : Int)
else
if (a0.1 == (2 : Int)) = true then
if (decide (a0.2.2.2.2.1 > (0 : Int))) = true then
if (decide (a0.2.2.2.2.1 < a0.2.2.2.1)) = true then
some (0 : Int)
else
some (8 : Int)
else
some (8 : Int)
else
some (8 : Int)
else
if (a0.1 == (2 : Int)) = true then
if (decide (a0.2.2.2.2.1 > (0 : Int))) = true then
if (decide (a0.2.2.2.2.1 < a0.2.2.2.1)) = true then
some (0 : Int)
else
some (8 : Int)
else
some (8 : Int)
else
some (8 : Int)
else
if (decide (a0.2.2.1 < (0 : Int))) = true then
some (8 : Int)
else
if (decide (a0.2.2.1 > (IntKind.wrap .i64 ((8192 : Int) - a0.2.2.2.1)))) = true then
some (8 : Int)
else
if (a0.1 == (1 : Int)) = true then
if (a0.2.2.2.2.1 == a0.2.2.2.1) = true then
if (a0.2.2.2.2.1 == a0.2.2.2.1) = true then
some (0 : Int)
else
some (8 : Int)
else
if (a0.1 == (2 : Int)) = true then
if (decide (a0.2.2.2.2.1 > (0 : Int))) = true then
if (decide (a0.2.2.2.2.1 < a0.2.2.2.1)) = true then
some (0 : Int)
else
some (8 : Int)
else
some (8 : Int)
else
some (8 : Int)
else
if (a0.1 == (2 : Int)) = true then
if (decide (a0.2.2.2.2.1 > (0 : Int))) = true then
if (decide (a0.2.2.2.2.1 < a0.2.2.2.1)) = true then
some (0 : Int)
else
some (8 : Int)
else
some (8 : Int)
else
some (8 : Int)) := (FnI.call_eq (by kernel_rfl)).trans (by kernel_rfl)
noncomputable def qgk (acc : List AV → Bool) : Summ Tryz.prog GT := header_Check_I.summ mixed acc false false
noncomputable def header_Parse_I : FnI Tryz.prog GT := { f := 41, cuts := [⟨(5, 3), [0, 2, 4, 12, 13], false, false, []⟩, ⟨(8, 7), [0, 2, 4, 5, 12, 13, 17, 18], false, false, []⟩], tab := [qgk (fun _ => true)], fm := ⟨true, [.val qya [], .val (.int .i64) []]⟩ }
noncomputable def qMm (a0 : List Int) : Option (qfa × Int) := header_Parse_I.call [(.sl (.int .u8) false a0)] []
noncomputable def qqc (v0 : List Int) (v12 : (List Int)) (v13 : Int) (b8 : qfa) (b9 : (List Int)) : Option (qfa × Int) := header_Parse_I.sem ⟨[.code (cIn (cIn (qaa (qGa (qaa (qaa (qaa (qda Tryz.prog 41)))))))), .inLoop (cIn (cIn (qaa (qGa (qaa (qaa (qaa (qda Tryz.prog 41)))))))), .inBlock 0, .code (qaa (qaa (qaa (qaa (qda Tryz.prog 41)))))], ⟨[(0, (.one (.sl (.int .u8) false v0))), (2, (.one (.ptr qya 8 []))), (4, (.one (.ptr (.arr 5 (.int .i64)) 9 []))), (12, (.one (.agg (.arr 5 (.int .i64)) v12))), (13, (.one (.int .i64 v13)))], [(8, some (.box qya (inj false qya b8))), (9, some (.box (.arr 5 (.int .i64)) b9))], 10⟩⟩
noncomputable def que (v0 : List Int) (v5 : Int) (v12 : (List Int)) (v13 : Int) (v17 : Int) (v18 : Int) (b8 : qfa) (b9 : (List Int)) : Option (qfa × Int) := header_Parse_I.sem ⟨[.code (cIn (cIn (qaa (qaa (cIn (qGa (qaa (qaa (cIn (cIn (qaa (qGa (qaa (qaa (qaa (qda Tryz.prog 41)))))))))))))))), .inLoop (cIn (cIn (qaa (qaa (cIn (qGa (qaa (qaa (cIn (cIn (qaa (qGa (qaa (qaa (qaa (qda Tryz.prog 41)))))))))))))))), .inBlock 2, .inBlock 1, .code (qaa (qaa (qaa (cIn (cIn (qaa (qGa (qaa (qaa (qaa (qda Tryz.prog 41))))))))))), .inLoop (cIn (cIn (qaa (qGa (qaa (qaa (qaa (qda Tryz.prog 41)))))))), .inBlock 0, .code (qaa (qaa (qaa (qaa (qda Tryz.prog 41)))))], ⟨[(0, (.one (.sl (.int .u8) false v0))), (2, (.one (.ptr qya 8 []))), (4, (.one (.ptr (.arr 5 (.int .i64)) 9 []))), (5, (.one (.int .i64 v5))), (12, (.one (.agg (.arr 5 (.int .i64)) v12))), (13, (.one (.int .i64 v13))), (17, (.one (.int .i64 v17))), (18, (.one (.int .i64 v18)))], [(8, some (.box qya (inj false qya b8))), (9, some (.box (.arr 5 (.int .i64)) b9))], 10⟩⟩
theorem qkw (a0 : List Int) : qMm a0 = (
if ((Int.ofNat (List.length a0)) != (28 : Int)) = true then
some (((0 : Int), ((0 : Int), ((0 : Int), ((0 : Int), ((0 : Int), ((List.replicate 20 (0 : Int)), ())))))), (12 : Int))
else
qqc a0 G_widths (0 : Int) ((0 : Int), ((0 : Int), ((0 : Int), ((0 : Int), ((0 : Int), ((List.replicate 20 (0 : Int)), ())))))) (List.replicate 5 (0 : Int))) := (FnI.call_eq (by kernel_rfl)).trans (by kernel_rfl)
theorem qlg (v0 : List Int) (v12 : (List Int)) (v13 : Int) (b8 : qfa) (b9 : (List Int)) : qqc v0 v12 v13 b8 b9 = (
if (decide (v13 < (5 : Int))) = true then
gd (0 ≤ v13) <|
gd (v13 < (5 : Int)) <|
que v0 v13 v12 v13 (List.getD v12 (Int.toNat v13) (0 : Int)) (0 : Int) b8 b9
else
gd (0 ≤ (0 : Int)) <|
gd ((0 : Int) < (5 : Int)) <|
gd (0 ≤ (1 : Int)) <|
gd ((1 : Int) < (5 : Int)) <|
gd (0 ≤ (2 : Int)) <|
gd ((2 : Int) < (5 : Int)) <|
gd (0 ≤ (3 : Int)) <|
gd ((3 : Int) < (5 : Int)) <|
gd (0 ≤ (4 : Int)) <|
gd ((4 : Int) < (5 : Int)) <|
(qsh ((IntKind.wrap .u8 (List.getD b9 0 (0 : Int))), ((List.getD b9 1 (0 : Int)), ((List.getD b9 2 (0 : Int)), ((List.getD b9 3 (0 : Int)), ((List.getD b9 4 (0 : Int)), ((qNb (List.replicate 20 (0 : Int)) 0 (List.take (min (List.length v0) 20) v0)), ()))))))).bind fun r1 =>
if (r1 != (0 : Int)) = true then
some (((0 : Int), ((0 : Int), ((0 : Int), ((0 : Int), ((0 : Int), ((List.replicate 20 (0 : Int)), ())))))), (12 : Int))
else
some (((IntKind.wrap .u8 (List.getD b9 0 (0 : Int))), ((List.getD b9 1 (0 : Int)), ((List.getD b9 2 (0 : Int)), ((List.getD b9 3 (0 : Int)), ((List.getD b9 4 (0 : Int)), ((qNb (List.replicate 20 (0 : Int)) 0 (List.take (min (List.length v0) 20) v0)), ())))))), (0 : Int))) := (FnI.sem_eq _).trans (by kernel_rfl)
theorem qkg (v0 : List Int) (v5 : Int) (v12 : (List Int)) (v13 : Int) (v17 : Int) (v18 : Int) (b8 : qfa) (b9 : (List Int)) : que v0 v5 v12 v13 v17 v18 b8 b9 = (
if (decide (v18 < v17)) = true then
gd (0 ≤ v5) <|
gd (v5 < (5 : Int)) <|
gd (0 ≤ (8 : Int)) <|
gd (0 ≤ (0 : Int)) <|
gd ((0 : Int) < (Int.ofNat (List.length v0))) <|
gd (0 ≤ v5) <|
gd (v5 < (5 : Int)) <|
gd (0 ≤ (1 : Int)) <|
gd ((1 : Int) ≤ (Int.ofNat (List.length v0))) <|
que (List.drop 1 v0) v5 v12 v13 v17 (IntKind.wrap .i64 (v18 + (1 : Int))) b8 (List.set b9 (Int.toNat v5) (qFb .i64 (IntKind.wrap .i64 ((List.getD b9 (Int.toNat v5) (0 : Int)) * (256 : Int))) (IntKind.wrap .i64 (List.getD v0 0 (0 : Int)))))
else
qqc v0 v12 (IntKind.wrap .i64 (v13 + (1 : Int))) b8 b9) := (FnI.sem_eq _).trans (by kernel_rfl)
noncomputable def qgy (acc : List AV → Bool) : Summ Tryz.prog GT := header_Parse_I.summ mixed acc false false
noncomputable def bytes_Equal_I : FnI Tryz.prog GT := { f := 47, cuts := [], tab := [], fm := ⟨true, [.val .bool []]⟩ }
noncomputable def qYp (a0 : List Int) (a1 : List Int) : Option (Bool) := bytes_Equal_I.call [(.sl (.int .u8) false a0), (.sl (.int .u8) false a1)] []
theorem qhp (a0 : List Int) (a1 : List Int) : qYp a0 a1 = (
some ((ByteArray.toList (qem a0)) == (ByteArray.toList (qem a1)))) := (FnI.call_eq (by kernel_rfl)).trans (by kernel_rfl)
noncomputable def qtr (acc : List AV → Bool) : Summ Tryz.prog GT := bytes_Equal_I.summ mixed acc false false
noncomputable def bytes_HasPrefix_I : FnI Tryz.prog GT := { f := 70, cuts := [], tab := [qtr (fun _ => true)], fm := ⟨true, [.val .bool []]⟩ }
noncomputable def qhn (a0 : List Int) (a1 : List Int) : Option (Bool) := bytes_HasPrefix_I.call [(.sl (.int .u8) false a0), (.sl (.int .u8) false a1)] []
theorem qsr (a0 : List Int) (a1 : List Int) : qhn a0 a1 = (
if (decide ((Int.ofNat (List.length a0)) ≥ (Int.ofNat (List.length a1)))) = true then
gd (0 ≤ (Int.ofNat (List.length a1))) <|
gd ((Int.ofNat (List.length a1)) ≤ (Int.ofNat (List.length a0))) <|
(qYp (List.take (List.length a1) a0) a1).bind fun r1 =>
some (r1)
else
some (false)) := (FnI.call_eq (by kernel_rfl)).trans (by kernel_rfl)
noncomputable def qIs (acc : List AV → Bool) : Summ Tryz.prog GT := bytes_HasPrefix_I.summ mixed acc false false
noncomputable def marker_At_I : FnI Tryz.prog GT := { f := 42, cuts := [], tab := [qSo (fun _ => true), qTo (fun _ => true), qIs (fun _ => true)], fm := ⟨true, [.val .bool [], .val (.int .i64) []]⟩ }
noncomputable def qYv (a0 : List Int) (a1 : Int) : Option (Bool × Int) := marker_At_I.call [(.sl (.int .u8) false a0), (.int .i64 a1)] []
theorem qrC (a0 : List Int) (a1 : Int) : qYv a0 a1 = (
(qvj a0 a1).bind fun r1 =>
if (r1 != (0 : Int)) = true then
some (false, r1)
else
gd (0 ≤ a1) <|
gd (a1 ≤ (Int.ofNat (List.length a0))) <|
(qwj).bind fun r2 =>
(qhn (List.drop (Int.toNat a1) a0) r2).bind fun r3 =>
some (r3, (0 : Int))) := (FnI.call_eq (by kernel_rfl)).trans (by kernel_rfl)
noncomputable def qEE (acc : List AV → Bool) : Summ Tryz.prog GT := marker_At_I.summ mixed acc false false
noncomputable def bytes_Clone_I : FnI Tryz.prog GT := { f := 28, cuts := [], tab := [], fm := ⟨true, [.val (.slice (.int .u8)) [.nw]]⟩ }
noncomputable def quf (a0 : List Int) : Option (List Int) := bytes_Clone_I.call [(.sl (.int .u8) false a0)] []
theorem qip (a0 : List Int) : quf a0 = (
qvF (fun (r1 : Bool) => r1 = true → a0 = []) fun (r1 : Bool) =>
if r1 = true then
some ([])
else
gd ((List.length ([] ++ a0)) * 1 ≤ 140737488355328) <|
some ([] ++ a0)) := (FnI.call_eq (by kernel_rfl)).trans (by kernel_rfl)
noncomputable def qmi (acc : List AV → Bool) : Summ Tryz.prog GT := bytes_Clone_I.summ mixed acc false false
noncomputable def block_Read_I : FnI Tryz.prog GT := { f := 21, cuts := [], tab := [qgy (fun _ => true), qEE (fun _ => true), qmi (fun _ => true)], fm := ⟨true, [.val qXb [], .val (.int .i64) [], .val (.int .i64) []]⟩ }
noncomputable def qKs (a0 : List Int) : Option (qPa × Int × Int) := block_Read_I.call [(.sl (.int .u8) false a0)] []
theorem quB (a0 : List Int) : qKs a0 = (
if (decide ((Int.ofNat (List.length a0)) > (50000 : Int))) = true then
some ((((0 : Int), ((0 : Int), ((0 : Int), ((0 : Int), ((0 : Int), ((List.replicate 20 (0 : Int)), ())))))), ([], ())), ((0 : Int), (4 : Int)))
else
if (decide ((Int.ofNat (List.length a0)) < (41 : Int))) = true then
some ((((0 : Int), ((0 : Int), ((0 : Int), ((0 : Int), ((0 : Int), ((List.replicate 20 (0 : Int)), ())))))), ([], ())), ((0 : Int), (18 : Int)))
else
gd (0 ≤ (13 : Int)) <|
gd ((13 : Int) ≤ (41 : Int)) <|
gd ((41 : Int) ≤ (Int.ofNat (List.length a0))) <|
(qMm (List.take 28 (List.drop 13 a0))).bind fun r1 =>
(qYv a0 (0 : Int)).bind fun r2 =>
if (not r2.1) = true then
some ((((0 : Int), ((0 : Int), ((0 : Int), ((0 : Int), ((0 : Int), ((List.replicate 20 (0 : Int)), ())))))), ([], ())), ((0 : Int), (12 : Int)))
else
if (r1.2 != (0 : Int)) = true then
some ((((0 : Int), ((0 : Int), ((0 : Int), ((0 : Int), ((0 : Int), ((List.replicate 20 (0 : Int)), ())))))), ([], ())), ((0 : Int), (12 : Int)))
else
if (decide ((Int.ofNat (List.length a0)) < (IntKind.wrap .i64 ((41 : Int) + r1.1.2.2.2.2.1)))) = true then
some ((((0 : Int), ((0 : Int), ((0 : Int), ((0 : Int), ((0 : Int), ((List.replicate 20 (0 : Int)), ())))))), ([], ())), ((0 : Int), (18 : Int)))
else
gd (0 ≤ (41 : Int)) <|
gd ((41 : Int) ≤ (IntKind.wrap .i64 ((41 : Int) + r1.1.2.2.2.2.1))) <|
gd ((IntKind.wrap .i64 ((41 : Int) + r1.1.2.2.2.2.1)) ≤ (Int.ofNat (List.length a0))) <|
(quf (List.take ((Int.toNat (IntKind.wrap .i64 ((41 : Int) + r1.1.2.2.2.2.1))) - 41) (List.drop 41 a0))).bind fun r3 =>
some ((r1.1, (r3, ())), ((IntKind.wrap .i64 ((41 : Int) + r1.1.2.2.2.2.1)), (0 : Int)))) := (FnI.call_eq (by kernel_rfl)).trans (by kernel_rfl)
noncomputable def quD (acc : List AV → Bool) : Summ Tryz.prog GT := block_Read_I.summ mixed acc false false
noncomputable def block_Check_I : FnI Tryz.prog GT := { f := 43, cuts := [], tab := [qgk (fun _ => true)], fm := ⟨true, [.val (.int .i64) []]⟩ }
noncomputable def qZp (a0 : qPa) : Option (Int) := block_Check_I.call [(.agg qXb (inj false qXb a0))] []
theorem qPy (a0 : qPa) : qZp a0 = (
(qsh a0.1).bind fun r1 =>
if (r1 != (0 : Int)) = true then
some (8 : Int)
else
if ((Int.ofNat (List.length a0.2.1)) != a0.1.2.2.2.2.1) = true then
some (8 : Int)
else
some (0 : Int)) := (FnI.call_eq (by kernel_rfl)).trans (by kernel_rfl)
noncomputable def qvB (acc : List AV → Bool) : Summ Tryz.prog GT := block_Check_I.summ mixed acc false false
noncomputable def block_isLevel_I : FnI Tryz.prog GT := { f := 44, cuts := [], tab := [], fm := ⟨true, [.val .bool []]⟩ }
noncomputable def qDl (a0 : Int) : Option (Bool) := block_isLevel_I.call [(.int .i64 a0)] []
theorem qeu (a0 : Int) : qDl a0 = (
if (decide (a0 ≥ (0 : Int))) = true then
some (decide (a0 ≤ (7 : Int)))
else
some (false)) := (FnI.call_eq (by kernel_rfl)).trans (by kernel_rfl)
noncomputable def qdx (acc : List AV → Bool) : Summ Tryz.prog GT := block_isLevel_I.summ mixed acc false false
noncomputable def ring_places_I : FnI Tryz.prog GT := { f := 142, cuts := [], tab := [], fm := ⟨true, [.val (.int .i64) []]⟩ }
noncomputable def qil (a0 : Int) : Option (Int) := ring_places_I.call [(.int .i64 a0)] []
theorem qzx (a0 : Int) : qil a0 = (
gd (0 ≤ a0) <|
some (IntKind.wrap .i64 (qMr .i64 (64 : Int) a0))) := (FnI.call_eq (by kernel_rfl)).trans (by kernel_rfl)
noncomputable def qAq (acc : List AV → Bool) : Summ Tryz.prog GT := ring_places_I.summ mixed acc false false
noncomputable def ring_New_I : FnI Tryz.prog GT := { f := 112, cuts := [], tab := [qAq (fun _ => true)], fm := ⟨true, [.val qva [], .val (.int .i64) []]⟩ }
noncomputable def qRz (a0 : Int) : Option (qla × Int) := ring_New_I.call [(.int .i64 a0)] []
theorem qbv (a0 : Int) : qRz a0 = (
if (decide (a0 < (0 : Int))) = true then
some (((0 : Int), ([], ((0 : Int), ()))), (2 : Int))
else
if (decide (a0 > (7 : Int))) = true then
some (((0 : Int), ([], ((0 : Int), ()))), (2 : Int))
else
(qil a0).bind fun r1 =>
gd (r1 = r1) <|
gd (0 ≤ r1) <|
gd (r1 * 1 ≤ 140737488355328) <|
gd (r1 ≤ 9223372036854775807) <|
some ((a0, ((List.replicate (Int.toNat r1) (0 : Int)), ((0 : Int), ()))), (0 : Int))) := (FnI.call_eq (by kernel_rfl)).trans (by kernel_rfl)
noncomputable def qSG (acc : List AV → Bool) : Summ Tryz.prog GT := ring_New_I.summ mixed acc false false
noncomputable def squash_Squash_I : FnI Tryz.prog GT := { f := 167, cuts := [], tab := [], fm := ⟨true, [.val (.int .i32) []]⟩ }
noncomputable def qUf (a0 : Int) : Option (Int) := squash_Squash_I.call [(.int .i32 a0)] []
theorem qyt (a0 : Int) : qUf a0 = (
if (decide (a0 > (2047 : Int))) = true then
some (4095 : Int)
else
if (decide (a0 < (-2047 : Int))) = true then
some (0 : Int)
else
gd (0 ≤ (7 : Int)) <|
gd (0 ≤ (IntKind.wrap .i32 ((Int.fdiv a0 (128 : Int)) + (16 : Int)))) <|
gd ((IntKind.wrap .i32 ((Int.fdiv a0 (128 : Int)) + (16 : Int))) < (33 : Int)) <|
gd (0 ≤ (IntKind.wrap .i32 ((IntKind.wrap .i32 ((Int.fdiv a0 (128 : Int)) + (16 : Int))) + (1 : Int)))) <|
gd ((IntKind.wrap .i32 ((IntKind.wrap .i32 ((Int.fdiv a0 (128 : Int)) + (16 : Int))) + (1 : Int))) < (33 : Int)) <|
gd (0 ≤ (IntKind.wrap .i32 ((Int.fdiv a0 (128 : Int)) + (16 : Int)))) <|
gd ((IntKind.wrap .i32 ((Int.fdiv a0 (128 : Int)) + (16 : Int))) < (33 : Int)) <|
gd (0 ≤ (7 : Int)) <|
some (Int.fdiv (IntKind.wrap .i32 ((IntKind.wrap .i32 ((IntKind.wrap .i32 ((List.getD G_row (Int.toNat (IntKind.wrap .i32 ((Int.fdiv a0 (128 : Int)) + (16 : Int)))) (0 : Int)) * (128 : Int))) + (IntKind.wrap .i32 ((IntKind.wrap .i32 ((List.getD G_row (Int.toNat (IntKind.wrap .i32 ((IntKind.wrap .i32 ((Int.fdiv a0 (128 : Int)) + (16 : Int))) + (1 : Int)))) (0 : Int)) - (List.getD G_row (Int.toNat (IntKind.wrap .i32 ((Int.fdiv a0 (128 : Int)) + (16 : Int)))) (0 : Int)))) * (qDa .i32 a0 (127 : Int)))))) + (64 : Int))) (128 : Int))) := (FnI.call_eq (by kernel_rfl)).trans (by kernel_rfl)
noncomputable def qsi (acc : List AV → Bool) : Summ Tryz.prog GT := squash_Squash_I.summ mixed acc false false
noncomputable def slices_Clone_int32_int32_I : FnI Tryz.prog GT := { f := 181, cuts := [], tab := [], fm := ⟨true, [.val (.slice (.int .i32)) [.nw]]⟩ }
noncomputable def qJa (a0 : List Int) : Option (List Int) := slices_Clone_int32_int32_I.call [(.sl (.int .i32) false a0)] []
theorem qvi (a0 : List Int) : qJa a0 = (
qvF (fun (r1 : Bool) => r1 = true → a0 = []) fun (r1 : Bool) =>
if r1 = true then
some ([])
else
gd ((List.length ([] ++ a0)) * 4 ≤ 140737488355328) <|
some ([] ++ a0)) := (FnI.call_eq (by kernel_rfl)).trans (by kernel_rfl)
noncomputable def qbb (acc : List AV → Bool) : Summ Tryz.prog GT := slices_Clone_int32_int32_I.summ mixed acc false false
noncomputable def refine_New_I : FnI Tryz.prog GT := { f := 143, cuts := [⟨(5, 3), [0, 2, 4, 14], false, false, []⟩, ⟨(11, 3), [2, 4, 6, 26, 27], false, false, []⟩], tab := [qsi (fun _ => true), qbb (fun _ => true)], fm := ⟨true, [.val qsa [], .val (.int .i64) []]⟩ }
noncomputable def qOn (a0 : Int) : Option (qqa × Int) := refine_New_I.call [(.int .i64 a0)] []
noncomputable def qeg (v0 : Int) (v14 : Int) (b8b : Unit) (h9 : List Int) (h10 : List (List Int)) : Option (qqa × Int) := refine_New_I.sem ⟨[.code (cIn (cIn (qaa (qGa (qaa (qaa (qaa (qda Tryz.prog 143)))))))), .inLoop (cIn (cIn (qaa (qGa (qaa (qaa (qaa (qda Tryz.prog 143)))))))), .inBlock 0, .code (qaa (qaa (qaa (qaa (qda Tryz.prog 143)))))], ⟨[(0, (.one (.int .i64 v0))), (2, (.one (.ptr qsa 8 []))), (4, (.one (.ref (.int .i32) 9 0 (List.length h9) true))), (14, (.one (.int .i32 v14)))], [(8, some (.box qsa ((SV.ref 10 0 (List.length h10) true), b8b))), (9, some (.row (.int .i32) true h9)), (10, some (.row (.slice (.int .i32)) true h10))], 11⟩⟩
noncomputable def qdg (v26 : Int) (v27 : Int) (b8b : Unit) (h9 : List Int) (b10b : Unit) (h11 : List (List Int)) (h12 : List (List Int)) : Option (qqa × Int) := refine_New_I.sem ⟨[.code (cIn (cIn (qaa (qGa (qaa (qaa (qaa (qaa (qaa (qda Tryz.prog 143)))))))))), .inLoop (cIn (cIn (qaa (qGa (qaa (qaa (qaa (qaa (qaa (qda Tryz.prog 143)))))))))), .inBlock 2, .code (qaa (qaa (qaa (qaa (qaa (qaa (qda Tryz.prog 143)))))))], ⟨[(2, (.one (.ptr qsa 8 []))), (4, (.one (.ref (.int .i32) 9 0 (List.length h9) true))), (6, (.one (.ptr qsa 10 []))), (26, (.one (.int .i64 v26))), (27, (.one (.int .i64 v27)))], [(8, some (.box qsa ((SV.ref 11 0 (List.length h11) true), b8b))), (9, some (.row (.int .i32) true h9)), (10, some (.box qsa ((SV.ref 12 0 (List.length h12) true), b10b))), (11, some (.row (.slice (.int .i32)) true h11)), (12, some (.row (.slice (.int .i32)) true h12))], 13⟩⟩
theorem qTz (a0 : Int) : qOn a0 = (
if (decide (a0 < (1 : Int))) = true then
some (([], ()), (2 : Int))
else
if (decide (a0 > (256 : Int))) = true then
some (([], ()), (2 : Int))
else
qeg a0 (0 : Int) () [] []) := (FnI.call_eq (by kernel_rfl)).trans (by kernel_rfl)
theorem qSl (v0 : Int) (v14 : Int) (b8b : Unit) (h9 : List Int) (h10 : List (List Int)) : qeg v0 v14 b8b h9 h10 = (
if (decide (v14 < (33 : Int))) = true then
(qUf (IntKind.wrap .i32 ((128 : Int) * (IntKind.wrap .i32 (v14 - (16 : Int)))))).bind fun r1 =>
gd ((List.length (h9 ++ [(IntKind.wrap .i32 ((16 : Int) * r1))])) * 4 ≤ 140737488355328) <|
qeg v0 (IntKind.wrap .i32 (v14 + (1 : Int))) b8b (h9 ++ [(IntKind.wrap .i32 ((16 : Int) * r1))]) h10
else
qdg v0 (0 : Int) b8b h9 () h10 []) := (FnI.sem_eq _).trans (by kernel_rfl)
theorem qRl (v26 : Int) (v27 : Int) (b8b : Unit) (h9 : List Int) (b10b : Unit) (h11 : List (List Int)) (h12 : List (List Int)) : qdg v26 v27 b8b h9 b10b h11 h12 = (
if (decide (v27 < v26)) = true then
(qJa h9).bind fun r2 =>
gd ((List.length (h12 ++ [r2])) * 24 ≤ 140737488355328) <|
qdg v26 (IntKind.wrap .i64 (v27 + (1 : Int))) b8b h9 b10b h11 (h12 ++ [r2])
else
some ((h12, b10b), (0 : Int))) := (FnI.sem_eq _).trans (by kernel_rfl)
noncomputable def qbC (acc : List AV → Bool) : Summ Tryz.prog GT := refine_New_I.summ mixed acc false false
noncomputable def final_New_I : FnI Tryz.prog GT := { f := 113, cuts := [], tab := [qbC (fun _ => true)], fm := ⟨true, [.val qpb []]⟩ }
noncomputable def qBw : Option (qIa) := final_New_I.call [] []
theorem qOC : qBw = (
(qOn (256 : Int)).bind fun r1 =>
(qOn (256 : Int)).bind fun r2 =>
some (r1.1, (r2.1, ()))) := (FnI.call_eq (by kernel_rfl)).trans (by kernel_rfl)
noncomputable def qTE (acc : List AV → Bool) : Summ Tryz.prog GT := final_New_I.summ mixed acc false false
noncomputable def match_New_I : FnI Tryz.prog GT := { f := 114, cuts := [], tab := [], fm := ⟨true, [.val qua []]⟩ }
noncomputable def qbr : Option (qma) := match_New_I.call [] []
theorem qHm : qbr = (
some ((-1 : Int), ((0 : Int), ()))) := (FnI.call_eq (by kernel_rfl)).trans (by kernel_rfl)
noncomputable def qIp (acc : List AV → Bool) : Summ Tryz.prog GT := match_New_I.summ mixed acc false false
noncomputable def nibble_New_I : FnI Tryz.prog GT := { f := 115, cuts := [], tab := [], fm := ⟨true, [.val qBa []]⟩ }
noncomputable def qds : Option (qka) := nibble_New_I.call [] []
theorem qOq : qds = (
some ((1 : Int), ())) := (FnI.call_eq (by kernel_rfl)).trans (by kernel_rfl)
noncomputable def qgt (acc : List AV → Bool) : Summ Tryz.prog GT := nibble_New_I.summ mixed acc false false
noncomputable def finder_places_I : FnI Tryz.prog GT := { f := 145, cuts := [], tab := [], fm := ⟨true, [.val (.int .i64) []]⟩ }
noncomputable def qfi (a0 : Int) : Option (Int) := finder_places_I.call [(.int .i64 a0)] []
theorem qSt (a0 : Int) : qfi a0 = (
gd (0 ≤ a0) <|
some (IntKind.wrap .i64 (qMr .i64 (64 : Int) a0))) := (FnI.call_eq (by kernel_rfl)).trans (by kernel_rfl)
noncomputable def qRm (acc : List AV → Bool) : Summ Tryz.prog GT := finder_places_I.summ mixed acc false false
noncomputable def math_bits_Mul64_I : FnI Tryz.prog GT := { f := 230, cuts := [], tab := [], fm := ⟨true, [.val (.int .u64) [], .val (.int .u64) []]⟩ }
noncomputable def qEm (a0 : Int) (a1 : Int) : Option (Int × Int) := math_bits_Mul64_I.call [(.int .u64 a0), (.int .u64 a1)] []
theorem qZq (a0 : Int) (a1 : Int) : qEm a0 a1 = (
gd (0 ≤ (32 : Int)) <|
gd (0 ≤ (32 : Int)) <|
gd (0 ≤ (32 : Int)) <|
gd (0 ≤ (32 : Int)) <|
gd (0 ≤ (32 : Int)) <|
some ((IntKind.wrap .u64 ((IntKind.wrap .u64 ((IntKind.wrap .u64 ((Int.fdiv a0 (4294967296 : Int)) * (Int.fdiv a1 (4294967296 : Int)))) + (Int.fdiv (IntKind.wrap .u64 ((IntKind.wrap .u64 ((Int.fdiv a0 (4294967296 : Int)) * (qDa .u64 a1 (4294967295 : Int)))) + (Int.fdiv (IntKind.wrap .u64 ((qDa .u64 a0 (4294967295 : Int)) * (qDa .u64 a1 (4294967295 : Int)))) (4294967296 : Int)))) (4294967296 : Int)))) + (Int.fdiv (IntKind.wrap .u64 ((qDa .u64 (IntKind.wrap .u64 ((IntKind.wrap .u64 ((Int.fdiv a0 (4294967296 : Int)) * (qDa .u64 a1 (4294967295 : Int)))) + (Int.fdiv (IntKind.wrap .u64 ((qDa .u64 a0 (4294967295 : Int)) * (qDa .u64 a1 (4294967295 : Int)))) (4294967296 : Int)))) (4294967295 : Int)) + (IntKind.wrap .u64 ((qDa .u64 a0 (4294967295 : Int)) * (Int.fdiv a1 (4294967296 : Int)))))) (4294967296 : Int)))), (IntKind.wrap .u64 (a0 * a1)))) := (FnI.call_eq (by kernel_rfl)).trans (by kernel_rfl)
noncomputable def qgs (acc : List AV → Bool) : Summ Tryz.prog GT := math_bits_Mul64_I.summ mixed acc false false
noncomputable def math_bits_Mul_I : FnI Tryz.prog GT := { f := 190, cuts := [], tab := [qgs (fun _ => true)], fm := ⟨true, [.val (.int .u64) [], .val (.int .u64) []]⟩ }
noncomputable def qdi (a0 : Int) (a1 : Int) : Option (Int × Int) := math_bits_Mul_I.call [(.int .u64 a0), (.int .u64 a1)] []
theorem qPt (a0 : Int) (a1 : Int) : qdi a0 a1 = (
(qEm a0 a1).bind fun r1 =>
some (r1)) := (FnI.call_eq (by kernel_rfl)).trans (by kernel_rfl)
noncomputable def qDm (acc : List AV → Bool) : Summ Tryz.prog GT := math_bits_Mul_I.summ mixed acc false false
noncomputable def slices_Repeat_int_int_I : FnI Tryz.prog GT := { f := 144, cuts := [⟨(8, 3), [7, 8], false, false, []⟩], tab := [qDm (fun _ => true)], fm := ⟨true, [.val (.slice (.int .i64)) [.nw]]⟩ }
noncomputable def qge (a0 : List Int) (a1 : Int) : Option (List Int) := slices_Repeat_int_int_I.call [(.sl (.int .i64) false a0), (.int .i64 a1)] []
noncomputable def qTb (v8 : Int) (h8 : List Int) : Option (List Int) := slices_Repeat_int_int_I.sem ⟨[.code (cIn (cIn (qGa (qaa (qaa (qaa (qaa (qaa (qaa (qda Tryz.prog 144)))))))))), .inLoop (cIn (cIn (qGa (qaa (qaa (qaa (qaa (qaa (qaa (qda Tryz.prog 144)))))))))), .inBlock 0, .code (qaa (qaa (qaa (qaa (qaa (qaa (qaa (qda Tryz.prog 144))))))))], ⟨[(7, (.one (.ref (.int .i64) 8 0 (List.length h8) true))), (8, (.one (.int .i64 v8)))], [(8, some (.row (.int .i64) true h8))], 9⟩⟩
theorem qAk (a0 : List Int) (a1 : Int) : qge a0 a1 = (
if (decide (a1 < (0 : Int))) = true then
none
else
(qdi (IntKind.wrap .u64 (Int.ofNat (List.length a0))) (IntKind.wrap .u64 a1)).bind fun r1 =>
if (decide (r1.1 > (0 : Int))) = true then
none
else
if (decide (r1.2 > (9223372036854775807 : Int))) = true then
none
else
gd ((IntKind.wrap .i64 r1.2) = (IntKind.wrap .i64 r1.2)) <|
gd (0 ≤ (IntKind.wrap .i64 r1.2)) <|
gd ((IntKind.wrap .i64 r1.2) * 8 ≤ 140737488355328) <|
gd ((IntKind.wrap .i64 r1.2) ≤ 9223372036854775807) <|
qTb (Int.ofNat (min (List.length a0) (List.length (List.replicate (Int.toNat (IntKind.wrap .i64 r1.2)) (0 : Int))))) (qNb (List.replicate (Int.toNat (IntKind.wrap .i64 r1.2)) (0 : Int)) 0 (List.take (min (List.length a0) (List.length (List.replicate (Int.toNat (IntKind.wrap .i64 r1.2)) (0 : Int)))) a0))) := (FnI.call_eq (by kernel_rfl)).trans (by kernel_rfl)
theorem qfe (v8 : Int) (h8 : List Int) : qTb v8 h8 = (
if (decide (v8 < (Int.ofNat (List.length h8)))) = true then
gd (0 ≤ v8) <|
gd (v8 ≤ (Int.ofNat (List.length h8))) <|
gd (0 ≤ v8) <|
gd (v8 ≤ (Int.ofNat (List.length h8))) <|
qTb (IntKind.wrap .i64 (v8 + (Int.ofNat (min (List.length (List.take ((Int.toNat v8) - 0) (List.drop 0 h8))) ((List.length h8) - (Int.toNat v8)))))) (qNb h8 (0 + (Int.toNat v8)) (List.take (min (List.length (List.take ((Int.toNat v8) - 0) (List.drop 0 h8))) ((List.length h8) - (Int.toNat v8))) (List.take ((Int.toNat v8) - 0) (List.drop 0 h8))))
else
some (h8)) := (FnI.sem_eq _).trans (by kernel_rfl)
noncomputable def qel (acc : List AV → Bool) : Summ Tryz.prog GT := slices_Repeat_int_int_I.summ mixed acc false false
noncomputable def finder_New_I : FnI Tryz.prog GT := { f := 116, cuts := [], tab := [qRm (fun _ => true), qel (fun _ => true)], fm := ⟨true, [.val qSa [], .val (.int .i64) []]⟩ }
noncomputable def qos (a0 : Int) : Option (qAa × Int) := finder_New_I.call [(.int .i64 a0)] []
theorem qFA (a0 : Int) : qos a0 = (
if (decide (a0 < (0 : Int))) = true then
some (((0 : Int), ([], ())), (2 : Int))
else
if (decide (a0 > (7 : Int))) = true then
some (((0 : Int), ([], ())), (2 : Int))
else
(qfi a0).bind fun r1 =>
(qge [(-1 : Int)] r1).bind fun r2 =>
some ((a0, (r2, ())), (0 : Int))) := (FnI.call_eq (by kernel_rfl)).trans (by kernel_rfl)
noncomputable def qKC (acc : List AV → Bool) : Summ Tryz.prog GT := finder_New_I.summ mixed acc false false
noncomputable def slices_Repeat_int32_int32_I : FnI Tryz.prog GT := { f := 148, cuts := [⟨(8, 3), [7, 8], false, false, []⟩], tab := [qDm (fun _ => true)], fm := ⟨true, [.val (.slice (.int .i32)) [.nw]]⟩ }
noncomputable def qKb (a0 : List Int) (a1 : Int) : Option (List Int) := slices_Repeat_int32_int32_I.call [(.sl (.int .i32) false a0), (.int .i64 a1)] []
noncomputable def qub (v8 : Int) (h8 : List Int) : Option (List Int) := slices_Repeat_int32_int32_I.sem ⟨[.code (cIn (cIn (qGa (qaa (qaa (qaa (qaa (qaa (qaa (qda Tryz.prog 148)))))))))), .inLoop (cIn (cIn (qGa (qaa (qaa (qaa (qaa (qaa (qaa (qda Tryz.prog 148)))))))))), .inBlock 0, .code (qaa (qaa (qaa (qaa (qaa (qaa (qaa (qda Tryz.prog 148))))))))], ⟨[(7, (.one (.ref (.int .i32) 8 0 (List.length h8) true))), (8, (.one (.int .i64 v8)))], [(8, some (.row (.int .i32) true h8))], 9⟩⟩
theorem qYh (a0 : List Int) (a1 : Int) : qKb a0 a1 = (
if (decide (a1 < (0 : Int))) = true then
none
else
(qdi (IntKind.wrap .u64 (Int.ofNat (List.length a0))) (IntKind.wrap .u64 a1)).bind fun r1 =>
if (decide (r1.1 > (0 : Int))) = true then
none
else
if (decide (r1.2 > (9223372036854775807 : Int))) = true then
none
else
gd ((IntKind.wrap .i64 r1.2) = (IntKind.wrap .i64 r1.2)) <|
gd (0 ≤ (IntKind.wrap .i64 r1.2)) <|
gd ((IntKind.wrap .i64 r1.2) * 4 ≤ 140737488355328) <|
gd ((IntKind.wrap .i64 r1.2) ≤ 9223372036854775807) <|
qub (Int.ofNat (min (List.length a0) (List.length (List.replicate (Int.toNat (IntKind.wrap .i64 r1.2)) (0 : Int))))) (qNb (List.replicate (Int.toNat (IntKind.wrap .i64 r1.2)) (0 : Int)) 0 (List.take (min (List.length a0) (List.length (List.replicate (Int.toNat (IntKind.wrap .i64 r1.2)) (0 : Int)))) a0))) := (FnI.call_eq (by kernel_rfl)).trans (by kernel_rfl)
theorem qdd (v8 : Int) (h8 : List Int) : qub v8 h8 = (
if (decide (v8 < (Int.ofNat (List.length h8)))) = true then
gd (0 ≤ v8) <|
gd (v8 ≤ (Int.ofNat (List.length h8))) <|
gd (0 ≤ v8) <|
gd (v8 ≤ (Int.ofNat (List.length h8))) <|
qub (IntKind.wrap .i64 (v8 + (Int.ofNat (min (List.length (List.take ((Int.toNat v8) - 0) (List.drop 0 h8))) ((List.length h8) - (Int.toNat v8)))))) (qNb h8 (0 + (Int.toNat v8)) (List.take (min (List.length (List.take ((Int.toNat v8) - 0) (List.drop 0 h8))) ((List.length h8) - (Int.toNat v8))) (List.take ((Int.toNat v8) - 0) (List.drop 0 h8))))
else
some (h8)) := (FnI.sem_eq _).trans (by kernel_rfl)
noncomputable def qhe (acc : List AV → Bool) : Summ Tryz.prog GT := slices_Repeat_int32_int32_I.summ mixed acc false false
noncomputable def mixer_fill_int32_I : FnI Tryz.prog GT := { f := 146, cuts := [], tab := [qhe (fun _ => true)], fm := ⟨true, [.val (.slice (.int .i32)) [.nw]]⟩ }
noncomputable def qVl (a0 : Int) (a1 : Int) : Option (List Int) := mixer_fill_int32_I.call [(.int .i64 a0), (.int .i32 a1)] []
theorem qGp (a0 : Int) (a1 : Int) : qVl a0 a1 = (
(qKb [a1] a0).bind fun r1 =>
some (r1)) := (FnI.call_eq (by kernel_rfl)).trans (by kernel_rfl)
noncomputable def qPq (acc : List AV → Bool) : Summ Tryz.prog GT := mixer_fill_int32_I.summ mixed acc false false
noncomputable def mixer_New_I : FnI Tryz.prog GT := { f := 117, cuts := [⟨(5, 3), [1, 4, 6, 14, 15], false, false, []⟩], tab := [qPq (fun _ => true)], fm := ⟨true, [.val qsa [], .val (.int .i64) []]⟩ }
noncomputable def qNv (a0 : Int) (a1 : Int) : Option (qqa × Int) := mixer_New_I.call [(.int .i64 a0), (.int .i32 a1)] []
noncomputable def qqh (v1 : Int) (v14 : Int) (v15 : Int) (b8b : Unit) (b9b : Unit) (h10 : List (List Int)) (h11 : List (List Int)) : Option (qqa × Int) := mixer_New_I.sem ⟨[.code (cIn (cIn (qaa (qGa (qaa (qaa (qaa (qda Tryz.prog 117)))))))), .inLoop (cIn (cIn (qaa (qGa (qaa (qaa (qaa (qda Tryz.prog 117)))))))), .inBlock 0, .code (qaa (qaa (qaa (qaa (qda Tryz.prog 117)))))], ⟨[(1, (.one (.int .i32 v1))), (4, (.one (.ptr qsa 8 []))), (6, (.one (.ptr qsa 9 []))), (14, (.one (.int .i64 v14))), (15, (.one (.int .i64 v15)))], [(8, some (.box qsa ((SV.ref 10 0 (List.length h10) true), b8b))), (9, some (.box qsa ((SV.ref 11 0 (List.length h11) true), b9b))), (10, some (.row (.slice (.int .i32)) true h10)), (11, some (.row (.slice (.int .i32)) true h11))], 12⟩⟩
theorem qnC (a0 : Int) (a1 : Int) : qNv a0 a1 = (
if (decide (a0 < (1 : Int))) = true then
some (([], ()), (2 : Int))
else
if (decide (a0 > (256 : Int))) = true then
some (([], ()), (2 : Int))
else
qqh a1 a0 (0 : Int) () () [] []) := (FnI.call_eq (by kernel_rfl)).trans (by kernel_rfl)
theorem qym (v1 : Int) (v14 : Int) (v15 : Int) (b8b : Unit) (b9b : Unit) (h10 : List (List Int)) (h11 : List (List Int)) : qqh v1 v14 v15 b8b b9b h10 h11 = (
if (decide (v15 < v14)) = true then
(qVl (8 : Int) v1).bind fun r1 =>
gd ((List.length (h11 ++ [r1])) * 24 ≤ 140737488355328) <|
qqh v1 v14 (IntKind.wrap .i64 (v15 + (1 : Int))) b8b b9b h10 (h11 ++ [r1])
else
some ((h11, b9b), (0 : Int))) := (FnI.sem_eq _).trans (by kernel_rfl)
noncomputable def qzE (acc : List AV → Bool) : Summ Tryz.prog GT := mixer_New_I.summ mixed acc false false
noncomputable def slots_size_I : FnI Tryz.prog GT := { f := 147, cuts := [], tab := [], fm := ⟨true, [.val (.int .i64) []]⟩ }
noncomputable def qIn (a0 : Int) : Option (Int) := slots_size_I.call [(.int .i64 a0)] []
theorem qKz (a0 : Int) : qIn a0 = (
gd (0 ≤ a0) <|
some (IntKind.wrap .i64 (qMr .i64 (16 : Int) a0))) := (FnI.call_eq (by kernel_rfl)).trans (by kernel_rfl)
noncomputable def qSs (acc : List AV → Bool) : Summ Tryz.prog GT := slots_size_I.summ mixed acc false false
noncomputable def slots_New_I : FnI Tryz.prog GT := { f := 118, cuts := [], tab := [qSs (fun _ => true)], fm := ⟨true, [.val qwa [], .val (.int .i64) []]⟩ }
noncomputable def qOu (a0 : Int) : Option (qja × Int) := slots_New_I.call [(.int .i64 a0)] []
theorem qKB (a0 : Int) : qOu a0 = (
if (decide (a0 < (0 : Int))) = true then
some (((0 : Int), ([], ())), (2 : Int))
else
if (decide (a0 > (7 : Int))) = true then
some (((0 : Int), ([], ())), (2 : Int))
else
(qIn a0).bind fun r1 =>
gd (r1 = r1) <|
gd (0 ≤ r1) <|
gd (r1 * 16 ≤ 140737488355328) <|
gd (r1 ≤ 9223372036854775807) <|
some ((a0, ((List.replicate (Int.toNat r1) (qpa qfb)), ())), (0 : Int))) := (FnI.call_eq (by kernel_rfl)).trans (by kernel_rfl)
noncomputable def qZD (acc : List AV → Bool) : Summ Tryz.prog GT := slots_New_I.summ mixed acc false false
noncomputable def adapt_New_I : FnI Tryz.prog GT := { f := 119, cuts := [], tab := [qhe (fun _ => true)], fm := ⟨true, [.val qna [], .val (.int .i64) []]⟩ }
noncomputable def qlx (a0 : Int) : Option (qia × Int) := adapt_New_I.call [(.int .i64 a0)] []
theorem qHD (a0 : Int) : qlx a0 = (
if (decide (a0 < (1 : Int))) = true then
some (((0 : Int), ([], ([], ()))), (2 : Int))
else
if (decide (a0 > (1000 : Int))) = true then
some (((0 : Int), ([], ([], ()))), (2 : Int))
else
(qKb [(32768 : Int)] (193 : Int)).bind fun r1 =>
gd ((193 : Int) = (193 : Int)) <|
gd (0 ≤ (193 : Int)) <|
gd ((193 : Int) * 4 ≤ 140737488355328) <|
gd ((193 : Int) ≤ 9223372036854775807) <|
some (((IntKind.wrap .i32 a0), (r1, ((List.replicate 193 (0 : Int)), ()))), (0 : Int))) := (FnI.call_eq (by kernel_rfl)).trans (by kernel_rfl)
noncomputable def qAF (acc : List AV → Bool) : Summ Tryz.prog GT := adapt_New_I.summ mixed acc false false
noncomputable def unicode_utf8_decodeRuneSlow_I : FnI Tryz.prog GT := { f := 254, cuts := [], tab := [], fm := ⟨true, [.val (.int .i32) [], .val (.int .i64) []]⟩ }
noncomputable def qee (a0 : List Int) : Option (Int × Int) := unicode_utf8_decodeRuneSlow_I.call [(.sl (.int .u8) false a0)] []
noncomputable def qGh (acc : List AV → Bool) : Summ Tryz.prog GT := unicode_utf8_decodeRuneSlow_I.summ mixed acc false false
noncomputable def unicode_utf8_DecodeRune_I : FnI Tryz.prog GT := { f := 248, cuts := [⟨(2, 3), [0, 6, 7, 8], false, false, []⟩], tab := [qGh (fun _ => true)], fm := ⟨true, [.val (.int .i32) [], .val (.int .i64) []]⟩ }
noncomputable def qyd (a0 : List Int) : Option (Int × Int) := unicode_utf8_DecodeRune_I.call [(.sl (.int .u8) false a0)] []
noncomputable def qNe (v0 : List Int) (v6 : List Int) (v7 : Int) (v8 : Int) : Option (Int × Int) := unicode_utf8_DecodeRune_I.sem ⟨[.code (cIn (cIn (qaa (qGa (qaa (qda Tryz.prog 248)))))), .inLoop (cIn (cIn (qaa (qGa (qaa (qda Tryz.prog 248)))))), .inBlock 0, .code (qaa (qaa (qda Tryz.prog 248)))], ⟨[(0, (.one (.sl (.int .u8) false v0))), (6, (.one (.sl (.int .u8) false v6))), (7, (.one (.int .i64 v7))), (8, (.one (.int .i64 v8)))], [], 8⟩⟩
theorem qVi (a0 : List Int) : qyd a0 = (
qNe a0 a0 (Int.ofNat (List.length a0)) (0 : Int)) := (FnI.call_eq (by kernel_rfl)).trans (by kernel_rfl)
theorem qHh (v0 : List Int) (v6 : List Int) (v7 : Int) (v8 : Int) : qNe v0 v6 v7 v8 = (
if (decide (v8 < v7)) = true then
gd (0 ≤ v8) <|
gd (v8 < (Int.ofNat (List.length v6))) <|
if (decide ((List.getD v6 (Int.toNat v8) (0 : Int)) < (128 : Int))) = true then
some ((IntKind.wrap .i32 (List.getD v6 (Int.toNat v8) (0 : Int))), (1 : Int))
else
(qee v0).bind fun r1 =>
some (r1)
else
(qee v0).bind fun r2 =>
some (r2)) := (FnI.sem_eq _).trans (by kernel_rfl)
noncomputable def qRj (acc : List AV → Bool) : Summ Tryz.prog GT := unicode_utf8_DecodeRune_I.summ mixed acc false false
noncomputable def ring_Check_1_I : FnI Tryz.prog GT := { f := 192, cuts := [], tab := [], fm := ⟨true, [.val .bool []]⟩ }
noncomputable def qbt (a0 : Int) : Option (Bool) := ring_Check_1_I.call [(.int .i32 a0)] []
theorem qcv (a0 : Int) : qbt a0 = (
some (a0 != (0 : Int))) := (FnI.call_eq (by kernel_rfl)).trans (by kernel_rfl)
noncomputable def qAx (acc : List AV → Bool) : Summ Tryz.prog GT := ring_Check_1_I.summ mixed acc false false
noncomputable def bytes_indexFunc_I : FnI Tryz.prog GT := { f := 241, cuts := [⟨(2, 3), [0, 1, 2, 7], false, false, []⟩], tab := [qRj (fun _ => true), qAx (fun _ => true)], fm := ⟨true, [.val (.int .i64) []]⟩ }
noncomputable def qfn (a0 : List Int) (a2 : Bool) : Option (Int) := bytes_indexFunc_I.call [(.sl (.int .u8) false a0), (.func 192 []), (.bool a2)] []
noncomputable def qNc (v0 : List Int) (v2 : Bool) (v7 : Int) : Option (Int) := bytes_indexFunc_I.sem ⟨[.code (cIn (cIn (qGa (qaa (qaa (qda Tryz.prog 241)))))), .inLoop (cIn (cIn (qGa (qaa (qaa (qda Tryz.prog 241)))))), .inBlock 0, .code (qaa (qaa (qaa (qda Tryz.prog 241))))], ⟨[(0, (.one (.sl (.int .u8) false v0))), (1, (.one (.func 192 []))), (2, (.one (.bool v2))), (7, (.one (.int .i64 v7)))], [], 8⟩⟩
theorem qqr (a0 : List Int) (a2 : Bool) : qfn a0 a2 = (
qNc a0 a2 (0 : Int)) := (FnI.call_eq (by kernel_rfl)).trans (by kernel_rfl)
theorem qzh (v0 : List Int) (v2 : Bool) (v7 : Int) : qNc v0 v2 v7 = (
if (decide (v7 < (Int.ofNat (List.length v0)))) = true then
gd (0 ≤ v7) <|
gd (v7 ≤ (Int.ofNat (List.length v0))) <|
(qyd (List.drop (Int.toNat v7) v0)).bind fun r1 =>
(qbt r1.1).bind fun r2 =>
if (r2 == v2) = true then
some (v7)
else
qNc v0 v2 (IntKind.wrap .i64 (v7 + r1.2))
else
some (-1 : Int)) := (FnI.sem_eq _).trans (by kernel_rfl)
noncomputable def qGs (acc : List AV → Bool) : Summ Tryz.prog GT := bytes_indexFunc_I.summ mixed acc false false
noncomputable def bytes_IndexFunc_I : FnI Tryz.prog GT := { f := 231, cuts := [], tab := [qGs (fun _ => true)], fm := ⟨true, [.val (.int .i64) []]⟩ }
noncomputable def qgn (a0 : List Int) : Option (Int) := bytes_IndexFunc_I.call [(.sl (.int .u8) false a0), (.func 192 [])] []
theorem qrr (a0 : List Int) : qgn a0 = (
(qfn a0 true).bind fun r1 =>
some (r1)) := (FnI.call_eq (by kernel_rfl)).trans (by kernel_rfl)
noncomputable def qHs (acc : List AV → Bool) : Summ Tryz.prog GT := bytes_IndexFunc_I.summ mixed acc false false
noncomputable def bytes_ContainsFunc_I : FnI Tryz.prog GT := { f := 191, cuts := [], tab := [qHs (fun _ => true)], fm := ⟨true, [.val .bool []]⟩ }
noncomputable def qrg (a0 : List Int) : Option (Bool) := bytes_ContainsFunc_I.call [(.sl (.int .u8) false a0), (.func 192 [])] []
theorem qin (a0 : List Int) : qrg a0 = (
(qgn a0).bind fun r1 =>
some (decide (r1 ≥ (0 : Int)))) := (FnI.call_eq (by kernel_rfl)).trans (by kernel_rfl)
noncomputable def qco (acc : List AV → Bool) : Summ Tryz.prog GT := bytes_ContainsFunc_I.summ mixed acc false false
noncomputable def ring_Check_I : FnI Tryz.prog GT := { f := 149, cuts := [], tab := [qAq (fun _ => true), qco (fun _ => true)], fm := ⟨true, [.val (.int .i64) []]⟩ }
noncomputable def qgd (a0 : qla) : Option (Int) := ring_Check_I.call [(.agg qva (inj false qva a0))] []
theorem qSz (a0 : qla) : qgd a0 = (
if (decide (a0.1 < (0 : Int))) = true then
some (8 : Int)
else
if (decide (a0.1 > (7 : Int))) = true then
some (8 : Int)
else
(qil a0.1).bind fun r1 =>
if ((Int.ofNat (List.length a0.2.1)) != r1) = true then
some (8 : Int)
else
if (decide (a0.2.2.1 < (0 : Int))) = true then
some (8 : Int)
else
if (decide (a0.2.2.1 > (1073741824 : Int))) = true then
some (8 : Int)
else
if (decide (a0.2.2.1 < (Int.ofNat (List.length a0.2.1)))) = true then
gd (0 ≤ a0.2.2.1) <|
gd (a0.2.2.1 ≤ (Int.ofNat (List.length a0.2.1))) <|
(qrg (List.drop (Int.toNat a0.2.2.1) a0.2.1)).bind fun r2 =>
if r2 = true then
some (8 : Int)
else
some (0 : Int)
else
some (0 : Int)) := (FnI.call_eq (by kernel_rfl)).trans (by kernel_rfl)
noncomputable def qIc (acc : List AV → Bool) : Summ Tryz.prog GT := ring_Check_I.summ mixed acc false false
noncomputable def ring_ago_I : FnI Tryz.prog GT := { f := 232, cuts := [], tab := [], fm := ⟨true, [.val (.int .u8) []]⟩ }
noncomputable def qpu (a0 : qla) (a1 : Int) : Option (Int) := ring_ago_I.call [(.agg qva (inj false qva a0)), (.int .i64 a1)] []
theorem qiE (a0 : qla) (a1 : Int) : qpu a0 a1 = (
gd (0 ≤ (qDa .i64 (IntKind.wrap .i64 (a0.2.2.1 - a1)) (IntKind.wrap .i64 ((Int.ofNat (List.length a0.2.1)) - (1 : Int))))) <|
gd ((qDa .i64 (IntKind.wrap .i64 (a0.2.2.1 - a1)) (IntKind.wrap .i64 ((Int.ofNat (List.length a0.2.1)) - (1 : Int)))) < (Int.ofNat (List.length a0.2.1))) <|
some (List.getD a0.2.1 (Int.toNat (qDa .i64 (IntKind.wrap .i64 (a0.2.2.1 - a1)) (IntKind.wrap .i64 ((Int.ofNat (List.length a0.2.1)) - (1 : Int))))) (0 : Int))) := (FnI.call_eq (by kernel_rfl)).trans (by kernel_rfl)
noncomputable def qjz (acc : List AV → Bool) : Summ Tryz.prog GT := ring_ago_I.summ mixed acc false false
noncomputable def ring_Back_I : FnI Tryz.prog GT := { f := 193, cuts := [], tab := [qIc (fun _ => true), qjz (fun _ => true)], fm := ⟨true, [.val (.int .u8) [], .val (.int .i64) []]⟩ }
noncomputable def qBq (a0 : qla) (a1 : Int) : Option (Int × Int) := ring_Back_I.call [(.agg qva (inj false qva a0)), (.int .i64 a1)] []
theorem qTB (a0 : qla) (a1 : Int) : qBq a0 a1 = (
(qgd a0).bind fun r1 =>
if (r1 != (0 : Int)) = true then
some ((0 : Int), r1)
else
if (decide (a1 < (1 : Int))) = true then
some ((0 : Int), (2 : Int))
else
if (decide (a1 > (Int.ofNat (List.length a0.2.1)))) = true then
some ((0 : Int), (2 : Int))
else
if (decide (a1 > a0.2.2.1)) = true then
some ((0 : Int), (0 : Int))
else
(qpu a0 a1).bind fun r2 =>
some (r2, (0 : Int))) := (FnI.call_eq (by kernel_rfl)).trans (by kernel_rfl)
noncomputable def qev (acc : List AV → Bool) : Summ Tryz.prog GT := ring_Back_I.summ mixed acc false false
noncomputable def context_back_I : FnI Tryz.prog GT := { f := 150, cuts := [⟨(3, 3), [2, 5, 6], false, false, []⟩], tab := [qev (fun _ => true)], fm := ⟨true, [.val (.slice (.int .u8)) [.nw]]⟩ }
noncomputable def qyh (a0 : qla) (a1 : Int) : Option (List Int) := context_back_I.call [(.agg qva (inj false qva a0)), (.int .i64 a1)] []
noncomputable def qpg (v6 : Int) (b8 : qla) (h9 : List Int) : Option (List Int) := context_back_I.sem ⟨[.code (cIn (cIn (qaa (qGa (qaa (qaa (qda Tryz.prog 150))))))), .inLoop (cIn (cIn (qaa (qGa (qaa (qaa (qda Tryz.prog 150))))))), .inBlock 0, .code (qaa (qaa (qaa (qda Tryz.prog 150))))], ⟨[(2, (.one (.ptr qva 8 []))), (5, (.one (.ref (.int .u8) 9 0 (List.length h9) true))), (6, (.one (.int .i64 v6)))], [(8, some (.box qva (inj false qva b8))), (9, some (.row (.int .u8) true h9))], 10⟩⟩
theorem qVw (a0 : qla) (a1 : Int) : qyh a0 a1 = (
qpg a1 a0 []) := (FnI.call_eq (by kernel_rfl)).trans (by kernel_rfl)
theorem qIj (v6 : Int) (b8 : qla) (h9 : List Int) : qpg v6 b8 h9 = (
if (decide (v6 > (0 : Int))) = true then
(qBq b8 v6).bind fun r1 =>
gd ((List.length (h9 ++ [r1.1])) * 1 ≤ 140737488355328) <|
qpg (IntKind.wrap .i64 (v6 - (1 : Int))) b8 (h9 ++ [r1.1])
else
some (h9)) := (FnI.sem_eq _).trans (by kernel_rfl)
noncomputable def qok (acc : List AV → Bool) : Summ Tryz.prog GT := context_back_I.summ mixed acc false false
noncomputable def hashes_Start_I : FnI Tryz.prog GT := { f := 194, cuts := [], tab := [], fm := ⟨true, [.val (.int .u32) [], .val (.int .i64) []]⟩ }
noncomputable def qkt (a0 : Int) : Option (Int × Int) := hashes_Start_I.call [(.int .i64 a0)] []
theorem qnw (a0 : Int) : qkt a0 = (
if (decide (a0 < (0 : Int))) = true then
some ((0 : Int), (2 : Int))
else
if (decide (a0 ≥ (8 : Int))) = true then
some ((0 : Int), (2 : Int))
else
some ((IntKind.wrap .u32 ((2654435769 : Int) * (IntKind.wrap .u32 (IntKind.wrap .i64 (a0 + (1 : Int)))))), (0 : Int))) := (FnI.call_eq (by kernel_rfl)).trans (by kernel_rfl)
noncomputable def qjy (acc : List AV → Bool) : Summ Tryz.prog GT := hashes_Start_I.summ mixed acc false false
noncomputable def hashes_steps_I : FnI Tryz.prog GT := { f := 195, cuts := [⟨(2, 3), [0, 7, 8, 9], false, false, []⟩], tab := [], fm := ⟨true, [.val (.int .u32) []]⟩ }
noncomputable def qBj (a0 : Int) (a1 : List Int) : Option (Int) := hashes_steps_I.call [(.int .u32 a0), (.sl (.int .u8) false a1)] []
noncomputable def qve (v0 : Int) (v7 : List Int) (v8 : Int) (v9 : Int) : Option (Int) := hashes_steps_I.sem ⟨[.code (cIn (cIn (qaa (qGa (qaa (qda Tryz.prog 195)))))), .inLoop (cIn (cIn (qaa (qGa (qaa (qda Tryz.prog 195)))))), .inBlock 0, .code (qaa (qaa (qda Tryz.prog 195)))], ⟨[(0, (.one (.int .u32 v0))), (7, (.one (.sl (.int .u8) false v7))), (8, (.one (.int .i64 v8))), (9, (.one (.int .i64 v9)))], [], 8⟩⟩
theorem qmw (a0 : Int) (a1 : List Int) : qBj a0 a1 = (
qve a0 a1 (Int.ofNat (List.length a1)) (0 : Int)) := (FnI.call_eq (by kernel_rfl)).trans (by kernel_rfl)
theorem qAj (v0 : Int) (v7 : List Int) (v8 : Int) (v9 : Int) : qve v0 v7 v8 v9 = (
if (decide (v9 < v8)) = true then
gd (0 ≤ v9) <|
gd (v9 < (Int.ofNat (List.length v7))) <|
gd (0 ≤ (15 : Int)) <|
qve (qNa .u32 (IntKind.wrap .u32 ((qNa .u32 v0 (IntKind.wrap .u32 (List.getD v7 (Int.toNat v9) (0 : Int)))) * (16777619 : Int))) (Int.fdiv (IntKind.wrap .u32 ((qNa .u32 v0 (IntKind.wrap .u32 (List.getD v7 (Int.toNat v9) (0 : Int)))) * (16777619 : Int))) (32768 : Int))) v7 v8 (IntKind.wrap .i64 (v9 + (1 : Int)))
else
some (v0)) := (FnI.sem_eq _).trans (by kernel_rfl)
noncomputable def qZo (acc : List AV → Bool) : Summ Tryz.prog GT := hashes_steps_I.summ mixed acc false false
noncomputable def hashes_Of_I : FnI Tryz.prog GT := { f := 151, cuts := [], tab := [qjy (fun _ => true), qZo (fun _ => true)], fm := ⟨true, [.val (.int .u32) [], .val (.int .i64) []]⟩ }
noncomputable def qPk (a0 : Int) (a1 : List Int) : Option (Int × Int) := hashes_Of_I.call [(.int .i64 a0), (.sl (.int .u8) false a1)] []
theorem qyC (a0 : Int) (a1 : List Int) : qPk a0 a1 = (
(qkt a0).bind fun r1 =>
if (r1.2 != (0 : Int)) = true then
some ((0 : Int), r1.2)
else
if (decide ((Int.ofNat (List.length a1)) > (20000 : Int))) = true then
some ((0 : Int), (4 : Int))
else
(qBj r1.1 a1).bind fun r2 =>
some (r2, (0 : Int))) := (FnI.call_eq (by kernel_rfl)).trans (by kernel_rfl)
noncomputable def qNp (acc : List AV → Bool) : Summ Tryz.prog GT := hashes_Of_I.summ mixed acc false false
noncomputable def context_small_I : FnI Tryz.prog GT := { f := 196, cuts := [], tab := [], fm := ⟨true, [.val (.int .u8) []]⟩ }
noncomputable def qki (a0 : Int) : Option (Int) := context_small_I.call [(.int .u8 a0)] []
theorem qbu (a0 : Int) : qki a0 = (
if (decide (a0 ≥ (97 : Int))) = true then
if (decide (a0 ≤ (122 : Int))) = true then
some (a0)
else
if (decide (a0 ≥ (65 : Int))) = true then
if (decide (a0 ≤ (90 : Int))) = true then
some (IntKind.wrap .u8 (a0 + (32 : Int)))
else
some (0 : Int)
else
some (0 : Int)
else
if (decide (a0 ≥ (65 : Int))) = true then
if (decide (a0 ≤ (90 : Int))) = true then
some (IntKind.wrap .u8 (a0 + (32 : Int)))
else
some (0 : Int)
else
some (0 : Int)) := (FnI.call_eq (by kernel_rfl)).trans (by kernel_rfl)
noncomputable def qUw (acc : List AV → Bool) : Summ Tryz.prog GT := context_small_I.summ mixed acc false false
noncomputable def context_word_I : FnI Tryz.prog GT := { f := 152, cuts := [⟨(3, 3), [3, 4], false, false, []⟩, ⟨(7, 3), [5, 27, 28, 29], false, false, []⟩], tab := [qok (fun _ => true), qUw (fun _ => true)], fm := ⟨true, [.val (.slice (.int .u8)) [.nw]]⟩ }
noncomputable def qZm (a0 : qla) : Option (List Int) := context_word_I.call [(.agg qva (inj false qva a0))] []
noncomputable def qog (v4 : Int) (h8 : List Int) : Option (List Int) := context_word_I.sem ⟨[.code (cIn (cIn (qGa (qaa (qaa (qaa (qda Tryz.prog 152))))))), .inLoop (cIn (cIn (qGa (qaa (qaa (qaa (qda Tryz.prog 152))))))), .inBlock 0, .code (qaa (qaa (qaa (qaa (qda Tryz.prog 152)))))], ⟨[(3, (.one (.ref (.int .u8) 8 0 (List.length h8) true))), (4, (.one (.int .i64 v4)))], [(8, some (.row (.int .u8) true h8))], 9⟩⟩
noncomputable def qld (v27o : Nat) (v27n : Nat) (v28 : Int) (v29 : Int) (h8 : List Int) (h9 : List Int) : Option (List Int) := context_word_I.sem ⟨[.code (cIn (cIn (qaa (qGa (qaa (qaa (qaa (qaa (qaa (qda Tryz.prog 152)))))))))), .inLoop (cIn (cIn (qaa (qGa (qaa (qaa (qaa (qaa (qaa (qda Tryz.prog 152)))))))))), .inBlock 2, .code (qaa (qaa (qaa (qaa (qaa (qaa (qda Tryz.prog 152)))))))], ⟨[(5, (.one (.ref (.int .u8) 8 0 (List.length h8) true))), (27, (.one (.ref (.int .u8) 9 v27o v27n false))), (28, (.one (.int .i64 v28))), (29, (.one (.int .i64 v29)))], [(8, some (.row (.int .u8) true h8)), (9, some (.row (.int .u8) true h9))], 10⟩⟩
theorem qTw (a0 : qla) : qZm a0 = (
(qyh a0 (16 : Int)).bind fun r1 =>
qog (Int.ofNat (List.length r1)) r1) := (FnI.call_eq (by kernel_rfl)).trans (by kernel_rfl)
theorem qHj (v4 : Int) (h8 : List Int) : qog v4 h8 = (
if (decide (v4 > (0 : Int))) = true then
gd (0 ≤ (IntKind.wrap .i64 (v4 - (1 : Int)))) <|
gd ((IntKind.wrap .i64 (v4 - (1 : Int))) < (Int.ofNat (List.length h8))) <|
(qki (List.getD h8 (0 + (Int.toNat (IntKind.wrap .i64 (v4 - (1 : Int))))) (0 : Int))).bind fun r2 =>
if (r2 != (0 : Int)) = true then
qog (IntKind.wrap .i64 (v4 - (1 : Int))) h8
else
gd (0 ≤ v4) <|
gd (v4 ≤ (Int.ofNat (List.length h8))) <|
qld (0 + (Int.toNat v4)) ((List.length h8) - (Int.toNat v4)) (Int.ofNat ((List.length h8) - (Int.toNat v4))) (0 : Int) [] h8
else
gd (0 ≤ v4) <|
gd (v4 ≤ (Int.ofNat (List.length h8))) <|
qld (0 + (Int.toNat v4)) ((List.length h8) - (Int.toNat v4)) (Int.ofNat ((List.length h8) - (Int.toNat v4))) (0 : Int) [] h8) := (FnI.sem_eq _).trans (by kernel_rfl)
theorem qGj (v27o : Nat) (v27n : Nat) (v28 : Int) (v29 : Int) (h8 : List Int) (h9 : List Int) : qld v27o v27n v28 v29 h8 h9 = (
if (decide (v29 < v28)) = true then
gd (0 ≤ v29) <|
gd (v29 < (Int.ofNat v27n)) <|
(qki (List.getD h9 (v27o + (Int.toNat v29)) (0 : Int))).bind fun r3 =>
gd ((List.length (h8 ++ [r3])) * 1 ≤ 140737488355328) <|
qld v27o v27n v28 (IntKind.wrap .i64 (v29 + (1 : Int))) (h8 ++ [r3]) h9
else
some (h8)) := (FnI.sem_eq _).trans (by kernel_rfl)
noncomputable def qGy (acc : List AV → Bool) : Summ Tryz.prog GT := context_word_I.summ mixed acc false false
noncomputable def context_Of_I : FnI Tryz.prog GT := { f := 120, cuts := [⟨(7, 3), [1, 2, 4, 6, 17, 18], false, false, []⟩], tab := [qIc (fun _ => true), qok (fun _ => true), qNp (fun _ => true), qGy (fun _ => true)], fm := ⟨true, [.val (.arr 6 (.int .u32)) [], .val (.int .i64) []]⟩ }
noncomputable def qLe (a0 : qla) : Option ((List Int) × Int) := context_Of_I.call [(.agg qva (inj false qva a0))] []
noncomputable def qqg (v17 : (List Int)) (v18 : Int) (b8 : qla) (b9 : (List Int)) (b10 : (List Int)) (h11 : List Int) : Option ((List Int) × Int) := context_Of_I.sem ⟨[.code (cIn (cIn (qaa (qGa (qaa (qaa (qaa (qaa (qda Tryz.prog 120))))))))), .inLoop (cIn (cIn (qaa (qGa (qaa (qaa (qaa (qaa (qda Tryz.prog 120))))))))), .inBlock 0, .code (qaa (qaa (qaa (qaa (qaa (qda Tryz.prog 120))))))], ⟨[(1, (.one (.ptr qva 8 []))), (2, (.one (.ptr (.arr 6 (.int .u32)) 9 []))), (4, (.one (.ptr (.arr 6 (.int .u32)) 10 []))), (6, (.one (.ref (.int .u8) 11 0 (List.length h11) true))), (17, (.one (.agg (.arr 5 (.int .i64)) v17))), (18, (.one (.int .i64 v18)))], [(8, some (.box qva (inj false qva b8))), (9, some (.box (.arr 6 (.int .u32)) b9)), (10, some (.box (.arr 6 (.int .u32)) b10)), (11, some (.row (.int .u8) true h11))], 12⟩⟩
theorem qoB (a0 : qla) : qLe a0 = (
(qgd a0).bind fun r1 =>
if (r1 != (0 : Int)) = true then
some ((List.replicate 6 (0 : Int)), r1)
else
(qyh a0 (6 : Int)).bind fun r2 =>
qqg (List.set (List.set (List.set (List.set (List.set (List.replicate 5 (0 : Int)) 0 (1 : Int)) 1 (2 : Int)) 2 (3 : Int)) 3 (4 : Int)) 4 (6 : Int)) (0 : Int) a0 (List.replicate 6 (0 : Int)) (List.replicate 6 (0 : Int)) r2) := (FnI.call_eq (by kernel_rfl)).trans (by kernel_rfl)
theorem qcm (v17 : (List Int)) (v18 : Int) (b8 : qla) (b9 : (List Int)) (b10 : (List Int)) (h11 : List Int) : qqg v17 v18 b8 b9 b10 h11 = (
if (decide (v18 < (5 : Int))) = true then
gd (0 ≤ v18) <|
gd (v18 < (5 : Int)) <|
gd (0 ≤ (IntKind.wrap .i64 ((6 : Int) - (List.getD v17 (Int.toNat v18) (0 : Int))))) <|
gd ((IntKind.wrap .i64 ((6 : Int) - (List.getD v17 (Int.toNat v18) (0 : Int)))) ≤ (Int.ofNat (List.length h11))) <|
(qPk v18 (List.take ((List.length h11) - (Int.toNat (IntKind.wrap .i64 ((6 : Int) - (List.getD v17 (Int.toNat v18) (0 : Int)))))) (List.drop (0 + (Int.toNat (IntKind.wrap .i64 ((6 : Int) - (List.getD v17 (Int.toNat v18) (0 : Int)))))) h11))).bind fun r3 =>
gd (0 ≤ v18) <|
gd (v18 < (6 : Int)) <|
qqg v17 (IntKind.wrap .i64 (v18 + (1 : Int))) b8 b9 (List.set b10 (Int.toNat v18) r3.1) h11
else
(qZm b8).bind fun r4 =>
(qPk (5 : Int) r4).bind fun r5 =>
gd (0 ≤ (5 : Int)) <|
gd ((5 : Int) < (6 : Int)) <|
some ((List.set b10 5 r5.1), (0 : Int))) := (FnI.sem_eq _).trans (by kernel_rfl)
noncomputable def qbn (acc : List AV → Bool) : Summ Tryz.prog GT := context_Of_I.summ mixed acc false false
noncomputable def slices_Max_uint8_uint8_I : FnI Tryz.prog GT := { f := 201, cuts := [⟨(5, 3), [0, 3, 4], false, false, []⟩], tab := [], fm := ⟨true, [.val (.int .u8) []]⟩ }
noncomputable def qtc (a0 : List Int) : Option (Int) := slices_Max_uint8_uint8_I.call [(.sl (.int .u8) false a0)] []
noncomputable def qkb (v0 : List Int) (v3 : Int) (v4 : Int) : Option (Int) := slices_Max_uint8_uint8_I.sem ⟨[.code (cIn (cIn (qaa (qGa (qaa (qaa (qaa (qda Tryz.prog 201)))))))), .inLoop (cIn (cIn (qaa (qGa (qaa (qaa (qaa (qda Tryz.prog 201)))))))), .inBlock 0, .code (qaa (qaa (qaa (qaa (qda Tryz.prog 201)))))], ⟨[(0, (.one (.sl (.int .u8) false v0))), (3, (.one (.int .u8 v3))), (4, (.one (.int .i64 v4)))], [], 8⟩⟩
theorem qXj (a0 : List Int) : qtc a0 = (
if (decide ((Int.ofNat (List.length a0)) < (1 : Int))) = true then
none
else
gd (0 ≤ (0 : Int)) <|
gd ((0 : Int) < (Int.ofNat (List.length a0))) <|
qkb a0 (List.getD a0 0 (0 : Int)) (1 : Int)) := (FnI.call_eq (by kernel_rfl)).trans (by kernel_rfl)
theorem qNd (v0 : List Int) (v3 : Int) (v4 : Int) : qkb v0 v3 v4 = (
if (decide (v4 < (Int.ofNat (List.length v0)))) = true then
gd (0 ≤ v4) <|
gd (v4 < (Int.ofNat (List.length v0))) <|
qkb v0 (if (List.getD v0 (Int.toNat v4) (0 : Int)) > v3 then (List.getD v0 (Int.toNat v4) (0 : Int)) else v3) (IntKind.wrap .i64 (v4 + (1 : Int)))
else
some (v3)) := (FnI.sem_eq _).trans (by kernel_rfl)
noncomputable def qyf (acc : List AV → Bool) : Summ Tryz.prog GT := slices_Max_uint8_uint8_I.summ mixed acc false false
noncomputable def slots_Check_I : FnI Tryz.prog GT := { f := 155, cuts := [⟨(4, 3), [23, 24, 25], false, false, []⟩], tab := [qSs (fun _ => true), qyf (fun _ => true)], fm := ⟨true, [.val (.int .i64) []]⟩ }
noncomputable def qti (a0 : qja) : Option (Int) := slots_Check_I.call [(.agg qwa (inj false qwa a0))] []
noncomputable def qZe (v23 : List qsd) (v24 : Int) (v25 : Int) : Option (Int) := slots_Check_I.sem ⟨[.code (cIn (cIn (qaa (qGa (qaa (qaa (qda Tryz.prog 155))))))), .inLoop (cIn (cIn (qaa (qGa (qaa (qaa (qda Tryz.prog 155))))))), .inBlock 0, .code (qaa (qaa (qaa (qda Tryz.prog 155))))], ⟨[(23, (.one (.sl qfb false v23))), (24, (.one (.int .i64 v24))), (25, (.one (.int .i64 v25)))], [], 8⟩⟩
theorem qxx (a0 : qja) : qti a0 = (
if (decide (a0.1 < (0 : Int))) = true then
some (8 : Int)
else
if (decide (a0.1 > (7 : Int))) = true then
some (8 : Int)
else
(qIn a0.1).bind fun r1 =>
if ((Int.ofNat (List.length a0.2.1)) != r1) = true then
some (8 : Int)
else
qZe a0.2.1 (Int.ofNat (List.length a0.2.1)) (0 : Int)) := (FnI.call_eq (by kernel_rfl)).trans (by kernel_rfl)
theorem qzk (v23 : List qsd) (v24 : Int) (v25 : Int) : qZe v23 v24 v25 = (
if (decide (v25 < v24)) = true then
gd (0 ≤ v25) <|
gd (v25 < (Int.ofNat (List.length v23))) <|
(qtc (List.take 15 (List.drop 0 (List.getD v23 (Int.toNat v25) (qpa qfb)).2.1))).bind fun r2 =>
if (decide (r2 ≥ (193 : Int))) = true then
some (8 : Int)
else
qZe v23 v24 (IntKind.wrap .i64 (v25 + (1 : Int)))
else
some (0 : Int)) := (FnI.sem_eq _).trans (by kernel_rfl)
noncomputable def qdl (acc : List AV → Bool) : Summ Tryz.prog GT := slots_Check_I.summ mixed acc false false
noncomputable def hashes_Place_I : FnI Tryz.prog GT := { f := 173, cuts := [], tab := [], fm := ⟨true, [.val (.int .i64) [], .val (.int .i64) []]⟩ }
noncomputable def qth (a0 : Int) (a1 : Int) : Option (Int × Int) := hashes_Place_I.call [(.int .u32 a0), (.int .i64 a1)] []
theorem qow (a0 : Int) (a1 : Int) : qth a0 a1 = (
if (decide (a1 < (1 : Int))) = true then
some ((0 : Int), (2 : Int))
else
if (decide (a1 > (1048576 : Int))) = true then
some ((0 : Int), (2 : Int))
else
if ((qDa .i64 a1 (IntKind.wrap .i64 (a1 - (1 : Int)))) != (0 : Int)) = true then
some ((0 : Int), (2 : Int))
else
some ((qDa .i64 (IntKind.wrap .i64 a0) (IntKind.wrap .i64 (a1 - (1 : Int)))), (0 : Int))) := (FnI.call_eq (by kernel_rfl)).trans (by kernel_rfl)
noncomputable def qik (acc : List AV → Bool) : Summ Tryz.prog GT := hashes_Place_I.summ mixed acc false false
noncomputable def hashes_Check_I : FnI Tryz.prog GT := { f := 197, cuts := [], tab := [], fm := ⟨true, [.val (.int .u8) []]⟩ }
noncomputable def qNm (a0 : Int) : Option (Int) := hashes_Check_I.call [(.int .u32 a0)] []
theorem qpw (a0 : Int) : qNm a0 = (
gd (0 ≤ (24 : Int)) <|
some (IntKind.wrap .u8 (Int.fdiv a0 (16777216 : Int)))) := (FnI.call_eq (by kernel_rfl)).trans (by kernel_rfl)
noncomputable def qly (acc : List AV → Bool) : Summ Tryz.prog GT := hashes_Check_I.summ mixed acc false false
noncomputable def slices_Clone_api_Slot_api_Slot_I : FnI Tryz.prog GT := { f := 180, cuts := [], tab := [], fm := ⟨true, [.val (.slice qfb) [.nw]]⟩ }
noncomputable def qab (a0 : List qsd) : Option (List qsd) := slices_Clone_api_Slot_api_Slot_I.call [(.sl qfb false a0)] []
theorem qYf (a0 : List qsd) : qab a0 = (
qvF (fun (r1 : Bool) => r1 = true → a0 = []) fun (r1 : Bool) =>
if r1 = true then
some ([])
else
gd ((List.length ([] ++ a0)) * 16 ≤ 140737488355328) <|
some ([] ++ a0)) := (FnI.call_eq (by kernel_rfl)).trans (by kernel_rfl)
noncomputable def qEb (acc : List AV → Bool) : Summ Tryz.prog GT := slices_Clone_api_Slot_api_Slot_I.summ mixed acc false false
noncomputable def states_Size_I : FnI Tryz.prog GT := { f := 249, cuts := [], tab := [], fm := ⟨true, [.val (.int .i64) []]⟩ }
noncomputable def qJu : Option (Int) := states_Size_I.call [] []
theorem qtx : qJu = (
some (193 : Int)) := (FnI.call_eq (by kernel_rfl)).trans (by kernel_rfl)
noncomputable def qDz (acc : List AV → Bool) : Summ Tryz.prog GT := states_Size_I.summ mixed acc false false
noncomputable def states_Count_I : FnI Tryz.prog GT := { f := 242, cuts := [], tab := [qDz (fun _ => true)], fm := ⟨true, [.val qZa [], .val (.int .i64) []]⟩ }
noncomputable def qaj (a0 : Int) : Option (qTa × Int) := states_Count_I.call [(.int .u8 a0)] []
theorem qLu (a0 : Int) : qaj a0 = (
(qJu).bind fun r1 =>
if (decide ((IntKind.wrap .i64 a0) ≥ r1)) = true then
some (((0 : Int), ((0 : Int), ((0 : Int), ()))), (2 : Int))
else
if (a0 == (0 : Int)) = true then
some (((0 : Int), ((0 : Int), ((0 : Int), ()))), (0 : Int))
else
gd ((8 : Int) ≠ 0) <|
gd ((12 : Int) ≠ 0) <|
gd ((8 : Int) ≠ 0) <|
gd ((12 : Int) ≠ 0) <|
gd ((8 : Int) ≠ 0) <|
gd (0 ≤ (IntKind.wrap .i32 (Int.tdiv (IntKind.wrap .i32 (Int.tdiv (IntKind.wrap .i32 (IntKind.wrap .u8 (a0 - (1 : Int)))) (8 : Int))) (12 : Int)))) <|
gd ((IntKind.wrap .i32 (Int.tdiv (IntKind.wrap .i32 (Int.tdiv (IntKind.wrap .i32 (IntKind.wrap .u8 (a0 - (1 : Int)))) (8 : Int))) (12 : Int))) < (2 : Int)) <|
gd (0 ≤ (IntKind.wrap .i32 ((1 : Int) - (IntKind.wrap .i32 (Int.tdiv (IntKind.wrap .i32 (Int.tdiv (IntKind.wrap .i32 (IntKind.wrap .u8 (a0 - (1 : Int)))) (8 : Int))) (12 : Int)))))) <|
gd ((IntKind.wrap .i32 ((1 : Int) - (IntKind.wrap .i32 (Int.tdiv (IntKind.wrap .i32 (Int.tdiv (IntKind.wrap .i32 (IntKind.wrap .u8 (a0 - (1 : Int)))) (8 : Int))) (12 : Int))))) < (2 : Int)) <|
gd (0 ≤ (0 : Int)) <|
gd ((0 : Int) < (2 : Int)) <|
gd (0 ≤ (1 : Int)) <|
gd ((1 : Int) < (2 : Int)) <|
some (((List.getD (List.set (List.set (List.replicate 2 (0 : Int)) (Int.toNat (IntKind.wrap .i32 (Int.tdiv (IntKind.wrap .i32 (Int.tdiv (IntKind.wrap .i32 (IntKind.wrap .u8 (a0 - (1 : Int)))) (8 : Int))) (12 : Int)))) (IntKind.wrap .i32 ((Int.tmod (IntKind.wrap .i32 (Int.tdiv (IntKind.wrap .i32 (IntKind.wrap .u8 (a0 - (1 : Int)))) (8 : Int))) (12 : Int)) + (1 : Int)))) (Int.toNat (IntKind.wrap .i32 ((1 : Int) - (IntKind.wrap .i32 (Int.tdiv (IntKind.wrap .i32 (Int.tdiv (IntKind.wrap .i32 (IntKind.wrap .u8 (a0 - (1 : Int)))) (8 : Int))) (12 : Int)))))) (Int.tmod (IntKind.wrap .i32 (IntKind.wrap .u8 (a0 - (1 : Int)))) (8 : Int))) 0 (0 : Int)), ((List.getD (List.set (List.set (List.replicate 2 (0 : Int)) (Int.toNat (IntKind.wrap .i32 (Int.tdiv (IntKind.wrap .i32 (Int.tdiv (IntKind.wrap .i32 (IntKind.wrap .u8 (a0 - (1 : Int)))) (8 : Int))) (12 : Int)))) (IntKind.wrap .i32 ((Int.tmod (IntKind.wrap .i32 (Int.tdiv (IntKind.wrap .i32 (IntKind.wrap .u8 (a0 - (1 : Int)))) (8 : Int))) (12 : Int)) + (1 : Int)))) (Int.toNat (IntKind.wrap .i32 ((1 : Int) - (IntKind.wrap .i32 (Int.tdiv (IntKind.wrap .i32 (Int.tdiv (IntKind.wrap .i32 (IntKind.wrap .u8 (a0 - (1 : Int)))) (8 : Int))) (12 : Int)))))) (Int.tmod (IntKind.wrap .i32 (IntKind.wrap .u8 (a0 - (1 : Int)))) (8 : Int))) 1 (0 : Int)), ((IntKind.wrap .u8 (IntKind.wrap .i32 (Int.tdiv (IntKind.wrap .i32 (Int.tdiv (IntKind.wrap .i32 (IntKind.wrap .u8 (a0 - (1 : Int)))) (8 : Int))) (12 : Int)))), ()))), (0 : Int))) := (FnI.call_eq (by kernel_rfl)).trans (by kernel_rfl)
noncomputable def qCo (acc : List AV → Bool) : Summ Tryz.prog GT := states_Count_I.summ mixed acc false false
noncomputable def states_Total_I : FnI Tryz.prog GT := { f := 233, cuts := [], tab := [qCo (fun _ => true)], fm := ⟨true, [.val (.int .i32) [], .val (.int .i64) []]⟩ }
noncomputable def qkm (a0 : Int) : Option (Int × Int) := states_Total_I.call [(.int .u8 a0)] []
theorem qIu (a0 : Int) : qkm a0 = (
(qaj a0).bind fun r1 =>
some ((IntKind.wrap .i32 (r1.1.1 + r1.1.2.1)), r1.2)) := (FnI.call_eq (by kernel_rfl)).trans (by kernel_rfl)
noncomputable def qsx (acc : List AV → Bool) : Summ Tryz.prog GT := states_Total_I.summ mixed acc false false
noncomputable def slots_priority_I : FnI Tryz.prog GT := { f := 198, cuts := [], tab := [qsx (fun _ => true)], fm := ⟨true, [.val (.int .i32) []]⟩ }
noncomputable def qXg (a0 : qsd) : Option (Int) := slots_priority_I.call [(.agg qfb (inj false qfb a0))] []
theorem qKr (a0 : qsd) : qXg a0 = (
gd (0 ≤ (0 : Int)) <|
gd ((0 : Int) < (15 : Int)) <|
(qkm (List.getD a0.2.1 0 (0 : Int))).bind fun r1 =>
some (r1.1)) := (FnI.call_eq (by kernel_rfl)).trans (by kernel_rfl)
noncomputable def qAt (acc : List AV → Bool) : Summ Tryz.prog GT := slots_priority_I.summ mixed acc false false
noncomputable def slots_Find_I : FnI Tryz.prog GT := { f := 153, cuts := [], tab := [qdl (fun _ => true), qik (fun _ => true), qly (fun _ => true), qEb (fun _ => true), qAt (fun _ => true)], fm := ⟨true, [.val qwa [], .val (.int .i64) [], .val (.int .i64) []]⟩ }
noncomputable def qLr (a0 : qja) (a1 : Int) : Option (qja × Int × Int) := slots_Find_I.call [(.agg qwa (inj false qwa a0)), (.int .u32 a1)] []
theorem qLz (a0 : qja) (a1 : Int) : qLr a0 a1 = (
(qti a0).bind fun r1 =>
if (r1 != (0 : Int)) = true then
some (((0 : Int), ([], ())), ((0 : Int), r1))
else
(qth a1 (Int.ofNat (List.length a0.2.1))).bind fun r2 =>
if (r2.2 != (0 : Int)) = true then
some (((0 : Int), ([], ())), ((0 : Int), r2.2))
else
(qNm a1).bind fun r3 =>
(qab a0.2.1).bind fun r4 =>
gd (0 ≤ r2.1) <|
gd (r2.1 < (Int.ofNat (List.length a0.2.1))) <|
if ((List.getD a0.2.1 (Int.toNat r2.1) (qpa qfb)).1 == r3) = true then
some ((a0.1, (r4, ())), (r2.1, (0 : Int)))
else
gd (0 ≤ (qNa .i64 r2.1 (1 : Int))) <|
gd ((qNa .i64 r2.1 (1 : Int)) < (Int.ofNat (List.length a0.2.1))) <|
if ((List.getD a0.2.1 (Int.toNat (qNa .i64 r2.1 (1 : Int))) (qpa qfb)).1 == r3) = true then
some ((a0.1, (r4, ())), ((qNa .i64 r2.1 (1 : Int)), (0 : Int)))
else
gd (0 ≤ (qNa .i64 r2.1 (1 : Int))) <|
gd ((qNa .i64 r2.1 (1 : Int)) < (Int.ofNat (List.length a0.2.1))) <|
(qXg (List.getD a0.2.1 (Int.toNat (qNa .i64 r2.1 (1 : Int))) (qpa qfb))).bind fun r5 =>
gd (0 ≤ r2.1) <|
gd (r2.1 < (Int.ofNat (List.length a0.2.1))) <|
(qXg (List.getD a0.2.1 (Int.toNat r2.1) (qpa qfb))).bind fun r6 =>
if (decide (r5 < r6)) = true then
gd (0 ≤ (qNa .i64 r2.1 (1 : Int))) <|
gd ((qNa .i64 r2.1 (1 : Int)) < (Int.ofNat (List.length r4))) <|
some ((a0.1, ((List.set r4 (0 + (Int.toNat (qNa .i64 r2.1 (1 : Int)))) (r3, ((List.replicate 15 (0 : Int)), ()))), ())), ((qNa .i64 r2.1 (1 : Int)), (0 : Int)))
else
gd (0 ≤ r2.1) <|
gd (r2.1 < (Int.ofNat (List.length r4))) <|
some ((a0.1, ((List.set r4 (0 + (Int.toNat r2.1)) (r3, ((List.replicate 15 (0 : Int)), ()))), ())), (r2.1, (0 : Int)))) := (FnI.call_eq (by kernel_rfl)).trans (by kernel_rfl)
noncomputable def qNB (acc : List AV → Bool) : Summ Tryz.prog GT := slots_Find_I.summ mixed acc false false
noncomputable def predict_find_v2_I : FnI Tryz.prog GT := { f := 121, cuts := [⟨(2, 2), [0, 6, 7], false, false, []⟩], tab := [qNB (fun _ => true)], fm := ⟨false, [.box 0 qea [.pu, (.kp 1), (.kp 2), .pu, .pu, .pu, .pu], .row 1 qwa, .row 2 qna]⟩ }
noncomputable def qpe (a1 : (List Int)) (b0a : Int) (b0ba : qla) (b0bbbb : (qqa × (qIa × (qAa × (qma × (qka × ((List Int) × ((List Int) × Unit)))))))) (h1 : List qja) (h2 : List qia) : Option (qca × List qja × List qia) := predict_find_v2_I.call [(.ptr qea 0 []), (.agg (.arr 6 (.int .u32)) a1)] [(0, (.box qea (b0a, ((inj false qva b0ba), ((SV.ref 1 0 (List.length h1) true), ((SV.ref 2 0 (List.length h2) true), (inj false (.pair qsa (.pair qpb (.pair qSa (.pair qua (.pair qBa (.pair (.arr 6 (.int .u32)) (.pair (.arr 6 (.int .i64)) .unit))))))) b0bbbb))))))), (1, (.row qwa false h1)), (2, (.row qna false h2))]
noncomputable def qJc (v6 : (List Int)) (v7 : Int) (b0a : Int) (b0ba : qla) (b0bbbb : (qqa × (qIa × (qAa × (qma × (qka × ((List Int) × ((List Int) × Unit)))))))) (h1 : List qja) (h2 : List qia) : Option (qca × List qja × List qia) := predict_find_v2_I.sem ⟨[.code (cIn (cIn (qaa (qaa (qda Tryz.prog 121))))), .inLoop (cIn (cIn (qaa (qaa (qda Tryz.prog 121))))), .inBlock 0], ⟨[(0, (.one (.ptr qea 0 []))), (6, (.one (.agg (.arr 6 (.int .u32)) v6))), (7, (.one (.int .i64 v7)))], [(0, some (.box qea (b0a, ((inj false qva b0ba), ((SV.ref 1 0 (List.length h1) true), ((SV.ref 2 0 (List.length h2) true), (inj false (.pair qsa (.pair qpb (.pair qSa (.pair qua (.pair qBa (.pair (.arr 6 (.int .u32)) (.pair (.arr 6 (.int .i64)) .unit))))))) b0bbbb))))))), (1, some (.row qwa false h1)), (2, some (.row qna false h2))], 11⟩⟩
theorem qFq (a1 : (List Int)) (b0a : Int) (b0ba : qla) (b0bbbb : (qqa × (qIa × (qAa × (qma × (qka × ((List Int) × ((List Int) × Unit)))))))) (h1 : List qja) (h2 : List qia) : qpe a1 b0a b0ba b0bbbb h1 h2 = (
qJc a1 (0 : Int) b0a b0ba b0bbbb h1 h2) := (FnI.call_eq (by kernel_rfl)).trans (by kernel_rfl)
theorem qph (v6 : (List Int)) (v7 : Int) (b0a : Int) (b0ba : qla) (b0bbbb : (qqa × (qIa × (qAa × (qma × (qka × ((List Int) × ((List Int) × Unit)))))))) (h1 : List qja) (h2 : List qia) : qJc v6 v7 b0a b0ba b0bbbb h1 h2 = (
if (decide (v7 < (6 : Int))) = true then
gd (0 ≤ v7) <|
gd (v7 < (6 : Int)) <|
gd (0 ≤ v7) <|
gd (v7 < (Int.ofNat (List.length h1))) <|
(qLr (List.getD h1 (0 + (Int.toNat v7)) (qpa qwa)) (List.getD v6 (Int.toNat v7) (0 : Int))).bind fun r1 =>
gd (0 ≤ v7) <|
gd (v7 < (Int.ofNat (List.length h1))) <|
gd (0 ≤ v7) <|
gd (v7 < (6 : Int)) <|
qJc v6 (IntKind.wrap .i64 (v7 + (1 : Int))) b0a b0ba (b0bbbb.1, (b0bbbb.2.1, (b0bbbb.2.2.1, (b0bbbb.2.2.2.1, (b0bbbb.2.2.2.2.1, (b0bbbb.2.2.2.2.2.1, ((List.set b0bbbb.2.2.2.2.2.2.1 (Int.toNat v7) r1.2.1), b0bbbb.2.2.2.2.2.2.2))))))) (List.set h1 (0 + (Int.toNat v7)) r1.1) h2
else
some ((b0a, (b0ba, (h1, (h2, b0bbbb)))), (h1, h2))) := (FnI.sem_eq _).trans (by kernel_rfl)
noncomputable def qDk (acc : List AV → Bool) : Summ Tryz.prog GT := predict_find_v2_I.summ mixed acc true false
noncomputable def predict_New_I : FnI Tryz.prog GT := { f := 94, cuts := [⟨(8, 3), [0, 2, 4, 6, 36], false, false, []⟩], tab := [qSG (fun _ => true), qTE (fun _ => true), qIp (fun _ => true), qgt (fun _ => true), qKC (fun _ => true), qzE (fun _ => true), qZD (fun _ => true), qAF (fun _ => true), qbn (fun _ => true), (qDk (fun _ => true)).dropping], fm := ⟨false, [.val qea [], .val (.int .i64) []]⟩ }
noncomputable def qyp (a0 : Int) : Option (qca × Int) := predict_New_I.call [(.int .i64 a0)] []
noncomputable def qbf (v0 : Int) (v36 : Int) (b8a : Int) (b8baa : Int) (b8babb : qka) (b8bbbbab : Unit) (b8bbbbbaab : Unit) (b8bbbbbabab : Unit) (b8bbbbbabb : Unit) (b8bbbbbbaa : Int) (b8bbbbbbabb : Unit) (b8bbbbbbb : (qma × (qka × ((List Int) × ((List Int) × Unit))))) (b9 : qla) (b10a : Int) (b10ba : qla) (b10bbbb : (qqa × (qIa × (qAa × (qma × (qka × ((List Int) × ((List Int) × Unit)))))))) (h11 : List Int) (h12 : List qja) (h13 : List qia) (h14 : List (List Int)) (h15 : List (List Int)) (h16 : List (List Int)) (h17 : List Int) (h18 : List qja) (h19 : List qia) : Option (qca × Int) := predict_New_I.sem ⟨[.code (cIn (cIn (qaa (qGa (qaa (qaa (qaa (qaa (qaa (qaa (qda Tryz.prog 94))))))))))), .inLoop (cIn (cIn (qaa (qGa (qaa (qaa (qaa (qaa (qaa (qaa (qda Tryz.prog 94))))))))))), .inBlock 0, .code (qaa (qaa (qaa (qaa (qaa (qaa (qaa (qda Tryz.prog 94))))))))], ⟨[(0, (.one (.int .i64 v0))), (2, (.one (.ptr qea 8 []))), (4, (.one (.ptr qva 9 []))), (6, (.one (.ptr qea 10 []))), (36, (.one (.int .i64 v36)))], [(8, some (.box qea (b8a, ((b8baa, ((SV.ref 11 0 (List.length h11) true), (inj false qBa b8babb))), ((SV.ref 12 0 (List.length h12) true), ((SV.ref 13 0 (List.length h13) true), (((SV.ref 14 0 (List.length h14) true), b8bbbbab), ((((SV.ref 15 0 (List.length h15) true), b8bbbbbaab), (((SV.ref 16 0 (List.length h16) true), b8bbbbbabab), b8bbbbbabb)), ((b8bbbbbbaa, ((SV.ref 17 0 (List.length h17) true), b8bbbbbbabb)), (inj false (.pair qua (.pair qBa (.pair (.arr 6 (.int .u32)) (.pair (.arr 6 (.int .i64)) .unit)))) b8bbbbbbb)))))))))), (9, some (.box qva (inj true qva b9))), (10, some (.box qea (b10a, ((inj true qva b10ba), ((SV.ref 18 0 (List.length h18) true), ((SV.ref 19 0 (List.length h19) true), (inj true (.pair qsa (.pair qpb (.pair qSa (.pair qua (.pair qBa (.pair (.arr 6 (.int .u32)) (.pair (.arr 6 (.int .i64)) .unit))))))) b10bbbb))))))), (11, some (.row (.int .u8) true h11)), (12, some (.row qwa true h12)), (13, some (.row qna true h13)), (14, some (.row (.slice (.int .i32)) true h14)), (15, some (.row (.slice (.int .i32)) true h15)), (16, some (.row (.slice (.int .i32)) true h16)), (17, some (.row (.int .i64) true h17)), (18, some (.row qwa true h18)), (19, some (.row qna true h19))], 20⟩⟩
theorem qIx (a0 : Int) : qyp a0 = (
(qRz a0).bind fun r1 =>
if (r1.2 != (0 : Int)) = true then
some (((0 : Int), (((0 : Int), ([], ((0 : Int), ()))), ([], ([], (([], ()), ((([], ()), (([], ()), ())), (((0 : Int), ([], ())), (((0 : Int), ((0 : Int), ())), (((0 : Int), ()), ((List.replicate 6 (0 : Int)), ((List.replicate 6 (0 : Int)), ()))))))))))), (2 : Int))
else
(qBw).bind fun r2 =>
(qbr).bind fun r3 =>
(qds).bind fun r4 =>
(qos a0).bind fun r5 =>
(qNv (256 : Int) (16384 : Int)).bind fun r6 =>
qbf a0 (0 : Int) (0 : Int) (0 : Int) ((0 : Int), ()) () () () () (0 : Int) () (((0 : Int), ((0 : Int), ())), (((0 : Int), ()), ((List.replicate 6 (0 : Int)), ((List.replicate 6 (0 : Int)), ())))) r1.1 a0 r1.1 (r6.1, (r2, (r5.1, (r3, (r4, ((List.replicate 6 (0 : Int)), ((List.replicate 6 (0 : Int)), ()))))))) [] [] [] [] [] [] [] [] []) := (FnI.call_eq (by kernel_rfl)).trans (by kernel_rfl)
theorem qEk (v0 : Int) (v36 : Int) (b8a : Int) (b8baa : Int) (b8babb : qka) (b8bbbbab : Unit) (b8bbbbbaab : Unit) (b8bbbbbabab : Unit) (b8bbbbbabb : Unit) (b8bbbbbbaa : Int) (b8bbbbbbabb : Unit) (b8bbbbbbb : (qma × (qka × ((List Int) × ((List Int) × Unit))))) (b9 : qla) (b10a : Int) (b10ba : qla) (b10bbbb : (qqa × (qIa × (qAa × (qma × (qka × ((List Int) × ((List Int) × Unit)))))))) (h11 : List Int) (h12 : List qja) (h13 : List qia) (h14 : List (List Int)) (h15 : List (List Int)) (h16 : List (List Int)) (h17 : List Int) (h18 : List qja) (h19 : List qia) : qbf v0 v36 b8a b8baa b8babb b8bbbbab b8bbbbbaab b8bbbbbabab b8bbbbbabb b8bbbbbbaa b8bbbbbbabb b8bbbbbbb b9 b10a b10ba b10bbbb h11 h12 h13 h14 h15 h16 h17 h18 h19 = (
if (decide (v36 < (6 : Int))) = true then
(qOu v0).bind fun r7 =>
(qlx (255 : Int)).bind fun r8 =>
gd ((List.length (h18 ++ [r7.1])) * 32 ≤ 140737488355328) <|
gd ((List.length (h19 ++ [r8.1])) * 56 ≤ 140737488355328) <|
qbf v0 (IntKind.wrap .i64 (v36 + (1 : Int))) b8a b8baa b8babb b8bbbbab b8bbbbbaab b8bbbbbabab b8bbbbbabb b8bbbbbbaa b8bbbbbbabb b8bbbbbbb b9 b10a b10ba b10bbbb h11 h12 h13 h14 h15 h16 h17 (h18 ++ [r7.1]) (h19 ++ [r8.1])
else
(qLe b9).bind fun r9 =>
(qpe r9.1 b10a b10ba (b10bbbb.1, (b10bbbb.2.1, (b10bbbb.2.2.1, (b10bbbb.2.2.2.1, (b10bbbb.2.2.2.2.1, (r9.1, b10bbbb.2.2.2.2.2.2)))))) h18 h19).bind fun r10 =>
some ((r10.1.1, (r10.1.2.1, (r10.2.1, (r10.2.2, r10.1.2.2.2.2)))), (0 : Int))) := (FnI.sem_eq _).trans (by kernel_rfl)
noncomputable def qaA (acc : List AV → Bool) : Summ Tryz.prog GT := predict_New_I.summ mixed acc false false
noncomputable def codec_start_I : FnI Tryz.prog GT := { f := 71, cuts := [], tab := [(qaA (fun _ => true)).dropping], fm := ⟨false, [.val qea [], .val (.int .i64) []]⟩ }
noncomputable def qWp (a0 : Int) (a1 : Int) : Option (qca × Int) := codec_start_I.call [(.int .i64 a0), (.int .i64 a1)] []
theorem qgp (a0 : Int) (a1 : Int) : qWp a0 a1 = (
(qyp a0).bind fun r1 =>
if (r1.2 == (0 : Int)) = true then
if (decide (a1 > (4096 : Int))) = true then
some (r1.1, (4 : Int))
else
some (r1)
else
some (r1)) := (FnI.call_eq (by kernel_rfl)).trans (by kernel_rfl)
noncomputable def qnr (acc : List AV → Bool) : Summ Tryz.prog GT := codec_start_I.summ mixed acc false false
noncomputable def slices_Clone_byte_byte_I : FnI Tryz.prog GT := { f := 96, cuts := [], tab := [], fm := ⟨true, [.val (.slice (.int .u8)) [.nw]]⟩ }
noncomputable def qcb (a0 : List Int) : Option (List Int) := slices_Clone_byte_byte_I.call [(.sl (.int .u8) false a0)] []
theorem qak (a0 : List Int) : qcb a0 = (
qvF (fun (r1 : Bool) => r1 = true → a0 = []) fun (r1 : Bool) =>
if r1 = true then
some ([])
else
gd ((List.length ([] ++ a0)) * 1 ≤ 140737488355328) <|
some ([] ++ a0)) := (FnI.call_eq (by kernel_rfl)).trans (by kernel_rfl)
noncomputable def qsb (acc : List AV → Bool) : Summ Tryz.prog GT := slices_Clone_byte_byte_I.summ mixed acc false false
noncomputable def decoder_at_I : FnI Tryz.prog GT := { f := 122, cuts := [], tab := [], fm := ⟨true, [.val (.int .u8) []]⟩ }
noncomputable def qWn (a0 : List Int) (a1 : Int) : Option (Int) := decoder_at_I.call [(.sl (.int .u8) false a0), (.int .i64 a1)] []
theorem qfB (a0 : List Int) (a1 : Int) : qWn a0 a1 = (
if (decide (a1 < (Int.ofNat (List.length a0)))) = true then
gd (0 ≤ a1) <|
gd (a1 < (Int.ofNat (List.length a0))) <|
some (List.getD a0 (Int.toNat a1) (0 : Int))
else
some (0 : Int)) := (FnI.call_eq (by kernel_rfl)).trans (by kernel_rfl)
noncomputable def qot (acc : List AV → Bool) : Summ Tryz.prog GT := decoder_at_I.summ mixed acc false false
noncomputable def decoder_start_I : FnI Tryz.prog GT := { f := 95, cuts := [⟨(2, 3), [0, 2, 3], false, false, []⟩], tab := [qot (fun _ => true)], fm := ⟨false, [.val qEa []]⟩ }
noncomputable def qlr (a0 : List Int) : Option (qCa) := decoder_start_I.call [(.sl (.int .u8) false a0)] []
noncomputable def qGd (v0 : List Int) (b8a : Int) (b8ba : Int) (b8bba : Int) (b8bbbb : qka) (b9 : qCa) (h10 : List Int) : Option (qCa) := decoder_start_I.sem ⟨[.code (cIn (cIn (qGa (qaa (qaa (qda Tryz.prog 95)))))), .inLoop (cIn (cIn (qGa (qaa (qaa (qda Tryz.prog 95)))))), .inBlock 0, .code (qaa (qaa (qaa (qda Tryz.prog 95))))], ⟨[(0, (.one (.sl (.int .u8) false v0))), (2, (.one (.ptr qEa 8 []))), (3, (.one (.ptr qEa 9 [])))], [(8, some (.box qEa (b8a, (b8ba, (b8bba, ((SV.ref 10 0 (List.length h10) true), (inj false qBa b8bbbb))))))), (9, some (.box qEa (inj false qEa b9))), (10, some (.row (.int .u8) true h10))], 11⟩⟩
theorem qZt (a0 : List Int) : qlr a0 = (
qGd a0 (0 : Int) (0 : Int) (0 : Int) ((0 : Int), ()) ((0 : Int), ((4294967295 : Int), ((0 : Int), (a0, ((0 : Int), ()))))) []) := (FnI.call_eq (by kernel_rfl)).trans (by kernel_rfl)
theorem qLi (v0 : List Int) (b8a : Int) (b8ba : Int) (b8bba : Int) (b8bbbb : qka) (b9 : qCa) (h10 : List Int) : qGd v0 b8a b8ba b8bba b8bbbb b9 h10 = (
if (decide (b9.2.2.2.2.1 < (4 : Int))) = true then
gd (0 ≤ (8 : Int)) <|
(qWn v0 b9.2.2.2.2.1).bind fun r1 =>
qGd v0 b8a b8ba b8bba b8bbbb (b9.1, (b9.2.1, ((qFb .u32 (IntKind.wrap .u32 (b9.2.2.1 * (256 : Int))) (IntKind.wrap .u32 r1)), (b9.2.2.2.1, ((IntKind.wrap .i64 (b9.2.2.2.2.1 + (1 : Int))), b9.2.2.2.2.2))))) h10
else
some (b9)) := (FnI.sem_eq _).trans (by kernel_rfl)
noncomputable def qMw (acc : List AV → Bool) : Summ Tryz.prog GT := decoder_start_I.summ mixed acc false false
noncomputable def decoder_New_I : FnI Tryz.prog GT := { f := 72, cuts := [], tab := [qsb (fun _ => true), (qMw (fun _ => true)).dropping], fm := ⟨false, [.val qEa [], .val (.int .i64) []]⟩ }
noncomputable def qTp (a0 : List Int) : Option (qCa × Int) := decoder_New_I.call [(.sl (.int .u8) false a0)] []
theorem qfp (a0 : List Int) : qTp a0 = (
if (decide ((Int.ofNat (List.length a0)) > (20000 : Int))) = true then
some (((0 : Int), ((0 : Int), ((0 : Int), ([], ((0 : Int), ()))))), (4 : Int))
else
(qcb a0).bind fun r1 =>
(qlr r1).bind fun r2 =>
some (r2, (0 : Int))) := (FnI.call_eq (by kernel_rfl)).trans (by kernel_rfl)
noncomputable def qgB (acc : List AV → Bool) : Summ Tryz.prog GT := decoder_New_I.summ mixed acc false false
noncomputable def finder_Check_1_I : FnI Tryz.prog GT := { f := 200, cuts := [], tab := [], fm := ⟨true, [.val .bool []]⟩ }
noncomputable def qcp (a0 : Int) : Option (Bool) := finder_Check_1_I.call [(.int .i64 a0)] []
theorem qps (a0 : Int) : qcp a0 = (
if (decide (a0 < (-1 : Int))) = true then
some (true)
else
some (decide (a0 > (1073741824 : Int)))) := (FnI.call_eq (by kernel_rfl)).trans (by kernel_rfl)
noncomputable def qUt (acc : List AV → Bool) : Summ Tryz.prog GT := finder_Check_1_I.summ mixed acc false false
noncomputable def slices_IndexFunc_int_int_I : FnI Tryz.prog GT := { f := 234, cuts := [⟨(2, 3), [0, 1, 7, 8], false, false, []⟩], tab := [qUt (fun _ => true)], fm := ⟨true, [.val (.int .i64) []]⟩ }
noncomputable def qAf (a0 : List Int) : Option (Int) := slices_IndexFunc_int_int_I.call [(.sl (.int .i64) false a0), (.func 200 [])] []
noncomputable def qgb (v0 : List Int) (v7 : Int) (v8 : Int) : Option (Int) := slices_IndexFunc_int_int_I.sem ⟨[.code (cIn (cIn (qaa (qGa (qaa (qda Tryz.prog 234)))))), .inLoop (cIn (cIn (qaa (qGa (qaa (qda Tryz.prog 234)))))), .inBlock 0, .code (qaa (qaa (qda Tryz.prog 234)))], ⟨[(0, (.one (.sl (.int .i64) false v0))), (1, (.one (.func 200 []))), (7, (.one (.int .i64 v7))), (8, (.one (.int .i64 v8)))], [], 8⟩⟩
theorem qui (a0 : List Int) : qAf a0 = (
qgb a0 (Int.ofNat (List.length a0)) (0 : Int)) := (FnI.call_eq (by kernel_rfl)).trans (by kernel_rfl)
theorem qud (v0 : List Int) (v7 : Int) (v8 : Int) : qgb v0 v7 v8 = (
if (decide (v8 < v7)) = true then
gd (0 ≤ v8) <|
gd (v8 < (Int.ofNat (List.length v0))) <|
(qcp (List.getD v0 (Int.toNat v8) (0 : Int))).bind fun r1 =>
if r1 = true then
some (v8)
else
qgb v0 v7 (IntKind.wrap .i64 (v8 + (1 : Int)))
else
some (-1 : Int)) := (FnI.sem_eq _).trans (by kernel_rfl)
noncomputable def qWi (acc : List AV → Bool) : Summ Tryz.prog GT := slices_IndexFunc_int_int_I.summ mixed acc false false
noncomputable def slices_ContainsFunc_int_int_I : FnI Tryz.prog GT := { f := 199, cuts := [], tab := [qWi (fun _ => true)], fm := ⟨true, [.val .bool []]⟩ }
noncomputable def qoc (a0 : List Int) : Option (Bool) := slices_ContainsFunc_int_int_I.call [(.sl (.int .i64) false a0), (.func 200 [])] []
theorem qih (a0 : List Int) : qoc a0 = (
(qAf a0).bind fun r1 =>
some (decide (r1 ≥ (0 : Int)))) := (FnI.call_eq (by kernel_rfl)).trans (by kernel_rfl)
noncomputable def qIh (acc : List AV → Bool) : Summ Tryz.prog GT := slices_ContainsFunc_int_int_I.summ mixed acc false false
noncomputable def finder_Check_I : FnI Tryz.prog GT := { f := 154, cuts := [], tab := [qRm (fun _ => true), qIh (fun _ => true)], fm := ⟨true, [.val (.int .i64) []]⟩ }
noncomputable def qvh (a0 : qAa) : Option (Int) := finder_Check_I.call [(.agg qSa (inj false qSa a0))] []
theorem qAw (a0 : qAa) : qvh a0 = (
if (decide (a0.1 < (0 : Int))) = true then
some (8 : Int)
else
if (decide (a0.1 > (7 : Int))) = true then
some (8 : Int)
else
(qfi a0.1).bind fun r1 =>
if ((Int.ofNat (List.length a0.2.1)) != r1) = true then
some (8 : Int)
else
(qoc a0.2.1).bind fun r2 =>
if r2 = true then
some (8 : Int)
else
some (0 : Int)) := (FnI.call_eq (by kernel_rfl)).trans (by kernel_rfl)
noncomputable def qkk (acc : List AV → Bool) : Summ Tryz.prog GT := finder_Check_I.summ mixed acc false false
noncomputable def slices_Min_int32_int32_I : FnI Tryz.prog GT := { f := 205, cuts := [⟨(5, 3), [0, 3, 4], false, false, []⟩], tab := [], fm := ⟨true, [.val (.int .i32) []]⟩ }
noncomputable def qsc (a0 : List Int) : Option (Int) := slices_Min_int32_int32_I.call [(.sl (.int .i32) false a0)] []
noncomputable def qjb (v0 : List Int) (v3 : Int) (v4 : Int) : Option (Int) := slices_Min_int32_int32_I.sem ⟨[.code (cIn (cIn (qaa (qGa (qaa (qaa (qaa (qda Tryz.prog 205)))))))), .inLoop (cIn (cIn (qaa (qGa (qaa (qaa (qaa (qda Tryz.prog 205)))))))), .inBlock 0, .code (qaa (qaa (qaa (qaa (qda Tryz.prog 205)))))], ⟨[(0, (.one (.sl (.int .i32) false v0))), (3, (.one (.int .i32 v3))), (4, (.one (.int .i64 v4)))], [], 8⟩⟩
theorem qWj (a0 : List Int) : qsc a0 = (
if (decide ((Int.ofNat (List.length a0)) < (1 : Int))) = true then
none
else
gd (0 ≤ (0 : Int)) <|
gd ((0 : Int) < (Int.ofNat (List.length a0))) <|
qjb a0 (List.getD a0 0 (0 : Int)) (1 : Int)) := (FnI.call_eq (by kernel_rfl)).trans (by kernel_rfl)
theorem qMd (v0 : List Int) (v3 : Int) (v4 : Int) : qjb v0 v3 v4 = (
if (decide (v4 < (Int.ofNat (List.length v0)))) = true then
gd (0 ≤ v4) <|
gd (v4 < (Int.ofNat (List.length v0))) <|
qjb v0 (if (List.getD v0 (Int.toNat v4) (0 : Int)) < v3 then (List.getD v0 (Int.toNat v4) (0 : Int)) else v3) (IntKind.wrap .i64 (v4 + (1 : Int)))
else
some (v3)) := (FnI.sem_eq _).trans (by kernel_rfl)
noncomputable def qxf (acc : List AV → Bool) : Summ Tryz.prog GT := slices_Min_int32_int32_I.summ mixed acc false false
noncomputable def slices_Max_int32_int32_I : FnI Tryz.prog GT := { f := 206, cuts := [⟨(5, 3), [0, 3, 4], false, false, []⟩], tab := [], fm := ⟨true, [.val (.int .i32) []]⟩ }
noncomputable def quc (a0 : List Int) : Option (Int) := slices_Max_int32_int32_I.call [(.sl (.int .i32) false a0)] []
noncomputable def qlb (v0 : List Int) (v3 : Int) (v4 : Int) : Option (Int) := slices_Max_int32_int32_I.sem ⟨[.code (cIn (cIn (qaa (qGa (qaa (qaa (qaa (qda Tryz.prog 206)))))))), .inLoop (cIn (cIn (qaa (qGa (qaa (qaa (qaa (qda Tryz.prog 206)))))))), .inBlock 0, .code (qaa (qaa (qaa (qaa (qda Tryz.prog 206)))))], ⟨[(0, (.one (.sl (.int .i32) false v0))), (3, (.one (.int .i32 v3))), (4, (.one (.int .i64 v4)))], [], 8⟩⟩
theorem qYj (a0 : List Int) : quc a0 = (
if (decide ((Int.ofNat (List.length a0)) < (1 : Int))) = true then
none
else
gd (0 ≤ (0 : Int)) <|
gd ((0 : Int) < (Int.ofNat (List.length a0))) <|
qlb a0 (List.getD a0 0 (0 : Int)) (1 : Int)) := (FnI.call_eq (by kernel_rfl)).trans (by kernel_rfl)
theorem qOd (v0 : List Int) (v3 : Int) (v4 : Int) : qlb v0 v3 v4 = (
if (decide (v4 < (Int.ofNat (List.length v0)))) = true then
gd (0 ≤ v4) <|
gd (v4 < (Int.ofNat (List.length v0))) <|
qlb v0 (if (List.getD v0 (Int.toNat v4) (0 : Int)) > v3 then (List.getD v0 (Int.toNat v4) (0 : Int)) else v3) (IntKind.wrap .i64 (v4 + (1 : Int)))
else
some (v3)) := (FnI.sem_eq _).trans (by kernel_rfl)
noncomputable def qzf (acc : List AV → Bool) : Summ Tryz.prog GT := slices_Max_int32_int32_I.summ mixed acc false false
noncomputable def adapt_outside_I : FnI Tryz.prog GT := { f := 202, cuts := [], tab := [qxf (fun _ => true), qzf (fun _ => true)], fm := ⟨true, [.val .bool []]⟩ }
noncomputable def qoi (a0 : List Int) (a1 : Int) : Option (Bool) := adapt_outside_I.call [(.sl (.int .i32) false a0), (.int .i32 a1)] []
theorem qgu (a0 : List Int) (a1 : Int) : qoi a0 a1 = (
if ((Int.ofNat (List.length a0)) != (193 : Int)) = true then
some (true)
else
(qsc a0).bind fun r1 =>
if (decide (r1 < (0 : Int))) = true then
some (true)
else
(quc a0).bind fun r2 =>
some (decide (r2 > a1))) := (FnI.call_eq (by kernel_rfl)).trans (by kernel_rfl)
noncomputable def qix (acc : List AV → Bool) : Summ Tryz.prog GT := adapt_outside_I.summ mixed acc false false
noncomputable def adapt_Check_I : FnI Tryz.prog GT := { f := 157, cuts := [], tab := [qix (fun _ => true)], fm := ⟨true, [.val (.int .i64) []]⟩ }
noncomputable def qIl (a0 : qia) : Option (Int) := adapt_Check_I.call [(.agg qna (inj false qna a0))] []
theorem qVy (a0 : qia) : qIl a0 = (
if (decide (a0.1 < (1 : Int))) = true then
some (8 : Int)
else
if (decide (a0.1 > (1000 : Int))) = true then
some (8 : Int)
else
gd (0 ≤ (1 : Int)) <|
gd ((1 : Int) < (2 : Int)) <|
(qoi a0.2.1 (List.getD G_targets 1 (0 : Int))).bind fun r1 =>
if r1 = true then
some (8 : Int)
else
(qoi a0.2.2.1 a0.1).bind fun r2 =>
if r2 = true then
some (8 : Int)
else
some (0 : Int)) := (FnI.call_eq (by kernel_rfl)).trans (by kernel_rfl)
noncomputable def qAr (acc : List AV → Bool) : Summ Tryz.prog GT := adapt_Check_I.summ mixed acc false false
noncomputable def predict_parts_1_I : FnI Tryz.prog GT := { f := 156, cuts := [], tab := [qAr (fun _ => true)], fm := ⟨true, [.val .bool []]⟩ }
noncomputable def qvm (a0 : qia) : Option (Bool) := predict_parts_1_I.call [(.agg qna (inj false qna a0))] []
theorem qEq (a0 : qia) : qvm a0 = (
(qIl a0).bind fun r1 =>
if (r1 != (0 : Int)) = true then
some (true)
else
some (a0.1 != (255 : Int))) := (FnI.call_eq (by kernel_rfl)).trans (by kernel_rfl)
noncomputable def qXr (acc : List AV → Bool) : Summ Tryz.prog GT := predict_parts_1_I.summ mixed acc false false
noncomputable def slices_IndexFunc_api_Adapt_api_Adapt_I : FnI Tryz.prog GT := { f := 203, cuts := [⟨(2, 3), [0, 1, 7, 8], false, false, []⟩], tab := [qXr (fun _ => true)], fm := ⟨true, [.val (.int .i64) []]⟩ }
noncomputable def qkc (a0 : List qia) : Option (Int) := slices_IndexFunc_api_Adapt_api_Adapt_I.call [(.sl qna false a0), (.func 156 [])] []
noncomputable def qLa (v0 : List qia) (v7 : Int) (v8 : Int) : Option (Int) := slices_IndexFunc_api_Adapt_api_Adapt_I.sem ⟨[.code (cIn (cIn (qaa (qGa (qaa (qda Tryz.prog 203)))))), .inLoop (cIn (cIn (qaa (qGa (qaa (qda Tryz.prog 203)))))), .inBlock 0, .code (qaa (qaa (qda Tryz.prog 203)))], ⟨[(0, (.one (.sl qna false v0))), (1, (.one (.func 156 []))), (7, (.one (.int .i64 v7))), (8, (.one (.int .i64 v8)))], [], 8⟩⟩
theorem qie (a0 : List qia) : qkc a0 = (
qLa a0 (Int.ofNat (List.length a0)) (0 : Int)) := (FnI.call_eq (by kernel_rfl)).trans (by kernel_rfl)
theorem qCb (v0 : List qia) (v7 : Int) (v8 : Int) : qLa v0 v7 v8 = (
if (decide (v8 < v7)) = true then
gd (0 ≤ v8) <|
gd (v8 < (Int.ofNat (List.length v0))) <|
(qvm (List.getD v0 (Int.toNat v8) (qpa qna))).bind fun r1 =>
if r1 = true then
some (v8)
else
qLa v0 v7 (IntKind.wrap .i64 (v8 + (1 : Int)))
else
some (-1 : Int)) := (FnI.sem_eq _).trans (by kernel_rfl)
noncomputable def qGe (acc : List AV → Bool) : Summ Tryz.prog GT := slices_IndexFunc_api_Adapt_api_Adapt_I.summ mixed acc false false
noncomputable def slices_ContainsFunc_api_Adapt_api_Adapt_I : FnI Tryz.prog GT := { f := 158, cuts := [], tab := [qGe (fun _ => true)], fm := ⟨true, [.val .bool []]⟩ }
noncomputable def qhb (a0 : List qia) : Option (Bool) := slices_ContainsFunc_api_Adapt_api_Adapt_I.call [(.sl qna false a0), (.func 156 [])] []
theorem qCd (a0 : List qia) : qhb a0 = (
(qkc a0).bind fun r1 =>
some (decide (r1 ≥ (0 : Int)))) := (FnI.call_eq (by kernel_rfl)).trans (by kernel_rfl)
noncomputable def qId (acc : List AV → Bool) : Summ Tryz.prog GT := slices_ContainsFunc_api_Adapt_api_Adapt_I.summ mixed acc false false
noncomputable def predict_parts_I : FnI Tryz.prog GT := { f := 123, cuts := [⟨(6, 3), [1, 53, 54, 55], false, false, []⟩], tab := [qIc (fun _ => true), qkk (fun _ => true), qdl (fun _ => true), qId (fun _ => true)], fm := ⟨true, [.val .bool []]⟩ }
noncomputable def qkl (a0 : qca) : Option (Bool) := predict_parts_I.call [(.agg qea (inj false qea a0))] []
noncomputable def qFd (v53 : List qja) (v54 : Int) (v55 : Int) (b8 : qca) : Option (Bool) := predict_parts_I.sem ⟨[.code (cIn (cIn (qaa (qGa (qaa (qaa (qaa (qda Tryz.prog 123)))))))), .inLoop (cIn (cIn (qaa (qGa (qaa (qaa (qaa (qda Tryz.prog 123)))))))), .inBlock 0, .code (qaa (qaa (qaa (qaa (qda Tryz.prog 123)))))], ⟨[(1, (.one (.ptr qea 8 []))), (53, (.one (.sl qwa false v53))), (54, (.one (.int .i64 v54))), (55, (.one (.int .i64 v55)))], [(8, some (.box qea (inj false qea b8)))], 9⟩⟩
theorem qHt (a0 : qca) : qkl a0 = (
if (decide (a0.1 < (0 : Int))) = true then
some (false)
else
if (decide (a0.1 > (7 : Int))) = true then
some (false)
else
if ((Int.ofNat (List.length a0.2.2.1)) != (6 : Int)) = true then
some (false)
else
if ((Int.ofNat (List.length a0.2.2.2.1)) != (6 : Int)) = true then
some (false)
else
(qgd a0.2.1).bind fun r1 =>
if (r1 != (0 : Int)) = true then
some (false)
else
if (a0.2.1.1 != a0.1) = true then
some (false)
else
(qvh a0.2.2.2.2.2.2.1).bind fun r2 =>
if (r2 != (0 : Int)) = true then
some (false)
else
if (a0.2.2.2.2.2.2.1.1 != a0.1) = true then
some (false)
else
qFd a0.2.2.1 (Int.ofNat (List.length a0.2.2.1)) (0 : Int) a0) := (FnI.call_eq (by kernel_rfl)).trans (by kernel_rfl)
theorem qzi (v53 : List qja) (v54 : Int) (v55 : Int) (b8 : qca) : qFd v53 v54 v55 b8 = (
if (decide (v55 < v54)) = true then
gd (0 ≤ v55) <|
gd (v55 < (Int.ofNat (List.length v53))) <|
(qti (List.getD v53 (Int.toNat v55) (qpa qwa))).bind fun r3 =>
if (r3 != (0 : Int)) = true then
some (false)
else
if ((List.getD v53 (Int.toNat v55) (qpa qwa)).1 != b8.1) = true then
some (false)
else
gd (0 ≤ v55) <|
gd (v55 < (6 : Int)) <|
if (decide ((List.getD b8.2.2.2.2.2.2.2.2.2.2.1 (Int.toNat v55) (0 : Int)) < (0 : Int))) = true then
some (false)
else
gd (0 ≤ v55) <|
gd (v55 < (6 : Int)) <|
if (decide ((List.getD b8.2.2.2.2.2.2.2.2.2.2.1 (Int.toNat v55) (0 : Int)) ≥ (Int.ofNat (List.length (List.getD v53 (Int.toNat v55) (qpa qwa)).2.1)))) = true then
some (false)
else
qFd v53 v54 (IntKind.wrap .i64 (v55 + (1 : Int))) b8
else
(qhb b8.2.2.2.1).bind fun r4 =>
some (not r4)) := (FnI.sem_eq _).trans (by kernel_rfl)
noncomputable def qqv (acc : List AV → Bool) : Summ Tryz.prog GT := predict_parts_I.summ mixed acc false false
noncomputable def mixer_Check_1_I : FnI Tryz.prog GT := { f := 159, cuts := [], tab := [], fm := ⟨true, [.val .bool []]⟩ }
noncomputable def qVq (a0 : List Int) : Option (Bool) := mixer_Check_1_I.call [(.sl (.int .i32) false a0)] []
theorem qNt (a0 : List Int) : qVq a0 = (
some ((Int.ofNat (List.length a0)) != (8 : Int))) := (FnI.call_eq (by kernel_rfl)).trans (by kernel_rfl)
noncomputable def qQv (acc : List AV → Bool) : Summ Tryz.prog GT := mixer_Check_1_I.summ mixed acc false false
noncomputable def slices_IndexFunc_int32_int32_I : FnI Tryz.prog GT := { f := 204, cuts := [⟨(2, 3), [0, 1, 7, 8], false, false, []⟩], tab := [qQv (fun _ => true)], fm := ⟨true, [.val (.int .i64) []]⟩ }
noncomputable def qQd (a0 : List (List Int)) : Option (Int) := slices_IndexFunc_int32_int32_I.call [(.sl (.slice (.int .i32)) false a0), (.func 159 [])] []
noncomputable def qWa (v0 : List (List Int)) (v7 : Int) (v8 : Int) : Option (Int) := slices_IndexFunc_int32_int32_I.sem ⟨[.code (cIn (cIn (qaa (qGa (qaa (qda Tryz.prog 204)))))), .inLoop (cIn (cIn (qaa (qGa (qaa (qda Tryz.prog 204)))))), .inBlock 0, .code (qaa (qaa (qda Tryz.prog 204)))], ⟨[(0, (.one (.sl (.slice (.int .i32)) false v0))), (1, (.one (.func 159 []))), (7, (.one (.int .i64 v7))), (8, (.one (.int .i64 v8)))], [], 8⟩⟩
theorem qLg (a0 : List (List Int)) : qQd a0 = (
qWa a0 (Int.ofNat (List.length a0)) (0 : Int)) := (FnI.call_eq (by kernel_rfl)).trans (by kernel_rfl)
theorem qwc (v0 : List (List Int)) (v7 : Int) (v8 : Int) : qWa v0 v7 v8 = (
if (decide (v8 < v7)) = true then
gd (0 ≤ v8) <|
gd (v8 < (Int.ofNat (List.length v0))) <|
(qVq (List.getD v0 (Int.toNat v8) [])).bind fun r1 =>
if r1 = true then
some (v8)
else
qWa v0 v7 (IntKind.wrap .i64 (v8 + (1 : Int)))
else
some (-1 : Int)) := (FnI.sem_eq _).trans (by kernel_rfl)
noncomputable def qhh (acc : List AV → Bool) : Summ Tryz.prog GT := slices_IndexFunc_int32_int32_I.summ mixed acc false false
noncomputable def slices_ContainsFunc_int32_int32_I : FnI Tryz.prog GT := { f := 160, cuts := [], tab := [qhh (fun _ => true)], fm := ⟨true, [.val .bool []]⟩ }
noncomputable def qIb (a0 : List (List Int)) : Option (Bool) := slices_ContainsFunc_int32_int32_I.call [(.sl (.slice (.int .i32)) false a0), (.func 159 [])] []
theorem qSf (a0 : List (List Int)) : qIb a0 = (
(qQd a0).bind fun r1 =>
some (decide (r1 ≥ (0 : Int)))) := (FnI.call_eq (by kernel_rfl)).trans (by kernel_rfl)
noncomputable def qXf (acc : List AV → Bool) : Summ Tryz.prog GT := slices_ContainsFunc_int32_int32_I.summ mixed acc false false
noncomputable def mixer_Check_I : FnI Tryz.prog GT := { f := 124, cuts := [], tab := [qXf (fun _ => true)], fm := ⟨true, [.val (.int .i64) []]⟩ }
noncomputable def qnl (a0 : qqa) : Option (Int) := mixer_Check_I.call [(.agg qsa (inj false qsa a0))] []
theorem qUx (a0 : qqa) : qnl a0 = (
if (decide ((Int.ofNat (List.length a0.1)) < (1 : Int))) = true then
some (8 : Int)
else
if (decide ((Int.ofNat (List.length a0.1)) > (256 : Int))) = true then
some (8 : Int)
else
(qIb a0.1).bind fun r1 =>
if r1 = true then
some (8 : Int)
else
some (0 : Int)) := (FnI.call_eq (by kernel_rfl)).trans (by kernel_rfl)
noncomputable def qUq (acc : List AV → Bool) : Summ Tryz.prog GT := mixer_Check_I.summ mixed acc false false
noncomputable def refine_Check_I : FnI Tryz.prog GT := { f := 161, cuts := [⟨(4, 3), [16, 17, 18], false, false, []⟩], tab := [qxf (fun _ => true), qzf (fun _ => true)], fm := ⟨true, [.val (.int .i64) []]⟩ }
noncomputable def qnj (a0 : qqa) : Option (Int) := refine_Check_I.call [(.agg qsa (inj false qsa a0))] []
noncomputable def qme (v16 : List (List Int)) (v17 : Int) (v18 : Int) : Option (Int) := refine_Check_I.sem ⟨[.code (cIn (cIn (qaa (qGa (qaa (qaa (qda Tryz.prog 161))))))), .inLoop (cIn (cIn (qaa (qGa (qaa (qaa (qda Tryz.prog 161))))))), .inBlock 0, .code (qaa (qaa (qaa (qda Tryz.prog 161))))], ⟨[(16, (.one (.sl (.slice (.int .i32)) false v16))), (17, (.one (.int .i64 v17))), (18, (.one (.int .i64 v18)))], [], 8⟩⟩
theorem qjv (a0 : qqa) : qnj a0 = (
if (decide ((Int.ofNat (List.length a0.1)) < (1 : Int))) = true then
some (8 : Int)
else
if (decide ((Int.ofNat (List.length a0.1)) > (256 : Int))) = true then
some (8 : Int)
else
qme a0.1 (Int.ofNat (List.length a0.1)) (0 : Int)) := (FnI.call_eq (by kernel_rfl)).trans (by kernel_rfl)
theorem qmj (v16 : List (List Int)) (v17 : Int) (v18 : Int) : qme v16 v17 v18 = (
if (decide (v18 < v17)) = true then
gd (0 ≤ v18) <|
gd (v18 < (Int.ofNat (List.length v16))) <|
if ((Int.ofNat (List.length (List.getD v16 (Int.toNat v18) []))) != (33 : Int)) = true then
some (8 : Int)
else
(qsc (List.getD v16 (Int.toNat v18) [])).bind fun r1 =>
if (decide (r1 < (0 : Int))) = true then
some (8 : Int)
else
(quc (List.getD v16 (Int.toNat v18) [])).bind fun r2 =>
if (decide (r2 > (65535 : Int))) = true then
some (8 : Int)
else
qme v16 v17 (IntKind.wrap .i64 (v18 + (1 : Int)))
else
some (0 : Int)) := (FnI.sem_eq _).trans (by kernel_rfl)
noncomputable def qLo (acc : List AV → Bool) : Summ Tryz.prog GT := refine_Check_I.summ mixed acc false false
noncomputable def final_Check_I : FnI Tryz.prog GT := { f := 125, cuts := [⟨(2, 3), [9, 10, 11], false, false, []⟩], tab := [qLo (fun _ => true)], fm := ⟨true, [.val (.int .i64) []]⟩ }
noncomputable def qKi (a0 : qIa) : Option (Int) := final_Check_I.call [(.agg qpb (inj false qpb a0))] []
noncomputable def qlk (v10 : Int) (v11 : Int) (h8 : List qqa) : Option (Int) := final_Check_I.sem ⟨[.code (cIn (cIn (qaa (qGa (qaa (qda Tryz.prog 125)))))), .inLoop (cIn (cIn (qaa (qGa (qaa (qda Tryz.prog 125)))))), .inBlock 0, .code (qaa (qaa (qda Tryz.prog 125)))], ⟨[(9, (.one (.ref qsa 8 0 (List.length h8) true))), (10, (.one (.int .i64 v10))), (11, (.one (.int .i64 v11)))], [(8, some (.row qsa false h8))], 9⟩⟩
theorem qqy (a0 : qIa) : qKi a0 = (
qlk (2 : Int) (0 : Int) [a0.1, a0.2.1]) := (FnI.call_eq (by kernel_rfl)).trans (by kernel_rfl)
theorem qQg (v10 : Int) (v11 : Int) (h8 : List qqa) : qlk v10 v11 h8 = (
if (decide (v11 < v10)) = true then
gd (0 ≤ v11) <|
gd (v11 < (Int.ofNat (List.length h8))) <|
(qnj (List.getD h8 (0 + (Int.toNat v11)) (qpa qsa))).bind fun r1 =>
if (r1 != (0 : Int)) = true then
some (8 : Int)
else
if ((Int.ofNat (List.length (List.getD h8 (0 + (Int.toNat v11)) (qpa qsa)).1)) != (256 : Int)) = true then
some (8 : Int)
else
qlk v10 (IntKind.wrap .i64 (v11 + (1 : Int))) h8
else
some (0 : Int)) := (FnI.sem_eq _).trans (by kernel_rfl)
noncomputable def qtl (acc : List AV → Bool) : Summ Tryz.prog GT := final_Check_I.summ mixed acc false false
noncomputable def match_Check_I : FnI Tryz.prog GT := { f := 126, cuts := [], tab := [qIp (fun _ => true)], fm := ⟨true, [.val (.int .i64) []]⟩ }
noncomputable def qDi (a0 : qma) : Option (Int) := match_Check_I.call [(.agg qua (inj false qua a0))] []
theorem qZx (a0 : qma) : qDi a0 = (
(qbr).bind fun r1 =>
if (peq qua a0 r1) = true then
some (0 : Int)
else
if (decide (a0.1 ≥ (0 : Int))) = true then
if (decide (a0.1 ≤ (1073741824 : Int))) = true then
if (decide (a0.2.1 ≥ (1 : Int))) = true then
if (decide (a0.2.1 ≤ (40 : Int))) = true then
some (0 : Int)
else
some (8 : Int)
else
some (8 : Int)
else
some (8 : Int)
else
some (8 : Int)) := (FnI.call_eq (by kernel_rfl)).trans (by kernel_rfl)
noncomputable def qpl (acc : List AV → Bool) : Summ Tryz.prog GT := match_Check_I.summ mixed acc false false
noncomputable def nibble_Check_I : FnI Tryz.prog GT := { f := 127, cuts := [], tab := [], fm := ⟨true, [.val (.int .i64) []]⟩ }
noncomputable def qqe (a0 : qka) : Option (Int) := nibble_Check_I.call [(.agg qBa (inj false qBa a0))] []
theorem qHv (a0 : qka) : qqe a0 = (
if (decide (a0.1 < (1 : Int))) = true then
some (8 : Int)
else
if (decide (a0.1 > (255 : Int))) = true then
some (8 : Int)
else
some (0 : Int)) := (FnI.call_eq (by kernel_rfl)).trans (by kernel_rfl)
noncomputable def qdf (acc : List AV → Bool) : Summ Tryz.prog GT := nibble_Check_I.summ mixed acc false false
noncomputable def predict_Check_I : FnI Tryz.prog GT := { f := 97, cuts := [], tab := [qqv (fun _ => true), qUq (fun _ => true), qtl (fun _ => true), qpl (fun _ => true), qdf (fun _ => true), qbn (fun _ => true)], fm := ⟨true, [.val (.int .i64) []]⟩ }
noncomputable def qbi (a0 : qca) : Option (Int) := predict_Check_I.call [(.agg qea (inj false qea a0))] []
theorem qJt (a0 : qca) : qbi a0 = (
(qkl a0).bind fun r1 =>
if (not r1) = true then
some (8 : Int)
else
(qnl a0.2.2.2.2.1).bind fun r2 =>
if (r2 != (0 : Int)) = true then
some (8 : Int)
else
if ((Int.ofNat (List.length a0.2.2.2.2.1.1)) != (256 : Int)) = true then
some (8 : Int)
else
(qKi a0.2.2.2.2.2.1).bind fun r3 =>
if (r3 != (0 : Int)) = true then
some (8 : Int)
else
(qDi a0.2.2.2.2.2.2.2.1).bind fun r4 =>
if (r4 != (0 : Int)) = true then
some (8 : Int)
else
(qqe a0.2.2.2.2.2.2.2.2.1).bind fun r5 =>
if (r5 != (0 : Int)) = true then
some (8 : Int)
else
(qLe a0.2.1).bind fun r6 =>
if (not (peq (.arr 6 (.int .u32)) r6.1 a0.2.2.2.2.2.2.2.2.2.1)) = true then
some (8 : Int)
else
some (0 : Int)) := (FnI.call_eq (by kernel_rfl)).trans (by kernel_rfl)
noncomputable def qwm (acc : List AV → Bool) : Summ Tryz.prog GT := predict_Check_I.summ mixed acc false false
noncomputable def math_bits_Len64_I : FnI Tryz.prog GT := { f := 236, cuts := [], tab := [], fm := ⟨true, [.val (.int .i64) []]⟩ }
noncomputable def qGm (a0 : Int) : Option (Int) := math_bits_Len64_I.call [(.int .u64 a0)] []
theorem qar (a0 : Int) : qGm a0 = (
if (decide (a0 ≥ (4294967296 : Int))) = true then
gd (0 ≤ (32 : Int)) <|
if (decide ((Int.fdiv a0 (4294967296 : Int)) ≥ (65536 : Int))) = true then
gd (0 ≤ (16 : Int)) <|
if (decide ((Int.fdiv (Int.fdiv a0 (4294967296 : Int)) (65536 : Int)) ≥ (256 : Int))) = true then
gd (0 ≤ (8 : Int)) <|
gd (0 ≤ (IntKind.wrap .u8 (Int.fdiv (Int.fdiv (Int.fdiv a0 (4294967296 : Int)) (65536 : Int)) (256 : Int)))) <|
gd ((IntKind.wrap .u8 (Int.fdiv (Int.fdiv (Int.fdiv a0 (4294967296 : Int)) (65536 : Int)) (256 : Int))) < (t38Tab1.size : Int)) <|
some (IntKind.wrap .i64 ((56 : Int) + (IntKind.wrap .i64 (qGr t38Tab1 (Int.toNat (IntKind.wrap .u8 (Int.fdiv (Int.fdiv (Int.fdiv a0 (4294967296 : Int)) (65536 : Int)) (256 : Int))))))))
else
gd (0 ≤ (IntKind.wrap .u8 (Int.fdiv (Int.fdiv a0 (4294967296 : Int)) (65536 : Int)))) <|
gd ((IntKind.wrap .u8 (Int.fdiv (Int.fdiv a0 (4294967296 : Int)) (65536 : Int))) < (t38Tab1.size : Int)) <|
some (IntKind.wrap .i64 ((48 : Int) + (IntKind.wrap .i64 (qGr t38Tab1 (Int.toNat (IntKind.wrap .u8 (Int.fdiv (Int.fdiv a0 (4294967296 : Int)) (65536 : Int))))))))
else
if (decide ((Int.fdiv a0 (4294967296 : Int)) ≥ (256 : Int))) = true then
gd (0 ≤ (8 : Int)) <|
gd (0 ≤ (IntKind.wrap .u8 (Int.fdiv (Int.fdiv a0 (4294967296 : Int)) (256 : Int)))) <|
gd ((IntKind.wrap .u8 (Int.fdiv (Int.fdiv a0 (4294967296 : Int)) (256 : Int))) < (t38Tab1.size : Int)) <|
some (IntKind.wrap .i64 ((40 : Int) + (IntKind.wrap .i64 (qGr t38Tab1 (Int.toNat (IntKind.wrap .u8 (Int.fdiv (Int.fdiv a0 (4294967296 : Int)) (256 : Int))))))))
else
gd (0 ≤ (IntKind.wrap .u8 (Int.fdiv a0 (4294967296 : Int)))) <|
gd ((IntKind.wrap .u8 (Int.fdiv a0 (4294967296 : Int))) < (t38Tab1.size : Int)) <|
some (IntKind.wrap .i64 ((32 : Int) + (IntKind.wrap .i64 (qGr t38Tab1 (Int.toNat (IntKind.wrap .u8 (Int.fdiv a0 (4294967296 : Int))))))))
else
if (decide (a0 ≥ (65536 : Int))) = true then
gd (0 ≤ (16 : Int)) <|
if (decide ((Int.fdiv a0 (65536 : Int)) ≥ (256 : Int))) = true then
gd (0 ≤ (8 : Int)) <|
gd (0 ≤ (IntKind.wrap .u8 (Int.fdiv (Int.fdiv a0 (65536 : Int)) (256 : Int)))) <|
gd ((IntKind.wrap .u8 (Int.fdiv (Int.fdiv a0 (65536 : Int)) (256 : Int))) < (t38Tab1.size : Int)) <|
some (IntKind.wrap .i64 ((24 : Int) + (IntKind.wrap .i64 (qGr t38Tab1 (Int.toNat (IntKind.wrap .u8 (Int.fdiv (Int.fdiv a0 (65536 : Int)) (256 : Int))))))))
else
gd (0 ≤ (IntKind.wrap .u8 (Int.fdiv a0 (65536 : Int)))) <|
gd ((IntKind.wrap .u8 (Int.fdiv a0 (65536 : Int))) < (t38Tab1.size : Int)) <|
some (IntKind.wrap .i64 ((16 : Int) + (IntKind.wrap .i64 (qGr t38Tab1 (Int.toNat (IntKind.wrap .u8 (Int.fdiv a0 (65536 : Int))))))))
else
if (decide (a0 ≥ (256 : Int))) = true then
gd (0 ≤ (8 : Int)) <|
gd (0 ≤ (IntKind.wrap .u8 (Int.fdiv a0 (256 : Int)))) <|
gd ((IntKind.wrap .u8 (Int.fdiv a0 (256 : Int))) < (t38Tab1.size : Int)) <|
some (IntKind.wrap .i64 ((8 : Int) + (IntKind.wrap .i64 (qGr t38Tab1 (Int.toNat (IntKind.wrap .u8 (Int.fdiv a0 (256 : Int))))))))
else
gd (0 ≤ (IntKind.wrap .u8 a0)) <|
gd ((IntKind.wrap .u8 a0) < (t38Tab1.size : Int)) <|
some (IntKind.wrap .i64 ((0 : Int) + (IntKind.wrap .i64 (qGr t38Tab1 (Int.toNat (IntKind.wrap .u8 a0))))))) := (FnI.call_eq (by kernel_rfl)).trans (by kernel_rfl)
noncomputable def qhs (acc : List AV → Bool) : Summ Tryz.prog GT := math_bits_Len64_I.summ mixed acc false false
noncomputable def math_bits_Len_I : FnI Tryz.prog GT := { f := 207, cuts := [], tab := [qhs (fun _ => true)], fm := ⟨true, [.val (.int .i64) []]⟩ }
noncomputable def qei (a0 : Int) : Option (Int) := math_bits_Len_I.call [(.int .u64 a0)] []
theorem qQt (a0 : Int) : qei a0 = (
(qGm a0).bind fun r1 =>
some (r1)) := (FnI.call_eq (by kernel_rfl)).trans (by kernel_rfl)
noncomputable def qFm (acc : List AV → Bool) : Summ Tryz.prog GT := math_bits_Len_I.summ mixed acc false false
noncomputable def nibble_node_I : FnI Tryz.prog GT := { f := 162, cuts := [], tab := [qFm (fun _ => true)], fm := ⟨true, [.val (.int .i64) []]⟩ }
noncomputable def qGv (a0 : Int) : Option (Int) := nibble_node_I.call [(.int .i64 a0)] []
theorem qLx (a0 : Int) : qGv a0 = (
(qei (IntKind.wrap .u64 a0)).bind fun r1 =>
if (decide ((IntKind.wrap .i64 (r1 - (1 : Int))) < (4 : Int))) = true then
some (a0)
else
gd (0 ≤ (IntKind.wrap .i64 ((IntKind.wrap .i64 (r1 - (1 : Int))) - (4 : Int)))) <|
gd ((IntKind.wrap .i64 (qMr .i64 (1 : Int) (IntKind.wrap .i64 ((IntKind.wrap .i64 (r1 - (1 : Int))) - (4 : Int))))) ≠ 0) <|
some (IntKind.wrap .i64 ((IntKind.wrap .i64 (qMr .i64 (1 : Int) (IntKind.wrap .i64 ((IntKind.wrap .i64 (r1 - (1 : Int))) - (4 : Int))))) + (Int.tmod a0 (IntKind.wrap .i64 (qMr .i64 (1 : Int) (IntKind.wrap .i64 ((IntKind.wrap .i64 (r1 - (1 : Int))) - (4 : Int))))))))) := (FnI.call_eq (by kernel_rfl)).trans (by kernel_rfl)
noncomputable def qfA (acc : List AV → Bool) : Summ Tryz.prog GT := nibble_node_I.summ mixed acc false false
noncomputable def nibble_Node_I : FnI Tryz.prog GT := { f := 128, cuts := [], tab := [qdf (fun _ => true), qfA (fun _ => true)], fm := ⟨true, [.val (.int .i64) [], .val (.int .i64) []]⟩ }
noncomputable def qDp (a0 : qka) : Option (Int × Int) := nibble_Node_I.call [(.agg qBa (inj false qBa a0))] []
theorem qNx (a0 : qka) : qDp a0 = (
(qqe a0).bind fun r1 =>
if (r1 != (0 : Int)) = true then
some ((0 : Int), r1)
else
(qGv a0.1).bind fun r2 =>
some (r2, (0 : Int))) := (FnI.call_eq (by kernel_rfl)).trans (by kernel_rfl)
noncomputable def qiA (acc : List AV → Bool) : Summ Tryz.prog GT := nibble_Node_I.summ mixed acc false false
noncomputable def slots_at_I : FnI Tryz.prog GT := { f := 163, cuts := [], tab := [qdl (fun _ => true)], fm := ⟨true, [.val (.int .i64) []]⟩ }
noncomputable def qmu (a0 : qja) (a1 : Int) (a2 : Int) : Option (Int) := slots_at_I.call [(.agg qwa (inj false qwa a0)), (.int .i64 a1), (.int .i64 a2)] []
theorem qVD (a0 : qja) (a1 : Int) (a2 : Int) : qmu a0 a1 a2 = (
(qti a0).bind fun r1 =>
if (r1 != (0 : Int)) = true then
some (r1)
else
if (decide (a1 < (0 : Int))) = true then
some (2 : Int)
else
if (decide (a1 ≥ (Int.ofNat (List.length a0.2.1)))) = true then
some (2 : Int)
else
if (decide (a2 < (1 : Int))) = true then
some (2 : Int)
else
if (decide (a2 > (15 : Int))) = true then
some (2 : Int)
else
some (0 : Int)) := (FnI.call_eq (by kernel_rfl)).trans (by kernel_rfl)
noncomputable def qcz (acc : List AV → Bool) : Summ Tryz.prog GT := slots_at_I.summ mixed acc false false
noncomputable def slots_Get_I : FnI Tryz.prog GT := { f := 129, cuts := [], tab := [qcz (fun _ => true)], fm := ⟨true, [.val (.int .u8) [], .val (.int .i64) []]⟩ }
noncomputable def qpq (a0 : qja) (a1 : Int) (a2 : Int) : Option (Int × Int) := slots_Get_I.call [(.agg qwa (inj false qwa a0)), (.int .i64 a1), (.int .i64 a2)] []
theorem qLB (a0 : qja) (a1 : Int) (a2 : Int) : qpq a0 a1 a2 = (
(qmu a0 a1 a2).bind fun r1 =>
if (r1 != (0 : Int)) = true then
some ((0 : Int), r1)
else
gd (0 ≤ a1) <|
gd (a1 < (Int.ofNat (List.length a0.2.1))) <|
gd (0 ≤ (IntKind.wrap .i64 (a2 - (1 : Int)))) <|
gd ((IntKind.wrap .i64 (a2 - (1 : Int))) < (15 : Int)) <|
some ((List.getD (List.getD a0.2.1 (Int.toNat a1) (qpa qfb)).2.1 (Int.toNat (IntKind.wrap .i64 (a2 - (1 : Int)))) (0 : Int)), (0 : Int))) := (FnI.call_eq (by kernel_rfl)).trans (by kernel_rfl)
noncomputable def qPu (acc : List AV → Bool) : Summ Tryz.prog GT := slots_Get_I.summ mixed acc false false
noncomputable def adapt_at_I : FnI Tryz.prog GT := { f := 164, cuts := [], tab := [qAr (fun _ => true)], fm := ⟨true, [.val (.int .i64) []]⟩ }
noncomputable def qyu (a0 : qia) (a1 : Int) : Option (Int) := adapt_at_I.call [(.agg qna (inj false qna a0)), (.int .u8 a1)] []
theorem qxF (a0 : qia) (a1 : Int) : qyu a0 a1 = (
(qIl a0).bind fun r1 =>
if (r1 != (0 : Int)) = true then
some (r1)
else
if (decide (a1 ≥ (193 : Int))) = true then
some (2 : Int)
else
some (0 : Int)) := (FnI.call_eq (by kernel_rfl)).trans (by kernel_rfl)
noncomputable def qxz (acc : List AV → Bool) : Summ Tryz.prog GT := adapt_at_I.summ mixed acc false false
noncomputable def adapt_P_I : FnI Tryz.prog GT := { f := 130, cuts := [], tab := [qxz (fun _ => true)], fm := ⟨true, [.val (.int .i32) [], .val (.int .i64) []]⟩ }
noncomputable def qyF (a0 : qia) (a1 : Int) : Option (Int × Int) := adapt_P_I.call [(.agg qna (inj false qna a0)), (.int .u8 a1)] []
theorem qFH (a0 : qia) (a1 : Int) : qyF a0 a1 = (
(qyu a0 a1).bind fun r1 =>
if (r1 != (0 : Int)) = true then
some ((0 : Int), r1)
else
gd (0 ≤ a1) <|
gd (a1 < (Int.ofNat (List.length a0.2.1))) <|
some ((List.getD a0.2.1 (Int.toNat a1) (0 : Int)), (0 : Int))) := (FnI.call_eq (by kernel_rfl)).trans (by kernel_rfl)
noncomputable def qTJ (acc : List AV → Bool) : Summ Tryz.prog GT := adapt_P_I.summ mixed acc false false
noncomputable def squash_Stretch_1_I : FnI Tryz.prog GT := { f := 166, cuts := [], tab := [qsi (fun _ => true)], fm := ⟨true, [.val .bool [], .box 0 (.int .i32) []]⟩ }
noncomputable def qNl (a0 : Int) (b0 : Int) : Option (Bool × Int) := squash_Stretch_1_I.call [(.int .i64 a0), (.ptr (.int .i32) 0 [])] [(0, (.box (.int .i32) b0))]
theorem qlp (a0 : Int) (b0 : Int) : qNl a0 b0 = (
(qUf (IntKind.wrap .i32 ((IntKind.wrap .i32 a0) - (2047 : Int)))).bind fun r1 =>
some ((decide (r1 ≥ b0)), b0)) := (FnI.call_eq (by kernel_rfl)).trans (by kernel_rfl)
noncomputable def qnq (acc : List AV → Bool) : Summ Tryz.prog GT := squash_Stretch_1_I.summ mixed acc false false
noncomputable def sort_Search_I : FnI Tryz.prog GT := { f := 165, cuts := [⟨(2, 3), [1, 5, 6], false, false, []⟩], tab := [qnq (fun _ => true)], fm := ⟨true, [.val (.int .i64) [], .box 0 (.int .i32) []]⟩ }
noncomputable def qMu (a0 : Int) (b0 : Int) : Option (Int × Int) := sort_Search_I.call [(.int .i64 a0), (.func 166 [0])] [(0, (.box (.int .i32) b0))]
noncomputable def qYe (v5 : Int) (v6 : Int) (b0 : Int) : Option (Int × Int) := sort_Search_I.sem ⟨[.code (cIn (cIn (qGa (qaa (qaa (qda Tryz.prog 165)))))), .inLoop (cIn (cIn (qGa (qaa (qaa (qda Tryz.prog 165)))))), .inBlock 0, .code (qaa (qaa (qaa (qda Tryz.prog 165))))], ⟨[(1, (.one (.func 166 [0]))), (5, (.one (.int .i64 v5))), (6, (.one (.int .i64 v6)))], [(0, some (.box (.int .i32) b0))], 9⟩⟩
theorem qwx (a0 : Int) (b0 : Int) : qMu a0 b0 = (
qYe (0 : Int) a0 b0) := (FnI.call_eq (by kernel_rfl)).trans (by kernel_rfl)
theorem qyk (v5 : Int) (v6 : Int) (b0 : Int) : qYe v5 v6 b0 = (
if (decide (v5 < v6)) = true then
gd (0 ≤ (1 : Int)) <|
(qNl (IntKind.wrap .i64 (Int.fdiv (IntKind.wrap .u64 (IntKind.wrap .i64 (v5 + v6))) (2 : Int))) b0).bind fun r1 =>
if (not r1.1) = true then
qYe (IntKind.wrap .i64 ((IntKind.wrap .i64 (Int.fdiv (IntKind.wrap .u64 (IntKind.wrap .i64 (v5 + v6))) (2 : Int))) + (1 : Int))) v6 r1.2
else
qYe v5 (IntKind.wrap .i64 (Int.fdiv (IntKind.wrap .u64 (IntKind.wrap .i64 (v5 + v6))) (2 : Int))) r1.2
else
some (v5, b0)) := (FnI.sem_eq _).trans (by kernel_rfl)
noncomputable def qJz (acc : List AV → Bool) : Summ Tryz.prog GT := sort_Search_I.summ mixed acc false false
noncomputable def squash_Stretch_I : FnI Tryz.prog GT := { f := 131, cuts := [], tab := [qJz (fun _ => true)], fm := ⟨true, [.val (.int .i32) []]⟩ }
noncomputable def qVj (a0 : Int) : Option (Int) := squash_Stretch_I.call [(.int .i32 a0)] []
theorem qJr (a0 : Int) : qVj a0 = (
(qMu (4094 : Int) a0).bind fun r1 =>
some (IntKind.wrap .i32 ((IntKind.wrap .i32 r1.1) - (2047 : Int)))) := (FnI.call_eq (by kernel_rfl)).trans (by kernel_rfl)
noncomputable def qxt (acc : List AV → Bool) : Summ Tryz.prog GT := squash_Stretch_I.summ mixed acc false false
noncomputable def ring_At_I : FnI Tryz.prog GT := { f := 208, cuts := [], tab := [qIc (fun _ => true), qjz (fun _ => true)], fm := ⟨true, [.val (.int .u8) [], .val .bool [], .val (.int .i64) []]⟩ }
noncomputable def qkE (a0 : qla) (a1 : Int) : Option (Int × Bool × Int) := ring_At_I.call [(.agg qva (inj false qva a0)), (.int .i64 a1)] []
theorem qTG (a0 : qla) (a1 : Int) : qkE a0 a1 = (
(qgd a0).bind fun r1 =>
if (r1 != (0 : Int)) = true then
some ((0 : Int), (false, r1))
else
if (decide (a1 < (0 : Int))) = true then
some ((0 : Int), (false, (2 : Int)))
else
if (decide (a1 ≥ a0.2.2.1)) = true then
some ((0 : Int), (false, (0 : Int)))
else
if (decide ((IntKind.wrap .i64 (a0.2.2.1 - a1)) > (Int.ofNat (List.length a0.2.1)))) = true then
some ((0 : Int), (false, (0 : Int)))
else
(qpu a0 (IntKind.wrap .i64 (a0.2.2.1 - a1))).bind fun r2 =>
some (r2, (true, (0 : Int)))) := (FnI.call_eq (by kernel_rfl)).trans (by kernel_rfl)
noncomputable def qlI (acc : List AV → Bool) : Summ Tryz.prog GT := ring_At_I.summ mixed acc false false
noncomputable def match_expect_I : FnI Tryz.prog GT := { f := 168, cuts := [], tab := [qlI (fun _ => true)], fm := ⟨true, [.val (.int .u8) [], .val .bool []]⟩ }
noncomputable def quj (a0 : qma) (a1 : qla) : Option (Int × Bool) := match_expect_I.call [(.agg qua (inj false qua a0)), (.agg qva (inj false qva a1))] []
theorem qWv (a0 : qma) (a1 : qla) : quj a0 a1 = (
if (decide (a0.1 < (0 : Int))) = true then
some ((0 : Int), false)
else
(qkE a1 a0.1).bind fun r1 =>
some (r1.1, r1.2.1)) := (FnI.call_eq (by kernel_rfl)).trans (by kernel_rfl)
noncomputable def qRo (acc : List AV → Bool) : Summ Tryz.prog GT := match_expect_I.summ mixed acc false false
noncomputable def nibble_Bits_I : FnI Tryz.prog GT := { f := 169, cuts := [⟨(6, 3), [1, 5, 6], false, false, []⟩], tab := [qdf (fun _ => true), qFm (fun _ => true)], fm := ⟨true, [.val (.slice .bool) [.nw], .val (.int .i64) []]⟩ }
noncomputable def qEp (a0 : qka) : Option (List Bool × Int) := nibble_Bits_I.call [(.agg qBa (inj false qBa a0))] []
noncomputable def qah (v6 : Int) (b8 : qka) (h9 : List Bool) : Option (List Bool × Int) := nibble_Bits_I.sem ⟨[.code (cIn (cIn (qaa (qGa (qaa (qaa (qaa (qda Tryz.prog 169)))))))), .inLoop (cIn (cIn (qaa (qGa (qaa (qaa (qaa (qda Tryz.prog 169)))))))), .inBlock 0, .code (qaa (qaa (qaa (qaa (qda Tryz.prog 169)))))], ⟨[(1, (.one (.ptr qBa 8 []))), (5, (.one (.ref .bool 9 0 (List.length h9) true))), (6, (.one (.int .i64 v6)))], [(8, some (.box qBa (inj false qBa b8))), (9, some (.row .bool true h9))], 10⟩⟩
theorem qOx (a0 : qka) : qEp a0 = (
(qqe a0).bind fun r1 =>
if (r1 != (0 : Int)) = true then
some ([], r1)
else
(qei (IntKind.wrap .u64 a0.1)).bind fun r2 =>
qah (IntKind.wrap .i64 (r2 - (2 : Int))) a0 []) := (FnI.call_eq (by kernel_rfl)).trans (by kernel_rfl)
theorem qFk (v6 : Int) (b8 : qka) (h9 : List Bool) : qah v6 b8 h9 = (
if (decide (v6 ≥ (0 : Int))) = true then
gd (0 ≤ v6) <|
gd ((List.length (h9 ++ [((qDa .i64 (qjh .i64 b8.1 v6) (1 : Int)) == (1 : Int))])) * 1 ≤ 140737488355328) <|
qah (IntKind.wrap .i64 (v6 - (1 : Int))) b8 (h9 ++ [((qDa .i64 (qjh .i64 b8.1 v6) (1 : Int)) == (1 : Int))])
else
some (h9, (0 : Int))) := (FnI.sem_eq _).trans (by kernel_rfl)
noncomputable def qkA (acc : List AV → Bool) : Summ Tryz.prog GT := nibble_Bits_I.summ mixed acc false false
noncomputable def match_Input_I : FnI Tryz.prog GT := { f := 132, cuts := [], tab := [qpl (fun _ => true), qIc (fun _ => true), qdf (fun _ => true), qRo (fun _ => true), qkA (fun _ => true)], fm := ⟨true, [.val (.int .i32) [], .val (.int .i64) []]⟩ }
noncomputable def qJp (a0 : qma) (a1 : qla) (a2 : qka) : Option (Int × Int) := match_Input_I.call [(.agg qua (inj false qua a0)), (.agg qva (inj false qva a1)), (.agg qBa (inj false qBa a2))] []
theorem qYx (a0 : qma) (a1 : qla) (a2 : qka) : qJp a0 a1 a2 = (
(qDi a0).bind fun r1 =>
if (r1 != (0 : Int)) = true then
some ((0 : Int), (8 : Int))
else
(qgd a1).bind fun r2 =>
if (r2 != (0 : Int)) = true then
some ((0 : Int), (8 : Int))
else
(qqe a2).bind fun r3 =>
if (r3 != (0 : Int)) = true then
some ((0 : Int), (8 : Int))
else
(quj a0 a1).bind fun r4 =>
(qEp a2).bind fun r5 =>
if (not r4.2) = true then
some ((0 : Int), (0 : Int))
else
gd (0 ≤ (IntKind.wrap .i64 ((8 : Int) - (Int.ofNat (List.length r5.1))))) <|
if ((qjh .i64 (IntKind.wrap .i64 ((256 : Int) + (IntKind.wrap .i64 r4.1))) (IntKind.wrap .i64 ((8 : Int) - (Int.ofNat (List.length r5.1))))) != a2.1) = true then
some ((0 : Int), (0 : Int))
else
gd (0 ≤ (IntKind.wrap .i64 ((7 : Int) - (Int.ofNat (List.length r5.1))))) <|
if ((qDa .u8 (qjh .u8 r4.1 (IntKind.wrap .i64 ((7 : Int) - (Int.ofNat (List.length r5.1))))) (1 : Int)) == (1 : Int)) = true then
some ((IntKind.wrap .i32 (IntKind.wrap .i64 ((50 : Int) * a0.2.1))), (0 : Int))
else
some ((IntKind.wrap .i32 (IntKind.wrap .i64 ((-50 : Int) * a0.2.1))), (0 : Int))) := (FnI.call_eq (by kernel_rfl)).trans (by kernel_rfl)
noncomputable def qqA (acc : List AV → Bool) : Summ Tryz.prog GT := match_Input_I.summ mixed acc false false
noncomputable def mixer_keep_I : FnI Tryz.prog GT := { f := 172, cuts := [], tab := [], fm := ⟨true, [.val (.int .i32) []]⟩ }
noncomputable def qRn (a0 : Int) : Option (Int) := mixer_keep_I.call [(.int .i32 a0)] []
theorem qmA (a0 : Int) : qRn a0 = (
some (if (if a0 < (2047 : Int) then a0 else (2047 : Int)) > (-2047 : Int) then (if a0 < (2047 : Int) then a0 else (2047 : Int)) else (-2047 : Int))) := (FnI.call_eq (by kernel_rfl)).trans (by kernel_rfl)
noncomputable def qht (acc : List AV → Bool) : Summ Tryz.prog GT := mixer_keep_I.summ mixed acc false false
noncomputable def mixer_check_1_I : FnI Tryz.prog GT := { f := 209, cuts := [], tab := [qht (fun _ => true)], fm := ⟨true, [.val .bool []]⟩ }
noncomputable def qSq (a0 : Int) : Option (Bool) := mixer_check_1_I.call [(.int .i32 a0)] []
theorem qKt (a0 : Int) : qSq a0 = (
(qRn a0).bind fun r1 =>
some (r1 != a0)) := (FnI.call_eq (by kernel_rfl)).trans (by kernel_rfl)
noncomputable def qMv (acc : List AV → Bool) : Summ Tryz.prog GT := mixer_check_1_I.summ mixed acc false false
noncomputable def slices_IndexFunc_int32_int32_v2_I : FnI Tryz.prog GT := { f := 237, cuts := [⟨(2, 3), [0, 1, 7, 8], false, false, []⟩], tab := [qMv (fun _ => true)], fm := ⟨true, [.val (.int .i64) []]⟩ }
noncomputable def qed (a0 : List Int) : Option (Int) := slices_IndexFunc_int32_int32_v2_I.call [(.sl (.int .i32) false a0), (.func 209 [])] []
noncomputable def qRa (v0 : List Int) (v7 : Int) (v8 : Int) : Option (Int) := slices_IndexFunc_int32_int32_v2_I.sem ⟨[.code (cIn (cIn (qaa (qGa (qaa (qda Tryz.prog 237)))))), .inLoop (cIn (cIn (qaa (qGa (qaa (qda Tryz.prog 237)))))), .inBlock 0, .code (qaa (qaa (qda Tryz.prog 237)))], ⟨[(0, (.one (.sl (.int .i32) false v0))), (1, (.one (.func 209 []))), (7, (.one (.int .i64 v7))), (8, (.one (.int .i64 v8)))], [], 8⟩⟩
theorem qQf (a0 : List Int) : qed a0 = (
qRa a0 (Int.ofNat (List.length a0)) (0 : Int)) := (FnI.call_eq (by kernel_rfl)).trans (by kernel_rfl)
theorem qYb (v0 : List Int) (v7 : Int) (v8 : Int) : qRa v0 v7 v8 = (
if (decide (v8 < v7)) = true then
gd (0 ≤ v8) <|
gd (v8 < (Int.ofNat (List.length v0))) <|
(qSq (List.getD v0 (Int.toNat v8) (0 : Int))).bind fun r1 =>
if r1 = true then
some (v8)
else
qRa v0 v7 (IntKind.wrap .i64 (v8 + (1 : Int)))
else
some (-1 : Int)) := (FnI.sem_eq _).trans (by kernel_rfl)
noncomputable def qVf (acc : List AV → Bool) : Summ Tryz.prog GT := slices_IndexFunc_int32_int32_v2_I.summ mixed acc false false
noncomputable def slices_ContainsFunc_int32_int32_v2_I : FnI Tryz.prog GT := { f := 210, cuts := [], tab := [qVf (fun _ => true)], fm := ⟨true, [.val .bool []]⟩ }
noncomputable def qwb (a0 : List Int) : Option (Bool) := slices_ContainsFunc_int32_int32_v2_I.call [(.sl (.int .i32) false a0), (.func 209 [])] []
theorem qSe (a0 : List Int) : qwb a0 = (
(qed a0).bind fun r1 =>
some (decide (r1 ≥ (0 : Int)))) := (FnI.call_eq (by kernel_rfl)).trans (by kernel_rfl)
noncomputable def qaf (acc : List AV → Bool) : Summ Tryz.prog GT := slices_ContainsFunc_int32_int32_v2_I.summ mixed acc false false
noncomputable def mixer_check_I : FnI Tryz.prog GT := { f := 170, cuts := [], tab := [qUq (fun _ => true), qaf (fun _ => true)], fm := ⟨true, [.val (.int .i64) []]⟩ }
noncomputable def qml (a0 : qqa) (a1 : Int) (a2 : List Int) : Option (Int) := mixer_check_I.call [(.agg qsa (inj false qsa a0)), (.int .i64 a1), (.sl (.int .i32) false a2)] []
theorem qRx (a0 : qqa) (a1 : Int) (a2 : List Int) : qml a0 a1 a2 = (
(qnl a0).bind fun r1 =>
if (r1 != (0 : Int)) = true then
some (r1)
else
if (decide (a1 < (0 : Int))) = true then
some (2 : Int)
else
if (decide (a1 ≥ (Int.ofNat (List.length a0.1)))) = true then
some (2 : Int)
else
if ((Int.ofNat (List.length a2)) != (8 : Int)) = true then
some (2 : Int)
else
(qwb a2).bind fun r2 =>
if r2 = true then
some (2 : Int)
else
some (0 : Int)) := (FnI.call_eq (by kernel_rfl)).trans (by kernel_rfl)
noncomputable def qRq (acc : List AV → Bool) : Summ Tryz.prog GT := mixer_check_I.summ mixed acc false false
noncomputable def fixed_Sat_I : FnI Tryz.prog GT := { f := 212, cuts := [], tab := [], fm := ⟨true, [.val (.int .i32) []]⟩ }
noncomputable def qGi (a0 : Int) : Option (Int) := fixed_Sat_I.call [(.int .i64 a0)] []
theorem qDC (a0 : Int) : qGi a0 = (
some (IntKind.wrap .i32 (if (2147483647 : Int) < (if (-2147483648 : Int) > a0 then (-2147483648 : Int) else a0) then (2147483647 : Int) else (if (-2147483648 : Int) > a0 then (-2147483648 : Int) else a0)))) := (FnI.call_eq (by kernel_rfl)).trans (by kernel_rfl)
noncomputable def qvw (acc : List AV → Bool) : Summ Tryz.prog GT := fixed_Sat_I.summ mixed acc false false
noncomputable def fixed_Dot_I : FnI Tryz.prog GT := { f := 171, cuts := [⟨(7, 3), [1, 6, 7, 24, 25, 26], false, false, []⟩], tab := [qwD (fun _ => true), qvw (fun _ => true)], fm := ⟨true, [.val (.int .i32) [], .val (.int .i64) []]⟩ }
noncomputable def qww (a0 : List Int) (a1 : List Int) : Option (Int × Int) := fixed_Dot_I.call [(.sl (.int .i32) false a0), (.sl (.int .i32) false a1)] []
noncomputable def quh (v1 : List Int) (v6 : Int) (v7 : Int) (v24 : List Int) (v25 : Int) (v26 : Int) : Option (Int × Int) := fixed_Dot_I.sem ⟨[.code (cIn (cIn (qaa (qGa (qaa (qaa (qaa (qaa (qda Tryz.prog 171))))))))), .inLoop (cIn (cIn (qaa (qGa (qaa (qaa (qaa (qaa (qda Tryz.prog 171))))))))), .inBlock 0, .code (qaa (qaa (qaa (qaa (qaa (qda Tryz.prog 171))))))], ⟨[(1, (.one (.sl (.int .i32) false v1))), (6, (.one (.int .i64 v6))), (7, (.one (.int .u64 v7))), (24, (.one (.sl (.int .i32) false v24))), (25, (.one (.int .i64 v25))), (26, (.one (.int .i64 v26)))], [], 8⟩⟩
theorem qEC (a0 : List Int) (a1 : List Int) : qww a0 a1 = (
if (decide ((if (Int.ofNat (List.length a1)) > (Int.ofNat (List.length a0)) then (Int.ofNat (List.length a1)) else (Int.ofNat (List.length a0))) > (16 : Int))) = true then
some ((0 : Int), (4 : Int))
else
if ((Int.ofNat (List.length a0)) != (Int.ofNat (List.length a1))) = true then
some ((0 : Int), (2 : Int))
else
quh a1 (0 : Int) (0 : Int) a0 (Int.ofNat (List.length a0)) (0 : Int)) := (FnI.call_eq (by kernel_rfl)).trans (by kernel_rfl)
theorem qPm (v1 : List Int) (v6 : Int) (v7 : Int) (v24 : List Int) (v25 : Int) (v26 : Int) : quh v1 v6 v7 v24 v25 v26 = (
if (decide (v26 < v25)) = true then
gd (0 ≤ v26) <|
gd (v26 < (Int.ofNat (List.length v24))) <|
gd (0 ≤ v26) <|
gd (v26 < (Int.ofNat (List.length v1))) <|
(qYn v7 (IntKind.wrap .u64 (IntKind.wrap .i64 ((IntKind.wrap .i64 (List.getD v24 (Int.toNat v26) (0 : Int))) * (IntKind.wrap .i64 (List.getD v1 (Int.toNat v26) (0 : Int)))))) (0 : Int)).bind fun r1 =>
gd (0 ≤ (63 : Int)) <|
quh v1 (IntKind.wrap .i64 ((IntKind.wrap .i64 (v6 + (Int.fdiv (IntKind.wrap .i64 ((IntKind.wrap .i64 (List.getD v24 (Int.toNat v26) (0 : Int))) * (IntKind.wrap .i64 (List.getD v1 (Int.toNat v26) (0 : Int))))) (9223372036854775808 : Int)))) + (IntKind.wrap .i64 r1.2))) r1.1 v24 v25 (IntKind.wrap .i64 (v26 + (1 : Int)))
else
if (decide (v6 > (0 : Int))) = true then
some ((2147483647 : Int), (0 : Int))
else
if (v6 == (0 : Int)) = true then
if (decide (v7 > (9223372036854775807 : Int))) = true then
some ((2147483647 : Int), (0 : Int))
else
if (decide (v6 < (-1 : Int))) = true then
some ((-2147483648 : Int), (0 : Int))
else
if (v6 == (-1 : Int)) = true then
if (decide (v7 ≤ (9223372036854775807 : Int))) = true then
some ((-2147483648 : Int), (0 : Int))
else
(qGi (IntKind.wrap .i64 v7)).bind fun r2 =>
some (r2, (0 : Int))
else
(qGi (IntKind.wrap .i64 v7)).bind fun r3 =>
some (r3, (0 : Int))
else
if (decide (v6 < (-1 : Int))) = true then
some ((-2147483648 : Int), (0 : Int))
else
if (v6 == (-1 : Int)) = true then
if (decide (v7 ≤ (9223372036854775807 : Int))) = true then
some ((-2147483648 : Int), (0 : Int))
else
(qGi (IntKind.wrap .i64 v7)).bind fun r4 =>
some (r4, (0 : Int))
else
(qGi (IntKind.wrap .i64 v7)).bind fun r5 =>
some (r5, (0 : Int))) := (FnI.sem_eq _).trans (by kernel_rfl)
noncomputable def qOE (acc : List AV → Bool) : Summ Tryz.prog GT := fixed_Dot_I.summ mixed acc false false
noncomputable def mixer_Mix_I : FnI Tryz.prog GT := { f := 133, cuts := [], tab := [qRq (fun _ => true), qOE (fun _ => true), qht (fun _ => true), qsi (fun _ => true)], fm := ⟨true, [.val (.int .i32) [], .val (.int .i32) [], .val (.int .i64) []]⟩ }
noncomputable def qPv (a0 : qqa) (a1 : Int) (a2 : List Int) : Option (Int × Int × Int) := mixer_Mix_I.call [(.agg qsa (inj false qsa a0)), (.int .i64 a1), (.sl (.int .i32) false a2)] []
theorem qoC (a0 : qqa) (a1 : Int) (a2 : List Int) : qPv a0 a1 a2 = (
(qml a0 a1 a2).bind fun r1 =>
if (r1 != (0 : Int)) = true then
some ((0 : Int), ((0 : Int), r1))
else
gd (0 ≤ a1) <|
gd (a1 < (Int.ofNat (List.length a0.1))) <|
(qww (List.getD a0.1 (Int.toNat a1) []) a2).bind fun r2 =>
gd (0 ≤ (16 : Int)) <|
(qRn (Int.fdiv r2.1 (65536 : Int))).bind fun r3 =>
(qUf r3).bind fun r4 =>
some (r3, (r4, (0 : Int)))) := (FnI.call_eq (by kernel_rfl)).trans (by kernel_rfl)
noncomputable def qAE (acc : List AV → Bool) : Summ Tryz.prog GT := mixer_Mix_I.summ mixed acc false false
noncomputable def context_Recent_I : FnI Tryz.prog GT := { f := 134, cuts := [], tab := [qIc (fun _ => true), qok (fun _ => true)], fm := ⟨true, [.val (.int .u8) [], .val (.int .u8) [], .val (.int .i64) []]⟩ }
noncomputable def qpk (a0 : qla) : Option (Int × Int × Int) := context_Recent_I.call [(.agg qva (inj false qva a0))] []
theorem qAs (a0 : qla) : qpk a0 = (
(qgd a0).bind fun r1 =>
if (r1 != (0 : Int)) = true then
some ((0 : Int), ((0 : Int), r1))
else
(qyh a0 (2 : Int)).bind fun r2 =>
gd (0 ≤ (1 : Int)) <|
gd ((1 : Int) < (Int.ofNat (List.length r2))) <|
gd (0 ≤ (0 : Int)) <|
gd ((0 : Int) < (Int.ofNat (List.length r2))) <|
some ((List.getD r2 1 (0 : Int)), ((List.getD r2 0 (0 : Int)), (0 : Int)))) := (FnI.call_eq (by kernel_rfl)).trans (by kernel_rfl)
noncomputable def qcu (acc : List AV → Bool) : Summ Tryz.prog GT := context_Recent_I.summ mixed acc false false
noncomputable def final_Rows_I : FnI Tryz.prog GT := { f := 135, cuts := [], tab := [qNp (fun _ => true), qik (fun _ => true)], fm := ⟨true, [.val (.arr 2 (.int .i64)) [], .val (.int .i64) []]⟩ }
noncomputable def qrs (a0 : Int) (a1 : Int) (a2 : Int) : Option ((List Int) × Int) := final_Rows_I.call [(.int .u8 a0), (.int .u8 a1), (.int .i64 a2)] []
theorem qJA (a0 : Int) (a1 : Int) (a2 : Int) : qrs a0 a1 a2 = (
if (decide (a2 < (1 : Int))) = true then
some ((List.replicate 2 (0 : Int)), (2 : Int))
else
if (decide (a2 > (255 : Int))) = true then
some ((List.replicate 2 (0 : Int)), (2 : Int))
else
(qPk (7 : Int) [a1, a0, (IntKind.wrap .u8 a2)]).bind fun r1 =>
(qth r1.1 (256 : Int)).bind fun r2 =>
some ((List.set (List.set (List.replicate 2 (0 : Int)) 0 a2) 1 r2.1), (0 : Int))) := (FnI.call_eq (by kernel_rfl)).trans (by kernel_rfl)
noncomputable def qNC (acc : List AV → Bool) : Summ Tryz.prog GT := final_Rows_I.summ mixed acc false false
noncomputable def refine_check_I : FnI Tryz.prog GT := { f := 213, cuts := [], tab := [qLo (fun _ => true)], fm := ⟨true, [.val (.int .i64) []]⟩ }
noncomputable def qjj (a0 : qqa) (a1 : Int) : Option (Int) := refine_check_I.call [(.agg qsa (inj false qsa a0)), (.int .i64 a1)] []
theorem qfv (a0 : qqa) (a1 : Int) : qjj a0 a1 = (
(qnj a0).bind fun r1 =>
if (r1 != (0 : Int)) = true then
some (r1)
else
if (decide (a1 < (0 : Int))) = true then
some (2 : Int)
else
if (decide (a1 ≥ (Int.ofNat (List.length a0.1)))) = true then
some (2 : Int)
else
some (0 : Int)) := (FnI.call_eq (by kernel_rfl)).trans (by kernel_rfl)
noncomputable def qJo (acc : List AV → Bool) : Summ Tryz.prog GT := refine_check_I.summ mixed acc false false
noncomputable def refine_Look_I : FnI Tryz.prog GT := { f := 174, cuts := [], tab := [qJo (fun _ => true)], fm := ⟨true, [.val (.int .i32) [], .val (.int .i64) [], .val (.int .i64) []]⟩ }
noncomputable def qjl (a0 : qqa) (a1 : Int) (a2 : Int) : Option (Int × Int × Int) := refine_Look_I.call [(.agg qsa (inj false qsa a0)), (.int .i64 a1), (.int .i32 a2)] []
theorem qCx (a0 : qqa) (a1 : Int) (a2 : Int) : qjl a0 a1 a2 = (
(qjj a0 a1).bind fun r1 =>
if (r1 != (0 : Int)) = true then
some ((0 : Int), ((0 : Int), r1))
else
if (decide (a2 < (-2047 : Int))) = true then
some ((0 : Int), ((0 : Int), (2 : Int)))
else
if (decide (a2 > (2047 : Int))) = true then
some ((0 : Int), ((0 : Int), (2 : Int)))
else
gd ((128 : Int) ≠ 0) <|
gd ((128 : Int) ≠ 0) <|
gd (0 ≤ a1) <|
gd (a1 < (Int.ofNat (List.length a0.1))) <|
gd (0 ≤ (IntKind.wrap .i64 (Int.tdiv (IntKind.wrap .i64 (IntKind.wrap .i32 (a2 + (2048 : Int)))) (128 : Int)))) <|
gd ((IntKind.wrap .i64 (Int.tdiv (IntKind.wrap .i64 (IntKind.wrap .i32 (a2 + (2048 : Int)))) (128 : Int))) < (Int.ofNat (List.length (List.getD a0.1 (Int.toNat a1) [])))) <|
gd (0 ≤ (IntKind.wrap .i64 ((IntKind.wrap .i64 (Int.tdiv (IntKind.wrap .i64 (IntKind.wrap .i32 (a2 + (2048 : Int)))) (128 : Int))) + (1 : Int)))) <|
gd ((IntKind.wrap .i64 ((IntKind.wrap .i64 (Int.tdiv (IntKind.wrap .i64 (IntKind.wrap .i32 (a2 + (2048 : Int)))) (128 : Int))) + (1 : Int))) < (Int.ofNat (List.length (List.getD a0.1 (Int.toNat a1) [])))) <|
gd ((2048 : Int) ≠ 0) <|
gd ((64 : Int) ≠ 0) <|
some ((IntKind.wrap .i32 (Int.tdiv (IntKind.wrap .i32 ((IntKind.wrap .i32 ((IntKind.wrap .i32 ((128 : Int) - (Int.tmod (IntKind.wrap .i32 (a2 + (2048 : Int))) (128 : Int)))) * (List.getD (List.getD a0.1 (Int.toNat a1) []) (Int.toNat (IntKind.wrap .i64 (Int.tdiv (IntKind.wrap .i64 (IntKind.wrap .i32 (a2 + (2048 : Int)))) (128 : Int)))) (0 : Int)))) + (IntKind.wrap .i32 ((Int.tmod (IntKind.wrap .i32 (a2 + (2048 : Int))) (128 : Int)) * (List.getD (List.getD a0.1 (Int.toNat a1) []) (Int.toNat (IntKind.wrap .i64 ((IntKind.wrap .i64 (Int.tdiv (IntKind.wrap .i64 (IntKind.wrap .i32 (a2 + (2048 : Int)))) (128 : Int))) + (1 : Int)))) (0 : Int)))))) (2048 : Int))), ((IntKind.wrap .i64 ((IntKind.wrap .i64 (Int.tdiv (IntKind.wrap .i64 (IntKind.wrap .i32 (a2 + (2048 : Int)))) (128 : Int))) + (IntKind.wrap .i64 (IntKind.wrap .i32 (Int.tdiv (Int.tmod (IntKind.wrap .i32 (a2 + (2048 : Int))) (128 : Int)) (64 : Int)))))), (0 : Int)))) := (FnI.call_eq (by kernel_rfl)).trans (by kernel_rfl)
noncomputable def qUz (acc : List AV → Bool) : Summ Tryz.prog GT := refine_Look_I.summ mixed acc false false
noncomputable def final_prob_I : FnI Tryz.prog GT := { f := 175, cuts := [], tab := [], fm := ⟨true, [.val .bool []]⟩ }
noncomputable def qqs (a0 : Int) : Option (Bool) := final_prob_I.call [(.int .i32 a0)] []
theorem qIA (a0 : Int) : qqs a0 = (
if (decide (a0 ≥ (0 : Int))) = true then
some (decide (a0 ≤ (4095 : Int)))
else
some (false)) := (FnI.call_eq (by kernel_rfl)).trans (by kernel_rfl)
noncomputable def qLC (acc : List AV → Bool) : Summ Tryz.prog GT := final_prob_I.summ mixed acc false false
noncomputable def final_join_I : FnI Tryz.prog GT := { f := 176, cuts := [], tab := [], fm := ⟨true, [.val (.int .i32) []]⟩ }
noncomputable def qqz (a0 : Int) (a1 : Int) (a2 : Int) : Option (Int) := final_join_I.call [(.int .i32 a0), (.int .i32 a1), (.int .i32 a2)] []
theorem qhr (a0 : Int) (a1 : Int) (a2 : Int) : qqz a0 a1 a2 = (
gd ((4 : Int) ≠ 0) <|
gd ((2 : Int) ≠ 0) <|
gd ((2 : Int) ≠ 0) <|
some (if (if (IntKind.wrap .i32 (Int.tdiv (IntKind.wrap .i32 ((IntKind.wrap .i32 ((IntKind.wrap .i32 (Int.tdiv (IntKind.wrap .i32 (a0 + (IntKind.wrap .i32 ((3 : Int) * a1)))) (4 : Int))) + (IntKind.wrap .i32 (Int.tdiv (IntKind.wrap .i32 (a0 + a2)) (2 : Int))))) + (1 : Int))) (2 : Int))) < (4095 : Int) then (IntKind.wrap .i32 (Int.tdiv (IntKind.wrap .i32 ((IntKind.wrap .i32 ((IntKind.wrap .i32 (Int.tdiv (IntKind.wrap .i32 (a0 + (IntKind.wrap .i32 ((3 : Int) * a1)))) (4 : Int))) + (IntKind.wrap .i32 (Int.tdiv (IntKind.wrap .i32 (a0 + a2)) (2 : Int))))) + (1 : Int))) (2 : Int))) else (4095 : Int)) > (1 : Int) then (if (IntKind.wrap .i32 (Int.tdiv (IntKind.wrap .i32 ((IntKind.wrap .i32 ((IntKind.wrap .i32 (Int.tdiv (IntKind.wrap .i32 (a0 + (IntKind.wrap .i32 ((3 : Int) * a1)))) (4 : Int))) + (IntKind.wrap .i32 (Int.tdiv (IntKind.wrap .i32 (a0 + a2)) (2 : Int))))) + (1 : Int))) (2 : Int))) < (4095 : Int) then (IntKind.wrap .i32 (Int.tdiv (IntKind.wrap .i32 ((IntKind.wrap .i32 ((IntKind.wrap .i32 (Int.tdiv (IntKind.wrap .i32 (a0 + (IntKind.wrap .i32 ((3 : Int) * a1)))) (4 : Int))) + (IntKind.wrap .i32 (Int.tdiv (IntKind.wrap .i32 (a0 + a2)) (2 : Int))))) + (1 : Int))) (2 : Int))) else (4095 : Int)) else (1 : Int))) := (FnI.call_eq (by kernel_rfl)).trans (by kernel_rfl)
noncomputable def qMC (acc : List AV → Bool) : Summ Tryz.prog GT := final_join_I.summ mixed acc false false
noncomputable def final_Look_I : FnI Tryz.prog GT := { f := 136, cuts := [], tab := [qtl (fun _ => true), qUz (fun _ => true), qLC (fun _ => true), qMC (fun _ => true)], fm := ⟨true, [.val (.int .i32) [], .val qPf [], .val (.int .i64) []]⟩ }
noncomputable def qTn (a0 : qIa) (a1 : (List Int)) (a2 : Int) (a3 : Int) : Option (Int × qDb × Int) := final_Look_I.call [(.agg qpb (inj false qpb a0)), (.agg (.arr 2 (.int .i64)) a1), (.int .i32 a2), (.int .i32 a3)] []
theorem qir (a0 : qIa) (a1 : (List Int)) (a2 : Int) (a3 : Int) : qTn a0 a1 a2 a3 = (
(qKi a0).bind fun r1 =>
if (r1 != (0 : Int)) = true then
some ((0 : Int), (((List.replicate 2 (0 : Int)), ((List.replicate 2 (0 : Int)), ())), r1))
else
gd (0 ≤ (0 : Int)) <|
gd ((0 : Int) < (2 : Int)) <|
(qjl a0.1 (List.getD a1 0 (0 : Int)) a2).bind fun r2 =>
gd (0 ≤ (1 : Int)) <|
gd ((1 : Int) < (2 : Int)) <|
(qjl a0.2.1 (List.getD a1 1 (0 : Int)) a2).bind fun r3 =>
if (r2.2.2 != (0 : Int)) = true then
some ((0 : Int), (((List.replicate 2 (0 : Int)), ((List.replicate 2 (0 : Int)), ())), (2 : Int)))
else
if (r3.2.2 != (0 : Int)) = true then
some ((0 : Int), (((List.replicate 2 (0 : Int)), ((List.replicate 2 (0 : Int)), ())), (2 : Int)))
else
(qqs a3).bind fun r4 =>
if (not r4) = true then
some ((0 : Int), (((List.replicate 2 (0 : Int)), ((List.replicate 2 (0 : Int)), ())), (2 : Int)))
else
(qqz a3 r2.1 r3.1).bind fun r5 =>
some (r5, ((a1, ((List.set (List.set (List.replicate 2 (0 : Int)) 0 r2.2.1) 1 r3.2.1), ())), (0 : Int)))) := (FnI.call_eq (by kernel_rfl)).trans (by kernel_rfl)
noncomputable def qRC (acc : List AV → Bool) : Summ Tryz.prog GT := final_Look_I.summ mixed acc false false
noncomputable def predict_see_I : FnI Tryz.prog GT := { f := 98, cuts := [⟨(4, 3), [1, 2, 3, 28, 29, 30], false, false, []⟩], tab := [qiA (fun _ => true), qPu (fun _ => true), qTJ (fun _ => true), qxt (fun _ => true), qqA (fun _ => true), qAE (fun _ => true), qcu (fun _ => true), qNC (fun _ => true), qRC (fun _ => true)], fm := ⟨true, [.val qxb []]⟩ }
noncomputable def qMg (a0 : qca) : Option (qMb) := predict_see_I.call [(.agg qea (inj false qea a0))] []
noncomputable def qSc (v28 : List qja) (v29 : Int) (v30 : Int) (b8 : qca) (b9a : Int) (b9bbb : (Int × (Int × (qDb × Unit)))) (b10a : Int) (b10bbb : (Int × (Int × (qDb × Unit)))) (h11 : List Int) (h12 : List Int) (h13 : List Int) (h14 : List Int) : Option (qMb) := predict_see_I.sem ⟨[.code (cIn (cIn (qaa (qGa (qaa (qaa (qaa (qda Tryz.prog 98)))))))), .inLoop (cIn (cIn (qaa (qGa (qaa (qaa (qaa (qda Tryz.prog 98)))))))), .inBlock 0, .code (qaa (qaa (qaa (qaa (qda Tryz.prog 98)))))], ⟨[(1, (.one (.ptr qea 8 []))), (2, (.one (.ptr qxb 9 []))), (3, (.one (.ptr qxb 10 []))), (28, (.one (.sl qwa false v28))), (29, (.one (.int .i64 v29))), (30, (.one (.int .i64 v30)))], [(8, some (.box qea (inj false qea b8))), (9, some (.box qxb (b9a, ((SV.ref 11 0 (List.length h11) true), ((SV.ref 12 0 (List.length h12) true), (inj false (.pair (.int .i32) (.pair (.int .i32) (.pair qPf .unit))) b9bbb)))))), (10, some (.box qxb (b10a, ((SV.ref 13 0 (List.length h13) true), ((SV.ref 14 0 (List.length h14) true), (inj false (.pair (.int .i32) (.pair (.int .i32) (.pair qPf .unit))) b10bbb)))))), (11, some (.row (.int .u8) true h11)), (12, some (.row (.int .i32) true h12)), (13, some (.row (.int .u8) true h13)), (14, some (.row (.int .i32) true h14))], 15⟩⟩
theorem qMo (a0 : qca) : qMg a0 = (
(qDp a0.2.2.2.2.2.2.2.2.1).bind fun r1 =>
qSc a0.2.2.1 (Int.ofNat (List.length a0.2.2.1)) (0 : Int) a0 (0 : Int) ((0 : Int), ((0 : Int), (((List.replicate 2 (0 : Int)), ((List.replicate 2 (0 : Int)), ())), ()))) r1.1 ((0 : Int), ((0 : Int), (((List.replicate 2 (0 : Int)), ((List.replicate 2 (0 : Int)), ())), ()))) [] [] [] []) := (FnI.call_eq (by kernel_rfl)).trans (by kernel_rfl)
theorem qHe (v28 : List qja) (v29 : Int) (v30 : Int) (b8 : qca) (b9a : Int) (b9bbb : (Int × (Int × (qDb × Unit)))) (b10a : Int) (b10bbb : (Int × (Int × (qDb × Unit)))) (h11 : List Int) (h12 : List Int) (h13 : List Int) (h14 : List Int) : qSc v28 v29 v30 b8 b9a b9bbb b10a b10bbb h11 h12 h13 h14 = (
if (decide (v30 < v29)) = true then
gd (0 ≤ v30) <|
gd (v30 < (Int.ofNat (List.length v28))) <|
gd (0 ≤ v30) <|
gd (v30 < (6 : Int)) <|
(qpq (List.getD v28 (Int.toNat v30) (qpa qwa)) (List.getD b8.2.2.2.2.2.2.2.2.2.2.1 (Int.toNat v30) (0 : Int)) b10a).bind fun r2 =>
gd (0 ≤ v30) <|
gd (v30 < (Int.ofNat (List.length b8.2.2.2.1))) <|
(qyF (List.getD b8.2.2.2.1 (Int.toNat v30) (qpa qna)) r2.1).bind fun r3 =>
gd ((List.length (h13 ++ [r2.1])) * 1 ≤ 140737488355328) <|
gd ((16 : Int) ≠ 0) <|
(qVj (IntKind.wrap .i32 (Int.tdiv r3.1 (16 : Int)))).bind fun r4 =>
gd ((List.length (h14 ++ [r4])) * 4 ≤ 140737488355328) <|
qSc v28 v29 (IntKind.wrap .i64 (v30 + (1 : Int))) b8 b9a b9bbb b10a b10bbb h11 h12 (h13 ++ [r2.1]) (h14 ++ [r4])
else
(qJp b8.2.2.2.2.2.2.2.1 b8.2.1 b8.2.2.2.2.2.2.2.2.1).bind fun r5 =>
gd ((List.length (h14 ++ [r5.1, (256 : Int)])) * 4 ≤ 140737488355328) <|
(qPv b8.2.2.2.2.1 b8.2.2.2.2.2.2.2.2.1.1 (h14 ++ [r5.1, (256 : Int)])).bind fun r6 =>
(qpk b8.2.1).bind fun r7 =>
(qrs r7.1 r7.2.1 b8.2.2.2.2.2.2.2.2.1.1).bind fun r8 =>
(qTn b8.2.2.2.2.2.1 r8.1 r6.1 r6.2.1).bind fun r9 =>
some (b10a, (h13, ((h14 ++ [r5.1, (256 : Int)]), (r6.2.1, (r9.1, (r9.2.1, b10bbb.2.2.2))))))) := (FnI.sem_eq _).trans (by kernel_rfl)
noncomputable def qDq (acc : List AV → Bool) : Summ Tryz.prog GT := predict_see_I.summ mixed acc false false
noncomputable def predict_P_I : FnI Tryz.prog GT := { f := 73, cuts := [], tab := [qwm (fun _ => true), qDq (fun _ => true)], fm := ⟨true, [.val (.int .i64) [], .val (.int .i64) []]⟩ }
noncomputable def qrv (a0 : qca) : Option (Int × Int) := predict_P_I.call [(.agg qea (inj false qea a0))] []
theorem qgC (a0 : qca) : qrv a0 = (
(qbi a0).bind fun r1 =>
if (r1 != (0 : Int)) = true then
some ((0 : Int), r1)
else
(qMg a0).bind fun r2 =>
some ((IntKind.wrap .i64 r2.2.2.2.2.1), (0 : Int))) := (FnI.call_eq (by kernel_rfl)).trans (by kernel_rfl)
noncomputable def quE (acc : List AV → Bool) : Summ Tryz.prog GT := predict_P_I.summ mixed acc false false
noncomputable def decoder_Check_I : FnI Tryz.prog GT := { f := 99, cuts := [], tab := [], fm := ⟨true, [.val (.int .i64) []]⟩ }
noncomputable def qmr (a0 : qCa) : Option (Int) := decoder_Check_I.call [(.agg qEa (inj false qEa a0))] []
theorem qau (a0 : qCa) : qmr a0 = (
if (decide (a0.1 ≥ a0.2.1)) = true then
some (8 : Int)
else
gd (0 ≤ (24 : Int)) <|
gd (0 ≤ (24 : Int)) <|
if ((Int.fdiv a0.1 (16777216 : Int)) == (Int.fdiv a0.2.1 (16777216 : Int))) = true then
some (8 : Int)
else
if (decide (a0.2.2.1 < a0.1)) = true then
some (8 : Int)
else
if (decide (a0.2.2.1 > a0.2.1)) = true then
some (8 : Int)
else
if (decide ((Int.ofNat (List.length a0.2.2.2.1)) > (20000 : Int))) = true then
some (8 : Int)
else
if (decide (a0.2.2.2.2.1 < (4 : Int))) = true then
some (8 : Int)
else
if (decide (a0.2.2.2.2.1 > (1000000 : Int))) = true then
some (8 : Int)
else
some (0 : Int)) := (FnI.call_eq (by kernel_rfl)).trans (by kernel_rfl)
noncomputable def qOw (acc : List AV → Bool) : Summ Tryz.prog GT := decoder_Check_I.summ mixed acc false false
noncomputable def decoder_wrong_I : FnI Tryz.prog GT := { f := 100, cuts := [], tab := [], fm := ⟨true, [.val .bool []]⟩ }
noncomputable def qkr (a0 : Int) : Option (Bool) := decoder_wrong_I.call [(.int .i64 a0)] []
theorem qYt (a0 : Int) : qkr a0 = (
if (decide (a0 < (0 : Int))) = true then
some (true)
else
some (decide (a0 > (4095 : Int)))) := (FnI.call_eq (by kernel_rfl)).trans (by kernel_rfl)
noncomputable def qLw (acc : List AV → Bool) : Summ Tryz.prog GT := decoder_wrong_I.summ mixed acc false false
noncomputable def encoder_prob_I : FnI Tryz.prog GT := { f := 106, cuts := [], tab := [], fm := ⟨true, [.val .bool []]⟩ }
noncomputable def qwh (a0 : Int) : Option (Bool) := encoder_prob_I.call [(.int .i64 a0)] []
theorem qUm (a0 : Int) : qwh a0 = (
if (decide (a0 ≥ (0 : Int))) = true then
some (decide (a0 ≤ (4095 : Int)))
else
some (false)) := (FnI.call_eq (by kernel_rfl)).trans (by kernel_rfl)
noncomputable def qdp (acc : List AV → Bool) : Summ Tryz.prog GT := encoder_prob_I.summ mixed acc false false
end Go.Ab
