/-
  What the functions compute, as plain functions: printed by a program of this repo's own and checked here by the kernel.
-/
import Derived.Test.YtdhmnakopofmpaaGreatDoorGenZ
set_option linter.unusedVariables false
set_option linter.unusedSimpArgs false
namespace Go.Ab
open Go Go.Proofs Go.RowKit
/-! byte -/
def slices_Delete_u8 (xs : List Int) (i j : Int) : Option (List Int) :=
  if 0 ≤ i ∧ i ≤ j ∧ j ≤ xs.length ∧ xs.length ≤ 140737488355328 then some (xs.take i.toNat ++ xs.drop j.toNat) else none
def slices_Insert_u8 (xs : List Int) (i : Int) (ys : List Int) : Option (List Int) :=
  if 0 ≤ i ∧ i ≤ xs.length ∧ (xs.length + ys.length) * 8 ≤ 140737488355328 then some (xs.take i.toNat ++ ys ++ xs.drop i.toNat) else none
def slices_Delete_u8_fn : List AV → List (Nat × Obj) → Option (List Int)
  | [.ref (.int .u8) 0 off n wh, .int .i64 i, .int .i64 j], [(0, .row (.int .u8) _ xs)] => slices_Delete_u8 (seg xs off n wh) i j
  | _, _ => none
def slices_Insert_u8_fn : List AV → List (Nat × Obj) → Option (List Int)
  | [.ref (.int .u8) 0 off n wh, .int .i64 i, .ref (.int .u8) 1 off2 m wh2], [(0, .row (.int .u8) _ xs), (1, .row (.int .u8) _ ys)] => slices_Insert_u8 (seg xs off n wh) i (seg ys off2 m wh2)
  | _, _ => none
set_option maxRecDepth 100000 in
theorem slices_Delete_u8_ok {GT : GTab} {avs : List AV} {pre : List (Nat × Obj)} {r : List Int} (h : slices_Delete_u8_fn avs pre = some r) : CallOK Tryz.prog GT 28 avs pre (.one (.ref (.int .u8) 8 0 r.length true)) [(8, .row (.int .u8) true r)] := by
  unfold slices_Delete_u8_fn at h
  split at h
  · rename_i off n wh i j f xs
    unfold slices_Delete_u8 at h
    split at h
    · rename_i hc
      obtain ⟨c1, c2, c3, c4⟩ := hc
      injection h with h; subst h
      intro w F G K vs hg hI hG hK hF hv
      obtain ⟨v1, r1, rfl, h1, h2⟩ := hv
      obtain ⟨v2, r2, rfl, h2, h3⟩ := h2
      obtain ⟨v3, r3, rfl, h3, h4⟩ := h3
      simp only [VRdL] at h4; subst h4
      simp only [VRd] at h2 h3; subst h2; subst h3
      have hng := hg.1
      have h8 : 8 ∉ ([(0, Obj.row (.int .u8) f xs)] : List (Nat × Obj)).map (·.1) := by simp
      have hK8 : K 8 = none := hK 8 rfl
      obtain ⟨q1, q2⟩ := row_open hI (l := 0) (fr := f) (xs := xs) rfl h1
      generalize seg xs off n wh = zs at *
      obtain ⟨i, rfl⟩ := Int.eq_ofNat_of_zero_le c1
      obtain ⟨j, rfl⟩ := Int.eq_ofNat_of_zero_le (Int.le_trans c1 c2)
      have c2' : i ≤ j := by omega
      have c3' : j ≤ n := by omega
      rw [Int.toNat_natCast, Int.toNat_natCast]
      refine called_of (by kernel_rfl) (by kernel_rfl) ?_
      rcases q2 with ⟨rfl, hn⟩ | ⟨p, o, cap, k1, rfl, hcap, hpl, hb, hcs⟩
      · have hz : zs = [] := List.eq_nil_of_length_eq_zero (by omega)
        subst hz
        have hi0 : i = 0 := by omega
        have hj0 : j = 0 := by omega
        subst hi0; subst hj0; subst hn
        refine (Ins.del0B none 0 0 0 w (Nat.le_refl _) (Nat.le_refl _) (by omega)).mono ?_
        rintro e w' ⟨rfl, rfl⟩
        obtain ⟨K', k2, k3, k4⟩ := row_none8 hI hng hK8 h8 (k := .u8)
        exact ⟨_, rfl, K', k2, k3, k4⟩
      · by_cases hij : i = j
        · subst hij
          refine (Ins.del0B _ n cap i w c3' hcap (by omega)).mono ?_
          rintro e w' ⟨rfl, rfl⟩
          rw [List.take_append_drop]
          obtain ⟨K', k2, k3, k4⟩ := row_move8 (k := .u8) (o := o) (cap := cap) (zs := zs) hI rfl k1 hK8 h8 ⟨rfl, rfl, rfl, rfl, fun _ _ => rfl⟩ hb (by omega) hpl hcs
          rw [q1] at k4 ⊢
          exact ⟨_, rfl, K', k2, k3, k4⟩
        · have hpl' := hpl.resolve_left (by omega)
          have hml : (zs.map fun x => Value.int .u8 x).length = n := by rw [List.length_map, q1]
          refine (Ins.delB p.blk o n cap i j _ w hml hcap (by omega) (by omega) c3' hcs (fun t ht => hb.never (p := ⟨p.blk, 0, p.bs⟩) _) (fun v hv => by
            obtain ⟨x, _, rfl⟩ := List.mem_map.1 hv; rfl)).mono ?_
          rintro e w' ⟨rfl, rfl⟩
          have hlen : (zs.take i ++ zs.drop j).length = n - (j - i) := by rw [List.length_append, List.length_take, List.length_drop]; omega
          have hdl : ((zs.map fun x => Value.int .u8 x).drop j).length = n - j := by rw [List.length_drop, hml]
          have his : ∀ t, t < cap → ((w.drew).cell? ⟨p.blk, o + t, none⟩).isSome = true := fun t ht => hb.is (p := ⟨p.blk, 0, p.bs⟩) (by show o + t < p.bs; omega)
          have hb1 := InBlk.set (w := w.drew) (o := o + i) (s := (zs.map fun x => Value.int .u8 x).drop j) hb (by rw [hdl]; omega)
          have hb2 := InBlk.set (o := o + (i + (n - j))) (s := List.replicate (j - i) (Value.int .u8 0)) hb1 (by rw [List.length_replicate]; omega)
          have s1 := setCells_same p.blk ((zs.map fun x => Value.int .u8 x).drop j) (o + i) w.drew
          have s2 := setCells_same p.blk (List.replicate (j - i) (Value.int .u8 0)) (o + (i + (n - j))) (w.drew.setCells p.blk (o + i) ((zs.map fun x => Value.int .u8 x).drop j))
          obtain ⟨K', k2, k3, k4⟩ := row_move8 (k := .u8) (o := o) (cap := cap) (zs := zs.take i ++ zs.drop j) hI rfl k1 hK8 h8
            ⟨s2.1.trans s1.1, s2.2.1.trans s1.2.1, s2.2.2.1.trans s1.2.2.1, s2.2.2.2.1.trans s1.2.2.2.1, fun k hk => (s2.2.2.2.2 k hk).trans (s1.2.2.2.2 k hk)⟩ hb2 (by omega) hpl (fun t v ht => by
              have htl := (List.getElem?_eq_some_iff.1 ht).1
              rw [List.length_map, hlen] at htl
              rw [List.map_append, List.map_take, List.map_drop] at ht
              have htk : ((zs.map fun x => Value.int .u8 x).take i).length = i := by rw [List.length_take, hml]; omega
              rw [World.cell?_setCells_out _ _ _ _ _ (fun _ _ => by show o + t < o + (i + (n - j)) ∨ _; omega)]
              by_cases h1 : t < i
              · rw [World.cell?_setCells_out _ _ _ _ _ (fun _ _ => by show o + t < o + i ∨ _; omega)]
                rw [List.getElem?_append_left (by omega), List.getElem?_take, if_pos h1] at ht
                exact hcs t v ht
              · rw [List.getElem?_append_right (by omega), htk] at ht
                have := World.cell?_setCells_in p.blk ((zs.map fun x => Value.int .u8 x).drop j) (o + i) w.drew (fun t ht => by rw [Nat.add_assoc]; exact his _ (by omega)) (t - i) (by omega)
                rw [show o + i + (t - i) = o + t by omega] at this
                exact this.trans ((List.getElem?_eq_getElem _).symm.trans ht))
          rw [hlen] at k4 ⊢
          exact ⟨_, rfl, K', k2, k3, k4⟩
    · cases h
  · cases h
set_option maxRecDepth 100000 in
theorem slices_Insert_u8_ok {GT : GTab} {avs : List AV} {pre : List (Nat × Obj)} {r : List Int} (h : slices_Insert_u8_fn avs pre = some r) : CallOK Tryz.prog GT 29 avs pre (.one (.ref (.int .u8) 8 0 r.length true)) [(8, .row (.int .u8) true r)] := by
  unfold slices_Insert_u8_fn at h
  split at h
  · rename_i off n wh i off2 m wh2 f xs f2 ys
    unfold slices_Insert_u8 at h
    split at h
    · rename_i hc
      obtain ⟨c1, c2, c3⟩ := hc
      injection h with h; subst h
      intro w F G K vs hg hI hG hK hF hv
      obtain ⟨v1, r1, rfl, h1, h2⟩ := hv
      obtain ⟨v2, r2, rfl, h2, h3⟩ := h2
      obtain ⟨v3, r3, rfl, h3, h4⟩ := h3
      simp only [VRdL] at h4; subst h4
      simp only [VRd] at h2; subst h2
      have hng := hg.1
      have h8 : 8 ∉ ([(0, Obj.row (.int .u8) f xs), (1, Obj.row (.int .u8) f2 ys)] : List (Nat × Obj)).map (·.1) := by simp
      have hK8 : K 8 = none := hK 8 rfl
      obtain ⟨q1, q2⟩ := row_open hI (l := 0) (fr := f) (xs := xs) rfl h1
      obtain ⟨u1, u2⟩ := row_open hI (l := 1) (fr := f2) (xs := ys) rfl h3
      have hapart : ∀ (p p' : Plc), K 0 = some ⟨.row (.int .u8) xs.length, some p⟩ → K 1 = some ⟨.row (.int .u8) ys.length, some p'⟩ → p'.blk ≠ p.blk := fun p p' e1 e2 e => by
        have := hI.inj 1 0 _ _ _ _ p' p rfl rfl e2 e1 rfl rfl e
        omega
      generalize seg xs off n wh = zs at *
      generalize seg ys off2 m wh2 = us at *
      obtain ⟨i, rfl⟩ := Int.eq_ofNat_of_zero_le c1
      have c2' : i ≤ n := by omega
      rw [Int.toNat_natCast]
      have hzl : (zs.map fun x => Value.int .u8 x).length = n := by rw [List.length_map, q1]
      have hul : (us.map fun x => Value.int .u8 x).length = m := by rw [List.length_map, u1]
      have hone : ∀ (ls : List Int), ∀ v ∈ ls.map (fun x => Value.int .u8 x), v.oneCell' = true := fun ls v hv => by
        obtain ⟨x, _, rfl⟩ := List.mem_map.1 hv; rfl
      refine called_of (by kernel_rfl) (by kernel_rfl) ?_
      by_cases hm0 : m = 0
      · -- nothing is put in
        subst hm0
        have hu0 : us = [] := List.eq_nil_of_length_eq_zero u1
        subst hu0
        rw [List.append_nil, List.take_append_drop]
        have hv3 : ∃ a vc, v3 = .slice a 0 vc := by
          rcases u2 with ⟨rfl, _⟩ | ⟨_, _, _, _, rfl, _⟩ <;> exact ⟨_, _, rfl⟩
        obtain ⟨a3, vc, rfl⟩ := hv3
        rcases q2 with ⟨rfl, hn⟩ | ⟨p, o, cap, k1, rfl, hcap, hpl, hb, hcs⟩
        · have hz : zs = [] := List.eq_nil_of_length_eq_zero (by omega)
          subst hz
          have hi0 : i = 0 := by omega
          subst hi0; subst hn
          refine (Ins.ins0B none 0 0 0 a3 vc w (Nat.le_refl _) (Nat.le_refl _) (by omega)).mono ?_
          rintro e w' ⟨rfl, rfl⟩
          obtain ⟨K', k2, k3, k4⟩ := row_none8 hI hng hK8 h8 (k := .u8)
          exact ⟨_, rfl, K', k2, k3, k4⟩
        · refine (Ins.ins0B _ n cap i a3 vc w c2' hcap (by omega)).mono ?_
          rintro e w' ⟨rfl, rfl⟩
          obtain ⟨K', k2, k3, k4⟩ := row_move8 (k := .u8) (o := o) (cap := cap) (zs := zs) hI rfl k1 hK8 h8 ⟨rfl, rfl, rfl, rfl, fun _ _ => rfl⟩ hb (by omega) hpl hcs
          rw [q1] at k4 ⊢
          exact ⟨_, rfl, K', k2, k3, k4⟩
      · rcases u2 with ⟨_, hu⟩ | ⟨p', o', cap', k1', rfl, hcap', hpl', hb', hcs'⟩
        · omega
        have hlen : (zs.take i ++ us ++ zs.drop i).length = n + m := by rw [List.length_append, List.length_append, List.length_take, List.length_drop]; omega
        have hpl'' := hpl'.resolve_left (by omega)
        by_cases hin : i = n
        · -- at the end
          subst hin
          have hrow : zs.take i ++ us ++ zs.drop i = zs ++ us := by rw [List.take_of_length_le (by omega), List.drop_of_length_le (by omega), List.append_nil]
          rw [hrow] at hlen ⊢
          have grown : ∀ (base : Option Addr) (cap : Nat), i ≤ cap → cap < i + m → (base = none → i = 0) → (∀ a, base = some a → ∀ (t : Nat) v, (zs.map fun x => Value.int .u8 x)[t]? = some v → w.cell? (a.add t) = some v) →
              Calls Tryz.prog 29 #[.slice base i cap, .int .i64 i, .slice (some ⟨p'.blk, o', none⟩) m cap'] w fun e w' => ∃ v, e = .returned v ∧ ∃ K', (∀ l gh, K l = some gh → K' l = some gh) ∧ Inv ⟨w, F, G, ngOf GT⟩ (lookL [(8, .row (.int .u8) true (zs ++ us))]) K' w' ∧ RefRd K' (.int .u8) 8 0 (zs ++ us).length true v := by
            intro base cap hcap hroom hnil hbs
            refine (Ins.insEndGB base i cap p'.blk o' m cap' _ _ w (by omega) hcap hroom (by omega) hzl hul hnil hbs hcs' (hone us)).mono ?_
            rintro e w' ⟨rfl, rfl⟩
            have hge := grownCap_ge w (i + m) cap 5
            generalize grownCap w (i + m) cap 5 = gc at *
            generalize hr : (((zs.map fun x => Value.int .u8 x) ++ us.map fun x => Value.int .u8 x).toArray ++ Builtin.zeroCells (Value.int .u8 0).cells (gc - (i + m))) = arr
            have hsz : arr.size = gc := by
              rw [← hr, Array.size_append, List.size_toArray, List.length_append, hzl, hul]
              have : (Builtin.zeroCells (Value.int .u8 0).cells (gc - (i + m))).size = gc - (i + m) := by simp [Builtin.zeroCells, Value.cells]
              omega
            have hbn := InBlk.new w.drew arr 5
            obtain ⟨K', k2, k3, k4⟩ := row_new8 (k := .u8) (bs := gc) (cap := gc) (zs := zs ++ us) hI hng hK8 h8 (alloc_same w.drew _) (by rw [← hsz]; exact hbn.bare) (by omega) (Nat.le_refl _) (fun t v ht => by
              have := hbn.cells t v (by
                rw [Array.getElem?_toList, ← hr, Array.getElem?_append_left (by rw [List.size_toArray, ← List.map_append]; exact (List.getElem?_eq_some_iff.1 ht).1), List.getElem?_toArray, ← List.map_append]
                exact ht)
              exact this)
            rw [hlen] at k4 ⊢
            exact ⟨_, rfl, K', k2, k3, k4⟩
          rcases q2 with ⟨rfl, hn⟩ | ⟨p, o, cap, k1, rfl, hcap, hpl, hb, hcs⟩
          · subst hn
            exact grown none 0 (Nat.le_refl _) (by omega) (fun _ => rfl) (fun a ha => by cases ha)
          · by_cases hroom : i + m ≤ cap
            · have hplo := hpl.resolve_left (by omega)
              refine (Ins.insEndB p.blk o i cap p'.blk o' m cap' _ w (by omega) hroom (by omega) hul (fun t ht => hb.is (p := ⟨p.blk, 0, p.bs⟩) (by show o + i + t < p.bs; omega)) (fun t ht => hb.never (p := ⟨p.blk, 0, p.bs⟩) _) hcs' (hone us)).mono ?_
              rintro e w' ⟨rfl, rfl⟩
              have hb1 := InBlk.set (w := w) (o := o + i) (s := us.map fun x => Value.int .u8 x) hb (by rw [hul]; omega)
              obtain ⟨K', k2, k3, k4⟩ := row_move8 (k := .u8) (o := o) (cap := cap) (zs := zs ++ us) hI rfl k1 hK8 h8 (setCells_same p.blk _ (o + i) w) hb1 (by omega) hpl (fun t v ht => by
                have htl := (List.getElem?_eq_some_iff.1 ht).1
                rw [List.length_map, hlen] at htl
                rw [List.map_append] at ht
                by_cases h1 : t < i
                · rw [World.cell?_setCells_out _ _ _ _ _ (fun _ _ => by show o + t < o + i ∨ _; omega)]
                  rw [List.getElem?_append_left (by omega)] at ht
                  exact hcs t v ht
                · rw [List.getElem?_append_right (by omega), hzl] at ht
                  have := World.cell?_setCells_in p.blk (us.map fun x => Value.int .u8 x) (o + i) w (fun t ht => hb.is (p := ⟨p.blk, 0, p.bs⟩) (by show o + i + t < p.bs; omega)) (t - i) (by omega)
                  rw [show o + i + (t - i) = o + t by omega] at this
                  exact this.trans ((List.getElem?_eq_getElem _).symm.trans ht))
              rw [hlen] at k4 ⊢
              exact ⟨_, rfl, K', k2, k3, k4⟩
            · exact grown _ cap hcap (by omega) (fun h => by cases h) (fun a ha t v ht => by
                injection ha with ha; subst ha
                rw [Addr.add_lit]; exact hcs t v ht)
        · -- in the middle
          rcases q2 with ⟨_, hn⟩ | ⟨p, o, cap, k1, rfl, hcap, hpl, hb, hcs⟩
          · omega
          have hplo := hpl.resolve_left (by omega)
          have hdl : ((zs.map fun x => Value.int .u8 x).drop i).length = n - i := by rw [List.length_drop, hzl]
          have htk : ((zs.map fun x => Value.int .u8 x).take i).length = i := by rw [List.length_take, hzl]; omega
          -- what stands where
          have place : ∀ (W0 : World) (b q : Nat), (∀ t, t < n + m → (W0.cell? ⟨b, q + t, none⟩).isSome = true) → (∀ (t : Nat) v, t < i → (zs.map fun x => Value.int .u8 x)[t]? = some v → W0.cell? ⟨b, q + t, none⟩ = some v) →
              CellsAt ((W0.setCells b (q + (i + m)) ((zs.map fun x => Value.int .u8 x).drop i)).setCells b (q + i) (us.map fun x => Value.int .u8 x)) b q ((zs.take i ++ us ++ zs.drop i).map fun x => Value.int .u8 x) ∧
              CellsAt ((W0.setCells b (q + i) (us.map fun x => Value.int .u8 x)).setCells b (q + (i + m)) ((zs.map fun x => Value.int .u8 x).drop i)) b q ((zs.take i ++ us ++ zs.drop i).map fun x => Value.int .u8 x) := by
            intro W0 b q his hfst
            constructor
            all_goals
              intro t v ht
              have htl := (List.getElem?_eq_some_iff.1 ht).1
              rw [List.length_map, hlen] at htl
              rw [List.map_append, List.map_append, List.map_take, List.map_drop] at ht
            · by_cases h1 : t < i
              · rw [World.cell?_setCells_out _ _ _ _ _ (fun _ _ => by show q + t < q + i ∨ _; omega), World.cell?_setCells_out _ _ _ _ _ (fun _ _ => by show q + t < q + (i + m) ∨ _; omega)]
                rw [List.append_assoc, List.getElem?_append_left (by omega), List.getElem?_take, if_pos h1] at ht
                exact hfst t v h1 ht
              · by_cases h2 : t < i + m
                · rw [List.append_assoc, List.getElem?_append_right (by omega), htk, List.getElem?_append_left (by omega)] at ht
                  have := World.cell?_setCells_in b (us.map fun x => Value.int .u8 x) (q + i) (W0.setCells b (q + (i + m)) ((zs.map fun x => Value.int .u8 x).drop i)) (fun t ht => by
                    rw [Nat.add_assoc]
                    exact isSome_setCells b _ _ _ (fun j hj => by rw [Nat.add_assoc]; exact his _ (by omega)) _ (his _ (by omega))) (t - i) (by omega)
                  rw [show q + i + (t - i) = q + t by omega] at this
                  exact this.trans ((List.getElem?_eq_getElem _).symm.trans ht)
                · rw [World.cell?_setCells_out _ _ _ _ _ (fun _ _ => by show _ ∨ q + i + _ ≤ q + t; omega)]
                  rw [List.getElem?_append_right (by rw [List.length_append]; omega), List.length_append, htk, hul] at ht
                  have := World.cell?_setCells_in b ((zs.map fun x => Value.int .u8 x).drop i) (q + (i + m)) W0 (fun t ht => by rw [Nat.add_assoc]; exact his _ (by omega)) (t - (i + m)) (by omega)
                  rw [show q + (i + m) + (t - (i + m)) = q + t by omega] at this
                  exact this.trans ((List.getElem?_eq_getElem _).symm.trans ht)
            · by_cases h1 : t < i
              · rw [World.cell?_setCells_out _ _ _ _ _ (fun _ _ => by show q + t < q + (i + m) ∨ _; omega), World.cell?_setCells_out _ _ _ _ _ (fun _ _ => by show q + t < q + i ∨ _; omega)]
                rw [List.append_assoc, List.getElem?_append_left (by omega), List.getElem?_take, if_pos h1] at ht
                exact hfst t v h1 ht
              · by_cases h2 : t < i + m
                · rw [World.cell?_setCells_out _ _ _ _ _ (fun _ _ => by show q + t < q + (i + m) ∨ _; omega)]
                  rw [List.append_assoc, List.getElem?_append_right (by omega), htk, List.getElem?_append_left (by omega)] at ht
                  have := World.cell?_setCells_in b (us.map fun x => Value.int .u8 x) (q + i) W0 (fun t ht => by rw [Nat.add_assoc]; exact his _ (by omega)) (t - i) (by omega)
                  rw [show q + i + (t - i) = q + t by omega] at this
                  exact this.trans ((List.getElem?_eq_getElem _).symm.trans ht)
                · rw [List.getElem?_append_right (by rw [List.length_append]; omega), List.length_append, htk, hul] at ht
                  have := World.cell?_setCells_in b ((zs.map fun x => Value.int .u8 x).drop i) (q + (i + m)) (W0.setCells b (q + i) (us.map fun x => Value.int .u8 x)) (fun t ht => by
                    rw [Nat.add_assoc]
                    exact isSome_setCells b _ _ _ (fun j hj => by rw [Nat.add_assoc]; exact his _ (by omega)) _ (his _ (by omega))) (t - (i + m)) (by omega)
                  rw [show q + (i + m) + (t - (i + m)) = q + t by omega] at this
                  exact this.trans ((List.getElem?_eq_getElem _).symm.trans ht)
          by_cases hroom : n + m ≤ cap
          · obtain ⟨tA, hsa⟩ := hb'.shape
            obtain ⟨tB, hsb⟩ := hb.shape
            have his : ∀ t, t < n + m → (w.cell? ⟨p.blk, o + t, none⟩).isSome = true := fun t ht => hb.is (p := ⟨p.blk, 0, p.bs⟩) (by show o + t < p.bs; omega)
            refine (Ins.insShiftB p.blk o n cap i p'.blk o' m cap' _ _ w (by omega) (by omega) hroom (by omega) (hapart p p' k1 k1') hzl hul hcs his
              (fun t ht => hb.never (p := ⟨p.blk, 0, p.bs⟩) _) hcs' (hone zs) (hone us) tA tB p'.bs p.bs hsa hsb (by omega) (hb'.never (p := ⟨p'.blk, 0, p'.bs⟩) _) (hb'.never (p := ⟨p'.blk, 0, p'.bs⟩) _)).mono ?_
            rintro e w' ⟨rfl, rfl⟩
            have hb1 := InBlk.set (w := w.drew) (o := o + (i + m)) (s := (zs.map fun x => Value.int .u8 x).drop i) hb (by rw [hdl]; omega)
            have hb2 := InBlk.set (o := o + i) (s := us.map fun x => Value.int .u8 x) hb1 (by rw [hul]; omega)
            have s1 := setCells_same p.blk ((zs.map fun x => Value.int .u8 x).drop i) (o + (i + m)) w.drew
            have s2 := setCells_same p.blk (us.map fun x => Value.int .u8 x) (o + i) (w.drew.setCells p.blk (o + (i + m)) ((zs.map fun x => Value.int .u8 x).drop i))
            obtain ⟨K', k2, k3, k4⟩ := row_move8 (k := .u8) (o := o) (cap := cap) (zs := zs.take i ++ us ++ zs.drop i) hI rfl k1 hK8 h8
              ⟨s2.1.trans s1.1, s2.2.1.trans s1.2.1, s2.2.2.1.trans s1.2.2.1, s2.2.2.2.1.trans s1.2.2.2.1, fun k hk => (s2.2.2.2.2 k hk).trans (s1.2.2.2.2 k hk)⟩ hb2 (by omega) hpl
              (place w.drew p.blk o his (fun t v _ ht => hcs t v ht)).1
            rw [hlen] at k4 ⊢
            exact ⟨_, rfl, K', k2, k3, k4⟩
          · refine (Ins.insGrowB p.blk o n cap i p'.blk o' m cap' _ _ w (by omega) (by omega) hcap (by omega) (by omega) hzl hul hcs hcs' (hone zs) (hone us)).mono ?_
            rintro e w' ⟨rfl, rfl⟩
            have hge := grownCap_ge w (n + m) cap 5
            generalize grownCap w (n + m) cap 5 = gc at *
            generalize hr : (((zs.map fun x => Value.int .u8 x).take i).toArray ++ Builtin.zeroCells (Value.int .u8 0).cells (n + m - i) ++ Builtin.zeroCells (Value.int .u8 0).cells (gc - (n + m))) = arr
            have hsz : arr.size = gc := by
              have z1 : (Builtin.zeroCells (Value.int .u8 0).cells (n + m - i)).size = n + m - i := by simp [Builtin.zeroCells, Value.cells]
              have z2 : (Builtin.zeroCells (Value.int .u8 0).cells (gc - (n + m))).size = gc - (n + m) := by simp [Builtin.zeroCells, Value.cells]
              rw [← hr, Array.size_append, Array.size_append, List.size_toArray, htk]
              omega
            have hbn := InBlk.new w arr 5
            have hb0 : InBlk ((w.alloc (.cells arr 5)).drew) ⟨w.heap.size, 0, gc⟩ [] := by rw [← hsz]; exact hbn.bare
            have hb1 := InBlk.set (o := i) (s := us.map fun x => Value.int .u8 x) hb0 (by rw [hul]; omega)
            have hb1' : InBlk (((w.alloc (.cells arr 5)).drew.setCells w.heap.size i (us.map fun x => Value.int .u8 x)).drew) ⟨w.heap.size, 0, gc⟩ [] := hb1
            have hb2 := InBlk.set (o := i + m) (s := (zs.map fun x => Value.int .u8 x).drop i) hb1' (by rw [hdl]; omega)
            have s0 := alloc_same w (.cells arr 5)
            have s1 := setCells_same w.heap.size (us.map fun x => Value.int .u8 x) i (w.alloc (.cells arr 5)).drew
            have s2 := setCells_same w.heap.size ((zs.map fun x => Value.int .u8 x).drop i) (i + m) ((w.alloc (.cells arr 5)).drew.setCells w.heap.size i (us.map fun x => Value.int .u8 x)).drew
            have hpc := (place ((w.alloc (.cells arr 5)).drew) w.heap.size 0 (fun t ht => hb0.is (p := ⟨w.heap.size, 0, gc⟩) (by show 0 + t < gc; omega)) (fun t v h1 ht => by
              refine hbn.cells t v ?_
              rw [Array.getElem?_toList, ← hr, Array.append_assoc, Array.getElem?_append_left (by rw [List.size_toArray, htk]; exact h1), List.getElem?_toArray, List.getElem?_take, if_pos h1]
              exact ht)).2
            rw [Nat.zero_add, Nat.zero_add] at hpc
            obtain ⟨K', k2, k3, k4⟩ := row_new8 (k := .u8) (bs := gc) (cap := gc) (zs := zs.take i ++ us ++ zs.drop i) hI hng hK8 h8
              ⟨s2.1.trans (s1.1.trans s0.1), s2.2.1.trans (s1.2.1.trans s0.2.1), s2.2.2.1.trans (s1.2.2.1.trans s0.2.2.1), by rw [s2.2.2.2.1]; show w.heap.size ≤ (World.setCells _ _ _ _).heap.size; rw [s1.2.2.2.1]; exact s0.2.2.2.1,
                fun k hk => (s2.2.2.2.2 k (by omega)).trans ((s1.2.2.2.2 k (by omega)).trans (s0.2.2.2.2 k hk))⟩ hb2 (by omega) (Nat.le_refl _) (fun t v ht => by
                have h5 := hpc t v ht
                rw [← drew_setCells]; exact h5)
            rw [hlen] at k4 ⊢
            exact ⟨_, rfl, K', k2, k3, k4⟩
    · cases h
  · cases h
/-! int -/
def slices_Delete_i64 (xs : List Int) (i j : Int) : Option (List Int) :=
  if 0 ≤ i ∧ i ≤ j ∧ j ≤ xs.length ∧ xs.length ≤ 140737488355328 then some (xs.take i.toNat ++ xs.drop j.toNat) else none
def slices_Insert_i64 (xs : List Int) (i : Int) (ys : List Int) : Option (List Int) :=
  if 0 ≤ i ∧ i ≤ xs.length ∧ (xs.length + ys.length) * 8 ≤ 140737488355328 then some (xs.take i.toNat ++ ys ++ xs.drop i.toNat) else none
def slices_Delete_i64_fn : List AV → List (Nat × Obj) → Option (List Int)
  | [.ref (.int .i64) 0 off n wh, .int .i64 i, .int .i64 j], [(0, .row (.int .i64) _ xs)] => slices_Delete_i64 (seg xs off n wh) i j
  | _, _ => none
def slices_Insert_i64_fn : List AV → List (Nat × Obj) → Option (List Int)
  | [.ref (.int .i64) 0 off n wh, .int .i64 i, .ref (.int .i64) 1 off2 m wh2], [(0, .row (.int .i64) _ xs), (1, .row (.int .i64) _ ys)] => slices_Insert_i64 (seg xs off n wh) i (seg ys off2 m wh2)
  | _, _ => none
set_option maxRecDepth 100000 in
theorem slices_Delete_i64_ok {GT : GTab} {avs : List AV} {pre : List (Nat × Obj)} {r : List Int} (h : slices_Delete_i64_fn avs pre = some r) : CallOK Tryz.prog GT 31 avs pre (.one (.ref (.int .i64) 8 0 r.length true)) [(8, .row (.int .i64) true r)] := by
  unfold slices_Delete_i64_fn at h
  split at h
  · rename_i off n wh i j f xs
    unfold slices_Delete_i64 at h
    split at h
    · rename_i hc
      obtain ⟨c1, c2, c3, c4⟩ := hc
      injection h with h; subst h
      intro w F G K vs hg hI hG hK hF hv
      obtain ⟨v1, r1, rfl, h1, h2⟩ := hv
      obtain ⟨v2, r2, rfl, h2, h3⟩ := h2
      obtain ⟨v3, r3, rfl, h3, h4⟩ := h3
      simp only [VRdL] at h4; subst h4
      simp only [VRd] at h2 h3; subst h2; subst h3
      have hng := hg.1
      have h8 : 8 ∉ ([(0, Obj.row (.int .i64) f xs)] : List (Nat × Obj)).map (·.1) := by simp
      have hK8 : K 8 = none := hK 8 rfl
      obtain ⟨q1, q2⟩ := row_open hI (l := 0) (fr := f) (xs := xs) rfl h1
      generalize seg xs off n wh = zs at *
      obtain ⟨i, rfl⟩ := Int.eq_ofNat_of_zero_le c1
      obtain ⟨j, rfl⟩ := Int.eq_ofNat_of_zero_le (Int.le_trans c1 c2)
      have c2' : i ≤ j := by omega
      have c3' : j ≤ n := by omega
      rw [Int.toNat_natCast, Int.toNat_natCast]
      refine called_of (by kernel_rfl) (by kernel_rfl) ?_
      rcases q2 with ⟨rfl, hn⟩ | ⟨p, o, cap, k1, rfl, hcap, hpl, hb, hcs⟩
      · have hz : zs = [] := List.eq_nil_of_length_eq_zero (by omega)
        subst hz
        have hi0 : i = 0 := by omega
        have hj0 : j = 0 := by omega
        subst hi0; subst hj0; subst hn
        refine (Ins.del0I none 0 0 0 w (Nat.le_refl _) (Nat.le_refl _) (by omega)).mono ?_
        rintro e w' ⟨rfl, rfl⟩
        obtain ⟨K', k2, k3, k4⟩ := row_none8 hI hng hK8 h8 (k := .i64)
        exact ⟨_, rfl, K', k2, k3, k4⟩
      · by_cases hij : i = j
        · subst hij
          refine (Ins.del0I _ n cap i w c3' hcap (by omega)).mono ?_
          rintro e w' ⟨rfl, rfl⟩
          rw [List.take_append_drop]
          obtain ⟨K', k2, k3, k4⟩ := row_move8 (k := .i64) (o := o) (cap := cap) (zs := zs) hI rfl k1 hK8 h8 ⟨rfl, rfl, rfl, rfl, fun _ _ => rfl⟩ hb (by omega) hpl hcs
          rw [q1] at k4 ⊢
          exact ⟨_, rfl, K', k2, k3, k4⟩
        · have hpl' := hpl.resolve_left (by omega)
          have hml : (zs.map fun x => Value.int .i64 x).length = n := by rw [List.length_map, q1]
          refine (Ins.delI p.blk o n cap i j _ w hml hcap (by omega) (by omega) c3' hcs (fun t ht => hb.never (p := ⟨p.blk, 0, p.bs⟩) _) (fun v hv => by
            obtain ⟨x, _, rfl⟩ := List.mem_map.1 hv; rfl)).mono ?_
          rintro e w' ⟨rfl, rfl⟩
          have hlen : (zs.take i ++ zs.drop j).length = n - (j - i) := by rw [List.length_append, List.length_take, List.length_drop]; omega
          have hdl : ((zs.map fun x => Value.int .i64 x).drop j).length = n - j := by rw [List.length_drop, hml]
          have his : ∀ t, t < cap → ((w.drew).cell? ⟨p.blk, o + t, none⟩).isSome = true := fun t ht => hb.is (p := ⟨p.blk, 0, p.bs⟩) (by show o + t < p.bs; omega)
          have hb1 := InBlk.set (w := w.drew) (o := o + i) (s := (zs.map fun x => Value.int .i64 x).drop j) hb (by rw [hdl]; omega)
          have hb2 := InBlk.set (o := o + (i + (n - j))) (s := List.replicate (j - i) (Value.int .i64 0)) hb1 (by rw [List.length_replicate]; omega)
          have s1 := setCells_same p.blk ((zs.map fun x => Value.int .i64 x).drop j) (o + i) w.drew
          have s2 := setCells_same p.blk (List.replicate (j - i) (Value.int .i64 0)) (o + (i + (n - j))) (w.drew.setCells p.blk (o + i) ((zs.map fun x => Value.int .i64 x).drop j))
          obtain ⟨K', k2, k3, k4⟩ := row_move8 (k := .i64) (o := o) (cap := cap) (zs := zs.take i ++ zs.drop j) hI rfl k1 hK8 h8
            ⟨s2.1.trans s1.1, s2.2.1.trans s1.2.1, s2.2.2.1.trans s1.2.2.1, s2.2.2.2.1.trans s1.2.2.2.1, fun k hk => (s2.2.2.2.2 k hk).trans (s1.2.2.2.2 k hk)⟩ hb2 (by omega) hpl (fun t v ht => by
              have htl := (List.getElem?_eq_some_iff.1 ht).1
              rw [List.length_map, hlen] at htl
              rw [List.map_append, List.map_take, List.map_drop] at ht
              have htk : ((zs.map fun x => Value.int .i64 x).take i).length = i := by rw [List.length_take, hml]; omega
              rw [World.cell?_setCells_out _ _ _ _ _ (fun _ _ => by show o + t < o + (i + (n - j)) ∨ _; omega)]
              by_cases h1 : t < i
              · rw [World.cell?_setCells_out _ _ _ _ _ (fun _ _ => by show o + t < o + i ∨ _; omega)]
                rw [List.getElem?_append_left (by omega), List.getElem?_take, if_pos h1] at ht
                exact hcs t v ht
              · rw [List.getElem?_append_right (by omega), htk] at ht
                have := World.cell?_setCells_in p.blk ((zs.map fun x => Value.int .i64 x).drop j) (o + i) w.drew (fun t ht => by rw [Nat.add_assoc]; exact his _ (by omega)) (t - i) (by omega)
                rw [show o + i + (t - i) = o + t by omega] at this
                exact this.trans ((List.getElem?_eq_getElem _).symm.trans ht))
          rw [hlen] at k4 ⊢
          exact ⟨_, rfl, K', k2, k3, k4⟩
    · cases h
  · cases h
set_option maxRecDepth 100000 in
theorem slices_Insert_i64_ok {GT : GTab} {avs : List AV} {pre : List (Nat × Obj)} {r : List Int} (h : slices_Insert_i64_fn avs pre = some r) : CallOK Tryz.prog GT 32 avs pre (.one (.ref (.int .i64) 8 0 r.length true)) [(8, .row (.int .i64) true r)] := by
  unfold slices_Insert_i64_fn at h
  split at h
  · rename_i off n wh i off2 m wh2 f xs f2 ys
    unfold slices_Insert_i64 at h
    split at h
    · rename_i hc
      obtain ⟨c1, c2, c3⟩ := hc
      injection h with h; subst h
      intro w F G K vs hg hI hG hK hF hv
      obtain ⟨v1, r1, rfl, h1, h2⟩ := hv
      obtain ⟨v2, r2, rfl, h2, h3⟩ := h2
      obtain ⟨v3, r3, rfl, h3, h4⟩ := h3
      simp only [VRdL] at h4; subst h4
      simp only [VRd] at h2; subst h2
      have hng := hg.1
      have h8 : 8 ∉ ([(0, Obj.row (.int .i64) f xs), (1, Obj.row (.int .i64) f2 ys)] : List (Nat × Obj)).map (·.1) := by simp
      have hK8 : K 8 = none := hK 8 rfl
      obtain ⟨q1, q2⟩ := row_open hI (l := 0) (fr := f) (xs := xs) rfl h1
      obtain ⟨u1, u2⟩ := row_open hI (l := 1) (fr := f2) (xs := ys) rfl h3
      have hapart : ∀ (p p' : Plc), K 0 = some ⟨.row (.int .i64) xs.length, some p⟩ → K 1 = some ⟨.row (.int .i64) ys.length, some p'⟩ → p'.blk ≠ p.blk := fun p p' e1 e2 e => by
        have := hI.inj 1 0 _ _ _ _ p' p rfl rfl e2 e1 rfl rfl e
        omega
      generalize seg xs off n wh = zs at *
      generalize seg ys off2 m wh2 = us at *
      obtain ⟨i, rfl⟩ := Int.eq_ofNat_of_zero_le c1
      have c2' : i ≤ n := by omega
      rw [Int.toNat_natCast]
      have hzl : (zs.map fun x => Value.int .i64 x).length = n := by rw [List.length_map, q1]
      have hul : (us.map fun x => Value.int .i64 x).length = m := by rw [List.length_map, u1]
      have hone : ∀ (ls : List Int), ∀ v ∈ ls.map (fun x => Value.int .i64 x), v.oneCell' = true := fun ls v hv => by
        obtain ⟨x, _, rfl⟩ := List.mem_map.1 hv; rfl
      refine called_of (by kernel_rfl) (by kernel_rfl) ?_
      by_cases hm0 : m = 0
      · -- nothing is put in
        subst hm0
        have hu0 : us = [] := List.eq_nil_of_length_eq_zero u1
        subst hu0
        rw [List.append_nil, List.take_append_drop]
        have hv3 : ∃ a vc, v3 = .slice a 0 vc := by
          rcases u2 with ⟨rfl, _⟩ | ⟨_, _, _, _, rfl, _⟩ <;> exact ⟨_, _, rfl⟩
        obtain ⟨a3, vc, rfl⟩ := hv3
        rcases q2 with ⟨rfl, hn⟩ | ⟨p, o, cap, k1, rfl, hcap, hpl, hb, hcs⟩
        · have hz : zs = [] := List.eq_nil_of_length_eq_zero (by omega)
          subst hz
          have hi0 : i = 0 := by omega
          subst hi0; subst hn
          refine (Ins.ins0I none 0 0 0 a3 vc w (Nat.le_refl _) (Nat.le_refl _) (by omega)).mono ?_
          rintro e w' ⟨rfl, rfl⟩
          obtain ⟨K', k2, k3, k4⟩ := row_none8 hI hng hK8 h8 (k := .i64)
          exact ⟨_, rfl, K', k2, k3, k4⟩
        · refine (Ins.ins0I _ n cap i a3 vc w c2' hcap (by omega)).mono ?_
          rintro e w' ⟨rfl, rfl⟩
          obtain ⟨K', k2, k3, k4⟩ := row_move8 (k := .i64) (o := o) (cap := cap) (zs := zs) hI rfl k1 hK8 h8 ⟨rfl, rfl, rfl, rfl, fun _ _ => rfl⟩ hb (by omega) hpl hcs
          rw [q1] at k4 ⊢
          exact ⟨_, rfl, K', k2, k3, k4⟩
      · rcases u2 with ⟨_, hu⟩ | ⟨p', o', cap', k1', rfl, hcap', hpl', hb', hcs'⟩
        · omega
        have hlen : (zs.take i ++ us ++ zs.drop i).length = n + m := by rw [List.length_append, List.length_append, List.length_take, List.length_drop]; omega
        have hpl'' := hpl'.resolve_left (by omega)
        by_cases hin : i = n
        · -- at the end
          subst hin
          have hrow : zs.take i ++ us ++ zs.drop i = zs ++ us := by rw [List.take_of_length_le (by omega), List.drop_of_length_le (by omega), List.append_nil]
          rw [hrow] at hlen ⊢
          have grown : ∀ (base : Option Addr) (cap : Nat), i ≤ cap → cap < i + m → (base = none → i = 0) → (∀ a, base = some a → ∀ (t : Nat) v, (zs.map fun x => Value.int .i64 x)[t]? = some v → w.cell? (a.add t) = some v) →
              Calls Tryz.prog 32 #[.slice base i cap, .int .i64 i, .slice (some ⟨p'.blk, o', none⟩) m cap'] w fun e w' => ∃ v, e = .returned v ∧ ∃ K', (∀ l gh, K l = some gh → K' l = some gh) ∧ Inv ⟨w, F, G, ngOf GT⟩ (lookL [(8, .row (.int .i64) true (zs ++ us))]) K' w' ∧ RefRd K' (.int .i64) 8 0 (zs ++ us).length true v := by
            intro base cap hcap hroom hnil hbs
            refine (Ins.insEndGI base i cap p'.blk o' m cap' _ _ w (by omega) hcap hroom (by omega) hzl hul hnil hbs hcs' (hone us)).mono ?_
            rintro e w' ⟨rfl, rfl⟩
            have hge := grownCap_ge w (i + m) cap 3
            generalize grownCap w (i + m) cap 3 = gc at *
            generalize hr : (((zs.map fun x => Value.int .i64 x) ++ us.map fun x => Value.int .i64 x).toArray ++ Builtin.zeroCells (Value.int .i64 0).cells (gc - (i + m))) = arr
            have hsz : arr.size = gc := by
              rw [← hr, Array.size_append, List.size_toArray, List.length_append, hzl, hul]
              have : (Builtin.zeroCells (Value.int .i64 0).cells (gc - (i + m))).size = gc - (i + m) := by simp [Builtin.zeroCells, Value.cells]
              omega
            have hbn := InBlk.new w.drew arr 3
            obtain ⟨K', k2, k3, k4⟩ := row_new8 (k := .i64) (bs := gc) (cap := gc) (zs := zs ++ us) hI hng hK8 h8 (alloc_same w.drew _) (by rw [← hsz]; exact hbn.bare) (by omega) (Nat.le_refl _) (fun t v ht => by
              have := hbn.cells t v (by
                rw [Array.getElem?_toList, ← hr, Array.getElem?_append_left (by rw [List.size_toArray, ← List.map_append]; exact (List.getElem?_eq_some_iff.1 ht).1), List.getElem?_toArray, ← List.map_append]
                exact ht)
              exact this)
            rw [hlen] at k4 ⊢
            exact ⟨_, rfl, K', k2, k3, k4⟩
          rcases q2 with ⟨rfl, hn⟩ | ⟨p, o, cap, k1, rfl, hcap, hpl, hb, hcs⟩
          · subst hn
            exact grown none 0 (Nat.le_refl _) (by omega) (fun _ => rfl) (fun a ha => by cases ha)
          · by_cases hroom : i + m ≤ cap
            · have hplo := hpl.resolve_left (by omega)
              refine (Ins.insEndI p.blk o i cap p'.blk o' m cap' _ w (by omega) hroom (by omega) hul (fun t ht => hb.is (p := ⟨p.blk, 0, p.bs⟩) (by show o + i + t < p.bs; omega)) (fun t ht => hb.never (p := ⟨p.blk, 0, p.bs⟩) _) hcs' (hone us)).mono ?_
              rintro e w' ⟨rfl, rfl⟩
              have hb1 := InBlk.set (w := w) (o := o + i) (s := us.map fun x => Value.int .i64 x) hb (by rw [hul]; omega)
              obtain ⟨K', k2, k3, k4⟩ := row_move8 (k := .i64) (o := o) (cap := cap) (zs := zs ++ us) hI rfl k1 hK8 h8 (setCells_same p.blk _ (o + i) w) hb1 (by omega) hpl (fun t v ht => by
                have htl := (List.getElem?_eq_some_iff.1 ht).1
                rw [List.length_map, hlen] at htl
                rw [List.map_append] at ht
                by_cases h1 : t < i
                · rw [World.cell?_setCells_out _ _ _ _ _ (fun _ _ => by show o + t < o + i ∨ _; omega)]
                  rw [List.getElem?_append_left (by omega)] at ht
                  exact hcs t v ht
                · rw [List.getElem?_append_right (by omega), hzl] at ht
                  have := World.cell?_setCells_in p.blk (us.map fun x => Value.int .i64 x) (o + i) w (fun t ht => hb.is (p := ⟨p.blk, 0, p.bs⟩) (by show o + i + t < p.bs; omega)) (t - i) (by omega)
                  rw [show o + i + (t - i) = o + t by omega] at this
                  exact this.trans ((List.getElem?_eq_getElem _).symm.trans ht))
              rw [hlen] at k4 ⊢
              exact ⟨_, rfl, K', k2, k3, k4⟩
            · exact grown _ cap hcap (by omega) (fun h => by cases h) (fun a ha t v ht => by
                injection ha with ha; subst ha
                rw [Addr.add_lit]; exact hcs t v ht)
        · -- in the middle
          rcases q2 with ⟨_, hn⟩ | ⟨p, o, cap, k1, rfl, hcap, hpl, hb, hcs⟩
          · omega
          have hplo := hpl.resolve_left (by omega)
          have hdl : ((zs.map fun x => Value.int .i64 x).drop i).length = n - i := by rw [List.length_drop, hzl]
          have htk : ((zs.map fun x => Value.int .i64 x).take i).length = i := by rw [List.length_take, hzl]; omega
          -- what stands where
          have place : ∀ (W0 : World) (b q : Nat), (∀ t, t < n + m → (W0.cell? ⟨b, q + t, none⟩).isSome = true) → (∀ (t : Nat) v, t < i → (zs.map fun x => Value.int .i64 x)[t]? = some v → W0.cell? ⟨b, q + t, none⟩ = some v) →
              CellsAt ((W0.setCells b (q + (i + m)) ((zs.map fun x => Value.int .i64 x).drop i)).setCells b (q + i) (us.map fun x => Value.int .i64 x)) b q ((zs.take i ++ us ++ zs.drop i).map fun x => Value.int .i64 x) ∧
              CellsAt ((W0.setCells b (q + i) (us.map fun x => Value.int .i64 x)).setCells b (q + (i + m)) ((zs.map fun x => Value.int .i64 x).drop i)) b q ((zs.take i ++ us ++ zs.drop i).map fun x => Value.int .i64 x) := by
            intro W0 b q his hfst
            constructor
            all_goals
              intro t v ht
              have htl := (List.getElem?_eq_some_iff.1 ht).1
              rw [List.length_map, hlen] at htl
              rw [List.map_append, List.map_append, List.map_take, List.map_drop] at ht
            · by_cases h1 : t < i
              · rw [World.cell?_setCells_out _ _ _ _ _ (fun _ _ => by show q + t < q + i ∨ _; omega), World.cell?_setCells_out _ _ _ _ _ (fun _ _ => by show q + t < q + (i + m) ∨ _; omega)]
                rw [List.append_assoc, List.getElem?_append_left (by omega), List.getElem?_take, if_pos h1] at ht
                exact hfst t v h1 ht
              · by_cases h2 : t < i + m
                · rw [List.append_assoc, List.getElem?_append_right (by omega), htk, List.getElem?_append_left (by omega)] at ht
                  have := World.cell?_setCells_in b (us.map fun x => Value.int .i64 x) (q + i) (W0.setCells b (q + (i + m)) ((zs.map fun x => Value.int .i64 x).drop i)) (fun t ht => by
                    rw [Nat.add_assoc]
                    exact isSome_setCells b _ _ _ (fun j hj => by rw [Nat.add_assoc]; exact his _ (by omega)) _ (his _ (by omega))) (t - i) (by omega)
                  rw [show q + i + (t - i) = q + t by omega] at this
                  exact this.trans ((List.getElem?_eq_getElem _).symm.trans ht)
                · rw [World.cell?_setCells_out _ _ _ _ _ (fun _ _ => by show _ ∨ q + i + _ ≤ q + t; omega)]
                  rw [List.getElem?_append_right (by rw [List.length_append]; omega), List.length_append, htk, hul] at ht
                  have := World.cell?_setCells_in b ((zs.map fun x => Value.int .i64 x).drop i) (q + (i + m)) W0 (fun t ht => by rw [Nat.add_assoc]; exact his _ (by omega)) (t - (i + m)) (by omega)
                  rw [show q + (i + m) + (t - (i + m)) = q + t by omega] at this
                  exact this.trans ((List.getElem?_eq_getElem _).symm.trans ht)
            · by_cases h1 : t < i
              · rw [World.cell?_setCells_out _ _ _ _ _ (fun _ _ => by show q + t < q + (i + m) ∨ _; omega), World.cell?_setCells_out _ _ _ _ _ (fun _ _ => by show q + t < q + i ∨ _; omega)]
                rw [List.append_assoc, List.getElem?_append_left (by omega), List.getElem?_take, if_pos h1] at ht
                exact hfst t v h1 ht
              · by_cases h2 : t < i + m
                · rw [World.cell?_setCells_out _ _ _ _ _ (fun _ _ => by show q + t < q + (i + m) ∨ _; omega)]
                  rw [List.append_assoc, List.getElem?_append_right (by omega), htk, List.getElem?_append_left (by omega)] at ht
                  have := World.cell?_setCells_in b (us.map fun x => Value.int .i64 x) (q + i) W0 (fun t ht => by rw [Nat.add_assoc]; exact his _ (by omega)) (t - i) (by omega)
                  rw [show q + i + (t - i) = q + t by omega] at this
                  exact this.trans ((List.getElem?_eq_getElem _).symm.trans ht)
                · rw [List.getElem?_append_right (by rw [List.length_append]; omega), List.length_append, htk, hul] at ht
                  have := World.cell?_setCells_in b ((zs.map fun x => Value.int .i64 x).drop i) (q + (i + m)) (W0.setCells b (q + i) (us.map fun x => Value.int .i64 x)) (fun t ht => by
                    rw [Nat.add_assoc]
                    exact isSome_setCells b _ _ _ (fun j hj => by rw [Nat.add_assoc]; exact his _ (by omega)) _ (his _ (by omega))) (t - (i + m)) (by omega)
                  rw [show q + (i + m) + (t - (i + m)) = q + t by omega] at this
                  exact this.trans ((List.getElem?_eq_getElem _).symm.trans ht)
          by_cases hroom : n + m ≤ cap
          · obtain ⟨tA, hsa⟩ := hb'.shape
            obtain ⟨tB, hsb⟩ := hb.shape
            have his : ∀ t, t < n + m → (w.cell? ⟨p.blk, o + t, none⟩).isSome = true := fun t ht => hb.is (p := ⟨p.blk, 0, p.bs⟩) (by show o + t < p.bs; omega)
            refine (Ins.insShiftI p.blk o n cap i p'.blk o' m cap' _ _ w (by omega) (by omega) hroom (by omega) (hapart p p' k1 k1') hzl hul hcs his
              (fun t ht => hb.never (p := ⟨p.blk, 0, p.bs⟩) _) hcs' (hone zs) (hone us) tA tB p'.bs p.bs hsa hsb (by omega) (hb'.never (p := ⟨p'.blk, 0, p'.bs⟩) _) (hb'.never (p := ⟨p'.blk, 0, p'.bs⟩) _)).mono ?_
            rintro e w' ⟨rfl, rfl⟩
            have hb1 := InBlk.set (w := w.drew) (o := o + (i + m)) (s := (zs.map fun x => Value.int .i64 x).drop i) hb (by rw [hdl]; omega)
            have hb2 := InBlk.set (o := o + i) (s := us.map fun x => Value.int .i64 x) hb1 (by rw [hul]; omega)
            have s1 := setCells_same p.blk ((zs.map fun x => Value.int .i64 x).drop i) (o + (i + m)) w.drew
            have s2 := setCells_same p.blk (us.map fun x => Value.int .i64 x) (o + i) (w.drew.setCells p.blk (o + (i + m)) ((zs.map fun x => Value.int .i64 x).drop i))
            obtain ⟨K', k2, k3, k4⟩ := row_move8 (k := .i64) (o := o) (cap := cap) (zs := zs.take i ++ us ++ zs.drop i) hI rfl k1 hK8 h8
              ⟨s2.1.trans s1.1, s2.2.1.trans s1.2.1, s2.2.2.1.trans s1.2.2.1, s2.2.2.2.1.trans s1.2.2.2.1, fun k hk => (s2.2.2.2.2 k hk).trans (s1.2.2.2.2 k hk)⟩ hb2 (by omega) hpl
              (place w.drew p.blk o his (fun t v _ ht => hcs t v ht)).1
            rw [hlen] at k4 ⊢
            exact ⟨_, rfl, K', k2, k3, k4⟩
          · refine (Ins.insGrowI p.blk o n cap i p'.blk o' m cap' _ _ w (by omega) (by omega) hcap (by omega) (by omega) hzl hul hcs hcs' (hone zs) (hone us)).mono ?_
            rintro e w' ⟨rfl, rfl⟩
            have hge := grownCap_ge w (n + m) cap 3
            generalize grownCap w (n + m) cap 3 = gc at *
            generalize hr : (((zs.map fun x => Value.int .i64 x).take i).toArray ++ Builtin.zeroCells (Value.int .i64 0).cells (n + m - i) ++ Builtin.zeroCells (Value.int .i64 0).cells (gc - (n + m))) = arr
            have hsz : arr.size = gc := by
              have z1 : (Builtin.zeroCells (Value.int .i64 0).cells (n + m - i)).size = n + m - i := by simp [Builtin.zeroCells, Value.cells]
              have z2 : (Builtin.zeroCells (Value.int .i64 0).cells (gc - (n + m))).size = gc - (n + m) := by simp [Builtin.zeroCells, Value.cells]
              rw [← hr, Array.size_append, Array.size_append, List.size_toArray, htk]
              omega
            have hbn := InBlk.new w arr 3
            have hb0 : InBlk ((w.alloc (.cells arr 3)).drew) ⟨w.heap.size, 0, gc⟩ [] := by rw [← hsz]; exact hbn.bare
            have hb1 := InBlk.set (o := i) (s := us.map fun x => Value.int .i64 x) hb0 (by rw [hul]; omega)
            have hb1' : InBlk (((w.alloc (.cells arr 3)).drew.setCells w.heap.size i (us.map fun x => Value.int .i64 x)).drew) ⟨w.heap.size, 0, gc⟩ [] := hb1
            have hb2 := InBlk.set (o := i + m) (s := (zs.map fun x => Value.int .i64 x).drop i) hb1' (by rw [hdl]; omega)
            have s0 := alloc_same w (.cells arr 3)
            have s1 := setCells_same w.heap.size (us.map fun x => Value.int .i64 x) i (w.alloc (.cells arr 3)).drew
            have s2 := setCells_same w.heap.size ((zs.map fun x => Value.int .i64 x).drop i) (i + m) ((w.alloc (.cells arr 3)).drew.setCells w.heap.size i (us.map fun x => Value.int .i64 x)).drew
            have hpc := (place ((w.alloc (.cells arr 3)).drew) w.heap.size 0 (fun t ht => hb0.is (p := ⟨w.heap.size, 0, gc⟩) (by show 0 + t < gc; omega)) (fun t v h1 ht => by
              refine hbn.cells t v ?_
              rw [Array.getElem?_toList, ← hr, Array.append_assoc, Array.getElem?_append_left (by rw [List.size_toArray, htk]; exact h1), List.getElem?_toArray, List.getElem?_take, if_pos h1]
              exact ht)).2
            rw [Nat.zero_add, Nat.zero_add] at hpc
            obtain ⟨K', k2, k3, k4⟩ := row_new8 (k := .i64) (bs := gc) (cap := gc) (zs := zs.take i ++ us ++ zs.drop i) hI hng hK8 h8
              ⟨s2.1.trans (s1.1.trans s0.1), s2.2.1.trans (s1.2.1.trans s0.2.1), s2.2.2.1.trans (s1.2.2.1.trans s0.2.2.1), by rw [s2.2.2.2.1]; show w.heap.size ≤ (World.setCells _ _ _ _).heap.size; rw [s1.2.2.2.1]; exact s0.2.2.2.1,
                fun k hk => (s2.2.2.2.2 k (by omega)).trans ((s1.2.2.2.2 k (by omega)).trans (s0.2.2.2.2 k hk))⟩ hb2 (by omega) (Nat.le_refl _) (fun t v ht => by
                have h5 := hpc t v ht
                rw [← drew_setCells]; exact h5)
            rw [hlen] at k4 ⊢
            exact ⟨_, rfl, K', k2, k3, k4⟩
    · cases h
  · cases h
end Go.Ab
