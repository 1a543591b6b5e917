/-
  An abstract machine over the model's code and its soundness; what the functions compute, as plain functions (printed by a program of this repo's own, checked here by the kernel); plain laws of them: part 4. Helper text, no statement of the claim stands here.
-/
import Derived.Test.YtgdhbgphdojmoaaGreatDoorTxtHc
import Derived.Test.YtgdhbgphdojmoaaGreatDoorProg
import Derived.WalkKit
import Derived.Shelf.RegionOpenPlain
import Derived.Lib.Walk
import Derived.Lib.SliceRun
import Derived.Lib.JoinLaws
import Derived.Lib.AppendZeros
import Derived.Lib.AppendZerosOnto
import Derived.Lib.Overlaps
import Derived.Laws.Externs
import Derived.Laws.IdiomCopy
import Derived.Laws.NewBlocks
import Derived.Shelf.Spec.SlicesInsert
import Derived.Deep.LoopGhost
import Derived.Deep.RegionLaw
import Derived.Lib.SlicesDelete
import Derived.LaidEql
import Derived.Stop.Asserts
import Derived.RowKitTokens
import Derived.Shelf.Bytes.SlIndexWhole
set_option linter.unusedVariables false
set_option linter.unusedSimpArgs false
namespace Go.Ab.Ins
open Go Go.Proofs Go.RowKit Go.Lib
section B
set_option maxHeartbeats 4000000
set_option maxRecDepth 100000
private theorem uSB : Tryz.prog.underlying 29 = some (.slice 5) := by kernel_rfl
private theorem iB : ∃ i0, Tryz.prog.info? 5 = some i0 ∧ i0.zero = some (Value.int .u8 0) ∧ i0.size = 1 ∧ i0.bytes = 1 := ⟨_, rfl, by kernel_rfl, by kernel_rfl, by kernel_rfl⟩
private theorem szB : (Tryz.prog.info? 5).map (·.size) = some 1 := by
  obtain ⟨i0, h, _, h1, _⟩ := iB
  rw [h]; simp [h1]
private theorem qjH (w : World) (vb voff m vc : Nat) (vs : List Value) (hvl : vs.length = m) (hvs : ∀ (j : Nat) v, vs[j]? = some v → w.cell? ⟨vb, voff + j, none⟩ = some v) (h1v : ∀ v ∈ vs, v.oneCell' = true) :
    Go.Src Tryz.prog 1 29 (.slice (some ⟨vb, voff, none⟩) m vc) m vs w := Go.Src.ofSlice w uSB ⟨vb, voff, none⟩ m vc vs (by omega) (fun j u hj => by rw [Addr.add_lit]; exact hvs j u hj) h1v
theorem ins0B (base : Option Addr) (n c i : Nat) (v : Option Addr) (vc : Nat) (w : World) (hi : i ≤ n) (hnc : n ≤ c) (hc : n ≤ 140737488355328) :
    Calls Tryz.prog 62 #[.slice base n c, .int .i64 i, .slice v 0 vc] w fun e w' => e = .returned (.slice base n c) ∧ w' = w := by
  have mixed : Tryz.prog.follows .mixedOrders = true := by kernel_rfl
  cases base with
  | none =>
    go_enter Tryz.func62, Tryz.ntmps62
    go_wp2
    all_goals (go_ret; exact ⟨rfl, rfl⟩)
  | some a =>
    obtain ⟨ab, ao, asp⟩ := a
    go_enter Tryz.func62, Tryz.ntmps62
    go_wp2
    all_goals (go_ret; exact ⟨rfl, rfl⟩)
theorem insShiftB (b off n c i vb voff m vc : Nat) (cs vs : List Value) (w : World) (hi : i < n) (hm : 0 < m) (hroom : n + m ≤ c) (hc63 : n + m ≤ 140737488355328) (hvb : vb ≠ b)
    (hcl : cs.length = n) (hvl : vs.length = m)
    (hcs : ∀ (j : Nat) v, cs[j]? = some v → w.cell? ⟨b, off + j, none⟩ = some v) (hsp : ∀ j, j < n + m → (w.cell? ⟨b, off + j, none⟩).isSome = true) (hfz : ∀ j, j < n + m → w.frozen? ⟨b, off + j, none⟩ = false)
    (hvs : ∀ (j : Nat) v, vs[j]? = some v → w.cell? ⟨vb, voff + j, none⟩ = some v) (h1c : ∀ v ∈ cs, v.oneCell' = true) (h1v : ∀ v ∈ vs, v.oneCell' = true)
    (tA tB : TypeId) (kA kB : Nat) (hsa : w.shape? vb = some (tA, kA)) (hsb : w.shape? b = some (tB, kB)) (hkB : kB ≠ 0) (hfa : w.frozen? ⟨vb, voff, none⟩ = false) (hfe : w.frozen? ⟨vb, kA, none⟩ = false) :
    Calls Tryz.prog 62 #[.slice (some ⟨b, off, none⟩) n c, .int .i64 i, .slice (some ⟨vb, voff, none⟩) m vc] w fun e w' =>
      e = .returned (.slice (some ⟨b, off, none⟩) (n + m) c) ∧ w' = (w.drew.setCells b (off + (i + m)) (cs.drop i)).setCells b (off + i) vs := by
  have mixed : Tryz.prog.follows .mixedOrders = true := by kernel_rfl
  have uT := run_underlying uSB
  have hz1 : ¬ ((m : Int) = 0) := by omega
  have hz2 : ¬ ((i : Int) = (n : Int)) := by omega
  have zE : ∀ w, (Go.sizeOf 5).run Tryz.prog w = .ok 1 w := fun w => by kernel_rfl
  have hov : ∀ lb cb, (callFunc 100 #[.slice (some ⟨vb, voff, none⟩) m vc, .slice (some ⟨b, off + (i + m), none⟩) lb cb]).run Tryz.prog w = .ok (.value (.bool false)) w := fun lb cb => by
    rw [run_callFunc_extern Tryz.func100 (by kernel_rfl) (by kernel_rfl) (by kernel_rfl) (e := Extern.SlicesOverlaps.overlaps #[29, 29] #[4]) (by kernel_rfl),
      Lib.run_overlaps_apart w 29 4 5 uSB 1 zE ⟨vb, voff, none⟩ ⟨b, off + (i + m), none⟩ m vc lb cb hvb tA tB kA kB hsa hsb hkB hfa hfe]
    rfl
  have hdl : (cs.drop i).length = n - i := by rw [List.length_drop, hcl]
  have hw1 : IntKind.i64.wrap ((i : Int) + (m : Int)) = (i : Int) + (m : Int) := by rw [IntKind.wrap_i64]; omega
  have hb1 : (0 : Int) ≤ (i : Int) + (m : Int) := by omega
  have hin : i ≤ n := by omega
  have htn : ((i : Int) + (m : Int)).toNat = i + m := by omega
  have hb2 : ¬ (c = i + m) := by omega
  have hb3 : (i : Int) ≤ (n : Int) + (m : Int) := by omega
  have hb4 : ¬ (c = i) := by omega
  have hcp1 : ∀ ty dc sc, (Builtin.copy_ #[29, 29] ty #[.slice (some ⟨b, off + (i + m), none⟩) (n + m - (i + m)) dc, .slice (some ⟨b, off + i, none⟩) (n + m - i) sc]).run Tryz.prog w.drew = .ok (goInt (cs.drop i).length) (w.drew.setCells b (off + (i + m)) (cs.drop i)) := fun ty dc sc =>
    run_copy_cells w.drew _ _ ty 5 b (off + (i + m)) (n + m - (i + m)) dc ⟨b, off + i, none⟩ (n + m - i) sc (cs.drop i) uSB szB (by rw [hdl]; simp only [Nat.min_def]; split <;> omega)
      (fun j v hj => by rw [Addr.add_lit, Nat.add_assoc]; exact hcs (i + j) v (by rwa [List.getElem?_drop] at hj))
      (fun j hj => by rw [Nat.add_assoc]; exact hsp _ (by omega)) (fun j hj => by rw [Nat.add_assoc]; exact hfz _ (by omega)) (fun v hv => h1c v (List.mem_of_mem_drop hv))
  obtain ⟨W1, hW1⟩ : ∃ W1, W1 = w.drew.setCells b (off + (i + m)) (cs.drop i) := ⟨_, rfl⟩
  have hsp1 : ∀ k, k < n + m → (W1.cell? ⟨b, off + k, none⟩).isSome = true := fun k hk => by
    rw [hW1]
    exact isSome_setCells b _ _ _ (fun j hj => by rw [Nat.add_assoc]; exact hsp _ (by omega)) _ (hsp k hk)
  have hcp2 : ∀ (W : World), (∀ x, W.cell? x = W1.cell? x) → (∀ x, W.frozen? x = W1.frozen? x) → ∀ ty dc, (Builtin.copy_ #[29, 29] ty #[.slice (some ⟨b, off + i, none⟩) (n + m - i) dc, .slice (some ⟨vb, voff, none⟩) m vc]).run Tryz.prog W = .ok (goInt vs.length) (W.setCells b (off + i) vs) := fun W hWc hWf ty dc =>
    run_copy_cells W _ _ ty 5 b (off + i) (n + m - i) dc ⟨vb, voff, none⟩ m vc vs uSB szB (by rw [hvl]; simp only [Nat.min_def]; split <;> omega)
      (fun j v hj => by
        rw [Addr.add_lit, hWc, hW1, World.cell?_setCells_out b _ _ _ _ (fun h _ => absurd h hvb)]
        exact hvs j v hj)
      (fun j hj => by rw [hWc, Nat.add_assoc]; exact hsp1 _ (by omega)) (fun j hj => by rw [hWf, hW1, World.frozen?_setCells, Nat.add_assoc]; exact hfz _ (by omega)) h1v
  rw [← hW1] at hcp1
  go_enter Tryz.func62, Tryz.ntmps62
  go_wp2_with (simp only [hov])
  go_region_law_o (refine step_copy_runI rfl _ _ 29 29 rfl _ _ (by simp [Act.eval, Act.put]) (by simp [Act.eval, Act.put]) (hcp1 _ _ _) ?_)
  go_wp2_with (at_builtin; refine wpList_copy_runI _ rfl _ _ 29 29 rfl _ _ rfl rfl (hcp2 _ (fun _ => rfl) (fun _ => rfl) _ _) ?_)
  go_ret
  first | exact ⟨rfl, rfl⟩ | exact ⟨rfl, by rw [hW1]⟩
theorem insEndB (b off n c vb voff m vc : Nat) (vs : List Value) (w : World) (hm : 0 < m) (hroom : n + m ≤ c) (hc63 : n + m ≤ 140737488355328)
    (hvl : vs.length = m) (hsp : ∀ j, j < m → (w.cell? ⟨b, off + n + j, none⟩).isSome = true) (hfz : ∀ j, j < m → w.frozen? ⟨b, off + n + j, none⟩ = false)
    (hvs : ∀ (j : Nat) v, vs[j]? = some v → w.cell? ⟨vb, voff + j, none⟩ = some v) (h1v : ∀ v ∈ vs, v.oneCell' = true) :
    Calls Tryz.prog 62 #[.slice (some ⟨b, off, none⟩) n c, .int .i64 n, .slice (some ⟨vb, voff, none⟩) m vc] w fun e w' =>
      e = .returned (.slice (some ⟨b, off, none⟩) (n + m) c) ∧ w' = w.setCells b (off + n) vs := by
  have mixed : Tryz.prog.follows .mixedOrders = true := by kernel_rfl
  have uT := run_underlying uSB
  have hz1 : ¬ ((m : Int) = 0) := by omega
  have hsrc := qjH w vb voff m vc vs hvl hvs h1v
  have iE : (Tryz.prog.info? 5).map (fun i => (i.zero, i.size, i.bytes)) = some (some (Value.int .u8 0), 1, 1) := by kernel_rfl
  go_enter Tryz.func62, Tryz.ntmps62
  go_wp2_with (at_builtin; refine wpList_append_room1 _ rfl _ _ 29 29 rfl 5 _ _ uSB iE b off n c rfl _ rfl m vs hsrc hroom (by rw [hvl]; exact hsp) (by rw [hvl]; exact hfz) ?_)
  go_ret
  exact ⟨rfl, rfl⟩
theorem insEndGB (base : Option Addr) (n c vb voff m vc : Nat) (cs vs : List Value) (w : World) (hm : 0 < m) (hnc : n ≤ c) (hroom : c < n + m) (hbig : (n + m) * 1 ≤ 140737488355328)
    (hcl : cs.length = n) (hvl : vs.length = m) (hnil : base = none → n = 0)
    (hcs : ∀ a, base = some a → ∀ (j : Nat) v, cs[j]? = some v → w.cell? (a.add j) = some v)
    (hvs : ∀ (j : Nat) v, vs[j]? = some v → w.cell? ⟨vb, voff + j, none⟩ = some v) (h1v : ∀ v ∈ vs, v.oneCell' = true) :
    Calls Tryz.prog 62 #[.slice base n c, .int .i64 n, .slice (some ⟨vb, voff, none⟩) m vc] w fun e w' =>
      e = .returned (.slice (some ⟨w.heap.size, 0, none⟩) (n + m) (grownCap w (n + m) c 5)) ∧
      w' = w.drew.alloc (.cells ((cs ++ vs).toArray ++ Builtin.zeroCells (Value.int .u8 0).cells (grownCap w (n + m) c 5 - (n + m))) 5) := by
  have mixed : Tryz.prog.follows .mixedOrders = true := by kernel_rfl
  have uT := run_underlying uSB
  obtain ⟨i0, hi0, hz0, hzs, hzb⟩ := iB
  have hz1 : ¬ ((m : Int) = 0) := by omega
  have hsrc : Go.Src Tryz.prog i0.size 29 (.slice (some ⟨vb, voff, none⟩) m vc) m vs w := by
    rw [hzs]; exact qjH w vb voff m vc vs hvl hvs h1v
  have hold : (Builtin.firstCells i0.size n (.slice base n c)).run Tryz.prog w.drew = .ok cs.toArray w.drew := by
    rw [hzs]
    cases base with
    | none =>
      have h0 := hnil rfl
      subst h0
      rw [List.length_eq_zero_iff.1 hcl]
      exact run_firstCells_none w.drew 1 0 0 c
    | some a => exact run_firstCells_some w.drew 1 n a n c cs (by omega) (fun j v hj => hcs a rfl j v hj)
  have hrun : ∀ ty, (Builtin.append_ #[29, 29] ty #[.slice base n c, .slice (some ⟨vb, voff, none⟩) m vc]).run Tryz.prog w = _ := fun ty =>
    run_append_grow_src w 29 29 ty 5 i0 _ uSB hi0 hz0 base n c cs hold _ m vs hsrc hroom (by omega) (by rw [hzb]; exact growslice_fits hroom hbig)
  go_enter Tryz.func62, Tryz.ntmps62
  cases base with
  | none =>
    have h0 := hnil rfl
    subst h0
    go_wp2_with (at_builtin; refine Lib.wpList_append_run _ rfl _ _ _ _ rfl _ _ rfl rfl _ _ (hrun _) ?_)
    go_ret
    exact ⟨rfl, rfl⟩
  | some a =>
    obtain ⟨ab, ao, asp⟩ := a
    go_wp2_with (at_builtin; refine Lib.wpList_append_run _ rfl _ _ _ _ rfl _ _ rfl rfl _ _ (hrun _) ?_)
    all_goals (go_ret; exact ⟨rfl, rfl⟩)
theorem insGrowB (b off n c i vb voff m vc : Nat) (cs vs : List Value) (w : World) (hi : i < n) (hm : 0 < m) (hnc : n ≤ c) (hroom : c < n + m) (hbig : (n + m) * 1 ≤ 140737488355328)
    (hcl : cs.length = n) (hvl : vs.length = m)
    (hcs : ∀ (j : Nat) v, cs[j]? = some v → w.cell? ⟨b, off + j, none⟩ = some v)
    (hvs : ∀ (j : Nat) v, vs[j]? = some v → w.cell? ⟨vb, voff + j, none⟩ = some v) (h1c : ∀ v ∈ cs, v.oneCell' = true) (h1v : ∀ v ∈ vs, v.oneCell' = true) :
    Calls Tryz.prog 62 #[.slice (some ⟨b, off, none⟩) n c, .int .i64 i, .slice (some ⟨vb, voff, none⟩) m vc] w fun e w' =>
      e = .returned (.slice (some ⟨w.heap.size, 0, none⟩) (n + m) (grownCap w (n + m) c 5)) ∧
      w' = (((w.alloc (.cells ((cs.take i).toArray ++ Builtin.zeroCells (Value.int .u8 0).cells (n + m - i) ++ Builtin.zeroCells (Value.int .u8 0).cells (grownCap w (n + m) c 5 - (n + m))) 5)).drew.setCells w.heap.size i vs).drew).setCells w.heap.size (i + m) (cs.drop i) := by
  have mixed : Tryz.prog.follows .mixedOrders = true := by kernel_rfl
  have uT := run_underlying uSB
  obtain ⟨i0, hi0, hz0, hzs, hzb⟩ := iB
  have u3 : Tryz.prog.underlying 3 = some (.int .i64) := by kernel_rfl
  have hz1 : ¬ ((m : Int) = 0) := by omega
  have hz2 : ¬ ((i : Int) = (n : Int)) := by omega
  have hz3 : (c : Int) < (n : Int) + (m : Int) := by omega
  have hbw : b < w.heap.size := block_lt_of_cell (hcs 0 _ (List.getElem?_eq_getElem (by omega)))
  have hvw : vb < w.heap.size := block_lt_of_cell (hvs 0 _ (List.getElem?_eq_getElem (by omega)))
  have hkk : (n : Int) + (m : Int) - (i : Int) = ((n + m - i : Nat) : Int) := by omega
  have hik : i + (n + m - i) = n + m := by omega
  have hold : (Builtin.firstCells i0.size i (.slice (some ⟨b, off, none⟩) i c)).run Tryz.prog w.drew = .ok (cs.take i).toArray w.drew := by
    rw [hzs]
    exact run_firstCells_some w.drew 1 i ⟨b, off, none⟩ i c (cs.take i) (by rw [List.length_take]; omega) (fun j v hj => by
      rw [Addr.add_lit]
      rw [List.getElem?_take] at hj
      split at hj
      · exact hcs j v hj
      · cases hj)
  have hrz : ∀ ty, (Builtin.append_ #[29, 3] ty #[.slice (some ⟨b, off, none⟩) i c, .int .i64 ((n : Int) + (m : Int) - (i : Int))]).run Tryz.prog w =
      .ok (.slice (some ⟨w.heap.size, 0, none⟩) (n + m) (grownCap w (n + m) c 5)) (w.drew.alloc (.cells ((cs.take i).toArray ++ Builtin.zeroCells (Value.int .u8 0).cells (n + m - i) ++ Builtin.zeroCells (Value.int .u8 0).cells (grownCap w (n + m) c 5 - (n + m))) 5)) := fun ty => by
    have h := Lib.run_append_grow_zeros w 29 3 ty 5 i0 _ .i64 .i64 uSB u3 hi0 hz0 (some ⟨b, off, none⟩) i c (cs.take i) hold (n + m - i) (by omega) (by omega) (by omega) (by omega) (by rw [hzb]; omega) (by rw [hzb, hik]; exact growslice_fits hroom hbig)
    rw [hik] at h
    rw [hkk]
    exact h
  obtain ⟨G, hG⟩ : ∃ G, G = grownCap w (n + m) c 5 := ⟨_, rfl⟩
  obtain ⟨ROW, hROW⟩ : ∃ ROW : Array Value, ROW = (cs.take i).toArray ++ Builtin.zeroCells (Value.int .u8 0).cells (n + m - i) ++ Builtin.zeroCells (Value.int .u8 0).cells (G - (n + m)) := ⟨_, rfl⟩
  rw [← hG] at hrz ⊢
  rw [← hROW] at hrz ⊢
  have hRl : n + m ≤ ROW.size := by
    rw [hROW]
    simp [Builtin.zeroCells, Value.cells]
    omega
  obtain ⟨W1, hW1⟩ : ∃ W1, W1 = w.drew.alloc (.cells ROW 5) := ⟨_, rfl⟩
  rw [← hW1] at hrz
  have hN : ∀ j, j < n + m → (W1.cell? ⟨w.heap.size, j, none⟩).isSome = true := fun j hj => by
    rw [hW1, World.cell?_alloc_at (w := w.drew) ROW _ w.heap.size j rfl, Array.getElem?_eq_getElem (by omega)]; rfl
  have hNf : ∀ j, W1.frozen? ⟨w.heap.size, j, none⟩ = false := fun j => by rw [hW1]; exact World.frozen?_alloc_at (w := w.drew) ROW _ w.heap.size j rfl
  have hOb : ∀ j v, w.cell? ⟨b, j, none⟩ = some v → W1.cell? ⟨b, j, none⟩ = some v := fun j v h => by rw [hW1, World.cell?_alloc_past (w := w.drew) _ b j hbw]; exact h
  have hOv : ∀ j v, w.cell? ⟨vb, j, none⟩ = some v → W1.cell? ⟨vb, j, none⟩ = some v := fun j v h => by rw [hW1, World.cell?_alloc_past (w := w.drew) _ vb j hvw]; exact h
  have hcpA : ∀ (W : World), (∀ x, W.cell? x = W1.cell? x) → (∀ x, W.frozen? x = W1.frozen? x) → ∀ ty dc, (Builtin.copy_ #[29, 29] ty #[.slice (some ⟨w.heap.size, i, none⟩) (n + m - i) dc, .slice (some ⟨vb, voff, none⟩) m vc]).run Tryz.prog W = .ok (goInt vs.length) (W.setCells w.heap.size i vs) := fun W hWc hWf ty dc =>
    run_copy_cells W _ _ ty 5 w.heap.size i (n + m - i) dc ⟨vb, voff, none⟩ m vc vs uSB szB (by rw [hvl]; simp only [Nat.min_def]; split <;> omega)
      (fun j v hj => by rw [Addr.add_lit, hWc]; exact hOv _ v (hvs j v hj))
      (fun j hj => by rw [hWc]; exact hN _ (by omega)) (fun j hj => by rw [hWf]; exact hNf _) h1v
  have hGn : n + m ≤ G := by rw [hG]; exact grownCap_ge w _ _ _
  have hG63 : G ≤ 9223372036854775807 := by
    have := grownCap_le_maxLen w (n + m) c 5 (by unfold maxLen; omega)
    rw [← hG] at this
    unfold maxLen at this
    omega
  have hGi : ¬ (G = i) := by omega
  have hGim : ¬ (G = i + m) := by omega
  have hci : ¬ (c = i) := by omega
  have hbN : b ≠ w.heap.size := by omega
  have hdl : (cs.drop i).length = n - i := by rw [List.length_drop, hcl]
  have hcpB : ∀ (W : World), (∀ x, W.cell? x = (W1.setCells w.heap.size i vs).cell? x) → (∀ x, W.frozen? x = (W1.setCells w.heap.size i vs).frozen? x) → ∀ ty dc sc, (Builtin.copy_ #[29, 29] ty #[.slice (some ⟨w.heap.size, i + m, none⟩) (n + m - (i + m)) dc, .slice (some ⟨b, off + i, none⟩) (n - i) sc]).run Tryz.prog W = .ok (goInt (cs.drop i).length) (W.setCells w.heap.size (i + m) (cs.drop i)) := fun W hWc hWf ty dc sc =>
    run_copy_cells W _ _ ty 5 w.heap.size (i + m) (n + m - (i + m)) dc ⟨b, off + i, none⟩ (n - i) sc (cs.drop i) uSB szB (by rw [hdl]; simp only [Nat.min_def]; split <;> omega)
      (fun j v hj => by
        rw [Addr.add_lit, hWc, World.cell?_setCells_out _ _ _ _ _ (fun h _ => absurd h hbN), Nat.add_assoc]
        exact hOb _ v (hcs (i + j) v (by rwa [List.getElem?_drop] at hj)))
      (fun j hj => by rw [hWc]; exact isSome_setCells _ _ _ _ (fun t ht => hN _ (by omega)) _ (hN _ (by omega)))
      (fun j hj => by rw [hWf, World.frozen?_setCells]; exact hNf _) (fun v hv => h1c v (List.mem_of_mem_drop hv))
  subst hW1
  have hE1 : ∀ x, ((w.alloc (.cells ROW 5)).drew).cell? x = (w.drew.alloc (.cells ROW 5)).cell? x := fun x => rfl
  have hE2 : ∀ x, ((w.alloc (.cells ROW 5)).drew).frozen? x = (w.drew.alloc (.cells ROW 5)).frozen? x := fun x => rfl
  have hF1 : ∀ x, (((w.alloc (.cells ROW 5)).drew.setCells w.heap.size i vs).drew).cell? x = ((w.drew.alloc (.cells ROW 5)).setCells w.heap.size i vs).cell? x := fun x => rfl
  have hF2 : ∀ x, (((w.alloc (.cells ROW 5)).drew.setCells w.heap.size i vs).drew).frozen? x = ((w.drew.alloc (.cells ROW 5)).setCells w.heap.size i vs).frozen? x := fun x => rfl
  have hw1 : IntKind.i64.wrap ((i : Int) + (m : Int)) = (i : Int) + (m : Int) := by rw [IntKind.wrap_i64]; omega
  have hb1 : (0 : Int) ≤ (i : Int) + (m : Int) := by omega
  have hin : i ≤ n := by omega
  have htn : ((i : Int) + (m : Int)).toNat = i + m := by omega
  have hb3 : (i : Int) ≤ (n : Int) := by omega
  clear hkk hik hold hROW hG hRl
  go_enter Tryz.func62, Tryz.ntmps62
  go_wp2_with (first
    | (at_builtin; refine Lib.wpList_append_run _ rfl _ _ _ _ rfl _ _ rfl rfl _ _ (hrz _) ?_)
    | (at_builtin; refine wpList_copy_runI _ rfl _ _ 29 29 rfl _ _ rfl rfl (hcpA _ hE1 hE2 _ _) ?_)
    | (at_builtin; refine wpList_copy_runI _ rfl _ _ 29 29 rfl _ _ rfl rfl (hcpB _ (fun _ => rfl) (fun _ => rfl) _ _ _) ?_))
  go_region_law_o (refine step_copy_runI rfl _ _ 29 29 rfl (.slice (some ⟨w.heap.size, i + m, none⟩) (n + m - (i + m)) (G - (i + m))) (.slice (some ⟨b, off + i, none⟩) (n - i) (c - i)) (by simp [Act.eval, Act.put]) (by simp [Act.eval, Act.put]) (hcpB _ hF1 hF2 3 (G - (i + m)) (c - i)) ?_)
  go_wp2
  go_ret
  exact ⟨rfl, rfl⟩
theorem del0B (base : Option Addr) (n c i : Nat) (w : World) (hi : i ≤ n) (hnc : n ≤ c) (hn : n ≤ 140737488355328) :
    Calls Tryz.prog 61 #[.slice base n c, .int .i64 i, .int .i64 i] w fun e w' => e = .returned (.slice base n c) ∧ w' = w := by
  have mixed : Tryz.prog.follows .mixedOrders = true := by kernel_rfl
  have hic : i ≤ c := by omega
  cases base with
  | none =>
    go_enter Tryz.func61, Tryz.ntmps61
    go_wp2
    all_goals (go_ret; exact ⟨rfl, rfl⟩)
  | some a =>
    obtain ⟨ab, ao, asp⟩ := a
    go_enter Tryz.func61, Tryz.ntmps61
    go_wp2
    all_goals (go_ret; exact ⟨rfl, rfl⟩)
theorem delB (blk off n cap i j : Nat) (cs : List Value) (w : World) (hcl : cs.length = n) (hcap : n ≤ cap) (hm : n ≤ 140737488355328) (hij : i < j) (hj : j ≤ n)
    (hcs : ∀ (t : Nat) v, cs[t]? = some v → w.cell? ⟨blk, off + t, none⟩ = some v) (hfz : ∀ t, t < n → w.frozen? ⟨blk, off + t, none⟩ = false) (h1c : ∀ v ∈ cs, v.oneCell' = true) :
    Calls Tryz.prog 61 #[.slice (some ⟨blk, off, none⟩) n cap, .int .i64 i, .int .i64 j] w fun e w' => e = .returned (.slice (some ⟨blk, off, none⟩) (n - (j - i)) cap) ∧
      w' = (w.drew.setCells blk (off + i) (cs.drop j)).setCells blk (off + (i + (n - j))) (List.replicate (j - i) (Value.int .u8 0)) := by
  have mixed : Tryz.prog.follows .mixedOrders = true := by kernel_rfl
  have uT := run_underlying uSB
  obtain ⟨i0, hi0, hz0, hzs, hzb⟩ := iB
  have hlen : (cs.drop j).length = n - j := by rw [List.length_drop, hcl]
  obtain ⟨news, hnews⟩ : ∃ news, news = cs.drop j := ⟨_, rfl⟩
  rw [← hnews] at hlen ⊢
  have hsp : ∀ t, t < n → (w.cell? ⟨blk, off + t, none⟩).isSome = true := fun t ht => by
    rw [hcs t _ (List.getElem?_eq_getElem (by omega))]; rfl
  obtain ⟨A, hA, hsrc⟩ : ∃ A : Addr, (if cap = j then some (⟨blk, off, none⟩ : Addr) else some ⟨blk, off + j, none⟩) = some A ∧ Hid (∀ (t : Nat) u, news[t]? = some u → w.drew.cell? (A.add t) = some u) := by
    by_cases h : cap = j
    · refine ⟨⟨blk, off, none⟩, by simp [h], fun t u hu => ?_⟩
      have h0 : news.length = 0 := by rw [hlen]; omega
      rw [List.length_eq_zero_iff.1 h0] at hu
      simp at hu
    · refine ⟨⟨blk, off + j, none⟩, by simp [h], fun t u hu => ?_⟩
      rw [hnews, List.getElem?_drop] at hu
      rw [Addr.add_lit, Nat.add_assoc]
      exact hcs (j + t) u hu
  have s1 : Hid (news.length = (n - j) * 1) := by rw [Nat.mul_one]; exact hlen
  have s2 : Hid (∀ u ∈ news, u.oneCell' = true) := fun u hu => h1c u (List.mem_of_mem_drop (hnews ▸ hu))
  have s3 : Hid (∀ t, t < news.length → (w.drew.cell? ⟨blk, off + i * 1 + t, none⟩).isSome = true ∧ w.drew.frozen? ⟨blk, off + i * 1 + t, none⟩ = false) := by
    intro t ht
    rw [hlen] at ht
    rw [Nat.mul_one, Nat.add_assoc]
    exact ⟨hsp (i + t) (by omega), hfz (i + t) (by omega)⟩
  obtain ⟨W1, hW1⟩ : ∃ W1, W1 = w.drew.setCells blk (off + i * 1) news := ⟨_, rfl⟩
  have hsp1 : ∀ t, t < n → (W1.cell? ⟨blk, off + t, none⟩).isSome = true := fun t ht => by
    rw [hW1]
    refine isSome_setCells blk _ _ _ (fun k hk => ?_) _ (hsp t ht)
    rw [Nat.mul_one, Nat.add_assoc]; exact hsp _ (by omega)
  have hfz1 : ∀ t, t < n → W1.frozen? ⟨blk, off + t, none⟩ = false := fun t ht => by
    rw [hW1, World.frozen?_setCells]; exact hfz t ht
  have v23 : ∀ w, (zeroValue 5).run Tryz.prog w = .ok (Value.int .u8 0) w := fun w => by kernel_rfl
  have hcl2 : ∀ ty, (Builtin.clear_ #[29] ty #[.slice (some ⟨blk, off + (i + (n - j)), none⟩) (n - (i + (n - j))) (cap - (i + (n - j)))]).run Tryz.prog W1 = .ok (.tuple #[]) (W1.setCells blk (off + (i + (n - j))) (List.replicate (n - (i + (n - j))) (Value.int .u8 0))) :=
    fun ty => Lib.run_clear_slice W1 _ _ ty _ uSB v23 rfl rfl blk (off + (i + (n - j))) _ _ (by omega) (fun t ht => by rw [show off + (i + (n - j)) + t = off + (i + (n - j) + t) by omega]; exact hsp1 _ (by omega)) (fun t ht => by rw [show off + (i + (n - j)) + t = off + (i + (n - j) + t) by omega]; exact hfz1 _ (by omega))
  have hW : Hid (W1 = w.drew.setCells blk (off + i * 1) news) := hW1
  have hic : i ≤ cap := by omega
  have hjc : j ≤ cap := by omega
  clear hW1 hsp1 hfz1 hsp hcs hfz hnews hlen hcl h1c
  go_enter Tryz.func61, Tryz.ntmps61
  go_wp2_with fail
  go_region_law_o (refine step_append_room rfl (.tmp 22) (.tmp 25) 29 rfl 5 i0 1 uSB hi0 hzs blk off i cap (by simp [Act.eval, Act.put]) A (n - j) (cap - j) news (by simp [Act.eval, Act.put]) s1.out hsrc.out s2.out (by omega) s3.out ?_; rw [← hW.out])
  go_wp2
  go_ret
  refine ⟨by rw [show n - (j - i) = i + (n - j) by omega]; rfl, ?_⟩
  have hWo := hW.out
  rw [Nat.mul_one] at hWo
  rw [← hWo, show j - i = n - (i + (n - j)) by omega]
end B
section I
set_option maxHeartbeats 4000000
set_option maxRecDepth 100000
private theorem uSI : Tryz.prog.underlying 38 = some (.slice 3) := by kernel_rfl
private theorem iI : ∃ i0, Tryz.prog.info? 3 = some i0 ∧ i0.zero = some (Value.int .i64 0) ∧ i0.size = 1 ∧ i0.bytes = 8 := ⟨_, rfl, by kernel_rfl, by kernel_rfl, by kernel_rfl⟩
private theorem szI : (Tryz.prog.info? 3).map (·.size) = some 1 := by
  obtain ⟨i0, h, _, h1, _⟩ := iI
  rw [h]; simp [h1]
private theorem qiH (w : World) (vb voff m vc : Nat) (vs : List Value) (hvl : vs.length = m) (hvs : ∀ (j : Nat) v, vs[j]? = some v → w.cell? ⟨vb, voff + j, none⟩ = some v) (h1v : ∀ v ∈ vs, v.oneCell' = true) :
    Go.Src Tryz.prog 1 38 (.slice (some ⟨vb, voff, none⟩) m vc) m vs w := Go.Src.ofSlice w uSI ⟨vb, voff, none⟩ m vc vs (by omega) (fun j u hj => by rw [Addr.add_lit]; exact hvs j u hj) h1v
theorem ins0I (base : Option Addr) (n c i : Nat) (v : Option Addr) (vc : Nat) (w : World) (hi : i ≤ n) (hnc : n ≤ c) (hc : n ≤ 140737488355328) :
    Calls Tryz.prog 93 #[.slice base n c, .int .i64 i, .slice v 0 vc] w fun e w' => e = .returned (.slice base n c) ∧ w' = w := by
  have mixed : Tryz.prog.follows .mixedOrders = true := by kernel_rfl
  cases base with
  | none =>
    go_enter Tryz.func93, Tryz.ntmps93
    go_wp2
    all_goals (go_ret; exact ⟨rfl, rfl⟩)
  | some a =>
    obtain ⟨ab, ao, asp⟩ := a
    go_enter Tryz.func93, Tryz.ntmps93
    go_wp2
    all_goals (go_ret; exact ⟨rfl, rfl⟩)
theorem insShiftI (b off n c i vb voff m vc : Nat) (cs vs : List Value) (w : World) (hi : i < n) (hm : 0 < m) (hroom : n + m ≤ c) (hc63 : n + m ≤ 140737488355328) (hvb : vb ≠ b)
    (hcl : cs.length = n) (hvl : vs.length = m)
    (hcs : ∀ (j : Nat) v, cs[j]? = some v → w.cell? ⟨b, off + j, none⟩ = some v) (hsp : ∀ j, j < n + m → (w.cell? ⟨b, off + j, none⟩).isSome = true) (hfz : ∀ j, j < n + m → w.frozen? ⟨b, off + j, none⟩ = false)
    (hvs : ∀ (j : Nat) v, vs[j]? = some v → w.cell? ⟨vb, voff + j, none⟩ = some v) (h1c : ∀ v ∈ cs, v.oneCell' = true) (h1v : ∀ v ∈ vs, v.oneCell' = true)
    (tA tB : TypeId) (kA kB : Nat) (hsa : w.shape? vb = some (tA, kA)) (hsb : w.shape? b = some (tB, kB)) (hkB : kB ≠ 0) (hfa : w.frozen? ⟨vb, voff, none⟩ = false) (hfe : w.frozen? ⟨vb, kA, none⟩ = false) :
    Calls Tryz.prog 93 #[.slice (some ⟨b, off, none⟩) n c, .int .i64 i, .slice (some ⟨vb, voff, none⟩) m vc] w fun e w' =>
      e = .returned (.slice (some ⟨b, off, none⟩) (n + m) c) ∧ w' = (w.drew.setCells b (off + (i + m)) (cs.drop i)).setCells b (off + i) vs := by
  have mixed : Tryz.prog.follows .mixedOrders = true := by kernel_rfl
  have uT := run_underlying uSI
  have hz1 : ¬ ((m : Int) = 0) := by omega
  have hz2 : ¬ ((i : Int) = (n : Int)) := by omega
  have zE : ∀ w, (Go.sizeOf 3).run Tryz.prog w = .ok 1 w := fun w => by kernel_rfl
  have hov : ∀ lb cb, (callFunc 145 #[.slice (some ⟨vb, voff, none⟩) m vc, .slice (some ⟨b, off + (i + m), none⟩) lb cb]).run Tryz.prog w = .ok (.value (.bool false)) w := fun lb cb => by
    rw [run_callFunc_extern Tryz.func145 (by kernel_rfl) (by kernel_rfl) (by kernel_rfl) (e := Extern.SlicesOverlaps.overlaps #[38, 38] #[4]) (by kernel_rfl),
      Lib.run_overlaps_apart w 38 4 3 uSI 1 zE ⟨vb, voff, none⟩ ⟨b, off + (i + m), none⟩ m vc lb cb hvb tA tB kA kB hsa hsb hkB hfa hfe]
    rfl
  have hdl : (cs.drop i).length = n - i := by rw [List.length_drop, hcl]
  have hw1 : IntKind.i64.wrap ((i : Int) + (m : Int)) = (i : Int) + (m : Int) := by rw [IntKind.wrap_i64]; omega
  have hb1 : (0 : Int) ≤ (i : Int) + (m : Int) := by omega
  have hin : i ≤ n := by omega
  have htn : ((i : Int) + (m : Int)).toNat = i + m := by omega
  have hb2 : ¬ (c = i + m) := by omega
  have hb3 : (i : Int) ≤ (n : Int) + (m : Int) := by omega
  have hb4 : ¬ (c = i) := by omega
  have hcp1 : ∀ ty dc sc, (Builtin.copy_ #[38, 38] ty #[.slice (some ⟨b, off + (i + m), none⟩) (n + m - (i + m)) dc, .slice (some ⟨b, off + i, none⟩) (n + m - i) sc]).run Tryz.prog w.drew = .ok (goInt (cs.drop i).length) (w.drew.setCells b (off + (i + m)) (cs.drop i)) := fun ty dc sc =>
    run_copy_cells w.drew _ _ ty 3 b (off + (i + m)) (n + m - (i + m)) dc ⟨b, off + i, none⟩ (n + m - i) sc (cs.drop i) uSI szI (by rw [hdl]; simp only [Nat.min_def]; split <;> omega)
      (fun j v hj => by rw [Addr.add_lit, Nat.add_assoc]; exact hcs (i + j) v (by rwa [List.getElem?_drop] at hj))
      (fun j hj => by rw [Nat.add_assoc]; exact hsp _ (by omega)) (fun j hj => by rw [Nat.add_assoc]; exact hfz _ (by omega)) (fun v hv => h1c v (List.mem_of_mem_drop hv))
  obtain ⟨W1, hW1⟩ : ∃ W1, W1 = w.drew.setCells b (off + (i + m)) (cs.drop i) := ⟨_, rfl⟩
  have hsp1 : ∀ k, k < n + m → (W1.cell? ⟨b, off + k, none⟩).isSome = true := fun k hk => by
    rw [hW1]
    exact isSome_setCells b _ _ _ (fun j hj => by rw [Nat.add_assoc]; exact hsp _ (by omega)) _ (hsp k hk)
  have hcp2 : ∀ (W : World), (∀ x, W.cell? x = W1.cell? x) → (∀ x, W.frozen? x = W1.frozen? x) → ∀ ty dc, (Builtin.copy_ #[38, 38] ty #[.slice (some ⟨b, off + i, none⟩) (n + m - i) dc, .slice (some ⟨vb, voff, none⟩) m vc]).run Tryz.prog W = .ok (goInt vs.length) (W.setCells b (off + i) vs) := fun W hWc hWf ty dc =>
    run_copy_cells W _ _ ty 3 b (off + i) (n + m - i) dc ⟨vb, voff, none⟩ m vc vs uSI szI (by rw [hvl]; simp only [Nat.min_def]; split <;> omega)
      (fun j v hj => by
        rw [Addr.add_lit, hWc, hW1, World.cell?_setCells_out b _ _ _ _ (fun h _ => absurd h hvb)]
        exact hvs j v hj)
      (fun j hj => by rw [hWc, Nat.add_assoc]; exact hsp1 _ (by omega)) (fun j hj => by rw [hWf, hW1, World.frozen?_setCells, Nat.add_assoc]; exact hfz _ (by omega)) h1v
  rw [← hW1] at hcp1
  go_enter Tryz.func93, Tryz.ntmps93
  go_wp2_with (simp only [hov])
  go_region_law_o (refine step_copy_runI rfl _ _ 38 38 rfl _ _ (by simp [Act.eval, Act.put]) (by simp [Act.eval, Act.put]) (hcp1 _ _ _) ?_)
  go_wp2_with (at_builtin; refine wpList_copy_runI _ rfl _ _ 38 38 rfl _ _ rfl rfl (hcp2 _ (fun _ => rfl) (fun _ => rfl) _ _) ?_)
  go_ret
  first | exact ⟨rfl, rfl⟩ | exact ⟨rfl, by rw [hW1]⟩
theorem insEndI (b off n c vb voff m vc : Nat) (vs : List Value) (w : World) (hm : 0 < m) (hroom : n + m ≤ c) (hc63 : n + m ≤ 140737488355328)
    (hvl : vs.length = m) (hsp : ∀ j, j < m → (w.cell? ⟨b, off + n + j, none⟩).isSome = true) (hfz : ∀ j, j < m → w.frozen? ⟨b, off + n + j, none⟩ = false)
    (hvs : ∀ (j : Nat) v, vs[j]? = some v → w.cell? ⟨vb, voff + j, none⟩ = some v) (h1v : ∀ v ∈ vs, v.oneCell' = true) :
    Calls Tryz.prog 93 #[.slice (some ⟨b, off, none⟩) n c, .int .i64 n, .slice (some ⟨vb, voff, none⟩) m vc] w fun e w' =>
      e = .returned (.slice (some ⟨b, off, none⟩) (n + m) c) ∧ w' = w.setCells b (off + n) vs := by
  have mixed : Tryz.prog.follows .mixedOrders = true := by kernel_rfl
  have uT := run_underlying uSI
  have hz1 : ¬ ((m : Int) = 0) := by omega
  have hsrc := qiH w vb voff m vc vs hvl hvs h1v
  have iE : (Tryz.prog.info? 3).map (fun i => (i.zero, i.size, i.bytes)) = some (some (Value.int .i64 0), 1, 8) := by kernel_rfl
  go_enter Tryz.func93, Tryz.ntmps93
  go_wp2_with (at_builtin; refine wpList_append_room1 _ rfl _ _ 38 38 rfl 3 _ _ uSI iE b off n c rfl _ rfl m vs hsrc hroom (by rw [hvl]; exact hsp) (by rw [hvl]; exact hfz) ?_)
  go_ret
  exact ⟨rfl, rfl⟩
theorem insEndGI (base : Option Addr) (n c vb voff m vc : Nat) (cs vs : List Value) (w : World) (hm : 0 < m) (hnc : n ≤ c) (hroom : c < n + m) (hbig : (n + m) * 8 ≤ 140737488355328)
    (hcl : cs.length = n) (hvl : vs.length = m) (hnil : base = none → n = 0)
    (hcs : ∀ a, base = some a → ∀ (j : Nat) v, cs[j]? = some v → w.cell? (a.add j) = some v)
    (hvs : ∀ (j : Nat) v, vs[j]? = some v → w.cell? ⟨vb, voff + j, none⟩ = some v) (h1v : ∀ v ∈ vs, v.oneCell' = true) :
    Calls Tryz.prog 93 #[.slice base n c, .int .i64 n, .slice (some ⟨vb, voff, none⟩) m vc] w fun e w' =>
      e = .returned (.slice (some ⟨w.heap.size, 0, none⟩) (n + m) (grownCap w (n + m) c 3)) ∧
      w' = w.drew.alloc (.cells ((cs ++ vs).toArray ++ Builtin.zeroCells (Value.int .i64 0).cells (grownCap w (n + m) c 3 - (n + m))) 3) := by
  have mixed : Tryz.prog.follows .mixedOrders = true := by kernel_rfl
  have uT := run_underlying uSI
  obtain ⟨i0, hi0, hz0, hzs, hzb⟩ := iI
  have hz1 : ¬ ((m : Int) = 0) := by omega
  have hsrc : Go.Src Tryz.prog i0.size 38 (.slice (some ⟨vb, voff, none⟩) m vc) m vs w := by
    rw [hzs]; exact qiH w vb voff m vc vs hvl hvs h1v
  have hold : (Builtin.firstCells i0.size n (.slice base n c)).run Tryz.prog w.drew = .ok cs.toArray w.drew := by
    rw [hzs]
    cases base with
    | none =>
      have h0 := hnil rfl
      subst h0
      rw [List.length_eq_zero_iff.1 hcl]
      exact run_firstCells_none w.drew 1 0 0 c
    | some a => exact run_firstCells_some w.drew 1 n a n c cs (by omega) (fun j v hj => hcs a rfl j v hj)
  have hrun : ∀ ty, (Builtin.append_ #[38, 38] ty #[.slice base n c, .slice (some ⟨vb, voff, none⟩) m vc]).run Tryz.prog w = _ := fun ty =>
    run_append_grow_src w 38 38 ty 3 i0 _ uSI hi0 hz0 base n c cs hold _ m vs hsrc hroom (by omega) (by rw [hzb]; exact growslice_fits hroom hbig)
  go_enter Tryz.func93, Tryz.ntmps93
  cases base with
  | none =>
    have h0 := hnil rfl
    subst h0
    go_wp2_with (at_builtin; refine Lib.wpList_append_run _ rfl _ _ _ _ rfl _ _ rfl rfl _ _ (hrun _) ?_)
    go_ret
    exact ⟨rfl, rfl⟩
  | some a =>
    obtain ⟨ab, ao, asp⟩ := a
    go_wp2_with (at_builtin; refine Lib.wpList_append_run _ rfl _ _ _ _ rfl _ _ rfl rfl _ _ (hrun _) ?_)
    all_goals (go_ret; exact ⟨rfl, rfl⟩)
theorem insGrowI (b off n c i vb voff m vc : Nat) (cs vs : List Value) (w : World) (hi : i < n) (hm : 0 < m) (hnc : n ≤ c) (hroom : c < n + m) (hbig : (n + m) * 8 ≤ 140737488355328)
    (hcl : cs.length = n) (hvl : vs.length = m)
    (hcs : ∀ (j : Nat) v, cs[j]? = some v → w.cell? ⟨b, off + j, none⟩ = some v)
    (hvs : ∀ (j : Nat) v, vs[j]? = some v → w.cell? ⟨vb, voff + j, none⟩ = some v) (h1c : ∀ v ∈ cs, v.oneCell' = true) (h1v : ∀ v ∈ vs, v.oneCell' = true) :
    Calls Tryz.prog 93 #[.slice (some ⟨b, off, none⟩) n c, .int .i64 i, .slice (some ⟨vb, voff, none⟩) m vc] w fun e w' =>
      e = .returned (.slice (some ⟨w.heap.size, 0, none⟩) (n + m) (grownCap w (n + m) c 3)) ∧
      w' = (((w.alloc (.cells ((cs.take i).toArray ++ Builtin.zeroCells (Value.int .i64 0).cells (n + m - i) ++ Builtin.zeroCells (Value.int .i64 0).cells (grownCap w (n + m) c 3 - (n + m))) 3)).drew.setCells w.heap.size i vs).drew).setCells w.heap.size (i + m) (cs.drop i) := by
  have mixed : Tryz.prog.follows .mixedOrders = true := by kernel_rfl
  have uT := run_underlying uSI
  obtain ⟨i0, hi0, hz0, hzs, hzb⟩ := iI
  have u3 : Tryz.prog.underlying 3 = some (.int .i64) := by kernel_rfl
  have hz1 : ¬ ((m : Int) = 0) := by omega
  have hz2 : ¬ ((i : Int) = (n : Int)) := by omega
  have hz3 : (c : Int) < (n : Int) + (m : Int) := by omega
  have hbw : b < w.heap.size := block_lt_of_cell (hcs 0 _ (List.getElem?_eq_getElem (by omega)))
  have hvw : vb < w.heap.size := block_lt_of_cell (hvs 0 _ (List.getElem?_eq_getElem (by omega)))
  have hkk : (n : Int) + (m : Int) - (i : Int) = ((n + m - i : Nat) : Int) := by omega
  have hik : i + (n + m - i) = n + m := by omega
  have hold : (Builtin.firstCells i0.size i (.slice (some ⟨b, off, none⟩) i c)).run Tryz.prog w.drew = .ok (cs.take i).toArray w.drew := by
    rw [hzs]
    exact run_firstCells_some w.drew 1 i ⟨b, off, none⟩ i c (cs.take i) (by rw [List.length_take]; omega) (fun j v hj => by
      rw [Addr.add_lit]
      rw [List.getElem?_take] at hj
      split at hj
      · exact hcs j v hj
      · cases hj)
  have hrz : ∀ ty, (Builtin.append_ #[38, 3] ty #[.slice (some ⟨b, off, none⟩) i c, .int .i64 ((n : Int) + (m : Int) - (i : Int))]).run Tryz.prog w =
      .ok (.slice (some ⟨w.heap.size, 0, none⟩) (n + m) (grownCap w (n + m) c 3)) (w.drew.alloc (.cells ((cs.take i).toArray ++ Builtin.zeroCells (Value.int .i64 0).cells (n + m - i) ++ Builtin.zeroCells (Value.int .i64 0).cells (grownCap w (n + m) c 3 - (n + m))) 3)) := fun ty => by
    have h := Lib.run_append_grow_zeros w 38 3 ty 3 i0 _ .i64 .i64 uSI u3 hi0 hz0 (some ⟨b, off, none⟩) i c (cs.take i) hold (n + m - i) (by omega) (by omega) (by omega) (by omega) (by rw [hzb]; omega) (by rw [hzb, hik]; exact growslice_fits hroom hbig)
    rw [hik] at h
    rw [hkk]
    exact h
  obtain ⟨G, hG⟩ : ∃ G, G = grownCap w (n + m) c 3 := ⟨_, rfl⟩
  obtain ⟨ROW, hROW⟩ : ∃ ROW : Array Value, ROW = (cs.take i).toArray ++ Builtin.zeroCells (Value.int .i64 0).cells (n + m - i) ++ Builtin.zeroCells (Value.int .i64 0).cells (G - (n + m)) := ⟨_, rfl⟩
  rw [← hG] at hrz ⊢
  rw [← hROW] at hrz ⊢
  have hRl : n + m ≤ ROW.size := by
    rw [hROW]
    simp [Builtin.zeroCells, Value.cells]
    omega
  obtain ⟨W1, hW1⟩ : ∃ W1, W1 = w.drew.alloc (.cells ROW 3) := ⟨_, rfl⟩
  rw [← hW1] at hrz
  have hN : ∀ j, j < n + m → (W1.cell? ⟨w.heap.size, j, none⟩).isSome = true := fun j hj => by
    rw [hW1, World.cell?_alloc_at (w := w.drew) ROW _ w.heap.size j rfl, Array.getElem?_eq_getElem (by omega)]; rfl
  have hNf : ∀ j, W1.frozen? ⟨w.heap.size, j, none⟩ = false := fun j => by rw [hW1]; exact World.frozen?_alloc_at (w := w.drew) ROW _ w.heap.size j rfl
  have hOb : ∀ j v, w.cell? ⟨b, j, none⟩ = some v → W1.cell? ⟨b, j, none⟩ = some v := fun j v h => by rw [hW1, World.cell?_alloc_past (w := w.drew) _ b j hbw]; exact h
  have hOv : ∀ j v, w.cell? ⟨vb, j, none⟩ = some v → W1.cell? ⟨vb, j, none⟩ = some v := fun j v h => by rw [hW1, World.cell?_alloc_past (w := w.drew) _ vb j hvw]; exact h
  have hcpA : ∀ (W : World), (∀ x, W.cell? x = W1.cell? x) → (∀ x, W.frozen? x = W1.frozen? x) → ∀ ty dc, (Builtin.copy_ #[38, 38] ty #[.slice (some ⟨w.heap.size, i, none⟩) (n + m - i) dc, .slice (some ⟨vb, voff, none⟩) m vc]).run Tryz.prog W = .ok (goInt vs.length) (W.setCells w.heap.size i vs) := fun W hWc hWf ty dc =>
    run_copy_cells W _ _ ty 3 w.heap.size i (n + m - i) dc ⟨vb, voff, none⟩ m vc vs uSI szI (by rw [hvl]; simp only [Nat.min_def]; split <;> omega)
      (fun j v hj => by rw [Addr.add_lit, hWc]; exact hOv _ v (hvs j v hj))
      (fun j hj => by rw [hWc]; exact hN _ (by omega)) (fun j hj => by rw [hWf]; exact hNf _) h1v
  have hGn : n + m ≤ G := by rw [hG]; exact grownCap_ge w _ _ _
  have hG63 : G ≤ 9223372036854775807 := by
    have := grownCap_le_maxLen w (n + m) c 3 (by unfold maxLen; omega)
    rw [← hG] at this
    unfold maxLen at this
    omega
  have hGi : ¬ (G = i) := by omega
  have hGim : ¬ (G = i + m) := by omega
  have hci : ¬ (c = i) := by omega
  have hbN : b ≠ w.heap.size := by omega
  have hdl : (cs.drop i).length = n - i := by rw [List.length_drop, hcl]
  have hcpB : ∀ (W : World), (∀ x, W.cell? x = (W1.setCells w.heap.size i vs).cell? x) → (∀ x, W.frozen? x = (W1.setCells w.heap.size i vs).frozen? x) → ∀ ty dc sc, (Builtin.copy_ #[38, 38] ty #[.slice (some ⟨w.heap.size, i + m, none⟩) (n + m - (i + m)) dc, .slice (some ⟨b, off + i, none⟩) (n - i) sc]).run Tryz.prog W = .ok (goInt (cs.drop i).length) (W.setCells w.heap.size (i + m) (cs.drop i)) := fun W hWc hWf ty dc sc =>
    run_copy_cells W _ _ ty 3 w.heap.size (i + m) (n + m - (i + m)) dc ⟨b, off + i, none⟩ (n - i) sc (cs.drop i) uSI szI (by rw [hdl]; simp only [Nat.min_def]; split <;> omega)
      (fun j v hj => by
        rw [Addr.add_lit, hWc, World.cell?_setCells_out _ _ _ _ _ (fun h _ => absurd h hbN), Nat.add_assoc]
        exact hOb _ v (hcs (i + j) v (by rwa [List.getElem?_drop] at hj)))
      (fun j hj => by rw [hWc]; exact isSome_setCells _ _ _ _ (fun t ht => hN _ (by omega)) _ (hN _ (by omega)))
      (fun j hj => by rw [hWf, World.frozen?_setCells]; exact hNf _) (fun v hv => h1c v (List.mem_of_mem_drop hv))
  subst hW1
  have hE1 : ∀ x, ((w.alloc (.cells ROW 3)).drew).cell? x = (w.drew.alloc (.cells ROW 3)).cell? x := fun x => rfl
  have hE2 : ∀ x, ((w.alloc (.cells ROW 3)).drew).frozen? x = (w.drew.alloc (.cells ROW 3)).frozen? x := fun x => rfl
  have hF1 : ∀ x, (((w.alloc (.cells ROW 3)).drew.setCells w.heap.size i vs).drew).cell? x = ((w.drew.alloc (.cells ROW 3)).setCells w.heap.size i vs).cell? x := fun x => rfl
  have hF2 : ∀ x, (((w.alloc (.cells ROW 3)).drew.setCells w.heap.size i vs).drew).frozen? x = ((w.drew.alloc (.cells ROW 3)).setCells w.heap.size i vs).frozen? x := fun x => rfl
  have hw1 : IntKind.i64.wrap ((i : Int) + (m : Int)) = (i : Int) + (m : Int) := by rw [IntKind.wrap_i64]; omega
  have hb1 : (0 : Int) ≤ (i : Int) + (m : Int) := by omega
  have hin : i ≤ n := by omega
  have htn : ((i : Int) + (m : Int)).toNat = i + m := by omega
  have hb3 : (i : Int) ≤ (n : Int) := by omega
  clear hkk hik hold hROW hG hRl
  go_enter Tryz.func93, Tryz.ntmps93
  go_wp2_with (first
    | (at_builtin; refine Lib.wpList_append_run _ rfl _ _ _ _ rfl _ _ rfl rfl _ _ (hrz _) ?_)
    | (at_builtin; refine wpList_copy_runI _ rfl _ _ 38 38 rfl _ _ rfl rfl (hcpA _ hE1 hE2 _ _) ?_)
    | (at_builtin; refine wpList_copy_runI _ rfl _ _ 38 38 rfl _ _ rfl rfl (hcpB _ (fun _ => rfl) (fun _ => rfl) _ _ _) ?_))
  go_region_law_o (refine step_copy_runI rfl _ _ 38 38 rfl (.slice (some ⟨w.heap.size, i + m, none⟩) (n + m - (i + m)) (G - (i + m))) (.slice (some ⟨b, off + i, none⟩) (n - i) (c - i)) (by simp [Act.eval, Act.put]) (by simp [Act.eval, Act.put]) (hcpB _ hF1 hF2 3 (G - (i + m)) (c - i)) ?_)
  go_wp2
  go_ret
  exact ⟨rfl, rfl⟩
theorem del0I (base : Option Addr) (n c i : Nat) (w : World) (hi : i ≤ n) (hnc : n ≤ c) (hn : n ≤ 140737488355328) :
    Calls Tryz.prog 92 #[.slice base n c, .int .i64 i, .int .i64 i] w fun e w' => e = .returned (.slice base n c) ∧ w' = w := by
  have mixed : Tryz.prog.follows .mixedOrders = true := by kernel_rfl
  have hic : i ≤ c := by omega
  cases base with
  | none =>
    go_enter Tryz.func92, Tryz.ntmps92
    go_wp2
    all_goals (go_ret; exact ⟨rfl, rfl⟩)
  | some a =>
    obtain ⟨ab, ao, asp⟩ := a
    go_enter Tryz.func92, Tryz.ntmps92
    go_wp2
    all_goals (go_ret; exact ⟨rfl, rfl⟩)
theorem delI (blk off n cap i j : Nat) (cs : List Value) (w : World) (hcl : cs.length = n) (hcap : n ≤ cap) (hm : n ≤ 140737488355328) (hij : i < j) (hj : j ≤ n)
    (hcs : ∀ (t : Nat) v, cs[t]? = some v → w.cell? ⟨blk, off + t, none⟩ = some v) (hfz : ∀ t, t < n → w.frozen? ⟨blk, off + t, none⟩ = false) (h1c : ∀ v ∈ cs, v.oneCell' = true) :
    Calls Tryz.prog 92 #[.slice (some ⟨blk, off, none⟩) n cap, .int .i64 i, .int .i64 j] w fun e w' => e = .returned (.slice (some ⟨blk, off, none⟩) (n - (j - i)) cap) ∧
      w' = (w.drew.setCells blk (off + i) (cs.drop j)).setCells blk (off + (i + (n - j))) (List.replicate (j - i) (Value.int .i64 0)) := by
  have mixed : Tryz.prog.follows .mixedOrders = true := by kernel_rfl
  have uT := run_underlying uSI
  obtain ⟨i0, hi0, hz0, hzs, hzb⟩ := iI
  have hlen : (cs.drop j).length = n - j := by rw [List.length_drop, hcl]
  obtain ⟨news, hnews⟩ : ∃ news, news = cs.drop j := ⟨_, rfl⟩
  rw [← hnews] at hlen ⊢
  have hsp : ∀ t, t < n → (w.cell? ⟨blk, off + t, none⟩).isSome = true := fun t ht => by
    rw [hcs t _ (List.getElem?_eq_getElem (by omega))]; rfl
  obtain ⟨A, hA, hsrc⟩ : ∃ A : Addr, (if cap = j then some (⟨blk, off, none⟩ : Addr) else some ⟨blk, off + j, none⟩) = some A ∧ Hid (∀ (t : Nat) u, news[t]? = some u → w.drew.cell? (A.add t) = some u) := by
    by_cases h : cap = j
    · refine ⟨⟨blk, off, none⟩, by simp [h], fun t u hu => ?_⟩
      have h0 : news.length = 0 := by rw [hlen]; omega
      rw [List.length_eq_zero_iff.1 h0] at hu
      simp at hu
    · refine ⟨⟨blk, off + j, none⟩, by simp [h], fun t u hu => ?_⟩
      rw [hnews, List.getElem?_drop] at hu
      rw [Addr.add_lit, Nat.add_assoc]
      exact hcs (j + t) u hu
  have s1 : Hid (news.length = (n - j) * 1) := by rw [Nat.mul_one]; exact hlen
  have s2 : Hid (∀ u ∈ news, u.oneCell' = true) := fun u hu => h1c u (List.mem_of_mem_drop (hnews ▸ hu))
  have s3 : Hid (∀ t, t < news.length → (w.drew.cell? ⟨blk, off + i * 1 + t, none⟩).isSome = true ∧ w.drew.frozen? ⟨blk, off + i * 1 + t, none⟩ = false) := by
    intro t ht
    rw [hlen] at ht
    rw [Nat.mul_one, Nat.add_assoc]
    exact ⟨hsp (i + t) (by omega), hfz (i + t) (by omega)⟩
  obtain ⟨W1, hW1⟩ : ∃ W1, W1 = w.drew.setCells blk (off + i * 1) news := ⟨_, rfl⟩
  have hsp1 : ∀ t, t < n → (W1.cell? ⟨blk, off + t, none⟩).isSome = true := fun t ht => by
    rw [hW1]
    refine isSome_setCells blk _ _ _ (fun k hk => ?_) _ (hsp t ht)
    rw [Nat.mul_one, Nat.add_assoc]; exact hsp _ (by omega)
  have hfz1 : ∀ t, t < n → W1.frozen? ⟨blk, off + t, none⟩ = false := fun t ht => by
    rw [hW1, World.frozen?_setCells]; exact hfz t ht
  have v23 : ∀ w, (zeroValue 3).run Tryz.prog w = .ok (Value.int .i64 0) w := fun w => by kernel_rfl
  have hcl2 : ∀ ty, (Builtin.clear_ #[38] ty #[.slice (some ⟨blk, off + (i + (n - j)), none⟩) (n - (i + (n - j))) (cap - (i + (n - j)))]).run Tryz.prog W1 = .ok (.tuple #[]) (W1.setCells blk (off + (i + (n - j))) (List.replicate (n - (i + (n - j))) (Value.int .i64 0))) :=
    fun ty => Lib.run_clear_slice W1 _ _ ty _ uSI v23 rfl rfl blk (off + (i + (n - j))) _ _ (by omega) (fun t ht => by rw [show off + (i + (n - j)) + t = off + (i + (n - j) + t) by omega]; exact hsp1 _ (by omega)) (fun t ht => by rw [show off + (i + (n - j)) + t = off + (i + (n - j) + t) by omega]; exact hfz1 _ (by omega))
  have hW : Hid (W1 = w.drew.setCells blk (off + i * 1) news) := hW1
  have hic : i ≤ cap := by omega
  have hjc : j ≤ cap := by omega
  clear hW1 hsp1 hfz1 hsp hcs hfz hnews hlen hcl h1c
  go_enter Tryz.func92, Tryz.ntmps92
  go_wp2_with fail
  go_region_law_o (refine step_append_room rfl (.tmp 22) (.tmp 25) 38 rfl 3 i0 1 uSI hi0 hzs blk off i cap (by simp [Act.eval, Act.put]) A (n - j) (cap - j) news (by simp [Act.eval, Act.put]) s1.out hsrc.out s2.out (by omega) s3.out ?_; rw [← hW.out])
  go_wp2
  go_ret
  refine ⟨by rw [show n - (j - i) = i + (n - j) by omega]; rfl, ?_⟩
  have hWo := hW.out
  rw [Nat.mul_one] at hWo
  rw [← hWo, show j - i = n - (i + (n - j)) by omega]
end I
end Go.Ab.Ins

set_option linter.unusedVariables false
set_option linter.unusedSimpArgs false
namespace Go.Ab
open Go Go.Proofs Go.RowKit
def qgc (xs : List Int) (i j : Int) : Option (List Int) :=
  if 0 ≤ i ∧ i ≤ j ∧ j ≤ xs.length ∧ xs.length ≤ 140737488355328 then some (xs.take i.toNat ++ xs.drop j.toNat) else none
def qib (xs : List Int) (i : Int) (ys : List Int) : Option (List Int) :=
  if 0 ≤ i ∧ i ≤ xs.length ∧ (xs.length + ys.length) * 8 ≤ 140737488355328 then some (xs.take i.toNat ++ ys ++ xs.drop i.toNat) else none
def qIe : List AV → List (Nat × Obj) → Option (List Int)
  | [.ref (.int .u8) 0 off n wh, .int .i64 i, .int .i64 j], [(0, .row (.int .u8) _ xs)] => qgc (seg xs off n wh) i j
  | _, _ => none
def qHe : List AV → List (Nat × Obj) → Option (List Int)
  | [.ref (.int .u8) 0 off n wh, .int .i64 i, .ref (.int .u8) 1 off2 m wh2], [(0, .row (.int .u8) _ xs), (1, .row (.int .u8) _ ys)] => qib (seg xs off n wh) i (seg ys off2 m wh2)
  | _, _ => none
set_option maxRecDepth 100000 in
theorem qQm {GT : qfg} {avs : List AV} {pre : List (Nat × Obj)} {r : List Int} (h : qIe avs pre = some r) : CallOK Tryz.prog GT 61 avs pre (.one (.ref (.int .u8) 8 0 r.length true)) [(8, .row (.int .u8) true r)] := by
  unfold qIe at h
  split at h
  · rename_i off n wh i j f xs
    unfold qgc at h
    split at h
    · rename_i hc
      obtain ⟨c1, c2, c3, c4⟩ := hc
      injection h with h; subst h
      intro w F G K vs hg hI hG hK hF hv
      obtain ⟨v1, r1, rfl, h1, h2⟩ := hv
      obtain ⟨v2, r2, rfl, h2, h3⟩ := h2
      obtain ⟨v3, r3, rfl, h3, h4⟩ := h3
      simp only [VRdL] at h4; subst h4
      simp only [VRd] at h2 h3; subst h2; subst h3
      have hng := hg.1
      have h8 : 8 ∉ ([(0, Obj.row (.int .u8) f xs)] : List (Nat × Obj)).map (·.1) := by simp
      have hK8 : K 8 = none := hK 8 rfl
      obtain ⟨q1, q2⟩ := qEl hI (l := 0) (fr := f) (xs := xs) rfl h1
      generalize seg xs off n wh = zs at *
      obtain ⟨i, rfl⟩ := Int.eq_ofNat_of_zero_le c1
      obtain ⟨j, rfl⟩ := Int.eq_ofNat_of_zero_le (Int.le_trans c1 c2)
      have c2' : i ≤ j := by omega
      have c3' : j ≤ n := by omega
      rw [Int.toNat_natCast, Int.toNat_natCast]
      refine qjj (by kernel_rfl) (by kernel_rfl) ?_
      rcases q2 with ⟨rfl, hn⟩ | ⟨p, o, cap, k1, rfl, hcap, hpl, hb, hcs⟩
      · have hz : zs = [] := List.eq_nil_of_length_eq_zero (by omega)
        subst hz
        have hi0 : i = 0 := by omega
        have hj0 : j = 0 := by omega
        subst hi0; subst hj0; subst hn
        refine (Ins.del0B none 0 0 0 w (Nat.le_refl _) (Nat.le_refl _) (by omega)).mono ?_
        rintro e w' ⟨rfl, rfl⟩
        obtain ⟨K', k2, k3, k4⟩ := qao hI hng hK8 h8 (k := .u8)
        exact ⟨_, rfl, K', k2, k3, k4⟩
      · by_cases hij : i = j
        · subst hij
          refine (Ins.del0B _ n cap i w c3' hcap (by omega)).mono ?_
          rintro e w' ⟨rfl, rfl⟩
          rw [List.take_append_drop]
          obtain ⟨K', k2, k3, k4⟩ := qre (k := .u8) (o := o) (cap := cap) (zs := zs) hI rfl k1 hK8 h8 ⟨rfl, rfl, rfl, rfl, fun _ _ => rfl⟩ hb (by omega) hpl hcs
          rw [q1] at k4 ⊢
          exact ⟨_, rfl, K', k2, k3, k4⟩
        · have hpl' := hpl.resolve_left (by omega)
          have hml : (zs.map fun x => Value.int .u8 x).length = n := by rw [List.length_map, q1]
          refine (Ins.delB p.blk o n cap i j _ w hml hcap (by omega) (by omega) c3' hcs (fun t ht => hb.never (p := ⟨p.blk, 0, p.bs⟩) _) (fun v hv => by
            obtain ⟨x, _, rfl⟩ := List.mem_map.1 hv; rfl)).mono ?_
          rintro e w' ⟨rfl, rfl⟩
          have hlen : (zs.take i ++ zs.drop j).length = n - (j - i) := by rw [List.length_append, List.length_take, List.length_drop]; omega
          have hdl : ((zs.map fun x => Value.int .u8 x).drop j).length = n - j := by rw [List.length_drop, hml]
          have his : ∀ t, t < cap → ((w.drew).cell? ⟨p.blk, o + t, none⟩).isSome = true := fun t ht => hb.is (p := ⟨p.blk, 0, p.bs⟩) (by show o + t < p.bs; omega)
          have hb1 := InBlk.set (w := w.drew) (o := o + i) (s := (zs.map fun x => Value.int .u8 x).drop j) hb (by rw [hdl]; omega)
          have hb2 := InBlk.set (o := o + (i + (n - j))) (s := List.replicate (j - i) (Value.int .u8 0)) hb1 (by rw [List.length_replicate]; omega)
          have s1 := qza p.blk ((zs.map fun x => Value.int .u8 x).drop j) (o + i) w.drew
          have s2 := qza p.blk (List.replicate (j - i) (Value.int .u8 0)) (o + (i + (n - j))) (w.drew.setCells p.blk (o + i) ((zs.map fun x => Value.int .u8 x).drop j))
          obtain ⟨K', k2, k3, k4⟩ := qre (k := .u8) (o := o) (cap := cap) (zs := zs.take i ++ zs.drop j) hI rfl k1 hK8 h8
            ⟨s2.1.trans s1.1, s2.2.1.trans s1.2.1, s2.2.2.1.trans s1.2.2.1, s2.2.2.2.1.trans s1.2.2.2.1, fun k hk => (s2.2.2.2.2 k hk).trans (s1.2.2.2.2 k hk)⟩ hb2 (by omega) hpl (fun t v ht => by
              have htl := (List.getElem?_eq_some_iff.1 ht).1
              rw [List.length_map, hlen] at htl
              rw [List.map_append, List.map_take, List.map_drop] at ht
              have htk : ((zs.map fun x => Value.int .u8 x).take i).length = i := by rw [List.length_take, hml]; omega
              rw [World.cell?_setCells_out _ _ _ _ _ (fun _ _ => by show o + t < o + (i + (n - j)) ∨ _; omega)]
              by_cases h1 : t < i
              · rw [World.cell?_setCells_out _ _ _ _ _ (fun _ _ => by show o + t < o + i ∨ _; omega)]
                rw [List.getElem?_append_left (by omega), List.getElem?_take, if_pos h1] at ht
                exact hcs t v ht
              · rw [List.getElem?_append_right (by omega), htk] at ht
                have := World.cell?_setCells_in p.blk ((zs.map fun x => Value.int .u8 x).drop j) (o + i) w.drew (fun t ht => by rw [Nat.add_assoc]; exact his _ (by omega)) (t - i) (by omega)
                rw [show o + i + (t - i) = o + t by omega] at this
                exact this.trans ((List.getElem?_eq_getElem _).symm.trans ht))
          rw [hlen] at k4 ⊢
          exact ⟨_, rfl, K', k2, k3, k4⟩
    · cases h
  · cases h
set_option maxRecDepth 100000 in
theorem qOm {GT : qfg} {avs : List AV} {pre : List (Nat × Obj)} {r : List Int} (h : qHe avs pre = some r) : CallOK Tryz.prog GT 62 avs pre (.one (.ref (.int .u8) 8 0 r.length true)) [(8, .row (.int .u8) true r)] := by
  unfold qHe at h
  split at h
  · rename_i off n wh i off2 m wh2 f xs f2 ys
    unfold qib at h
    split at h
    · rename_i hc
      obtain ⟨c1, c2, c3⟩ := hc
      injection h with h; subst h
      intro w F G K vs hg hI hG hK hF hv
      obtain ⟨v1, r1, rfl, h1, h2⟩ := hv
      obtain ⟨v2, r2, rfl, h2, h3⟩ := h2
      obtain ⟨v3, r3, rfl, h3, h4⟩ := h3
      simp only [VRdL] at h4; subst h4
      simp only [VRd] at h2; subst h2
      have hng := hg.1
      have h8 : 8 ∉ ([(0, Obj.row (.int .u8) f xs), (1, Obj.row (.int .u8) f2 ys)] : List (Nat × Obj)).map (·.1) := by simp
      have hK8 : K 8 = none := hK 8 rfl
      obtain ⟨q1, q2⟩ := qEl hI (l := 0) (fr := f) (xs := xs) rfl h1
      obtain ⟨u1, u2⟩ := qEl hI (l := 1) (fr := f2) (xs := ys) rfl h3
      have hapart : ∀ (p p' : Plc), K 0 = some ⟨.row (.int .u8) xs.length [], some p⟩ → K 1 = some ⟨.row (.int .u8) ys.length [], some p'⟩ → p'.blk ≠ p.blk := fun p p' e1 e2 e => by
        have := hI.inj 1 0 _ _ _ _ p' p rfl rfl e2 e1 (Or.inl rfl) (Or.inl rfl) e
        omega
      generalize seg xs off n wh = zs at *
      generalize seg ys off2 m wh2 = us at *
      obtain ⟨i, rfl⟩ := Int.eq_ofNat_of_zero_le c1
      have c2' : i ≤ n := by omega
      rw [Int.toNat_natCast]
      have hzl : (zs.map fun x => Value.int .u8 x).length = n := by rw [List.length_map, q1]
      have hul : (us.map fun x => Value.int .u8 x).length = m := by rw [List.length_map, u1]
      have hone : ∀ (ls : List Int), ∀ v ∈ ls.map (fun x => Value.int .u8 x), v.oneCell' = true := fun ls v hv => by
        obtain ⟨x, _, rfl⟩ := List.mem_map.1 hv; rfl
      refine qjj (by kernel_rfl) (by kernel_rfl) ?_
      by_cases hm0 : m = 0
      · -- nothing is put in
        subst hm0
        have hu0 : us = [] := List.eq_nil_of_length_eq_zero u1
        subst hu0
        rw [List.append_nil, List.take_append_drop]
        have hv3 : ∃ a vc, v3 = .slice a 0 vc := by
          rcases u2 with ⟨rfl, _⟩ | ⟨_, _, _, _, rfl, _⟩ <;> exact ⟨_, _, rfl⟩
        obtain ⟨a3, vc, rfl⟩ := hv3
        rcases q2 with ⟨rfl, hn⟩ | ⟨p, o, cap, k1, rfl, hcap, hpl, hb, hcs⟩
        · have hz : zs = [] := List.eq_nil_of_length_eq_zero (by omega)
          subst hz
          have hi0 : i = 0 := by omega
          subst hi0; subst hn
          refine (Ins.ins0B none 0 0 0 a3 vc w (Nat.le_refl _) (Nat.le_refl _) (by omega)).mono ?_
          rintro e w' ⟨rfl, rfl⟩
          obtain ⟨K', k2, k3, k4⟩ := qao hI hng hK8 h8 (k := .u8)
          exact ⟨_, rfl, K', k2, k3, k4⟩
        · refine (Ins.ins0B _ n cap i a3 vc w c2' hcap (by omega)).mono ?_
          rintro e w' ⟨rfl, rfl⟩
          obtain ⟨K', k2, k3, k4⟩ := qre (k := .u8) (o := o) (cap := cap) (zs := zs) hI rfl k1 hK8 h8 ⟨rfl, rfl, rfl, rfl, fun _ _ => rfl⟩ hb (by omega) hpl hcs
          rw [q1] at k4 ⊢
          exact ⟨_, rfl, K', k2, k3, k4⟩
      · rcases u2 with ⟨_, hu⟩ | ⟨p', o', cap', k1', rfl, hcap', hpl', hb', hcs'⟩
        · omega
        have hlen : (zs.take i ++ us ++ zs.drop i).length = n + m := by rw [List.length_append, List.length_append, List.length_take, List.length_drop]; omega
        have hpl'' := hpl'.resolve_left (by omega)
        by_cases hin : i = n
        · -- at the end
          subst hin
          have hrow : zs.take i ++ us ++ zs.drop i = zs ++ us := by rw [List.take_of_length_le (by omega), List.drop_of_length_le (by omega), List.append_nil]
          rw [hrow] at hlen ⊢
          have grown : ∀ (base : Option Addr) (cap : Nat), i ≤ cap → cap < i + m → (base = none → i = 0) → (∀ a, base = some a → ∀ (t : Nat) v, (zs.map fun x => Value.int .u8 x)[t]? = some v → w.cell? (a.add t) = some v) →
              Calls Tryz.prog 62 #[.slice base i cap, .int .i64 i, .slice (some ⟨p'.blk, o', none⟩) m cap'] w fun e w' => ∃ v, e = .returned v ∧ ∃ K', (∀ l gh, K l = some gh → K' l = some gh) ∧ Inv ⟨w, F, G, ngOf GT, []⟩ (lookL [(8, .row (.int .u8) true (zs ++ us))]) K' w' ∧ RefRd K' (.int .u8) 8 0 (zs ++ us).length true v := by
            intro base cap hcap hroom hnil hbs
            refine (Ins.insEndGB base i cap p'.blk o' m cap' _ _ w (by omega) hcap hroom (by omega) hzl hul hnil hbs hcs' (hone us)).mono ?_
            rintro e w' ⟨rfl, rfl⟩
            have hge := grownCap_ge w (i + m) cap 5
            generalize grownCap w (i + m) cap 5 = gc at *
            generalize hr : (((zs.map fun x => Value.int .u8 x) ++ us.map fun x => Value.int .u8 x).toArray ++ Builtin.zeroCells (Value.int .u8 0).cells (gc - (i + m))) = arr
            have hsz : arr.size = gc := by
              rw [← hr, Array.size_append, List.size_toArray, List.length_append, hzl, hul]
              have : (Builtin.zeroCells (Value.int .u8 0).cells (gc - (i + m))).size = gc - (i + m) := by simp [Builtin.zeroCells, Value.cells]
              omega
            have hbn := InBlk.new w.drew arr 5
            obtain ⟨K', k2, k3, k4⟩ := qPq (k := .u8) (bs := gc) (cap := gc) (zs := zs ++ us) hI hng hK8 h8 (qXa w.drew _) (by rw [← hsz]; exact hbn.bare) (by omega) (Nat.le_refl _) (fun t v ht => by
              have := hbn.cells t v (by
                rw [Array.getElem?_toList, ← hr, Array.getElem?_append_left (by rw [List.size_toArray, ← List.map_append]; exact (List.getElem?_eq_some_iff.1 ht).1), List.getElem?_toArray, ← List.map_append]
                exact ht)
              exact this)
            rw [hlen] at k4 ⊢
            exact ⟨_, rfl, K', k2, k3, k4⟩
          rcases q2 with ⟨rfl, hn⟩ | ⟨p, o, cap, k1, rfl, hcap, hpl, hb, hcs⟩
          · subst hn
            exact grown none 0 (Nat.le_refl _) (by omega) (fun _ => rfl) (fun a ha => by cases ha)
          · by_cases hroom : i + m ≤ cap
            · have hplo := hpl.resolve_left (by omega)
              refine (Ins.insEndB p.blk o i cap p'.blk o' m cap' _ w (by omega) hroom (by omega) hul (fun t ht => hb.is (p := ⟨p.blk, 0, p.bs⟩) (by show o + i + t < p.bs; omega)) (fun t ht => hb.never (p := ⟨p.blk, 0, p.bs⟩) _) hcs' (hone us)).mono ?_
              rintro e w' ⟨rfl, rfl⟩
              have hb1 := InBlk.set (w := w) (o := o + i) (s := us.map fun x => Value.int .u8 x) hb (by rw [hul]; omega)
              obtain ⟨K', k2, k3, k4⟩ := qre (k := .u8) (o := o) (cap := cap) (zs := zs ++ us) hI rfl k1 hK8 h8 (qza p.blk _ (o + i) w) hb1 (by omega) hpl (fun t v ht => by
                have htl := (List.getElem?_eq_some_iff.1 ht).1
                rw [List.length_map, hlen] at htl
                rw [List.map_append] at ht
                by_cases h1 : t < i
                · rw [World.cell?_setCells_out _ _ _ _ _ (fun _ _ => by show o + t < o + i ∨ _; omega)]
                  rw [List.getElem?_append_left (by omega)] at ht
                  exact hcs t v ht
                · rw [List.getElem?_append_right (by omega), hzl] at ht
                  have := World.cell?_setCells_in p.blk (us.map fun x => Value.int .u8 x) (o + i) w (fun t ht => hb.is (p := ⟨p.blk, 0, p.bs⟩) (by show o + i + t < p.bs; omega)) (t - i) (by omega)
                  rw [show o + i + (t - i) = o + t by omega] at this
                  exact this.trans ((List.getElem?_eq_getElem _).symm.trans ht))
              rw [hlen] at k4 ⊢
              exact ⟨_, rfl, K', k2, k3, k4⟩
            · exact grown _ cap hcap (by omega) (fun h => by cases h) (fun a ha t v ht => by
                injection ha with ha; subst ha
                rw [Addr.add_lit]; exact hcs t v ht)
        · -- in the middle
          rcases q2 with ⟨_, hn⟩ | ⟨p, o, cap, k1, rfl, hcap, hpl, hb, hcs⟩
          · omega
          have hplo := hpl.resolve_left (by omega)
          have hdl : ((zs.map fun x => Value.int .u8 x).drop i).length = n - i := by rw [List.length_drop, hzl]
          have htk : ((zs.map fun x => Value.int .u8 x).take i).length = i := by rw [List.length_take, hzl]; omega
          have place : ∀ (W0 : World) (b q : Nat), (∀ t, t < n + m → (W0.cell? ⟨b, q + t, none⟩).isSome = true) → (∀ (t : Nat) v, t < i → (zs.map fun x => Value.int .u8 x)[t]? = some v → W0.cell? ⟨b, q + t, none⟩ = some v) →
              CellsAt ((W0.setCells b (q + (i + m)) ((zs.map fun x => Value.int .u8 x).drop i)).setCells b (q + i) (us.map fun x => Value.int .u8 x)) b q ((zs.take i ++ us ++ zs.drop i).map fun x => Value.int .u8 x) ∧
              CellsAt ((W0.setCells b (q + i) (us.map fun x => Value.int .u8 x)).setCells b (q + (i + m)) ((zs.map fun x => Value.int .u8 x).drop i)) b q ((zs.take i ++ us ++ zs.drop i).map fun x => Value.int .u8 x) := by
            intro W0 b q his hfst
            constructor
            all_goals
              intro t v ht
              have htl := (List.getElem?_eq_some_iff.1 ht).1
              rw [List.length_map, hlen] at htl
              rw [List.map_append, List.map_append, List.map_take, List.map_drop] at ht
            · by_cases h1 : t < i
              · rw [World.cell?_setCells_out _ _ _ _ _ (fun _ _ => by show q + t < q + i ∨ _; omega), World.cell?_setCells_out _ _ _ _ _ (fun _ _ => by show q + t < q + (i + m) ∨ _; omega)]
                rw [List.append_assoc, List.getElem?_append_left (by omega), List.getElem?_take, if_pos h1] at ht
                exact hfst t v h1 ht
              · by_cases h2 : t < i + m
                · rw [List.append_assoc, List.getElem?_append_right (by omega), htk, List.getElem?_append_left (by omega)] at ht
                  have := World.cell?_setCells_in b (us.map fun x => Value.int .u8 x) (q + i) (W0.setCells b (q + (i + m)) ((zs.map fun x => Value.int .u8 x).drop i)) (fun t ht => by
                    rw [Nat.add_assoc]
                    exact isSome_setCells b _ _ _ (fun j hj => by rw [Nat.add_assoc]; exact his _ (by omega)) _ (his _ (by omega))) (t - i) (by omega)
                  rw [show q + i + (t - i) = q + t by omega] at this
                  exact this.trans ((List.getElem?_eq_getElem _).symm.trans ht)
                · rw [World.cell?_setCells_out _ _ _ _ _ (fun _ _ => by show _ ∨ q + i + _ ≤ q + t; omega)]
                  rw [List.getElem?_append_right (by rw [List.length_append]; omega), List.length_append, htk, hul] at ht
                  have := World.cell?_setCells_in b ((zs.map fun x => Value.int .u8 x).drop i) (q + (i + m)) W0 (fun t ht => by rw [Nat.add_assoc]; exact his _ (by omega)) (t - (i + m)) (by omega)
                  rw [show q + (i + m) + (t - (i + m)) = q + t by omega] at this
                  exact this.trans ((List.getElem?_eq_getElem _).symm.trans ht)
            · by_cases h1 : t < i
              · rw [World.cell?_setCells_out _ _ _ _ _ (fun _ _ => by show q + t < q + (i + m) ∨ _; omega), World.cell?_setCells_out _ _ _ _ _ (fun _ _ => by show q + t < q + i ∨ _; omega)]
                rw [List.append_assoc, List.getElem?_append_left (by omega), List.getElem?_take, if_pos h1] at ht
                exact hfst t v h1 ht
              · by_cases h2 : t < i + m
                · rw [World.cell?_setCells_out _ _ _ _ _ (fun _ _ => by show q + t < q + (i + m) ∨ _; omega)]
                  rw [List.append_assoc, List.getElem?_append_right (by omega), htk, List.getElem?_append_left (by omega)] at ht
                  have := World.cell?_setCells_in b (us.map fun x => Value.int .u8 x) (q + i) W0 (fun t ht => by rw [Nat.add_assoc]; exact his _ (by omega)) (t - i) (by omega)
                  rw [show q + i + (t - i) = q + t by omega] at this
                  exact this.trans ((List.getElem?_eq_getElem _).symm.trans ht)
                · rw [List.getElem?_append_right (by rw [List.length_append]; omega), List.length_append, htk, hul] at ht
                  have := World.cell?_setCells_in b ((zs.map fun x => Value.int .u8 x).drop i) (q + (i + m)) (W0.setCells b (q + i) (us.map fun x => Value.int .u8 x)) (fun t ht => by
                    rw [Nat.add_assoc]
                    exact isSome_setCells b _ _ _ (fun j hj => by rw [Nat.add_assoc]; exact his _ (by omega)) _ (his _ (by omega))) (t - (i + m)) (by omega)
                  rw [show q + (i + m) + (t - (i + m)) = q + t by omega] at this
                  exact this.trans ((List.getElem?_eq_getElem _).symm.trans ht)
          by_cases hroom : n + m ≤ cap
          · obtain ⟨tA, hsa⟩ := hb'.shape
            obtain ⟨tB, hsb⟩ := hb.shape
            have his : ∀ t, t < n + m → (w.cell? ⟨p.blk, o + t, none⟩).isSome = true := fun t ht => hb.is (p := ⟨p.blk, 0, p.bs⟩) (by show o + t < p.bs; omega)
            refine (Ins.insShiftB p.blk o n cap i p'.blk o' m cap' _ _ w (by omega) (by omega) hroom (by omega) (hapart p p' k1 k1') hzl hul hcs his
              (fun t ht => hb.never (p := ⟨p.blk, 0, p.bs⟩) _) hcs' (hone zs) (hone us) tA tB p'.bs p.bs hsa hsb (by omega) (hb'.never (p := ⟨p'.blk, 0, p'.bs⟩) _) (hb'.never (p := ⟨p'.blk, 0, p'.bs⟩) _)).mono ?_
            rintro e w' ⟨rfl, rfl⟩
            have hb1 := InBlk.set (w := w.drew) (o := o + (i + m)) (s := (zs.map fun x => Value.int .u8 x).drop i) hb (by rw [hdl]; omega)
            have hb2 := InBlk.set (o := o + i) (s := us.map fun x => Value.int .u8 x) hb1 (by rw [hul]; omega)
            have s1 := qza p.blk ((zs.map fun x => Value.int .u8 x).drop i) (o + (i + m)) w.drew
            have s2 := qza p.blk (us.map fun x => Value.int .u8 x) (o + i) (w.drew.setCells p.blk (o + (i + m)) ((zs.map fun x => Value.int .u8 x).drop i))
            obtain ⟨K', k2, k3, k4⟩ := qre (k := .u8) (o := o) (cap := cap) (zs := zs.take i ++ us ++ zs.drop i) hI rfl k1 hK8 h8
              ⟨s2.1.trans s1.1, s2.2.1.trans s1.2.1, s2.2.2.1.trans s1.2.2.1, s2.2.2.2.1.trans s1.2.2.2.1, fun k hk => (s2.2.2.2.2 k hk).trans (s1.2.2.2.2 k hk)⟩ hb2 (by omega) hpl
              (place w.drew p.blk o his (fun t v _ ht => hcs t v ht)).1
            rw [hlen] at k4 ⊢
            exact ⟨_, rfl, K', k2, k3, k4⟩
          · refine (Ins.insGrowB p.blk o n cap i p'.blk o' m cap' _ _ w (by omega) (by omega) hcap (by omega) (by omega) hzl hul hcs hcs' (hone zs) (hone us)).mono ?_
            rintro e w' ⟨rfl, rfl⟩
            have hge := grownCap_ge w (n + m) cap 5
            generalize grownCap w (n + m) cap 5 = gc at *
            generalize hr : (((zs.map fun x => Value.int .u8 x).take i).toArray ++ Builtin.zeroCells (Value.int .u8 0).cells (n + m - i) ++ Builtin.zeroCells (Value.int .u8 0).cells (gc - (n + m))) = arr
            have hsz : arr.size = gc := by
              have z1 : (Builtin.zeroCells (Value.int .u8 0).cells (n + m - i)).size = n + m - i := by simp [Builtin.zeroCells, Value.cells]
              have z2 : (Builtin.zeroCells (Value.int .u8 0).cells (gc - (n + m))).size = gc - (n + m) := by simp [Builtin.zeroCells, Value.cells]
              rw [← hr, Array.size_append, Array.size_append, List.size_toArray, htk]
              omega
            have hbn := InBlk.new w arr 5
            have hb0 : InBlk ((w.alloc (.cells arr 5)).drew) ⟨w.heap.size, 0, gc⟩ [] := by rw [← hsz]; exact hbn.bare
            have hb1 := InBlk.set (o := i) (s := us.map fun x => Value.int .u8 x) hb0 (by rw [hul]; omega)
            have hb1' : InBlk (((w.alloc (.cells arr 5)).drew.setCells w.heap.size i (us.map fun x => Value.int .u8 x)).drew) ⟨w.heap.size, 0, gc⟩ [] := hb1
            have hb2 := InBlk.set (o := i + m) (s := (zs.map fun x => Value.int .u8 x).drop i) hb1' (by rw [hdl]; omega)
            have s0 := qXa w (.cells arr 5)
            have s1 := qza w.heap.size (us.map fun x => Value.int .u8 x) i (w.alloc (.cells arr 5)).drew
            have s2 := qza w.heap.size ((zs.map fun x => Value.int .u8 x).drop i) (i + m) ((w.alloc (.cells arr 5)).drew.setCells w.heap.size i (us.map fun x => Value.int .u8 x)).drew
            have hpc := (place ((w.alloc (.cells arr 5)).drew) w.heap.size 0 (fun t ht => hb0.is (p := ⟨w.heap.size, 0, gc⟩) (by show 0 + t < gc; omega)) (fun t v h1 ht => by
              refine hbn.cells t v ?_
              rw [Array.getElem?_toList, ← hr, Array.append_assoc, Array.getElem?_append_left (by rw [List.size_toArray, htk]; exact h1), List.getElem?_toArray, List.getElem?_take, if_pos h1]
              exact ht)).2
            rw [Nat.zero_add, Nat.zero_add] at hpc
            obtain ⟨K', k2, k3, k4⟩ := qPq (k := .u8) (bs := gc) (cap := gc) (zs := zs.take i ++ us ++ zs.drop i) hI hng hK8 h8
              ⟨s2.1.trans (s1.1.trans s0.1), s2.2.1.trans (s1.2.1.trans s0.2.1), s2.2.2.1.trans (s1.2.2.1.trans s0.2.2.1), by rw [s2.2.2.2.1]; show w.heap.size ≤ (World.setCells _ _ _ _).heap.size; rw [s1.2.2.2.1]; exact s0.2.2.2.1,
                fun k hk => (s2.2.2.2.2 k (by omega)).trans ((s1.2.2.2.2 k (by omega)).trans (s0.2.2.2.2 k hk))⟩ hb2 (by omega) (Nat.le_refl _) (fun t v ht => by
                have h5 := hpc t v ht
                rw [← drew_setCells]; exact h5)
            rw [hlen] at k4 ⊢
            exact ⟨_, rfl, K', k2, k3, k4⟩
    · cases h
  · cases h
def qMb (xs : List Int) (i j : Int) : Option (List Int) :=
  if 0 ≤ i ∧ i ≤ j ∧ j ≤ xs.length ∧ xs.length ≤ 140737488355328 then some (xs.take i.toNat ++ xs.drop j.toNat) else none
def qTa (xs : List Int) (i : Int) (ys : List Int) : Option (List Int) :=
  if 0 ≤ i ∧ i ≤ xs.length ∧ (xs.length + ys.length) * 8 ≤ 140737488355328 then some (xs.take i.toNat ++ ys ++ xs.drop i.toNat) else none
def qhe : List AV → List (Nat × Obj) → Option (List Int)
  | [.ref (.int .i64) 0 off n wh, .int .i64 i, .int .i64 j], [(0, .row (.int .i64) _ xs)] => qMb (seg xs off n wh) i j
  | _, _ => none
def qee : List AV → List (Nat × Obj) → Option (List Int)
  | [.ref (.int .i64) 0 off n wh, .int .i64 i, .ref (.int .i64) 1 off2 m wh2], [(0, .row (.int .i64) _ xs), (1, .row (.int .i64) _ ys)] => qTa (seg xs off n wh) i (seg ys off2 m wh2)
  | _, _ => none
set_option maxRecDepth 100000 in
theorem qLl {GT : qfg} {avs : List AV} {pre : List (Nat × Obj)} {r : List Int} (h : qhe avs pre = some r) : CallOK Tryz.prog GT 92 avs pre (.one (.ref (.int .i64) 8 0 r.length true)) [(8, .row (.int .i64) true r)] := by
  unfold qhe at h
  split at h
  · rename_i off n wh i j f xs
    unfold qMb at h
    split at h
    · rename_i hc
      obtain ⟨c1, c2, c3, c4⟩ := hc
      injection h with h; subst h
      intro w F G K vs hg hI hG hK hF hv
      obtain ⟨v1, r1, rfl, h1, h2⟩ := hv
      obtain ⟨v2, r2, rfl, h2, h3⟩ := h2
      obtain ⟨v3, r3, rfl, h3, h4⟩ := h3
      simp only [VRdL] at h4; subst h4
      simp only [VRd] at h2 h3; subst h2; subst h3
      have hng := hg.1
      have h8 : 8 ∉ ([(0, Obj.row (.int .i64) f xs)] : List (Nat × Obj)).map (·.1) := by simp
      have hK8 : K 8 = none := hK 8 rfl
      obtain ⟨q1, q2⟩ := qEl hI (l := 0) (fr := f) (xs := xs) rfl h1
      generalize seg xs off n wh = zs at *
      obtain ⟨i, rfl⟩ := Int.eq_ofNat_of_zero_le c1
      obtain ⟨j, rfl⟩ := Int.eq_ofNat_of_zero_le (Int.le_trans c1 c2)
      have c2' : i ≤ j := by omega
      have c3' : j ≤ n := by omega
      rw [Int.toNat_natCast, Int.toNat_natCast]
      refine qjj (by kernel_rfl) (by kernel_rfl) ?_
      rcases q2 with ⟨rfl, hn⟩ | ⟨p, o, cap, k1, rfl, hcap, hpl, hb, hcs⟩
      · have hz : zs = [] := List.eq_nil_of_length_eq_zero (by omega)
        subst hz
        have hi0 : i = 0 := by omega
        have hj0 : j = 0 := by omega
        subst hi0; subst hj0; subst hn
        refine (Ins.del0I none 0 0 0 w (Nat.le_refl _) (Nat.le_refl _) (by omega)).mono ?_
        rintro e w' ⟨rfl, rfl⟩
        obtain ⟨K', k2, k3, k4⟩ := qao hI hng hK8 h8 (k := .i64)
        exact ⟨_, rfl, K', k2, k3, k4⟩
      · by_cases hij : i = j
        · subst hij
          refine (Ins.del0I _ n cap i w c3' hcap (by omega)).mono ?_
          rintro e w' ⟨rfl, rfl⟩
          rw [List.take_append_drop]
          obtain ⟨K', k2, k3, k4⟩ := qre (k := .i64) (o := o) (cap := cap) (zs := zs) hI rfl k1 hK8 h8 ⟨rfl, rfl, rfl, rfl, fun _ _ => rfl⟩ hb (by omega) hpl hcs
          rw [q1] at k4 ⊢
          exact ⟨_, rfl, K', k2, k3, k4⟩
        · have hpl' := hpl.resolve_left (by omega)
          have hml : (zs.map fun x => Value.int .i64 x).length = n := by rw [List.length_map, q1]
          refine (Ins.delI p.blk o n cap i j _ w hml hcap (by omega) (by omega) c3' hcs (fun t ht => hb.never (p := ⟨p.blk, 0, p.bs⟩) _) (fun v hv => by
            obtain ⟨x, _, rfl⟩ := List.mem_map.1 hv; rfl)).mono ?_
          rintro e w' ⟨rfl, rfl⟩
          have hlen : (zs.take i ++ zs.drop j).length = n - (j - i) := by rw [List.length_append, List.length_take, List.length_drop]; omega
          have hdl : ((zs.map fun x => Value.int .i64 x).drop j).length = n - j := by rw [List.length_drop, hml]
          have his : ∀ t, t < cap → ((w.drew).cell? ⟨p.blk, o + t, none⟩).isSome = true := fun t ht => hb.is (p := ⟨p.blk, 0, p.bs⟩) (by show o + t < p.bs; omega)
          have hb1 := InBlk.set (w := w.drew) (o := o + i) (s := (zs.map fun x => Value.int .i64 x).drop j) hb (by rw [hdl]; omega)
          have hb2 := InBlk.set (o := o + (i + (n - j))) (s := List.replicate (j - i) (Value.int .i64 0)) hb1 (by rw [List.length_replicate]; omega)
          have s1 := qza p.blk ((zs.map fun x => Value.int .i64 x).drop j) (o + i) w.drew
          have s2 := qza p.blk (List.replicate (j - i) (Value.int .i64 0)) (o + (i + (n - j))) (w.drew.setCells p.blk (o + i) ((zs.map fun x => Value.int .i64 x).drop j))
          obtain ⟨K', k2, k3, k4⟩ := qre (k := .i64) (o := o) (cap := cap) (zs := zs.take i ++ zs.drop j) hI rfl k1 hK8 h8
            ⟨s2.1.trans s1.1, s2.2.1.trans s1.2.1, s2.2.2.1.trans s1.2.2.1, s2.2.2.2.1.trans s1.2.2.2.1, fun k hk => (s2.2.2.2.2 k hk).trans (s1.2.2.2.2 k hk)⟩ hb2 (by omega) hpl (fun t v ht => by
              have htl := (List.getElem?_eq_some_iff.1 ht).1
              rw [List.length_map, hlen] at htl
              rw [List.map_append, List.map_take, List.map_drop] at ht
              have htk : ((zs.map fun x => Value.int .i64 x).take i).length = i := by rw [List.length_take, hml]; omega
              rw [World.cell?_setCells_out _ _ _ _ _ (fun _ _ => by show o + t < o + (i + (n - j)) ∨ _; omega)]
              by_cases h1 : t < i
              · rw [World.cell?_setCells_out _ _ _ _ _ (fun _ _ => by show o + t < o + i ∨ _; omega)]
                rw [List.getElem?_append_left (by omega), List.getElem?_take, if_pos h1] at ht
                exact hcs t v ht
              · rw [List.getElem?_append_right (by omega), htk] at ht
                have := World.cell?_setCells_in p.blk ((zs.map fun x => Value.int .i64 x).drop j) (o + i) w.drew (fun t ht => by rw [Nat.add_assoc]; exact his _ (by omega)) (t - i) (by omega)
                rw [show o + i + (t - i) = o + t by omega] at this
                exact this.trans ((List.getElem?_eq_getElem _).symm.trans ht))
          rw [hlen] at k4 ⊢
          exact ⟨_, rfl, K', k2, k3, k4⟩
    · cases h
  · cases h
set_option maxRecDepth 100000 in
theorem qKl {GT : qfg} {avs : List AV} {pre : List (Nat × Obj)} {r : List Int} (h : qee avs pre = some r) : CallOK Tryz.prog GT 93 avs pre (.one (.ref (.int .i64) 8 0 r.length true)) [(8, .row (.int .i64) true r)] := by
  unfold qee at h
  split at h
  · rename_i off n wh i off2 m wh2 f xs f2 ys
    unfold qTa at h
    split at h
    · rename_i hc
      obtain ⟨c1, c2, c3⟩ := hc
      injection h with h; subst h
      intro w F G K vs hg hI hG hK hF hv
      obtain ⟨v1, r1, rfl, h1, h2⟩ := hv
      obtain ⟨v2, r2, rfl, h2, h3⟩ := h2
      obtain ⟨v3, r3, rfl, h3, h4⟩ := h3
      simp only [VRdL] at h4; subst h4
      simp only [VRd] at h2; subst h2
      have hng := hg.1
      have h8 : 8 ∉ ([(0, Obj.row (.int .i64) f xs), (1, Obj.row (.int .i64) f2 ys)] : List (Nat × Obj)).map (·.1) := by simp
      have hK8 : K 8 = none := hK 8 rfl
      obtain ⟨q1, q2⟩ := qEl hI (l := 0) (fr := f) (xs := xs) rfl h1
      obtain ⟨u1, u2⟩ := qEl hI (l := 1) (fr := f2) (xs := ys) rfl h3
      have hapart : ∀ (p p' : Plc), K 0 = some ⟨.row (.int .i64) xs.length [], some p⟩ → K 1 = some ⟨.row (.int .i64) ys.length [], some p'⟩ → p'.blk ≠ p.blk := fun p p' e1 e2 e => by
        have := hI.inj 1 0 _ _ _ _ p' p rfl rfl e2 e1 (Or.inl rfl) (Or.inl rfl) e
        omega
      generalize seg xs off n wh = zs at *
      generalize seg ys off2 m wh2 = us at *
      obtain ⟨i, rfl⟩ := Int.eq_ofNat_of_zero_le c1
      have c2' : i ≤ n := by omega
      rw [Int.toNat_natCast]
      have hzl : (zs.map fun x => Value.int .i64 x).length = n := by rw [List.length_map, q1]
      have hul : (us.map fun x => Value.int .i64 x).length = m := by rw [List.length_map, u1]
      have hone : ∀ (ls : List Int), ∀ v ∈ ls.map (fun x => Value.int .i64 x), v.oneCell' = true := fun ls v hv => by
        obtain ⟨x, _, rfl⟩ := List.mem_map.1 hv; rfl
      refine qjj (by kernel_rfl) (by kernel_rfl) ?_
      by_cases hm0 : m = 0
      · -- nothing is put in
        subst hm0
        have hu0 : us = [] := List.eq_nil_of_length_eq_zero u1
        subst hu0
        rw [List.append_nil, List.take_append_drop]
        have hv3 : ∃ a vc, v3 = .slice a 0 vc := by
          rcases u2 with ⟨rfl, _⟩ | ⟨_, _, _, _, rfl, _⟩ <;> exact ⟨_, _, rfl⟩
        obtain ⟨a3, vc, rfl⟩ := hv3
        rcases q2 with ⟨rfl, hn⟩ | ⟨p, o, cap, k1, rfl, hcap, hpl, hb, hcs⟩
        · have hz : zs = [] := List.eq_nil_of_length_eq_zero (by omega)
          subst hz
          have hi0 : i = 0 := by omega
          subst hi0; subst hn
          refine (Ins.ins0I none 0 0 0 a3 vc w (Nat.le_refl _) (Nat.le_refl _) (by omega)).mono ?_
          rintro e w' ⟨rfl, rfl⟩
          obtain ⟨K', k2, k3, k4⟩ := qao hI hng hK8 h8 (k := .i64)
          exact ⟨_, rfl, K', k2, k3, k4⟩
        · refine (Ins.ins0I _ n cap i a3 vc w c2' hcap (by omega)).mono ?_
          rintro e w' ⟨rfl, rfl⟩
          obtain ⟨K', k2, k3, k4⟩ := qre (k := .i64) (o := o) (cap := cap) (zs := zs) hI rfl k1 hK8 h8 ⟨rfl, rfl, rfl, rfl, fun _ _ => rfl⟩ hb (by omega) hpl hcs
          rw [q1] at k4 ⊢
          exact ⟨_, rfl, K', k2, k3, k4⟩
      · rcases u2 with ⟨_, hu⟩ | ⟨p', o', cap', k1', rfl, hcap', hpl', hb', hcs'⟩
        · omega
        have hlen : (zs.take i ++ us ++ zs.drop i).length = n + m := by rw [List.length_append, List.length_append, List.length_take, List.length_drop]; omega
        have hpl'' := hpl'.resolve_left (by omega)
        by_cases hin : i = n
        · -- at the end
          subst hin
          have hrow : zs.take i ++ us ++ zs.drop i = zs ++ us := by rw [List.take_of_length_le (by omega), List.drop_of_length_le (by omega), List.append_nil]
          rw [hrow] at hlen ⊢
          have grown : ∀ (base : Option Addr) (cap : Nat), i ≤ cap → cap < i + m → (base = none → i = 0) → (∀ a, base = some a → ∀ (t : Nat) v, (zs.map fun x => Value.int .i64 x)[t]? = some v → w.cell? (a.add t) = some v) →
              Calls Tryz.prog 93 #[.slice base i cap, .int .i64 i, .slice (some ⟨p'.blk, o', none⟩) m cap'] w fun e w' => ∃ v, e = .returned v ∧ ∃ K', (∀ l gh, K l = some gh → K' l = some gh) ∧ Inv ⟨w, F, G, ngOf GT, []⟩ (lookL [(8, .row (.int .i64) true (zs ++ us))]) K' w' ∧ RefRd K' (.int .i64) 8 0 (zs ++ us).length true v := by
            intro base cap hcap hroom hnil hbs
            refine (Ins.insEndGI base i cap p'.blk o' m cap' _ _ w (by omega) hcap hroom (by omega) hzl hul hnil hbs hcs' (hone us)).mono ?_
            rintro e w' ⟨rfl, rfl⟩
            have hge := grownCap_ge w (i + m) cap 3
            generalize grownCap w (i + m) cap 3 = gc at *
            generalize hr : (((zs.map fun x => Value.int .i64 x) ++ us.map fun x => Value.int .i64 x).toArray ++ Builtin.zeroCells (Value.int .i64 0).cells (gc - (i + m))) = arr
            have hsz : arr.size = gc := by
              rw [← hr, Array.size_append, List.size_toArray, List.length_append, hzl, hul]
              have : (Builtin.zeroCells (Value.int .i64 0).cells (gc - (i + m))).size = gc - (i + m) := by simp [Builtin.zeroCells, Value.cells]
              omega
            have hbn := InBlk.new w.drew arr 3
            obtain ⟨K', k2, k3, k4⟩ := qPq (k := .i64) (bs := gc) (cap := gc) (zs := zs ++ us) hI hng hK8 h8 (qXa w.drew _) (by rw [← hsz]; exact hbn.bare) (by omega) (Nat.le_refl _) (fun t v ht => by
              have := hbn.cells t v (by
                rw [Array.getElem?_toList, ← hr, Array.getElem?_append_left (by rw [List.size_toArray, ← List.map_append]; exact (List.getElem?_eq_some_iff.1 ht).1), List.getElem?_toArray, ← List.map_append]
                exact ht)
              exact this)
            rw [hlen] at k4 ⊢
            exact ⟨_, rfl, K', k2, k3, k4⟩
          rcases q2 with ⟨rfl, hn⟩ | ⟨p, o, cap, k1, rfl, hcap, hpl, hb, hcs⟩
          · subst hn
            exact grown none 0 (Nat.le_refl _) (by omega) (fun _ => rfl) (fun a ha => by cases ha)
          · by_cases hroom : i + m ≤ cap
            · have hplo := hpl.resolve_left (by omega)
              refine (Ins.insEndI p.blk o i cap p'.blk o' m cap' _ w (by omega) hroom (by omega) hul (fun t ht => hb.is (p := ⟨p.blk, 0, p.bs⟩) (by show o + i + t < p.bs; omega)) (fun t ht => hb.never (p := ⟨p.blk, 0, p.bs⟩) _) hcs' (hone us)).mono ?_
              rintro e w' ⟨rfl, rfl⟩
              have hb1 := InBlk.set (w := w) (o := o + i) (s := us.map fun x => Value.int .i64 x) hb (by rw [hul]; omega)
              obtain ⟨K', k2, k3, k4⟩ := qre (k := .i64) (o := o) (cap := cap) (zs := zs ++ us) hI rfl k1 hK8 h8 (qza p.blk _ (o + i) w) hb1 (by omega) hpl (fun t v ht => by
                have htl := (List.getElem?_eq_some_iff.1 ht).1
                rw [List.length_map, hlen] at htl
                rw [List.map_append] at ht
                by_cases h1 : t < i
                · rw [World.cell?_setCells_out _ _ _ _ _ (fun _ _ => by show o + t < o + i ∨ _; omega)]
                  rw [List.getElem?_append_left (by omega)] at ht
                  exact hcs t v ht
                · rw [List.getElem?_append_right (by omega), hzl] at ht
                  have := World.cell?_setCells_in p.blk (us.map fun x => Value.int .i64 x) (o + i) w (fun t ht => hb.is (p := ⟨p.blk, 0, p.bs⟩) (by show o + i + t < p.bs; omega)) (t - i) (by omega)
                  rw [show o + i + (t - i) = o + t by omega] at this
                  exact this.trans ((List.getElem?_eq_getElem _).symm.trans ht))
              rw [hlen] at k4 ⊢
              exact ⟨_, rfl, K', k2, k3, k4⟩
            · exact grown _ cap hcap (by omega) (fun h => by cases h) (fun a ha t v ht => by
                injection ha with ha; subst ha
                rw [Addr.add_lit]; exact hcs t v ht)
        · -- in the middle
          rcases q2 with ⟨_, hn⟩ | ⟨p, o, cap, k1, rfl, hcap, hpl, hb, hcs⟩
          · omega
          have hplo := hpl.resolve_left (by omega)
          have hdl : ((zs.map fun x => Value.int .i64 x).drop i).length = n - i := by rw [List.length_drop, hzl]
          have htk : ((zs.map fun x => Value.int .i64 x).take i).length = i := by rw [List.length_take, hzl]; omega
          have place : ∀ (W0 : World) (b q : Nat), (∀ t, t < n + m → (W0.cell? ⟨b, q + t, none⟩).isSome = true) → (∀ (t : Nat) v, t < i → (zs.map fun x => Value.int .i64 x)[t]? = some v → W0.cell? ⟨b, q + t, none⟩ = some v) →
              CellsAt ((W0.setCells b (q + (i + m)) ((zs.map fun x => Value.int .i64 x).drop i)).setCells b (q + i) (us.map fun x => Value.int .i64 x)) b q ((zs.take i ++ us ++ zs.drop i).map fun x => Value.int .i64 x) ∧
              CellsAt ((W0.setCells b (q + i) (us.map fun x => Value.int .i64 x)).setCells b (q + (i + m)) ((zs.map fun x => Value.int .i64 x).drop i)) b q ((zs.take i ++ us ++ zs.drop i).map fun x => Value.int .i64 x) := by
            intro W0 b q his hfst
            constructor
            all_goals
              intro t v ht
              have htl := (List.getElem?_eq_some_iff.1 ht).1
              rw [List.length_map, hlen] at htl
              rw [List.map_append, List.map_append, List.map_take, List.map_drop] at ht
            · by_cases h1 : t < i
              · rw [World.cell?_setCells_out _ _ _ _ _ (fun _ _ => by show q + t < q + i ∨ _; omega), World.cell?_setCells_out _ _ _ _ _ (fun _ _ => by show q + t < q + (i + m) ∨ _; omega)]
                rw [List.append_assoc, List.getElem?_append_left (by omega), List.getElem?_take, if_pos h1] at ht
                exact hfst t v h1 ht
              · by_cases h2 : t < i + m
                · rw [List.append_assoc, List.getElem?_append_right (by omega), htk, List.getElem?_append_left (by omega)] at ht
                  have := World.cell?_setCells_in b (us.map fun x => Value.int .i64 x) (q + i) (W0.setCells b (q + (i + m)) ((zs.map fun x => Value.int .i64 x).drop i)) (fun t ht => by
                    rw [Nat.add_assoc]
                    exact isSome_setCells b _ _ _ (fun j hj => by rw [Nat.add_assoc]; exact his _ (by omega)) _ (his _ (by omega))) (t - i) (by omega)
                  rw [show q + i + (t - i) = q + t by omega] at this
                  exact this.trans ((List.getElem?_eq_getElem _).symm.trans ht)
                · rw [World.cell?_setCells_out _ _ _ _ _ (fun _ _ => by show _ ∨ q + i + _ ≤ q + t; omega)]
                  rw [List.getElem?_append_right (by rw [List.length_append]; omega), List.length_append, htk, hul] at ht
                  have := World.cell?_setCells_in b ((zs.map fun x => Value.int .i64 x).drop i) (q + (i + m)) W0 (fun t ht => by rw [Nat.add_assoc]; exact his _ (by omega)) (t - (i + m)) (by omega)
                  rw [show q + (i + m) + (t - (i + m)) = q + t by omega] at this
                  exact this.trans ((List.getElem?_eq_getElem _).symm.trans ht)
            · by_cases h1 : t < i
              · rw [World.cell?_setCells_out _ _ _ _ _ (fun _ _ => by show q + t < q + (i + m) ∨ _; omega), World.cell?_setCells_out _ _ _ _ _ (fun _ _ => by show q + t < q + i ∨ _; omega)]
                rw [List.append_assoc, List.getElem?_append_left (by omega), List.getElem?_take, if_pos h1] at ht
                exact hfst t v h1 ht
              · by_cases h2 : t < i + m
                · rw [World.cell?_setCells_out _ _ _ _ _ (fun _ _ => by show q + t < q + (i + m) ∨ _; omega)]
                  rw [List.append_assoc, List.getElem?_append_right (by omega), htk, List.getElem?_append_left (by omega)] at ht
                  have := World.cell?_setCells_in b (us.map fun x => Value.int .i64 x) (q + i) W0 (fun t ht => by rw [Nat.add_assoc]; exact his _ (by omega)) (t - i) (by omega)
                  rw [show q + i + (t - i) = q + t by omega] at this
                  exact this.trans ((List.getElem?_eq_getElem _).symm.trans ht)
                · rw [List.getElem?_append_right (by rw [List.length_append]; omega), List.length_append, htk, hul] at ht
                  have := World.cell?_setCells_in b ((zs.map fun x => Value.int .i64 x).drop i) (q + (i + m)) (W0.setCells b (q + i) (us.map fun x => Value.int .i64 x)) (fun t ht => by
                    rw [Nat.add_assoc]
                    exact isSome_setCells b _ _ _ (fun j hj => by rw [Nat.add_assoc]; exact his _ (by omega)) _ (his _ (by omega))) (t - (i + m)) (by omega)
                  rw [show q + (i + m) + (t - (i + m)) = q + t by omega] at this
                  exact this.trans ((List.getElem?_eq_getElem _).symm.trans ht)
          by_cases hroom : n + m ≤ cap
          · obtain ⟨tA, hsa⟩ := hb'.shape
            obtain ⟨tB, hsb⟩ := hb.shape
            have his : ∀ t, t < n + m → (w.cell? ⟨p.blk, o + t, none⟩).isSome = true := fun t ht => hb.is (p := ⟨p.blk, 0, p.bs⟩) (by show o + t < p.bs; omega)
            refine (Ins.insShiftI p.blk o n cap i p'.blk o' m cap' _ _ w (by omega) (by omega) hroom (by omega) (hapart p p' k1 k1') hzl hul hcs his
              (fun t ht => hb.never (p := ⟨p.blk, 0, p.bs⟩) _) hcs' (hone zs) (hone us) tA tB p'.bs p.bs hsa hsb (by omega) (hb'.never (p := ⟨p'.blk, 0, p'.bs⟩) _) (hb'.never (p := ⟨p'.blk, 0, p'.bs⟩) _)).mono ?_
            rintro e w' ⟨rfl, rfl⟩
            have hb1 := InBlk.set (w := w.drew) (o := o + (i + m)) (s := (zs.map fun x => Value.int .i64 x).drop i) hb (by rw [hdl]; omega)
            have hb2 := InBlk.set (o := o + i) (s := us.map fun x => Value.int .i64 x) hb1 (by rw [hul]; omega)
            have s1 := qza p.blk ((zs.map fun x => Value.int .i64 x).drop i) (o + (i + m)) w.drew
            have s2 := qza p.blk (us.map fun x => Value.int .i64 x) (o + i) (w.drew.setCells p.blk (o + (i + m)) ((zs.map fun x => Value.int .i64 x).drop i))
            obtain ⟨K', k2, k3, k4⟩ := qre (k := .i64) (o := o) (cap := cap) (zs := zs.take i ++ us ++ zs.drop i) hI rfl k1 hK8 h8
              ⟨s2.1.trans s1.1, s2.2.1.trans s1.2.1, s2.2.2.1.trans s1.2.2.1, s2.2.2.2.1.trans s1.2.2.2.1, fun k hk => (s2.2.2.2.2 k hk).trans (s1.2.2.2.2 k hk)⟩ hb2 (by omega) hpl
              (place w.drew p.blk o his (fun t v _ ht => hcs t v ht)).1
            rw [hlen] at k4 ⊢
            exact ⟨_, rfl, K', k2, k3, k4⟩
          · refine (Ins.insGrowI p.blk o n cap i p'.blk o' m cap' _ _ w (by omega) (by omega) hcap (by omega) (by omega) hzl hul hcs hcs' (hone zs) (hone us)).mono ?_
            rintro e w' ⟨rfl, rfl⟩
            have hge := grownCap_ge w (n + m) cap 3
            generalize grownCap w (n + m) cap 3 = gc at *
            generalize hr : (((zs.map fun x => Value.int .i64 x).take i).toArray ++ Builtin.zeroCells (Value.int .i64 0).cells (n + m - i) ++ Builtin.zeroCells (Value.int .i64 0).cells (gc - (n + m))) = arr
            have hsz : arr.size = gc := by
              have z1 : (Builtin.zeroCells (Value.int .i64 0).cells (n + m - i)).size = n + m - i := by simp [Builtin.zeroCells, Value.cells]
              have z2 : (Builtin.zeroCells (Value.int .i64 0).cells (gc - (n + m))).size = gc - (n + m) := by simp [Builtin.zeroCells, Value.cells]
              rw [← hr, Array.size_append, Array.size_append, List.size_toArray, htk]
              omega
            have hbn := InBlk.new w arr 3
            have hb0 : InBlk ((w.alloc (.cells arr 3)).drew) ⟨w.heap.size, 0, gc⟩ [] := by rw [← hsz]; exact hbn.bare
            have hb1 := InBlk.set (o := i) (s := us.map fun x => Value.int .i64 x) hb0 (by rw [hul]; omega)
            have hb1' : InBlk (((w.alloc (.cells arr 3)).drew.setCells w.heap.size i (us.map fun x => Value.int .i64 x)).drew) ⟨w.heap.size, 0, gc⟩ [] := hb1
            have hb2 := InBlk.set (o := i + m) (s := (zs.map fun x => Value.int .i64 x).drop i) hb1' (by rw [hdl]; omega)
            have s0 := qXa w (.cells arr 3)
            have s1 := qza w.heap.size (us.map fun x => Value.int .i64 x) i (w.alloc (.cells arr 3)).drew
            have s2 := qza w.heap.size ((zs.map fun x => Value.int .i64 x).drop i) (i + m) ((w.alloc (.cells arr 3)).drew.setCells w.heap.size i (us.map fun x => Value.int .i64 x)).drew
            have hpc := (place ((w.alloc (.cells arr 3)).drew) w.heap.size 0 (fun t ht => hb0.is (p := ⟨w.heap.size, 0, gc⟩) (by show 0 + t < gc; omega)) (fun t v h1 ht => by
              refine hbn.cells t v ?_
              rw [Array.getElem?_toList, ← hr, Array.append_assoc, Array.getElem?_append_left (by rw [List.size_toArray, htk]; exact h1), List.getElem?_toArray, List.getElem?_take, if_pos h1]
              exact ht)).2
            rw [Nat.zero_add, Nat.zero_add] at hpc
            obtain ⟨K', k2, k3, k4⟩ := qPq (k := .i64) (bs := gc) (cap := gc) (zs := zs.take i ++ us ++ zs.drop i) hI hng hK8 h8
              ⟨s2.1.trans (s1.1.trans s0.1), s2.2.1.trans (s1.2.1.trans s0.2.1), s2.2.2.1.trans (s1.2.2.1.trans s0.2.2.1), by rw [s2.2.2.2.1]; show w.heap.size ≤ (World.setCells _ _ _ _).heap.size; rw [s1.2.2.2.1]; exact s0.2.2.2.1,
                fun k hk => (s2.2.2.2.2 k (by omega)).trans ((s1.2.2.2.2 k (by omega)).trans (s0.2.2.2.2 k hk))⟩ hb2 (by omega) (Nat.le_refl _) (fun t v ht => by
                have h5 := hpc t v ht
                rw [← drew_setCells]; exact h5)
            rw [hlen] at k4 ⊢
            exact ⟨_, rfl, K', k2, k3, k4⟩
    · cases h
  · cases h
end Go.Ab

set_option linter.unusedVariables false
set_option linter.unusedSimpArgs false
namespace Go.Ab.As
open Go Go.Proofs Go.RowKit Go.Extern.Stop Go.Stop Go.Extern
theorem as_nil (t : Value) (w : World) :
    Calls Tryz.prog 207 #[.nilIface, t] w fun e w' => e = .returned (.bool false) ∧ w' = w := by
  go_enter Tryz.func207, Tryz.ntmps207
  go_wp2
  go_ret
  exact ⟨rfl, rfl⟩
theorem qcD (t : Addr) (w : World) : (ReflectliteValue.unpack (.iface 341 (.pointer (some t)))).run Tryz.prog w
    = .ok (.agg #[.pointer (some ⟨8, 341, none⟩), .pointer (some ⟨w.heap.size, 0, none⟩), .int .u64 150]) (w.alloc (.cells #[.pointer (some t)] 341)) := by kernel_rfl
theorem qKG (a : Addr) (w : World) : (ReflectliteValue.methodAny (ReflectliteValue.valueError "reflectlite.Value.Type" 0) (fun t _ _ _ => ReflectliteType.toType t) #[.agg #[.pointer (some ⟨8, 341, none⟩), .pointer (some a), .int .u64 150]]).run Tryz.prog w
    = .ok (.iface 484 (.agg #[.pointer (some ⟨8, 341, none⟩)])) w := by kernel_rfl
theorem qIz (h : Value) (w : World) : (Go.method 686 484 (.agg #[h]) "Kind").run Tryz.prog w = .ok (416, h) w := by kernel_rfl
theorem qOG (w : World) : ((ReflectliteType.abiMethod fun t => (fun a : Nat => Value.int IntKind.u8 (a : Int)) <$> Rtype.kind t) #[.pointer (some ⟨8, 341, none⟩)]).run Tryz.prog w = .ok (.int .u8 22) w := by kernel_rfl
theorem qPG (w : World) : ((ReflectliteType.abiMethod fun t => (fun a : Nat => Value.int IntKind.u8 (a : Int)) <$> Rtype.kind t) #[.pointer (some ⟨8, 31, none⟩)]).run Tryz.prog w = .ok (.int .u8 2) w := by kernel_rfl
theorem rlm (z : Sem Value) (f : TypeId → Addr → Nat → Nat → Sem Value) (v : Value) :
    ReflectliteValue.method z f #[v] = (do match ← ReflectliteValue.parts v with | none => z | some (t, a, fl) => f t a fl (fl % 32)) := rfl
theorem qnE (a : Addr) (w : World) : (ReflectliteValue.parts (.agg #[.pointer (some ⟨8, 341, none⟩), .pointer (some a), .int .u64 150])).run Tryz.prog w = .ok (some (341, a, 150)) w := by kernel_rfl
theorem qaG (a p : Addr) (W : World) (ha : W.cell? a = some (.pointer (some p))) :
    (ReflectliteValue.method (ReflectliteValue.valueError "reflectlite.Value.IsNil" 0) ReflectliteValue.isNil #[.agg #[.pointer (some ⟨8, 341, none⟩), .pointer (some a), .int .u64 150]]).run Tryz.prog W = .ok (.bool false) W := by
  rw [rlm]
  simp only [Sem.run_bind, qnE, Result.andThen]
  simp [ReflectliteValue.isNil, loadVar, isAgg, underlying, Tryz.underlying341, ha, Result.andThen]
theorem qJz (h : Value) (w : World) : (Go.method 686 484 (.agg #[h]) "Elem").run Tryz.prog w = .ok (426, .agg #[h]) w := by kernel_rfl
theorem qtq (h : Value) (w : World) : (Go.method 686 484 (.agg #[h]) "Implements").run Tryz.prog w = .ok (427, .agg #[h]) w := by kernel_rfl
theorem qko (h : Value) (w : World) : (Go.method 686 484 (.agg #[h]) "AssignableTo").run Tryz.prog w = .ok (424, .agg #[h]) w := by kernel_rfl
theorem qVG (w : World) : (ReflectliteType.method ReflectliteType.elem #[.agg #[.pointer (some ⟨8, 341, none⟩)]]).run Tryz.prog w = .ok (.iface 484 (.agg #[.pointer (some ⟨8, 31, none⟩)])) w := by kernel_rfl
theorem qpx (w : World) : (ReflectliteType.relation "Implements" ReflectliteType.implements_ #[.agg #[.pointer (some ⟨8, 31, none⟩)], .iface 484 (.agg #[.pointer (some ⟨8, 337, none⟩)])]).run Tryz.prog w = .ok (.bool true) w := by kernel_rfl
theorem qIE (v : Value) (w : World) : (ReflectliteType.typeOf #[.iface 31 v]).run Tryz.prog w = .ok (.iface 484 (.agg #[.pointer (some ⟨8, 31, none⟩)])) w := by kernel_rfl
theorem qQx (w : World) : (ReflectliteType.relation "AssignableTo" ReflectliteType.assignableTo #[.agg #[.pointer (some ⟨8, 31, none⟩)], .iface 484 (.agg #[.pointer (some ⟨8, 31, none⟩)])]).run Tryz.prog w = .ok (.bool true) w := by kernel_rfl
theorem qdD (n : Int) (w : World) : (ReflectliteValue.unpack (.iface 31 (.int .i64 n))).run Tryz.prog w
    = .ok (.agg #[.pointer (some ⟨8, 31, none⟩), .pointer (some ⟨w.heap.size, 0, none⟩), .int .u64 130]) (w.alloc (.cells #[.int .i64 n] 31)) := by kernel_rfl
theorem qgF (w : World) : (Rtype.elem? 341).run Tryz.prog w = .ok (some 31) w := by kernel_rfl
theorem mkE (p : Addr) (w : World) : (ReflectliteValue.mk 31 p ReflectliteValue.flagAddr).run Tryz.prog w = .ok (.agg #[.pointer (some ⟨8, 31, none⟩), .pointer (some p), .int .u64 386]) w := by kernel_rfl
theorem qgG (a p : Addr) (W : World) (ha : W.cell? a = some (.pointer (some p))) :
    (ReflectliteValue.method (ReflectliteValue.valueError "reflectlite.Value.Elem" 0) ReflectliteValue.elem #[.agg #[.pointer (some ⟨8, 341, none⟩), .pointer (some a), .int .u64 150]]).run Tryz.prog W
      = .ok (.agg #[.pointer (some ⟨8, 31, none⟩), .pointer (some p), .int .u64 386]) W := by
  rw [rlm]
  simp only [Sem.run_bind, qnE, Result.andThen]
  simp [ReflectliteValue.elem, loadVar, isAgg, underlying, Tryz.underlying341, ha, Result.andThen, qgF, mkE]
theorem rls (v x : Value) : ReflectliteValue.set #[v, x] = (do
    let (some (dst, a, fl), some (src, b, _)) := (← ReflectliteValue.parts v, ← ReflectliteValue.parts x)
      | unsupported (.noEntry "extern/(internal/reflectlite.Value).Set.zeroValue")
    if fl / ReflectliteValue.flagAddr % 2 == 0 then unsupported (.noEntry "extern/(internal/reflectlite.Value).Set.unaddressable")
    let val ← loadVar src b
    if ← Rtype.directlyAssignable dst src then storeVar dst a val
    else if ← Rtype.implements dst src then
      if (← Rtype.kind src) == 20 then
        match val with
        | .nilIface => unsupported (.noEntry "extern/reflectlite: a nil value of one interface type handed on as a value of another")
        | _ => storeVar dst a val
      else storeVar dst a (.iface src val)
    else panicString ("reflectlite.Set: value of type " ++ (← Rtype.spelt src) ++ " is not assignable to type " ++ (← Rtype.spelt dst))
    pure (.tuple #[])) := rfl
theorem qTE (a : Addr) (w : World) : (ReflectliteValue.parts (.agg #[.pointer (some ⟨8, 31, none⟩), .pointer (some a), .int .u64 386])).run Tryz.prog w = .ok (some (31, a, 386)) w := by kernel_rfl
theorem qOF (a : Addr) (w : World) : (ReflectliteValue.parts (.agg #[.pointer (some ⟨8, 31, none⟩), .pointer (some a), .int .u64 130])).run Tryz.prog w = .ok (some (31, a, 130)) w := by kernel_rfl
theorem qkF (w : World) : (Rtype.directlyAssignable 31 31).run Tryz.prog w = .ok true w := by kernel_rfl
theorem qqH (ta b : Addr) (n : Int) (old : Value) (W : World) (hb : W.cell? b = some (.int .i64 n)) (ht : W.cell? ta = some old) (hf : W.frozen? ta = false) :
    (ReflectliteValue.set #[.agg #[.pointer (some ⟨8, 31, none⟩), .pointer (some ta), .int .u64 386], .agg #[.pointer (some ⟨8, 31, none⟩), .pointer (some b), .int .u64 130]]).run Tryz.prog W
      = .ok (.tuple #[]) (W.setCell ta (.int .i64 n)) := by
  rw [rls]
  simp only [Sem.run_bind, qTE, qOF, Result.andThen]
  simp [ReflectliteValue.flagAddr, loadVar, isAgg, underlying, Tryz.underlying31, hb, Result.andThen, qkF, storeVar, Value.cells, storeCells, Addr.add]
  rw [run_store Tryz.prog W ta _ _ (by rfl)]
  simp [ht, hf]
set_option maxHeartbeats 4000000 in
set_option maxRecDepth 100000 in
theorem as_hit (n : Int) (t : Addr) (old : Value) (w : World) (hg : w.cell? ⟨3, 0, none⟩ = some (.iface 484 (.agg #[.pointer (some ⟨8, 337, none⟩)]))) (ht0 : w.cell? t = some old) (hf0 : w.frozen? t = false) :
    Calls Tryz.prog 207 #[.iface 31 (.int .i64 n), .iface 341 (.pointer (some t))] w fun ev w' => ev = .returned (.bool true) ∧ w' = ((((w.alloc (.cells #[.pointer (some t)] 341)).alloc (.cells #[.pointer (some ⟨8, 341, none⟩), .pointer (some ⟨w.heap.size, 0, none⟩), .int .u64 150] 412)).alloc (.cells #[.pointer (some ⟨8, 341, none⟩), .pointer (some ⟨w.heap.size, 0, none⟩), .int .u64 150] 412)).alloc (.cells #[.int .i64 n] 31)).setCell t (.int .i64 n) := by
  have h6 := @run_callFunc_extern Tryz.prog 265 _ (fun args => ReflectliteValue.unpack (args.getD 0 (.tuple #[]))) Tryz.func265 (by kernel_rfl) (by kernel_rfl) (by kernel_rfl) (by kernel_rfl)
  have h7 := @run_callFunc_extern Tryz.prog 266 _ (ReflectliteValue.methodAny (ReflectliteValue.valueError "reflectlite.Value.Type" 0) (fun t _ _ _ => ReflectliteType.toType t)) Tryz.func266 (by kernel_rfl) (by kernel_rfl) (by kernel_rfl) (by kernel_rfl)
  have h8 := @run_callFunc_extern Tryz.prog 267 _ (ReflectliteValue.method (ReflectliteValue.valueError "reflectlite.Value.IsNil" 0) ReflectliteValue.isNil) Tryz.func267 (by kernel_rfl) (by kernel_rfl) (by kernel_rfl) (by kernel_rfl)
  have h27 := @run_callFunc_extern Tryz.prog 416 _ (ReflectliteType.abiMethod fun t => do pure (.int .u8 (← Rtype.kind t))) Tryz.func416 (by kernel_rfl) (by kernel_rfl) (by kernel_rfl) (by kernel_rfl)
  have h37 := @run_callFunc_extern Tryz.prog 426 _ (ReflectliteType.method ReflectliteType.elem) Tryz.func426 (by kernel_rfl) (by kernel_rfl) (by kernel_rfl) (by kernel_rfl)
  have h38 := @run_callFunc_extern Tryz.prog 427 _ (ReflectliteType.relation "Implements" ReflectliteType.implements_) Tryz.func427 (by kernel_rfl) (by kernel_rfl) (by kernel_rfl) (by kernel_rfl)
  have h10 := @run_callFunc_extern Tryz.prog 332 _ ReflectliteType.typeOf Tryz.func332 (by kernel_rfl) (by kernel_rfl) (by kernel_rfl) (by kernel_rfl)
  have h35 := @run_callFunc_extern Tryz.prog 424 _ (ReflectliteType.relation "AssignableTo" ReflectliteType.assignableTo) Tryz.func424 (by kernel_rfl) (by kernel_rfl) (by kernel_rfl) (by kernel_rfl)
  have h11 := @run_callFunc_extern Tryz.prog 333 _ (ReflectliteValue.method (ReflectliteValue.valueError "reflectlite.Value.Elem" 0) ReflectliteValue.elem) Tryz.func333 (by kernel_rfl) (by kernel_rfl) (by kernel_rfl) (by kernel_rfl)
  have h12 := @run_callFunc_extern Tryz.prog 334 _ ReflectliteValue.set Tryz.func334 (by kernel_rfl) (by kernel_rfl) (by kernel_rfl) (by kernel_rfl)
  have tO := qIE
  have mA := qko
  have a25 := qQx
  have v25 := qdD
  have f6 := qcD
  have f7 := qKG
  have mK := qIz
  have mE := qJz
  have mI := qtq
  have k27 := qOG
  have k25 := qPG
  have e27 := qVG
  have i25 := qpx
  have n8 := qaG ⟨w.heap.size, 0, none⟩ t ((w.alloc (.cells #[.pointer (some t)] 341)).alloc (.cells #[.pointer (some ⟨8, 341, none⟩), .pointer (some ⟨w.heap.size, 0, none⟩), .int .u64 150] 412)) (by simp)
  have hlt : 3 < w.heap.size := by
    rcases Nat.lt_or_ge 3 w.heap.size with h | h
    · exact h
    · simp [World.cell?, Array.getElem?_eq_none h] at hg
  have hg2 : ((w.alloc (.cells #[.pointer (some t)] 341)).alloc (.cells #[.pointer (some ⟨8, 341, none⟩), .pointer (some ⟨w.heap.size, 0, none⟩), .int .u64 150] 412)).cell? ⟨3, 0, none⟩ = some (.iface 484 (.agg #[.pointer (some ⟨8, 337, none⟩)])) := by
    rw [World.cell?_alloc_lt _ _ ⟨3, 0, none⟩ (by simp; omega), World.cell?_alloc_lt _ _ ⟨3, 0, none⟩ hlt]; exact hg
  have htl : t.block < w.heap.size := by
    rcases Nat.lt_or_ge t.block w.heap.size with h | h
    · exact h
    · simp [World.cell?, Array.getElem?_eq_none h] at ht0
  have el := qgG ⟨w.heap.size, 0, none⟩ t (((w.alloc (.cells #[.pointer (some t)] 341)).alloc (.cells #[.pointer (some ⟨8, 341, none⟩), .pointer (some ⟨w.heap.size, 0, none⟩), .int .u64 150] 412)).alloc (.cells #[.pointer (some ⟨8, 341, none⟩), .pointer (some ⟨w.heap.size, 0, none⟩), .int .u64 150] 412)) (by rw [World.cell?_alloc_lt _ _ ⟨w.heap.size, 0, none⟩ (by simp; omega)]; simp)
  have st := qqH t ⟨w.heap.size + 1 + 1 + 1, 0, none⟩ n old ((((w.alloc (.cells #[.pointer (some t)] 341)).alloc (.cells #[.pointer (some ⟨8, 341, none⟩), .pointer (some ⟨w.heap.size, 0, none⟩), .int .u64 150] 412)).alloc (.cells #[.pointer (some ⟨8, 341, none⟩), .pointer (some ⟨w.heap.size, 0, none⟩), .int .u64 150] 412)).alloc (.cells #[.int .i64 n] 31))
    (by rw [World.cell?_alloc_at _ _ _ _ (by simp)]; rfl)
    (by rw [World.cell?_alloc_lt _ _ t (by simp; omega), World.cell?_alloc_lt _ _ t (by simp; omega), World.cell?_alloc_lt _ _ t (by simp; omega), World.cell?_alloc_lt _ _ t htl]; exact ht0)
    (by rw [World.frozen?_alloc_old _ _ t (by simp; omega), World.frozen?_alloc_old _ _ t (by simp; omega), World.frozen?_alloc_old _ _ t (by simp; omega), World.frozen?_alloc_old _ _ t (Nat.ne_of_lt htl)]; exact hf0)
  go_enter Tryz.func207, Tryz.ntmps207
  go_wp2
  refine wp_loop_rounds 1 ?_
  rw [rounds_succ]
  go_wp2
  go_ret
  exact ⟨rfl, rfl⟩
end Go.Ab.As

set_option linter.unusedVariables false
set_option linter.unusedSimpArgs false
namespace Go.Ab
open Go Go.Proofs Go.RowKit
def qdj (a0 : Option Int) (b0 : Int) : Option (Bool × Int) := some (match a0 with
  | some n => (true, n)
  | none => (false, b0))
theorem qjt (n b0 : Int) : qdj (some n) b0 = some (true, n) := rfl
theorem qkt (b0 : Int) : qdj none b0 = some (false, b0) := rfl
def qSk : List AV → List (Nat × Obj) → Option (Bool × Int)
  | [.eri T .i64 x, .ifp TP (.int .i64) 0 []], [(0, .box (.int .i64) v)] => if T = 31 ∧ TP = 341 then qdj x v else none
  | _, _ => none
theorem As.oneRow : ((List.range Tryz.prog.types.size).filter fun t => Tryz.prog.rowNamed t [101, 114, 114, 111, 114]) = [337] := by kernel_rfl
theorem As.rt : (Tryz.prog.cutTypes.find? (·.1 == "internal/reflectlite.rtype")).map (·.2) = some 484 := by kernel_rfl
theorem As.hdl {w : World} {g : Nat} (h : Hdl Tryz.prog w g) : w.cell? ⟨g, 0, none⟩ = some (.iface 484 (.agg #[.pointer (some ⟨8, 337, none⟩)])) := by
  obtain ⟨u, ty, e1, e2, e3, e4⟩ := h
  obtain rfl := Option.some.inj (As.rt.symm.trans e1)
  have hm : ty ∈ (List.range Tryz.prog.types.size).filter fun t => Tryz.prog.rowNamed t [101, 114, 114, 111, 114] := List.mem_filter.2 ⟨List.mem_range.2 e2, e3⟩
  rw [As.oneRow] at hm
  obtain rfl := List.mem_singleton.1 hm
  have hh : typeHandle Tryz.prog 337 = .pointer (some ⟨8, 337, none⟩) := by kernel_rfl
  rw [hh] at e4
  exact e4
set_option maxRecDepth 100000 in
theorem qaw {GT : qfg} (hGT : lookL GT 3 = some ⟨.unit, ()⟩) {avs : List AV} {pre : List (Nat × Obj)} {r : Bool × Int} (h : qSk avs pre = some r) : CallOK Tryz.prog GT 207 avs pre (.one (.bool r.1)) [(0, .box (.int .i64) r.2)] := by
  unfold qSk at h
  split at h
  · rename_i T x TP v
    split at h
    · rename_i hT
      obtain ⟨rfl, rfl⟩ := hT
      intro w F G K vs hg hI hG hK hF hv
      obtain ⟨v1, r1, rfl, h1, h2⟩ := hv
      obtain ⟨v2, r2, rfl, h2, h3⟩ := h2
      simp only [VRdL] at h3; subst h3
      obtain ⟨sh, pl, po, k1, k2, rfl⟩ := h2
      obtain ⟨gh, g1, g2⟩ := hI.objs 0 (.box (.int .i64) v) rfl
      rw [k1] at g1; injection g1 with g1; subst g1
      obtain ⟨q1, p, cs, q2, q3, q4⟩ := g2
      rcases k2 with ⟨k3, k2⟩ | ⟨_, _, _, _, _, _, _, hp, _, _⟩
      rotate_left
      · cases hp
      rw [k3] at q2; injection q2 with q2; subst q2
      rw [q1] at k2
      obtain ⟨sh1, sh2⟩ := sh; simp only at q1 k3; subst q1; subst k3
      simp only [ARd] at q4; subst q4
      simp only [qvm, qAa, Option.some.injEq, Prod.mk.injEq] at k2
      obtain ⟨rfl, _⟩ := k2
      have hcell : w.cell? ⟨pl.blk, pl.ob + 0, none⟩ = some (.int .i64 v) := q3.cells 0 _ rfl
      have hlt := q3.lt
      have hob : pl.ob + 0 < pl.bs := by obtain ⟨_, _, _, _, _, _, h5, _⟩ := q3; simp only [List.length_cons, List.length_nil] at h5; omega
      have hfree : w.frozen? ⟨pl.blk, pl.ob + 0, none⟩ = false := q3.free hob
      refine qjj (by kernel_rfl) (by kernel_rfl) ?_
      cases x with
      | none =>
        simp only [qdj, Option.some.injEq] at h; subst h
        simp only [VRd] at h1; subst h1
        refine (As.as_nil _ w).mono ?_
        rintro e w' ⟨rfl, rfl⟩
        exact ⟨_, rfl, K, fun _ _ h => h, hI, rfl⟩
      | some n =>
        simp only [qdj, Option.some.injEq] at h; subst h
        simp only [VRd] at h1; subst h1
        have hc := As.hdl (hg.2.2.1 3 hGT)
        refine (As.as_hit n ⟨pl.blk, pl.ob + 0, none⟩ _ w hc hcell hfree).mono ?_
        rintro e w' ⟨rfl, rfl⟩
        refine ⟨_, rfl, K, fun _ _ h => h, ?_, rfl⟩
        generalize hw4 : (((w.alloc _).alloc _).alloc _).alloc _ = w4
        have hm := hI.more (w' := w4) (by subst hw4; rfl) (by subst hw4; rfl) (by subst hw4; rfl) (by subst hw4; simp; omega) (fun k hk => by
          subst hw4
          simp only [World.alloc]
          rw [Array.getElem?_push_lt (by simp; omega), Array.getElem_push_lt (by simp; omega), Array.getElem_push_lt (by simp; omega), Array.getElem_push_lt hk]
          exact (Array.getElem?_eq_getElem hk).symm)
        have q5 : InBlk w4 pl [.int .i64 v] := q3.keep (by
          subst hw4
          simp only [World.alloc]
          rw [Array.getElem?_push_lt (by simp; omega), Array.getElem_push_lt (by simp; omega), Array.getElem_push_lt (by simp; omega), Array.getElem_push_lt hlt]
          exact (Array.getElem?_eq_getElem hlt).symm)
        have S := Stp.write (w' := w4.setCells pl.blk (pl.ob + 0) [.int .i64 n]) hm.1 0 0 (.box (.int .i64) v) (.box (.int .i64) n) _ pl rfl k1 (Or.inl rfl) (qza pl.blk _ _ w4)
          (fun N' K' _ _ => ⟨rfl, pl, [.int .i64 n], rfl, q5.write (o := 0) (s := [.int .i64 n]) (by simp), rfl⟩)
        have hup : qLb (lookL [(0, .box (.int .i64) v)]) [(0, some (.box (.int .i64) n))] = lookL [(0, .box (.int .i64) n)] := by
          funext l
          simp only [qLb, lookL]
          by_cases hl : 0 = l <;> simp [hl]
        have := S.inv
        rw [hup] at this
        exact this
    · cases h
  · cases h
end Go.Ab

/-
  bytes.Index, by the shelf's contract.
-/
set_option linter.unusedVariables false
set_option linter.unusedSimpArgs false
namespace Go.Ab
open Go Go.Proofs Go.Shelf
def qRG : Ren := ⟨fun | 185 => 74 | 187 => 121 | 115 => 83 | 253 => 122 | 224 => 123 | 254 => 124 | 255 => 182 | 291 => 183 | n => n, fun | 37 => 29 | 3 => 3 | 4 => 4 | 0 => 0 | 5 => 5 | 46 => 163 | 9 => 9 | 146 => 257 | 51 => 165 | n => n, fun | 1 => 0 | n => n⟩
set_option maxRecDepth 100000 in
theorem qsE : Lays.n185 Tryz.prog qRG := {
  mixed := by kernel_rfl,
  f115 := Tryz.func83.trans (congrArg some (by kernel_rfl)),
  f185 := Tryz.func74.trans (congrArg some (by kernel_rfl)),
  f187 := Tryz.func121.trans (congrArg some (by kernel_rfl)),
  f224 := Tryz.func123.trans (congrArg some (by kernel_rfl)),
  f253 := Tryz.func122.trans (congrArg some (by kernel_rfl)),
  f254 := Tryz.func124.trans (congrArg some (by kernel_rfl)),
  f255 := Tryz.func182.trans (congrArg some (by kernel_rfl)),
  f291 := Tryz.func183.trans (congrArg some (by kernel_rfl)),
  t0 := Tryz.underlying0,
  a0 := Tryz.isAgg0,
  z0 := Tryz.sizeOf0,
  v0 := Tryz.zeroValue0,
  t3 := Tryz.underlying3,
  a3 := Tryz.isAgg3,
  z3 := Tryz.sizeOf3,
  v3 := Tryz.zeroValue3,
  t4 := Tryz.underlying4,
  a4 := Tryz.isAgg4,
  z4 := Tryz.sizeOf4,
  v4 := Tryz.zeroValue4,
  t5 := Tryz.underlying5,
  a5 := Tryz.isAgg5,
  z5 := Tryz.sizeOf5,
  v5 := Tryz.zeroValue5,
  t9 := Tryz.underlying9,
  a9 := Tryz.isAgg9,
  z9 := Tryz.sizeOf9,
  v9 := Tryz.zeroValue9,
  t37 := Tryz.underlying29,
  a37 := Tryz.isAgg29,
  z37 := Tryz.sizeOf29,
  v37 := Tryz.zeroValue29,
  t46 := Tryz.underlying163,
  a46 := Tryz.isAgg163,
  z46 := Tryz.sizeOf163,
  v46 := Tryz.zeroValue163,
  t51 := Tryz.underlying165,
  a51 := Tryz.isAgg165,
  z51 := Tryz.sizeOf165,
  v51 := Tryz.zeroValue165,
  t146 := Tryz.underlying257,
  a146 := Tryz.isAgg257,
  z146 := Tryz.sizeOf257,
  v146 := Tryz.zeroValue257,
  g1 := by kernel_rfl }
def ixB (s t : List Int) : Int := Lib.index (Lib.bytesOf s) (Lib.bytesOf t)
noncomputable def qPh (s t : List Int) : Option Int :=
  gd (s.length < 4294967281) <|
  gd (2 ≤ t.length) <|
  gd (t.length ≤ 9223372036854775807) <|
  gd ((∀ x ∈ s, 0 ≤ x ∧ x < 256) ∧ ∀ y ∈ t, 0 ≤ y ∧ y < 256) <|
  some (ixB s t)
noncomputable def qHi : List AV → List (Nat × Obj) → Option Int
  | [.sl (.int .u8) _ s, .sl (.int .u8) _ t], [] => qPh s t
  | _, _ => none
theorem qEy {w : World} {N : Nat → Prop} {xs : List Int} {A : Option Addr} (h1 : xs ≠ []) (h : xs = [] ∨ ∃ b o cl, A = some ⟨b, o, none⟩ ∧ N b ∧ CellsAt w b o cl ∧ Cat (PRd w N (.int .u8)) xs cl) :
    ∃ a, A = some a ∧ ∀ i, i < xs.length → w.cell? (a.add i) = some (.int .u8 (xs.getD i 0)) := by
  rcases h with h | ⟨b, o, cl, hA, hN, hc, hx⟩
  · exact absurd h h1
  · refine ⟨_, hA, fun i hi => ?_⟩
    have e : cl = xs.map (Value.int .u8) := qDg (k := .u8) hx
    rw [Lib.add_plain']
    refine hc i _ ?_
    rw [e, List.getElem?_map, List.getElem?_eq_getElem hi, List.getD_eq_getElem?_getD, List.getElem?_eq_getElem hi]
    rfl
set_option maxRecDepth 100000 in
theorem qrt {GT : qfg} (hGT : lookL GT 0 = some ⟨.pair .unit .unit, ((), ())⟩) {avs : List AV} {pre : List (Nat × Obj)} {r : Int} (h : qHi avs pre = some r) : CallOK Tryz.prog GT 74 avs pre (.one (.int .i64 r)) [] := by
  unfold qHi at h
  split at h
  · rename_i f1 s f2 t
    unfold qPh at h
    obtain ⟨hs, h⟩ := qLj h
    obtain ⟨ht, h⟩ := qLj h
    obtain ⟨ht2, h⟩ := qLj h
    obtain ⟨⟨hb1, hb2⟩, h⟩ := qLj h
    obtain rfl := Option.some.inj h
    intro w F G K vs hg hI hG hK hF hv
    obtain ⟨v1, r1, rfl, h1, h2⟩ := hv
    obtain ⟨v2, r2, rfl, h2, h3⟩ := h2
    simp only [VRdL] at h3; subst h3
    obtain ⟨A1, c1, e1, l1, k1⟩ := h1
    obtain ⟨A2, c2, e2, l2, k2⟩ := h2
    obtain rfl := (List.cons.inj e1).1
    obtain rfl := (List.cons.inj e2).1
    obtain ⟨m, hm⟩ := hg.2.2.2 0 hGT
    have fin : ∀ (w' : World) (q : Nat), w' = w.drewN q → ∃ K', (∀ l gh, K l = some gh → K' l = some gh) ∧ Inv ⟨w, F, G, (ngOf GT), []⟩ (lookL []) K' w' ∧ TVRd w' (NN ⟨w, F, G, (ngOf GT), []⟩ (lookL []) K' w') K' (.one (.int .i64 (ixB s t))) (.int .i64 (ixB s t)) := by
      rintro w' q rfl
      exact ⟨K, fun _ _ h => h, (hI.more (w' := w.drewN q) rfl rfl rfl (Nat.le_refl _) (fun k hk => rfl)).1, rfl⟩
    refine qjj (by kernel_rfl) (by kernel_rfl) ?_
    by_cases hlt : s.length < t.length
    · have hc := Any.bytes_Index_longer qsE A1 A2 s.length c1 t.length c2 w ht hlt ht2
      have hi : ixB s t = -1 := by
        have hr := Lib.index_room (Lib.bytesOf s) (Lib.bytesOf t)
        have hge := Lib.index_ge (Lib.bytesOf s) (Lib.bytesOf t)
        unfold ixB
        have e1 : (Lib.bytesOf s).length = s.length := List.length_map ..
        have e2 : (Lib.bytesOf t).length = t.length := List.length_map ..
        rw [e1, e2] at hr
        by_cases h0 : 0 ≤ Lib.index (Lib.bytesOf s) (Lib.bytesOf t)
        · have := hr h0; omega
        · omega
      refine Calls.mono hc ?_
      rintro e w' ⟨rfl, rfl⟩
      refine ⟨_, rfl, ?_⟩
      rw [← hi]
      exact fin _ 0 rfl
    · obtain ⟨a1, rfl, hc1⟩ := qEy (xs := s) (by intro h; rw [h] at hlt; simp only [List.length_nil] at hlt; omega) k1
      obtain ⟨a2, rfl, hc2⟩ := qEy (xs := t) (by intro h; rw [h] at ht; simp at ht) k2
      have hc := Any.bytes_Index_at qsE a1 a2 s.length c1 t.length c2 s t m w rfl rfl hb1 hb2 hc1 hc2 l1 hs ht2 hm
      refine Calls.mono hc ?_
      rintro e w' ⟨rfl, q, rfl⟩
      exact ⟨_, rfl, fin _ q rfl⟩
  · cases h
end Go.Ab
