/-
  An abstract machine over the model's code and its soundness; what the functions compute, as plain functions (printed by a program of this repo's own, checked here by the kernel); plain laws of them: part 7. Helper text, no statement of the claim stands here.
-/
import Derived.Test.YtfabancjlbbgkaaGreatDoorTxtYf
/-
  Chapter 34: SalvageNames.
-/
set_option linter.unusedVariables false
set_option linter.unusedSimpArgs false
set_option maxRecDepth 10000
namespace Go.Ab
open Go
attribute [local irreducible] IntKind.wrap
open Classical
theorem valid_ex : valid exR = 0 := by decide +kernel
theorem valid_z1 : valid (List.replicate 1 (pzero T_api_Record)) = 8 := by decide +kernel
theorem exR_ok : RecsOK exR := ⟨by show 1 ≤ _; decide, fun q hq => by rw [List.mem_singleton.1 hq]; show 1 ≤ _; decide⟩
theorem zR_ok (n : Nat) (hn : n ≤ 100) : RecsOK (List.replicate n (pzero T_api_Record)) := ⟨by rw [List.length_replicate]; omega, fun q hq => by rw [List.eq_of_mem_replicate hq]; show 0 ≤ _; decide⟩
theorem zF_ok (n : Nat) (hn : n ≤ 1000) : FndOK (List.replicate n (pzero T_api_Found)) := ⟨by rw [List.length_replicate]; omega, fun q hq => by
  rw [List.eq_of_mem_replicate hq]; exact ⟨⟨by show (0:Int) ≤ 0; decide, by show (0:Int) < 256; decide⟩, Bts.nil⟩⟩
theorem fck_bad {rs : List D_api_Record} {f : D_api_Found} (hv : valid rs = 0) (h : ¬ fOK f) : fck rs [f] = 8 := by
  unfold fck
  rw [if_neg (fun k => k hv), if_neg (by show ¬ 1 > 600; decide)]
  unfold allF
  exact if_neg h
theorem fck_good {rs : List D_api_Record} {fs : List D_api_Found} (hv : valid rs = 0) (hl : fs.length ≤ 600) (h : ∀ f ∈ fs, fOK f) : fck rs fs = 0 := by
  unfold fck
  rw [if_neg (fun k => k hv), if_neg (by omega)]
  have key : ∀ fs : List D_api_Found, (∀ f ∈ fs, fOK f) → allF fs = 0 := by
    intro fs
    induction fs with
    | nil => intro _; rfl
    | cons f fs ih =>
      intro h
      unfold allF
      rw [if_pos (h f List.mem_cons_self)]
      exact ih (fun g hg => h g (List.mem_cons_of_mem _ hg))
  exact key fs h
def exBad : List D_api_Found := [((-1 : Int), (exB.1, ([7], ()))), (52, ((exB.1.1, (16, exB.1.2.2)), ([7], ()))), (52, (exB.1, ([8], ()))), (52, (exB.1, ([7, 7], ()))), (0, ((0, (0, (0, (0, (0, ((List.replicate 20 0), ())))))), ([], ())))]
set_option maxRecDepth 100000 in
theorem exBad_not : ∀ f ∈ exBad, ¬ fOK f := by
  intro f hf h
  obtain ⟨h1, h2, h3, h4⟩ := h
  unfold exBad at hf
  rcases List.mem_cons.1 hf with rfl | hf
  · revert h4; show ¬ (0 : Int) ≤ -1; decide
  rcases List.mem_cons.1 hf with rfl | hf
  · have := h1.2.1; revert this; show ¬ (16 : Int) < 16; decide
  rcases List.mem_cons.1 hf with rfl | hf
  · exact sum_ne (peq_eq (t := .arr 20 (.int .u8)) (by decide) h3)
  rcases List.mem_cons.1 hf with rfl | hf
  · revert h2; show ¬ (((2 : Nat) : Int) = 1); decide
  rw [List.mem_singleton.1 hf] at h1
  have := h1.2.2.1; revert this; show ¬ (1 : Int) ≤ 0; decide
theorem exBad_ok : ∀ f ∈ exBad, FndOK [f] := by
  intro f hf
  have key : ∀ f : D_api_Found, (0 ≤ f.2.1.1 ∧ f.2.1.1 < 256) → Bts f.2.2.1 → FndOK [f] := fun f a b => ⟨by show 1 ≤ 2000; decide, fun g hg => by rw [List.mem_singleton.1 hg]; exact ⟨a, b⟩⟩
  have m1 : (0 : Int) ≤ 1 ∧ (1 : Int) < 256 := by decide
  unfold exBad at hf
  rcases List.mem_cons.1 hf with rfl | hf
  · exact key _ m1 b7
  rcases List.mem_cons.1 hf with rfl | hf
  · exact key _ m1 b7
  rcases List.mem_cons.1 hf with rfl | hf
  · exact key _ m1 (lit_bts (by decide))
  rcases List.mem_cons.1 hf with rfl | hf
  · exact key _ m1 (lit_bts (by decide))
  rw [List.mem_singleton.1 hf]
  exact key _ (by show (0 : Int) ≤ 0 ∧ (0 : Int) < 256; decide) Bts.nil
theorem bad_Parts {f : D_api_Found} (hf : f ∈ exBad) : salvage_Parts exR [f] = some ([], 8) := by
  have h := fck_bad valid_ex (exBad_not f hf)
  rw [salvage_Parts_spec exR exR_ok [f] (exBad_ok f hf)]
  unfold prts
  rw [h]
  exact congrArg some (if_pos (by decide))
theorem bad_Rebuild {f : D_api_Found} (hf : f ∈ exBad) : salvage_Rebuild exR [f] = some ([], ([], 8)) := by
  have h := fck_bad valid_ex (exBad_not f hf)
  rw [salvage_Rebuild_spec exR exR_ok [f] (exBad_ok f hf)]
  unfold reb
  rw [h]
  exact congrArg some (if_pos (by decide))
theorem err_Parts {rs : List D_api_Record} (hR : RecsOK rs) {fs : List D_api_Found} (hF : FndOK fs) {e : Int} (h : fck rs fs = e) (he : e ≠ 0) : salvage_Parts rs fs = some ([], e) := by
  rw [salvage_Parts_spec rs hR fs hF]
  unfold prts
  rw [h]
  exact congrArg some (if_pos he)
theorem err_Rebuild {rs : List D_api_Record} (hR : RecsOK rs) {fs : List D_api_Found} (hF : FndOK fs) {e : Int} (h : fck rs fs = e) (he : e ≠ 0) : salvage_Rebuild rs fs = some ([], ([], e)) := by
  rw [salvage_Rebuild_spec rs hR fs hF]
  unfold reb
  rw [h]
  exact congrArg some (if_pos he)
theorem m8 : mOK 0 0 [8] := by decide
theorem b8 : Bts [8] := lit_bts (by decide)
def fdB (k : Int) : D_api_Found := (k, ((storedB 0 0 [8]).1, ([8], ())))
theorem fOK_ex (k : Int) (hk : 0 ≤ k) : fOK (exFd k) := ⟨mOK_stored m7 _, rfl, sum_refl _, hk⟩
theorem fOK_8 (k : Int) (hk : 0 ≤ k) : fOK (fdB k) := ⟨mOK_stored m8 _, rfl, sum_refl _, hk⟩
theorem one_ok (f : D_api_Found) (a : 0 ≤ f.2.1.1 ∧ f.2.1.1 < 256) (b : Bts f.2.2.1) : FndOK [f] := ⟨by show 1 ≤ 2000; decide, fun g hg => by rw [List.mem_singleton.1 hg]; exact ⟨a, b⟩⟩
def exTwo : List D_api_Found := [fdB 0, exFd 52, fdB 3]
theorem two_ok : FndOK exTwo := ⟨by show 3 ≤ 2000; decide, fun g hg => by
  have m1 : (0 : Int) ≤ 1 ∧ (1 : Int) < 256 := by decide
  unfold exTwo at hg
  rcases List.mem_cons.1 hg with rfl | hg
  · exact ⟨m1, b8⟩
  rcases List.mem_cons.1 hg with rfl | hg
  · exact ⟨m1, b7⟩
  rw [List.mem_singleton.1 hg]
  exact ⟨m1, b8⟩⟩
theorem two_all : ∀ f ∈ exTwo, fOK f := by
  intro g hg
  unfold exTwo at hg
  rcases List.mem_cons.1 hg with rfl | hg
  · exact fOK_8 0 (by decide)
  rcases List.mem_cons.1 hg with rfl | hg
  · exact fOK_ex 52 (by decide)
  rw [List.mem_singleton.1 hg]
  exact fOK_8 3 (by decide)
def p7 : D_api_Part := ((0, (0, (1, ()))), ([7], ()))
def p8 : D_api_Part := ((0, (0, (1, ()))), ([8], ()))
theorem prt_ex : prt exR [exFd 52] [] = [p7] := by
  have hw : wthn exR (exFd 52) ∧ agr [] (partOf (exFd 52)) := ⟨⟨by show (0 : Int) < 1; decide, by show (0 : Int) + 1 ≤ 1; decide⟩, fun q hq => by cases hq⟩
  rw [prt, if_pos hw, prt]
  rfl
theorem prt_two : prt exR exTwo [] = [p8, p8] := by
  have w8 : ∀ k, wthn exR (fdB k) := fun k => ⟨by show (0 : Int) < 1; decide, by show (0 : Int) + 1 ≤ 1; decide⟩
  have e8 : ∀ k, partOf (fdB k) = p8 := fun k => rfl
  have e7 : partOf (exFd 52) = p7 := rfl
  have n7 : ¬ (wthn exR (exFd 52) ∧ agr ([] ++ [p8]) p7) := by
    rintro ⟨_, h⟩
    have := h p8 (by simp) 0 (by show 0 < 1; decide) 8 ⟨rfl, by show (0 : Int) ≤ 0 + ((0 : Nat) : Int); decide, by show (0 : Int) + ((0 : Nat) : Int) < 0 + ((1 : Nat) : Int); decide, rfl⟩
    revert this; show ¬ (8 : Int) = 7; decide
  have a8 : agr ([] ++ [p8]) p8 := by
    intro q hq i hi c hc
    have hq : q = p8 := by simpa using hq
    subst hq
    have hi : i = 0 := by
      have : i < 1 := hi
      omega
    subst hi
    exact hc.2.2.2.symm
  unfold exTwo
  rw [prt, e8, if_pos ⟨w8 0, fun q hq => by cases hq⟩, prt, e7, if_neg n7, prt, e8, if_pos ⟨w8 3, a8⟩, prt]
  rfl
theorem ok_Rebuild : salvage_Rebuild exR [exFd 52] = some ([(exA, ([7], ()))], ([true], 0)) := by
  have m1 : (0 : Int) ≤ 1 ∧ (1 : Int) < 256 := by decide
  have h0 : fck exR [exFd 52] = 0 := fck_good valid_ex (by show 1 ≤ 600; decide) (fun f hf => by rw [List.mem_singleton.1 hf]; exact fOK_ex 52 (by decide))
  have hd : fD (((0 : Nat) : Int)) [p7] (zD (exA, (1, (shaB [7], ())))) = [7] := rfl
  have ht : (fT (((0 : Nat) : Int)) [p7] (zT (exA, (1, (shaB [7], ()))))).all id = true := rfl
  rw [salvage_Rebuild_spec exR exR_ok [exFd 52] (one_ok _ m1 b7)]
  unfold reb
  rw [if_neg (fun k => k h0), prt_ex]
  unfold exR
  rw [rebM, rebM, rebW, rebW]
  unfold mem1 who1
  rw [hd, ht, sum_refl]
  rfl
theorem two_Parts : salvage_Parts exR exTwo = some ([p8, p8], 0) := by
  rw [salvage_Parts_spec exR exR_ok exTwo two_ok]
  unfold prts
  rw [if_neg (fun k => k (fck_good valid_ex (by show 3 ≤ 600; decide) two_all)), prt_two]
set_option maxRecDepth 100000 in
theorem sum_ne8 : shaB [8] ≠ shaB [7] := by decide +kernel
theorem two_Rebuild : salvage_Rebuild exR exTwo = some ([(exA, ([8], ()))], ([false], 0)) := by
  have hd : fD (((0 : Nat) : Int)) [p8, p8] (zD (exA, (1, (shaB [7], ())))) = [8] := rfl
  have hs : peq (.arr 20 (.int .u8)) (shaB [8]) (shaB [7]) = false := by
    refine Bool.eq_false_iff.2 (fun h => sum_ne8 ?_)
    exact peq_eq (t := .arr 20 (.int .u8)) (by decide) h
  rw [salvage_Rebuild_spec exR exR_ok exTwo two_ok]
  unfold reb
  rw [if_neg (fun k => k (fck_good valid_ex (by show 3 ≤ 600; decide) two_all)), prt_two]
  unfold exR
  rw [rebM, rebM, rebW, rebW]
  unfold mem1 who1
  rw [hd, hs, Bool.and_false]
theorem no_Parts : salvage_Parts [] [exFd 52] = some ([], 0) := by
  have m1 : (0 : Int) ≤ 1 ∧ (1 : Int) < 256 := by decide
  have hv : valid [] = 0 := by decide
  have hw : ¬ (wthn [] (exFd 52) ∧ agr [] (partOf (exFd 52))) := by
    rintro ⟨⟨h, _⟩, _⟩
    revert h; show ¬ (0 : Int) < 0; decide
  rw [salvage_Parts_spec [] ⟨by show 0 ≤ _; decide, fun r hr => by cases hr⟩ [exFd 52] (one_ok _ m1 b7)]
  unfold prts
  rw [if_neg (fun k => k (fck_good hv (by show 1 ≤ 600; decide) (fun f hf => by rw [List.mem_singleton.1 hf]; exact fOK_ex 52 (by decide)))), prt, if_neg hw, prt]
theorem many_zero (rs : List D_api_Record) (h : valid rs = 0) : fck rs (List.replicate 601 (pzero T_api_Found)) = 4 := fck_many h (by rw [List.length_replicate]; decide)
theorem Names_end (h8 : List D_api_Found) (e8 : h8 = []) : bitloftlaw34_SalvageNames_c1 2 2 4 0 ((5 : Nat) : Int) h8 exR [exFd 52] exBad = some true := by
  have hl : Int.ofNat (List.length exBad) = 5 := rfl
  have hl1 : Int.ofNat (List.length [exFd 52]) = 1 := rfl
  have g0 : List.getD [exFd 52] 0 (pzero T_api_Found) = exFd 52 := rfl
  have hmd : bitloftref27_Made 0 0 [8] [8] = some (storedB 0 0 [8]) := by
    rw [bitloftref27_Made_eq]
    exact Tot.eq (Tot.g (by decide) (Tot.ifd_neg (by decide) (Tot.be (ref26_Of_spec _ ⟨by decide, by decide⟩ (by decide)) (Tot.so rfl))))
  have q1 : salvage_Parts (List.replicate 1 (pzero T_api_Record)) (List.replicate 601 (pzero T_api_Found)) = some ([], 8) := err_Parts (zR_ok 1 (by decide)) (zF_ok 601 (by decide)) (by unfold fck; rw [valid_z1]; exact if_pos (by decide)) (by decide)
  have q2 : salvage_Parts exR (List.replicate 601 (pzero T_api_Found)) = some ([], 4) := err_Parts exR_ok (zF_ok 601 (by decide)) (many_zero _ valid_ex) (by decide)
  have v17 : valid (List.replicate 17 (pzero T_api_Record)) = 4 := by
    unfold valid
    exact if_pos (by rw [List.length_replicate]; decide)
  have q3 : salvage_Rebuild (List.replicate 17 (pzero T_api_Record)) [] = some ([], ([], 4)) := err_Rebuild (zR_ok 17 (by decide)) ⟨by show 0 ≤ 2000; decide, fun f hf => by cases hf⟩ (by unfold fck; rw [v17]; exact if_pos (by decide)) (by decide)
  have q4 : salvage_Rebuild exR (List.replicate 601 (pzero T_api_Found)) = some ([], ([], 4)) := err_Rebuild exR_ok (zF_ok 601 (by decide)) (many_zero _ valid_ex) (by decide)
  have eT : [(0, ((storedB 0 0 [8]).1, (([8] : List Int), ()))), exFd 52, (3, ((storedB 0 0 [8]).1, ([8], ())))] = exTwo := rfl
  have s1 : bitloftref33_SameBools [true] [true] = some true := SameBools_refl _ (by decide)
  have s2 : bitloftref33_SameBools [false] [false] = some true := SameBools_refl _ (by decide)
  subst e8
  rw [bitloftlaw34_SalvageNames_c1_eq, hl, hl1, g0]
  refine Tot.eq (Tot.ifd_neg (by decide) (Tot.g rfl (Tot.g (by decide) (Tot.g (by decide) (Tot.g (by decide) (Tot.g rfl (Tot.g (by decide) (Tot.g (by decide) (Tot.g (by decide) (Tot.be q1 (Tot.g rfl (Tot.g (by decide) (Tot.g (by decide) (Tot.g (by decide) (Tot.be q2 (Tot.g rfl (Tot.g (by decide) (Tot.g (by decide) (Tot.g (by decide) (Tot.be q3 (Tot.g rfl (Tot.g (by decide) (Tot.g (by decide) (Tot.g (by decide) (Tot.be q4 (Tot.be ok_Rebuild (Tot.be no_Parts (Tot.be hmd (Tot.g (by decide) (Tot.g (by decide) ?_))))))))))))))))))))))))))))))
  rw [eT]
  refine Tot.be two_Parts (Tot.be two_Rebuild (Tot.be alive34 (Tot.ift_ (Tot.ifeq_pos rfl (Tot.ifeq_pos rfl (Tot.ifeq_pos rfl (Tot.ifeq_pos rfl (Tot.ifeq_pos rfl (Tot.ifeq_pos rfl (Tot.ifeq_pos rfl (Tot.ifeq_pos rfl (Tot.ifeq_pos rfl (Tot.ifeq_pos rfl (Tot.ifeq_pos rfl (Tot.g (by decide) (Tot.g (by decide) ?_))))))))))))))))
  refine Tot.it (fun _ => ?_) (fun k => absurd (by simp) k)
  refine Tot.be s1 (Tot.ift_ (Tot.ifeq_pos rfl (Tot.ifeq_pos rfl (Tot.ifeq_pos rfl (Tot.ifeq_pos rfl (Tot.ifeq_pos rfl (Tot.ifeq_pos rfl (Tot.g (by decide) (Tot.g (by decide) ?_)))))))))
  refine Tot.it (fun _ => ?_) (fun k => absurd (by simp) k)
  exact Tot.be s2 (Tot.so rfl)
theorem Names_c1 : ∀ (k i : Nat), i + k = 5 → bitloftlaw34_SalvageNames_c1 2 2 4 0 (i : Int) [] exR [exFd 52] exBad = some true
  | 0, i, e => by
    have : i = 5 := by omega
    subst this
    exact Names_end [] rfl
  | k + 1, i, e => by
    have hl : Int.ofNat (List.length exBad) = 5 := rfl
    have hln : exBad.length = 5 := rfl
    have e2 : (i : Int) + 1 = ((i + 1 : Nat) : Int) := by omega
    have hd := dropR_at (pzero T_api_Found) (xs := exBad) (i := i) (by omega)
    have hs : List.take (((i + 1 : Nat) : Int).toNat - (i : Int).toNat) (List.drop (0 + (i : Int).toNat) exBad) = [exBad.getD i (pzero T_api_Found)] := by
      rw [show ((i + 1 : Nat) : Int).toNat - (i : Int).toNat = 1 by omega, show 0 + (i : Int).toNat = i by omega, hd.1]
      rfl
    rw [bitloftlaw34_SalvageNames_c1_eq, hl, w64 (x := (i : Int) + 1) (by omega) (by omega), e2, hs]
    exact Tot.eq (Tot.ifd_pos (by omega) (Tot.g (by omega) (Tot.g (by omega) (Tot.g (by omega) (Tot.be (bad_Parts hd.2.2) (Tot.g (by omega) (Tot.g (by omega) (Tot.g (by omega) (Tot.be (bad_Rebuild hd.2.2) (Tot.ifne_neg rfl (Tot.ifne_neg rfl (Tot.of_eq (Names_c1 k (i + 1) (by omega)) rfl))))))))))))
theorem zeros_free (n j : Nat) : ¬ hd13 ((List.replicate n (0 : Int)).drop j) := by
  unfold hd13
  rw [List.drop_replicate, List.take_replicate]
  intro h
  have h1 : (183 : Int) ∈ List.replicate (min 13 (n - j)) (0 : Int) := by rw [h]; decide
  have := List.eq_of_mem_replicate h1
  omega
theorem bitloftlaw34_SalvageNames_true : bitloftlaw34_SalvageNames = some true := by
  have z1 := zeros_bts 50001
  have z0 := zeros_bts 50000
  have l1 : (List.replicate 50001 (0 : Int)).length = 50001 := List.length_replicate
  have l0 : (List.replicate 50000 (0 : Int)).length = 50000 := List.length_replicate
  have a1 : salvage_Salvage (-1) (List.replicate 50001 0) = some ([], 2) := by
    rw [Salvage_spec (-1) z1, if_pos (by decide)]
  have a2 : salvage_Salvage 8 [] = some ([], 2) := by
    rw [Salvage_spec 8 Bts.nil, if_pos (by decide)]
  have a3 : salvage_Salvage 0 (List.replicate 50001 0) = some ([], 4) := by
    rw [Salvage_spec 0 z1, if_neg (by decide), if_pos (by omega)]
  have a4 : salvage_Salvage 7 (List.replicate 50000 0) = some ([], 0) := by
    rw [Salvage_spec 7 z0, if_neg (by decide), if_neg (by omega), svA_never (fun j => zeros_free 50000 j)]
  have a5 : salvage_Salvage 0 exW = some ([exFd 52], 0) := by
    rw [Salvage_spec 0 exW_bts, if_neg (by decide), if_neg (by rw [exW_len]; decide), sv_ex (by decide)]
  have g0 : List.getD [exFd 52] 0 (pzero T_api_Found) = exFd 52 := rfl
  have hl1 : Int.ofNat (List.length [exFd 52]) = 1 := rfl
  have last := Names_c1 5 0 (by decide)
  rw [bitloftlaw34_SalvageNames_eq]
  refine Tot.eq (Tot.g rfl (Tot.g (by decide) (Tot.g (by decide) (Tot.g (by decide) (Tot.be a1 (Tot.be a2 (Tot.be a3 (Tot.g rfl (Tot.g (by decide) (Tot.g (by decide) (Tot.g (by decide) (Tot.be a4 (Tot.be example_spec (Tot.be a5 (Tot.ifne_neg rfl (Tot.ifne_neg rfl (Tot.g (by decide) (Tot.g (by decide) (Tot.ifne_neg rfl ?_)))))))))))))))))))
  exact Tot.g (by decide) (Tot.g (by decide) (Tot.g (by decide) (Tot.g (by decide) (Tot.g (by decide) (Tot.g (by decide) (Tot.g (by decide) (Tot.g (by decide) (Tot.of_eq last rfl))))))))
end Go.Ab
