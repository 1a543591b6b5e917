/-
  What the functions compute, as plain functions: printed by a program of this repo's own and checked here by the kernel.
-/
import Derived.Test.YtbgokmkefnepcaaGreatDoorGenRc
import Derived.RangeFuncBox
import Derived.RangeFuncLeaves
import Derived.Shelf.Abstract
import Derived.WalkKit
import Derived.OwnWalkIn
import Derived.TacticsInMore
import Derived.LoopNIn
import Derived.LoopIn
/-
  codec.each: walked by hand, the rounds by the abstract machine.
-/
set_option linter.unusedVariables false
namespace Go.Ab
open Go Go.Proofs Go.RowKit Go.Shelf
attribute [local go_sem] Oper.semAt_some
/-- Cells of these blocks are kept. -/
def KpM (M : Nat → Prop) (W W' : World) : Prop := ∀ p v, M p.block → W.cell? p = some v → W'.cell? p = some v
theorem KpM.refl (M : Nat → Prop) (W : World) : KpM M W W := fun _ _ _ h => h
theorem KpM.trans {M : Nat → Prop} {A B C : World} (h : KpM M A B) (k : KpM M B C) : KpM M A C := fun p v hm hv => k p v hm (h p v hm hv)

/-- The bits of a byte, the highest first. -/
def bitB (z : Int) (j : Nat) : Bool := bits BinOp.and IntKind.u8 (z / 2 ^ (7 - j)) 1 == 1
def bitsB (z : Int) : List Bool := (List.range 8).map (bitB z)
def bitsL (zs : List Int) : List Bool := zs.flatMap bitsB
theorem bitsB_len (z : Int) : (bitsB z).length = 8 := by simp [bitsB]
theorem bitsL_len : ∀ (zs : List Int), (bitsL zs).length = 8 * zs.length
  | [] => rfl
  | z :: r => by
    have := bitsL_len r
    simp only [bitsL, List.flatMap_cons, List.length_append, bitsB_len, List.length_cons] at this ⊢
    omega
theorem bitsB_take (z : Int) {j : Nat} (h : j < 8) : (bitsB z).take (j + 1) = (bitsB z).take j ++ [bitB z j] := by
  rw [List.take_succ_eq_append_getElem (by rw [bitsB_len]; exact h)]
  simp [bitsB]
theorem bitsL_take (zs : List Int) {k : Nat} (h : k < zs.length) : bitsL (zs.take (k + 1)) = bitsL (zs.take k) ++ bitsB (zs[k]'h) := by
  unfold bitsL
  rw [List.take_succ_eq_append_getElem h, List.flatMap_append]
  simp only [List.flatMap_cons, List.flatMap_nil, List.append_nil]

set_option maxRecDepth 100000 in
set_option maxHeartbeats 4000000 in
theorem bits1_in (n : Nat) (hn : 1 ≤ n) (l Bs Bo b off len cap : Nat) (zs : List Int) (hreach : len * 8 ≤ 140737488351232) (M : Nat → Prop) (hM1 : M Bs) (hM2 : M b) (hl : zs.length = len) (J Jx : List Bool → World → Prop)
    (hY : ∀ pre x W, J pre W → pre.length < 8 * len → YieldAt Fence.wide (n - 1) Tryz.prog l #[.bool x] W fun e W' =>
      (e = .returned (.bool true) ∧ J (pre ++ [x]) W' ∧ KpM M W W') ∨ (e = .returned (.bool false) ∧ Jx (pre ++ [x]) W'))
    (W : World) (hBs : W.cell? ⟨Bs, Bo, none⟩ = some (.slice (some ⟨b, off, none⟩) len cap)) (hc : ∀ j, j < len → W.cell? ⟨b, off + j, none⟩ = some (.int .u8 (zs[j]?.getD 0))) (h0 : J [] W) :
    CallsIn Fence.wide n Tryz.prog 133 #[.func (.yield l) #[] #[], .pointer (some ⟨Bs, Bo, none⟩)] W fun e W' => (∃ v, e = .returned v) ∧ (J (bitsL zs) W' ∨ ∃ pre, Jx pre W') := by
  refine callsIn_of_wp Tryz.func133 rfl trivial ?_ rfl
  simp only [Tryz.ntmps133, List.size_toArray, List.length_cons, List.length_nil, Nat.reduceAdd, Nat.reduceSub, Array.replicate_succ, Array.replicate_zero, List.push_toArray, List.append_toArray, List.nil_append, List.cons_append]
  gi_wp2
  gi_loopw [8, 4, 5] (fun i c4 c5 wr => ∃ k : Nat, k ≤ len ∧ i = .int .i64 k ∧ J (bitsL (zs.take k)) wr ∧ KpM M W wr)
    (fun i _ _ _ => len - (intOf i).toNat)
  case atStart => exact ⟨0, Nat.zero_le _, rfl, h0, KpM.refl _ _⟩
  case round =>
    obtain ⟨k, hk, rfl, hJs, hnx⟩ := hrel
    by_cases hlt : k < len
    · have hk' : k < zs.length := by omega
      have hcx : wr.cell? ⟨b, off + k, none⟩ = some (.int .u8 (zs[k]?.getD 0)) := hnx _ _ hM2 (hc k hlt)
      rw [List.getElem?_eq_getElem hk'] at hcx
      simp only [Option.getD_some] at hcx
      have htake := bitsL_take zs hk'
      generalize zs[k] = z at hcx htake
      gi_wp2
      gi_loopw [5] (fun c5 wr2 => ∃ j : Nat, j ≤ 8 ∧ c5 = .int .i64 (7 - (j : Int)) ∧ J (bitsL (zs.take k) ++ (bitsB z).take j) wr2 ∧ KpM M W wr2) (fun c5 _ => (intOf c5 + 1).toNat)
      case atStart => exact ⟨0, by omega, rfl, by simpa using hJs, hnx⟩
      case round =>
        obtain ⟨j, hj, rfl, hJq, hnx2⟩ := hrel
        by_cases hj8 : j < 8
        · have hj0 : (0 : Int) ≤ 7 - (j : Int) := by omega
          obtain ⟨fn, tmps, assign, body, hy, hR⟩ := hY _ (bitB z j) wr hJq (by rw [List.length_append, bitsL_len, List.length_take, List.length_take, bitsB_len]; omega)
          unfold bitB at hy
          gi_wp2
          refine hR.mono ?_
          rintro e W3 (⟨rfl, hJ3, hk3⟩ | ⟨rfl, hJx3⟩)
          · gi_wp2
            go_roundw
            case rel =>
              refine ⟨j + 1, by omega, ?_, ?_, hnx2.trans hk3⟩
              · simp; omega
              · rw [bitsB_take z hj8, ← List.append_assoc]; exact hJ3
            case measure => simp [intOf]; omega
          · gi_wp2
            refine bodyPost_ret (results_none rfl _ _ _) rfl ?_
            exact ⟨⟨_, rfl⟩, .inr ⟨_, hJx3⟩⟩
        · obtain rfl : j = 8 := by omega
          gi_wp2
          go_roundw
          case rel =>
            refine ⟨k + 1, by omega, by simp, ?_, hnx2⟩
            rw [htake]
            have : (bitsB z).take 8 = bitsB z := List.take_of_length_le (by rw [bitsB_len]; omega)
            rw [← this]; exact hJq
          case measure => simp [intOf]; omega
    · obtain rfl : k = len := by omega
      gi_wp2
      go_end0
      refine ⟨⟨_, rfl⟩, .inl ?_⟩
      rwa [List.take_of_length_le (by omega)] at hJs

set_option maxRecDepth 100000 in
set_option maxHeartbeats 4000000 in
theorem bits1_nil (n : Nat) (l Bs Bo cap : Nat) (A0 : Option Addr) (J : List Bool → World → Prop)
    (W : World) (hBs : W.cell? ⟨Bs, Bo, none⟩ = some (.slice A0 0 cap)) (h0 : J [] W) :
    CallsIn Fence.wide n Tryz.prog 133 #[.func (.yield l) #[] #[], .pointer (some ⟨Bs, Bo, none⟩)] W fun e W' => (∃ v, e = .returned v) ∧ J [] W' := by
  refine callsIn_of_wp Tryz.func133 rfl trivial ?_ rfl
  simp only [Tryz.ntmps133, List.size_toArray, List.length_cons, List.length_nil, Nat.reduceAdd, Nat.reduceSub, Array.replicate_succ, Array.replicate_zero, List.push_toArray, List.append_toArray, List.nil_append, List.cons_append]
  gi_wp2
  gi_loopw [8] (fun i wr => i = .int .i64 0 ∧ J [] wr) (fun _ _ => 0)
  case atStart => exact ⟨rfl, h0⟩
  case round =>
    obtain ⟨rfl, hJs⟩ := hrel
    gi_wp2
    go_end0
    exact ⟨⟨_, rfl⟩, hJs⟩
/-- The bytes that a slice holds, in block b. -/
def HoldsB (w : World) (b : Nat) (A0 : Option Addr) (zs : List Int) : Prop := zs = [] ∨ ∃ o, A0 = some ⟨b, o, none⟩ ∧ ∀ j, j < zs.length → w.cell? ⟨b, o + j, none⟩ = some (.int .u8 (zs[j]?.getD 0))
theorem bits_stops (n : Nat) (hn : 1 ≤ n) (Bs Bo b cap : Nat) (A0 : Option Addr) (zs : List Int) (hreach : zs.length * 8 ≤ 140737488351232) (M : Nat → Prop) (hM1 : M Bs) (hM2 : M b) (w : World) (h1 : Bs < w.heap.size) (h2 : b < w.heap.size)
    (hBs : w.cell? ⟨Bs, Bo, none⟩ = some (.slice A0 zs.length cap)) (hc : HoldsB w b A0 zs) :
    SeqStopsK Fence.wide n Tryz.prog 133 #[.pointer (some ⟨Bs, Bo, none⟩)] (fun x : Bool => #[.bool x]) (KpM M) (fun xs => xs = bitsL zs) (fun _ => True) (8 * zs.length) w := fun l J Jx W hW _ _ hY h0 => by
  have hBs' := (hW.cell (p := ⟨Bs, Bo, none⟩) h1).trans hBs
  rcases hc with rfl | ⟨o, rfl, hc⟩
  · refine (bits1_nil n l Bs Bo cap A0 J W hBs' h0).mono ?_
    rintro e W' ⟨he, hj⟩
    exact ⟨he, .inl ⟨_, rfl, hj⟩⟩
  · refine (bits1_in n hn l Bs Bo b o zs.length cap zs hreach M hM1 hM2 rfl J Jx hY W hBs' (fun j hj => (hW.cell (p := ⟨b, o + j, none⟩) h2).trans (hc j hj)) h0).mono ?_
    rintro e W' ⟨he, hj | ⟨pre, hj⟩⟩
    · exact ⟨he, .inl ⟨_, rfl, hj⟩⟩
    · exact ⟨he, .inr ⟨pre, trivial, hj⟩⟩
/-! ### each: the walk -/
section each
@[reducible] def each_st (x : D_api_Predictor) (l : List Bool) (e : Int) (c : D_api_Encoder) : St :=
  ⟨[(6, .one (.ptr (.slice .bool) 8 [])), (7, .one (.cptr 9))], [(0, some (.box (.int .i64) e)), (1, some (.box T_api_Encoder (inj false T_api_Encoder c))), (8, some (.box (.slice .bool) (.ref 10 0 l.length true))), (9, some (.cell (.func 74 [11, 8, 12]))), (10, some (.row .bool false l)), (11, some (.box T_api_Predictor (inj false T_api_Predictor x))), (12, some (.cell (.func 44 [0, 1])))], 15⟩
@[reducible] def each_st8 (x : D_api_Predictor) (l : List Bool) (e : Int) (c : D_api_Encoder) (b : Bool) : St :=
  ⟨(8, .one (.bool b)) :: (each_st x l e c).tmps, (each_st x l e c).heap, 15⟩
@[reducible] def each_fin (e : Int) (c : D_api_Encoder) : St := ⟨[], [(0, some (.box (.int .i64) e)), (1, some (.box T_api_Encoder (inj false T_api_Encoder c)))], 10⟩
@[reducible] def each_S : Type := D_api_Predictor × List Bool × Int × D_api_Encoder
@[reducible] def each_R : Type := Int × D_api_Encoder
noncomputable def each_step (s : each_S) (b : Bool) : Option each_S :=
  gd ((s.2.1 ++ [b]).length * 1 ≤ 140737488355328) <|
  if ((Int.ofNat (s.2.1 ++ [b]).length) == (2000 : Int)) = true then
    (codec_each_1 s.1 (s.2.1 ++ [b]) s.2.2.1 s.2.2.2).bind fun r => some (r.1, r.2.1, r.2.2.2.1, r.2.2.2.2)
  else some (s.1, s.2.1 ++ [b], s.2.2.1, s.2.2.2)
noncomputable def each_run : List Bool → each_S → Option each_S
  | [], s => some s
  | b :: l, s => (each_step s b).bind (each_run l)
theorem each_run_snoc : ∀ (l : List Bool) (b : Bool) (s : each_S), each_run (l ++ [b]) s = (each_run l s).bind fun t => each_step t b
  | [], b, s => by
    simp only [List.nil_append, each_run, Option.bind_some]
    cases each_step s b <;> rfl
  | a :: l, b, s => by
    simp only [List.cons_append, each_run]
    cases each_step s a with
    | none => rfl
    | some t => exact each_run_snoc l b t
/-- codec.each, at what Encode hands it. -/
noncomputable def codec_each (x : D_api_Predictor) (b : List Int) (e : Int) (c : D_api_Encoder) : Option each_R :=
  gd (b.length * 8 ≤ 140737488351232) <|
  gd (∀ l : List Bool, l.length ≤ 8 * b.length → (each_run l (x, [], e, c)).isSome = true) <|
  (each_run (bitsL b) (x, [], e, c)).bind fun s =>
  (codec_each_1 s.1 s.2.1 s.2.2.1 s.2.2.2).bind fun r => some (r.2.2.2.1, r.2.2.2.2)

noncomputable def each_tab : List (Summ Tryz.prog GT) := [codec_bits_S (fun _ => true), (codec_each_1_S (fun _ => true)).dropping]
@[reducible] noncomputable def rg (cd : Code) (σ : St) (k : St → Tr) : Tr := regionT Tryz.prog GT (tmpsOf Tryz.prog 43) [] each_tab (opsC cd) false σ k
def stL : Pos → Option St := fun s => some s.st
def noL {R : Type} : Pos → Option R := fun _ => none
def lf0 (σ : St) : Tr := .leaf ⟨[], σ⟩
def leafK (ts : List Nat) (σ : St) : Tr := match keepSt σ ts true true with
  | some σ' => lf0 σ'
  | none => .dead
/-- The box of the list and the cell of the function keep their names. -/
def leafR (σ : St) : Tr := if (newOf (renSt σ [6, 7] true) 8 == some 8) && (newOf (renSt σ [6, 7] true) 9 == some 9) then leafK [6, 7] σ else .dead
@[reducible] noncomputable def eC0 : Code := bodyOf Tryz.prog 43
@[reducible] noncomputable def eC1 : Code := cSnd eC0
@[reducible] noncomputable def eC2 : Code := cSnd eC1
@[reducible] noncomputable def eC3 : Code := cSnd eC2
@[reducible] noncomputable def eC4 : Code := cFst eC3
@[reducible] noncomputable def eR8 : Code := cSnd eC3
@[reducible] noncomputable def eRF : Code := cIn (cSnd eC4)
@[reducible] noncomputable def eB : Code := cIn (rfB eRF)
@[reducible] noncomputable def eB2 : Code := cSnd eB
@[reducible] noncomputable def eB3 : Code := cSnd eB2
@[reducible] def each_as (x : D_api_Predictor) (b : List Int) : List AV := [.agg T_api_Predictor (inj false T_api_Predictor x), .sl (.int .u8) false b, .func 44 [0, 1]]
@[reducible] def each_pr (e : Int) (c : D_api_Encoder) : List (Nat × Obj) := [(0, .box (.int .i64) e), (1, .box T_api_Encoder (inj false T_api_Encoder c))]
noncomputable def each_pre (x : D_api_Predictor) (b : List Int) (e : Int) (c : D_api_Encoder) : Tr :=
  rg (cFst eC0) (st0 (each_as x b) (each_pr e c)) fun σ => rg (cFst eC1) σ fun σ => rg (cFst eC2) σ fun σ => rg (cFst eC4) σ lf0
/-- What is known ahead of the loop: the iterator, its bytes, and the state. -/
def each_chk (s : Pos) : Option (List Int × St) :=
  match s.st.look 11, lkOf s.st.heap 64, keepSt s.st [6, 7] true true with
  | .one (.func 133 [64]), some (.box t y), some σ' => if h : t = .slice (.int .u8) ∧ newOf (renSt s.st [6, 7] true) 64 = none then (match (h.1 ▸ y : aden (.slice (.int .u8))) with
    | .pure false r => some (r, σ')
    | _ => none) else none
  | _, _, _ => none
set_option maxRecDepth 100000 in
theorem each_pre_eq (x : D_api_Predictor) (b : List Int) (e : Int) (c : D_api_Encoder) : den each_chk noL (each_pre x b e c) = (codec_bits b).bind fun r => some (r, each_st x [] e c) := by kernel_rfl
noncomputable def each_body (σ : St) : Tr := rg (cFst eB) σ fun σ1 => rg (cFst eB2) σ1 fun σ2 => match σ2.look 19 with
  | .one (.bool b) => .bit b (rg (cThn eB3) σ2 leafR) (leafR σ2)
  | _ => .dead
set_option maxRecDepth 100000 in
theorem each_body_eq (x : D_api_Predictor) (l : List Bool) (e : Int) (c : D_api_Encoder) (b : Bool) : den stL noL (each_body (each_st8 x l e c b)) = (
    gd ((l ++ [b]).length * 1 ≤ 140737488355328) <|
    if ((Int.ofNat (l ++ [b]).length) == (2000 : Int)) = true then
      (codec_each_1 x (l ++ [b]) e c).bind fun r => some (each_st r.1 r.2.1 r.2.2.2.1 r.2.2.2.2)
    else some (each_st x (l ++ [b]) e c)) := by kernel_rfl
set_option maxRecDepth 100000 in
theorem each_end_eq (x : D_api_Predictor) (l : List Bool) (e : Int) (c : D_api_Encoder) : den stL noL (rg eR8 (each_st x l e c) (leafK [])) = (codec_each_1 x l e c).bind fun r => some (each_fin r.2.2.2.1 r.2.2.2.2) := by kernel_rfl
end each
/-! ### each: what it does -/
section each
theorem each_step_st {s s' : each_S} {b : Bool} (h : each_step s b = some s') : den stL noL (each_body (each_st8 s.1 s.2.1 s.2.2.1 s.2.2.2 b)) = some (each_st s'.1 s'.2.1 s'.2.2.1 s'.2.2.2) := by
  rw [each_body_eq]
  unfold each_step at h
  obtain ⟨h0, h⟩ := gd_some h
  rw [gd_pos h0]
  split at h
  · rename_i hc
    rw [if_pos hc]
    simp only [Option.bind_eq_some_iff] at h
    obtain ⟨r, hr, h⟩ := h
    simp only [Option.some.injEq] at h; subst h
    rw [hr]; rfl
  · rename_i hc
    rw [if_neg hc]
    simp only [Option.some.injEq] at h; subst h
    rfl
theorem each_noMap (x : D_api_Predictor) (l : List Bool) (e : Int) (c : D_api_Encoder) : ∀ k o, lkOf (each_st x l e c).heap k = some o → noMap o = true := by
  intro k o h
  unfold lkOf at h
  split at h
  · rename_i ob hl
    subst h
    have := lookL_mem hl
    simp only [List.mem_cons, Prod.mk.injEq, List.not_mem_nil, or_false, Option.some.injEq] at this
    rcases this with ⟨_, rfl⟩ | ⟨_, rfl⟩ | ⟨_, rfl⟩ | ⟨_, rfl⟩ | ⟨_, rfl⟩ | ⟨_, rfl⟩ | ⟨_, rfl⟩ <;> rfl
  · cases h
/-- An assignment of a temporary alone. -/
def isAsg : Code → Option (Nat × Nat)
  | .region _ ops false => match ops.toList with
    | [o] => match o.op, o.dst, o.guard with
      | .assign (.tmp t), some d, none => some (d, t)
      | _, _, _ => none
    | _ => none
  | _ => none
theorem asg_in {F : Fence} (hF : ∀ f, F.fn f) {n : Nat} {P : Program} {cd : Code} {d t : Nat} (h : isAsg cd = some (d, t)) {Kx : Act → World → Prop} {Q : Exit → Act → World → Prop} {a : Act} {w : World} (hk : Kx (a.put (some d) (a.eval (.tmp t))) w) :
    cd.wpIn F n P (Exit.then Kx Q) a w := by
  unfold isAsg at h
  split at h
  · rename_i id ops
    split at h
    · rename_i o ho
      split at h
      · rename_i t' d' h1 h2 h3
        simp only [Option.some.injEq, Prod.mk.injEq] at h
        obtain ⟨rfl, rfl⟩ := h
        have hops : ops = #[o] := by apply Array.ext'; simpa using ho
        subst hops
        refine wpIn_region ?_
        show wpOpsIn F n P #[o] _ [0] a w
        have hw : Region.wanted o (yielded #[o] a.tmps) = true := by unfold Region.wanted; rw [h3]
        have hg : (#[o] : Array Oper)[0]? = some o := rfl
        simp only [wpOpsIn, hg, hw, if_true]
        refine ⟨fun f _ => hF f, ?_⟩
        rw [Oper.semAt_eq _ _ _ (by rw [h1]; intro c hc; cases hc)]
        have : (execOp a.eval o).run P w = .ok (.value (a.eval (.tmp t'))) w := by simp [execOp, h1]
        rw [this]
        show Exit.then Kx Q .normal (a.put o.dst _) w
        rw [h2]; exact hk
      · cases h
    · cases h
  · cases h
/-- Where a function starts. -/
theorem start_rel {P : Program} {GT : GTab} {f : Nat} {fn : Func} {args : List AV} {pre : List (Nat × Obj)} {w : World} {F G : Nat → Prop} {K : Kn} {vs : List Value} (hf : P.funcs[f]? = some fn) (hnt : args.length ≤ fn.ntmps) (hp : pre.all (fun p => decide (p.1 < 8)) = true)
    (hglob : Glob P GT w) (hinv : Inv ⟨w, F, G, (ngOf GT), []⟩ (lookL pre) K w) (hK : ∀ l, lookL pre l = none → K l = none) (hargs : VRdL w (NN ⟨w, F, G, (ngOf GT), []⟩ (lookL pre) K w) K args vs) :
    RelS ⟨w, F, G, (ngOf GT), []⟩ P GT (tmpsOf P f) (st0 args pre) K { tmps := vs.toArray ++ Array.replicate (fn.ntmps - vs.toArray.size) undef, defers := [] } w := by
  have hlen := hargs.len
  have htf : tmpsOf P f = fn.ntmps := by simp [tmpsOf, hf]
  rw [htf]
  refine ⟨⟨?_, fun t => ?_, ?_, rfl, hglob.1, rfl, hglob⟩, fun l hl => ?_⟩
  · show Inv _ (lkOf (alive pre)) K w
    rw [lkOf_alive]; exact hinv
  · show TVRd w (NN _ (lkOf (alive pre)) K w) K _ _
    rw [lkOf_alive]
    simp only [St.look, st0, lookL_argT, Nat.zero_le, if_true, Nat.sub_zero]
    cases ht : args[t]? with
    | none => trivial
    | some v =>
      simp only [Option.map_some]
      obtain ⟨u, hu, hr⟩ := hargs.get ht
      have : ({ tmps := vs.toArray ++ Array.replicate (fn.ntmps - vs.toArray.size) undef, defers := [] } : Act).eval (.tmp t) = u := by
        have htl : t < vs.length := (List.getElem?_eq_some_iff.1 hu).1
        simp only [Act.eval, Array.getD_eq_getD_getElem?]
        rw [Array.getElem?_append_left (by simpa using htl)]
        simp [hu]
      rw [this]; exact hr
  · simp only [Array.size_append, List.size_toArray, Array.size_replicate]
    omega
  · refine hK l (lookL_none (fun hm => ?_))
    obtain ⟨p, h1, h2⟩ := List.mem_map.1 hm
    have := List.all_eq_true.1 hp p h1
    simp only [decide_eq_true_eq] at this
    have h15 : (st0 args pre).next ≤ l := hl
    have : (st0 args pre).next = 8 := rfl
    omega
theorem leafK_some {ts : List Nat} {σ σ' : St} (h : den stL noL (leafK ts σ) = some σ') : keepSt σ ts true true = some σ' := by
  unfold leafK at h
  split at h
  · rename_i σ1 h1
    simp only [lf0, den, stL, Option.some.injEq] at h
    subst h; exact h1
  · cases h
theorem leafR_some {σ σ' : St} (h : den stL noL (leafR σ) = some σ') : keepSt σ [6, 7] true true = some σ' ∧ newOf (renSt σ [6, 7] true) 8 = some 8 ∧ newOf (renSt σ [6, 7] true) 9 = some 9 := by
  unfold leafR at h
  split at h
  · rename_i hc
    simp only [Bool.and_eq_true, beq_iff_eq] at hc
    exact ⟨leafK_some h, hc⟩
  · cases h
variable {c0 : Cx}
/-- What a round leaves. -/
def RoundPost (c0 : Cx) (s s' : each_S) (K : Kn) (a : Act) (W W' : World) : Prop :=
  KeepsOthers W W' ∧ (∀ b, NN c0 (lkOf (each_st s.1 s.2.1 s.2.2.1 s.2.2.2).heap) K W false b → W'.heap[b]? = W.heap[b]?) ∧
  ∃ K', RelS c0 Tryz.prog GT (tmpsOf Tryz.prog 43) (each_st s'.1 s'.2.1 s'.2.2.1 s'.2.2.2) K' a W' ∧ (∀ l, l < 8 → ∀ gh, K l = some gh → K' l = some gh) ∧
    ∀ b, NN c0 (lkOf (each_st s.1 s.2.1 s.2.2.1 s.2.2.2).heap) K W false b → NN c0 (lkOf (each_st s'.1 s'.2.1 s'.2.2.1 s'.2.2.2).heap) K' W' false b
theorem each_fin_round {s s' : each_S} {b : Bool} {K K2 : Kn} {a a1 a2 : Act} {W W' : World} {σ2 : St} (R0 : RelS c0 Tryz.prog GT (tmpsOf Tryz.prog 43) (each_st s.1 s.2.1 s.2.2.1 s.2.2.2) K a W)
    (R8 : RelS c0 Tryz.prog GT (tmpsOf Tryz.prog 43) (each_st8 s.1 s.2.1 s.2.2.1 s.2.2.2 b) K a1 W) (hG : ∀ b, c0.G b → liveAt (lkOf (each_st s.1 s.2.1 s.2.2.1 s.2.2.2).heap) K b)
    (h : den stL noL (leafR σ2) = some (each_st s'.1 s'.2.1 s'.2.2.1 s'.2.2.2)) (hsz : W.heap.size ≤ W'.heap.size) (R2 : RelS c0 Tryz.prog GT (tmpsOf Tryz.prog 43) σ2 K2 a2 W')
    (hk : KeepK W W' (NN c0 (lkOf (each_st8 s.1 s.2.1 s.2.2.1 s.2.2.2 b).heap) K W) (NN c0 (lkOf σ2.heap) K2 W') K K2) : RoundPost c0 s s' K a W W' := by
  obtain ⟨h1, h2, h3⟩ := leafR_some h
  obtain ⟨K', R', g1, g2, g3, _⟩ := R2.keepSt h1
  refine ⟨hk.others R8 R2 (each_noMap _ _ _ _) hG hsz, fun b hb => ((hk.n false).k b hb).2, K', ?_, fun l hl gh hgh => ?_, fun b hb => g2 b ((hk.n false).k b hb).1⟩
  · have ha : a.tmps.size = a2.tmps.size := R0.rel.size.trans R2.rel.size.symm
    refine R'.act (σ' := each_st s'.1 s'.2.1 s'.2.2.1 s'.2.2.2) rfl rfl ha (R0.rel.defers.trans R2.rel.defers.symm) (fun t => ?_)
    have h0 := R0.rel.tmps t
    simp only [St.look, lookL] at h0 ⊢
    by_cases h6 : 6 = t
    · subst h6
      simp only [if_true] at h0 ⊢
      obtain ⟨gh, pl, po, k1, k2⟩ := h0
      exact ⟨gh, pl, po, (g3 8 8 h2).trans (hk.k 8 gh k1), k2⟩
    · simp only [h6, if_false] at h0 ⊢
      by_cases h7 : 7 = t
      · subst h7
        simp only [if_true] at h0 ⊢
        obtain ⟨sh, pl, k1, k2⟩ := h0
        exact ⟨sh, pl, (g3 9 9 h3).trans (hk.k 9 _ k1), k2⟩
      · simp only [h7, if_false]
        trivial
  · rw [g1 l hl]; exact hk.k l gh hgh
/-- One round. -/
theorem each_round {l n : Nat} {s s' : each_S} {b : Bool} (hstep : each_step s b = some s') {K : Kn} {a a1 : Act} {W : World} (R0 : RelS c0 Tryz.prog GT (tmpsOf Tryz.prog 43) (each_st s.1 s.2.1 s.2.2.1 s.2.2.2) K a W)
    (R8 : RelS c0 Tryz.prog GT (tmpsOf Tryz.prog 43) (each_st8 s.1 s.2.1 s.2.2.1 s.2.2.2 b) K a1 W) (hG : ∀ b, c0.G b → liveAt (lkOf (each_st s.1 s.2.1 s.2.2.1 s.2.2.2).heap) K b)
    {Q : Exit → Act → World → Prop} (hQ : ∀ a' W', RoundPost c0 s s' K a W W' → Q .normal a' W') : (rfB eRF).wpIn (Fence.wide.inRound l) n Tryz.prog Q a1 W := by
  have h0 := each_step_st hstep
  unfold each_body at h0
  refine blockC_in (by kernel_rfl) ?_
  refine seqC_in (by kernel_rfl) ?_
  refine regC_in (fun _ => trivial) rfl wide_in (fun f hf => by cases hf) (by kernel_rfl) h0 R8 ?_
  intro σ1 K1 a2 W1 h1 R1 z1 k1
  show Code.wpIn _ _ _ (cSnd (cIn (rfB eRF))) _ a2 W1
  refine seqC_in (by kernel_rfl) ?_
  refine regC_in (fun _ => trivial) rfl wide_in (fun f hf => by cases hf) (by kernel_rfl) h1 R1 ?_
  intro σ2 K2 a3 W2 h2 R2 z2 k2
  show Code.wpIn _ _ _ (cSnd (cSnd (cIn (rfB eRF)))) _ a3 W2
  split at h2
  · rename_i bv hbv
    have he : a3.eval (condO (cSnd (cSnd (cIn (rfB eRF))))) = .bool bv := by
      have h19 : condO (cSnd (cSnd (cIn (rfB eRF)))) = .tmp 19 := by kernel_rfl
      rw [h19]
      have := R2.rel.tmps 19
      rw [hbv] at this
      exact this
    refine condC_in (by kernel_rfl) he ?_
    simp only [den] at h2
    by_cases hb : bv = true
    · subst hb
      simp only [if_true] at h2 ⊢
      refine regC_in (fun _ => trivial) rfl wide_in (fun f hf => by cases hf) (by kernel_rfl) h2 R2 ?_
      intro σ3 K3 a4 W3 h3 R3 z3 k3
      exact hQ _ _ (each_fin_round R0 R8 hG h3 (Nat.le_trans z1 (Nat.le_trans z2 z3)) R3 ((k1.trans k2).trans k3))
    · simp only [Bool.not_eq_true] at hb; subst hb
      simp only [Bool.false_eq_true, if_false] at h2 ⊢
      have hsk : cEls (cSnd (cSnd (cIn (rfB eRF)))) = .skip := by kernel_rfl
      rw [hsk]
      exact wpIn_skip (hQ _ _ (each_fin_round R0 R8 hG h2 (Nat.le_trans z1 z2) R2 (k1.trans k2)))
  · cases h2
theorem each_chk_some {s : Pos} {b : List Int} {σ' : St} (h : each_chk s = some (b, σ')) : s.st.look 11 = .one (.func 133 [64]) ∧ lkOf s.st.heap 64 = some (.box (.slice (.int .u8)) (.pure false b)) ∧ keepSt s.st [6, 7] true true = some σ' ∧ newOf (renSt s.st [6, 7] true) 64 = none := by
  unfold each_chk at h
  split at h
  · rename_i t y σ1 h1 h2 h3
    split at h
    · rename_i ht
      obtain ⟨rfl, hn⟩ := ht
      split at h
      · rename_i r hr
        simp only [Option.some.injEq, Prod.mk.injEq] at h
        obtain ⟨rfl, rfl⟩ := h
        simp only at hr
        subst hr
        exact ⟨h1, h2, h3, hn⟩
      · cases h
    · cases h
  · cases h
@[reducible] def each_a8 (a : Act) (b : Bool) : Act := ({ tmps := a.tmps.setIfInBounds 12 (.bool b), defers := [] } : Act).put (some 8) (.bool b)
theorem each_rel8 {s : each_S} {b : Bool} {K : Kn} {a : Act} {W : World} (hd : c0.df = []) (R0 : RelS c0 Tryz.prog GT (tmpsOf Tryz.prog 43) (each_st s.1 s.2.1 s.2.2.1 s.2.2.2) K a W) :
    RelS c0 Tryz.prog GT (tmpsOf Tryz.prog 43) (each_st8 s.1 s.2.1 s.2.2.1 s.2.2.2 b) K (each_a8 a b) W := by
  have hnt : tmpsOf Tryz.prog 43 = 24 := by kernel_rfl
  have hs : a.tmps.size = 24 := R0.rel.size.trans hnt
  refine R0.act rfl rfl (by simp [Act.put]) (by simp [Act.put]; rw [R0.rel.defers, hd]) (fun t => ?_)
  have h0 := R0.rel.tmps t
  simp only [St.look, lookL] at h0 ⊢
  by_cases h8 : 8 = t
  · subst h8
    simp only [if_true]
    show (each_a8 a b).eval (.tmp 8) = .bool b
    simp [Act.eval, Act.put, hs]
  · simp only [h8, if_false]
    by_cases h6 : 6 = t
    · subst h6
      simp only [if_true] at h0 ⊢
      have : (each_a8 a b).eval (.tmp 6) = a.eval (.tmp 6) := by simp [Act.eval, Act.put, hs]
      rw [this]; exact h0
    · simp only [h6, if_false] at h0 ⊢
      by_cases h7 : 7 = t
      · subst h7
        simp only [if_true] at h0 ⊢
        have : (each_a8 a b).eval (.tmp 7) = a.eval (.tmp 7) := by simp [Act.eval, Act.put, hs]
        rw [this]; exact h0
      · simp only [h7, if_false]
        trivial
end each
/-! ### each: the call -/
section each
theorem lk_fin (e : Int) (c : D_api_Encoder) : lkOf (each_fin e c).heap = lookL [(0, .box (.int .i64) e), (1, .box T_api_Encoder (inj false T_api_Encoder c))] := by
  rw [← lkOf_alive]; rfl
set_option maxRecDepth 100000 in
theorem each_call {x : D_api_Predictor} {b : List Int} {e : Int} {c : D_api_Encoder} {r : each_R} (h : codec_each x b e c = some r) :
    CallOK Tryz.prog GT 43 (each_as x b) (each_pr e c) (.tup []) [(0, .box (.int .i64) r.1), (1, .box T_api_Encoder (inj false T_api_Encoder r.2))] := by
  unfold codec_each at h
  obtain ⟨hlen, h⟩ := gd_some h
  obtain ⟨hall, h⟩ := gd_some h
  simp only [Option.bind_eq_some_iff] at h
  obtain ⟨sf, hsf, rf, hrf, h⟩ := h
  simp only [Option.some.injEq] at h; subst h
  intro w F G K0 vs hglob hinv hG hK hF hargs
  have hlenv := hargs.len
  have hfn : fnOk Tryz.prog 43 3 = true := by kernel_rfl
  have hf := Tryz.func43
  generalize hfg : Tryz.f43 = fn at hf
  clear hfg
  unfold fnOk at hfn
  rw [hf] at hfn
  simp only [Bool.and_eq_true, Bool.not_eq_true', decide_eq_true_eq] at hfn
  obtain ⟨⟨hbd, hnm⟩, hnt⟩ := hfn
  obtain ⟨body, hb⟩ := Option.isSome_iff_exists.1 hbd
  have hbody : body = eC0 := by simp [eC0, bodyOf, hf, hb]
  have hcf : (callFunc 43 vs.toArray).run Tryz.prog w = .ok (.enter 43 vs.toArray) w := by
    have hnm' : ¬ fn.name = "runtime.NumGoroutine" := by simpa using hnm
    simp [callFunc, hf, hnm', hb]
  unfold Called
  rw [hcf]
  have R0 := start_rel (args := each_as x b) (pre := each_pr e c) hf hnt rfl hglob hinv hK hargs
  refine (callsIn_wide (n := 3)).1 (callsIn_of_wp_marks hf hb trivial ?_ rfl)
  rw [hbody]
  have hG0 : ∀ q, (⟨w, F, G, (ngOf GT), []⟩ : Cx).G q → liveAt (lookL (each_pr e c)) K0 q := hG
  have hpost : ∀ v w', (∃ K', (∀ l gh, K0 l = some gh → K' l = some gh) ∧ Inv ⟨w, F, G, (ngOf GT), []⟩ (lookL [(0, .box (.int .i64) rf.2.2.2.1), (1, .box T_api_Encoder (inj false T_api_Encoder rf.2.2.2.2))]) K' w' ∧
      TVRd w' (NN ⟨w, F, G, (ngOf GT), []⟩ (lookL [(0, .box (.int .i64) rf.2.2.2.1), (1, .box T_api_Encoder (inj false T_api_Encoder rf.2.2.2.2))]) K' w') K' (.tup []) v) → (∃ v', Ending.returned v = .returned v' ∧ (∃ K', (∀ l gh, K0 l = some gh → K' l = some gh) ∧ Inv ⟨w, F, G, (ngOf GT), []⟩ (lookL [(0, .box (.int .i64) rf.2.2.2.1), (1, .box T_api_Encoder (inj false T_api_Encoder rf.2.2.2.2))]) K' w' ∧
      TVRd w' (NN ⟨w, F, G, (ngOf GT), []⟩ (lookL [(0, .box (.int .i64) rf.2.2.2.1), (1, .box T_api_Encoder (inj false T_api_Encoder rf.2.2.2.2))]) K' w') K' (.tup []) v')) := fun v w' hh => ⟨v, rfl, hh⟩
  have hK8 : ∀ l, 8 ≤ l → K0 l = none := by
    intro l hl
    refine hK l (lookL_none (fun hm => ?_))
    simp at hm; omega
  generalize hc0 : (⟨w, F, G, (ngOf GT), []⟩ : Cx) = c0 at R0 hG0 hpost
  have hdf : c0.df = [] := by rw [← hc0]
  have hw0 : c0.w0 = w := by rw [← hc0]
  have hpre := each_pre_eq x b e c
  rw [codec_bits_eq] at hpre
  simp only [Option.bind_some] at hpre
  unfold each_pre at hpre
  refine seqC_in (by kernel_rfl) ?_
  refine regC_in (fun _ => trivial) rfl wide_out (fun f hf => by cases hf) (by kernel_rfl) hpre R0 ?_
  intro σ1 K1 a1 W1 h1 R1 z1 k1
  show Code.wpIn _ _ _ eC1 _ a1 W1
  refine seqC_in (by kernel_rfl) ?_
  refine regC_in (fun _ => trivial) rfl wide_out (fun f hf => by cases hf) (by kernel_rfl) h1 R1 ?_
  intro σ2 K2 a2 W2 h2 R2 z2 k2
  show Code.wpIn _ _ _ eC2 _ a2 W2
  refine seqC_in (by kernel_rfl) ?_
  refine regC_in (fun _ => trivial) rfl wide_out (fun f hf => by cases hf) (by kernel_rfl) h2 R2 ?_
  intro σ3 K3 a3 W3 h3 R3 z3 k3
  show Code.wpIn _ _ _ eC3 _ a3 W3
  refine seqC_in (by kernel_rfl) ?_
  refine seqC_in (by kernel_rfl) ?_
  refine regC_in (fun _ => trivial) rfl wide_out (fun f hf => by cases hf) (by kernel_rfl) h3 R3 ?_
  intro σ4 K4 a4 W4 h4 R4 z4 k4
  show Code.wpIn _ _ _ (cSnd eC4) _ a4 W4
  refine blockC_in (by kernel_rfl) ?_
  have hrf0 : cIn (cSnd eC4) = .rangeFunc (rfF eRF) (rfP eRF) (rfA eRF) (rfB eRF) := rfC (c := eRF) (by kernel_rfl)
  rw [hrf0]
  simp only [lf0, den] at h4
  obtain ⟨l11, l64, hkp, hn64⟩ := each_chk_some h4
  simp only at l11 l64 hkp hn64
  have hsz4 : w.heap.size ≤ W4.heap.size := Nat.le_trans z1 (Nat.le_trans z2 (Nat.le_trans z3 z4))
  -- the iterator and its bytes
  have t11 := R4.rel.tmps 11
  rw [l11] at t11
  obtain ⟨us, t1, gh, p, ur, g1, g2, t2, t3⟩ := t11
  simp only [capsRd] at t3
  subst t3; subst t2
  obtain ⟨gh', e1, e2, p', cs, e3, e4, e5⟩ := R4.rel.inv.objs 64 _ l64
  rw [g1] at e1; injection e1 with e1; subst e1
  rw [g2] at e3; injection e3 with e3; subst e3
  obtain ⟨A0, cap, rfl, hle, hbytes⟩ := e5
  have hBs : W4.cell? ⟨p.blk, p.ob, none⟩ = some (.slice A0 b.length cap) := by simpa using e4.cells 0 _ rfl
  have hpb := (R4.rel.inv.own 64 _ gh p l64 g1 (.inl g2)).1
  obtain ⟨K5, R5, q1, q2, q3, q4⟩ := R4.keepSt hkp
  have hNB : NN c0 (lkOf (each_st x [] e c).heap) K5 W4 false p.blk := q4 64 _ gh p hn64 l64 g1 (.inl g2)
  obtain ⟨bb, hH, hNb⟩ : ∃ bb, HoldsB W4 bb A0 b ∧ NN c0 (lkOf (each_st x [] e c).heap) K5 W4 false bb := by
    rcases hbytes with rfl | ⟨b', o, cl, hA, hN, hc, hcat⟩
    · exact ⟨p.blk, .inl rfl, hNB⟩
    · refine ⟨b', .inr ⟨o, hA, fun j hj => ?_⟩, q2 b' hN⟩
      have hcl := cat_nums_cells hcat
      refine hc j _ ?_
      rw [hcl, List.getElem?_map, List.getElem?_eq_getElem hj]; rfl
  have hK05 : ∀ l, l < 8 → ∀ g, K0 l = some g → K5 l = some g := fun l hl g hg => by rw [q1 l hl]; exact (((k1.trans k2).trans k3).trans k4).k l g hg
  have hG5 : ∀ (s : each_S) (K : Kn), (∀ l, l < 8 → ∀ g, K0 l = some g → K l = some g) → ∀ q, c0.G q → liveAt (lkOf (each_st s.1 s.2.1 s.2.2.1 s.2.2.2).heap) K q := by
    intro s K hk q hq
    obtain ⟨l, o, g, pp, h1, h2, h3, h4⟩ := hG0 q hq
    have hm := lookL_mem h1
    simp only [each_pr, List.mem_cons, Prod.mk.injEq, List.not_mem_nil, or_false] at hm
    rcases hm with ⟨rfl, _⟩ | ⟨rfl, _⟩
    · exact ⟨0, _, g, pp, rfl, hk 0 (by omega) g h2, h3, h4⟩
    · exact ⟨1, _, g, pp, rfl, hk 1 (by omega) g h2, h3, h4⟩
  have hps : rfP eRF = #[12] := by kernel_rfl
  refine wpIn_rangeFunc_ownF (α := Bool) rfl (by omega) (gf := 133) (lb := #[.pointer (some ⟨p.blk, p.ob, none⟩)]) ?hg trivial ?eg (encs := fun x : Bool => #[.bool x]) (Kp := KpM (fun q => q = p.blk ∨ q = bb)) (S := fun xs => xs = bitsL b) (Sp := fun _ => True) (N := 8 * b.length) (w0 := W4)
    (bits_stops (3 - 1) (by omega) p.blk p.ob bb cap A0 b hlen _ (.inl rfl) (.inr rfl) W4 hpb hNb.1 hBs hH) (fun h k => h.trans k) ?hKb (Below.refl _ _) ?hps
    (fun pre W => ∃ s K, each_run pre (x, [], e, c) = some s ∧ RelS c0 Tryz.prog GT (tmpsOf Tryz.prog 43) (each_st s.1 s.2.1 s.2.2.1 s.2.2.2) K a4 W ∧ (∀ l, l < 8 → ∀ g, K0 l = some g → K l = some g) ∧
      NN c0 (lkOf (each_st s.1 s.2.1 s.2.2.1 s.2.2.2).heap) K W false p.blk ∧ NN c0 (lkOf (each_st s.1 s.2.1 s.2.2.1 s.2.2.2).heap) K W false bb)
    (fun _ _ _ => False) ?hI (fun _ _ _ _ _ h _ _ => h) ?h0 (fun bit => each_a8 a4 bit) ?assign ?body ?done ?stop
  case hg =>
    have h11 : rfF eRF = .tmp 11 := by kernel_rfl
    rw [h11, t1]
  case eg => exact enters_of Tryz.func133 (by kernel_rfl) rfl
  case hKb =>
    intro W l o o' _ ho hoc _ q v _ hv
    exact cell_kept hv (grownBy_putObj' W l o') (fun r e => by cases e; exact ⟨o, ho, hoc⟩)
  case hps => intro x; rw [hps]; rfl
  case hI =>
    rintro pre W W' row ⟨s, K, hs, R, hk, n1, n2⟩ hg hr
    refine ⟨s, K, hs, R.abide hg (fun r e => ⟨?_, (hr r e).2⟩) (each_noMap _ _ _ _), hk, ⟨Nat.lt_of_lt_of_le n1.1 hg.size, n1.2⟩, ⟨Nat.lt_of_lt_of_le n2.1 hg.size, n2.2⟩⟩
    rw [hw0]
    exact Nat.le_trans hsz4 (hr r e).1
  case h0 => exact ⟨(x, [], e, c), K5, rfl, R5, hK05, hNB, hNb⟩
  case assign =>
    intro l bit W Kx hKx
    rw [hps]
    refine asg_in (fun _ => trivial) (d := 8) (t := 12) (by kernel_rfl) ?_
    have hsz : a4.tmps.size = 24 := R4.rel.size.trans (by kernel_rfl)
    have : ({ tmps := (#[12].zip #[Value.bool bit]).foldl (fun t (x : Nat × Value) => t.setIfInBounds x.1 x.2) a4.tmps, defers := [] } : Act).eval (.tmp 12) = .bool bit := by
      simp [Act.eval, hsz]
    rw [this]
    simpa using hKx
  case body =>
    rintro l pre bit W ⟨s, K, hs, R, hk, n1, n2⟩ hlt
    have hok := hall (pre ++ [bit]) (by simp; omega)
    rw [each_run_snoc, hs] at hok
    simp only [Option.bind_some] at hok
    obtain ⟨s', hstep⟩ := Option.isSome_iff_exists.1 hok
    refine each_round hstep R (each_rel8 hdf R) (hG5 s K hk) ?_
    rintro a' W' ⟨hko, hsame, K', R', hm, hn⟩
    refine ⟨hko, fun q v hq hv => ?_, s', K', by rw [each_run_snoc, hs]; exact hstep, R', fun l hl g hg => hm l hl g (hk l hl g hg), hn _ n1, hn _ n2⟩
    rw [World.cell?_of_block (a := q) (hsame q.block (by rcases hq with hq | hq <;> rw [hq] <;> assumption))]
    exact hv
  case stop => rintro D cd pre W _ _ h _; exact h.elim
  case done =>
    rintro D xs W hD rfl ⟨s, K, hs, R, hk, n1, n2⟩ hdef
    rw [hs] at hsf
    simp only [Option.some.injEq] at hsf; subst hsf
    have hend := each_end_eq s.1 s.2.1 s.2.2.1 s.2.2.2
    rw [hrf] at hend
    simp only [Option.bind_some] at hend
    have had : a4.defers = [] := R4.rel.defers.trans hdf
    rw [had]
    have Rd := R.df [{ target := .collected D, args := #[] }]
    show Code.wpIn _ _ _ eR8 _ _ W
    refine regC_in (fun _ => trivial) rfl wide_out (fun f hf => by cases hf) (by kernel_rfl) hend Rd ?_
    intro σ6 K6 a6 W6 h6 R6 z6 k6
    have hk6 := leafK_some h6
    obtain ⟨K7, R7, r1, _⟩ := R6.keepSt hk6
    have hD6 : W6.heap[D]? = some (.deferred (some [])) := (k6.others Rd R6 (each_noMap _ _ _ _) (hG5 s K hk) z6).same D _ hdef rfl
    show LeavesInM _ _ _ fn a6.tmps _ a6.defers .returning W6
    rw [R6.rel.defers]
    refine ⟨by simp, .inl ⟨D, _, rfl, run_takeDeferred hD6, ?_⟩⟩
    have R8 := R7.abide (grownBy_putObj' W6 D (.deferred none)) (fun r hr => by
      injection hr with hr; subst hr
      exact ⟨by show c0.w0.heap.size ≤ D; rw [hw0]; exact Nat.le_trans hsz4 hD, _, hD6, rfl⟩) (fun k o hk => by
      unfold lkOf at hk
      split at hk
      · rename_i ob hl
        subst hk
        have := lookL_mem hl
        simp only [List.mem_cons, Prod.mk.injEq, List.not_mem_nil, or_false, Option.some.injEq] at this
        rcases this with ⟨_, rfl⟩ | ⟨_, rfl⟩ <;> rfl
      · cases hk)
    have hrs : fn.results.toList = [] := by
      have : rsOf Tryz.prog 43 = [] := by kernel_rfl
      simpa [rsOf, hf] using this
    obtain ⟨v, hv1, hv2⟩ := resTV_rd R8 (fn := fn) (res := .tup []) (by rw [hrs]; rfl)
    refine ⟨v, hv1, hpost v _ ⟨K7, fun l g hg => ?_, ?_, ?_⟩⟩
    · by_cases hl : l < 8
      · rw [r1 l hl]; exact k6.k l g (hk l hl g hg)
      · rw [hK8 l (by omega)] at hg; cases hg
    · have := R8.rel.inv
      rw [lk_fin] at this
      have := this.df []
      rw [hc0] at *
      rw [← hdf] at this
      exact this
    · exact hv2
/-- As a summary. -/
noncomputable def codec_each_fn (avs : List AV) (pre : List (Nat × Obj)) : Option each_R :=
  match avs, pre with
  | [.agg t x, .sl t2 fr b, .func g [0, 1]], [(0, .box t3 e), (1, .box t4 c)] =>
    if h : t = T_api_Predictor ∧ t2 = .int .u8 ∧ fr = false ∧ g = 44 ∧ t3 = .int .i64 ∧ t4 = T_api_Encoder then
      match unj T_api_Predictor (h.1 ▸ x), unj T_api_Encoder (h.2.2.2.2.2 ▸ c) with
      | some x', some c' => if allFrA false T_api_Predictor (h.1 ▸ x) && allFrA false T_api_Encoder (h.2.2.2.2.2 ▸ c) then codec_each x' (h.2.1 ▸ b : List (pden (.int .u8))) (h.2.2.2.2.1 ▸ e : aden (.int .i64)) c' else none
      | _, _ => none
    else none
  | _, _ => none
def each_post (r : each_R) : List (Nat × Obj) := [(0, .box (.int .i64) r.1), (1, .box T_api_Encoder (inj false T_api_Encoder r.2))]
set_option maxRecDepth 100000 in
theorem codec_each_ok {avs : List AV} {pre : List (Nat × Obj)} {r : each_R} (h : codec_each_fn avs pre = some r) : CallOK Tryz.prog GT 43 avs pre (.tup []) (each_post r) := by
  unfold codec_each_fn at h
  split at h
  · rename_i t x t2 fr b g t3 e t4 c
    split at h
    · rename_i hh
      obtain ⟨rfl, rfl, rfl, rfl, rfl, rfl⟩ := hh
      split at h
      · rename_i x' c' hx hc
        split at h
        · rename_i hf
          simp only [Bool.and_eq_true] at hf
          have ex := inj_unj hx hf.1
          have ec := inj_unj hc hf.2
          simp only at ex ec h
          have := each_call h
          rw [← ex, ← ec]
          exact this
        · cases h
      · cases h
    · cases h
  · cases h
end each
end Go.Ab
