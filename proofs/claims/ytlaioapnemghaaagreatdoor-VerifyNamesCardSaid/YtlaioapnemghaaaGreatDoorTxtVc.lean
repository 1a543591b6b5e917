/-
  An abstract machine over the model's code and its soundness; what the functions compute, as plain functions (printed by a program of this repo's own, checked here by the kernel); plain laws of them: part 3. Helper text, no statement of the claim stands here.
-/
import Derived.Test.YtlaioapnemghaaaGreatDoorTxtVb
import Derived.Conc.LoneCalls
import Derived.Laws.Externs
import Derived.Lib.MakeNoZero
import Derived.WalkKit
import Derived.ProofKit
import Derived.OpenShut
import Derived.ShutString
import Derived.ChangeOld
import Derived.Below
import Derived.SizedLaws
import Derived.LaidMore
import Derived.RangeFuncFrom
import Derived.RangeFuncLeaves
import Derived.RangeFuncCalls
import Derived.OrdersIn
import Derived.Shelf.Vars
/-
  Channels of one goroutine: a send into a buffer with room, a receive from a buffer that holds something.
-/
set_option linter.unusedVariables false
set_option linter.unusedSimpArgs false
namespace Go.Ab
open Go Go.Conc
def CommDo (P : Program) (o : Oper) (ρ : Operand → Value) (w : World) (R : Value → World → Prop) : Prop :=
  (∃ ch v z cap buf s r, (execOp ρ o).run P w = .ok (.comm #[scase ch v z] true .send) w ∧ w.heap[ch]? = some (.chan cap buf false s r false) ∧ buf.size < cap ∧ R undef (w.setChan ch cap (buf.push v) false (s + 1) r false)) ∨
  ∃ ch z cap buf cl s r, (execOp ρ o).run P w = .ok (.comm #[rcase ch z] true (.recv false)) w ∧ w.heap[ch]? = some (.chan cap buf cl s r false) ∧ 0 < buf.size ∧ R (buf.getD 0 undef) (w.setChan ch cap (buf.extract 1 buf.size) cl s (r + 1) false)
theorem comm_step {P : Program} {ops : Array Oper} {i : Nat} {rest : List Nat} {o : Oper} {a : Act} {w : World} {R : Value → World → Prop} (ho : ops[i]? = some o) (hw : Region.wanted o (yielded ops a.tmps) = true) (h : CommDo P o a.eval w R) (b : Frame) (k : List Item) (cs : List Frame) :
    ∃ v w', R v w' ∧ step P (lone (b.at a (.inRegion ops (i :: rest) :: k)) cs w) = .next (lone (b.at (a.put o.dst v) (.inRegion ops rest :: k)) cs w') := by
  have hfin : ∀ v, (b.at a (.inRegion ops (i :: rest) :: k)).finish v = b.at (a.put o.dst v) (.inRegion ops rest :: k) := by
    intro v; rw [Frame.finish_at, ho]; rfl
  have hg := stepG_op (P := P) (b := b) (k := k) (cs := cs) (w := w) (rest := rest) ho hw
  rcases h with ⟨ch, v, z, cap, buf, s, r, h1, h2, h3, h4⟩ | ⟨ch, z, cap, buf, cl, s, r, h1, h2, h3, h4⟩
  · have hs : ∃ es, stepG P true (G (b.at a (.inRegion ops (i :: rest) :: k)) cs) w = .comm (G (b.at a (.inRegion ops (i :: rest) :: k)) cs) #[scase ch v z] true .send w es := by
      have hs := hg
      simp only [stepG.apply, Sem.runT_eq, h1] at hs
      exact ⟨_, hs⟩
    obtain ⟨es, hs⟩ := hs
    refine ⟨undef, _, h4, ?_⟩
    rw [← hfin]
    exact step_lone_send_room hs h2 h3
  · have hs : ∃ es, stepG P true (G (b.at a (.inRegion ops (i :: rest) :: k)) cs) w = .comm (G (b.at a (.inRegion ops (i :: rest) :: k)) cs) #[rcase ch z] true (.recv false) w es := by
      have hs := hg
      simp only [stepG.apply, Sem.runT_eq, h1] at hs
      exact ⟨_, hs⟩
    obtain ⟨es, hs⟩ := hs
    refine ⟨buf.getD 0 undef, _, h4, ?_⟩
    rw [← hfin]
    exact step_lone_recv_buf false hs h2 h3
theorem op_steps {P : Program} {ops : Array Oper} {i : Nat} {rest : List Nat} {o : Oper} {a : Act} {w : World} {next : Act → World → Prop} (ho : ops[i]? = some o)
    (h : if Region.wanted o (yielded ops a.tmps) then o.wp P a w next (fun _ _ _ => False) ∨ (o.asks P a w ∧ LetsOut (fun _ _ _ => False)) else next (a.put o.dst undef) w) (b : Frame) (k : List Item) (cs : List Frame) :
    ∃ a' w', next a' w' ∧ Steps P (lone (b.at a (.inRegion ops (i :: rest) :: k)) cs w) (lone (b.at a' (.inRegion ops rest :: k)) cs w') := by
  by_cases hw : Region.wanted o (yielded ops a.tmps) = true
  · rw [if_pos hw] at h
    rcases h with h | ⟨_, _, _, h⟩
    · have hfin : ∀ v, (b.at a (.inRegion ops (i :: rest) :: k)).finish v = b.at (a.put o.dst v) (.inRegion ops rest :: k) := by
        intro v; rw [Frame.finish_at, ho]; rfl
      have hg := stepG_op (P := P) (b := b) (k := k) (cs := cs) (w := w) (rest := rest) ho hw
      unfold Oper.wp at h
      cases hr : (execOp a.eval o).run P w with
      | halt x w' =>
        rw [hr] at h
        cases x <;> first | exact h.elim | (simp [Oper.upon] at h)
      | ok n w' =>
        rw [hr] at h
        cases n <;> simp only [Oper.upon] at h
        case value v =>
          refine ⟨_, _, h, .one (step_lone_go ?_)⟩
          rw [hg, ← hfin]; simp [stepG.apply, hr]
        case skip =>
          refine ⟨_, _, h, .one (step_lone_go ?_)⟩
          rw [hg, ← hfin]; simp [stepG.apply, hr]
        case enter f args =>
          obtain ⟨e, w2, fr, hR, hsteps, _, hleave⟩ := h (b.at a (.inRegion ops (i :: rest) :: k) :: cs)
          cases e with
          | returned v =>
            have henter : step P (lone (b.at a (.inRegion ops (i :: rest) :: k)) cs w) = .next (lone (Frame.enter P f args .normal) (b.at a (.inRegion ops (i :: rest) :: k) :: cs) w') :=
              step_lone_go (by rw [hg]; simp [stepG.apply, hr, Frame.at])
            refine ⟨_, _, hR, .head henter (Steps.trans hsteps (.one ?_))⟩
            rw [← hfin]; exact step_leave_returned hleave
          | panicked chain => exact hR.elim
          | outgrown => exact (hR.choose_spec.choose_spec).elim
        case row row args =>
          obtain ⟨v, w2, hR, hsteps⟩ := h (b.at a (.inRegion ops (i :: rest) :: k)) cs
          have henter : step P (lone (b.at a (.inRegion ops (i :: rest) :: k)) cs w) = .next (lone (Frame.ofRow P row args .normal) (b.at a (.inRegion ops (i :: rest) :: k) :: cs) w') :=
            step_lone_go (by rw [hg]; simp [stepG.apply, hr, Frame.at])
          refine ⟨_, _, hR, .head henter ?_⟩
          rw [← hfin]; exact hsteps
        case defer d =>
          refine ⟨_, _, h, .one (step_lone_go ?_)⟩
          have : ({ b.at a (.inRegion ops (i :: rest) :: k) with defers := d :: a.defers } : Frame).finish undef = b.at ({ a with defers := d :: a.defers }.put o.dst undef) (.inRegion ops rest :: k) := by
            have := Frame.finish_at b { a with defers := d :: a.defers } ops i rest k undef
            rw [ho] at this; exact this
          rw [hg]; simp only [stepG.apply, Sem.runT_eq, hr, GStep.bare_after]
          exact congrArg (fun fr => GStep.go { frame := fr, callers := cs, status := .running, dying := none } w') this
    · exact h.elim
  · rw [if_neg hw] at h
    have hs := step_op_skip (P := P) (b := b) (a := a) (k := k) (cs := cs) (w := w) (ops := ops) (i := i) (rest := rest) (by simp [ho]; simpa using hw)
    simp only [ho, Option.bind_some] at hs
    exact ⟨_, _, h, .one hs⟩
section
variable {c : Cx} {P : Program} {GT : GTab} {H lk : Look} {K : Kn} {w : World} {ev : Operand → TV} {ρ : Operand → Value} {nl : Nat}
theorem ChRd.snoc {w : World} {N : Nat → Prop} {e : Ty} {u : pden e} {cs : List Value} (hu : PRd w N e u cs) : ∀ {xs : List (pden e)} {vs : List Value}, ChRd w N e xs vs → ChRd w N e (xs ++ [u]) (vs ++ [valOf e cs])
  | [], _, h => by
    simp only [ChRd] at h; subst h
    exact ⟨cs, [], rfl, hu, rfl⟩
  | _ :: _, _, h => by
    obtain ⟨cs', r, rfl, h2, h3⟩ := h
    exact ⟨cs', _, rfl, h2, ChRd.snoc hu h3⟩
theorem ChRd.len {w : World} {N : Nat → Prop} {e : Ty} : ∀ {xs : List (pden e)} {vs : List Value}, ChRd w N e xs vs → vs.length = xs.length
  | [], _, h => by simp only [ChRd] at h; subst h; rfl
  | _ :: _, _, h => by
    obtain ⟨cs', r, rfl, h2, h3⟩ := h
    rw [List.length_cons, ChRd.len h3, List.length_cons]
theorem setChan_same {w : World} {b cap : Nat} {buf : Array Value} {cl : Bool} {s r : Nat} : (w.setChan b cap buf cl s r false).os = w.os ∧ (w.setChan b cap buf cl s r false).tape = w.tape ∧ (w.setChan b cap buf cl s r false).output = w.output ∧ (w.setChan b cap buf cl s r false).heap.size = w.heap.size ∧ ∀ k, k ≠ b → (w.setChan b cap buf cl s r false).heap[k]? = w.heap[k]? :=
  ⟨rfl, rfl, rfl, size_setChan .., fun k hk => by simp only [World.setChan]; rw [Array.getElem?_setIfInBounds_ne (Ne.symm hk)]⟩
theorem comm_sound (A : At c P GT H lk K w ev ρ nl) {o : Oper} {out : Out} (h : commOut P ev lk o.op = some out) (hc : allP out.conds) : CommDo P o ρ w (Lands c H K w nl out) := by
  unfold commOut at h
  split at h
  · rename_i x y ho
    split at h
    · rename_i l v hx hv
      split at h
      · rename_i e fr cap xs hlk
        split at h
        · rename_i z hz
          split at h
          · rename_i u ls f hab
            split at h
            · cases h
            · rename_i hnl
              simp only [List.contains_eq_mem, decide_eq_true_eq] at hnl
              simp only [Option.some.injEq] at h; subst h
              obtain ⟨sh, pl, k1, k2⟩ := A.one hx
              obtain ⟨z1, z2⟩ := ofAV_rd (A.one hv) hz
              have hl := A.sub _ _ hlk
              obtain ⟨gh, hK, hgs, p, buf, s, r, hgp, hb, hC⟩ := A.inv.objs _ _ hl
              rw [k1] at hK
              injection hK with hK; subst hK
              injection hgp with hgp; subst hgp
              simp only at hgs; subst hgs
              have hlt : pl.blk < w.heap.size := (A.inv.own l _ _ pl hl k1 (.inl rfl)).1
              have hlen := hC.len
              have S1 := Stp.kill A.inv nl ls
              have hl1 : updL H (Ab.kill ls) l = some (.chan e fr cap xs false) := by
                simp only [updL]
                cases hd : lookL (Ab.kill ls) l with
                | none => exact hl
                | some x => exact absurd (look_kill0 hd) hnl
              have hu : PRd w (NN c (updL H (Ab.kill ls)) K w f) e u (ρ y).cells.toList := absorb_rd A.inv A.sub (L := ls) hab z1 (fun l hl => hl)
              have hC1 : ChRd w (NN c (updL H (Ab.kill ls)) K w fr) e xs buf.toList := hC.keep ⟨fun b hb => ⟨hb.killed, rfl⟩⟩
              have low : ∀ f g : Bool, ∀ b, NN c (updL H (Ab.kill ls)) K w f b → NN c (updL H (Ab.kill ls)) K w (f && g) b := fun f g b hb => by
                cases f <;> cases g <;> first | exact hb | exact NN.low b hb
              have hC2 : ChRd w (NN c (updL H (Ab.kill ls)) K w (fr && f)) e (xs ++ [u]) (buf.push (ρ y)).toList := by
                rw [Array.toList_push]
                have h1 : ChRd w (NN c (updL H (Ab.kill ls)) K w (fr && f)) e xs buf.toList := hC1.keep ⟨fun b hb => ⟨low _ _ b hb, rfl⟩⟩
                have h2 : PRd w (NN c (updL H (Ab.kill ls)) K w (fr && f)) e u (ρ y).cells.toList := hu.keep ⟨fun b hb => ⟨by rw [Bool.and_comm]; exact low _ _ b hb, rfl⟩⟩
                have h3 := ChRd.snoc h2 h1
                rw [← z2] at h3
                exact h3
              have S2 := Stp.write (w' := w.setChan pl.blk cap (buf.push (ρ y)) false (s + 1) r false) S1.inv nl l _ (.chan e (fr && f) cap (xs ++ [u]) false) ⟨.chan e cap, some pl⟩ pl hl1 k1 (.inl rfl) setChan_same
                (fun N' K' hNlow hk => ⟨rfl, pl, buf.push (ρ y), s + 1, r, rfl, heap_setChan _ _ _ _ _ _ _ _ hlt, hC2.keep (hk.n _)⟩)
              have hroom : xs.length < cap := hc.1
              refine .inl ⟨pl.blk, ρ y, .tuple #[], cap, buf, s, r, ?_, hb, by rw [← Array.length_toList, hlen]; exact hroom, ⟨K, S1.trans S2, trivial⟩⟩
              simp only [execOp, ho, k2]
              rfl
          · cases h
        · cases h
      · cases h
    · cases h
  · rename_i T x ho
    split at h
    · rename_i l e' E hx hT
      split at h
      · rename_i e fr cap xs cl hlk
        split at h
        · rename_i hz
          simp only [Option.some.injEq] at h; subst h
          obtain ⟨sh, pl, k1, k2⟩ := A.one hx
          have hl := A.sub _ _ hlk
          obtain ⟨gh, hK, hgs, p, buf, s, r, hgp, hb, hC⟩ := A.inv.objs _ _ hl
          rw [k1] at hK
          injection hK with hK; subst hK
          injection hgp with hgp; subst hgp
          simp only at hgs; subst hgs
          have hlt : pl.blk < w.heap.size := (A.inv.own l _ _ pl hl k1 (.inl rfl)).1
          have hsome : 0 < xs.length := hc.1
          cases xs with
          | nil => simp at hsome
          | cons u xs =>
            obtain ⟨cs, rest, hbuf, hu, hr⟩ := hC
            have hbl : 0 < buf.size := by rw [← Array.length_toList, hbuf]; simp
            have hd : (buf.extract 1 buf.size).toList = rest := by
              rw [Array.toList_extract, hbuf, List.extract_eq_take_drop, List.drop_succ_cons, List.drop_zero, List.take_of_length_le]
              rw [← Array.length_toList, hbuf]; simp
            have hg0 : buf.getD 0 undef = valOf e cs := by
              rw [Array.getD_eq_getD_getElem?, ← Array.getElem?_toList, hbuf]; rfl
            obtain ⟨d, hdT, hE⟩ := elemChan_some hT
            obtain ⟨zv, z1, _⟩ := zeroOk_run (P := P) (w := w) hz
            have S := Stp.write (w' := w.setChan pl.blk cap (buf.extract 1 buf.size) cl s (r + 1) false) A.inv nl l _ (.chan e fr cap xs cl) ⟨.chan e cap, some pl⟩ pl hl k1 (.inl rfl) setChan_same
              (fun N' K' hNlow hk => ⟨rfl, pl, buf.extract 1 buf.size, s, r + 1, rfl, heap_setChan _ _ _ _ _ _ _ _ hlt, by rw [hd]; exact hr.keep (hk.n _)⟩)
            refine .inr ⟨pl.blk, zv, cap, buf, cl, s, r, ?_, hb, hbl, ⟨K, S, ?_⟩⟩
            · simp only [execOp, ho, k2, Sem.run_bind, run_underlying hdT, Result.andThen_ok, z1]
              rfl
            · have h2 : ARd (w.setChan pl.blk cap (buf.extract 1 buf.size) cl s (r + 1) false) (NN c (updL H [(l, some (.chan e fr cap xs cl))]) K (w.setChan pl.blk cap (buf.extract 1 buf.size) cl s (r + 1) false)) K e (inj fr e u) cs :=
                (inj_rd (K := K) NN.low fr hu).keep S.keep
              rw [hg0]
              exact toAV_rd h2
        · cases h
      · cases h
    · cases h
  · cases h
end
end Go.Ab

/-
  A state brought into its form: what is no longer needed is let go, rows and boxes get their names.
-/
set_option linter.unusedVariables false
set_option linter.unusedSimpArgs false
namespace Go.Ab
open Go
def cFst : Code → Code
  | .seq a _ => a
  | c => c
def cSnd : Code → Code
  | .seq _ b => b
  | c => c
def cIn : Code → Code
  | .block _ b => b
  | .loop b => b
  | .scope b => b
  | c => c
def bodyOf (P : Program) (f : Nat) : Code := match P.funcs[f]? with
  | some fn => match fn.body with
    | some c => c
    | none => .skip
  | none => .skip
def tmpsOf (P : Program) (f : Nat) : Nat := match P.funcs[f]? with
  | some fn => fn.ntmps
  | none => 0
section
variable {P : Program} {GT : GTab} {nt : Nat} {c : Cx} {H lk : Look} {K K' : Kn} {w : World} {ren : List (Nat × Nat)} {lo : Bool} {N' : Bool → Nat → Prop}
theorem keepTs_look {σ : St} : ∀ {ts : List Nat} {l : List (Nat × TV)} {t : Nat} {v : TV}, keepTs σ ren lo ts = some l → lookL l t = some v → keepTV (lkOf σ.heap) ren lo (σ.look t) = some v
  | [], l, t, v, h, hl => by simp only [keepTs, Option.some.injEq] at h; subst h; cases hl
  | a :: r, l, t, v, h, hl => by
    simp only [keepTs] at h
    split at h
    · rename_i x vs e1 e2
      simp only [Option.some.injEq] at h; subst h
      simp only [lookL] at hl
      split at hl
      · rename_i e; subst e; simp only [Option.some.injEq] at hl; subst hl; exact e1
      · exact keepTs_look e2 hl
    · cases h
theorem ren_old {n n' o : Nat} : ∀ {ren : List (Nat × Nat)}, nodup (ren.map (·.2)) = true → (n, o) ∈ ren → (n', o) ∈ ren → n = n'
  | [], _, h, _ => by cases h
  | (a, b) :: r, hn, h, h' => by
    simp only [List.map_cons] at hn
    obtain ⟨h1, h2⟩ := nodup_cons hn
    rcases List.mem_cons.1 h with e | h3
    · injection e with e1 e2; subst e1; subst e2
      rcases List.mem_cons.1 h' with e' | h4
      · injection e' with e1 _; exact e1.symm
      · exact (h1 (List.mem_map.2 ⟨_, h4, rfl⟩)).elim
    · rcases List.mem_cons.1 h' with e' | h4
      · injection e' with e1 e2; subst e1; subst e2
        exact (h1 (List.mem_map.2 ⟨_, h3, rfl⟩)).elim
      · exact ren_old h2 h3 h4
theorem keep_core {σ : St} {nx : Nat} {hl0 : List (Nat × Option Obj)} {a : Act} (R : RelS c P GT nt σ K a w) (hok : renOk ren nx = true) (e2 : keepHs (lkOf σ.heap) ren lo ren = some hl0) :
    ∃ K' : Kn, KeepX c (lkOf σ.heap) K K' w ren lo (fun _ => True) (NN c (lkOf hl0) K' w) ∧ Inv c (lkOf hl0) K' w ∧ (∀ l, l < 8 → K' l = K l) ∧ (∀ l, nx ≤ l → K' l = none) := by
  simp only [renOk, Bool.and_eq_true, List.all_eq_true, decide_eq_true_eq, Bool.or_eq_true, beq_iff_eq] at hok
  obtain ⟨⟨⟨h1, h2⟩, h3⟩, h8⟩ := hok
  let K' : Kn := fun l => if l < 8 then K l else match lookL ren l with
    | some o => K o
    | none => none
  have hK' : ∀ n o, (n, o) ∈ ren → K' n = K o := by
    intro n o hm
    have hl := nodup_look h1 hm
    have := (h3 _ hm).2
    simp only [K']
    split
    · rename_i hn
      rcases this with ⟨a1, _⟩ | a1
      · omega
      · simp only at a1; rw [a1]
    · rw [hl]
  have hO : ∀ n o, lkOf hl0 n = some o → ∃ m o', (n, m) ∈ ren ∧ lkOf σ.heap m = some o' ∧ keepO (lkOf σ.heap) ren lo o' = some o := by
    intro n o hl
    unfold lkOf at hl
    split at hl
    · rename_i x hx
      obtain ⟨m, o1, o2, g1, g2, g3, g4⟩ := keepHs_look e2 hx
      subst hl
      injection g4 with g4; subst g4
      exact ⟨m, o1, g1, g2, g3⟩
    · cases hl
  have hlive : ∀ b, liveAt (lkOf hl0) K' b → ∃ l o gh p, (∃ n, (n, l) ∈ ren) ∧ lkOf σ.heap l = some o ∧ K l = some gh ∧ Has gh p ∧ p.blk = b := by
    rintro b ⟨l, o, gh, p, q1, q2, q3, q4⟩
    obtain ⟨m, o', m1, m2, m3⟩ := hO l o q1
    rw [hK' l m m1] at q2
    exact ⟨m, o', gh, p, ⟨l, m1⟩, m2, q2, q3, q4⟩
  have X : KeepX c (lkOf σ.heap) K K' w ren lo (fun _ => True) (NN c (lkOf hl0) K' w) := by
    refine ⟨fun fr b hb => ?_, fun l n hn => hK' n l (newOf_mem hn), fun l o gh p _ hn q1 q2 q3 fr => ?_⟩
    · have h1 : NN c (lkOf hl0) K' w fr b := ⟨hb.1, fun hn => by
        obtain ⟨l, o, gh, p, _, q⟩ := hlive b hn
        exact hb.2.1 ⟨l, o, gh, p, q⟩, hb.2.2⟩
      cases fr <;> cases lo <;> first | exact h1 | exact NN.low b h1
    · have ho := R.rel.inv.own l o gh p q1 q2 q3
      refine ⟨ho.1, fun hn2 => ?_, ho.2.1.imp id .inl⟩
      obtain ⟨l', o', gh', p', ⟨n', m1⟩, m2, m3, m4, m5⟩ := hlive _ hn2
      have := R.rel.inv.inj l' l o' o gh' gh p' p m2 q1 m3 q2 m4 q3 m5
      subst this
      exact newOf_none hn n' m1
  refine ⟨K', X, ⟨fun l o hl => ?_, fun l o gh p q1 q2 q3 => ?_, fun l l' o o' gh gh' p p' q1 q2 q3 q4 q5 q6 q7 => ?_, R.rel.inv.fr⟩, fun l hl => by simp only [K', hl, if_true], fun l hl => ?_⟩
  · obtain ⟨m, o', m1, m2, m3⟩ := hO l o hl
    obtain ⟨gh, g1, g2⟩ := R.rel.inv.objs m o' m2
    exact ⟨gh, by rw [hK' l m m1]; exact g1, keepO_rd X R.rel.inv (fun _ _ h => h) (fun _ _ => trivial) m3 g2⟩
  · obtain ⟨m, o', m1, m2, m3⟩ := hO l o q1
    rw [hK' l m m1] at q2
    exact R.rel.inv.own m o' gh p m2 q2 q3
  · obtain ⟨m, o1, m1, m2, _⟩ := hO l o q1
    obtain ⟨m', o2, m3, m4, _⟩ := hO l' o' q2
    rw [hK' l m m1] at q3
    rw [hK' l' m' m3] at q4
    have e := R.rel.inv.inj m m' o1 o2 gh gh' p p' m2 m4 q3 q4 q5 q6 q7
    subst e
    exact ren_old h2 m1 m3
  · have hl8 : ¬ l < 8 := by omega
    simp only [K', hl8, if_false]
    cases hx : lookL ren l with
    | none => rfl
    | some o =>
      exfalso
      have := (h3 _ (lookL_mem hx)).1
      simp only at this
      omega
theorem keep_sound {σ σ' : St} {ts : List Nat} {nx : Nat} (h : σ.keep ts ren nx lo = some σ') (todo : List Item) : Reach P GT nt ⟨todo, σ⟩ ⟨todo, σ'⟩ := by
  intro c K a w b cs R
  unfold St.keep at h
  split at h
  · rename_i hok
    split at h
    · rename_i tl hl0 e1 e2
      simp only [Option.some.injEq] at h; subst h
      obtain ⟨K', X, hI, h8, hx⟩ := keep_core R hok e2
      refine ⟨K', a, w, ⟨⟨hI, fun t => ?_, R.rel.size, R.rel.defers, R.rel.ng, R.rel.gng, R.rel.glob⟩, fun l hl => hx l hl⟩, fun l gh hl hkl => by rw [h8 l hl]; exact hkl, Steps.refl _ _⟩
      show TVRd w (NN c (lkOf hl0) K' w) K' (St.look ⟨tl, hl0, nx⟩ t) _
      unfold St.look
      split
      · rename_i v hv
        exact keepTV_rd X R.rel.inv (fun _ _ h => h) (fun _ _ => trivial) (keepTs_look e1 hv) (R.rel.tmps t)
      · trivial
    · cases h
  · cases h
def isRet : List Item → Bool
  | [] => true
  | .code .ret :: _ => true
  | _ => false
theorem isRet_spec {todo : List Item} (h : isRet todo = true) : todo = [] ∨ ∃ k, todo = .code .ret :: k := by
  unfold isRet at h
  split at h
  · exact .inl rfl
  · exact .inr ⟨_, rfl⟩
  · cases h
def AVle (a b : AV) : Prop := ∀ (w : World) (N : Bool → Nat → Prop) (K : Kn) (v : Value), VRd w N K a v → VRd w N K b v
theorem AVle.refl (a : AV) : AVle a a := fun _ _ _ _ h => h
def AVsLe : List AV → List AV → Prop
  | [], [] => True
  | a :: as, b :: bs => AVle a b ∧ AVsLe as bs
  | _, _ => False
theorem AVsLe.refl : ∀ (as : List AV), AVsLe as as
  | [] => trivial
  | a :: as => ⟨AVle.refl a, AVsLe.refl as⟩
theorem AVsLe.append : ∀ {a a' b b' : List AV}, AVsLe a a' → AVsLe b b' → AVsLe (a ++ b) (a' ++ b')
  | [], [], _, _, _, h => h
  | _ :: _, _ :: _, _, _, h, h' => ⟨h.1, h.2.append h'⟩
  | [], _ :: _, _, _, h, _ => h.elim
  | _ :: _, [], _, _, h, _ => h.elim
theorem AVsLe.rd {w : World} {N : Bool → Nat → Prop} {K : Kn} : ∀ {as bs : List AV} {vs : List Value}, AVsLe as bs → VRdL w N K as vs → VRdL w N K bs vs
  | [], [], _, _, h => h
  | a :: as, b :: bs, vs, h, hv => by
    obtain ⟨v, q, e, h1, h2⟩ := hv
    exact ⟨v, q, e, h.1 _ _ _ _ h1, h.2.rd h2⟩
  | [], _ :: _, _, h, _ => h.elim
  | _ :: _, [], _, h, _ => h.elim
def TVle : TV → TV → Prop
  | .one a, .one b => AVle a b
  | .tup as, .tup bs => AVsLe as bs
  | _, _ => False
theorem TVle.rd {w : World} {N : Bool → Nat → Prop} {K : Kn} {a b : TV} {v : Value} (h : TVle a b) (hv : TVRd w N K a v) : TVRd w N K b v := by
  cases a <;> cases b <;> first | exact h _ _ _ _ hv | exact h.elim | skip
  obtain ⟨vs, e, h1⟩ := hv
  exact ⟨vs, e, AVsLe.rd h h1⟩
def Ends (P : Program) (GT : GTab) (nt : Nat) (rs : List ResultVar) (s : Pos) (res : TV) (post : List (Nat × Obj)) : Prop :=
  ∀ (c : Cx) (K : Kn) (a : Act) (w : World) (b : Frame) (cs : List Frame), RelS c P GT nt s.st K a w →
    ∃ (s' : Pos) (res0 res1 : TV) (ren : List (Nat × Nat)) (nx : Nat) (lo : Bool) (K' : Kn) (a' : Act) (w' : World), RelS c P GT nt s'.st K' a' w' ∧ (∀ l gh, l < 8 → K l = some gh → K' l = some gh) ∧
      Steps P (lone (b.at a s.todo) cs w) (lone (b.at a' s'.todo) cs w') ∧ isRet s'.todo = true ∧ resTV P s'.st rs = some res0 ∧ renOk ren nx = true ∧ keepTV (lkOf s'.st.heap) ren lo res0 = some res1 ∧ TVle res1 res ∧ keepHs (lkOf s'.st.heap) ren lo ren = some (alive post)
def unalive : List (Nat × Option Obj) → Option (List (Nat × Obj))
  | [] => some []
  | (l, some o) :: r => match unalive r with
    | some os => some ((l, o) :: os)
    | none => none
  | _ => none
theorem unalive_spec : ∀ {h : List (Nat × Option Obj)} {os : List (Nat × Obj)}, unalive h = some os → h = alive os
  | [], os, h => by simp only [unalive, Option.some.injEq] at h; subst h; rfl
  | (l, some o) :: r, os, h => by
    simp only [unalive] at h
    split at h
    · rename_i os' e
      simp only [Option.some.injEq] at h; subst h
      rw [unalive_spec e]; rfl
    · cases h
  | (l, none) :: r, os, h => by simp [unalive] at h
theorem callOK_ends {f : Nat} {fn : Func} {body : Code} {args : List AV} {pre post : List (Nat × Obj)} {res : TV}
    (hf : P.funcs[f]? = some fn) (hb : fn.body = some body) (hnm : (fn.name == "runtime.NumGoroutine") = false) (hnt : args.length ≤ fn.ntmps) (hp : pre.all (fun p => decide (p.1 < 8)) = true)
    (h : Ends P GT fn.ntmps fn.results.toList ⟨[.code body], st0 args pre⟩ res post) : CallOK P GT f args pre res post := by
  intro w F G K vs hglob hinv hG hK hF hargs
  have hlen := hargs.len
  have hcf : (callFunc f vs.toArray).run P w = .ok (.enter f vs.toArray) w := by
    have hnm' : ¬ fn.name = "runtime.NumGoroutine" := by simpa using hnm
    simp [callFunc, hf, hnm', hb]
  unfold Called
  rw [hcf]
  intro cs
  let b : Frame := { (default : Frame) with fn := f, kind := .normal }
  let a0 : Act := { tmps := vs.toArray ++ Array.replicate (fn.ntmps - vs.toArray.size) undef, defers := [] }
  have henter : Frame.enter P f vs.toArray .normal = b.at a0 [.code body] := by
    simp [Frame.enter, Frame.at, hf, hb, b, a0]
  have hK8 : ∀ l, 8 ≤ l → K l = none := by
    intro l hl
    refine hK l (lookL_none (fun hm => ?_))
    obtain ⟨p, h1, h2⟩ := List.mem_map.1 hm
    have := List.all_eq_true.1 hp p h1
    simp only [decide_eq_true_eq] at this
    omega
  have R0 : RelS ⟨w, F, G, (ngOf GT), []⟩ P GT fn.ntmps (st0 args pre) K a0 w := by
    refine ⟨⟨?_, fun t => ?_, ?_, rfl, hglob.1, rfl, hglob⟩, hK8⟩
    · show Inv _ (lkOf (alive pre)) K w
      rw [lkOf_alive]; exact hinv
    · show TVRd w (NN _ (lkOf (alive pre)) K w) K _ _
      rw [lkOf_alive]
      simp only [St.look, st0, lookL_argT, Nat.zero_le, if_true, Nat.sub_zero]
      cases ht : args[t]? with
      | none => trivial
      | some v =>
        simp only [Option.map_some]
        obtain ⟨u, hu, hr⟩ := hargs.get ht
        have : a0.eval (.tmp t) = u := by
          have htl : t < vs.length := (List.getElem?_eq_some_iff.1 hu).1
          simp only [Act.eval, a0, Array.getD_eq_getD_getElem?]
          rw [Array.getElem?_append_left (by simpa using htl)]
          simp [hu]
        rw [this]; exact hr
    · simp only [a0, Array.size_append, List.size_toArray, Array.size_replicate]
      omega
  obtain ⟨⟨todo, σ'⟩, res0, res1, ren, nx, lo, K1, a', w', R', hm', hst, ht, hres, hok, e1, ele, e2⟩ := h _ K a0 w b cs R0
  obtain ⟨v, hv1, hv2⟩ := resTV_rd R' hres
  obtain ⟨K2, X, hI, h8, hx⟩ := keep_core R' hok e2
  rw [lkOf_alive] at X hI
  rw [← henter] at hst
  have hR : ∃ v', Ending.returned v = .returned v' ∧ (∃ K', (∀ l gh, K l = some gh → K' l = some gh) ∧ Inv ⟨w, F, G, (ngOf GT), []⟩ (lookL post) K' w' ∧ TVRd w' (NN ⟨w, F, G, (ngOf GT), []⟩ (lookL post) K' w') K' res v') := by
    refine ⟨v, rfl, K2, fun l gh hl => ?_, hI, ele.rd (keepTV_rd X R'.rel.inv (fun _ _ h => h) (fun _ _ => trivial) e1 hv2)⟩
    by_cases hl8 : l < 8
    · rw [h8 l hl8]; exact hm' l gh hl8 hl
    · rw [hK8 l (by omega)] at hl; cases hl
  rcases isRet_spec ht with h0 | ⟨k, h0⟩
  · simp only at h0; subst h0
    exact ⟨.returned v, w', _, hR, Steps.trans hst (.one step_end), rfl, rfl, R'.rel.defers, rfl, fn, hf, hv1⟩
  · simp only at h0; subst h0
    exact ⟨.returned v, w', _, hR, Steps.trans hst (.one step_ret), rfl, rfl, R'.rel.defers, rfl, fn, hf, hv1⟩
def rsOf (P : Program) (f : Nat) : List ResultVar := match P.funcs[f]? with
  | some fn => fn.results.toList
  | none => []
def fnOk (P : Program) (f : Nat) (n : Nat) : Bool := match P.funcs[f]? with
  | some fn => fn.body.isSome && !(fn.name == "runtime.NumGoroutine") && decide (n ≤ fn.ntmps)
  | none => false
theorem callOK_of {f : Nat} {args : List AV} {pre post : List (Nat × Obj)} {res : TV} (hok : fnOk P f args.length = true) (hp : pre.all (fun p => decide (p.1 < 8)) = true)
    (h : Ends P GT (tmpsOf P f) (rsOf P f) ⟨[.code (bodyOf P f)], st0 args pre⟩ res post) : CallOK P GT f args pre res post := by
  unfold fnOk at hok
  split at hok
  · rename_i fn hf
    simp only [Bool.and_eq_true, Bool.not_eq_true', decide_eq_true_eq] at hok
    obtain ⟨⟨h1, h2⟩, h3⟩ := hok
    obtain ⟨body, hb⟩ := Option.isSome_iff_exists.1 h1
    refine callOK_ends hf hb h2 h3 hp ?_
    simpa [tmpsOf, rsOf, bodyOf, hf, hb] using h
  · cases hok
end
end Go.Ab

/-
  Plain functions that the printed functions use.
-/
set_option linter.unusedVariables false
namespace Go.Ab
open Go
def shrBy (k : IntKind) (a b : Int) : Int := a.fdiv (2 ^ (min b.toNat k.bits))
def shlBy (k : IntKind) (a b : Int) : Int := a * 2 ^ (min b.toNat k.bits)
def bitsAnd (k : IntKind) (x y : Int) : Int := k.wrap (BitVec.ofInt k.bits x &&& BitVec.ofInt k.bits y).toNat
def bitsOr (k : IntKind) (x y : Int) : Int := k.wrap (BitVec.ofInt k.bits x ||| BitVec.ofInt k.bits y).toNat
def bitsXor (k : IntKind) (x y : Int) : Int := k.wrap (BitVec.ofInt k.bits x ^^^ BitVec.ofInt k.bits y).toNat
end Go.Ab

/-
  Operations whose answer Go leaves open: a slice held against nil, new memory of whatever bytes.
-/
set_option linter.unusedVariables false
set_option linter.unusedSimpArgs false
namespace Go.Ab
open Go
structure AnyO : Type 1 where
  pre : List Prop
  R : Type
  p : R → Prop
  out : R → Out
def IsMNZ (P : Program) (f : Nat) : Prop := ∃ fn ps t e, P.funcs[f]? = some fn ∧ (fn.name == "runtime.NumGoroutine") = false ∧ fn.body.isNone = true ∧ Extern.findNext fn = none ∧
  Extern.find fn = some (Extern.BytealgMakeNoZero.makeNoZero ps #[t]) ∧ P.underlying t = some (.slice e)
def anyOut (P : Program) (mnz : List Nat) (ev : Operand → TV) (nl : Nat) (op : Op) : Option AnyO :=
  match op with
  | .binOp op T x y _ => match ev1 ev x, ev1 ev y with
    | some (.sl e fr xs), some .nil => if isSliceD P T then match op with
        | .eql => some ⟨[], Bool, fun b => b = true → xs = [], fun b => ⟨.one (.bool b), [], []⟩⟩
        | .neq => some ⟨[], Bool, fun b => b = false → xs = [], fun b => ⟨.one (.bool b), [], []⟩⟩
        | _ => none
      else none
    | some (.ref e l off len wh), some .nil => if isSliceD P T then match op with
        | .eql => some ⟨[], Bool, fun b => b = true → len = 0, fun b => ⟨.one (.bool b), [], []⟩⟩
        | .neq => some ⟨[], Bool, fun b => b = false → len = 0, fun b => ⟨.one (.bool b), [], []⟩⟩
        | _ => none
      else none
    | _, _ => none
  | .call { callee := .value f, args, argTypes := _ } => match ev1 ev f, evs ev args.toList with
    | some (.func f []), some [.int .i64 n] => if mnz.contains f then
        some ⟨[0 ≤ n, n ≤ 140737488355328], List Int, fun xs => xs.length = n.toNat, fun xs => ⟨.one (.ref (.int .u8) nl 0 xs.length true), [(nl, some (.row (.int .u8) true xs))], []⟩⟩
      else none
    | _, _ => none
  | _ => none
section
variable {c : Cx} {P : Program} {GT : GTab} {H lk : Look} {K : Kn} {w : World} {ev : Operand → TV} {ρ : Operand → Value} {nl : Nat}
theorem digits_ints : ∀ (n t : Nat) (acc : Array Value) (xs : List Int), acc.toList = xs.map (Value.int .u8) → ∃ ys : List Int, (Extern.BytealgMakeNoZero.digits n t acc).toList = ys.map (Value.int .u8)
  | 0, _, acc, xs, h => ⟨xs, h⟩
  | n + 1, t, acc, xs, h => by
    rw [Extern.BytealgMakeNoZero.digits]
    exact digits_ints n _ _ (xs ++ [Int.ofNat (t % 256)]) (by simp [h])
theorem run_mnz (ps : Array TypeId) (t e : TypeId) (ht : P.underlying t = some (.slice e)) (n : Nat) (hn : n ≤ 140737488355328) :
    ∃ (cs : Array Value) (ys : List Int), cs.toList = ys.map (Value.int .u8) ∧ (Extern.BytealgMakeNoZero.makeNoZero ps #[t] #[.int .i64 n]).run P w = .ok (.slice (some ⟨w.heap.size, 0, none⟩) n cs.size) (w.drew.drew.alloc (.cells cs e)) ∧ n ≤ cs.size := by
  have hdef : Extern.BytealgMakeNoZero.makeNoZero ps #[t] #[.int .i64 n] =
      (do
        let .slice elem ← underlying t | stuck "bytealg.MakeNoZero: slice type expected"
        if (n : Int) < 0 || (n : Int) > 2 ^ 48 then runtimePanic (.error "makeslice: len out of range")
        let cap ← choose (.appendCap (n : Int).toNat 0 elem)
        askRoom cap
        let bytes ← choose (.extern "internal/bytealg.MakeNoZero.bytes" 0)
        let a ← newRow elem (Extern.BytealgMakeNoZero.digits cap bytes #[])
        pure (.slice (some a) (n : Int).toNat cap)) := rfl
  obtain ⟨ys, hys⟩ := digits_ints (grownCap w n 0 e) ((Question.extern "internal/bytealg.MakeNoZero.bytes" 0).cut (w.tape (w.drawn + 1) (.extern "internal/bytealg.MakeNoZero.bytes" 0))) #[] [] rfl
  refine ⟨_, ys, hys, ?_, ?_⟩
  · rw [hdef]
    have h1 : ¬ (n : Int) < 0 := by omega
    have h2 : ¬ (281474976710656 : Int) < (n : Int) := by omega
    simp [run_underlying ht, h1, h2, Question.forced, newRow, Lib.size_digits, grownCap]
  · rw [Lib.size_digits]
    simpa using grownCap_ge w n 0 e
theorem any_sound (A : At c P GT H lk K w ev ρ nl) {mnz : List Nat} (hm : ∀ f ∈ mnz, IsMNZ P f) {o : Oper} {a : AnyO} (h : anyOut P mnz ev nl o.op = some a) (hc : allP a.pre) :
    Does P o ρ w (fun v w' => ∃ x, a.p x ∧ Lands c H K w nl (a.out x) v w') := by
  unfold anyOut at h
  split at h
  · rename_i op T x y T' ho
    have hnil : ∀ {n cp : Nat} {A0 : Option Addr} {q : Value}, VRd w (NN c H K w) K .nil (ρ y) → ρ x = .slice A0 n cp → isSliceD P T = true →
        (op = .eql → (execOp ρ o).run P w = .ok (.value (.bool A0.isNone)) w) ∧ (op = .neq → (execOp ρ o).run P w = .ok (.value (.bool (!A0.isNone))) w) := by
      intro n cp A0 q h2 h1 hd
      simp only [VRd] at h2
      obtain ⟨e', hd'⟩ := isSliceD_iff hd
      have heq := run_equalIn_slices 9999 (w := w) (a := A0) (n := n) (c := cp) hd'
      constructor
      · rintro rfl
        simp only [execOp, ho, h1, h2]
        rw [Sem.run_bind, Sem.run_bind, eqGuard_slices]
        simp only [binOp, Op.equal, Op.maxDepth, Sem.run_bind, heq, Result.andThen_ok, Sem.run_pure]
      · rintro rfl
        simp only [execOp, ho, h1, h2]
        rw [Sem.run_bind, Sem.run_bind, eqGuard_slices]
        simp only [binOp, Op.equal, Op.maxDepth, Sem.run_bind, heq, Result.andThen_ok, Sem.run_pure]
    split at h
    · rename_i e fr xs hx hy
      split at h
      · rename_i hd
        obtain ⟨A0, cap, e1, hl, hb⟩ := A.one hx
        simp only [List.cons.injEq, and_true] at e1
        have hk : A0.isNone = true → xs = [] := by
          intro hA
          rcases hb with hb | ⟨b, o', cl, e2, _⟩
          · exact hb
          · subst e2; cases hA
        split at h
        · simp only [Option.some.injEq] at h; subst h
          refine Does.value ((hnil (q := undef) (A.one hy) e1 hd).1 rfl) ⟨A0.isNone, hk, Lands.one A.inv rfl⟩
        · simp only [Option.some.injEq] at h; subst h
          refine Does.value ((hnil (q := undef) (A.one hy) e1 hd).2 rfl) ⟨!A0.isNone, fun hb => hk (by simpa using hb), Lands.one A.inv rfl⟩
        · cases h
      · cases h
    · rename_i e l off len wh hx hy
      split at h
      · rename_i hd
        have hr : ∃ A0 cp, ρ x = .slice A0 len cp ∧ (A0.isNone = true → len = 0) := by
          obtain ⟨n, pl, h1, h2, h3, h4⟩ := A.one hx
          cases pl with
          | none =>
            obtain ⟨e1, rfl⟩ := h4
            have : len = 0 := by omega
            subst this
            exact ⟨none, 0, e1, fun _ => rfl⟩
          | some p =>
            obtain ⟨o', cap, e1, _⟩ := h4
            exact ⟨_, cap, e1, fun hA => by cases hA⟩
        obtain ⟨A0, cp, e1, hk⟩ := hr
        split at h
        · simp only [Option.some.injEq] at h; subst h
          refine Does.value ((hnil (q := undef) (A.one hy) e1 hd).1 rfl) ⟨A0.isNone, hk, Lands.one A.inv rfl⟩
        · simp only [Option.some.injEq] at h; subst h
          refine Does.value ((hnil (q := undef) (A.one hy) e1 hd).2 rfl) ⟨!A0.isNone, fun hb => hk (by simpa using hb), Lands.one A.inv rfl⟩
        · cases h
      · cases h
    · cases h
  · rename_i f args ats ho
    split at h
    · rename_i g n hf hvs
      split at h
      · rename_i hg
        simp only [Option.some.injEq] at h; subst h
        obtain ⟨c0, c1, _⟩ := hc
        obtain ⟨fn, ps, t, e, g1, g2, g3, g4, g5, g6⟩ := hm g (by simpa using hg)
        obtain ⟨cvs, h1, h2⟩ := A.one hf
        simp only [capsRd] at h2; subst h2
        have hv := evs_rd A hvs
        obtain ⟨u, hu, hun⟩ := hv.one_inv
        simp only [VRd] at hun; subst hun
        obtain ⟨m, rfl⟩ := Int.eq_ofNat_of_zero_le c0
        obtain ⟨cs, ys, hcs, hrun, hle⟩ := run_mnz (P := P) (w := w) ps t e g6 m (by omega)
        have harr : (args.map ρ ++ #[]) = #[Value.int .i64 (m : Int)] := by
          apply Array.ext'; simp [hu]
        have hex : (execOp ρ o).run P w = (callFunc g #[Value.int .i64 (m : Int)]).run P w := by
          simp only [execOp, ho, resolve, h1, Deferred.ofValue, invoke, pure_bind]
          rw [← harr]
          simp
        rw [run_callFunc_extern g1 g2 g3 g4 g5, hrun] at hex
        refine Does.value hex ⟨ys.take m, ?_, ?_⟩
        · have hln : ys.length = cs.size := by rw [← Array.length_toList, hcs]; simp
          simp; omega
        · have hln : ys.length = cs.size := by rw [← Array.length_toList, hcs]; simp
          have hlt : (ys.take m).length = m := by simp; omega
          have hab := InBlk.new w.drew.drew cs e
          rw [hcs] at hab
          have hsp : ys.map (Value.int .u8) = (ys.take m).map (Value.int .u8) ++ (ys.drop m).map (Value.int .u8) := by rw [← List.map_append, List.take_append_drop]
          rw [hsp] at hab
          have hfn := A.fresh nl (Nat.le_refl _) (by omega)
          refine ⟨_, lands_row (w := w) (w' := w.drew.drew.alloc (.cells cs e)) A.inv A.ng ⟨Nat.le_refl _, by omega⟩ hfn (e := .int .u8) (fr := true) (xs := ys.take m) (p := ⟨w.heap.size, 0, cs.size⟩) (cs := (ys.take m).map (Value.int .u8)) (alloc_same w.drew.drew _) ⟨Nat.le_refl _, by rw [alloc_size]; exact Nat.lt_succ_self _⟩ hab.front (cat_nums _), ?_⟩
          show RefRd _ _ _ _ _ _ _
          rw [hlt]
          exact ref_new (p := ⟨w.heap.size, 0, cs.size⟩) rfl hle (.inr (by simp [Ty.sz]))
      · cases h
    · cases h
  · cases h
end
end Go.Ab

/-
  The forms of results: what a function returns, and leaves, as plain values.
-/
set_option linter.unusedVariables false
set_option linter.unusedSimpArgs false
namespace Go.Ab
open Go
inductive SF
  | pu | nw | kp (n : Nat)
inductive FI
  | val (t : Ty) (sf : List SF)
  | err (T : Nat) (k : IntKind)
  | box (j : Nat) (t : Ty) (sf : List SF)
  | row (j : Nat) (e : Ty)
  | map (j : Nat) (k v : Ty)
  | cmap (j n : Nat)
  | part (e : Ty)
  | cst (v : AV)
  | cfn (j f : Nat) (caps : List Nat)
  | clo (f : Nat) (t : Ty)
@[reducible] def FI.den : FI → Type
  | .val t _ => pden t
  | .err _ _ => Option Int
  | .box _ t _ => pden t
  | .row _ e => List (pden e)
  | .map _ k v => List (pden k × pden v)
  | .cmap _ _ => Unit
  | .part e => List (pden e) × Nat × Nat
  | .cst _ => Unit
  | .cfn _ _ _ => Unit
  | .clo _ t => pden t
@[reducible] def PT : List FI → Type
  | [] => Unit
  | [a] => a.den
  | a :: b :: r => a.den × PT (b :: r)
def encA (fr : Bool) : (t : Ty) → pden t → List SF → Nat → aden t × List SF × Nat
  | .pair a b, x, sf, k => match encA fr a x.1 sf k with
    | (u, sf1, k1) => match encA fr b x.2 sf1 k1 with
      | (v, sf2, k2) => ((u, v), sf2, k2)
  | .slice _, xs, sf, k => match sf with
    | .nw :: r => (.ref k 0 xs.length true, r, k + 1)
    | .kp n :: r => (.ref n 0 xs.length true, r, k)
    | .pu :: r => (.pure fr xs, r, k)
    | [] => (.pure fr xs, [], k)
  | .int _, x, sf, k => (x, sf, k)
  | .bool, x, sf, k => (x, sf, k)
  | .str, x, sf, k => (x, sf, k)
  | .arr _ _, x, sf, k => (x, sf, k)
  | .unit, x, sf, k => (x, sf, k)
  | .fn, x, sf, k => (x, sf, k)
def rowsA (fr : Bool) : (t : Ty) → pden t → List SF → Nat → List (Nat × Obj)
  | .pair a b, x, sf, k => match encA fr a x.1 sf k with
    | (_, sf1, k1) => rowsA fr a x.1 sf k ++ rowsA fr b x.2 sf1 k1
  | .slice e, xs, sf, k => match sf with
    | .nw :: _ => [(k, .row e fr xs)]
    | _ => []
  | _, _, _, _ => []
structure Enc where
  vs : List AV
  os : List (Nat × Obj)
  rs : List (Nat × Obj)
  k : Nat
def encI (fr : Bool) : (i : FI) → i.den → Nat → Enc
  | .val t sf, x, k => match encA fr t x sf k with
    | (u, _, k') => ⟨[toAV t u], [], rowsA fr t x sf k, k'⟩
  | .err T ki, x, k => ⟨[.eri T ki x], [], [], k⟩
  | .box j t sf, x, k => match encA fr t x sf k with
    | (u, _, k') => ⟨[], [(j, .box t u)], rowsA fr t x sf k, k'⟩
  | .row j e, xs, k => ⟨[], [(j, .row e fr xs)], [], k⟩
  | .map j kt vt, es, k => ⟨[], [(j, .map kt vt es)], [], k⟩
  | .cmap j n, _, k => ⟨[], [(j, .cell (.mapr n))], [], k⟩
  | .part e, x, k => ⟨[.ref e k x.2.1 x.2.2 false], [], [(k, .row e fr x.1)], k + 1⟩
  | .cst v, _, k => ⟨[v], [], [], k⟩
  | .cfn j f caps, _, k => ⟨[], [(j, .cell (.func f caps))], [], k⟩
  | .clo f t, x, k => ⟨[.func f [k]], [], [(k, .box t (inj fr t x))], k + 1⟩
def encL (fr : Bool) : (is : List FI) → PT is → Nat → Enc
  | [], _, k => ⟨[], [], [], k⟩
  | [a], x, k => encI fr a x k
  | a :: b :: r, x, k => match encI fr a x.1 k with
    | e1 => match encL fr (b :: r) x.2 e1.k with
      | e2 => ⟨e1.vs ++ e2.vs, e1.os ++ e2.os, e1.rs ++ e2.rs, e2.k⟩
def tvOf : List AV → TV
  | [v] => .one v
  | vs => .tup vs
structure Fm where
  fr : Bool
  is : List FI
@[reducible] def Fm.R (F : Fm) : Type := PT F.is
def Fm.res (F : Fm) (r : F.R) : TV := tvOf (encL F.fr F.is r 8).vs
def Fm.post (F : Fm) (r : F.R) : List (Nat × Obj) := (encL F.fr F.is r 8).os ++ (encL F.fr F.is r 8).rs
def collA : (t : Ty) → aden t → List SF → Nat → List (Nat × Nat) × List SF × Nat
  | .pair a b, x, sf, k => match collA a x.1 sf k with
    | (r1, sf1, k1) => match collA b x.2 sf1 k1 with
      | (r2, sf2, k2) => (r1 ++ r2, sf2, k2)
  | .slice _, v, sf, k => match sf with
    | .nw :: r => match v with
      | .ref l _ _ _ => ([(k, l)], r, k + 1)
      | _ => ([], r, k + 1)
    | _ :: r => ([], r, k)
    | [] => ([], [], k)
  | .int _, _, sf, k => ([], sf, k)
  | .bool, _, sf, k => ([], sf, k)
  | .str, _, sf, k => ([], sf, k)
  | .arr _ _, _, sf, k => ([], sf, k)
  | .unit, _, sf, k => ([], sf, k)
  | .fn, _, sf, k => ([], sf, k)
def outA (lk : Look) (ren : List (Nat × Nat)) (fr : Bool) : (t : Ty) → aden t → List SF → Nat → Option (pden t × List SF × Nat)
  | .pair a b, x, sf, k => match outA lk ren fr a x.1 sf k with
    | some (u, sf1, k1) => match outA lk ren fr b x.2 sf1 k1 with
      | some (v, sf2, k2) => some ((u, v), sf2, k2)
      | none => none
    | none => none
  | .slice e, v, sf, k => match v with
    | .pure f xs => match sf with
      | .pu :: r => if f || !fr then some (xs, r, k) else none
      | [] => if f || !fr then some (xs, [], k) else none
      | _ => none
    | .ref l off len wh => match absOf lk e l with
      | some (f, xs) => match sf with
        | .nw :: r => if wh && (newOf ren l == some k) && (f || !fr) && (rowOf lk e l).isSome then some (xs, r, k + 1) else none
        | .kp n :: r => if wh && (newOf ren l == some n) then some (xs, r, k) else none
        | .pu :: r => if (newOf ren l).isNone && (f || e.flat || !fr) then some (seg xs off len wh, r, k) else none
        | [] => if (newOf ren l).isNone && (f || e.flat || !fr) then some (seg xs off len wh, [], k) else none
      | none => none
    | _ => none
  | .int _, x, sf, k => some (x, sf, k)
  | .bool, x, sf, k => some (x, sf, k)
  | .str, x, sf, k => some (x, sf, k)
  | .arr _ _, x, sf, k => some (x, sf, k)
  | .unit, x, sf, k => some (x, sf, k)
  | .fn, x, sf, k => some (x, sf, k)
def aggAV : AV → Bool
  | .agg _ _ => true
  | _ => false
def cstA : (t : Ty) → aden t → aden t → Bool
  | .pair a b, x, y => cstA a x.1 y.1 && cstA b x.2 y.2
  | .unit, _, _ => true
  | .fn, x, y => match x, y with
    | some f, some g => f == g
    | none, none => true
    | _, _ => false
  | _, _, _ => false
def cstV : AV → AV → Bool
  | .agg t x, .agg t' y => if h : t' = t then cstA t x (h ▸ y) else false
  | .func f [], .func g [] => f == g
  | .nilFunc, .nilFunc => true
  | _, _ => false
def allFrA (fr : Bool) : (t : Ty) → aden t → Bool
  | .pair a b, x => allFrA fr a x.1 && allFrA fr b x.2
  | .slice _, v => match v with
    | .pure f _ => f == fr
    | _ => false
  | _, _ => true
def collI (lk : Look) : FI → List AV → Nat → List (Nat × Nat) × List AV × Nat
  | .val t sf, v :: vs, k => match ofAV t v with
    | some x => match collA t x sf k with
      | (r, _, k') => (r, vs, k')
    | none => ([], vs, k)
  | .err _ _, _ :: vs, k => ([], vs, k)
  | .part _, v :: vs, k => match v with
    | .ref _ l _ _ _ => ([(k, l)], vs, k + 1)
    | _ => ([], vs, k + 1)
  | .cst _, _ :: vs, k => ([], vs, k)
  | .clo _ _, v :: vs, k => match v with
    | .func _ [l] => ([(k, l)], vs, k + 1)
    | _ => ([], vs, k + 1)
  | .box j t sf, vs, k => match lk j with
    | some (.box t' x) => match collA t' x sf k with
      | (r, _, k') => (r, vs, k')
    | _ => ([], vs, k)
  | _, vs, k => ([], vs, k)
def collL (lk : Look) : List FI → List AV → Nat → List (Nat × Nat)
  | [], _, _ => []
  | a :: r, vs, k => match collI lk a vs k with
    | (r1, vs1, k1) => r1 ++ collL lk r vs1 k1
def outI (lk : Look) (ren : List (Nat × Nat)) (fr : Bool) : (i : FI) → List AV → Nat → Option (i.den × List AV × Nat)
  | .val t sf, v :: vs, k => match ofAV t v with
    | some x => if aggAV v == t.agg then match outA lk ren fr t x sf k with
        | some (u, _, k') => some (u, vs, k')
        | none => none
      else none
    | none => none
  | .err T ki, .errno T' ki' n :: vs, k => if T = T' ∧ ki = ki' then some (some n, vs, k) else none
  | .err T ki, .nilIface :: vs, k => some (none, vs, k)
  | .err T ki, .eri T' ki' x :: vs, k => if T = T' ∧ ki = ki' then some (x, vs, k) else none
  | .box j t sf, vs, k => match lk j with
    | some (.box t' x) => if h : t' = t then match outA lk ren fr t (h ▸ x) sf k with
        | some (u, _, k') => some (u, vs, k')
        | none => none
      else none
    | _ => none
  | .row j e, vs, k => match rowOf lk e j with
    | some (f, xs) => if f || !fr then some (xs, vs, k) else none
    | none => none
  | .map j kt vt, vs, k => match lk j with
    | some (.map k' v' es) => if h : kt = k' ∧ vt = v' then some (h.1 ▸ h.2 ▸ es, vs, k) else none
    | _ => none
  | .cmap j n, vs, k => match lk j with
    | some (.cell (.mapr l)) => if newOf ren l == some n then some ((), vs, k) else none
    | _ => none
  | .part e, .ref e' l off len wh :: vs, k => if e' = e then match rowOf lk e l with
      | some (f, xs) => if (newOf ren l == some k) && (f || !fr) then some (if wh then (xs, 0, xs.length) else (xs, off, len), vs, k + 1) else none
      | none => none
    else none
  | .cst v, u :: vs, k => if cstV u v then some ((), vs, k) else none
  | .cfn j f caps, vs, k => match lk j with
    | some (.cell (.func g cs)) => if g = f ∧ newAll ren cs = some caps then some ((), vs, k) else none
    | _ => none
  | .clo f t, .func g [l] :: vs, k => if g = f ∧ newOf ren l = some k then match lk l with
      | some (.box t' x) => if h : t' = t then match keepA lk ren (!fr) t (h ▸ x) with
          | some y => match unj t y with
            | some u => if allFrA fr t y then some (u, vs, k + 1) else none
            | none => none
          | none => none
        else none
      | _ => none
    else none
  | _, _, _ => none
def outL (lk : Look) (ren : List (Nat × Nat)) (fr : Bool) : (is : List FI) → List AV → Nat → Option (PT is × List AV × Nat)
  | [], vs, k => some ((), vs, k)
  | [a], vs, k => outI lk ren fr a vs k
  | a :: b :: r, vs, k => match outI lk ren fr a vs k with
    | some (x, vs1, k1) => match outL lk ren fr (b :: r) vs1 k1 with
      | some (y, vs2, k2) => some ((x, y), vs2, k2)
      | none => none
    | none => none
def FI.own : FI → List (Nat × Nat)
  | .box j _ _ | .row j _ | .map j _ _ | .cmap j _ | .cfn j _ _ => [(j, j)]
  | _ => []
def tvs : TV → List AV
  | .one v => [v]
  | .tup vs => vs
def Fm.fin (F : Fm) (P : Program) (rs : List ResultVar) (s : Pos) : Option F.R :=
  match resTV P s.st rs with
  | some res0 =>
    let lk := lkOf s.st.heap
    let ren := F.is.flatMap FI.own ++ collL lk F.is (tvs res0) 8
    if renOk ren 24 then match outL lk ren F.fr F.is (tvs res0) 8 with
      | some (r, [], _) => some r
      | _ => none
    else none
  | none => none
end Go.Ab

/-
  The forms of results: they are what the machine keeps at a function's end.
-/
set_option linter.unusedVariables false
set_option linter.unusedSimpArgs false
namespace Go.Ab
open Go
section
variable {P : Program} {GT : GTab} {lk : Look} {ren : List (Nat × Nat)} {fr lo : Bool}
theorem keepHs_append : ∀ {a b : List (Nat × Nat)} {u v : List (Nat × Option Obj)}, keepHs lk ren lo a = some u → keepHs lk ren lo b = some v → keepHs lk ren lo (a ++ b) = some (u ++ v)
  | [], b, u, v, h, h' => by simp only [keepHs, Option.some.injEq] at h; subst h; exact h'
  | p :: a, b, u, v, h, h' => by
    simp only [keepHs, List.cons_append] at h ⊢
    split at h
    · rename_i o os e1 e2
      split at h
      · rename_i o' e3
        simp only [Option.some.injEq] at h; subst h
        rw [e1, keepHs_append e2 h']
        simp only [e3, List.cons_append]
      · cases h
    · cases h
theorem alive_append {a b : List (Nat × Obj)} : alive (a ++ b) = alive a ++ alive b := by simp [alive]
theorem flag_and {f fr : Bool} (h : (f || !fr) = true) : (f && !!fr) = fr := by cases f <;> cases fr <;> simp_all
theorem flag_and3 {f g fr : Bool} (h : (f || g || !fr) = true) : ((f || g) && !!fr) = fr := by cases f <;> cases g <;> cases fr <;> simp_all
theorem newOf_beq {l n : Nat} (h : (newOf ren l == some n) = true) : newOf ren l = some n := by simpa using h
theorem outA_ok : ∀ {t : Ty} {x : aden t} {sf sf' : List SF} {k k' : Nat} {u : pden t}, outA lk ren fr t x sf k = some (u, sf', k') →
    ∃ y, encA fr t u sf k = (y, sf', k') ∧ keepA lk ren (!fr) t x = some y ∧ ∃ cs, collA t x sf k = (cs, sf', k') ∧ keepHs lk ren (!fr) cs = some (alive (rowsA fr t u sf k))
  | .int _, x, sf, sf', k, k', u, h => by simp only [outA, Option.some.injEq, Prod.mk.injEq] at h; obtain ⟨rfl, rfl, rfl⟩ := h; exact ⟨_, rfl, rfl, _, rfl, rfl⟩
  | .bool, x, sf, sf', k, k', u, h => by simp only [outA, Option.some.injEq, Prod.mk.injEq] at h; obtain ⟨rfl, rfl, rfl⟩ := h; exact ⟨_, rfl, rfl, _, rfl, rfl⟩
  | .str, x, sf, sf', k, k', u, h => by simp only [outA, Option.some.injEq, Prod.mk.injEq] at h; obtain ⟨rfl, rfl, rfl⟩ := h; exact ⟨_, rfl, rfl, _, rfl, rfl⟩
  | .arr _ _, x, sf, sf', k, k', u, h => by simp only [outA, Option.some.injEq, Prod.mk.injEq] at h; obtain ⟨rfl, rfl, rfl⟩ := h; exact ⟨_, rfl, rfl, _, rfl, rfl⟩
  | .unit, x, sf, sf', k, k', u, h => by simp only [outA, Option.some.injEq, Prod.mk.injEq] at h; obtain ⟨_, rfl, rfl⟩ := h; exact ⟨_, rfl, rfl, _, rfl, rfl⟩
  | .fn, x, sf, sf', k, k', u, h => by simp only [outA, Option.some.injEq, Prod.mk.injEq] at h; obtain ⟨rfl, rfl, rfl⟩ := h; exact ⟨_, rfl, rfl, _, rfl, rfl⟩
  | .pair a b, x, sf, sf', k, k', u, h => by
    simp only [outA] at h
    split at h
    · rename_i u1 sf1 k1 h1
      split at h
      · rename_i u2 sf2 k2 h2
        simp only [Option.some.injEq, Prod.mk.injEq] at h; obtain ⟨rfl, rfl, rfl⟩ := h
        obtain ⟨y1, a1, a2, c1, a3, a4⟩ := outA_ok h1
        obtain ⟨y2, b1, b2, c2, b3, b4⟩ := outA_ok h2
        refine ⟨(y1, y2), by simp only [encA, a1, b1], by simp only [keepA, a2, b2], c1 ++ c2, by simp only [collA, a3, b3], ?_⟩
        simp only [rowsA, a1, alive_append]
        exact keepHs_append a4 b4
      · cases h
    · cases h
  | .slice e, x, sf, sf', k, k', u, h => by
    cases x with
    | pure f xs =>
      simp only [outA] at h
      split at h
      · split at h
        · rename_i hf
          simp only [Option.some.injEq, Prod.mk.injEq] at h; obtain ⟨rfl, rfl, rfl⟩ := h
          exact ⟨_, rfl, by simp only [keepA, flag_and hf], _, rfl, rfl⟩
        · cases h
      · split at h
        · rename_i hf
          simp only [Option.some.injEq, Prod.mk.injEq] at h; obtain ⟨rfl, rfl, rfl⟩ := h
          exact ⟨_, rfl, by simp only [keepA, flag_and hf], _, rfl, rfl⟩
        · cases h
      · cases h
    | ref l off len wh =>
      simp only [outA] at h
      split at h
      · rename_i f xs hrow
        split at h
        · split at h
          · rename_i hc
            simp only [Bool.and_eq_true] at hc
            obtain ⟨⟨⟨rfl, hn⟩, hf⟩, hs⟩ := hc
            simp only [Option.some.injEq, Prod.mk.injEq] at h; obtain ⟨rfl, rfl, rfl⟩ := h
            refine ⟨_, rfl, by simp only [keepA, newOf_beq hn, hrow, if_true], _, rfl, ?_⟩
            obtain ⟨y, hy⟩ := Option.isSome_iff_exists.1 hs
            have := absOf_row hy; rw [hrow] at this; injection this with this; subst this
            simp only [keepHs, rowOf_some hy, keepO, rowsA, alive, flag_and hf, List.map_cons, List.map_nil]
          · cases h
        · split at h
          · rename_i hc
            simp only [Bool.and_eq_true] at hc
            obtain ⟨rfl, hn⟩ := hc
            simp only [Option.some.injEq, Prod.mk.injEq] at h; obtain ⟨rfl, rfl, rfl⟩ := h
            exact ⟨_, rfl, by simp only [keepA, newOf_beq hn, hrow, if_true], _, rfl, rfl⟩
          · cases h
        · split at h
          · rename_i hc
            simp only [Bool.and_eq_true, Option.isNone_iff_eq_none] at hc
            simp only [Option.some.injEq, Prod.mk.injEq] at h; obtain ⟨rfl, rfl, rfl⟩ := h
            exact ⟨_, rfl, by simp only [keepA, hc.1, hrow, flag_and3 hc.2], _, rfl, rfl⟩
          · cases h
        · split at h
          · rename_i hc
            simp only [Bool.and_eq_true, Option.isNone_iff_eq_none] at hc
            simp only [Option.some.injEq, Prod.mk.injEq] at h; obtain ⟨rfl, rfl, rfl⟩ := h
            exact ⟨_, rfl, by simp only [keepA, hc.1, hrow, flag_and3 hc.2], _, rfl, rfl⟩
          · cases h
      · cases h
    | nil => simp [outA] at h
    | junk => simp [outA] at h
theorem ofAV_keep {t : Ty} {v : AV} {x y : aden t} (h : ofAV t v = some x) (hg : (aggAV v == t.agg) = true) (hk : keepA lk ren lo t x = some y) : keepV lk ren lo v = some (toAV t y) := by
  cases v with
  | agg t' z =>
    simp only [ofAV] at h
    split at h
    · rename_i e
      subst e
      simp only [Option.some.injEq] at h; subst h
      simp only [keepV, hk]
      cases t' <;> simp [aggAV, Ty.agg] at hg <;> rfl
    · cases h
  | bool b =>
    cases t <;> simp [ofAV] at h
    subst h; simp only [keepA, Option.some.injEq] at hk; subst hk; rfl
  | int k n =>
    cases t <;> simp [ofAV] at h
    obtain ⟨rfl, rfl⟩ := h; simp only [keepA, Option.some.injEq] at hk; subst hk; rfl
  | str s =>
    cases t <;> simp [ofAV] at h
    subst h; simp only [keepA, Option.some.injEq] at hk; subst hk; rfl
  | sl e f xs =>
    cases t <;> simp only [ofAV] at h <;> try cases h
    rename_i e'
    split at h
    · rename_i he; subst he
      simp only [Option.some.injEq] at h; subst h
      simp only [keepA, Option.some.injEq] at hk; subst hk; rfl
    · cases h
  | nil =>
    cases t <;> simp [ofAV] at h
    subst h; simp only [keepA, Option.some.injEq] at hk; subst hk; rfl
  | ref e l off len wh =>
    cases t <;> simp only [ofAV] at h <;> try cases h
    rename_i e'
    split at h
    · rename_i he; subst he
      simp only [Option.some.injEq] at h; subst h
      cases hn : newOf ren l with
      | none =>
        simp only [keepA, hn] at hk
        simp only [keepV, hn]
        split at hk
        · rename_i hr
          simp only [Option.some.injEq] at hk; subst hk; rfl
        · cases hk
      | some n =>
        simp only [keepA, hn] at hk
        simp only [keepV, hn]
        split at hk
        · rename_i hw
          split at hk
          · rename_i hr
            simp only [Option.some.injEq] at hk; subst hk; simp only [hr, hw, if_true]; rfl
          · cases hk
        · rename_i hw
          simp only [Option.some.injEq] at hk; subst hk; rw [if_neg hw]; rfl
    · cases h
  | func f caps =>
    cases caps with
    | nil =>
      cases t <;> simp [ofAV] at h
      subst h; simp only [keepA, Option.some.injEq] at hk; subst hk; rfl
    | cons a b => simp [ofAV] at h
  | nilFunc =>
    cases t <;> simp [ofAV] at h
    subst h; simp only [keepA, Option.some.injEq] at hk; subst hk; rfl
  | _ => simp [ofAV] at h
theorem keepVs_append : ∀ {a b : List AV} {u v : List AV}, keepVs lk ren lo a = some u → keepVs lk ren lo b = some v → keepVs lk ren lo (a ++ b) = some (u ++ v)
  | [], b, u, v, h, h' => by simp only [keepVs, Option.some.injEq] at h; subst h; exact h'
  | p :: a, b, u, v, h, h' => by
    simp only [keepVs, List.cons_append] at h ⊢
    split at h
    · rename_i o os e1 e2
      simp only [Option.some.injEq] at h; subst h
      simp only [e1, keepVs_append e2 h', List.cons_append]
    · cases h
theorem cstA_eq : ∀ {t : Ty} {x y : aden t}, cstA t x y = true → x = y ∧ keepA lk ren lo t x = some x
  | .pair a b, x, y, h => by
    simp only [cstA, Bool.and_eq_true] at h
    obtain ⟨h1, h2⟩ := cstA_eq h.1
    obtain ⟨h3, h4⟩ := cstA_eq h.2
    exact ⟨Prod.ext h1 h3, by simp only [keepA, h2, h4]⟩
  | .unit, _, _, _ => ⟨rfl, rfl⟩
  | .fn, x, y, h => by
    simp only [cstA] at h
    refine ⟨?_, rfl⟩
    split at h
    · rw [beq_iff_eq] at h; rw [h]
    · rfl
    · cases h
  | .int _, _, _, h => by cases h
  | .bool, _, _, h => by cases h
  | .str, _, _, h => by cases h
  | .arr _ _, _, _, h => by cases h
  | .slice _, _, _, h => by cases h
theorem cstV_keep {u v : AV} (h : cstV u v = true) : keepV lk ren lo u = some v := by
  unfold cstV at h
  split at h
  · split at h
    · rename_i e
      subst e
      obtain ⟨h1, h2⟩ := cstA_eq (lk := lk) (ren := ren) (lo := lo) h
      simp only at h1
      simp only [keepV, ← h1, h2]
    · cases h
  · rw [beq_iff_eq] at h; subst h; rfl
  · rfl
  · cases h
theorem inj_unj {fr : Bool} : ∀ {t : Ty} {y : aden t} {u : pden t}, unj t y = some u → allFrA fr t y = true → inj fr t u = y
  | .int _, y, u, h, _ => by simp only [unj, Option.some.injEq] at h; subst h; rfl
  | .bool, y, u, h, _ => by simp only [unj, Option.some.injEq] at h; subst h; rfl
  | .str, y, u, h, _ => by simp only [unj, Option.some.injEq] at h; subst h; rfl
  | .arr _ _, y, u, h, _ => by simp only [unj, Option.some.injEq] at h; subst h; rfl
  | .pair a b, y, u, h, hf => by
    simp only [unj] at h
    split at h
    · rename_i u1 u2 h1 h2
      simp only [Option.some.injEq] at h; subst h
      simp only [allFrA, Bool.and_eq_true] at hf
      simp only [inj, inj_unj h1 hf.1, inj_unj h2 hf.2]
    · cases h
  | .unit, y, u, h, _ => rfl
  | .slice _, y, u, h, hf => by
    cases y with
    | pure f xs =>
      simp only [unj, Option.some.injEq] at h; subst h
      simp only [allFrA, beq_iff_eq] at hf; subst hf; rfl
    | ref l off len wh => simp [unj] at h
    | nil => simp [allFrA] at hf
    | junk => simp [unj] at h
  | .fn, y, u, h, _ => by simp only [unj, Option.some.injEq] at h; subst h; rfl
theorem outI_ok {i : FI} {vs vs' : List AV} {k k' : Nat} {r : i.den} (h : outI lk ren fr i vs k = some (r, vs', k')) :
    ∃ us us1, vs = us ++ vs' ∧ keepVs lk ren (!fr) us = some us1 ∧ AVsLe us1 (encI fr i r k).vs ∧ (encI fr i r k).k = k' ∧ keepHs lk ren (!fr) i.own = some (alive (encI fr i r k).os) ∧ ∃ cs, collI lk i vs k = (cs, vs', k') ∧ keepHs lk ren (!fr) cs = some (alive (encI fr i r k).rs) := by
  cases i with
  | val t sf =>
    cases vs with
    | nil => simp [outI] at h
    | cons v vs =>
      simp only [outI] at h
      split at h
      · rename_i x hx
        split at h
        · rename_i hg
          split at h
          · rename_i u sf' k1 ho
            simp only [Option.some.injEq, Prod.mk.injEq] at h; obtain ⟨rfl, rfl, rfl⟩ := h
            obtain ⟨y, a1, a2, cs, a3, a4⟩ := outA_ok ho
            refine ⟨[v], [toAV t y], rfl, ?_, by simp only [encI, a1]; exact AVsLe.refl _, by simp only [encI, a1], by simp only [FI.own, encI, a1]; rfl, cs, by simp only [collI, hx, a3], by simp only [encI, a1]; exact a4⟩
            simp only [keepVs, ofAV_keep hx hg a2]
          · cases h
        · cases h
      · cases h
  | err T ki =>
    cases vs with
    | nil => simp [outI] at h
    | cons v vs =>
      cases v <;> simp only [outI] at h <;> try cases h
      · split at h
        · rename_i hc
          obtain ⟨rfl, rfl⟩ := hc
          simp only [Option.some.injEq, Prod.mk.injEq] at h; obtain ⟨rfl, rfl, rfl⟩ := h
          exact ⟨[_], [_], rfl, rfl, ⟨fun _ _ _ _ h => h, trivial⟩, rfl, rfl, [], rfl, rfl⟩
        · cases h
      · exact ⟨[_], [_], rfl, rfl, ⟨fun _ _ _ _ h => h, trivial⟩, rfl, rfl, [], rfl, rfl⟩
      · split at h
        · rename_i hc
          obtain ⟨rfl, rfl⟩ := hc
          simp only [Option.some.injEq, Prod.mk.injEq] at h; obtain ⟨rfl, rfl, rfl⟩ := h
          exact ⟨[_], [_], rfl, rfl, ⟨fun _ _ _ _ h => h, trivial⟩, rfl, rfl, [], rfl, rfl⟩
        · cases h
  | box j t sf =>
    simp only [outI] at h
    split at h
    · rename_i t' x hj
      split at h
      · rename_i ht
        subst ht
        split at h
        · rename_i u sf' k1 ho
          simp only [Option.some.injEq, Prod.mk.injEq] at h; obtain ⟨rfl, rfl, rfl⟩ := h
          obtain ⟨y, a1, a2, cs, a3, a4⟩ := outA_ok ho
          refine ⟨[], [], rfl, rfl, by simp only [encI, a1]; trivial, by simp only [encI, a1], ?_, cs, by simp only [collI, hj, a3], by simp only [encI, a1]; exact a4⟩
          simp only [FI.own, keepHs, hj, keepO, encI, a1, alive, List.map_cons, List.map_nil, a2]
        · cases h
      · cases h
    · cases h
  | row j e =>
    simp only [outI] at h
    split at h
    · rename_i f xs hr
      split at h
      · rename_i hf
        simp only [Option.some.injEq, Prod.mk.injEq] at h; obtain ⟨rfl, rfl, rfl⟩ := h
        refine ⟨[], [], rfl, rfl, trivial, rfl, ?_, [], by simp only [collI], rfl⟩
        simp only [FI.own, keepHs, rowOf_some hr, keepO, encI, alive, List.map_cons, List.map_nil, flag_and hf]
      · cases h
    · cases h
  | map j kt vt =>
    simp only [outI] at h
    split at h
    · rename_i k' v' es hj
      split at h
      · rename_i hc
        obtain ⟨rfl, rfl⟩ := hc
        simp only [Option.some.injEq, Prod.mk.injEq] at h; obtain ⟨rfl, rfl, rfl⟩ := h
        refine ⟨[], [], rfl, rfl, trivial, rfl, ?_, [], by simp only [collI], rfl⟩
        simp only [FI.own, keepHs, hj, keepO, encI, alive, List.map_cons, List.map_nil]
      · cases h
    · cases h
  | cmap j n =>
    simp only [outI] at h
    split at h
    · rename_i l hj
      split at h
      · rename_i hc
        simp only [Option.some.injEq, Prod.mk.injEq] at h; obtain ⟨_, rfl, rfl⟩ := h
        refine ⟨[], [], rfl, rfl, trivial, rfl, ?_, [], by simp only [collI], rfl⟩
        simp only [FI.own, keepHs, hj, keepO, keepV, newOf_beq hc, encI, alive, List.map_cons, List.map_nil]
      · cases h
    · cases h
  | cfn j f caps =>
    simp only [outI] at h
    split at h
    · rename_i g cs hj
      split at h
      · rename_i hc
        obtain ⟨rfl, hc⟩ := hc
        simp only [Option.some.injEq, Prod.mk.injEq] at h; obtain ⟨_, rfl, rfl⟩ := h
        refine ⟨[], [], rfl, rfl, trivial, rfl, ?_, [], by simp only [collI], rfl⟩
        simp only [FI.own, keepHs, hj, keepO, keepV, hc, encI, alive, List.map_cons, List.map_nil]
      · cases h
    · cases h
  | clo f t =>
    cases vs with
    | nil => simp [outI] at h
    | cons v vs =>
      cases v with
      | func g caps =>
        cases caps with
        | nil => simp [outI] at h
        | cons l r =>
          cases r with
          | cons l2 r => simp [outI] at h
          | nil =>
            simp only [outI] at h
            split at h
            · rename_i hc
              obtain ⟨rfl, hn⟩ := hc
              split at h
              · rename_i t' x hlk
                split at h
                · rename_i ht
                  subst ht
                  split at h
                  · rename_i y hy
                    split at h
                    · rename_i u hu
                      split at h
                      · rename_i hfa
                        simp only [Option.some.injEq, Prod.mk.injEq] at h; obtain ⟨rfl, rfl, rfl⟩ := h
                        refine ⟨[_], [.func g [k]], rfl, by simp only [keepVs, keepV, newAll, hn], AVsLe.refl _, rfl, rfl, [(k, l)], rfl, ?_⟩
                        simp only [keepHs, hlk, keepO, hy, encI, alive, List.map_cons, List.map_nil, inj_unj hu hfa]
                      · cases h
                    · cases h
                  · cases h
                · cases h
              · cases h
            · cases h
      | _ => simp [outI] at h
  | part e =>
    cases vs with
    | nil => simp [outI] at h
    | cons v vs =>
      cases v <;> simp only [outI] at h <;> try cases h
      rename_i e' l off len wh
      split at h
      · rename_i he
        subst he
        split at h
        · rename_i f xs hrow
          split at h
          · rename_i hc
            simp only [Bool.and_eq_true] at hc
            simp only [Option.some.injEq, Prod.mk.injEq] at h; obtain ⟨rfl, rfl, rfl⟩ := h
            have hks : keepHs lk ren (!fr) [(k, l)] = some (alive [(k, .row e' fr xs)]) := by
              simp only [keepHs, rowOf_some hrow, keepO, alive, flag_and hc.2, List.map_cons, List.map_nil]
            cases wh with
            | true =>
              refine ⟨[_], [.ref e' k 0 xs.length true], rfl, by simp only [keepVs, keepV, newOf_beq hc.1, absOf_row hrow, if_true], ⟨fun w N K v hv => ?_, trivial⟩, rfl, rfl, [(k, l)], rfl, hks⟩
              obtain ⟨n, pl, g1, g2, g3, g4⟩ := hv
              exact ⟨n, pl, g1, g2, (fun h => by cases h), g4⟩
            | false =>
              exact ⟨[_], [.ref e' k off len false], rfl, by simp only [keepVs, keepV, newOf_beq hc.1, Bool.false_eq_true, if_false], AVsLe.refl _, rfl, rfl, [(k, l)], rfl, hks⟩
          · cases h
        · cases h
      · cases h
  | cst v =>
    cases vs with
    | nil => simp [outI] at h
    | cons u vs =>
      simp only [outI] at h
      split at h
      · rename_i hc
        simp only [Option.some.injEq, Prod.mk.injEq] at h; obtain ⟨_, rfl, rfl⟩ := h
        exact ⟨[_], [v], rfl, by simp only [keepVs, cstV_keep hc], AVsLe.refl _, rfl, rfl, [], rfl, rfl⟩
      · cases h
theorem outL_ok : ∀ {is : List FI} {vs vs' : List AV} {k k' : Nat} {r : PT is}, outL lk ren fr is vs k = some (r, vs', k') →
    ∃ us us1, vs = us ++ vs' ∧ keepVs lk ren (!fr) us = some us1 ∧ AVsLe us1 (encL fr is r k).vs ∧ (encL fr is r k).k = k' ∧ keepHs lk ren (!fr) (is.flatMap FI.own) = some (alive (encL fr is r k).os) ∧
      keepHs lk ren (!fr) (collL lk is vs k) = some (alive (encL fr is r k).rs)
  | [], vs, vs', k, k', r, h => by
    simp only [outL, Option.some.injEq, Prod.mk.injEq] at h; obtain ⟨_, rfl, rfl⟩ := h
    exact ⟨[], [], rfl, rfl, trivial, rfl, rfl, rfl⟩
  | [a], vs, vs', k, k', r, h => by
    simp only [outL] at h
    obtain ⟨us, us1, h1, h2, h2', h3, h4, cs, h5, h6⟩ := outI_ok h
    refine ⟨us, us1, h1, h2, h2', h3, ?_, ?_⟩
    · simp only [List.flatMap_cons, List.flatMap_nil, List.append_nil]; exact h4
    · simp only [collL, h5, List.append_nil]; exact h6
  | a :: b :: q, vs, vs', k, k', r, h => by
    simp only [outL] at h
    split at h
    · rename_i x vs1 k1 ho
      split at h
      · rename_i y vs2 k2 hl
        simp only [Option.some.injEq, Prod.mk.injEq] at h; obtain ⟨rfl, rfl, rfl⟩ := h
        obtain ⟨us, us1, h1, h2, h2', h3, h4, cs, h5, h6⟩ := outI_ok ho
        obtain ⟨us', us1', g1, g2, g2', g3, g4, g5⟩ := outL_ok hl
        subst h3
        refine ⟨us ++ us', us1 ++ us1', by rw [h1, g1, List.append_assoc], keepVs_append h2 g2, ?_, g3, ?_, ?_⟩
        · simp only [encL]; exact h2'.append g2'
        · rw [List.flatMap_cons]; simp only [encL, alive_append]; exact keepHs_append h4 g4
        · rw [collL, h5]; simp only [encL, alive_append]; exact keepHs_append h6 g5
      · cases h
    · cases h
theorem keepVs_tv {res : TV} {us : List AV} (ht : tvOf (tvs res) = res) (h : keepVs lk ren lo (tvs res) = some us) : keepTV lk ren lo res = some (tvOf us) := by
  cases res with
  | one v =>
    simp only [tvs, keepVs] at h
    simp only [keepTV]
    split at h
    · rename_i u us' e1 e2
      simp only [Option.some.injEq] at e2 h; subst e2; subst h
      simp only [e1, tvOf]
    · cases h
  | tup vs =>
    simp only [tvs] at h ht
    simp only [keepTV, h]
    have : ∀ u, us ≠ [u] := by
      rintro u rfl
      cases vs with
      | nil => simp [keepVs] at h
      | cons a r => cases r with
        | nil => simp [tvOf] at ht
        | cons b q =>
          simp only [keepVs] at h
          split at h
          · rename_i e1 e2
            split at e2
            · simp only [Option.some.injEq] at e2; subst e2; simp at h
            · cases e2
          · cases h
    unfold tvOf
    split
    · rename_i v; exact absurd rfl (this v)
    · rfl
theorem tvOf_le : ∀ {as bs : List AV}, AVsLe as bs → TVle (tvOf as) (tvOf bs)
  | [], [], h => h
  | [_], [_], h => h.1
  | _ :: _ :: _, _ :: _ :: _, h => h
  | [_], _ :: _ :: _, h => h.2.elim
  | _ :: _ :: _, [_], h => h.2.elim
  | [], _ :: _, h => h.elim
  | _ :: _, [], h => h.elim
theorem resTV_tv {σ : St} {rs : List ResultVar} {res : TV} (h : resTV P σ rs = some res) : tvOf (tvs res) = res := by
  unfold resTV at h
  split at h
  · simp only [Option.some.injEq] at h; subst h; rfl
  · rename_i vs hv hn
    simp only [Option.some.injEq] at h; subst h
    simp only [tvs]
    unfold tvOf
    split
    · rename_i v; exact absurd rfl (hv v)
    · rfl
  · cases h
theorem Fm.fin_ok {F : Fm} {rs : List ResultVar} {s : Pos} {r : F.R} (h : F.fin P rs s = some r) :
    ∃ res0 res1 ren nx lo, resTV P s.st rs = some res0 ∧ renOk ren nx = true ∧ keepTV (lkOf s.st.heap) ren lo res0 = some res1 ∧ TVle res1 (F.res r) ∧ keepHs (lkOf s.st.heap) ren lo ren = some (alive (F.post r)) := by
  unfold Fm.fin at h
  split at h
  · rename_i res0 hres
    simp only at h
    split at h
    · rename_i hok
      split at h
      · rename_i r' k' ho
        simp only [Option.some.injEq] at h; subst h
        obtain ⟨us, us1, h1, h2, h2', h3, h4, h5⟩ := outL_ok ho
        rw [List.append_nil] at h1
        rw [← h1] at h2
        refine ⟨res0, _, _, _, _, hres, hok, keepVs_tv (resTV_tv hres) h2, tvOf_le h2', ?_⟩
        simp only [Fm.post, alive_append]
        exact keepHs_append h4 h5
      · cases h
    · cases h
  · cases h
end
end Go.Ab

/-
  What a function computes, as a plain function: the machine's own runs, with what is open left open.
-/
set_option linter.unusedVariables false
set_option linter.unusedSimpArgs false
namespace Go.Ab
open Go
structure Summ (P : Program) (GT : GTab) where
  f : Nat
  acc : List AV → Bool
  rows : Bool
  nils : Bool
  R : Type
  fn : List AV → List (Nat × Obj) → Option R
  res : R → TV
  post : R → List (Nat × Obj)
  drop : Bool := false
  ok : ∀ as pre r, fn as pre = some r → CallOK P GT f as pre (res r) (post r)
@[reducible] def Summ.dropping {P : Program} {GT : GTab} (S : Summ P GT) : Summ P GT := { S with drop := true }
def pickS {P : Program} {GT : GTab} (f : Nat) (vs : List AV) : List (Summ P GT) → Option (Summ P GT)
  | [] => none
  | S :: r => if S.f == f && S.acc vs then some S else pickS f vs r
theorem pickS_f {P : Program} {GT : GTab} {f : Nat} {vs : List AV} : ∀ {tab : List (Summ P GT)} {S : Summ P GT}, pickS f vs tab = some S → S.f = f
  | [], S, h => by cases h
  | T :: r, S, h => by
    simp only [pickS] at h
    split at h
    · rename_i hc
      simp only [Option.some.injEq] at h; subst h
      simp only [Bool.and_eq_true, beq_iff_eq] at hc; exact hc.1
    · exact pickS_f h
inductive Tr : Type 1
  | bit (b : Bool) (t e : Tr)
  | safe (p : Prop) (t : Tr)
  | call (R : Type) (v : Option R) (k : R → Tr)
  | any (R : Type) (p : R → Prop) (k : R → Tr)
  | leaf (s : Pos)
  | ret (s : Pos)
  | dead
@[reducible] noncomputable def gd {R : Type} (p : Prop) (x : Option R) : Option R := @ite _ p (Classical.propDecidable p) x none
theorem gd_pos {R : Type} {p : Prop} (h : p) (x : Option R) : gd p x = x := if_pos h
theorem gd_some {R : Type} {p : Prop} {x : Option R} {r : R} (h : gd p x = some r) : p ∧ x = some r := by
  unfold gd at h
  split at h
  · exact ⟨by assumption, h⟩
  · cases h
open Classical in
noncomputable def anyv {X R : Type} (p : X → Prop) (f : X → Option R) : Option R :=
  if h : (∃ x, p x) ∧ ∃ r, ∀ x, p x → f x = some r then some (Classical.choose h.2) else none
theorem anyv_some {X R : Type} {p : X → Prop} {f : X → Option R} {r : R} (h : anyv p f = some r) : ∀ x, p x → f x = some r := by
  unfold anyv at h
  split at h
  · rename_i hh
    simp only [Option.some.injEq] at h
    exact h ▸ Classical.choose_spec hh.2
  · cases h
theorem anyv_eq {X R : Type} {p : X → Prop} {f : X → Option R} {r : R} (x : X) (hx : p x) (h : ∀ x, p x → f x = some r) : anyv p f = some r := by
  have hh : (∃ x, p x) ∧ ∃ r, ∀ x, p x → f x = some r := ⟨⟨x, hx⟩, r, h⟩
  unfold anyv
  rw [dif_pos hh]
  have := Classical.choose_spec hh.2 x hx
  rw [h x hx] at this
  exact this.symm
theorem anyv_ex {X R : Type} {p : X → Prop} {f : X → Option R} {r : R} (h : anyv p f = some r) : ∃ x, p x := by
  unfold anyv at h
  split at h
  · rename_i hh; exact hh.1
  · cases h
noncomputable def den {R : Type} (lf fin : Pos → Option R) : Tr → Option R
  | .bit b t e => if b = true then den lf fin t else den lf fin e
  | .safe p t => gd p (den lf fin t)
  | .call _ v k => v.bind fun r => den lf fin (k r)
  | .any _ p k => anyv p fun x => den lf fin (k x)
  | .leaf s => lf s
  | .ret s => fin s
  | .dead => none
def handV (rows : Bool) : AV → List Nat
  | .ptr _ l _ => [l]
  | .ifp _ _ l _ => [l]
  | .cslice _ l _ => [l]
  | .cptr l => [l]
  | .func _ caps => caps
  | .mapr l => [l]
  | .ref _ l _ _ _ => if rows then [l] else []
  | .bref _ l _ _ _ _ => if rows then [l] else []
  | .agg t x => if rows then locsA t x else []
  | _ => []
def handO (rows : Bool) : Obj → List Nat
  | .box t x => if rows then locsA t x else []
  | .cell v => handV rows v
  | _ => []
def reachL (lk : Look) (rows : Bool) : Nat → List Nat → List Nat → List Nat
  | 0, _, acc => acc
  | _, [], acc => acc
  | n + 1, l :: q, acc => if acc.contains l then reachL lk rows n q acc else reachL lk rows n (q ++ (match lk l with
    | some o => handO rows o
    | none => [])) (acc ++ [l])
def enum : Nat → List Nat → List (Nat × Nat)
  | _, [] => []
  | n, l :: r => (n, l) :: enum (n + 1) r
def condT : List Prop → Tr → Tr
  | [], t => t
  | p :: r, t => .safe p (condT r t)
def decideT (g : Bool) (v : TV) (k : TV → Tr) : Tr :=
  if g then match v with
    | .one (.bool b) => .bit b (k (.one (.bool true))) (k (.one (.bool false)))
    | _ => .dead
  else k v
section
variable (P : Program) (GT : GTab) (nt : Nat) (mnz : List Nat) (tab : List (Summ P GT))
def callT (H : Look) (nl : Nat) (ev : Operand → TV) (op : Op) (k : Out → List Nat → Tr) : Tr :=
  match op with
  | .call { callee := .value f, args, argTypes := _ } => match ev1 ev f, evs ev args.toList with
    | some (.func f caps), some vs0 => match capsAV (restrict H (needs ev op)) caps with
      | some cs => match pickS f (vs0 ++ cs) tab with
        | some S =>
          let locs := reachL H S.rows 60 ((vs0 ++ cs).flatMap (handV S.rows)) []
          let ren := enum 0 locs
          let use := (vs0 ++ cs).flatMap locsV ++ locs.flatMap fun l => match H l with
            | some o => locsO o
            | none => []
          let L := needs ev op ++ (ren.map (·.2) ++ use)
          match keepVs (restrict H L) ren true (vs0 ++ cs), keepHs (restrict H L) ren true ren with
          | some pv, some hl => match unalive hl with
            | some pre => .call S.R (S.fn ((if S.nils then pv else nilTo P (paramTys P f) pv)) pre) fun r =>
              match callOut P GT (restrict H L) nl f (vs0 ++ cs) ⟨(if S.nils then pv else nilTo P (paramTys P f) pv), pre, ren, use, S.res r, S.post r, S.drop⟩ with
              | some out => k out L
              | none => .dead
            | none => .dead
          | _, _ => .dead
        | none => .dead
      | none => .dead
    | _, _ => .dead
  | _ => .dead
def opT (ops : List Oper) (T : Nat → TV) (H : Look) (nl i : Nat) (o : Oper) (k : Ev → Tr) : Tr :=
  match wants ops T o with
  | some false => k ⟨.one .gone, [], []⟩
  | none => .dead
  | some true =>
    if isCall o.op then callT P GT tab H nl (evT GT T) o.op fun out L => decideT (guards ops i) out.v fun v => k ⟨v, out.upd, L⟩
    else match opOut P GT (evT GT T) (restrict H (needs (evT GT T) o.op)) nl none o.type o.op with
      | some out => condT out.conds (decideT (guards ops i) out.v fun v => k ⟨v, out.upd, needs (evT GT T) o.op⟩)
      | none => .dead
def opN (draw : Bool) (ops : List Oper) (T : Nat → TV) (H : Look) (nl i : Nat) (o : Oper) (k : Ev → Tr) : Tr :=
  match (if draw then none else match wants ops T o with
    | some true => anyOut P mnz (evT GT T) nl o.op
    | _ => none) with
  | some a => condT a.pre (.any a.R a.p fun x => decideT (guards ops i) (a.out x).v fun v => k ⟨v, (a.out x).upd, []⟩)
  | none => opT P GT tab ops T H nl i o k
def opsT (draw : Bool) (ops : List Oper) : Nat → List Oper → St → (St → List (Oper × Ev) → Tr) → Tr
  | _, [], σ, k => k σ []
  | i, o :: r, σ, k => opN P GT mnz tab draw ops (keepT (o.looksAt ops.toArray) σ.look) (lkOf σ.heap) (σ.next + 8 * i) i o fun e =>
    if dstOk nt o.dst then opsT draw ops (i + 1) r (σ.put o.dst e) fun σ' tr => k σ' ((o, e) :: tr) else .dead
def opCh (ops : List Oper) (T : Nat → TV) (H : Look) (nl i : Nat) (o : Oper) (k : Ev → Tr) : Tr :=
  match (if isComm o.op then wants ops T o else none) with
  | some true => if guards ops i then .dead else match commOut P (evT GT T) H o.op with
    | some out => condT out.conds (k ⟨out.v, out.upd, []⟩)
    | none => .dead
  | _ => opT P GT tab ops T H nl i o k
def opsCh (ops : List Oper) : Nat → List Oper → St → (St → Tr) → Tr
  | _, [], σ, k => k σ
  | i, o :: r, σ, k => opCh P GT tab ops (keepT (o.looksAt ops.toArray) σ.look) (lkOf σ.heap) (σ.next + 8 * i) i o fun e =>
    if dstOk nt o.dst then opsCh ops (i + 1) r (σ.put o.dst e) k else .dead
def regionT (ops : List Oper) (draw : Bool) (σ : St) (k : St → Tr) : Tr :=
  if !draw && ops.any (fun o => isComm o.op) then opsCh P GT nt tab ops 0 ops σ fun σ' => k { σ' with next := σ.next + 8 * ops.length }
  else opsT P GT nt mnz tab draw ops 0 ops σ fun σ' tr => if !draw || drawOk ops tr then k { σ' with next := σ.next + 8 * ops.length } else .dead
def stepT (s : Pos) (k : Pos → Tr) : Tr :=
  match s.todo with
  | .code .skip :: q | .code (.label _) :: q | .inBlock _ :: q | .inScope _ :: q => k ⟨q, s.st⟩
  | .code (.scope body) :: q => k ⟨.code body :: .inScope body :: q, s.st⟩
  | .code (.seq a b) :: q => k ⟨.code a :: .code b :: q, s.st⟩
  | .code (.cond c x y) :: q => match evO GT s.st c with
    | .one (.bool b) => .bit b (k ⟨.code x :: q, s.st⟩) (k ⟨.code y :: q, s.st⟩)
    | _ => .dead
  | .code (.block id body) :: q => k ⟨.code body :: .inBlock id :: q, s.st⟩
  | .code (.loop body) :: q | .inLoop body :: q => k ⟨.code body :: .inLoop body :: q, s.st⟩
  | .code (.exit id) :: q => match exitTo id q with
    | some q' => k ⟨q', s.st⟩
    | none => .dead
  | .code (.goto l) :: q => match gotoIn l q with
    | some q' => k ⟨q', s.st⟩
    | none => .dead
  | .code (.region _ ops draw) :: q => regionT P GT nt mnz tab ops.toList draw s.st fun σ => k ⟨q, σ⟩
  | _ => .dead
structure Cut where
  key : Nat × Nat
  ts : List Nat
  lo : Bool
  pre : Bool := false
  fams : List Nat := []
def headId : Code → Option Nat
  | .region id _ _ => some id
  | .seq a b => match headId a with
    | some i => some i
    | none => headId b
  | .cond _ a b => match headId a with
    | some i => some i
    | none => headId b
  | .block _ b => headId b
  | .loop b => headId b
  | .scope b => headId b
  | _ => none
def keyAt (todo : List Item) : Nat × Nat :=
  match todo with
  | .code c :: q => match headId c with
    | some i => (i, q.length)
    | none => (0, 0)
  | _ => (0, 0)
def findCut (key : Nat × Nat) : List Cut → Option Cut
  | [] => none
  | c :: r => if c.key.1 == key.1 && c.key.2 == key.2 then some c else findCut key r
def keepSt (σ : St) (ts : List Nat) (lo pre : Bool) : Option St :=
  let lk := lkOf σ.heap
  let locs := reachL lk true 60 ((if pre then (List.range 8).filter fun l => (lk l).isSome else []) ++ ts.flatMap fun t => locsT (σ.look t)) []
  let ren := (locs.filter (· < 8)).map (fun l => (l, l)) ++ enum 8 (locs.filter fun l => !(l < 8))
  σ.keep ts ren (8 + locs.length) lo
def famO : Option Obj → Option Obj
  | some (.row (.slice e) fr []) => if e.flat then some (.fam e []) else some (.row (.slice e) fr [])
  | o => o
def famH (ns : List Nat) : List (Nat × Option Obj) → List (Nat × Option Obj)
  | [] => []
  | p :: r => (if ns.contains p.1 then (p.1, famO p.2) else p) :: famH ns r
def famSt (σ : St) (ns : List Nat) : St := match ns with
  | [] => σ
  | ns => { σ with heap := famH ns σ.heap }
def cutT (c : Cut) (s : Pos) : Tr :=
  match keepSt s.st c.ts c.lo c.pre with
  | some σ => .leaf ⟨s.todo, famSt σ c.fams⟩
  | none => .dead
def isHead (todo : List Item) : Option (List Item) :=
  match todo with
  | .code (.loop body) :: q | .inLoop body :: q => some (.code body :: .inLoop body :: q)
  | .code (.goto l) :: q => gotoIn l q
  | _ => none
def treeT (cuts : List Cut) : Nat → Bool → Pos → Tr
  | 0, _, _ => .dead
  | n + 1, first, s =>
    match isRet s.todo with
    | true => .ret s
    | false => match isHead s.todo with
      | some todo' => match findCut (keyAt todo') cuts with
        | some c => cutT c ⟨todo', s.st⟩
        | none => treeT cuts n false ⟨todo', s.st⟩
      | none => match first, s.todo with
        | false, .code (.region id _ _) :: q => match findCut (id, q.length) cuts with
          | some c => cutT c s
          | none => stepT P GT nt mnz tab s (treeT cuts n false)
        | _, _ => stepT P GT nt mnz tab s (treeT cuts n false)
end
structure FnI (P : Program) (GT : GTab) where
  f : Nat
  cuts : List Cut
  tab : List (Summ P GT)
  fm : Fm
  mnz : List Nat := []
  mnzOk : ∀ f ∈ mnz, IsMNZ P f := by intro f h; cases h
section
variable {P : Program} {GT : GTab} (I : FnI P GT)
noncomputable def FnI.go (s : Pos) (lf : Pos → Option I.fm.R) : Option I.fm.R :=
  den lf (I.fm.fin P (rsOf P I.f)) (treeT P GT (tmpsOf P I.f) I.mnz I.tab I.cuts 3000 true s)
inductive FnI.SemR (r : I.fm.R) : Pos → Prop
  | mk (s : Pos) (lf : Pos → Option I.fm.R) (h : I.go s lf = some r) (hl : ∀ s', lf s' = some r → SemR r s') : SemR r s
open Classical in
noncomputable def FnI.sem (s : Pos) : Option I.fm.R :=
  if h : ∃ r, I.SemR r s then some (Classical.choose h) else none
end
def Lfs {R : Type} (lf fin : Pos → Option R) (r : R) : Tr → Pos → Prop
  | .bit b t e, s => if b = true then Lfs lf fin r t s else Lfs lf fin r e s
  | .safe _ t, s => Lfs lf fin r t s
  | .call R' v k, s => ∃ x, v = some x ∧ Lfs lf fin r (k x) s
  | .any R' p k, s => ∃ x, p x ∧ Lfs lf fin r (k x) s
  | .leaf s', s => s' = s
  | .ret _, _ => False
  | .dead, _ => False
theorem den_leaf {R : Type} {lf fin : Pos → Option R} {r : R} : ∀ {t : Tr}, den lf fin t = some r → ∀ s, Lfs lf fin r t s → lf s = some r
  | .bit b t e, h, s, hs => by
    simp only [den] at h
    simp only [Lfs] at hs
    split at h
    · rename_i hb; rw [if_pos hb] at hs; exact den_leaf h s hs
    · rename_i hb; rw [if_neg hb] at hs; exact den_leaf h s hs
  | .safe p t, h, s, hs => den_leaf (gd_some h).2 s hs
  | .call R' v k, h, s, ⟨x, hx, hs⟩ => by
    simp only [den, hx, Option.bind_some] at h
    exact den_leaf h s hs
  | .any R' p k, h, s, ⟨x, hx, hs⟩ => den_leaf (anyv_some h x hx) s hs
  | .leaf s', h, s, hs => by subst hs; exact h
  | .ret _, h, s, hs => hs.elim
  | .dead, h, s, hs => hs.elim
theorem den_of {R : Type} {lf lf' fin : Pos → Option R} {r : R} : ∀ {t : Tr}, den lf fin t = some r → (∀ s, Lfs lf fin r t s → lf' s = some r) → den lf' fin t = some r
  | .bit b t e, h, hs => by
    simp only [den] at h ⊢
    split at h
    · rename_i hb
      rw [if_pos hb]
      exact den_of h (fun s q => hs s (by simp only [Lfs]; rw [if_pos hb]; exact q))
    · rename_i hb
      rw [if_neg hb]
      exact den_of h (fun s q => hs s (by simp only [Lfs]; rw [if_neg hb]; exact q))
  | .safe p t, h, hs => by
    obtain ⟨hp, h⟩ := gd_some h
    simp only [den]
    rw [gd_pos hp]
    exact den_of h hs
  | .call R' v k, h, hs => by
    simp only [den, Option.bind_eq_some_iff] at h ⊢
    obtain ⟨x, hx, h⟩ := h
    exact ⟨x, hx, den_of h (fun s q => hs s ⟨x, hx, q⟩)⟩
  | .any R' p k, h, hs => by
    simp only [den] at h ⊢
    obtain ⟨x, hx⟩ := anyv_ex h
    exact anyv_eq x hx (fun y hy => den_of (anyv_some h y hy) (fun s q => hs s ⟨y, hy, q⟩))
  | .leaf s', h, hs => hs s' rfl
  | .ret _, h, hs => h
  | .dead, h, hs => by cases h
theorem den_det {R : Type} {lf lf' fin : Pos → Option R} {r r' : R} : ∀ {t : Tr}, den lf fin t = some r → den lf' fin t = some r' → r = r' ∨ ∃ s, lf s = some r ∧ lf' s = some r'
  | .bit b t e, h, h' => by
    simp only [den] at h h'
    split at h
    · rename_i hb; rw [if_pos hb] at h'; exact den_det h h'
    · rename_i hb; rw [if_neg hb] at h'; exact den_det h h'
  | .safe p t, h, h' => den_det (gd_some h).2 (gd_some h').2
  | .call R' v k, h, h' => by
    simp only [den, Option.bind_eq_some_iff] at h h'
    obtain ⟨x, hx, h⟩ := h
    obtain ⟨x', hx', h'⟩ := h'
    rw [hx] at hx'
    simp only [Option.some.injEq] at hx'
    subst hx'
    exact den_det h h'
  | .any R' p k, h, h' => by
    simp only [den] at h h'
    obtain ⟨x, hx⟩ := anyv_ex h
    exact den_det (anyv_some h x hx) (anyv_some h' x hx)
  | .leaf s', h, h' => .inr ⟨s', h, h'⟩
  | .ret _, h, h' => by
    simp only [den] at h h'
    rw [h] at h'
    exact .inl (by simpa using h')
  | .dead, h, h' => by cases h
section
variable {P : Program} {GT : GTab} {I : FnI P GT}
theorem FnI.SemR.det {r r' : I.fm.R} {s : Pos} (h : I.SemR r s) : I.SemR r' s → r = r' := by
  induction h with
  | mk s lf h hl ih =>
    rintro ⟨_, lf', h', hl'⟩
    rcases den_det h h' with e | ⟨s', h1, h2⟩
    · exact e
    · exact ih s' h1 (hl' s' h2)
theorem FnI.sem_iff {s : Pos} {r : I.fm.R} : I.sem s = some r ↔ I.SemR r s := by
  unfold FnI.sem
  constructor
  · intro h
    split at h
    · rename_i he
      simp only [Option.some.injEq] at h
      exact h ▸ Classical.choose_spec he
    · cases h
  · intro h
    have he : ∃ r, I.SemR r s := ⟨r, h⟩
    rw [dif_pos he]
    exact congrArg some ((Classical.choose_spec he).det h)
theorem FnI.sem_eq (s : Pos) : I.sem s = I.go s I.sem := by
  have key : ∀ r, I.sem s = some r ↔ I.go s I.sem = some r := by
    intro r
    constructor
    · intro h
      obtain ⟨_, lf, h, hl⟩ := FnI.sem_iff.1 h
      exact den_of h (fun s' hs => FnI.sem_iff.2 (hl s' (den_leaf h s' hs)))
    · intro h
      exact FnI.sem_iff.2 ⟨s, I.sem, h, fun s' hs => FnI.sem_iff.1 hs⟩
  cases h : I.go s I.sem with
  | some r => exact (key r).2 h
  | none =>
    cases h' : I.sem s with
    | none => rfl
    | some r => rw [(key r).1 h'] at h; cases h
variable {nt : Nat} {mnz : List Nat} {tab : List (Summ P GT)} {R : Type} {lf fin : Pos → Option R} {r : R}
theorem allP_append' : ∀ {a b : List Prop}, allP a → allP b → allP (a ++ b)
  | [], _, _, h => h
  | _ :: _, _, h, h' => ⟨h.1, allP_append' h.2 h'⟩
theorem condT_ok : ∀ {cs : List Prop} {t : Tr}, den lf fin (condT cs t) = some r → allP cs ∧ den lf fin t = some r
  | [], _, h => ⟨trivial, h⟩
  | p :: q, t, h => by
    simp only [condT, den] at h
    obtain ⟨hp, h⟩ := gd_some h
    obtain ⟨h1, h2⟩ := condT_ok h
    exact ⟨⟨hp, h1⟩, h2⟩
theorem decideT_ok {g : Bool} {v : TV} {k : TV → Tr} (h : den lf fin (decideT g v k) = some r) :
    ∃ v' c os, (∀ rest, decideV g v (os ++ rest) = some (v', c, rest)) ∧ allP c ∧ den lf fin (k v') = some r := by
  unfold decideT at h
  split at h
  · rename_i hg
    split at h
    · rename_i b
      simp only [den] at h
      split at h
      · rename_i hb
        exact ⟨.one (.bool true), [b = true], [.bit true], fun rest => by simp [decideV, hg], ⟨hb, trivial⟩, h⟩
      · rename_i hb
        simp only [Bool.not_eq_true] at hb
        exact ⟨.one (.bool false), [b = false], [.bit false], fun rest => by simp [decideV, hg], ⟨hb, trivial⟩, h⟩
    · cases h
  · rename_i hg
    exact ⟨v, [], [], fun rest => by simp [decideV, hg], trivial, h⟩
theorem capsAV_mono {lk lk' : Look} (hs : ∀ l o, lk l = some o → lk' l = some o) : ∀ {ls : List Nat} {cs : List AV}, capsAV lk ls = some cs → capsAV lk' ls = some cs
  | [], cs, h => h
  | l :: q, cs, h => by
    simp only [capsAV] at h ⊢
    split at h
    · rename_i h1 h2
      rw [hs _ _ h1, capsAV_mono hs h2]; exact h
    · rename_i h1 h2
      rw [hs _ _ h1, capsAV_mono hs h2]; exact h
    · cases h
theorem opT_ok {ops : List Oper} {T : Nat → TV} {H : Look} {nl i : Nat} {o : Oper} {k : Ev → Tr} (h : den lf fin (opT P GT tab ops T H nl i o k) = some r) :
    ∃ e c os, (∀ rest, evOf P GT ops T H nl i o (os ++ rest) = some (e, c, rest)) ∧ allP c ∧ den lf fin (k e) = some r := by
  unfold opT at h
  split at h
  · rename_i hw
    exact ⟨_, [], [], fun rest => by simp [evOf, hw], trivial, h⟩
  · cases h
  · rename_i hw
    split at h
    · rename_i hcall
      unfold callT at h
      split at h
      · rename_i f args ats hop
        split at h
        · rename_i f caps vs0 hf hvs
          split at h
          · rename_i cs hcs
            split at h
            · rename_i S hS
              simp only at h
              split at h
              · rename_i pv hl hpv hhl
                split at h
                · rename_i pre hpre
                  simp only [den, Option.bind_eq_some_iff] at h
                  obtain ⟨x, hx, h⟩ := h
                  split at h
                  · rename_i out hout
                    obtain ⟨v', c, os, h1, h2, h3⟩ := decideT_ok h
                    let oc : COrc := ⟨(if S.nils then pv else nilTo P (paramTys P f) pv), pre, enum 0 (reachL H S.rows 60 ((vs0 ++ cs).flatMap (handV S.rows)) []), ((vs0 ++ cs).flatMap locsV ++ (reachL H S.rows 60 ((vs0 ++ cs).flatMap (handV S.rows)) []).flatMap fun l => match H l with
                      | some o => locsO o
                      | none => []), S.res x, S.post x, S.drop⟩
                    refine ⟨_, c ++ out.conds, .call oc :: os, fun rest => ?_, allP_append' h2 ?_, h3⟩
                    · simp only [evOf, hw, runOp, List.cons_append]
                      have ht : takeCall o.op (.call oc :: (os ++ rest)) = some (some oc, os ++ rest) := by
                        simp only [takeCall, hcall, if_true]
                      rw [ht]
                      simp only [orcLocs, hop, opOut, hf, hvs]
                      rw [capsAV_mono (fun l ob hlo => ?_) hcs]
                      · simp only
                        rw [hop] at hout
                        rw [hout]
                        simp only [h1]
                        rfl
                      · rw [hop] at hlo
                        unfold restrict at hlo ⊢
                        split at hlo
                        · rename_i hm
                          simp only [List.contains_eq_mem, List.mem_append, decide_eq_true_eq] at hm ⊢
                          rw [if_pos (.inl hm)]; exact hlo
                        · cases hlo
                    · have hA : ∀ as, (if S.nils then pv else nilTo P (paramTys P f) pv) = as → as = nilTo P (paramTys P f) pv ∨ as = pv := by
                        rintro as rfl
                        cases S.nils
                        · exact .inl rfl
                        · exact .inr rfl
                      unfold callOut at hout
                      simp only at hout
                      generalize hAs : (if S.nils then pv else nilTo P (paramTys P f) pv) = as at hout hx
                      rw [hpv, hhl] at hout
                      simp only at hout
                      split at hout
                      · injection hout with hout; subst hout
                        refine ⟨hA _ hAs, unalive_spec hpre, ?_, trivial⟩
                        have := S.ok _ _ _ hx
                        rwa [pickS_f hS] at this
                      · cases hout
                  · cases h
                · cases h
              · cases h
            · cases h
          · cases h
        · cases h
      · cases h
    · rename_i hcall
      split at h
      · rename_i out hout
        obtain ⟨h0, h⟩ := condT_ok h
        obtain ⟨v', c, os, h1, h2, h3⟩ := decideT_ok h
        refine ⟨_, c ++ out.conds, os, fun rest => ?_, allP_append' h2 h0, h3⟩
        simp only [Bool.not_eq_true] at hcall
        simp only [evOf, hw, runOp, takeCall, hcall, orcLocs, List.append_nil, Bool.false_eq_true, if_false]
        rw [hout]
        simp only [h1]
      · cases h
theorem opN_draw {ops : List Oper} {T : Nat → TV} {H : Look} {nl i : Nat} {o : Oper} {k : Ev → Tr} : opN P GT mnz tab true ops T H nl i o k = opT P GT tab ops T H nl i o k := rfl
theorem opsT_ok {ops : List Oper} : ∀ {q : List Oper} {i : Nat} {σ : St} {k : St → List (Oper × Ev) → Tr}, den lf fin (opsT P GT nt mnz tab true ops i q σ k) = some r →
    ∃ σ' c os tr, (∀ rest, runOps P GT nt ops i q σ (os ++ rest) = some (σ', c, rest, tr)) ∧ allP c ∧ den lf fin (k σ' tr) = some r
  | [], i, σ, k, h => ⟨σ, [], [], [], fun rest => rfl, trivial, h⟩
  | o :: q, i, σ, k, h => by
    simp only [opsT, opN_draw] at h
    obtain ⟨e, c, os, h1, h2, h3⟩ := opT_ok h
    split at h3
    · rename_i hd
      obtain ⟨σ', c', os', tr, g1, g2, g3⟩ := opsT_ok h3
      refine ⟨σ', c ++ c', os ++ os', _, fun rest => ?_, allP_append' h2 g2, g3⟩
      rw [List.append_assoc]
      simp only [runOps, h1, hd, if_true, g1]
    · cases h3
theorem regionT_ok {ops : List Oper} {σ : St} {k : St → Tr} (h : den lf fin (regionT P GT nt mnz tab ops true σ k) = some r) :
    ∃ σ' c os, (∀ rest, runRegion P GT nt ops true σ (os ++ rest) = some (σ', c, rest)) ∧ allP c ∧ den lf fin (k σ') = some r := by
  unfold regionT at h
  simp only [Bool.not_true, Bool.false_and, Bool.false_eq_true, if_false] at h
  obtain ⟨σ', c, os, tr, h1, h2, h3⟩ := opsT_ok h
  split at h3
  · rename_i hd
    refine ⟨_, c, os, fun rest => ?_, h2, h3⟩
    simp only [runRegion, h1, Bool.not_true, hd, if_true]
  · cases h3
theorem opN_wp (hm : ∀ f ∈ mnz, IsMNZ P f) {c : Cx} {T : Nat → TV} {H : Look} {K : Kn} {a : Act} {w : World} {nl : Nat} (R0 : Rel c P GT nt T H K a w) {ops : Array Oper} {i : Nat} {o : Oper} {ts : List Nat} {k : Ev → Tr}
    (h : den lf fin (opN P GT mnz tab false ops.toList (Ab.keepT ts T) H nl i o k) = some r) (hdk : ∀ e, den lf fin (k e) = some r → dstOk nt o.dst = true)
    (hf : ∀ l, nl ≤ l → l < nl + 8 → K l = none) {next : Act → World → Prop} {Q : Exit → Act → World → Prop}
    (hn : ∀ e a' w' K', den lf fin (k e) = some r → Rel c P GT nt (putF T o.dst e.v) (updL H e.upd) K' a' w' → (∀ l, K' l = K l ∨ (nl ≤ l ∧ l < nl + 8)) → (∀ l gh, K l = some gh → K' l = some gh) → next a' w') :
    (if Region.wanted o (yielded ops a.tmps) then o.wp P a w next Q ∨ (o.asks P a w ∧ LetsOut Q) else next (a.put o.dst undef) w) := by
  unfold opN at h
  split at h
  · rename_i y hy
    simp only [Bool.false_eq_true, if_false] at hy
    split at hy
    · rename_i hw
      rw [wants_rd R0 hw]
      simp only [if_true]
      refine .inl ?_
      obtain ⟨h0, h⟩ := condT_ok h
      simp only [den] at h
      have A : At c P GT H (restrict H []) K w (Ab.evT GT (Ab.keepT ts T)) a.eval nl :=
        ⟨R0.inv, restrict_sub, fun x => R0.keepT ts x, hf, R0.ng, R0.glob, R0.gng⟩
      refine does_wp (any_sound A hm hy h0) ?_
      rintro u w' ⟨x, hx, K', S, hu⟩
      obtain ⟨v', c', os, h1, h2, h3⟩ := decideT_ok (anyv_some h x hx)
      have hv : TVRd w' (NN c (updL H (y.out x).upd) K' w') K' v' u := by
        have hdec := h1 []
        unfold decideV at hdec
        split at hdec
        · split at hdec
          · rename_i b c'' os'' hb hos
            simp only [Option.some.injEq, Prod.mk.injEq] at hdec
            obtain ⟨rfl, rfl, _⟩ := hdec
            rw [hb] at hu
            have : b = c'' := h2.1
            rw [← this]; exact hu
          · cases hdec
        · simp only [Option.some.injEq, Prod.mk.injEq] at hdec
          obtain ⟨rfl, rfl, _⟩ := hdec
          exact hu
      exact hn _ _ _ K' h3 (R0.put S hv (hdk _ h3)) S.fresh S.keep.k
    · cases hy
  · obtain ⟨e, c', os, h1, h2, h3⟩ := opT_ok h
    exact evOf_wp R0 (h1 []) h2 (hdk e h3) hf (fun a' w' K' R' q1 q2 => hn e a' w' K' h3 R' q1 q2)
theorem opsT_wp (hm : ∀ f ∈ mnz, IsMNZ P f) {c : Cx} {ops : Array Oper} {Q : Exit → Act → World → Prop} {n0 : Nat} : ∀ (q : List Oper) (i : Nat) (σ : St) (k : St → List (Oper × Ev) → Tr) (K : Kn) (a : Act) (w : World),
    den lf fin (opsT P GT nt mnz tab false ops.toList i q σ k) = some r → ops.toList.drop i = q → i + q.length = ops.size → σ.next = n0 → Rel c P GT nt σ.look (lkOf σ.heap) K a w → (∀ l, n0 + 8 * i ≤ l → K l = none) →
    (∀ σ' tr a' w' K', den lf fin (k σ' tr) = some r → σ'.next = n0 → Rel c P GT nt σ'.look (lkOf σ'.heap) K' a' w' → (∀ l, n0 + 8 * ops.size ≤ l → K' l = none) → (∀ l gh, K l = some gh → K' l = some gh) → Q .normal a' w') →
    wpOps P ops Q (List.range' i q.length) a w
  | [], i, σ, k, K, a, w, h, hr, hi, hn, R0, hf, hQ => by
    simp only [List.length_nil] at hi
    exact hQ σ [] a w K h hn R0 (fun l hl => hf l (by omega)) (fun _ _ h => h)
  | o :: q, i, σ, k, K, a, w, h, hr, hi, hn, R0, hf, hQ => by
    simp only [opsT] at h
    have hoi : ops[i]? = some o := by
      rw [← Array.getElem?_toList, ← List.head?_drop, hr]; rfl
    have hr2 : ops.toList.drop (i + 1) = q := by
      rw [← List.tail_drop, hr]; rfl
    rw [List.length_cons, List.range'_succ, wpOps_cons]
    unfold wpOp
    rw [hoi]
    refine opN_wp hm R0 h (fun e he => ?_) (fun l h1 h2 => hf l (by omega)) ?_
    · split at he
      · assumption
      · cases he
    · intro e a' w' K' he R' hk hmn
      rw [putF_look, updL_look (dst := o.dst)] at R'
      split at he
      · refine opsT_wp hm q (i + 1) (σ.put o.dst e) _ K' a' w' he hr2 (by simp only [List.length_cons] at hi; omega) hn R' (fun l hl => ?_) (fun σ' tr a'' w'' K'' g1 g2 R'' h1 h2 => hQ σ' _ a'' w'' K'' g1 g2 R'' h1 (fun l gh hl => h2 l gh (hmn l gh hl)))
        rcases hk l with h1 | h1
        · rw [h1]; exact hf l (by omega)
        · omega
      · cases he
theorem opsCh_steps {c : Cx} {ops : Array Oper} {n0 : Nat} (b : Frame) (cs : List Frame) (todo : List Item) : ∀ (q : List Oper) (i : Nat) (σ : St) (k : St → Tr) (K : Kn) (a : Act) (w : World),
    den lf fin (opsCh P GT nt tab ops.toList i q σ k) = some r → ops.toList.drop i = q → i + q.length = ops.size → σ.next = n0 → Rel c P GT nt σ.look (lkOf σ.heap) K a w → (∀ l, n0 + 8 * i ≤ l → K l = none) →
    ∃ σ' K' a' w', den lf fin (k σ') = some r ∧ σ'.next = n0 ∧ Rel c P GT nt σ'.look (lkOf σ'.heap) K' a' w' ∧ (∀ l, n0 + 8 * ops.size ≤ l → K' l = none) ∧ (∀ l gh, K l = some gh → K' l = some gh) ∧
      Steps P (lone (b.at a (.inRegion ops (List.range' i q.length) :: todo)) cs w) (lone (b.at a' todo) cs w')
  | [], i, σ, k, K, a, w, h, hr, hi, hn, R0, hf => by
    simp only [List.length_nil] at hi
    exact ⟨σ, K, a, w, h, hn, R0, fun l hl => hf l (by omega), fun _ _ h => h, .one step_region_end⟩
  | o :: q, i, σ, k, K, a, w, h, hr, hi, hn, R0, hf => by
    simp only [opsCh] at h
    have hoi : ops[i]? = some o := by
      rw [← Array.getElem?_toList, ← List.head?_drop, hr]; rfl
    have hr2 : ops.toList.drop (i + 1) = q := by
      rw [← List.tail_drop, hr]; rfl
    rw [List.length_cons, List.range'_succ]
    have fin' : ∀ (e : Ev) (a' : Act) (w' : World) (K' : Kn), den lf fin (if dstOk nt o.dst then opsCh P GT nt tab ops.toList (i + 1) q (σ.put o.dst e) k else .dead) = some r → Rel c P GT nt (putF σ.look o.dst e.v) (updL (lkOf σ.heap) e.upd) K' a' w' →
        (∀ l, K' l = K l ∨ (σ.next + 8 * i ≤ l ∧ l < σ.next + 8 * i + 8)) → (∀ l gh, K l = some gh → K' l = some gh) →
        Steps P (lone (b.at a (.inRegion ops (i :: List.range' (i + 1) q.length) :: todo)) cs w) (lone (b.at a' (.inRegion ops (List.range' (i + 1) q.length) :: todo)) cs w') →
        ∃ σ' K' a' w', den lf fin (k σ') = some r ∧ σ'.next = n0 ∧ Rel c P GT nt σ'.look (lkOf σ'.heap) K' a' w' ∧ (∀ l, n0 + 8 * ops.size ≤ l → K' l = none) ∧ (∀ l gh, K l = some gh → K' l = some gh) ∧
          Steps P (lone (b.at a (.inRegion ops (i :: List.range' (i + 1) q.length) :: todo)) cs w) (lone (b.at a' todo) cs w') := by
      intro e a' w' K' he R' hk hmn hs
      rw [putF_look, updL_look (dst := o.dst)] at R'
      split at he
      · obtain ⟨σ2, K2, a2, w2, g1, g2, g3, g4, g5, g6⟩ := opsCh_steps b cs todo q (i + 1) (σ.put o.dst e) k K' a' w' he hr2 (by simp only [List.length_cons] at hi; omega) hn R' (fun l hl => by
          rcases hk l with h1 | h1
          · rw [h1]; exact hf l (by omega)
          · omega)
        exact ⟨σ2, K2, a2, w2, g1, g2, g3, g4, fun l gh hl => g5 l gh (hmn l gh hl), hs.trans g6⟩
      · cases he
    have hfr : ∀ l, σ.next + 8 * i ≤ l → l < σ.next + 8 * i + 8 → K l = none := fun l h1 _ => hf l (by omega)
    unfold opCh at h
    split at h
    · rename_i hw
      split at hw
      · split at h
        · cases h
        · split at h
          · rename_i out hout
            obtain ⟨h0, h⟩ := condT_ok h
            have A : At c P GT (lkOf σ.heap) (lkOf σ.heap) K w (Ab.evT GT (Ab.keepT (o.looksAt ops.toList.toArray) σ.look)) a.eval (σ.next + 8 * i) :=
              ⟨R0.inv, fun _ _ h => h, fun x => R0.keepT _ x, hfr, R0.ng, R0.glob, R0.gng⟩
            obtain ⟨v, w', ⟨K', S, hv⟩, hst⟩ := comm_step (rest := List.range' (i + 1) q.length) hoi (wants_rd R0 hw) (comm_sound A hout h0) b todo cs
            have hd : dstOk nt o.dst = true := by
              split at h
              · assumption
              · cases h
            exact fin' _ _ _ K' h (R0.put S hv hd) S.fresh S.keep.k (.one hst)
          · cases h
      · cases hw
    · obtain ⟨e, c', os, h1, h2, h3⟩ := opT_ok h
      have hd : dstOk nt o.dst = true := by
        split at h3
        · assumption
        · cases h3
      have hwp := evOf_wp (next := fun a' w' => ∃ K', Rel c P GT nt (putF σ.look o.dst e.v) (updL (lkOf σ.heap) e.upd) K' a' w' ∧ (∀ l, K' l = K l ∨ (σ.next + 8 * i ≤ l ∧ l < σ.next + 8 * i + 8)) ∧ (∀ l gh, K l = some gh → K' l = some gh)) (Q := fun _ _ _ => False) R0 (h1 []) h2 hd hfr (fun a' w' K' R' q1 q2 => ⟨K', R', q1, q2⟩)
      obtain ⟨a', w', ⟨K', R', q1, q2⟩, hst⟩ := op_steps (rest := List.range' (i + 1) q.length) hoi hwp b todo cs
      exact fin' e a' w' K' h3 R' q1 q2 hst
def Leads (P : Program) (GT : GTab) (nt : Nat) (Q : Pos → Prop) (s : Pos) : Prop :=
  ∀ (c : Cx) (K : Kn) (a : Act) (w : World) (b : Frame) (cs : List Frame), RelS c P GT nt s.st K a w →
    ∃ s' K' a' w', Q s' ∧ RelS c P GT nt s'.st K' a' w' ∧ (∀ l gh, l < 8 → K l = some gh → K' l = some gh) ∧ Steps P (lone (b.at a s.todo) cs w) (lone (b.at a' s'.todo) cs w')
theorem Leads.of {Q : Pos → Prop} {s s' : Pos} (h : Reach P GT nt s s') (hq : Q s') : Leads P GT nt Q s := by
  intro c K a w b cs R0
  obtain ⟨K', a', w', h1, h2, h3⟩ := h c K a w b cs R0
  exact ⟨s', K', a', w', hq, h1, h2, h3⟩
theorem Leads.bind {Q Q' : Pos → Prop} {s : Pos} (h : Leads P GT nt Q s) (hq : ∀ s', Q s' → Leads P GT nt Q' s') : Leads P GT nt Q' s := by
  intro c K a w b cs R0
  obtain ⟨s1, K1, a1, w1, h1, h2, h3, h4⟩ := h c K a w b cs R0
  obtain ⟨s2, K2, a2, w2, g1, g2, g3, g4⟩ := hq s1 h1 c K1 a1 w1 b cs h2
  exact ⟨s2, K2, a2, w2, g1, g2, fun l gh hl hk => g3 l gh hl (h3 l gh hl hk), h4.trans g4⟩
theorem stepT_ok (hm : P.follows .mixedOrders = true) (hz : ∀ f ∈ mnz, IsMNZ P f) {s : Pos} {k : Pos → Tr} (h : den lf fin (stepT P GT nt mnz tab s k) = some r) : Leads P GT nt (fun s' => den lf fin (k s') = some r) s := by
  obtain ⟨todo, σ⟩ := s
  unfold stepT at h
  have go : ∀ {s' : Pos} {os : List Orc} {c : List Prop}, stepTo P GT nt ⟨todo, σ⟩ os = some (s', c, []) → allP c → den lf fin (k s') = some r → Leads P GT nt (fun s' => den lf fin (k s') = some r) ⟨todo, σ⟩ := fun h1 h2 h3 => .of (stepTo_sound hm h1 h2) h3
  split at h
  · rename_i q hk; simp only at hk; subst hk
    exact go (os := []) (c := []) rfl trivial h
  · rename_i q hk; simp only at hk; subst hk
    exact go (os := []) (c := []) rfl trivial h
  · rename_i q hk; simp only at hk; subst hk
    exact go (os := []) (c := []) rfl trivial h
  · rename_i q hk; simp only at hk; subst hk
    exact go (os := []) (c := []) rfl trivial h
  · rename_i q hk; simp only at hk; subst hk
    exact go (os := []) (c := []) rfl trivial h
  · rename_i q hk; simp only at hk; subst hk
    exact go (os := []) (c := []) rfl trivial h
  · rename_i x y q hk; simp only at hk; subst hk
    split at h
    · rename_i b hb
      simp only at hb
      simp only [den] at h
      split at h
      · rename_i hbt
        exact go (os := [.bit true]) (c := [b = true]) (by simp only [stepTo, hb, if_true]) ⟨hbt, trivial⟩ h
      · rename_i hbt
        simp only [Bool.not_eq_true] at hbt
        exact go (os := [.bit false]) (c := [b = false]) (by simp only [stepTo, hb, Bool.false_eq_true, if_false]) ⟨hbt, trivial⟩ h
    · cases h
  · rename_i q hk; simp only at hk; subst hk
    exact go (os := []) (c := []) rfl trivial h
  · rename_i q hk; simp only at hk; subst hk
    exact go (os := []) (c := []) rfl trivial h
  · rename_i q hk; simp only at hk; subst hk
    exact go (os := []) (c := []) rfl trivial h
  · rename_i q hk; simp only at hk; subst hk
    split at h
    · rename_i q' he
      exact go (os := []) (c := []) (by simp only [stepTo, he]) trivial h
    · cases h
  · rename_i q hk; simp only at hk; subst hk
    split at h
    · rename_i q' he
      exact go (os := []) (c := []) (by simp only [stepTo, he]) trivial h
    · cases h
  · rename_i id ops draw q hk; simp only at hk; subst hk
    cases draw with
    | true =>
      obtain ⟨σ', c, os, h1, h2, h3⟩ := regionT_ok h
      have h1' := h1 []
      rw [List.append_nil] at h1'
      exact go (os := os) (c := c) (by simp only [stepTo]; rw [h1']) h2 h3
    | false =>
      intro c K a w b cs R0
      unfold regionT at h
      split at h
      · obtain ⟨σ2, K2, a2, w2, g1, g2, g3, g4, g5, g6⟩ := opsCh_steps (n0 := σ.next) b cs q ops.toList 0 σ _ K a w h (by simp) (by simp) rfl R0.rel (fun l hl => R0.fresh l (by omega))
        refine ⟨⟨q, { σ2 with next := σ.next + 8 * ops.toList.length }⟩, K2, a2, w2, g1, ⟨g3, fun l hl => g4 l (by simpa using hl)⟩, fun l gh _ hl => g5 l gh hl, ?_⟩
        refine .head step_region ?_
        rw [List.range_eq_range']
        simpa using g6
      have hwp : (Code.region id ops false).wp P (fun e a' w' => e = .normal ∧ ∃ σ' K', den lf fin (k ⟨q, σ'⟩) = some r ∧ RelS c P GT nt σ' K' a' w' ∧ (∀ l gh, K l = some gh → K' l = some gh)) a w := by
        refine wp_region ?_
        have := opsT_wp hz (Q := fun e a' w' => e = .normal ∧ ∃ σ' K', den lf fin (k ⟨q, σ'⟩) = some r ∧ RelS c P GT nt σ' K' a' w' ∧ (∀ l gh, K l = some gh → K' l = some gh)) (n0 := σ.next) ops.toList 0 σ _ K a w h (by simp) (by simp) rfl R0.rel (fun l hl => R0.fresh l (by omega)) (fun σ' tr a' w' K' g1 g2 R' g3 g4 => ?_)
        · rw [List.range_eq_range']
          simpa using this
        · simp only [Bool.not_false, Bool.true_or, if_true] at g1
          exact ⟨rfl, { σ' with next := σ.next + 8 * ops.toList.length }, K', g1, ⟨R', fun l hl => g3 l (by simpa using hl)⟩, g4⟩
      obtain ⟨e, a', w', ⟨rfl, σ', K', g1, R', hk⟩, harr⟩ := hwp b q cs
      exact ⟨⟨q, σ'⟩, K', a', w', g1, R', fun l gh _ hl => hk l gh hl, harr⟩
  · cases h
theorem famO_rd {w : World} {N : Bool → Nat → Prop} {K : Kn} {o : Option Obj} {ob : Obj} {gh : Gh} (h : famO o = some ob) : (∀ o0, o = some o0 → ORd w N K o0 gh) → ∃ o0, o = some o0 ∧ ORd w N K ob gh := by
  intro hr
  unfold famO at h
  split at h
  · rename_i e fr
    split at h
    · rename_i hf
      simp only [Option.some.injEq] at h; subst h
      refine ⟨_, rfl, ?_⟩
      obtain ⟨h1, h2⟩ := hr _ rfl
      refine ⟨hf, [], h1, ⟨fun i j p q hi => by simp at hi, fun p q _ hq => by simp at hq⟩, ?_⟩
      revert h2
      cases gh.pl with
      | none => exact fun _ => ⟨rfl, rfl⟩
      | some p =>
        rintro ⟨cs, g1, g2⟩
        simp only [Cat] at g2; subst g2
        exact ⟨[], g1, rfl, rfl⟩
    · simp only [Option.some.injEq] at h; subst h
      exact ⟨_, rfl, hr _ rfl⟩
  · subst h; exact ⟨ob, rfl, hr ob rfl⟩
theorem famH_look {ns : List Nat} : ∀ {h : List (Nat × Option Obj)} {l : Nat}, lookL (famH ns h) l = (if ns.contains l then (lookL h l).map famO else lookL h l)
  | [], l => by simp [famH, lookL]
  | (a, b) :: r, l => by
    simp only [famH]
    by_cases hl : a = l
    · subst hl
      by_cases hc : ns.contains a = true
      · simp only [hc, if_true, lookL, Option.map_some]
      · simp only [Bool.not_eq_true] at hc; simp only [hc, Bool.false_eq_true, if_false, lookL, if_true]
    · have ih := famH_look (ns := ns) (h := r) (l := l)
      by_cases hc : ns.contains a = true
      · simp only [hc, if_true, lookL, hl, if_false]; exact ih
      · simp only [Bool.not_eq_true] at hc; simp only [hc, Bool.false_eq_true, if_false] at ih ⊢; simp only [lookL, hl, if_false]; exact ih
theorem famSt_sound {σ : St} {ns : List Nat} (todo : List Item) : Reach P GT nt ⟨todo, σ⟩ ⟨todo, famSt σ ns⟩ := by
  intro c K a w b cs R0
  refine ⟨K, a, w, ?_, fun l gh _ hk => hk, Steps.refl _ _⟩
  unfold famSt
  split
  · exact R0
  · have hH : ∀ l o, lkOf (famH ns σ.heap) l = some o → (∃ o0, lkOf σ.heap l = some o0) ∧ ∀ (w : World) (N : Bool → Nat → Prop) (gh : Gh), (∀ o0, lkOf σ.heap l = some o0 → ORd w N K o0 gh) → ORd w N K o gh := by
      intro l o hl
      unfold lkOf at hl ⊢
      rw [famH_look] at hl
      by_cases hc : ns.contains l = true
      · simp only [hc, if_true] at hl
        cases hx : lookL σ.heap l with
        | none => rw [hx] at hl; cases hl
        | some x =>
          rw [hx] at hl
          simp only [Option.map_some] at hl
          refine ⟨?_, fun w N gh h => ?_⟩
          · cases x with
            | none => simp [famO] at hl
            | some o0 => exact ⟨o0, rfl⟩
          · obtain ⟨_, _, h2⟩ := famO_rd hl (fun o0 ho => h o0 (by rw [ho]))
            exact h2
      · simp only [hc] at hl
        simp only [Bool.false_eq_true, if_false] at hl
        exact ⟨⟨o, hl⟩, fun w N gh h => h o hl⟩
    have hlive : ∀ b, liveAt (lkOf (famH ns σ.heap)) K b → liveAt (lkOf σ.heap) K b := by
      rintro b ⟨l, o, gh, p, h1, h2⟩
      obtain ⟨⟨o0, h0⟩, _⟩ := hH l o h1
      exact ⟨l, o0, gh, p, h0, h2⟩
    have hN : ∀ fr b, NN c (lkOf σ.heap) K w fr b → NN c (lkOf (famH ns σ.heap)) K w fr b := fun fr b hb => ⟨hb.1, fun hn => hb.2.1 (hlive b hn), hb.2.2⟩
    have hk : KeepK w w (NN c (lkOf σ.heap) K w) (NN c (lkOf (famH ns σ.heap)) K w) K K := ⟨fun fr => ⟨fun b hb => ⟨hN fr b hb, rfl⟩⟩, fun _ _ h => h⟩
    refine ⟨⟨⟨fun l o hl => ?_, fun l o gh p h1 h2 h3 => ?_, fun l l' o o' gh gh' p p' h1 h2 h3 h4 h5 h6 h7 => ?_, R0.rel.inv.fr⟩, fun t => (R0.rel.tmps t).keep hk, R0.rel.size, R0.rel.defers, R0.rel.ng, R0.rel.gng, R0.rel.glob⟩, R0.fresh⟩
    · obtain ⟨⟨o0, h0⟩, h1⟩ := hH l o hl
      obtain ⟨gh, g1, g2⟩ := R0.rel.inv.objs l o0 h0
      exact ⟨gh, g1, h1 _ _ _ (fun o1 ho => by rw [h0] at ho; injection ho with ho; subst ho; exact g2.keep hk (fun _ _ => rfl))⟩
    · obtain ⟨⟨o0, h0⟩, _⟩ := hH l o h1
      exact R0.rel.inv.own l o0 gh p h0 h2 h3
    · obtain ⟨⟨o0, h0⟩, _⟩ := hH l o h1
      obtain ⟨⟨o0', h0'⟩, _⟩ := hH l' o' h2
      exact R0.rel.inv.inj l l' o0 o0' gh gh' p p' h0 h0' h3 h4 h5 h6 h7
theorem cutT_ok {c : Cut} {s : Pos} (h : den lf fin (cutT c s) = some r) : Leads P GT nt (fun s' => lf s' = some r) s := by
  unfold cutT at h
  split at h
  · rename_i σ hk
    obtain ⟨todo, σ0⟩ := s
    exact (Leads.of (keep_sound hk _) rfl).bind (fun s1 h1 => by subst h1; exact .of (famSt_sound _) h)
  · cases h
theorem isHead_ok (hm : P.follows .mixedOrders = true) {todo todo' : List Item} {σ : St} (h : isHead todo = some todo') : Reach P GT nt ⟨todo, σ⟩ ⟨todo', σ⟩ := by
  unfold isHead at h
  split at h
  · simp only [Option.some.injEq] at h; subst h
    exact stepTo_sound hm (os := []) (cs := []) (os' := []) rfl trivial
  · simp only [Option.some.injEq] at h; subst h
    exact stepTo_sound hm (os := []) (cs := []) (os' := []) rfl trivial
  · exact stepTo_sound hm (os := []) (cs := []) (os' := []) (by simp only [stepTo, h]) trivial
  · cases h
theorem treeT_ok (hm : P.follows .mixedOrders = true) (hz : ∀ f ∈ mnz, IsMNZ P f) {cuts : List Cut} : ∀ {n : Nat} {first : Bool} {s : Pos}, den lf fin (treeT P GT nt mnz tab cuts n first s) = some r →
    Leads P GT nt (fun s' => lf s' = some r ∨ (isRet s'.todo = true ∧ fin s' = some r)) s
  | 0, _, _, h => by cases h
  | n + 1, first, s, h => by
    simp only [treeT] at h
    split at h
    · rename_i hr
      exact .of (Reach.refl s) (.inr ⟨hr, h⟩)
    · split at h
      · rename_i todo' hh
        have h0 : Reach P GT nt s ⟨todo', s.st⟩ := isHead_ok hm hh
        split at h
        · exact (Leads.of h0 rfl).bind (fun s1 h1 => by subst h1; exact (cutT_ok h).bind (fun s2 h2 => .of (Reach.refl _) (.inl h2)))
        · exact (Leads.of h0 rfl).bind (fun s1 h1 => by subst h1; exact treeT_ok hm hz h)
      · split at h
        · split at h
          · exact (cutT_ok h).bind (fun s2 h2 => .of (Reach.refl _) (.inl h2))
          · exact (stepT_ok hm hz h).bind (fun s1 h1 => treeT_ok hm hz h1)
        · exact (stepT_ok hm hz h).bind (fun s1 h1 => treeT_ok hm hz h1)
theorem FnI.semR_ok (hm : P.follows .mixedOrders = true) {s : Pos} {r : I.fm.R} (h : I.SemR r s) : Leads P GT (tmpsOf P I.f) (fun s' => isRet s'.todo = true ∧ I.fm.fin P (rsOf P I.f) s' = some r) s := by
  induction h with
  | mk s lf h hl ih =>
    refine (treeT_ok hm I.mnzOk h).bind (fun s' hs => ?_)
    rcases hs with hs | hs
    · exact ih s' hs
    · exact .of (Reach.refl _) hs
theorem FnI.sem_ends (hm : P.follows .mixedOrders = true) {s : Pos} {r : I.fm.R} (h : I.sem s = some r) : Ends P GT (tmpsOf P I.f) (rsOf P I.f) s (I.fm.res r) (I.fm.post r) := by
  intro c K a w b cs R0
  obtain ⟨s', K', a', w', ⟨h2, h3⟩, R', h4, h5⟩ := FnI.semR_ok hm (FnI.sem_iff.1 h) c K a w b cs R0
  obtain ⟨res0, res1, ren, nx, lo, g1, g2, g3, g3', g4⟩ := Fm.fin_ok h3
  exact ⟨s', res0, res1, ren, nx, lo, K', a', w', R', h4, h5, h2, g1, g2, g3, g3', g4⟩
@[reducible] def FnI.at (I : FnI P GT) (as : List AV) (pre : List (Nat × Obj)) : Pos := ⟨[.code (bodyOf P I.f)], st0 as pre⟩
noncomputable def FnI.call (I : FnI P GT) (as : List AV) (pre : List (Nat × Obj)) : Option I.fm.R :=
  if fnOk P I.f as.length && pre.all (fun p => decide (p.1 < 8)) then I.sem (I.at as pre) else none
theorem FnI.call_ok (hm : P.follows .mixedOrders = true) {as : List AV} {pre : List (Nat × Obj)} {r : I.fm.R} (h : I.call as pre = some r) : CallOK P GT I.f as pre (I.fm.res r) (I.fm.post r) := by
  unfold FnI.call at h
  split at h
  · rename_i hc
    simp only [Bool.and_eq_true] at hc
    exact callOK_of hc.1 hc.2 (FnI.sem_ends hm h)
  · cases h
noncomputable def FnI.summ (I : FnI P GT) (hm : P.follows .mixedOrders = true) (acc : List AV → Bool) (rows nils : Bool) (drop : Bool := false) : Summ P GT :=
  { f := I.f, acc := acc, rows := rows, nils := nils, drop := drop, R := I.fm.R, fn := I.call, res := I.fm.res, post := I.fm.post, ok := fun as pre r h => FnI.call_ok hm h }
theorem FnI.call_eq {as : List AV} {pre : List (Nat × Obj)} (h : (fnOk P I.f as.length && pre.all (fun p => decide (p.1 < 8))) = true) : I.call as pre = I.go (I.at as pre) I.sem := by
  unfold FnI.call
  rw [if_pos h]
  exact FnI.sem_eq _
end
end Go.Ab

/-
  From what a law's arguments read as to plain values, and back.
-/
set_option linter.unusedVariables false
set_option linter.unusedSimpArgs false
namespace Go.Ab
open Go
def plainTy : Ty → Bool
  | .arr _ e => plainTy e
  | .pair a b => plainTy a && plainTy b
  | .slice e => plainTy e && decide (0 < e.sz)
  | .fn => false
  | _ => true
section
variable {P : Program} {H : Type} {enc : TypeId × Value → H} {w : World} {base : Nat} {spare : Nat → Bool} {held : Bool}
abbrev InW (w : World) : Nat → Prop := fun b => b < w.heap.size
end
section
variable {P : Program} {H : Type} {enc : TypeId × Value → H} {w : World} {base : Nat} {spare : Nat → Bool} {held : Bool}
theorem laid_arr {fuel : Nat} {T E : TypeId} {n : Nat} {k : IntKind} {zs : List Int} {cs : List Value} {q : List MemPlace} (hT : P.underlying T = some (.array n E)) (hE : P.underlying E = some (.int k)) (hc : P.cellsOf E = 1) (hcT : P.cellsOf T = n)
    (h : DataW.trod enc P w base spare held fuel T cs = some (.agg (zs.map fun z => .lit (.int k z)), q)) : cs = zs.map (Value.int k) := by
  obtain ⟨xs, m, _, hx, hlen, hl, he⟩ := DataW.trod_array hT h
  simp only [Prod.mk.injEq, DataW.agg.injEq] at hx
  rw [hcT] at hlen
  have hzl : zs.length = xs.length := by have := congrArg List.length hx.1; simpa using this
  refine List.ext_getElem (by simp; omega) (fun i h1 h2 => ?_)
  have hi := he i (by omega)
  rw [hc, List.getElem?_eq_getElem (by omega)] at hi
  obtain ⟨z, e1, e2, _⟩ := DataW.trod_int hE hi
  have e3 : cs[i]? = some (.int k z) := by
    have := congrArg (·[0]?) e1
    simp only [Nat.mul_one, List.getElem?_take, List.getElem?_drop, Nat.add_zero] at this
    simpa using this
  have e4 : zs[i]? = some z := by
    have := congrArg (·[i]?) hx.1
    simp only [List.getElem?_map] at this
    rw [List.getElem?_eq_getElem (by omega : i < xs.length), e2] at this
    cases hz : zs[i]? with
    | none => rw [hz] at this; simp at this
    | some z' =>
      rw [hz] at this
      simp only [Option.map_some, Option.some.injEq, DataW.lit.injEq, Lit.int.injEq, true_and] at this
      rw [this]
  simp only [List.getElem_map]
  rw [List.getElem?_eq_getElem h1] at e3
  simp only [Option.some.injEq] at e3
  rw [e3]
  rw [List.getElem?_eq_getElem (by simpa using h2)] at e4
  simp only [Option.some.injEq] at e4
  rw [e4]
theorem glob_arr {g n : Nat} {k : IntKind} {zs : List Int} {cs : List Value} (hcs : cs = zs.map (Value.int k)) (hl : zs.length = n) (hcell : ∀ i v, cs[i]? = some v → w.cell? ⟨g, i, none⟩ = some v) :
    ∃ cs, CellsAt w g 0 cs ∧ PRd w (fun _ => False) (.arr n (.int k)) (zs : List Int) cs := by
  refine ⟨cs, fun j v hj => by rw [Nat.zero_add]; exact hcell j v hj, hl, ?_⟩
  subst hcs
  exact cat_nums zs
end
def isAggV : Value → Bool
  | .agg _ => true
  | _ => false
theorem PRd.val {w : World} {N : Bool → Nat → Prop} {K : Kn} (hN : ∀ b, b < w.heap.size → N false b) (hlow : ∀ b, N true b → N false b) {t : Ty} {x : pden t} {v : Value} {cs : List Value} (h0 : PRd w (InW w) t x cs) (hc : v.cells.toList = cs) (hv : isAggV v = t.agg) (hf : plainTy t = true) : VRd w N K (toAV t (inj false t x)) v := by
  have h : PRd w (N false) t x cs := h0.keep ⟨fun b hb => ⟨hN b hb, rfl⟩⟩
  clear h0
  cases t with
  | arr n e => 
    cases v <;> simp [Ty.agg, isAggV] at hv
    rename_i a
    exact ⟨cs, by simp [Value.cells] at hc; rw [← hc], rfl, inj_rd (N := N) hlow false h⟩
  | pair a b =>
    cases v <;> simp [Ty.agg, isAggV] at hv
    exact ⟨cs, by simp [Value.cells] at hc; rw [← hc], rfl, inj_rd (N := N) hlow false h⟩
  | unit =>
    cases v <;> simp [Ty.agg, isAggV] at hv
    exact ⟨cs, by simp [Value.cells] at hc; rw [← hc], rfl, inj_rd (N := N) hlow false h⟩
  | int k =>
    simp only [PRd] at h; subst h
    cases v <;> simp [Ty.agg, isAggV, Value.cells] at hv hc <;> first | exact hc | skip
    all_goals simp_all [toAV, inj, VRd]
  | bool =>
    simp only [PRd] at h; subst h
    cases v <;> simp [Ty.agg, isAggV, Value.cells] at hv hc <;> first | exact hc | skip
    all_goals simp_all [toAV, inj, VRd]
  | str =>
    simp only [PRd] at h; subst h
    cases v <;> simp [Ty.agg, isAggV, Value.cells] at hv hc <;> first | exact hc | skip
    all_goals simp_all [toAV, inj, VRd]
  | slice e =>
    obtain ⟨A, cap, rfl, h1, h2⟩ := h
    cases v <;> simp [Ty.agg, isAggV, Value.cells] at hv hc
    obtain ⟨rfl, rfl, rfl⟩ := hc
    exact ⟨_, _, rfl, h1, h2⟩
  | fn => simp [plainTy] at hf
theorem CallOK.below {P : Program} {GT : GTab} {f : Nat} {args : List AV} {res : TV} {post : List (Nat × Obj)} (h : CallOK P GT f args [] res post) {w : World} (hg : Glob P GT w) {vs : List Value}
    (ha : ∀ (N : Bool → Nat → Prop) (K : Kn), (∀ b, b < w.heap.size → N false b) → (∀ b, N true b → N false b) → VRdL w N K args vs) {v : Value} (hr : ∀ (N : Bool → Nat → Prop) (K : Kn) (w' : World) (u : Value), TVRd w' N K res u → u = v) (hb : (P.funcs[f]?).map (·.body.isSome) = some true) (hn : (P.funcs[f]?).map (·.name == "runtime.NumGoroutine") = some false) :
    Calls P f vs.toArray w fun e w' => e = .returned v ∧ RowKit.Below w.heap.size w w' := by
  have h1 := h w (InW w) (fun _ => False) (fun _ => none) vs hg ⟨(fun l o hl => by cases hl), (fun l o gh p hl => by cases hl), (fun l l' o o' gh gh' p p' hl => by cases hl), ⟨rfl, rfl, rfl, Nat.le_refl _, fun _ _ _ => rfl⟩⟩
    (fun b hb => hb.elim) (fun l hl => rfl) (fun b hb => hb) (ha _ _ (fun b hb => ⟨hb, (fun hl => by obtain ⟨l, o, gh, p, q, _⟩ := hl; cases q), .inr (.inr ⟨rfl, .inl hb⟩)⟩) NN.low)
  unfold Called at h1
  obtain ⟨fn, hf, hbs⟩ := Option.map_eq_some_iff.1 hb
  obtain ⟨fn', hf', hnm⟩ := Option.map_eq_some_iff.1 hn
  rw [hf] at hf'; injection hf' with hf'; subst hf'
  obtain ⟨body, hbody⟩ := Option.isSome_iff_exists.1 hbs
  have hcf : (callFunc f vs.toArray).run P w = .ok (.enter f vs.toArray) w := by
    have hnm' : ¬ fn.name = "runtime.NumGoroutine" := by simpa using hnm
    simp [callFunc, hf, hnm', hbody]
  rw [hcf] at h1
  refine h1.mono ?_
  rintro e w' ⟨u, rfl, K', _, hI, hu⟩
  exact ⟨by rw [hr _ _ _ _ hu], hI.fr.os, hI.fr.tape, hI.fr.output, hI.fr.size, fun k hk => hI.fr.block k hk (fun h => h)⟩
end Go.Ab

/-
  Functions that are walked by hand: from what a walk tells to what calls ask for.
-/
set_option linter.unusedVariables false
set_option linter.unusedSimpArgs false
namespace Go.Ab
open Go
theorem Inv.more {c : Cx} {H : Look} {K : Kn} {w w' : World} (h : Inv c H K w) (h1 : w'.os = w.os) (h2 : w'.tape = w.tape) (h3 : w'.output = w.output) (hs : w.heap.size ≤ w'.heap.size) (hb : ∀ k, k < w.heap.size → w'.heap[k]? = w.heap[k]?) :
    Inv c H K w' ∧ KeepK w w' (NN c H K w) (NN c H K w') K K := by
  have hk : KeepK w w' (NN c H K w) (NN c H K w') K K := ⟨fun fr => ⟨fun b hb' => ⟨⟨Nat.lt_of_lt_of_le hb'.1 hs, hb'.2.1, hb'.2.2⟩, hb b hb'.1⟩⟩, fun _ _ h => h⟩
  refine ⟨⟨fun l o hl => ?_, fun l o gh p hl hg hp => ?_, h.inj, ?_⟩, hk⟩
  · obtain ⟨gh, g1, g2⟩ := h.objs l o hl
    exact ⟨gh, g1, g2.keep hk (fun p hp => hb _ (h.own l o gh p hl g1 hp).1)⟩
  · obtain ⟨a, b, d⟩ := h.own l o gh p hl hg hp
    exact ⟨Nat.lt_of_lt_of_le a hs, b, d⟩
  · exact ⟨h1.trans h.fr.os, h2.trans h.fr.tape, h3.trans h.fr.output, Nat.le_trans h.fr.size hs, fun k hk' hG => (hb k (Nat.lt_of_lt_of_le hk' h.fr.size)).trans (h.fr.block k hk' hG)⟩
theorem called_of {P : Program} {f : Nat} {args : Array Value} {w : World} {R : Value → World → Prop} (hb : (P.funcs[f]?).map (·.body.isSome) = some true) (hn : (P.funcs[f]?).map (·.name == "runtime.NumGoroutine") = some false)
    (h : Calls P f args w fun e w' => ∃ v, e = .returned v ∧ R v w') : Called P f args w R := by
  obtain ⟨fn, hf, hbs⟩ := Option.map_eq_some_iff.1 hb
  obtain ⟨fn', hf', hnm⟩ := Option.map_eq_some_iff.1 hn
  rw [hf] at hf'; injection hf' with hf'; subst hf'
  obtain ⟨body, hbody⟩ := Option.isSome_iff_exists.1 hbs
  have hcf : (callFunc f args).run P w = .ok (.enter f args) w := by
    have hnm' : ¬ fn.name = "runtime.NumGoroutine" := by simpa using hnm
    simp [callFunc, hf, hnm', hbody]
  unfold Called
  rw [hcf]
  exact h
end Go.Ab

/-
  Plain laws on numbers and lists, for the printed functions.
-/
set_option linter.unusedVariables false
set_option linter.unusedSimpArgs false
namespace Go.Ab
open Go
theorem w64 {x : Int} (h1 : -9223372036854775808 ≤ x) (h2 : x ≤ 9223372036854775807) : IntKind.wrap .i64 x = x := by
  simp [IntKind.wrap, IntKind.signed, IntKind.bits]; omega
theorem wu8 (x : Int) : IntKind.wrap .u8 x = x % 256 := by
  simp [IntKind.wrap, IntKind.signed, IntKind.bits]
theorem wu32 (x : Int) : IntKind.wrap .u32 x = x % 4294967296 := by
  simp [IntKind.wrap, IntKind.signed, IntKind.bits]
theorem fdiv_pos (a : Int) {b : Int} (h : 0 < b) : Int.fdiv a b = a / b := Int.fdiv_eq_ediv_of_nonneg _ (by omega)
theorem tdiv_nn {a b : Int} (h : 0 ≤ a) : Int.tdiv a b = a / b := Int.tdiv_eq_ediv_of_nonneg h
theorem tmod_nn {a b : Int} (h : 0 ≤ a) : Int.tmod a b = a % b := Int.tmod_eq_emod_of_nonneg h
theorem shr_i64 (a b : Int) (h0 : 0 ≤ b) (h : b ≤ 63) : shrBy .i64 a b = a / 2 ^ b.toNat := by
  unfold shrBy
  have : min b.toNat (IntKind.bits .i64) = b.toNat := by simp [IntKind.bits]; omega
  rw [this]
  exact Int.fdiv_eq_ediv_of_nonneg _ (by have : (0:Int) < 2 ^ b.toNat := Int.pow_pos (by decide); omega)
def Bts (xs : List Int) : Prop := ∀ x ∈ xs, 0 ≤ x ∧ x < 256
theorem Bts.nil : Bts [] := fun x hx => by cases hx
theorem Bts.append {a b : List Int} (ha : Bts a) (hb : Bts b) : Bts (a ++ b) := fun x hx => (List.mem_append.1 hx).elim (ha x) (hb x)
theorem Bts.take {a : List Int} (h : Bts a) (n : Nat) : Bts (a.take n) := fun x hx => h x (List.mem_of_mem_take hx)
theorem Bts.drop {a : List Int} (h : Bts a) (n : Nat) : Bts (a.drop n) := fun x hx => h x (List.mem_of_mem_drop hx)
theorem Bts.cons {a : List Int} {x : Int} (hx : 0 ≤ x ∧ x < 256) (h : Bts a) : Bts (x :: a) := fun y hy => by
  rcases List.mem_cons.1 hy with rfl | hy
  · exact hx
  · exact h y hy
theorem ofStr_toStr {xs : List Int} (h : Bts xs) : ofStr (toStr xs) = xs := by
  unfold ofStr toStr
  simp only [List.map_map]
  refine (List.map_congr_left (fun x hx => ?_)).trans (List.map_id xs)
  obtain ⟨h0, h1⟩ := h x hx
  simp only [Function.comp, UInt8.toNat_ofNat', id]
  omega
theorem toStr_size (xs : List Int) : (toStr xs).size = xs.length := by
  show ((xs.map fun n => UInt8.ofNat n.toNat).toArray).size = _
  simp
theorem toStr_inj {xs ys : List Int} (hx : Bts xs) (hy : Bts ys) (h : toStr xs = toStr ys) : xs = ys := by
  rw [← ofStr_toStr hx, h, ofStr_toStr hy]
theorem eqStr {xs ys : List Int} (hx : Bts xs) (hy : Bts ys) : (ByteArray.toList (toStr xs) == ByteArray.toList (toStr ys)) = decide (xs = ys) := by
  rw [Bool.eq_iff_iff, beq_iff_eq, decide_eq_true_eq]
  exact ⟨fun h => toStr_inj hx hy (toList_inj h), fun h => by rw [h]⟩
end Go.Ab

/-
  Regions in the rounds of a range over a function, and what abides while its book-keeping turns.
-/
set_option linter.unusedVariables false
set_option linter.unusedSimpArgs false
namespace Go.Ab
open Go
section
variable {c : Cx} {P : Program} {GT : GTab} {H : Look} {K : Kn} {w w' : World}
end
section
variable {c : Cx} {P : Program} {GT : GTab} {nt : Nat} {mnz : List Nat} {tab : List (Summ P GT)} {R : Type} {lf fin : Pos → Option R} {r : R}
theorem Does.mono {o : Oper} {ρ : Operand → Value} {w : World} {R R' : Value → World → Prop} (h : Does P o ρ w R) (hr : ∀ v w', R v w' → R' v w') : Does P o ρ w R' := by
  unfold Does at h ⊢
  split at h
  · exact hr _ _ h
  · exact hr _ _ h
  · refine Calls.mono h ?_
    rintro e w'' ⟨v, e1, h2⟩
    exact ⟨v, e1, hr _ _ h2⟩
  · exact h.elim
theorem RelS.keep {σ σ' : St} {K : Kn} {a : Act} {w : World} {ts : List Nat} {ren : List (Nat × Nat)} {nx : Nat} {lo : Bool} (R0 : RelS c P GT nt σ K a w) (h : σ.keep ts ren nx lo = some σ') :
    ∃ K', RelS c P GT nt σ' K' a w ∧ (∀ l, l < 8 → K' l = K l) ∧ (∀ b, NN c (lkOf σ.heap) K w false b → NN c (lkOf σ'.heap) K' w false b) ∧ (∀ l m, newOf ren l = some m → K' m = K l) ∧ ∀ l o gh p, newOf ren l = none → lkOf σ.heap l = some o → K l = some gh → Has gh p → NN c (lkOf σ'.heap) K' w false p.blk := by
  unfold St.keep at h
  split at h
  · rename_i hok
    split at h
    · rename_i tl hl0 e1 e2
      simp only [Option.some.injEq] at h; subst h
      obtain ⟨K', X, hI, h8, hx⟩ := keep_core R0 hok e2
      refine ⟨K', ⟨⟨hI, fun t => ?_, R0.rel.size, R0.rel.defers, R0.rel.ng, R0.rel.gng, R0.rel.glob⟩, fun l hl => hx l hl⟩, h8, fun b hb => by simpa using X.n false b hb, X.k, fun l o gh p h1 h2 h3 h4 => by simpa using X.gone l o gh p trivial h1 h2 h3 h4 false⟩
      show TVRd w (NN c (lkOf hl0) K' w) K' (St.look ⟨tl, hl0, nx⟩ t) _
      unfold St.look
      split
      · rename_i v hv
        exact keepTV_rd X R0.rel.inv (fun _ _ h => h) (fun _ _ => trivial) (keepTs_look e1 hv) (R0.rel.tmps t)
      · trivial
    · cases h
  · cases h
theorem Inv.df {H : Look} {K : Kn} {w : World} (h : Inv c H K w) (d : List Deferred) : Inv { c with df := d } H K w := ⟨h.objs, h.own, h.inj, ⟨h.fr.os, h.fr.tape, h.fr.output, h.fr.size, h.fr.block⟩⟩
theorem RelS.df {σ : St} {K : Kn} {a : Act} {w : World} (h : RelS c P GT nt σ K a w) (d : List Deferred) : RelS { c with df := d } P GT nt σ K { a with defers := d } w :=
  ⟨⟨h.rel.inv.df d, h.rel.tmps, h.rel.size, rfl, h.rel.ng, h.rel.gng, h.rel.glob⟩, h.fresh⟩
end
section
variable {F : Fence} {n : Nat} {P : Program} {Q : Exit → Act → World → Prop} {a : Act} {w : World}
end
section
variable {c : Cx} {P : Program} {GT : GTab} {nt : Nat} {mnz : List Nat} {tab : List (Summ P GT)} {R : Type} {lf fin : Pos → Option R} {r : R}
end
end Go.Ab

/-
  A law's row where the world's shape is kept: some int stands in a variable that no one lists.
-/
set_option linter.unusedVariables false
namespace Go.Ab
open Go
variable {H : Type} {enc : TypeId × Value → H}
theorem returns_shaped {C : Checked} {os : Os} {f : FuncId} {fn : Func} {s : ChangeSpec} {conds : List PathCond} {apart : Bool} {X : World → Prop}
    (hX : ∀ w w' : World, w.heap = w'.heap → X w → X w') (own : ownKnob C.prog.godebug = none) (started : os.Started) (noInit : C.prog.inits.idxOf? f = none) (hfn : C.prog.funcs[f]? = some fn)
    (wit : ∃ (w : World) (tape : Tape) (i : Input), w.os = os ∧ (w.forCall tape i).Shaped C.prog ∧ i.vars = [] ∧ Input.okWide C.prog (w.forCall tape i) .any w.heap.size f i ∧
      ((s.pre enc C.prog fn conds apart (w.forCall tape i).memory i.args ∧ X (w.forCall tape i).memory) ∧ sizedMet enc C.prog fn (OpenSpec.ofChange s) apart (w.forCall tape i).memory i.args) ∧ Assume.holds {} C.prog (lone (Frame.enter C.prog f i.args .normal) [] (w.forCall tape i)))
    (con : ∀ (W : World) (base : Nat) (args : Array Value) (ds gs : List (DataW H)) (before : List MemPlace), X W → W.ShapedOpen C.prog →
      (∀ (j : Nat) t v, fn.params[j]? = some t → args[j]? = some v → Value.okWide C.prog W .any base t v) → DataW.Whole enc C.prog fn.params.toList s.vars apart W args.toList ds gs before →
      Calls C.prog f args W fun e W' => ∃ v, e = .returned v ∧ s.post enc C.prog fn apart true false false W args v W') :
    ReturnsInHanded {} C os f .any (fun w args => (s.pre enc C.prog fn conds apart w args ∧ X w) ∧ sizedMet enc C.prog fn (OpenSpec.ofChange s) apart w args) (s.post enc C.prog fn apart true false false) := by
  refine returnsInHanded_of_calls own started noInit wit fun w tape i _ hs _ ok pre _ => ?_
  obtain ⟨_, _, _, fn', e', _, _, _, _, hv⟩ := ok
  obtain rfl : fn' = fn := Option.some.inj (e'.symm.trans hfn)
  obtain ⟨⟨⟨ds, gs, before, hw, _⟩, hx⟩, _⟩ := pre
  refine (con (w.forCall tape i) w.heap.size i.args ds gs before (hX _ _ (by rfl) hx) hs hv (DataW.Whole.of_heap (w' := w.forCall tape i) (by rfl) hw)).mono fun e W' ⟨v, he, hp⟩ => ?_
  subst he
  exact ChangeSpec.post_blind hp
end Go.Ab
