/-
  An abstract machine over the model's code and its soundness; what the functions compute, as plain functions (printed by a program of this repo's own, checked here by the kernel); plain laws of them: part 4. Helper text, no statement of the claim stands here.
-/
import Derived.Test.YtbehddacclfckaaGreatDoorTxtEc
import Derived.Test.YtbehddacclfckaaGreatDoorProg
import Derived.WalkKit
import Derived.LaidEql
import Derived.Stop.Asserts
import Derived.RowKitTokens
set_option linter.unusedVariables false
set_option linter.unusedSimpArgs false
namespace Go.Ab.As
open Go Go.Proofs Go.RowKit Go.Extern.Stop Go.Stop Go.Extern
theorem as_nil (t : Value) (w : World) :
    Calls Tryz.prog 128 #[.nilIface, t] w fun e w' => e = .returned (.bool false) ∧ w' = w := by
  go_enter Tryz.func128, Tryz.ntmps128
  go_wp2
  go_ret
  exact ⟨rfl, rfl⟩
theorem qWy (t : Addr) (w : World) : (ReflectliteValue.unpack (.iface 243 (.pointer (some t)))).run Tryz.prog w
    = .ok (.agg #[.pointer (some ⟨7, 243, none⟩), .pointer (some ⟨w.heap.size, 0, none⟩), .int .u64 150]) (w.alloc (.cells #[.pointer (some t)] 243)) := by kernel_rfl
theorem qDC (a : Addr) (w : World) : (ReflectliteValue.methodAny (ReflectliteValue.valueError "reflectlite.Value.Type" 0) (fun t _ _ _ => ReflectliteType.toType t) #[.agg #[.pointer (some ⟨7, 243, none⟩), .pointer (some a), .int .u64 150]]).run Tryz.prog w
    = .ok (.iface 410 (.agg #[.pointer (some ⟨7, 243, none⟩)])) w := by kernel_rfl
theorem qLv (h : Value) (w : World) : (Go.method 673 410 (.agg #[h]) "Kind").run Tryz.prog w = .ok (402, h) w := by kernel_rfl
theorem qQC (w : World) : ((ReflectliteType.abiMethod fun t => (fun a : Nat => Value.int IntKind.u8 (a : Int)) <$> Rtype.kind t) #[.pointer (some ⟨7, 243, none⟩)]).run Tryz.prog w = .ok (.int .u8 22) w := by kernel_rfl
theorem qRC (w : World) : ((ReflectliteType.abiMethod fun t => (fun a : Nat => Value.int IntKind.u8 (a : Int)) <$> Rtype.kind t) #[.pointer (some ⟨7, 24, none⟩)]).run Tryz.prog w = .ok (.int .u8 2) w := by kernel_rfl
theorem rlm (z : Sem Value) (f : TypeId → Addr → Nat → Nat → Sem Value) (v : Value) :
    ReflectliteValue.method z f #[v] = (do match ← ReflectliteValue.parts v with | none => z | some (t, a, fl) => f t a fl (fl % 32)) := rfl
theorem qcA (a : Addr) (w : World) : (ReflectliteValue.parts (.agg #[.pointer (some ⟨7, 243, none⟩), .pointer (some a), .int .u64 150])).run Tryz.prog w = .ok (some (243, a, 150)) w := by kernel_rfl
theorem qUB (a p : Addr) (W : World) (ha : W.cell? a = some (.pointer (some p))) :
    (ReflectliteValue.method (ReflectliteValue.valueError "reflectlite.Value.IsNil" 0) ReflectliteValue.isNil #[.agg #[.pointer (some ⟨7, 243, none⟩), .pointer (some a), .int .u64 150]]).run Tryz.prog W = .ok (.bool false) W := by
  rw [rlm]
  simp only [Sem.run_bind, qcA, Result.andThen]
  simp [ReflectliteValue.isNil, loadVar, isAgg, underlying, Tryz.underlying243, ha, Result.andThen]
theorem qMv (h : Value) (w : World) : (Go.method 673 410 (.agg #[h]) "Elem").run Tryz.prog w = .ok (412, .agg #[h]) w := by kernel_rfl
theorem qUm (h : Value) (w : World) : (Go.method 673 410 (.agg #[h]) "Implements").run Tryz.prog w = .ok (413, .agg #[h]) w := by kernel_rfl
theorem qcl (h : Value) (w : World) : (Go.method 673 410 (.agg #[h]) "AssignableTo").run Tryz.prog w = .ok (410, .agg #[h]) w := by kernel_rfl
theorem qVC (w : World) : (ReflectliteType.method ReflectliteType.elem #[.agg #[.pointer (some ⟨7, 243, none⟩)]]).run Tryz.prog w = .ok (.iface 410 (.agg #[.pointer (some ⟨7, 24, none⟩)])) w := by kernel_rfl
theorem qyt (w : World) : (ReflectliteType.relation "Implements" ReflectliteType.implements_ #[.agg #[.pointer (some ⟨7, 24, none⟩)], .iface 410 (.agg #[.pointer (some ⟨7, 239, none⟩)])]).run Tryz.prog w = .ok (.bool true) w := by kernel_rfl
theorem qzA (v : Value) (w : World) : (ReflectliteType.typeOf #[.iface 24 v]).run Tryz.prog w = .ok (.iface 410 (.agg #[.pointer (some ⟨7, 24, none⟩)])) w := by kernel_rfl
theorem qYt (w : World) : (ReflectliteType.relation "AssignableTo" ReflectliteType.assignableTo #[.agg #[.pointer (some ⟨7, 24, none⟩)], .iface 410 (.agg #[.pointer (some ⟨7, 24, none⟩)])]).run Tryz.prog w = .ok (.bool true) w := by kernel_rfl
theorem qXy (n : Int) (w : World) : (ReflectliteValue.unpack (.iface 24 (.int .i64 n))).run Tryz.prog w
    = .ok (.agg #[.pointer (some ⟨7, 24, none⟩), .pointer (some ⟨w.heap.size, 0, none⟩), .int .u64 130]) (w.alloc (.cells #[.int .i64 n] 24)) := by kernel_rfl
theorem qdB (w : World) : (Rtype.elem? 243).run Tryz.prog w = .ok (some 24) w := by kernel_rfl
theorem mkE (p : Addr) (w : World) : (ReflectliteValue.mk 24 p ReflectliteValue.flagAddr).run Tryz.prog w = .ok (.agg #[.pointer (some ⟨7, 24, none⟩), .pointer (some p), .int .u64 386]) w := by kernel_rfl
theorem qeC (a p : Addr) (W : World) (ha : W.cell? a = some (.pointer (some p))) :
    (ReflectliteValue.method (ReflectliteValue.valueError "reflectlite.Value.Elem" 0) ReflectliteValue.elem #[.agg #[.pointer (some ⟨7, 243, none⟩), .pointer (some a), .int .u64 150]]).run Tryz.prog W
      = .ok (.agg #[.pointer (some ⟨7, 24, none⟩), .pointer (some p), .int .u64 386]) W := by
  rw [rlm]
  simp only [Sem.run_bind, qcA, Result.andThen]
  simp [ReflectliteValue.elem, loadVar, isAgg, underlying, Tryz.underlying243, ha, Result.andThen, qdB, mkE]
theorem rls (v x : Value) : ReflectliteValue.set #[v, x] = (do
    let (some (dst, a, fl), some (src, b, _)) := (← ReflectliteValue.parts v, ← ReflectliteValue.parts x)
      | unsupported (.noEntry "extern/(internal/reflectlite.Value).Set.zeroValue")
    if fl / ReflectliteValue.flagAddr % 2 == 0 then unsupported (.noEntry "extern/(internal/reflectlite.Value).Set.unaddressable")
    let val ← loadVar src b
    if ← Rtype.directlyAssignable dst src then storeVar dst a val
    else if ← Rtype.implements dst src then
      if (← Rtype.kind src) == 20 then
        match val with
        | .nilIface => unsupported (.noEntry "extern/reflectlite: a nil value of one interface type handed on as a value of another")
        | _ => storeVar dst a val
      else storeVar dst a (.iface src val)
    else panicString ("reflectlite.Set: value of type " ++ (← Rtype.spelt src) ++ " is not assignable to type " ++ (← Rtype.spelt dst))
    pure (.tuple #[])) := rfl
theorem qQA (a : Addr) (w : World) : (ReflectliteValue.parts (.agg #[.pointer (some ⟨7, 24, none⟩), .pointer (some a), .int .u64 386])).run Tryz.prog w = .ok (some (24, a, 386)) w := by kernel_rfl
theorem qHB (a : Addr) (w : World) : (ReflectliteValue.parts (.agg #[.pointer (some ⟨7, 24, none⟩), .pointer (some a), .int .u64 130])).run Tryz.prog w = .ok (some (24, a, 130)) w := by kernel_rfl
theorem qhB (w : World) : (Rtype.directlyAssignable 24 24).run Tryz.prog w = .ok true w := by kernel_rfl
theorem qyD (ta b : Addr) (n : Int) (old : Value) (W : World) (hb : W.cell? b = some (.int .i64 n)) (ht : W.cell? ta = some old) (hf : W.frozen? ta = false) :
    (ReflectliteValue.set #[.agg #[.pointer (some ⟨7, 24, none⟩), .pointer (some ta), .int .u64 386], .agg #[.pointer (some ⟨7, 24, none⟩), .pointer (some b), .int .u64 130]]).run Tryz.prog W
      = .ok (.tuple #[]) (W.setCell ta (.int .i64 n)) := by
  rw [rls]
  simp only [Sem.run_bind, qQA, qHB, Result.andThen]
  simp [ReflectliteValue.flagAddr, loadVar, isAgg, underlying, Tryz.underlying24, hb, Result.andThen, qhB, storeVar, Value.cells, storeCells, Addr.add]
  rw [run_store Tryz.prog W ta _ _ (by rfl)]
  simp [ht, hf]
set_option maxHeartbeats 4000000 in
set_option maxRecDepth 100000 in
theorem as_hit (n : Int) (t : Addr) (old : Value) (w : World) (hg : w.cell? ⟨2, 0, none⟩ = some (.iface 410 (.agg #[.pointer (some ⟨7, 239, none⟩)]))) (ht0 : w.cell? t = some old) (hf0 : w.frozen? t = false) :
    Calls Tryz.prog 128 #[.iface 24 (.int .i64 n), .iface 243 (.pointer (some t))] w fun ev w' => ev = .returned (.bool true) ∧ w' = ((((w.alloc (.cells #[.pointer (some t)] 243)).alloc (.cells #[.pointer (some ⟨7, 243, none⟩), .pointer (some ⟨w.heap.size, 0, none⟩), .int .u64 150] 322)).alloc (.cells #[.pointer (some ⟨7, 243, none⟩), .pointer (some ⟨w.heap.size, 0, none⟩), .int .u64 150] 322)).alloc (.cells #[.int .i64 n] 24)).setCell t (.int .i64 n) := by
  have h6 := @run_callFunc_extern Tryz.prog 187 _ (fun args => ReflectliteValue.unpack (args.getD 0 (.tuple #[]))) Tryz.func187 (by kernel_rfl) (by kernel_rfl) (by kernel_rfl) (by kernel_rfl)
  have h7 := @run_callFunc_extern Tryz.prog 188 _ (ReflectliteValue.methodAny (ReflectliteValue.valueError "reflectlite.Value.Type" 0) (fun t _ _ _ => ReflectliteType.toType t)) Tryz.func188 (by kernel_rfl) (by kernel_rfl) (by kernel_rfl) (by kernel_rfl)
  have h8 := @run_callFunc_extern Tryz.prog 189 _ (ReflectliteValue.method (ReflectliteValue.valueError "reflectlite.Value.IsNil" 0) ReflectliteValue.isNil) Tryz.func189 (by kernel_rfl) (by kernel_rfl) (by kernel_rfl) (by kernel_rfl)
  have h27 := @run_callFunc_extern Tryz.prog 402 _ (ReflectliteType.abiMethod fun t => do pure (.int .u8 (← Rtype.kind t))) Tryz.func402 (by kernel_rfl) (by kernel_rfl) (by kernel_rfl) (by kernel_rfl)
  have h37 := @run_callFunc_extern Tryz.prog 412 _ (ReflectliteType.method ReflectliteType.elem) Tryz.func412 (by kernel_rfl) (by kernel_rfl) (by kernel_rfl) (by kernel_rfl)
  have h38 := @run_callFunc_extern Tryz.prog 413 _ (ReflectliteType.relation "Implements" ReflectliteType.implements_) Tryz.func413 (by kernel_rfl) (by kernel_rfl) (by kernel_rfl) (by kernel_rfl)
  have h10 := @run_callFunc_extern Tryz.prog 258 _ ReflectliteType.typeOf Tryz.func258 (by kernel_rfl) (by kernel_rfl) (by kernel_rfl) (by kernel_rfl)
  have h35 := @run_callFunc_extern Tryz.prog 410 _ (ReflectliteType.relation "AssignableTo" ReflectliteType.assignableTo) Tryz.func410 (by kernel_rfl) (by kernel_rfl) (by kernel_rfl) (by kernel_rfl)
  have h11 := @run_callFunc_extern Tryz.prog 259 _ (ReflectliteValue.method (ReflectliteValue.valueError "reflectlite.Value.Elem" 0) ReflectliteValue.elem) Tryz.func259 (by kernel_rfl) (by kernel_rfl) (by kernel_rfl) (by kernel_rfl)
  have h12 := @run_callFunc_extern Tryz.prog 260 _ ReflectliteValue.set Tryz.func260 (by kernel_rfl) (by kernel_rfl) (by kernel_rfl) (by kernel_rfl)
  have tO := qzA
  have mA := qcl
  have a25 := qYt
  have v25 := qXy
  have f6 := qWy
  have f7 := qDC
  have mK := qLv
  have mE := qMv
  have mI := qUm
  have k27 := qQC
  have k25 := qRC
  have e27 := qVC
  have i25 := qyt
  have n8 := qUB ⟨w.heap.size, 0, none⟩ t ((w.alloc (.cells #[.pointer (some t)] 243)).alloc (.cells #[.pointer (some ⟨7, 243, none⟩), .pointer (some ⟨w.heap.size, 0, none⟩), .int .u64 150] 322)) (by simp)
  have hlt : 2 < w.heap.size := by
    rcases Nat.lt_or_ge 2 w.heap.size with h | h
    · exact h
    · simp [World.cell?, Array.getElem?_eq_none h] at hg
  have hg2 : ((w.alloc (.cells #[.pointer (some t)] 243)).alloc (.cells #[.pointer (some ⟨7, 243, none⟩), .pointer (some ⟨w.heap.size, 0, none⟩), .int .u64 150] 322)).cell? ⟨2, 0, none⟩ = some (.iface 410 (.agg #[.pointer (some ⟨7, 239, none⟩)])) := by
    rw [World.cell?_alloc_lt _ _ ⟨2, 0, none⟩ (by first | (simp; done) | (simp; omega)), World.cell?_alloc_lt _ _ ⟨2, 0, none⟩ hlt]; exact hg
  have htl : t.block < w.heap.size := by
    rcases Nat.lt_or_ge t.block w.heap.size with h | h
    · exact h
    · simp [World.cell?, Array.getElem?_eq_none h] at ht0
  have el := qeC ⟨w.heap.size, 0, none⟩ t (((w.alloc (.cells #[.pointer (some t)] 243)).alloc (.cells #[.pointer (some ⟨7, 243, none⟩), .pointer (some ⟨w.heap.size, 0, none⟩), .int .u64 150] 322)).alloc (.cells #[.pointer (some ⟨7, 243, none⟩), .pointer (some ⟨w.heap.size, 0, none⟩), .int .u64 150] 322)) (by rw [World.cell?_alloc_lt _ _ ⟨w.heap.size, 0, none⟩ (by first | (simp; done) | (simp; omega))]; simp)
  have st := qyD t ⟨w.heap.size + 1 + 1 + 1, 0, none⟩ n old ((((w.alloc (.cells #[.pointer (some t)] 243)).alloc (.cells #[.pointer (some ⟨7, 243, none⟩), .pointer (some ⟨w.heap.size, 0, none⟩), .int .u64 150] 322)).alloc (.cells #[.pointer (some ⟨7, 243, none⟩), .pointer (some ⟨w.heap.size, 0, none⟩), .int .u64 150] 322)).alloc (.cells #[.int .i64 n] 24))
    (by rw [World.cell?_alloc_at _ _ _ _ (by simp)]; rfl)
    (by rw [World.cell?_alloc_lt _ _ t (by first | (simp; done) | (simp; omega)), World.cell?_alloc_lt _ _ t (by first | (simp; done) | (simp; omega)), World.cell?_alloc_lt _ _ t (by first | (simp; done) | (simp; omega)), World.cell?_alloc_lt _ _ t htl]; exact ht0)
    (by rw [World.frozen?_alloc_old _ _ t (by first | (simp; done) | (simp; omega)), World.frozen?_alloc_old _ _ t (by first | (simp; done) | (simp; omega)), World.frozen?_alloc_old _ _ t (by first | (simp; done) | (simp; omega)), World.frozen?_alloc_old _ _ t (Nat.ne_of_lt htl)]; exact hf0)
  go_enter Tryz.func128, Tryz.ntmps128
  go_wp2
  refine wp_loop_rounds 1 ?_
  rw [rounds_succ]
  go_wp2
  go_ret
  exact ⟨rfl, rfl⟩
end Go.Ab.As

set_option linter.unusedVariables false
set_option linter.unusedSimpArgs false
namespace Go.Ab
open Go Go.Proofs Go.RowKit
def qAh (a0 : Option Int) (b0 : Int) : Option (Bool × Int) := some (match a0 with
  | some n => (true, n)
  | none => (false, b0))
theorem qIp (n b0 : Int) : qAh (some n) b0 = some (true, n) := rfl
theorem qJp (b0 : Int) : qAh none b0 = some (false, b0) := rfl
def qfj : List AV → List (Nat × Obj) → Option (Bool × Int)
  | [.eri T .i64 x, .ifp TP (.int .i64) 0 []], [(0, .box (.int .i64) v)] => if T = 24 ∧ TP = 243 then qAh x v else none
  | _, _ => none
theorem As.oneRow : ((List.range Tryz.prog.types.size).filter fun t => Tryz.prog.rowNamed t [101, 114, 114, 111, 114]) = [239] := by kernel_rfl
theorem As.rt : (Tryz.prog.cutTypes.find? (·.1 == "internal/reflectlite.rtype")).map (·.2) = some 410 := by kernel_rfl
theorem As.hdl {w : World} {g : Nat} (h : Hdl Tryz.prog w g) : w.cell? ⟨g, 0, none⟩ = some (.iface 410 (.agg #[.pointer (some ⟨7, 239, none⟩)])) := by
  obtain ⟨u, ty, e1, e2, e3, e4⟩ := h
  obtain rfl := Option.some.inj (As.rt.symm.trans e1)
  have hm : ty ∈ (List.range Tryz.prog.types.size).filter fun t => Tryz.prog.rowNamed t [101, 114, 114, 111, 114] := List.mem_filter.2 ⟨List.mem_range.2 e2, e3⟩
  rw [As.oneRow] at hm
  obtain rfl := List.mem_singleton.1 hm
  have hh : typeHandle Tryz.prog 239 = .pointer (some ⟨7, 239, none⟩) := by kernel_rfl
  rw [hh] at e4
  exact e4
set_option maxRecDepth 100000 in
theorem qus {GT : qvf} (hGT : lookL GT 2 = some ⟨.unit, ()⟩) {avs : List AV} {pre : List (Nat × Obj)} {r : Bool × Int} (h : qfj avs pre = some r) : CallOK Tryz.prog GT 128 avs pre (.one (.bool r.1)) [(0, .box (.int .i64) r.2)] := by
  unfold qfj at h
  split at h
  · rename_i T x TP v
    split at h
    · rename_i hT
      obtain ⟨rfl, rfl⟩ := hT
      intro w F G K vs hg hI hG hK hF hv
      obtain ⟨v1, r1, rfl, h1, h2⟩ := hv
      obtain ⟨v2, r2, rfl, h2, h3⟩ := h2
      simp only [VRdL] at h3; subst h3
      obtain ⟨sh, pl, po, k1, k2, rfl⟩ := h2
      obtain ⟨gh, g1, g2⟩ := hI.objs 0 (.box (.int .i64) v) rfl
      rw [k1] at g1; injection g1 with g1; subst g1
      obtain ⟨q1, p, cs, q2, q3, q4⟩ := g2
      rcases k2 with ⟨k3, k2⟩ | ⟨_, _, _, _, _, _, _, hp, _, _⟩ | ⟨_, _, _, _, _, _, _, _, hp, _, _⟩
      rotate_left
      · cases hp
      · cases hp
      rw [k3] at q2; injection q2 with q2; subst q2
      rw [q1] at k2
      obtain ⟨sh1, sh2⟩ := sh; simp only at q1 k3; subst q1; subst k3
      simp only [ARd] at q4; subst q4
      simp only [qkh, qya, Option.some.injEq, Prod.mk.injEq] at k2
      obtain ⟨rfl, _⟩ := k2
      have hcell : w.cell? ⟨pl.blk, pl.ob + 0, none⟩ = some (.int .i64 v) := q3.cells 0 _ rfl
      have hlt := q3.lt
      have hob : pl.ob + 0 < pl.bs := by obtain ⟨_, _, _, _, _, _, h5, _⟩ := q3; simp only [List.length_cons, List.length_nil] at h5; omega
      have hfree : w.frozen? ⟨pl.blk, pl.ob + 0, none⟩ = false := q3.free hob
      refine qAy (by kernel_rfl) (by kernel_rfl) ?_
      cases x with
      | none =>
        simp only [qAh, Option.some.injEq] at h; subst h
        simp only [VRd] at h1; subst h1
        refine (As.as_nil _ w).mono ?_
        rintro e w' ⟨rfl, rfl⟩
        exact ⟨_, rfl, K, fun _ _ h => h, hI, rfl⟩
      | some n =>
        simp only [qAh, Option.some.injEq] at h; subst h
        simp only [VRd] at h1; subst h1
        have hc := As.hdl (hg.2.2.1 2 hGT)
        refine (As.as_hit n ⟨pl.blk, pl.ob + 0, none⟩ _ w hc hcell hfree).mono ?_
        rintro e w' ⟨rfl, rfl⟩
        refine ⟨_, rfl, K, fun _ _ h => h, ?_, rfl⟩
        generalize hw4 : (((w.alloc _).alloc _).alloc _).alloc _ = w4
        have hm := hI.more (w' := w4) (by subst hw4; rfl) (by subst hw4; rfl) (by subst hw4; rfl) (by subst hw4; simp; omega) (fun k hk => by
          subst hw4
          simp only [World.alloc]
          rw [Array.getElem?_push_lt (by simp; omega), Array.getElem_push_lt (by simp; omega), Array.getElem_push_lt (by simp; omega), Array.getElem_push_lt hk]
          exact (Array.getElem?_eq_getElem hk).symm)
        have q5 : InBlk w4 pl [.int .i64 v] := q3.keep (by
          subst hw4
          simp only [World.alloc]
          rw [Array.getElem?_push_lt (by simp; omega), Array.getElem_push_lt (by simp; omega), Array.getElem_push_lt (by simp; omega), Array.getElem_push_lt hlt]
          exact (Array.getElem?_eq_getElem hlt).symm)
        have S := Stp.write (w' := w4.setCells pl.blk (pl.ob + 0) [.int .i64 n]) hm.1 0 0 (.box (.int .i64) v) (.box (.int .i64) n) _ pl rfl k1 (Or.inl rfl) (qUa pl.blk _ _ w4)
          (fun N' K' _ _ => ⟨rfl, pl, [.int .i64 n], rfl, q5.write (o := 0) (s := [.int .i64 n]) (by simp), rfl⟩)
        have hup : qbb (lookL [(0, .box (.int .i64) v)]) [(0, some (.box (.int .i64) n))] = lookL [(0, .box (.int .i64) n)] := by
          funext l
          simp only [qbb, lookL]
          by_cases hl : 0 = l <;> simp [hl]
        have := S.inv
        rw [hup] at this
        exact this
    · cases h
  · cases h
end Go.Ab

set_option linter.unusedVariables false
set_option maxRecDepth 20000
namespace Go.Ab
open Go Go.Proofs
def t42Tab1 : ByteArray := (ByteArray.mk #[0, 1, 2, 2, 3, 3, 3, 3, 4, 4, 4, 4, 4, 4, 4, 4, 5, 5, 5, 5, 5, 5, 5, 5, 5, 5, 5, 5, 5, 5, 5, 5, 6, 6, 6, 6, 6, 6, 6, 6, 6, 6, 6, 6, 6, 6, 6, 6, 6, 6, 6, 6, 6, 6, 6, 6, 6, 6, 6, 6, 6, 6, 6, 6, 7, 7, 7, 7, 7, 7, 7, 7, 7, 7, 7, 7, 7, 7, 7, 7, 7, 7, 7, 7, 7, 7, 7, 7, 7, 7, 7, 7, 7, 7, 7, 7, 7, 7, 7, 7, 7, 7, 7, 7, 7, 7, 7, 7, 7, 7, 7, 7, 7, 7, 7, 7, 7, 7, 7, 7, 7, 7, 7, 7, 7, 7, 7, 7, 8, 8, 8, 8, 8, 8, 8, 8, 8, 8, 8, 8, 8, 8, 8, 8, 8, 8, 8, 8, 8, 8, 8, 8, 8, 8, 8, 8, 8, 8, 8, 8, 8, 8, 8, 8, 8, 8, 8, 8, 8, 8, 8, 8, 8, 8, 8, 8, 8, 8, 8, 8, 8, 8, 8, 8, 8, 8, 8, 8, 8, 8, 8, 8, 8, 8, 8, 8, 8, 8, 8, 8, 8, 8, 8, 8, 8, 8, 8, 8, 8, 8, 8, 8, 8, 8, 8, 8, 8, 8, 8, 8, 8, 8, 8, 8, 8, 8, 8, 8, 8, 8, 8, 8, 8, 8, 8, 8, 8, 8, 8, 8, 8, 8, 8, 8, 8, 8, 8, 8, 8, 8, 8, 8, 8, 8, 8, 8])
abbrev qka : Ty := (.pair .str (.pair (.slice (.int .u8)) .unit))
abbrev qla : Type := (ByteArray × ((List Int) × Unit))
abbrev qba : Ty := (.pair .str (.pair (.int .i64) (.pair (.arr 20 (.int .u8)) .unit)))
abbrev qaa : Type := (ByteArray × (Int × ((List Int) × Unit)))
abbrev qta : Ty := (.pair (.int .u8) (.pair (.int .i64) (.pair (.int .i64) (.pair (.int .i64) (.pair (.int .i64) (.pair (.arr 20 (.int .u8)) .unit))))))
abbrev qga : Type := (Int × (Int × (Int × (Int × (Int × ((List Int) × Unit))))))
abbrev qna : Ty := (.pair qta (.pair (.slice (.int .u8)) .unit))
abbrev qca : Type := (qga × ((List Int) × Unit))
abbrev qDa : Ty := (.pair (.int .i64) (.pair (.int .i64) .unit))
abbrev qpa : Type := (Int × (Int × Unit))
abbrev qHa : Ty := (.pair qDa (.pair (.slice qba) (.pair (.slice qta) .unit)))
abbrev qua : Type := (qpa × ((List qaa) × ((List qga) × Unit)))
abbrev qda : Ty := (.pair (.int .i64) qDa)
abbrev qfa : Type := (Int × qpa)
abbrev qsa : Ty := (.pair qda (.pair (.slice (.int .u8)) .unit))
abbrev qma : Type := (qfa × ((List Int) × Unit))
abbrev qLa : Ty := (.pair (.int .i64) (.pair (.slice (.int .u8)) (.pair (.int .i64) .unit)))
abbrev qlc : Type := (Int × ((List Int) × (Int × Unit)))
abbrev qsw : Ty := (.pair (.int .i64) .unit)
abbrev qvw : Type := (Int × Unit)
abbrev qtj : Ty := (.pair (.slice (.int .u8)) qsw)
abbrev qlp : Type := ((List Int) × qvw)
abbrev qgb : Ty := (.pair qtj .unit)
abbrev qGb : Type := (qlp × Unit)
def G_widths : List Int := [1, 1, 2, 2, 2]
def G_quarters : List Int := [1518500249, 1859775393, 2400959708, 3395469782]
def GT : qvf := [(0, ⟨(.arr 5 (.int .i64)), G_widths⟩), (1, ⟨(.arr 4 (.int .u32)), G_quarters⟩), (2, ⟨.unit, ()⟩)]
theorem mixed : Tryz.prog.follows .mixedOrders = true := by kernel_rfl
noncomputable def qIt (acc : List AV → Bool) : Summ Tryz.prog GT := { f := 128, acc := acc, rows := false, nils := false, R := Bool × Int, fn := qfj, res := fun r => .one (.bool r.1), post := fun r => [(0, .box (.int .i64) r.2)], ok := fun _ _ _ h => qus rfl h }
noncomputable def bytes_Equal_I : FnI Tryz.prog GT := { f := 73, cuts := [], tab := [], fm := ⟨true, [.val .bool []]⟩ }
noncomputable def qcp (a0 : List Int) (a1 : List Int) : Option (Bool) := bytes_Equal_I.call [(.sl (.int .u8) false a0), (.sl (.int .u8) false a1)] []
theorem qjk (a0 : List Int) (a1 : List Int) : qcp a0 a1 = (
some ((ByteArray.toList (qJf a0)) == (ByteArray.toList (qJf a1)))) := (FnI.call_eq (by kernel_rfl)).trans (by kernel_rfl)
noncomputable def qkr (acc : List AV → Bool) : Summ Tryz.prog GT := bytes_Equal_I.summ mixed acc false false
noncomputable def bytes_HasPrefix_I : FnI Tryz.prog GT := { f := 89, cuts := [], tab := [qkr (fun _ => true)], fm := ⟨true, [.val .bool []]⟩ }
noncomputable def qsd (a0 : List Int) (a1 : List Int) : Option (Bool) := bytes_HasPrefix_I.call [(.sl (.int .u8) false a0), (.sl (.int .u8) false a1)] []
theorem qXg (a0 : List Int) (a1 : List Int) : qsd a0 a1 = (
if (decide ((Int.ofNat (List.length a0)) ≥ (Int.ofNat (List.length a1)))) = true then
gd (0 ≤ (Int.ofNat (List.length a1))) <|
gd ((Int.ofNat (List.length a1)) ≤ (Int.ofNat (List.length a0))) <|
(qcp (List.take (List.length a1) a0) a1).bind fun r1 =>
some (r1)
else
some (false)) := (FnI.call_eq (by kernel_rfl)).trans (by kernel_rfl)
noncomputable def qBh (acc : List AV → Bool) : Summ Tryz.prog GT := bytes_HasPrefix_I.summ mixed acc false false
noncomputable def pack_Check_I : FnI Tryz.prog GT := { f := 58, cuts := [], tab := [], fm := ⟨true, [.val (.int .i64) []]⟩ }
noncomputable def qoh (a0 : qpa) : Option (Int) := pack_Check_I.call [(.agg qDa (inj false qDa a0))] []
theorem qvq (a0 : qpa) : qoh a0 = (
if (decide (a0.1 < (0 : Int))) = true then
some (2 : Int)
else
if (decide (a0.1 > (7 : Int))) = true then
some (2 : Int)
else
if (decide (a0.2.1 < (16 : Int))) = true then
some (2 : Int)
else
if (decide (a0.2.1 > (4096 : Int))) = true then
some (2 : Int)
else
some (0 : Int)) := (FnI.call_eq (by kernel_rfl)).trans (by kernel_rfl)
noncomputable def qPi (acc : List AV → Bool) : Summ Tryz.prog GT := pack_Check_I.summ mixed acc false false
noncomputable def member_source_take_I : FnI Tryz.prog GT := { f := 186, cuts := [], tab := [], fm := ⟨false, [.val (.slice (.int .u8)) [.pu], .err 24 .i64, .box 0 qgb [.pu]]⟩ }
noncomputable def qIb (a1 : Int) (b0 : qGb) : Option (List Int × Option Int × qGb) := member_source_take_I.call [(.ptr qtj 0 [.fst]), (.int .i64 a1)] [(0, (.box qgb (inj false qgb b0)))]
theorem qSi (a1 : Int) (b0 : qGb) : qIb a1 b0 = (
if (decide ((IntKind.wrap .i64 ((Int.ofNat (List.length b0.1.1)) - b0.1.2.1)) < a1)) = true then
some ([], ((some (18 : Int)), b0))
else
gd (0 ≤ (IntKind.wrap .i64 ((IntKind.wrap .i64 (b0.1.2.1 + a1)) - a1))) <|
gd ((IntKind.wrap .i64 ((IntKind.wrap .i64 (b0.1.2.1 + a1)) - a1)) ≤ (IntKind.wrap .i64 (b0.1.2.1 + a1))) <|
gd ((IntKind.wrap .i64 (b0.1.2.1 + a1)) ≤ (Int.ofNat (List.length b0.1.1))) <|
some ((List.take ((Int.toNat (IntKind.wrap .i64 (b0.1.2.1 + a1))) - (Int.toNat (IntKind.wrap .i64 ((IntKind.wrap .i64 (b0.1.2.1 + a1)) - a1)))) (List.drop (Int.toNat (IntKind.wrap .i64 ((IntKind.wrap .i64 (b0.1.2.1 + a1)) - a1))) b0.1.1)), (none, ((b0.1.1, ((IntKind.wrap .i64 (b0.1.2.1 + a1)), b0.1.2.2)), b0.2)))) := (FnI.call_eq (by kernel_rfl)).trans (by kernel_rfl)
noncomputable def qHj (acc : List AV → Bool) : Summ Tryz.prog GT := member_source_take_I.summ mixed acc false false
noncomputable def member_reader_record_I : FnI Tryz.prog GT := { f := 127, cuts := [], tab := [(qHj (fun _ => true)).dropping], fm := ⟨false, [.val qba [], .err 24 .i64, .box 0 qgb [.pu]]⟩ }
noncomputable def qtc (b0 : qGb) : Option (qaa × Option Int × qGb) := member_reader_record_I.call [(.ptr qgb 0 [])] [(0, (.box qgb (inj false qgb b0)))]
theorem qze (b0 : qGb) : qtc b0 = (
(qIb (1 : Int) b0).bind fun r1 =>
if (not (Option.isNone r1.2.1)) = true then
some ((ByteArray.empty, ((0 : Int), ((List.replicate 20 (0 : Int)), ()))), r1.2)
else
gd (0 ≤ (0 : Int)) <|
gd ((0 : Int) < (Int.ofNat (List.length r1.1))) <|
(qIb (IntKind.wrap .i64 ((IntKind.wrap .i64 (List.getD r1.1 0 (0 : Int))) + (22 : Int))) r1.2.2).bind fun r2 =>
if (not (Option.isNone r2.2.1)) = true then
some ((ByteArray.empty, ((0 : Int), ((List.replicate 20 (0 : Int)), ()))), r2.2)
else
gd (0 ≤ (0 : Int)) <|
gd ((0 : Int) < (Int.ofNat (List.length r1.1))) <|
gd (0 ≤ (IntKind.wrap .i64 (List.getD r1.1 0 (0 : Int)))) <|
gd ((IntKind.wrap .i64 (List.getD r1.1 0 (0 : Int))) ≤ (Int.ofNat (List.length r2.1))) <|
gd (0 ≤ (IntKind.wrap .i64 (List.getD r1.1 0 (0 : Int)))) <|
gd ((IntKind.wrap .i64 (List.getD r1.1 0 (0 : Int))) < (Int.ofNat (List.length r2.1))) <|
gd (0 ≤ (8 : Int)) <|
gd (0 ≤ (IntKind.wrap .i64 ((IntKind.wrap .i64 (List.getD r1.1 0 (0 : Int))) + (1 : Int)))) <|
gd ((IntKind.wrap .i64 ((IntKind.wrap .i64 (List.getD r1.1 0 (0 : Int))) + (1 : Int))) < (Int.ofNat (List.length r2.1))) <|
gd (0 ≤ (IntKind.wrap .i64 ((IntKind.wrap .i64 (List.getD r1.1 0 (0 : Int))) + (2 : Int)))) <|
gd ((IntKind.wrap .i64 ((IntKind.wrap .i64 (List.getD r1.1 0 (0 : Int))) + (2 : Int))) ≤ (Int.ofNat (List.length r2.1))) <|
some (((qJf (List.take (Int.toNat (IntKind.wrap .i64 (List.getD r1.1 0 (0 : Int)))) r2.1)), ((qrc .i64 (IntKind.wrap .i64 ((IntKind.wrap .i64 (List.getD r2.1 (Int.toNat (IntKind.wrap .i64 (List.getD r1.1 0 (0 : Int)))) (0 : Int))) * (256 : Int))) (IntKind.wrap .i64 (List.getD r2.1 (Int.toNat (IntKind.wrap .i64 ((IntKind.wrap .i64 (List.getD r1.1 0 (0 : Int))) + (1 : Int)))) (0 : Int)))), ((qZb (List.replicate 20 (0 : Int)) 0 (List.take (min (List.length (List.drop (Int.toNat (IntKind.wrap .i64 ((IntKind.wrap .i64 (List.getD r1.1 0 (0 : Int))) + (2 : Int)))) r2.1)) 20) (List.drop (Int.toNat (IntKind.wrap .i64 ((IntKind.wrap .i64 (List.getD r1.1 0 (0 : Int))) + (2 : Int)))) r2.1))), ()))), (none, r2.2.2))) := (FnI.call_eq (by kernel_rfl)).trans (by kernel_rfl)
noncomputable def qsi (acc : List AV → Bool) : Summ Tryz.prog GT := member_reader_record_I.summ mixed acc false false
noncomputable def member_isName_I : FnI Tryz.prog GT := { f := 75, cuts := [⟨(2, 3), [0, 5, 6], false, false, [], [], []⟩], tab := [], fm := ⟨true, [.val .bool []]⟩ }
noncomputable def qUh (a0 : ByteArray) : Option (Bool) := member_isName_I.call [(.str a0)] []
noncomputable def qTd (v0 : ByteArray) (v5 : Int) (v6 : Int) : Option (Bool) := member_isName_I.sem ⟨[.code (cIn (cIn (qha (qPa (qha (qoa Tryz.prog 75)))))), .inLoop (cIn (cIn (qha (qPa (qha (qoa Tryz.prog 75)))))), .inBlock 0, .code (qha (qha (qoa Tryz.prog 75)))], ⟨[(0, (.one (.str v0))), (5, (.one (.int .i64 v5))), (6, (.one (.int .i64 v6)))], [], 8⟩⟩
theorem qVm (a0 : ByteArray) : qUh a0 = (
qTd a0 (Int.ofNat (ByteArray.size a0)) (0 : Int)) := (FnI.call_eq (by kernel_rfl)).trans (by kernel_rfl)
theorem qng (v0 : ByteArray) (v5 : Int) (v6 : Int) : qTd v0 v5 v6 = (
if (decide (v6 < v5)) = true then
gd (0 ≤ v6) <|
gd (v6 < (v0.size : Int)) <|
if (decide ((qJm v0 (Int.toNat v6)) ≤ (32 : Int))) = true then
some (false)
else
gd (0 ≤ v6) <|
gd (v6 < (v0.size : Int)) <|
if (decide ((qJm v0 (Int.toNat v6)) > (126 : Int))) = true then
some (false)
else
qTd v0 v5 (IntKind.wrap .i64 (v6 + (1 : Int)))
else
if (decide ((Int.ofNat (ByteArray.size v0)) > (0 : Int))) = true then
some (decide ((Int.ofNat (ByteArray.size v0)) ≤ (40 : Int)))
else
some (false)) := (FnI.sem_eq _).trans (by kernel_rfl)
noncomputable def qoo (acc : List AV → Bool) : Summ Tryz.prog GT := member_isName_I.summ mixed acc false false
noncomputable def sha_pad_I : FnI Tryz.prog GT := { f := 84, cuts := [⟨(3, 3), [0, 3, 4], false, false, [], [], []⟩], tab := [], fm := ⟨true, [.val (.slice (.int .u8)) [.nw]]⟩ }
noncomputable def qZs (a0 : Int) : Option (List Int) := sha_pad_I.call [(.int .i64 a0)] []
noncomputable def qwj (v0 : Int) (v4 : Int) (h8 : List Int) : Option (List Int) := sha_pad_I.sem ⟨[.code (cIn (cIn (qha (qPa (qha (qha (qoa Tryz.prog 84))))))), .inLoop (cIn (cIn (qha (qPa (qha (qha (qoa Tryz.prog 84))))))), .inBlock 0, .code (qha (qha (qha (qoa Tryz.prog 84))))], ⟨[(0, (.one (.int .i64 v0))), (3, (.one (.ref (.int .u8) 8 0 (List.length h8) true))), (4, (.one (.int .i64 v4)))], [(8, some (.row (.int .u8) true h8))], 9⟩⟩
theorem qwv (a0 : Int) : qZs a0 = (
gd ((64 : Int) ≠ 0) <|
gd ((64 : Int) ≠ 0) <|
gd (0 ≤ (Int.tmod (IntKind.wrap .i64 ((119 : Int) - (Int.tmod a0 (64 : Int)))) (64 : Int))) <|
gd ((Int.tmod (IntKind.wrap .i64 ((119 : Int) - (Int.tmod a0 (64 : Int)))) (64 : Int)) * 1 ≤ 140737488355328) <|
gd ((Int.tmod (IntKind.wrap .i64 ((119 : Int) - (Int.tmod a0 (64 : Int)))) (64 : Int)) ≤ 9223372036854775807) <|
gd ((List.length ([(128 : Int)] ++ (List.replicate (Int.toNat (Int.tmod (IntKind.wrap .i64 ((119 : Int) - (Int.tmod a0 (64 : Int)))) (64 : Int))) (0 : Int)))) * 1 ≤ 140737488355328) <|
qwj a0 (56 : Int) ([(128 : Int)] ++ (List.replicate (Int.toNat (Int.tmod (IntKind.wrap .i64 ((119 : Int) - (Int.tmod a0 (64 : Int)))) (64 : Int))) (0 : Int)))) := (FnI.call_eq (by kernel_rfl)).trans (by kernel_rfl)
theorem qRk (v0 : Int) (v4 : Int) (h8 : List Int) : qwj v0 v4 h8 = (
if (decide (v4 ≥ (0 : Int))) = true then
gd (0 ≤ v4) <|
gd ((List.length (h8 ++ [(IntKind.wrap .u8 (qnh .u64 (IntKind.wrap .u64 ((IntKind.wrap .u64 v0) * (8 : Int))) v4))])) * 1 ≤ 140737488355328) <|
qwj v0 (IntKind.wrap .i64 (v4 - (8 : Int))) (h8 ++ [(IntKind.wrap .u8 (qnh .u64 (IntKind.wrap .u64 ((IntKind.wrap .u64 v0) * (8 : Int))) v4))])
else
some (h8)) := (FnI.sem_eq _).trans (by kernel_rfl)
noncomputable def qMw (acc : List AV → Bool) : Summ Tryz.prog GT := sha_pad_I.summ mixed acc false false
noncomputable def slices_Grow_byte_byte_I : FnI Tryz.prog GT := { f := 124, cuts := [], tab := [], fm := ⟨true, [.part (.int .u8)]⟩ }
noncomputable def qmd (a1 : Int) : Option (List Int × Nat × Nat) := slices_Grow_byte_byte_I.call [.nil, (.int .i64 a1)] []
theorem qmh (a1 : Int) : qmd a1 = (
if (decide (a1 < (0 : Int))) = true then
none
else
if (decide ((IntKind.wrap .i64 (a1 - (0 : Int))) > (0 : Int))) = true then
gd (0 ≤ (0 : Int)) <|
gd ((0 : Int) ≤ (0 : Int)) <|
gd (0 ≤ (IntKind.wrap .i64 (a1 - (0 : Int)))) <|
gd ((IntKind.wrap .i64 (a1 - (0 : Int))) * 1 ≤ 140737488355328) <|
gd ((IntKind.wrap .i64 (a1 - (0 : Int))) ≤ 9223372036854775807) <|
gd ((List.length (List.replicate (Int.toNat (IntKind.wrap .i64 (a1 - (0 : Int)))) (0 : Int))) * 1 ≤ 140737488355328) <|
gd (0 ≤ (0 : Int)) <|
gd ((0 : Int) ≤ (Int.ofNat (List.length (List.replicate (Int.toNat (IntKind.wrap .i64 (a1 - (0 : Int)))) (0 : Int))))) <|
some ((List.replicate (Int.toNat (IntKind.wrap .i64 (a1 - (0 : Int)))) (0 : Int)), (0, 0))
else
some ([], (0, 0))) := (FnI.call_eq (by kernel_rfl)).trans (by kernel_rfl)
noncomputable def qMh (acc : List AV → Bool) : Summ Tryz.prog GT := slices_Grow_byte_byte_I.summ mixed acc false true
noncomputable def slices_Concat_byte_byte_I : FnI Tryz.prog GT := { f := 83, cuts := [⟨(3, 3), [0, 3, 9, 10, 11], false, false, [], [], []⟩, ⟨(11, 3), [6, 25, 26, 27], false, false, [], [], []⟩], tab := [qMh (fun _ => true)], fm := ⟨true, [.val (.slice (.int .u8)) [.pu]]⟩ }
noncomputable def qJc (a0 : List (List Int)) : Option (List Int) := slices_Concat_byte_byte_I.call [(.sl (.slice (.int .u8)) false a0)] []
noncomputable def qgc (v0 : List (List Int)) (v3 : Int) (v9 : List (List Int)) (v10 : Int) (v11 : Int) : Option (List Int) := slices_Concat_byte_byte_I.sem ⟨[.code (cIn (cIn (qha (qPa (qha (qha (qoa Tryz.prog 83))))))), .inLoop (cIn (cIn (qha (qPa (qha (qha (qoa Tryz.prog 83))))))), .inBlock 0, .code (qha (qha (qha (qoa Tryz.prog 83))))], ⟨[(0, (.one (.sl (.slice (.int .u8)) false v0))), (3, (.one (.int .i64 v3))), (9, (.one (.sl (.slice (.int .u8)) false v9))), (10, (.one (.int .i64 v10))), (11, (.one (.int .i64 v11)))], [], 8⟩⟩
noncomputable def qCd (v6o : Nat) (v6n : Nat) (v25 : List (List Int)) (v26 : Int) (v27 : Int) (h8 : List Int) : Option (List Int) := slices_Concat_byte_byte_I.sem ⟨[.code (cIn (cIn (qha (qPa (qha (qha (qha (qha (qoa Tryz.prog 83))))))))), .inLoop (cIn (cIn (qha (qPa (qha (qha (qha (qha (qoa Tryz.prog 83))))))))), .inBlock 2, .code (qha (qha (qha (qha (qha (qoa Tryz.prog 83))))))], ⟨[(6, (.one (.ref (.int .u8) 8 v6o v6n false))), (25, (.one (.sl (.slice (.int .u8)) false v25))), (26, (.one (.int .i64 v26))), (27, (.one (.int .i64 v27)))], [(8, some (.row (.int .u8) true h8))], 9⟩⟩
noncomputable def qfc (v25 : List (List Int)) (v26 : Int) (v27 : Int) (h8 : List Int) : Option (List Int) := slices_Concat_byte_byte_I.sem ⟨[.code (cIn (cIn (qha (qPa (qha (qha (qha (qha (qoa Tryz.prog 83))))))))), .inLoop (cIn (cIn (qha (qPa (qha (qha (qha (qha (qoa Tryz.prog 83))))))))), .inBlock 2, .code (qha (qha (qha (qha (qha (qoa Tryz.prog 83))))))], ⟨[(6, (.one (.ref (.int .u8) 8 0 (List.length h8) true))), (25, (.one (.sl (.slice (.int .u8)) false v25))), (26, (.one (.int .i64 v26))), (27, (.one (.int .i64 v27)))], [(8, some (.row (.int .u8) true h8))], 9⟩⟩
theorem qDg (a0 : List (List Int)) : qJc a0 = (
qgc a0 (0 : Int) a0 (Int.ofNat (List.length a0)) (0 : Int)) := (FnI.call_eq (by kernel_rfl)).trans (by kernel_rfl)
theorem qNb (v0 : List (List Int)) (v3 : Int) (v9 : List (List Int)) (v10 : Int) (v11 : Int) : qgc v0 v3 v9 v10 v11 = (
if (decide (v11 < v10)) = true then
gd (0 ≤ v11) <|
gd (v11 < (Int.ofNat (List.length v9))) <|
if (decide ((IntKind.wrap .i64 (v3 + (Int.ofNat (List.length (List.getD v9 (Int.toNat v11) []))))) < (0 : Int))) = true then
none
else
qgc v0 (IntKind.wrap .i64 (v3 + (Int.ofNat (List.length (List.getD v9 (Int.toNat v11) []))))) v9 v10 (IntKind.wrap .i64 (v11 + (1 : Int)))
else
(qmd v3).bind fun r1 =>
qCd r1.2.1 r1.2.2 v0 (Int.ofNat (List.length v0)) (0 : Int) r1.1) := (FnI.sem_eq _).trans (by kernel_rfl)
theorem qLf (v6o : Nat) (v6n : Nat) (v25 : List (List Int)) (v26 : Int) (v27 : Int) (h8 : List Int) : qCd v6o v6n v25 v26 v27 h8 = (
if (decide (v27 < v26)) = true then
gd (0 ≤ v27) <|
gd (v27 < (Int.ofNat (List.length v25))) <|
gd ((List.length ((List.take v6n (List.drop v6o h8)) ++ (List.getD v25 (Int.toNat v27) []))) * 1 ≤ 140737488355328) <|
qfc v25 v26 (IntKind.wrap .i64 (v27 + (1 : Int))) ((List.take v6n (List.drop v6o h8)) ++ (List.getD v25 (Int.toNat v27) []))
else
some (List.take v6n (List.drop v6o h8))) := (FnI.sem_eq _).trans (by kernel_rfl)
theorem qPc (v25 : List (List Int)) (v26 : Int) (v27 : Int) (h8 : List Int) : qfc v25 v26 v27 h8 = (
if (decide (v27 < v26)) = true then
gd (0 ≤ v27) <|
gd (v27 < (Int.ofNat (List.length v25))) <|
gd ((List.length (h8 ++ (List.getD v25 (Int.toNat v27) []))) * 1 ≤ 140737488355328) <|
qfc v25 v26 (IntKind.wrap .i64 (v27 + (1 : Int))) (h8 ++ (List.getD v25 (Int.toNat v27) []))
else
some (h8)) := (FnI.sem_eq _).trans (by kernel_rfl)
noncomputable def qdh (acc : List AV → Bool) : Summ Tryz.prog GT := slices_Concat_byte_byte_I.summ mixed acc false false
noncomputable def math_bits_RotateLeft32_I : FnI Tryz.prog GT := { f := 125, cuts := [], tab := [], fm := ⟨true, [.val (.int .u32) []]⟩ }
noncomputable def qKa (a0 : Int) (a1 : Int) : Option (Int) := math_bits_RotateLeft32_I.call [(.int .u32 a0), (.int .i64 a1)] []
theorem qfh (a0 : Int) (a1 : Int) : qKa a0 a1 = (
gd (0 ≤ (qqb .u64 (IntKind.wrap .u64 a1) (31 : Int))) <|
gd (0 ≤ (IntKind.wrap .u64 ((32 : Int) - (qqb .u64 (IntKind.wrap .u64 a1) (31 : Int))))) <|
some (qrc .u32 (IntKind.wrap .u32 (qDA .u32 a0 (qqb .u64 (IntKind.wrap .u64 a1) (31 : Int)))) (qnh .u32 a0 (IntKind.wrap .u64 ((32 : Int) - (qqb .u64 (IntKind.wrap .u64 a1) (31 : Int))))))) := (FnI.call_eq (by kernel_rfl)).trans (by kernel_rfl)
noncomputable def qrh (acc : List AV → Bool) : Summ Tryz.prog GT := math_bits_RotateLeft32_I.summ mixed acc false false
noncomputable def sha_mix_I : FnI Tryz.prog GT := { f := 126, cuts := [], tab := [], fm := ⟨true, [.val (.int .u32) []]⟩ }
noncomputable def qoq (a0 : Int) (a1 : Int) (a2 : Int) (a3 : Int) : Option (Int) := sha_mix_I.call [(.int .i64 a0), (.int .u32 a1), (.int .u32 a2), (.int .u32 a3)] []
theorem qxv (a0 : Int) (a1 : Int) (a2 : Int) (a3 : Int) : qoq a0 a1 a2 a3 = (
if (a0 == (0 : Int)) = true then
some (qnb .u32 a3 (qqb .u32 a1 (qnb .u32 a2 a3)))
else
if (a0 == (2 : Int)) = true then
some (qrc .u32 (qqb .u32 a1 a2) (qqb .u32 a3 (qrc .u32 a1 a2)))
else
some (qnb .u32 (qnb .u32 a1 a2) a3)) := (FnI.call_eq (by kernel_rfl)).trans (by kernel_rfl)
noncomputable def qNw (acc : List AV → Bool) : Summ Tryz.prog GT := sha_mix_I.summ mixed acc false false
noncomputable def sha_do_I : FnI Tryz.prog GT := { f := 85, cuts := [⟨(3, 3), [2, 4, 5, 16, 17, 18], false, false, [], [], []⟩, ⟨(9, 3), [2, 4, 5, 8, 9, 10, 11, 12, 45], false, false, [], [], []⟩], tab := [qrh (fun _ => true), qNw (fun _ => true)], fm := ⟨true, [.val (.arr 5 (.int .u32)) []]⟩ }
noncomputable def qPw (a0 : (List Int)) (a1 : List Int) : Option ((List Int)) := sha_do_I.call [(.agg (.arr 5 (.int .u32)) a0), (.sl (.int .u8) false a1)] []
noncomputable def qhg (v16 : List Int) (v17 : Int) (v18 : Int) (b8 : (List Int)) (b9 : (List Int)) (b10 : (List Int)) : Option ((List Int)) := sha_do_I.sem ⟨[.code (cIn (cIn (qha (qPa (qha (qha (qoa Tryz.prog 85))))))), .inLoop (cIn (cIn (qha (qPa (qha (qha (qoa Tryz.prog 85))))))), .inBlock 0, .code (qha (qha (qha (qoa Tryz.prog 85))))], ⟨[(2, (.one (.ptr (.arr 5 (.int .u32)) 8 []))), (4, (.one (.ptr (.arr 5 (.int .u32)) 9 []))), (5, (.one (.ptr (.arr 16 (.int .u32)) 10 []))), (16, (.one (.sl (.int .u8) false v16))), (17, (.one (.int .i64 v17))), (18, (.one (.int .i64 v18)))], [(8, some (.box (.arr 5 (.int .u32)) b8)), (9, some (.box (.arr 5 (.int .u32)) b9)), (10, some (.box (.arr 16 (.int .u32)) b10))], 11⟩⟩
noncomputable def qEi (v8 : Int) (v9 : Int) (v10 : Int) (v11 : Int) (v12 : Int) (v45 : Int) (b8 : (List Int)) (b9 : (List Int)) (b10 : (List Int)) : Option ((List Int)) := sha_do_I.sem ⟨[.code (cIn (cIn (qha (qPa (qha (qha (qha (qha (qoa Tryz.prog 85))))))))), .inLoop (cIn (cIn (qha (qPa (qha (qha (qha (qha (qoa Tryz.prog 85))))))))), .inBlock 2, .code (qha (qha (qha (qha (qha (qoa Tryz.prog 85))))))], ⟨[(2, (.one (.ptr (.arr 5 (.int .u32)) 8 []))), (4, (.one (.ptr (.arr 5 (.int .u32)) 9 []))), (5, (.one (.ptr (.arr 16 (.int .u32)) 10 []))), (8, (.one (.int .u32 v8))), (9, (.one (.int .u32 v9))), (10, (.one (.int .u32 v10))), (11, (.one (.int .u32 v11))), (12, (.one (.int .u32 v12))), (45, (.one (.int .i64 v45)))], [(8, some (.box (.arr 5 (.int .u32)) b8)), (9, some (.box (.arr 5 (.int .u32)) b9)), (10, some (.box (.arr 16 (.int .u32)) b10))], 11⟩⟩
theorem qOw (a0 : (List Int)) (a1 : List Int) : qPw a0 a1 = (
gd (0 ≤ (64 : Int)) <|
gd ((64 : Int) ≤ (Int.ofNat (List.length a1))) <|
qhg (List.take 64 a1) (Int.ofNat (List.length (List.take 64 a1))) (0 : Int) a0 (List.replicate 5 (0 : Int)) (List.replicate 16 (0 : Int))) := (FnI.call_eq (by kernel_rfl)).trans (by kernel_rfl)
theorem qvm (v16 : List Int) (v17 : Int) (v18 : Int) (b8 : (List Int)) (b9 : (List Int)) (b10 : (List Int)) : qhg v16 v17 v18 b8 b9 b10 = (
if (decide (v18 < v17)) = true then
gd (0 ≤ v18) <|
gd (v18 < (Int.ofNat (List.length v16))) <|
gd ((4 : Int) ≠ 0) <|
gd ((4 : Int) ≠ 0) <|
gd (0 ≤ (IntKind.wrap .i64 (Int.tdiv v18 (4 : Int)))) <|
gd ((IntKind.wrap .i64 (Int.tdiv v18 (4 : Int))) < (16 : Int)) <|
gd (0 ≤ (8 : Int)) <|
gd (0 ≤ (IntKind.wrap .i64 (Int.tdiv v18 (4 : Int)))) <|
gd ((IntKind.wrap .i64 (Int.tdiv v18 (4 : Int))) < (16 : Int)) <|
qhg v16 v17 (IntKind.wrap .i64 (v18 + (1 : Int))) b8 b9 (List.set b10 (Int.toNat (IntKind.wrap .i64 (Int.tdiv v18 (4 : Int)))) (qrc .u32 (IntKind.wrap .u32 ((List.getD b10 (Int.toNat (IntKind.wrap .i64 (Int.tdiv v18 (4 : Int)))) (0 : Int)) * (256 : Int))) (IntKind.wrap .u32 (List.getD v16 (Int.toNat v18) (0 : Int)))))
else
gd (0 ≤ (0 : Int)) <|
gd ((0 : Int) < (5 : Int)) <|
gd (0 ≤ (1 : Int)) <|
gd ((1 : Int) < (5 : Int)) <|
gd (0 ≤ (2 : Int)) <|
gd ((2 : Int) < (5 : Int)) <|
gd (0 ≤ (3 : Int)) <|
gd ((3 : Int) < (5 : Int)) <|
gd (0 ≤ (4 : Int)) <|
gd ((4 : Int) < (5 : Int)) <|
qEi (List.getD b8 0 (0 : Int)) (List.getD b8 1 (0 : Int)) (List.getD b8 2 (0 : Int)) (List.getD b8 3 (0 : Int)) (List.getD b8 4 (0 : Int)) (0 : Int) b8 b9 b10) := (FnI.sem_eq _).trans (by kernel_rfl)
theorem qum (v8 : Int) (v9 : Int) (v10 : Int) (v11 : Int) (v12 : Int) (v45 : Int) (b8 : (List Int)) (b9 : (List Int)) (b10 : (List Int)) : qEi v8 v9 v10 v11 v12 v45 b8 b9 b10 = (
if (decide (v45 < (80 : Int))) = true then
if (decide (v45 ≥ (16 : Int))) = true then
gd ((16 : Int) ≠ 0) <|
gd ((16 : Int) ≠ 0) <|
gd (0 ≤ (Int.tmod (IntKind.wrap .i64 (v45 + (13 : Int))) (16 : Int))) <|
gd ((Int.tmod (IntKind.wrap .i64 (v45 + (13 : Int))) (16 : Int)) < (16 : Int)) <|
gd ((16 : Int) ≠ 0) <|
gd (0 ≤ (Int.tmod (IntKind.wrap .i64 (v45 + (8 : Int))) (16 : Int))) <|
gd ((Int.tmod (IntKind.wrap .i64 (v45 + (8 : Int))) (16 : Int)) < (16 : Int)) <|
gd ((16 : Int) ≠ 0) <|
gd (0 ≤ (Int.tmod (IntKind.wrap .i64 (v45 + (2 : Int))) (16 : Int))) <|
gd ((Int.tmod (IntKind.wrap .i64 (v45 + (2 : Int))) (16 : Int)) < (16 : Int)) <|
gd ((16 : Int) ≠ 0) <|
gd (0 ≤ (Int.tmod v45 (16 : Int))) <|
gd ((Int.tmod v45 (16 : Int)) < (16 : Int)) <|
(qKa (qnb .u32 (qnb .u32 (qnb .u32 (List.getD b10 (Int.toNat (Int.tmod (IntKind.wrap .i64 (v45 + (13 : Int))) (16 : Int))) (0 : Int)) (List.getD b10 (Int.toNat (Int.tmod (IntKind.wrap .i64 (v45 + (8 : Int))) (16 : Int))) (0 : Int))) (List.getD b10 (Int.toNat (Int.tmod (IntKind.wrap .i64 (v45 + (2 : Int))) (16 : Int))) (0 : Int))) (List.getD b10 (Int.toNat (Int.tmod v45 (16 : Int))) (0 : Int))) (1 : Int)).bind fun r1 =>
gd (0 ≤ (Int.tmod v45 (16 : Int))) <|
gd ((Int.tmod v45 (16 : Int)) < (16 : Int)) <|
(qKa v8 (5 : Int)).bind fun r2 =>
gd ((20 : Int) ≠ 0) <|
(qoq (IntKind.wrap .i64 (Int.tdiv v45 (20 : Int))) v9 v10 v11).bind fun r3 =>
gd ((20 : Int) ≠ 0) <|
gd (0 ≤ (IntKind.wrap .i64 (Int.tdiv v45 (20 : Int)))) <|
gd ((IntKind.wrap .i64 (Int.tdiv v45 (20 : Int))) < (4 : Int)) <|
gd ((16 : Int) ≠ 0) <|
gd (0 ≤ (Int.tmod v45 (16 : Int))) <|
gd ((Int.tmod v45 (16 : Int)) < (16 : Int)) <|
(qKa v9 (30 : Int)).bind fun r4 =>
qEi (IntKind.wrap .u32 ((IntKind.wrap .u32 ((IntKind.wrap .u32 ((IntKind.wrap .u32 (r2 + r3)) + v12)) + (List.getD G_quarters (Int.toNat (IntKind.wrap .i64 (Int.tdiv v45 (20 : Int)))) (0 : Int)))) + (List.getD (List.set b10 (Int.toNat (Int.tmod v45 (16 : Int))) r1) (Int.toNat (Int.tmod v45 (16 : Int))) (0 : Int)))) v8 r4 v10 v11 (IntKind.wrap .i64 (v45 + (1 : Int))) b8 b9 (List.set b10 (Int.toNat (Int.tmod v45 (16 : Int))) r1)
else
(qKa v8 (5 : Int)).bind fun r5 =>
gd ((20 : Int) ≠ 0) <|
(qoq (IntKind.wrap .i64 (Int.tdiv v45 (20 : Int))) v9 v10 v11).bind fun r6 =>
gd ((20 : Int) ≠ 0) <|
gd (0 ≤ (IntKind.wrap .i64 (Int.tdiv v45 (20 : Int)))) <|
gd ((IntKind.wrap .i64 (Int.tdiv v45 (20 : Int))) < (4 : Int)) <|
gd ((16 : Int) ≠ 0) <|
gd (0 ≤ (Int.tmod v45 (16 : Int))) <|
gd ((Int.tmod v45 (16 : Int)) < (16 : Int)) <|
(qKa v9 (30 : Int)).bind fun r7 =>
qEi (IntKind.wrap .u32 ((IntKind.wrap .u32 ((IntKind.wrap .u32 ((IntKind.wrap .u32 (r5 + r6)) + v12)) + (List.getD G_quarters (Int.toNat (IntKind.wrap .i64 (Int.tdiv v45 (20 : Int)))) (0 : Int)))) + (List.getD b10 (Int.toNat (Int.tmod v45 (16 : Int))) (0 : Int)))) v8 r7 v10 v11 (IntKind.wrap .i64 (v45 + (1 : Int))) b8 b9 b10
else
gd (0 ≤ (0 : Int)) <|
gd ((0 : Int) < (5 : Int)) <|
gd (0 ≤ (1 : Int)) <|
gd ((1 : Int) < (5 : Int)) <|
gd (0 ≤ (2 : Int)) <|
gd ((2 : Int) < (5 : Int)) <|
gd (0 ≤ (3 : Int)) <|
gd ((3 : Int) < (5 : Int)) <|
gd (0 ≤ (4 : Int)) <|
gd ((4 : Int) < (5 : Int)) <|
some (List.set (List.set (List.set (List.set (List.set (List.replicate 5 (0 : Int)) 0 (IntKind.wrap .u32 ((List.getD b8 0 (0 : Int)) + v8))) 1 (IntKind.wrap .u32 ((List.getD b8 1 (0 : Int)) + v9))) 2 (IntKind.wrap .u32 ((List.getD b8 2 (0 : Int)) + v10))) 3 (IntKind.wrap .u32 ((List.getD b8 3 (0 : Int)) + v11))) 4 (IntKind.wrap .u32 ((List.getD b8 4 (0 : Int)) + v12)))) := (FnI.sem_eq _).trans (by kernel_rfl)
noncomputable def qcz (acc : List AV → Bool) : Summ Tryz.prog GT := sha_do_I.summ mixed acc false false
noncomputable def sha_Sum_I : FnI Tryz.prog GT := { f := 45, cuts := [⟨(5, 3), [2, 4, 5], false, false, [], [], []⟩, ⟨(9, 3), [2, 27, 28], false, false, [], [], []⟩], tab := [qMw (fun _ => true), qdh (fun _ => true), qcz (fun _ => true)], fm := ⟨true, [.val (.arr 20 (.int .u8)) [], .val (.int .i64) []]⟩ }
noncomputable def qIl (a0 : List Int) : Option ((List Int) × Int) := sha_Sum_I.call [(.sl (.int .u8) false a0)] []
noncomputable def qyj (v5 : List Int) (b8 : (List Int)) (b9 : (List Int)) : Option ((List Int) × Int) := sha_Sum_I.sem ⟨[.code (cIn (cIn (qha (qPa (qha (qha (qha (qoa Tryz.prog 45)))))))), .inLoop (cIn (cIn (qha (qPa (qha (qha (qha (qoa Tryz.prog 45)))))))), .inBlock 0, .code (qha (qha (qha (qha (qoa Tryz.prog 45)))))], ⟨[(2, (.one (.ptr (.arr 20 (.int .u8)) 8 []))), (4, (.one (.ptr (.arr 5 (.int .u32)) 9 []))), (5, (.one (.sl (.int .u8) true v5)))], [(8, some (.box (.arr 20 (.int .u8)) b8)), (9, some (.box (.arr 5 (.int .u32)) b9))], 10⟩⟩
noncomputable def qxj (v27 : (List Int)) (v28 : Int) (b8 : (List Int)) : Option ((List Int) × Int) := sha_Sum_I.sem ⟨[.code (cIn (cIn (qha (qPa (qha (qha (qha (qha (qoa Tryz.prog 45))))))))), .inLoop (cIn (cIn (qha (qPa (qha (qha (qha (qha (qoa Tryz.prog 45))))))))), .inBlock 2, .code (qha (qha (qha (qha (qha (qoa Tryz.prog 45))))))], ⟨[(2, (.one (.ptr (.arr 20 (.int .u8)) 8 []))), (27, (.one (.agg (.arr 5 (.int .u32)) v27))), (28, (.one (.int .i64 v28)))], [(8, some (.box (.arr 20 (.int .u8)) b8))], 9⟩⟩
theorem qyv (a0 : List Int) : qIl a0 = (
if (decide ((Int.ofNat (List.length a0)) > (20000 : Int))) = true then
some ((List.replicate 20 (0 : Int)), (4 : Int))
else
(qZs (Int.ofNat (List.length a0))).bind fun r1 =>
(qJc [a0, r1]).bind fun r2 =>
qyj r2 (List.replicate 20 (0 : Int)) (List.set (List.set (List.set (List.set (List.set (List.replicate 5 (0 : Int)) 0 (1732584193 : Int)) 1 (4023233417 : Int)) 2 (2562383102 : Int)) 3 (271733878 : Int)) 4 (3285377520 : Int))) := (FnI.call_eq (by kernel_rfl)).trans (by kernel_rfl)
theorem qTk (v5 : List Int) (b8 : (List Int)) (b9 : (List Int)) : qyj v5 b8 b9 = (
if (decide ((Int.ofNat (List.length v5)) > (0 : Int))) = true then
(qPw b9 v5).bind fun r3 =>
gd (0 ≤ (64 : Int)) <|
gd ((64 : Int) ≤ (Int.ofNat (List.length v5))) <|
qyj (List.drop 64 v5) b8 r3
else
qxj b9 (0 : Int) b8) := (FnI.sem_eq _).trans (by kernel_rfl)
theorem qSk (v27 : (List Int)) (v28 : Int) (b8 : (List Int)) : qxj v27 v28 b8 = (
if (decide (v28 < (5 : Int))) = true then
gd (0 ≤ v28) <|
gd (v28 < (5 : Int)) <|
gd (0 ≤ (24 : Int)) <|
gd (0 ≤ (16 : Int)) <|
gd (0 ≤ (8 : Int)) <|
gd (0 ≤ (IntKind.wrap .i64 ((4 : Int) * v28))) <|
gd ((IntKind.wrap .i64 ((4 : Int) * v28)) < (20 : Int)) <|
gd (0 ≤ (IntKind.wrap .i64 ((IntKind.wrap .i64 ((4 : Int) * v28)) + (1 : Int)))) <|
gd ((IntKind.wrap .i64 ((IntKind.wrap .i64 ((4 : Int) * v28)) + (1 : Int))) < (20 : Int)) <|
gd (0 ≤ (IntKind.wrap .i64 ((IntKind.wrap .i64 ((4 : Int) * v28)) + (2 : Int)))) <|
gd ((IntKind.wrap .i64 ((IntKind.wrap .i64 ((4 : Int) * v28)) + (2 : Int))) < (20 : Int)) <|
gd (0 ≤ (IntKind.wrap .i64 ((IntKind.wrap .i64 ((4 : Int) * v28)) + (3 : Int)))) <|
gd ((IntKind.wrap .i64 ((IntKind.wrap .i64 ((4 : Int) * v28)) + (3 : Int))) < (20 : Int)) <|
qxj v27 (IntKind.wrap .i64 (v28 + (1 : Int))) (List.set (List.set (List.set (List.set b8 (Int.toNat (IntKind.wrap .i64 ((4 : Int) * v28))) (IntKind.wrap .u8 (Int.fdiv (List.getD v27 (Int.toNat v28) (0 : Int)) (16777216 : Int)))) (Int.toNat (IntKind.wrap .i64 ((IntKind.wrap .i64 ((4 : Int) * v28)) + (1 : Int)))) (IntKind.wrap .u8 (Int.fdiv (List.getD v27 (Int.toNat v28) (0 : Int)) (65536 : Int)))) (Int.toNat (IntKind.wrap .i64 ((IntKind.wrap .i64 ((4 : Int) * v28)) + (2 : Int)))) (IntKind.wrap .u8 (Int.fdiv (List.getD v27 (Int.toNat v28) (0 : Int)) (256 : Int)))) (Int.toNat (IntKind.wrap .i64 ((IntKind.wrap .i64 ((4 : Int) * v28)) + (3 : Int)))) (IntKind.wrap .u8 (List.getD v27 (Int.toNat v28) (0 : Int))))
else
some (b8, (0 : Int))) := (FnI.sem_eq _).trans (by kernel_rfl)
noncomputable def qUk (acc : List AV → Bool) : Summ Tryz.prog GT := sha_Sum_I.summ mixed acc false false
noncomputable def member_digest_I : FnI Tryz.prog GT := { f := 76, cuts := [], tab := [qUk (fun _ => true)], fm := ⟨true, [.val (.arr 20 (.int .u8)) []]⟩ }
noncomputable def qVh (a0 : List Int) : Option ((List Int)) := member_digest_I.call [(.sl (.int .u8) false a0)] []
theorem qWm (a0 : List Int) : qVh a0 = (
(qIl a0).bind fun r1 =>
some (r1.1)) := (FnI.call_eq (by kernel_rfl)).trans (by kernel_rfl)
noncomputable def qpo (acc : List AV → Bool) : Summ Tryz.prog GT := member_digest_I.summ mixed acc false false
noncomputable def member_twice_I : FnI Tryz.prog GT := { f := 77, cuts := [⟨(3, 3), [3, 7, 8, 9], false, false, [], [], []⟩], tab := [], fm := ⟨true, [.val .bool []]⟩ }
noncomputable def qRi (a0 : List ByteArray) : Option (Bool) := member_twice_I.call [(.sl .str false a0)] []
noncomputable def qye (v7 : List ByteArray) (v8 : Int) (v9 : Int) (m8 : List (ByteArray × Bool)) : Option (Bool) := member_twice_I.sem ⟨[.code (cIn (cIn (qha (qPa (qha (qha (qoa Tryz.prog 77))))))), .inLoop (cIn (cIn (qha (qPa (qha (qha (qoa Tryz.prog 77))))))), .inBlock 0, .code (qha (qha (qha (qoa Tryz.prog 77))))], ⟨[(3, (.one (.mapr 8))), (7, (.one (.sl .str false v7))), (8, (.one (.int .i64 v8))), (9, (.one (.int .i64 v9)))], [(8, some (.map .str .bool m8))], 9⟩⟩
theorem qno (a0 : List ByteArray) : qRi a0 = (
qye a0 (Int.ofNat (List.length a0)) (0 : Int) []) := (FnI.call_eq (by kernel_rfl)).trans (by kernel_rfl)
theorem qPg (v7 : List ByteArray) (v8 : Int) (v9 : Int) (m8 : List (ByteArray × Bool)) : qye v7 v8 v9 m8 = (
if (decide (v9 < v8)) = true then
gd (0 ≤ v9) <|
gd (v9 < (Int.ofNat (List.length v7))) <|
if (Option.getD (qTm (peq .str) (List.getD v7 (Int.toNat v9) ByteArray.empty) m8) false) = true then
some (true)
else
qye v7 v8 (IntKind.wrap .i64 (v9 + (1 : Int))) (qUr (peq .str) (List.getD v7 (Int.toNat v9) ByteArray.empty) true m8)
else
some (false)) := (FnI.sem_eq _).trans (by kernel_rfl)
noncomputable def qtp (acc : List AV → Bool) : Summ Tryz.prog GT := member_twice_I.summ mixed acc false false
noncomputable def member_Valid_I : FnI Tryz.prog GT := { f := 41, cuts := [⟨(6, 3), [3, 4, 10, 11, 12], false, false, [], [], []⟩], tab := [qoo (fun _ => true), qpo (fun _ => true), qtp (fun _ => true)], fm := ⟨true, [.val (.int .i64) []]⟩ }
noncomputable def qpd (a0 : List qaa) : Option (Int) := member_Valid_I.call [(.sl qba false a0)] []
noncomputable def qod (v3 : Int) (v10 : List qaa) (v11 : Int) (v12 : Int) (h8 : List ByteArray) : Option (Int) := member_Valid_I.sem ⟨[.code (cIn (cIn (qha (qPa (qha (qha (qha (qha (qoa Tryz.prog 41))))))))), .inLoop (cIn (cIn (qha (qPa (qha (qha (qha (qha (qoa Tryz.prog 41))))))))), .inBlock 0, .code (qha (qha (qha (qha (qha (qoa Tryz.prog 41))))))], ⟨[(3, (.one (.int .i64 v3))), (4, (.one (.ref .str 8 0 (List.length h8) true))), (10, (.one (.sl qba false v10))), (11, (.one (.int .i64 v11))), (12, (.one (.int .i64 v12)))], [(8, some (.row .str true h8))], 9⟩⟩
theorem qro (a0 : List qaa) : qpd a0 = (
if (decide ((Int.ofNat (List.length a0)) > (16 : Int))) = true then
some (4 : Int)
else
qod (0 : Int) a0 (Int.ofNat (List.length a0)) (0 : Int) []) := (FnI.call_eq (by kernel_rfl)).trans (by kernel_rfl)
theorem qRg (v3 : Int) (v10 : List qaa) (v11 : Int) (v12 : Int) (h8 : List ByteArray) : qod v3 v10 v11 v12 h8 = (
if (decide (v12 < v11)) = true then
gd (0 ≤ v12) <|
gd (v12 < (Int.ofNat (List.length v10))) <|
(qUh (List.getD v10 (Int.toNat v12) (qja qba)).1).bind fun r1 =>
if (not r1) = true then
some (8 : Int)
else
if (decide ((List.getD v10 (Int.toNat v12) (qja qba)).2.1 < (0 : Int))) = true then
some (8 : Int)
else
if (decide ((List.getD v10 (Int.toNat v12) (qja qba)).2.1 > (8192 : Int))) = true then
some (8 : Int)
else
if ((List.getD v10 (Int.toNat v12) (qja qba)).2.1 == (0 : Int)) = true then
(qVh []).bind fun r2 =>
if (not (peq (.arr 20 (.int .u8)) (List.getD v10 (Int.toNat v12) (qja qba)).2.2.1 r2)) = true then
some (8 : Int)
else
gd ((List.length (h8 ++ [(List.getD v10 (Int.toNat v12) (qja qba)).1])) * 16 ≤ 140737488355328) <|
qod (IntKind.wrap .i64 (v3 + (List.getD v10 (Int.toNat v12) (qja qba)).2.1)) v10 v11 (IntKind.wrap .i64 (v12 + (1 : Int))) (h8 ++ [(List.getD v10 (Int.toNat v12) (qja qba)).1])
else
gd ((List.length (h8 ++ [(List.getD v10 (Int.toNat v12) (qja qba)).1])) * 16 ≤ 140737488355328) <|
qod (IntKind.wrap .i64 (v3 + (List.getD v10 (Int.toNat v12) (qja qba)).2.1)) v10 v11 (IntKind.wrap .i64 (v12 + (1 : Int))) (h8 ++ [(List.getD v10 (Int.toNat v12) (qja qba)).1])
else
if (decide (v3 > (8192 : Int))) = true then
some (4 : Int)
else
(qRi h8).bind fun r3 =>
if r3 = true then
some (14 : Int)
else
some (0 : Int)) := (FnI.sem_eq _).trans (by kernel_rfl)
noncomputable def qMd (acc : List AV → Bool) : Summ Tryz.prog GT := member_Valid_I.summ mixed acc false false
noncomputable def member_Read_I : FnI Tryz.prog GT := { f := 90, cuts := [⟨(8, 3), [7, 8, 27, 28], false, false, [], [], []⟩], tab := [(qsi (fun _ => true)).dropping, qIt (fun _ => true), qMd (fun _ => true)], fm := ⟨true, [.val (.slice qba) [.nw], .val (.int .i64) [], .val (.int .i64) []]⟩ }
noncomputable def quk (a0 : List Int) (a1 : Int) : Option (List qaa × Int × Int) := member_Read_I.call [(.sl (.int .u8) false a0), (.int .i64 a1)] []
noncomputable def qnf (v27 : Int) (v28 : Int) (b8 : qGb) (h9 : List qaa) : Option (List qaa × Int × Int) := member_Read_I.sem ⟨[.code (cIn (cIn (qha (qPa (qha (qha (qha (qha (qoa Tryz.prog 90))))))))), .inLoop (cIn (cIn (qha (qPa (qha (qha (qha (qha (qoa Tryz.prog 90))))))))), .inBlock 1, .code (qha (qha (qha (qha (qha (qoa Tryz.prog 90))))))], ⟨[(7, (.one (.ptr qgb 8 []))), (8, (.one (.ref qba 9 0 (List.length h9) true))), (27, (.one (.int .i64 v27))), (28, (.one (.int .i64 v28)))], [(8, some (.box qgb (inj false qgb b8))), (9, some (.row qba true h9))], 10⟩⟩
theorem qvp (a0 : List Int) (a1 : Int) : quk a0 a1 = (
if (decide (a1 < (0 : Int))) = true then
some ([], ((0 : Int), (2 : Int)))
else
if (decide (a1 > (16 : Int))) = true then
some ([], ((0 : Int), (2 : Int)))
else
if (decide ((Int.ofNat (List.length a0)) > (50000 : Int))) = true then
some ([], ((0 : Int), (4 : Int)))
else
qnf a1 (0 : Int) ((a0, ((0 : Int), ())), ()) []) := (FnI.call_eq (by kernel_rfl)).trans (by kernel_rfl)
theorem qph (v27 : Int) (v28 : Int) (b8 : qGb) (h9 : List qaa) : qnf v27 v28 b8 h9 = (
if (decide (v28 < v27)) = true then
(qtc b8).bind fun r1 =>
(qAh r1.2.1 (0 : Int)).bind fun r2 =>
if r2.1 = true then
some ([], ((0 : Int), r2.2))
else
gd ((List.length (h9 ++ [r1.1])) * 48 ≤ 140737488355328) <|
qnf v27 (IntKind.wrap .i64 (v28 + (1 : Int))) r1.2.2 (h9 ++ [r1.1])
else
(qpd h9).bind fun r3 =>
if (r3 != (0 : Int)) = true then
some ([], ((0 : Int), (12 : Int)))
else
some (h9, (b8.1.2.1, (0 : Int)))) := (FnI.sem_eq _).trans (by kernel_rfl)
noncomputable def qBq (acc : List AV → Bool) : Summ Tryz.prog GT := member_Read_I.summ mixed acc false false
noncomputable def member_Write_I : FnI Tryz.prog GT := { f := 60, cuts := [⟨(6, 3), [5, 13, 14, 15], false, false, [], [], []⟩], tab := [qMd (fun _ => true)], fm := ⟨true, [.val (.slice (.int .u8)) [.nw], .val (.int .i64) []]⟩ }
noncomputable def qTi (a0 : List qaa) : Option (List Int × Int) := member_Write_I.call [(.sl qba false a0)] []
noncomputable def qAe (v13 : List qaa) (v14 : Int) (v15 : Int) (h8 : List Int) : Option (List Int × Int) := member_Write_I.sem ⟨[.code (cIn (cIn (qha (qPa (qha (qha (qha (qoa Tryz.prog 60)))))))), .inLoop (cIn (cIn (qha (qPa (qha (qha (qha (qoa Tryz.prog 60)))))))), .inBlock 0, .code (qha (qha (qha (qha (qoa Tryz.prog 60)))))], ⟨[(5, (.one (.ref (.int .u8) 8 0 (List.length h8) true))), (13, (.one (.sl qba false v13))), (14, (.one (.int .i64 v14))), (15, (.one (.int .i64 v15)))], [(8, some (.row (.int .u8) true h8))], 9⟩⟩
theorem qqo (a0 : List qaa) : qTi a0 = (
(qpd a0).bind fun r1 =>
if (r1 != (0 : Int)) = true then
some ([], r1)
else
qAe a0 (Int.ofNat (List.length a0)) (0 : Int) []) := (FnI.call_eq (by kernel_rfl)).trans (by kernel_rfl)
theorem qQg (v13 : List qaa) (v14 : Int) (v15 : Int) (h8 : List Int) : qAe v13 v14 v15 h8 = (
if (decide (v15 < v14)) = true then
gd (0 ≤ v15) <|
gd (v15 < (Int.ofNat (List.length v13))) <|
gd ((List.length (h8 ++ [(IntKind.wrap .u8 (Int.ofNat (ByteArray.size (List.getD v13 (Int.toNat v15) (qja qba)).1)))])) * 1 ≤ 140737488355328) <|
gd ((List.length ((h8 ++ [(IntKind.wrap .u8 (Int.ofNat (ByteArray.size (List.getD v13 (Int.toNat v15) (qja qba)).1)))]) ++ (qDb (List.getD v13 (Int.toNat v15) (qja qba)).1))) * 1 ≤ 140737488355328) <|
gd (0 ≤ (8 : Int)) <|
gd ((List.length (((h8 ++ [(IntKind.wrap .u8 (Int.ofNat (ByteArray.size (List.getD v13 (Int.toNat v15) (qja qba)).1)))]) ++ (qDb (List.getD v13 (Int.toNat v15) (qja qba)).1)) ++ [(IntKind.wrap .u8 (Int.fdiv (List.getD v13 (Int.toNat v15) (qja qba)).2.1 (256 : Int))), (IntKind.wrap .u8 (List.getD v13 (Int.toNat v15) (qja qba)).2.1)])) * 1 ≤ 140737488355328) <|
gd ((List.length ((((h8 ++ [(IntKind.wrap .u8 (Int.ofNat (ByteArray.size (List.getD v13 (Int.toNat v15) (qja qba)).1)))]) ++ (qDb (List.getD v13 (Int.toNat v15) (qja qba)).1)) ++ [(IntKind.wrap .u8 (Int.fdiv (List.getD v13 (Int.toNat v15) (qja qba)).2.1 (256 : Int))), (IntKind.wrap .u8 (List.getD v13 (Int.toNat v15) (qja qba)).2.1)]) ++ (List.take 20 (List.drop 0 (List.getD v13 (Int.toNat v15) (qja qba)).2.2.1)))) * 1 ≤ 140737488355328) <|
qAe v13 v14 (IntKind.wrap .i64 (v15 + (1 : Int))) ((((h8 ++ [(IntKind.wrap .u8 (Int.ofNat (ByteArray.size (List.getD v13 (Int.toNat v15) (qja qba)).1)))]) ++ (qDb (List.getD v13 (Int.toNat v15) (qja qba)).1)) ++ [(IntKind.wrap .u8 (Int.fdiv (List.getD v13 (Int.toNat v15) (qja qba)).2.1 (256 : Int))), (IntKind.wrap .u8 (List.getD v13 (Int.toNat v15) (qja qba)).2.1)]) ++ (List.take 20 (List.drop 0 (List.getD v13 (Int.toNat v15) (qja qba)).2.2.1)))
else
some (h8, (0 : Int))) := (FnI.sem_eq _).trans (by kernel_rfl)
noncomputable def qup (acc : List AV → Bool) : Summ Tryz.prog GT := member_Write_I.summ mixed acc false false
noncomputable def pack_Head_I : FnI Tryz.prog GT := { f := 36, cuts := [], tab := [qPi (fun _ => true), qup (fun _ => true), qUk (fun _ => true)], fm := ⟨true, [.val (.slice (.int .u8)) [.nw], .val (.int .i64) []]⟩ }
noncomputable def qZk (a0 : qpa) (a1 : List qaa) : Option (List Int × Int) := pack_Head_I.call [(.agg qDa (inj false qDa a0)), (.sl qba false a1)] []
theorem qPr (a0 : qpa) (a1 : List qaa) : qZk a0 a1 = (
(qoh a0).bind fun r1 =>
if (r1 != (0 : Int)) = true then
some ([], r1)
else
(qTi a1).bind fun r2 =>
if (r2.2 != (0 : Int)) = true then
some ([], r2.2)
else
gd (0 ≤ (8 : Int)) <|
gd ((List.length ([(66 : Int), (76 : Int), (70 : Int), (1 : Int), (IntKind.wrap .u8 a0.1), (IntKind.wrap .u8 (Int.fdiv a0.2.1 (256 : Int))), (IntKind.wrap .u8 a0.2.1), (IntKind.wrap .u8 (Int.ofNat (List.length a1)))] ++ r2.1)) * 1 ≤ 140737488355328) <|
(qIl ([(66 : Int), (76 : Int), (70 : Int), (1 : Int), (IntKind.wrap .u8 a0.1), (IntKind.wrap .u8 (Int.fdiv a0.2.1 (256 : Int))), (IntKind.wrap .u8 a0.2.1), (IntKind.wrap .u8 (Int.ofNat (List.length a1)))] ++ r2.1)).bind fun r3 =>
gd ((List.length (([(66 : Int), (76 : Int), (70 : Int), (1 : Int), (IntKind.wrap .u8 a0.1), (IntKind.wrap .u8 (Int.fdiv a0.2.1 (256 : Int))), (IntKind.wrap .u8 a0.2.1), (IntKind.wrap .u8 (Int.ofNat (List.length a1)))] ++ r2.1) ++ (List.take 20 (List.drop 0 r3.1)))) * 1 ≤ 140737488355328) <|
some ((([(66 : Int), (76 : Int), (70 : Int), (1 : Int), (IntKind.wrap .u8 a0.1), (IntKind.wrap .u8 (Int.fdiv a0.2.1 (256 : Int))), (IntKind.wrap .u8 a0.2.1), (IntKind.wrap .u8 (Int.ofNat (List.length a1)))] ++ r2.1) ++ (List.take 20 (List.drop 0 r3.1))), (0 : Int))) := (FnI.call_eq (by kernel_rfl)).trans (by kernel_rfl)
noncomputable def qeo (acc : List AV → Bool) : Summ Tryz.prog GT := pack_Head_I.summ mixed acc false false
noncomputable def list_Head_I : FnI Tryz.prog GT := { f := 55, cuts := [], tab := [qBh (fun _ => true), qPi (fun _ => true), qBq (fun _ => true), qeo (fun _ => true)], fm := ⟨true, [.val qDa [], .val (.slice qba) [.nw], .val (.int .i64) [], .val (.int .i64) []]⟩ }
noncomputable def qDo (a0 : List Int) : Option (qpa × List qaa × Int × Int) := list_Head_I.call [(.sl (.int .u8) false a0)] []
theorem qbs (a0 : List Int) : qDo a0 = (
if (decide ((Int.ofNat (List.length a0)) > (50000 : Int))) = true then
some (((0 : Int), ((0 : Int), ())), ([], ((0 : Int), (4 : Int))))
else
if (decide ((Int.ofNat (List.length a0)) < (8 : Int))) = true then
some (((0 : Int), ((0 : Int), ())), ([], ((0 : Int), (18 : Int))))
else
gd (0 ≤ (4 : Int)) <|
gd ((4 : Int) < (Int.ofNat (List.length a0))) <|
gd (0 ≤ (5 : Int)) <|
gd ((5 : Int) < (Int.ofNat (List.length a0))) <|
gd (0 ≤ (8 : Int)) <|
gd (0 ≤ (6 : Int)) <|
gd ((6 : Int) < (Int.ofNat (List.length a0))) <|
(qsd a0 [(66 : Int), (76 : Int), (70 : Int), (1 : Int)]).bind fun r1 =>
if (not r1) = true then
some (((0 : Int), ((0 : Int), ())), ([], ((0 : Int), (12 : Int))))
else
(qoh ((IntKind.wrap .i64 (List.getD a0 4 (0 : Int))), ((qrc .i64 (IntKind.wrap .i64 ((IntKind.wrap .i64 (List.getD a0 5 (0 : Int))) * (256 : Int))) (IntKind.wrap .i64 (List.getD a0 6 (0 : Int)))), ()))).bind fun r2 =>
if (r2 != (0 : Int)) = true then
some (((0 : Int), ((0 : Int), ())), ([], ((0 : Int), (12 : Int))))
else
gd (0 ≤ (7 : Int)) <|
gd ((7 : Int) < (Int.ofNat (List.length a0))) <|
if (decide ((List.getD a0 7 (0 : Int)) > (16 : Int))) = true then
some (((0 : Int), ((0 : Int), ())), ([], ((0 : Int), (12 : Int))))
else
gd (0 ≤ (8 : Int)) <|
gd ((8 : Int) ≤ (Int.ofNat (List.length a0))) <|
gd (0 ≤ (7 : Int)) <|
gd ((7 : Int) < (Int.ofNat (List.length a0))) <|
(quk (List.drop 8 a0) (IntKind.wrap .i64 (List.getD a0 7 (0 : Int)))).bind fun r3 =>
if (r3.2.2 != (0 : Int)) = true then
some (((0 : Int), ((0 : Int), ())), ([], ((0 : Int), r3.2.2)))
else
(qZk ((IntKind.wrap .i64 (List.getD a0 4 (0 : Int))), ((qrc .i64 (IntKind.wrap .i64 ((IntKind.wrap .i64 (List.getD a0 5 (0 : Int))) * (256 : Int))) (IntKind.wrap .i64 (List.getD a0 6 (0 : Int)))), ())) r3.1).bind fun r4 =>
if (decide ((IntKind.wrap .i64 ((IntKind.wrap .i64 ((Int.ofNat (List.length a0)) - (8 : Int))) - r3.2.1)) < (20 : Int))) = true then
some (((0 : Int), ((0 : Int), ())), ([], ((0 : Int), (18 : Int))))
else
(qsd a0 r4.1).bind fun r5 =>
if (not r5) = true then
some (((0 : Int), ((0 : Int), ())), ([], ((0 : Int), (22 : Int))))
else
some (((IntKind.wrap .i64 (List.getD a0 4 (0 : Int))), ((qrc .i64 (IntKind.wrap .i64 ((IntKind.wrap .i64 (List.getD a0 5 (0 : Int))) * (256 : Int))) (IntKind.wrap .i64 (List.getD a0 6 (0 : Int)))), ())), (r3.1, ((Int.ofNat (List.length r4.1)), (0 : Int))))) := (FnI.call_eq (by kernel_rfl)).trans (by kernel_rfl)
noncomputable def qtt (acc : List AV → Bool) : Summ Tryz.prog GT := list_Head_I.summ mixed acc false false
noncomputable def split_check_1_I : FnI Tryz.prog GT := { f := 192, cuts := [], tab := [], fm := ⟨true, [.val .bool []]⟩ }
noncomputable def qPk (a0 : Int) : Option (Bool) := split_check_1_I.call [(.int .i64 a0)] []
theorem qPm (a0 : Int) : qPk a0 = (
some (decide (a0 < (0 : Int)))) := (FnI.call_eq (by kernel_rfl)).trans (by kernel_rfl)
noncomputable def qEn (acc : List AV → Bool) : Summ Tryz.prog GT := split_check_1_I.summ mixed acc false false
noncomputable def slices_IndexFunc_int_int_I : FnI Tryz.prog GT := { f := 261, cuts := [⟨(2, 3), [0, 1, 7, 8], false, false, [], [], []⟩], tab := [qEn (fun _ => true)], fm := ⟨true, [.val (.int .i64) []]⟩ }
noncomputable def qyc (a0 : List Int) : Option (Int) := slices_IndexFunc_int_int_I.call [(.sl (.int .i64) false a0), (.func 192 [])] []
noncomputable def qob (v0 : List Int) (v7 : Int) (v8 : Int) : Option (Int) := slices_IndexFunc_int_int_I.sem ⟨[.code (cIn (cIn (qha (qPa (qha (qoa Tryz.prog 261)))))), .inLoop (cIn (cIn (qha (qPa (qha (qoa Tryz.prog 261)))))), .inBlock 0, .code (qha (qha (qoa Tryz.prog 261)))], ⟨[(0, (.one (.sl (.int .i64) false v0))), (1, (.one (.func 192 []))), (7, (.one (.int .i64 v7))), (8, (.one (.int .i64 v8)))], [], 8⟩⟩
theorem qgg (a0 : List Int) : qyc a0 = (
qob a0 (Int.ofNat (List.length a0)) (0 : Int)) := (FnI.call_eq (by kernel_rfl)).trans (by kernel_rfl)
theorem qEc (v0 : List Int) (v7 : Int) (v8 : Int) : qob v0 v7 v8 = (
if (decide (v8 < v7)) = true then
gd (0 ≤ v8) <|
gd (v8 < (Int.ofNat (List.length v0))) <|
(qPk (List.getD v0 (Int.toNat v8) (0 : Int))).bind fun r1 =>
if r1 = true then
some (v8)
else
qob v0 v7 (IntKind.wrap .i64 (v8 + (1 : Int)))
else
some (-1 : Int)) := (FnI.sem_eq _).trans (by kernel_rfl)
noncomputable def qCg (acc : List AV → Bool) : Summ Tryz.prog GT := slices_IndexFunc_int_int_I.summ mixed acc false false
noncomputable def slices_ContainsFunc_int_int_I : FnI Tryz.prog GT := { f := 191, cuts := [], tab := [qCg (fun _ => true)], fm := ⟨true, [.val .bool []]⟩ }
noncomputable def qnd (a0 : List Int) : Option (Bool) := slices_ContainsFunc_int_int_I.call [(.sl (.int .i64) false a0), (.func 192 [])] []
theorem qxf (a0 : List Int) : qnd a0 = (
(qyc a0).bind fun r1 =>
some (decide (r1 ≥ (0 : Int)))) := (FnI.call_eq (by kernel_rfl)).trans (by kernel_rfl)
noncomputable def qKf (acc : List AV → Bool) : Summ Tryz.prog GT := slices_ContainsFunc_int_int_I.summ mixed acc false false
noncomputable def split_check_I : FnI Tryz.prog GT := { f := 129, cuts := [⟨(7, 3), [3, 11, 12, 13], false, false, [], [], []⟩], tab := [qKf (fun _ => true)], fm := ⟨true, [.val (.int .i64) []]⟩ }
noncomputable def qnk (a0 : List Int) : Option (Int) := split_check_I.call [(.sl (.int .i64) false a0)] []
noncomputable def qjf (v3 : Int) (v11 : List Int) (v12 : Int) (v13 : Int) : Option (Int) := split_check_I.sem ⟨[.code (cIn (cIn (qha (qPa (qha (qha (qha (qha (qoa Tryz.prog 129))))))))), .inLoop (cIn (cIn (qha (qPa (qha (qha (qha (qha (qoa Tryz.prog 129))))))))), .inBlock 0, .code (qha (qha (qha (qha (qha (qoa Tryz.prog 129))))))], ⟨[(3, (.one (.int .i64 v3))), (11, (.one (.sl (.int .i64) false v11))), (12, (.one (.int .i64 v12))), (13, (.one (.int .i64 v13)))], [], 8⟩⟩
theorem qop (a0 : List Int) : qnk a0 = (
(qnd a0).bind fun r1 =>
if r1 = true then
some (8 : Int)
else
if (decide ((Int.ofNat (List.length a0)) > (16 : Int))) = true then
some (4 : Int)
else
qjf (0 : Int) a0 (Int.ofNat (List.length a0)) (0 : Int)) := (FnI.call_eq (by kernel_rfl)).trans (by kernel_rfl)
theorem qlh (v3 : Int) (v11 : List Int) (v12 : Int) (v13 : Int) : qjf v3 v11 v12 v13 = (
if (decide (v13 < v12)) = true then
gd (0 ≤ v13) <|
gd (v13 < (Int.ofNat (List.length v11))) <|
if (decide ((IntKind.wrap .i64 (v3 + (if (8193 : Int) < (List.getD v11 (Int.toNat v13) (0 : Int)) then (8193 : Int) else (List.getD v11 (Int.toNat v13) (0 : Int))))) > (8192 : Int))) = true then
some (4 : Int)
else
qjf (IntKind.wrap .i64 (v3 + (if (8193 : Int) < (List.getD v11 (Int.toNat v13) (0 : Int)) then (8193 : Int) else (List.getD v11 (Int.toNat v13) (0 : Int))))) v11 v12 (IntKind.wrap .i64 (v13 + (1 : Int)))
else
some (0 : Int)) := (FnI.sem_eq _).trans (by kernel_rfl)
noncomputable def qnq (acc : List AV → Bool) : Summ Tryz.prog GT := split_check_I.summ mixed acc false false
noncomputable def split_Pieces_I : FnI Tryz.prog GT := { f := 91, cuts := [⟨(8, 3), [1, 7, 22, 23, 24], false, false, [], [], []⟩, ⟨(11, 7), [1, 7, 8, 9, 10, 22, 23, 24], false, false, [], [], []⟩], tab := [qnq (fun _ => true)], fm := ⟨true, [.val (.slice qda) [.nw], .val (.int .i64) []]⟩ }
noncomputable def qCi (a0 : List Int) (a1 : Int) : Option (List qfa × Int) := split_Pieces_I.call [(.sl (.int .i64) false a0), (.int .i64 a1)] []
noncomputable def qid (v1 : Int) (v22 : List Int) (v23 : Int) (v24 : Int) (h8 : List qfa) : Option (List qfa × Int) := split_Pieces_I.sem ⟨[.code (cIn (cIn (qha (qPa (qha (qha (qha (qha (qoa Tryz.prog 91))))))))), .inLoop (cIn (cIn (qha (qPa (qha (qha (qha (qha (qoa Tryz.prog 91))))))))), .inBlock 0, .code (qha (qha (qha (qha (qha (qoa Tryz.prog 91))))))], ⟨[(1, (.one (.int .i64 v1))), (7, (.one (.ref qda 8 0 (List.length h8) true))), (22, (.one (.sl (.int .i64) false v22))), (23, (.one (.int .i64 v23))), (24, (.one (.int .i64 v24)))], [(8, some (.row qda true h8))], 9⟩⟩
noncomputable def que (v1 : Int) (v8 : Int) (v9 : Int) (v10 : Int) (v22 : List Int) (v23 : Int) (v24 : Int) (h8 : List qfa) : Option (List qfa × Int) := split_Pieces_I.sem ⟨[.code (cIn (cIn (qha (qha (cIn (qPa (qha (qha (cIn (cIn (qha (qPa (qha (qha (qha (qha (qoa Tryz.prog 91))))))))))))))))), .inLoop (cIn (cIn (qha (qha (cIn (qPa (qha (qha (cIn (cIn (qha (qPa (qha (qha (qha (qha (qoa Tryz.prog 91))))))))))))))))), .inBlock 2, .inBlock 1, .code (qha (qha (qha (cIn (cIn (qha (qPa (qha (qha (qha (qha (qoa Tryz.prog 91)))))))))))), .inLoop (cIn (cIn (qha (qPa (qha (qha (qha (qha (qoa Tryz.prog 91))))))))), .inBlock 0, .code (qha (qha (qha (qha (qha (qoa Tryz.prog 91))))))], ⟨[(1, (.one (.int .i64 v1))), (7, (.one (.ref qda 8 0 (List.length h8) true))), (8, (.one (.int .i64 v8))), (9, (.one (.int .i64 v9))), (10, (.one (.int .i64 v10))), (22, (.one (.sl (.int .i64) false v22))), (23, (.one (.int .i64 v23))), (24, (.one (.int .i64 v24)))], [(8, some (.row qda true h8))], 9⟩⟩
theorem qGn (a0 : List Int) (a1 : Int) : qCi a0 a1 = (
(qnk a0).bind fun r1 =>
if (r1 != (0 : Int)) = true then
some ([], r1)
else
if (decide (a1 < (16 : Int))) = true then
some ([], (2 : Int))
else
if (decide (a1 > (4096 : Int))) = true then
some ([], (2 : Int))
else
qid a1 a0 (Int.ofNat (List.length a0)) (0 : Int) []) := (FnI.call_eq (by kernel_rfl)).trans (by kernel_rfl)
theorem qJg (v1 : Int) (v22 : List Int) (v23 : Int) (v24 : Int) (h8 : List qfa) : qid v1 v22 v23 v24 h8 = (
if (decide (v24 < v23)) = true then
gd (0 ≤ v24) <|
gd (v24 < (Int.ofNat (List.length v22))) <|
que v1 v24 (List.getD v22 (Int.toNat v24) (0 : Int)) (0 : Int) v22 v23 v24 h8
else
some (h8, (0 : Int))) := (FnI.sem_eq _).trans (by kernel_rfl)
theorem qIg (v1 : Int) (v8 : Int) (v9 : Int) (v10 : Int) (v22 : List Int) (v23 : Int) (v24 : Int) (h8 : List qfa) : que v1 v8 v9 v10 v22 v23 v24 h8 = (
if (decide (v10 < v9)) = true then
gd ((List.length (h8 ++ [(v8, (v10, ((if v1 < (IntKind.wrap .i64 (v9 - v10)) then v1 else (IntKind.wrap .i64 (v9 - v10))), ())))])) * 24 ≤ 140737488355328) <|
que v1 v8 v9 (IntKind.wrap .i64 (v10 + v1)) v22 v23 v24 (h8 ++ [(v8, (v10, ((if v1 < (IntKind.wrap .i64 (v9 - v10)) then v1 else (IntKind.wrap .i64 (v9 - v10))), ())))])
else
qid v1 v22 v23 (IntKind.wrap .i64 (v24 + (1 : Int))) h8) := (FnI.sem_eq _).trans (by kernel_rfl)
noncomputable def qpp (acc : List AV → Bool) : Summ Tryz.prog GT := split_Pieces_I.summ mixed acc false false
noncomputable def list_pieces_I : FnI Tryz.prog GT := { f := 56, cuts := [⟨(3, 3), [2, 5, 10, 11, 12], false, false, [], [], []⟩], tab := [qpp (fun _ => true)], fm := ⟨true, [.val (.slice qda) [.nw]]⟩ }
noncomputable def qXh (a0 : qpa) (a1 : List qaa) : Option (List qfa) := list_pieces_I.call [(.agg qDa (inj false qDa a0)), (.sl qba false a1)] []
noncomputable def qpf (v10 : List qaa) (v11 : Int) (v12 : Int) (b8 : qpa) (h9 : List Int) : Option (List qfa) := list_pieces_I.sem ⟨[.code (cIn (cIn (qha (qPa (qha (qha (qoa Tryz.prog 56))))))), .inLoop (cIn (cIn (qha (qPa (qha (qha (qoa Tryz.prog 56))))))), .inBlock 0, .code (qha (qha (qha (qoa Tryz.prog 56))))], ⟨[(2, (.one (.ptr qDa 8 []))), (5, (.one (.ref (.int .i64) 9 0 (List.length h9) true))), (10, (.one (.sl qba false v10))), (11, (.one (.int .i64 v11))), (12, (.one (.int .i64 v12)))], [(8, some (.box qDa (inj false qDa b8))), (9, some (.row (.int .i64) true h9))], 10⟩⟩
theorem qzp (a0 : qpa) (a1 : List qaa) : qXh a0 a1 = (
qpf a1 (Int.ofNat (List.length a1)) (0 : Int) a0 []) := (FnI.call_eq (by kernel_rfl)).trans (by kernel_rfl)
theorem qth (v10 : List qaa) (v11 : Int) (v12 : Int) (b8 : qpa) (h9 : List Int) : qpf v10 v11 v12 b8 h9 = (
if (decide (v12 < v11)) = true then
gd (0 ≤ v12) <|
gd (v12 < (Int.ofNat (List.length v10))) <|
gd ((List.length (h9 ++ [(List.getD v10 (Int.toNat v12) (qja qba)).2.1])) * 8 ≤ 140737488355328) <|
qpf v10 v11 (IntKind.wrap .i64 (v12 + (1 : Int))) b8 (h9 ++ [(List.getD v10 (Int.toNat v12) (qja qba)).2.1])
else
(qCi h9 b8.2.1).bind fun r1 =>
some (r1.1)) := (FnI.sem_eq _).trans (by kernel_rfl)
noncomputable def qfl (acc : List AV → Bool) : Summ Tryz.prog GT := list_pieces_I.summ mixed acc false false
noncomputable def header_Check_I : FnI Tryz.prog GT := { f := 59, cuts := [], tab := [], fm := ⟨true, [.val (.int .i64) []]⟩ }
noncomputable def qhe (a0 : qga) : Option (Int) := header_Check_I.call [(.agg qta (inj false qta a0))] []
theorem qNo (a0 : qga) : qhe a0 = (
if (decide (a0.2.1 < (0 : Int))) = true then
some (8 : Int)
else
if (decide (a0.2.1 ≥ (16 : Int))) = true then
if (decide (a0.2.1 ≥ (16 : Int))) = true then
some (8 : Int)
else
if (a0.1 == (1 : Int)) = true then
if (a0.2.2.2.2.1 == a0.2.2.2.1) = true then
if (a0.2.2.2.2.1 == a0.2.2.2.1) = true then
some (0 : Int)
else
some (8 : Int)
else
if (a0.1 == (2 : Int)) = true then
if (decide (a0.2.2.2.2.1 > (0 : Int))) = true then
if (decide (a0.2.2.2.2.1 < a0.2.2.2.1)) = true then
some (0 : Int)
else
some (8 : Int)
else
some (8 : Int)
else
some (8 : Int)
else
if (a0.1 == (2 : Int)) = true then
if (decide (a0.2.2.2.2.1 > (0 : Int))) = true then
if (decide (a0.2.2.2.2.1 < a0.2.2.2.1)) = true then
some (0 : Int)
else
some (8 : Int)
else
some (8 : Int)
else
some (8 : Int)
else
if (decide (a0.2.2.2.1 < (1 : Int))) = true then
some (8 : Int)
else
if (decide (a0.2.2.2.1 > (4096 : Int))) = true then
if (decide (a0.2.2.2.1 > (4096 : Int))) = true then
some (8 : Int)
else
if (a0.1 == (1 : Int)) = true then
if (a0.2.2.2.2.1 == a0.2.2.2.1) = true then
if (a0.2.2.2.2.1 == a0.2.2.2.1) = true then
some (0 : Int)
else
some (8 : Int)
else
if (a0.1 == (2 : Int)) = true then
if (decide (a0.2.2.2.2.1 > (0 : Int))) = true then
if (decide (a0.2.2.2.2.1 < a0.2.2.2.1)) = true then
some (0 : Int)
else
some (8 : Int)
else
some (8 : Int)
else
some (8 : Int)
else
if (a0.1 == (2 : Int)) = true then
if (decide (a0.2.2.2.2.1 > (0 : Int))) = true then
if (decide (a0.2.2.2.2.1 < a0.2.2.2.1)) = true then
some (0 : Int)
else
some (8 : Int)
else
some (8 : Int)
else
some (8 : Int)
else
if (decide (a0.2.2.1 < (0 : Int))) = true then
some (8 : Int)
else
if (decide (a0.2.2.1 > (IntKind.wrap .i64 ((8192 : Int) - a0.2.2.2.1)))) = true then
some (8 : Int)
else
if (a0.1 == (1 : Int)) = true then
if (a0.2.2.2.2.1 == a0.2.2.2.1) = true then
if (a0.2.2.2.2.1 == a0.2.2.2.1) = true then
some (0 : Int)
else
some (8 : Int)
else
if (a0.1 == (2 : Int)) = true then
if (decide (a0.2.2.2.2.1 > (0 : Int))) = true then
if (decide (a0.2.2.2.2.1 < a0.2.2.2.1)) = true then
some (0 : Int)
else
some (8 : Int)
else
some (8 : Int)
else
some (8 : Int)
else
if (a0.1 == (2 : Int)) = true then
if (decide (a0.2.2.2.2.1 > (0 : Int))) = true then
if (decide (a0.2.2.2.2.1 < a0.2.2.2.1)) = true then
some (0 : Int)
else
some (8 : Int)
else
some (8 : Int)
else
some (8 : Int)) := (FnI.call_eq (by kernel_rfl)).trans (by kernel_rfl)
noncomputable def qrf (acc : List AV → Bool) : Summ Tryz.prog GT := header_Check_I.summ mixed acc false false
noncomputable def header_Parse_I : FnI Tryz.prog GT := { f := 66, cuts := [⟨(5, 3), [0, 2, 4, 12, 13], false, false, [], [], []⟩, ⟨(8, 7), [0, 2, 4, 5, 12, 13, 17, 18], false, false, [], [], []⟩], tab := [qrf (fun _ => true)], fm := ⟨true, [.val qta [], .val (.int .i64) []]⟩ }
noncomputable def qbj (a0 : List Int) : Option (qga × Int) := header_Parse_I.call [(.sl (.int .u8) false a0)] []
noncomputable def qcc (v0 : List Int) (v12 : (List Int)) (v13 : Int) (b8 : qga) (b9 : (List Int)) : Option (qga × Int) := header_Parse_I.sem ⟨[.code (cIn (cIn (qha (qPa (qha (qha (qha (qoa Tryz.prog 66)))))))), .inLoop (cIn (cIn (qha (qPa (qha (qha (qha (qoa Tryz.prog 66)))))))), .inBlock 0, .code (qha (qha (qha (qha (qoa Tryz.prog 66)))))], ⟨[(0, (.one (.sl (.int .u8) false v0))), (2, (.one (.ptr qta 8 []))), (4, (.one (.ptr (.arr 5 (.int .i64)) 9 []))), (12, (.one (.agg (.arr 5 (.int .i64)) v12))), (13, (.one (.int .i64 v13)))], [(8, some (.box qta (inj false qta b8))), (9, some (.box (.arr 5 (.int .i64)) b9))], 10⟩⟩
noncomputable def qqd (v0 : List Int) (v5 : Int) (v12 : (List Int)) (v13 : Int) (v17 : Int) (v18 : Int) (b8 : qga) (b9 : (List Int)) : Option (qga × Int) := header_Parse_I.sem ⟨[.code (cIn (cIn (qha (qha (cIn (qPa (qha (qha (cIn (cIn (qha (qPa (qha (qha (qha (qoa Tryz.prog 66)))))))))))))))), .inLoop (cIn (cIn (qha (qha (cIn (qPa (qha (qha (cIn (cIn (qha (qPa (qha (qha (qha (qoa Tryz.prog 66)))))))))))))))), .inBlock 2, .inBlock 1, .code (qha (qha (qha (cIn (cIn (qha (qPa (qha (qha (qha (qoa Tryz.prog 66))))))))))), .inLoop (cIn (cIn (qha (qPa (qha (qha (qha (qoa Tryz.prog 66)))))))), .inBlock 0, .code (qha (qha (qha (qha (qoa Tryz.prog 66)))))], ⟨[(0, (.one (.sl (.int .u8) false v0))), (2, (.one (.ptr qta 8 []))), (4, (.one (.ptr (.arr 5 (.int .i64)) 9 []))), (5, (.one (.int .i64 v5))), (12, (.one (.agg (.arr 5 (.int .i64)) v12))), (13, (.one (.int .i64 v13))), (17, (.one (.int .i64 v17))), (18, (.one (.int .i64 v18)))], [(8, some (.box qta (inj false qta b8))), (9, some (.box (.arr 5 (.int .i64)) b9))], 10⟩⟩
theorem qMo (a0 : List Int) : qbj a0 = (
if ((Int.ofNat (List.length a0)) != (28 : Int)) = true then
some (((0 : Int), ((0 : Int), ((0 : Int), ((0 : Int), ((0 : Int), ((List.replicate 20 (0 : Int)), ())))))), (12 : Int))
else
qcc a0 G_widths (0 : Int) ((0 : Int), ((0 : Int), ((0 : Int), ((0 : Int), ((0 : Int), ((List.replicate 20 (0 : Int)), ())))))) (List.replicate 5 (0 : Int))) := (FnI.call_eq (by kernel_rfl)).trans (by kernel_rfl)
theorem qFe (v0 : List Int) (v12 : (List Int)) (v13 : Int) (b8 : qga) (b9 : (List Int)) : qcc v0 v12 v13 b8 b9 = (
if (decide (v13 < (5 : Int))) = true then
gd (0 ≤ v13) <|
gd (v13 < (5 : Int)) <|
qqd v0 v13 v12 v13 (List.getD v12 (Int.toNat v13) (0 : Int)) (0 : Int) b8 b9
else
gd (0 ≤ (0 : Int)) <|
gd ((0 : Int) < (5 : Int)) <|
gd (0 ≤ (1 : Int)) <|
gd ((1 : Int) < (5 : Int)) <|
gd (0 ≤ (2 : Int)) <|
gd ((2 : Int) < (5 : Int)) <|
gd (0 ≤ (3 : Int)) <|
gd ((3 : Int) < (5 : Int)) <|
gd (0 ≤ (4 : Int)) <|
gd ((4 : Int) < (5 : Int)) <|
(qhe ((IntKind.wrap .u8 (List.getD b9 0 (0 : Int))), ((List.getD b9 1 (0 : Int)), ((List.getD b9 2 (0 : Int)), ((List.getD b9 3 (0 : Int)), ((List.getD b9 4 (0 : Int)), ((qZb (List.replicate 20 (0 : Int)) 0 (List.take (min (List.length v0) 20) v0)), ()))))))).bind fun r1 =>
if (r1 != (0 : Int)) = true then
some (((0 : Int), ((0 : Int), ((0 : Int), ((0 : Int), ((0 : Int), ((List.replicate 20 (0 : Int)), ())))))), (12 : Int))
else
some (((IntKind.wrap .u8 (List.getD b9 0 (0 : Int))), ((List.getD b9 1 (0 : Int)), ((List.getD b9 2 (0 : Int)), ((List.getD b9 3 (0 : Int)), ((List.getD b9 4 (0 : Int)), ((qZb (List.replicate 20 (0 : Int)) 0 (List.take (min (List.length v0) 20) v0)), ())))))), (0 : Int))) := (FnI.sem_eq _).trans (by kernel_rfl)
theorem qEe (v0 : List Int) (v5 : Int) (v12 : (List Int)) (v13 : Int) (v17 : Int) (v18 : Int) (b8 : qga) (b9 : (List Int)) : qqd v0 v5 v12 v13 v17 v18 b8 b9 = (
if (decide (v18 < v17)) = true then
gd (0 ≤ v5) <|
gd (v5 < (5 : Int)) <|
gd (0 ≤ (8 : Int)) <|
gd (0 ≤ (0 : Int)) <|
gd ((0 : Int) < (Int.ofNat (List.length v0))) <|
gd (0 ≤ v5) <|
gd (v5 < (5 : Int)) <|
gd (0 ≤ (1 : Int)) <|
gd ((1 : Int) ≤ (Int.ofNat (List.length v0))) <|
qqd (List.drop 1 v0) v5 v12 v13 v17 (IntKind.wrap .i64 (v18 + (1 : Int))) b8 (List.set b9 (Int.toNat v5) (qrc .i64 (IntKind.wrap .i64 ((List.getD b9 (Int.toNat v5) (0 : Int)) * (256 : Int))) (IntKind.wrap .i64 (List.getD v0 0 (0 : Int)))))
else
qcc v0 v12 (IntKind.wrap .i64 (v13 + (1 : Int))) b8 b9) := (FnI.sem_eq _).trans (by kernel_rfl)
noncomputable def qGp (acc : List AV → Bool) : Summ Tryz.prog GT := header_Parse_I.summ mixed acc false false
noncomputable def marker_check_I : FnI Tryz.prog GT := { f := 108, cuts := [], tab := [], fm := ⟨true, [.val (.int .i64) []]⟩ }
noncomputable def qDm (a0 : List Int) (a1 : Int) : Option (Int) := marker_check_I.call [(.sl (.int .u8) false a0), (.int .i64 a1)] []
theorem qvo (a0 : List Int) (a1 : Int) : qDm a0 a1 = (
if (decide ((Int.ofNat (List.length a0)) > (50000 : Int))) = true then
some (4 : Int)
else
if (decide (a1 < (0 : Int))) = true then
some (2 : Int)
else
if (decide (a1 > (Int.ofNat (List.length a0)))) = true then
some (2 : Int)
else
some (0 : Int)) := (FnI.call_eq (by kernel_rfl)).trans (by kernel_rfl)
noncomputable def qxp (acc : List AV → Bool) : Summ Tryz.prog GT := marker_check_I.summ mixed acc false false
noncomputable def marker_Bytes_I : FnI Tryz.prog GT := { f := 109, cuts := [], tab := [], fm := ⟨true, [.val (.slice (.int .u8)) [.pu]]⟩ }
noncomputable def qWi : Option (List Int) := marker_Bytes_I.call [] []
theorem qwo : qWi = (
gd (0 < 13) <|
some ([(183 : Int), (98 : Int), (105 : Int), (116 : Int), (108 : Int), (111 : Int), (102 : Int), (116 : Int), (32 : Int), (98 : Int), (108 : Int), (107 : Int), (10 : Int)])) := (FnI.call_eq (by kernel_rfl)).trans (by kernel_rfl)
noncomputable def qyp (acc : List AV → Bool) : Summ Tryz.prog GT := marker_Bytes_I.summ mixed acc false false
noncomputable def marker_At_I : FnI Tryz.prog GT := { f := 67, cuts := [], tab := [qxp (fun _ => true), qyp (fun _ => true), qBh (fun _ => true)], fm := ⟨true, [.val .bool [], .val (.int .i64) []]⟩ }
noncomputable def qxo (a0 : List Int) (a1 : Int) : Option (Bool × Int) := marker_At_I.call [(.sl (.int .u8) false a0), (.int .i64 a1)] []
theorem qWr (a0 : List Int) (a1 : Int) : qxo a0 a1 = (
(qDm a0 a1).bind fun r1 =>
if (r1 != (0 : Int)) = true then
some (false, r1)
else
gd (0 ≤ a1) <|
gd (a1 ≤ (Int.ofNat (List.length a0))) <|
(qWi).bind fun r2 =>
(qsd (List.drop (Int.toNat a1) a0) r2).bind fun r3 =>
some (r3, (0 : Int))) := (FnI.call_eq (by kernel_rfl)).trans (by kernel_rfl)
noncomputable def qqt (acc : List AV → Bool) : Summ Tryz.prog GT := marker_At_I.summ mixed acc false false
noncomputable def bytes_Clone_I : FnI Tryz.prog GT := { f := 68, cuts := [], tab := [], fm := ⟨true, [.val (.slice (.int .u8)) [.nw]]⟩ }
noncomputable def qvg (a0 : List Int) : Option (List Int) := bytes_Clone_I.call [(.sl (.int .u8) false a0)] []
theorem qkk (a0 : List Int) : qvg a0 = (
qHy (fun (r1 : Bool) => r1 = true → a0 = []) fun (r1 : Bool) =>
if r1 = true then
some ([])
else
gd ((List.length ([] ++ a0)) * 1 ≤ 140737488355328) <|
some ([] ++ a0)) := (FnI.call_eq (by kernel_rfl)).trans (by kernel_rfl)
noncomputable def qul (acc : List AV → Bool) : Summ Tryz.prog GT := bytes_Clone_I.summ mixed acc false false
noncomputable def block_Read_I : FnI Tryz.prog GT := { f := 39, cuts := [], tab := [qGp (fun _ => true), qqt (fun _ => true), qul (fun _ => true)], fm := ⟨true, [.val qna [], .val (.int .i64) [], .val (.int .i64) []]⟩ }
noncomputable def qEh (a0 : List Int) : Option (qca × Int × Int) := block_Read_I.call [(.sl (.int .u8) false a0)] []
theorem qvl (a0 : List Int) : qEh a0 = (
if (decide ((Int.ofNat (List.length a0)) > (50000 : Int))) = true then
some ((((0 : Int), ((0 : Int), ((0 : Int), ((0 : Int), ((0 : Int), ((List.replicate 20 (0 : Int)), ())))))), ([], ())), ((0 : Int), (4 : Int)))
else
if (decide ((Int.ofNat (List.length a0)) < (41 : Int))) = true then
some ((((0 : Int), ((0 : Int), ((0 : Int), ((0 : Int), ((0 : Int), ((List.replicate 20 (0 : Int)), ())))))), ([], ())), ((0 : Int), (18 : Int)))
else
gd (0 ≤ (13 : Int)) <|
gd ((13 : Int) ≤ (41 : Int)) <|
gd ((41 : Int) ≤ (Int.ofNat (List.length a0))) <|
(qbj (List.take 28 (List.drop 13 a0))).bind fun r1 =>
(qxo a0 (0 : Int)).bind fun r2 =>
if (not r2.1) = true then
some ((((0 : Int), ((0 : Int), ((0 : Int), ((0 : Int), ((0 : Int), ((List.replicate 20 (0 : Int)), ())))))), ([], ())), ((0 : Int), (12 : Int)))
else
if (r1.2 != (0 : Int)) = true then
some ((((0 : Int), ((0 : Int), ((0 : Int), ((0 : Int), ((0 : Int), ((List.replicate 20 (0 : Int)), ())))))), ([], ())), ((0 : Int), (12 : Int)))
else
if (decide ((Int.ofNat (List.length a0)) < (IntKind.wrap .i64 ((41 : Int) + r1.1.2.2.2.2.1)))) = true then
some ((((0 : Int), ((0 : Int), ((0 : Int), ((0 : Int), ((0 : Int), ((List.replicate 20 (0 : Int)), ())))))), ([], ())), ((0 : Int), (18 : Int)))
else
gd (0 ≤ (41 : Int)) <|
gd ((41 : Int) ≤ (IntKind.wrap .i64 ((41 : Int) + r1.1.2.2.2.2.1))) <|
gd ((IntKind.wrap .i64 ((41 : Int) + r1.1.2.2.2.2.1)) ≤ (Int.ofNat (List.length a0))) <|
(qvg (List.take ((Int.toNat (IntKind.wrap .i64 ((41 : Int) + r1.1.2.2.2.2.1))) - 41) (List.drop 41 a0))).bind fun r3 =>
some ((r1.1, (r3, ())), ((IntKind.wrap .i64 ((41 : Int) + r1.1.2.2.2.2.1)), (0 : Int)))) := (FnI.call_eq (by kernel_rfl)).trans (by kernel_rfl)
noncomputable def qKm (acc : List AV → Bool) : Summ Tryz.prog GT := block_Read_I.summ mixed acc false false
noncomputable def list_is_I : FnI Tryz.prog GT := { f := 57, cuts := [], tab := [], fm := ⟨true, [.val .bool []]⟩ }
noncomputable def qHq (a0 : qga) (a1 : qfa) : Option (Bool) := list_is_I.call [(.agg qta (inj false qta a0)), (.agg qda (inj false qda a1))] []
theorem qQv (a0 : qga) (a1 : qfa) : qHq a0 a1 = (
some (peq qda (a0.2.1, (a0.2.2.1, (a0.2.2.2.1, ()))) a1)) := (FnI.call_eq (by kernel_rfl)).trans (by kernel_rfl)
noncomputable def qZr (acc : List AV → Bool) : Summ Tryz.prog GT := list_is_I.summ mixed acc false false
noncomputable def list_all_I : FnI Tryz.prog GT := { f := 34, cuts := [⟨(7, 3), [0, 2, 7, 9, 10, 32, 33, 34], false, false, [], [], []⟩], tab := [qtt (fun _ => true), qfl (fun _ => true), qKm (fun _ => true), qZr (fun _ => true)], fm := ⟨true, [.val qHa [], .val (.slice qna) [.nw], .val (.int .i64) []]⟩ }
noncomputable def qJq (a0 : List Int) : Option (qua × List qca × Int) := list_all_I.call [(.sl (.int .u8) false a0)] []
noncomputable def qYh (v0 : List Int) (v7 : Int) (v33 : Int) (v34 : Int) (b8a : qpa) (b8bbb : Unit) (b9a : qpa) (b9bbb : Unit) (h10 : List qca) (h11 : List qfa) (h12 : List qaa) (h13 : List qga) (h14 : List qaa) (h15 : List qga) : Option (qua × List qca × Int) := list_all_I.sem ⟨[.code (cIn (cIn (qha (qPa (qha (qha (qha (qha (qha (qoa Tryz.prog 34)))))))))), .inLoop (cIn (cIn (qha (qPa (qha (qha (qha (qha (qha (qoa Tryz.prog 34)))))))))), .inBlock 0, .code (qha (qha (qha (qha (qha (qha (qoa Tryz.prog 34)))))))], ⟨[(0, (.one (.sl (.int .u8) false v0))), (2, (.one (.ptr qHa 8 []))), (7, (.one (.int .i64 v7))), (9, (.one (.ptr qHa 9 []))), (10, (.one (.ref qna 10 0 (List.length h10) true))), (32, (.one (.ref qda 11 0 (List.length h11) true))), (33, (.one (.int .i64 v33))), (34, (.one (.int .i64 v34)))], [(8, some (.box qHa ((inj false qDa b8a), ((SV.ref 12 0 (List.length h12) true), ((SV.ref 13 0 (List.length h13) true), b8bbb))))), (9, some (.box qHa ((inj false qDa b9a), ((SV.ref 14 0 (List.length h14) true), ((SV.ref 15 0 (List.length h15) true), b9bbb))))), (10, some (.row qna true h10)), (11, some (.row qda true h11)), (12, some (.row qba true h12)), (13, some (.row qta true h13)), (14, some (.row qba true h14)), (15, some (.row qta true h15))], 16⟩⟩
theorem qrt (a0 : List Int) : qJq a0 = (
(qDo a0).bind fun r1 =>
if (r1.2.2.2 != (0 : Int)) = true then
some ((((0 : Int), ((0 : Int), ())), ([], ([], ()))), ([], r1.2.2.2))
else
(qXh r1.1 r1.2.1).bind fun r2 =>
qYh a0 r1.2.2.1 (Int.ofNat (List.length r2)) (0 : Int) ((0 : Int), ((0 : Int), ())) () r1.1 () [] r2 [] [] r1.2.1 []) := (FnI.call_eq (by kernel_rfl)).trans (by kernel_rfl)
theorem qdk (v0 : List Int) (v7 : Int) (v33 : Int) (v34 : Int) (b8a : qpa) (b8bbb : Unit) (b9a : qpa) (b9bbb : Unit) (h10 : List qca) (h11 : List qfa) (h12 : List qaa) (h13 : List qga) (h14 : List qaa) (h15 : List qga) : qYh v0 v7 v33 v34 b8a b8bbb b9a b9bbb h10 h11 h12 h13 h14 h15 = (
if (decide (v34 < v33)) = true then
gd (0 ≤ v34) <|
gd (v34 < (Int.ofNat (List.length h11))) <|
gd (0 ≤ v7) <|
gd (v7 ≤ (Int.ofNat (List.length v0))) <|
(qEh (List.drop (Int.toNat v7) v0)).bind fun r3 =>
if (r3.2.2 != (0 : Int)) = true then
some ((((0 : Int), ((0 : Int), ())), ([], ([], ()))), ([], r3.2.2))
else
(qHq r3.1.1 (List.getD h11 (0 + (Int.toNat v34)) (qja qda))).bind fun r4 =>
if (not r4) = true then
some ((((0 : Int), ((0 : Int), ())), ([], ([], ()))), ([], (32 : Int)))
else
gd ((List.length (h15 ++ [r3.1.1])) * 64 ≤ 140737488355328) <|
gd ((List.length (h10 ++ [r3.1])) * 88 ≤ 140737488355328) <|
qYh v0 (IntKind.wrap .i64 (v7 + r3.2.1)) v33 (IntKind.wrap .i64 (v34 + (1 : Int))) b8a b8bbb b9a b9bbb (h10 ++ [r3.1]) h11 h12 h13 h14 (h15 ++ [r3.1.1])
else
if (decide (v7 < (Int.ofNat (List.length v0)))) = true then
some ((((0 : Int), ((0 : Int), ())), ([], ([], ()))), ([], (12 : Int)))
else
some ((b9a, (h14, (h15, b9bbb))), (h10, (0 : Int)))) := (FnI.sem_eq _).trans (by kernel_rfl)
noncomputable def qRv (acc : List AV → Bool) : Summ Tryz.prog GT := list_all_I.summ mixed acc false false
noncomputable def list_List_I : FnI Tryz.prog GT := { f := 17, cuts := [], tab := [qRv (fun _ => true)], fm := ⟨true, [.val qHa [], .val (.int .i64) []]⟩ }
noncomputable def qCo (a0 : List Int) : Option (qua × Int) := list_List_I.call [(.sl (.int .u8) false a0)] []
theorem qas (a0 : List Int) : qCo a0 = (
(qJq a0).bind fun r1 =>
some (r1.1, r1.2.2)) := (FnI.call_eq (by kernel_rfl)).trans (by kernel_rfl)
noncomputable def qst (acc : List AV → Bool) : Summ Tryz.prog GT := list_List_I.summ mixed acc false false
noncomputable def list_Check_I : FnI Tryz.prog GT := { f := 35, cuts := [⟨(7, 3), [3, 28, 29, 30], false, false, [], [], []⟩], tab := [qPi (fun _ => true), qMd (fun _ => true), qfl (fun _ => true), qrf (fun _ => true), qZr (fun _ => true)], fm := ⟨true, [.val (.int .i64) []]⟩ }
noncomputable def qam (a0 : qua) : Option (Int) := list_Check_I.call [(.agg qHa (inj false qHa a0))] []
noncomputable def qTf (v28 : List qga) (v29 : Int) (v30 : Int) (h8 : List qfa) : Option (Int) := list_Check_I.sem ⟨[.code (cIn (cIn (qha (qPa (qha (qha (qha (qha (qoa Tryz.prog 35))))))))), .inLoop (cIn (cIn (qha (qPa (qha (qha (qha (qha (qoa Tryz.prog 35))))))))), .inBlock 0, .code (qha (qha (qha (qha (qha (qoa Tryz.prog 35))))))], ⟨[(3, (.one (.ref qda 8 0 (List.length h8) true))), (28, (.one (.sl qta false v28))), (29, (.one (.int .i64 v29))), (30, (.one (.int .i64 v30)))], [(8, some (.row qda true h8))], 9⟩⟩
theorem qLq (a0 : qua) : qam a0 = (
(qoh a0.1).bind fun r1 =>
if (r1 != (0 : Int)) = true then
some (8 : Int)
else
(qpd a0.2.1).bind fun r2 =>
if (r2 != (0 : Int)) = true then
some (8 : Int)
else
(qXh a0.1 a0.2.1).bind fun r3 =>
if ((Int.ofNat (List.length r3)) != (Int.ofNat (List.length a0.2.2.1))) = true then
some (8 : Int)
else
qTf a0.2.2.1 (Int.ofNat (List.length a0.2.2.1)) (0 : Int) r3) := (FnI.call_eq (by kernel_rfl)).trans (by kernel_rfl)
theorem qni (v28 : List qga) (v29 : Int) (v30 : Int) (h8 : List qfa) : qTf v28 v29 v30 h8 = (
if (decide (v30 < v29)) = true then
gd (0 ≤ v30) <|
gd (v30 < (Int.ofNat (List.length v28))) <|
(qhe (List.getD v28 (Int.toNat v30) (qja qta))).bind fun r4 =>
if (r4 != (0 : Int)) = true then
some (8 : Int)
else
gd (0 ≤ v30) <|
gd (v30 < (Int.ofNat (List.length h8))) <|
(qHq (List.getD v28 (Int.toNat v30) (qja qta)) (List.getD h8 (0 + (Int.toNat v30)) (qja qda))).bind fun r5 =>
if (not r5) = true then
some (8 : Int)
else
qTf v28 v29 (IntKind.wrap .i64 (v30 + (1 : Int))) h8
else
some (0 : Int)) := (FnI.sem_eq _).trans (by kernel_rfl)
noncomputable def qcs (acc : List AV → Bool) : Summ Tryz.prog GT := list_Check_I.summ mixed acc false false
noncomputable def list_Places_I : FnI Tryz.prog GT := { f := 18, cuts := [⟨(8, 3), [7, 8, 27, 28, 29], false, false, [], [], []⟩], tab := [qcs (fun _ => true), qeo (fun _ => true)], fm := ⟨true, [.val (.slice (.int .i64)) [.nw], .val (.int .i64) []]⟩ }
noncomputable def qZh (a0 : qua) : Option (List Int × Int) := list_Places_I.call [(.agg qHa (inj false qHa a0))] []
noncomputable def qqf (v7 : Int) (v27 : List qga) (v28 : Int) (v29 : Int) (h8 : List Int) : Option (List Int × Int) := list_Places_I.sem ⟨[.code (cIn (cIn (qha (qPa (qha (qha (qha (qha (qha (qoa Tryz.prog 18)))))))))), .inLoop (cIn (cIn (qha (qPa (qha (qha (qha (qha (qha (qoa Tryz.prog 18)))))))))), .inBlock 0, .code (qha (qha (qha (qha (qha (qha (qoa Tryz.prog 18)))))))], ⟨[(7, (.one (.int .i64 v7))), (8, (.one (.ref (.int .i64) 8 0 (List.length h8) true))), (27, (.one (.sl qta false v27))), (28, (.one (.int .i64 v28))), (29, (.one (.int .i64 v29)))], [(8, some (.row (.int .i64) true h8))], 9⟩⟩
theorem qAp (a0 : qua) : qZh a0 = (
(qam a0).bind fun r1 =>
if (r1 != (0 : Int)) = true then
some ([], r1)
else
(qZk a0.1 a0.2.1).bind fun r2 =>
qqf (Int.ofNat (List.length r2.1)) a0.2.2.1 (Int.ofNat (List.length a0.2.2.1)) (0 : Int) []) := (FnI.call_eq (by kernel_rfl)).trans (by kernel_rfl)
theorem quh (v7 : Int) (v27 : List qga) (v28 : Int) (v29 : Int) (h8 : List Int) : qqf v7 v27 v28 v29 h8 = (
if (decide (v29 < v28)) = true then
gd (0 ≤ v29) <|
gd (v29 < (Int.ofNat (List.length v27))) <|
gd ((List.length (h8 ++ [v7])) * 8 ≤ 140737488355328) <|
qqf (IntKind.wrap .i64 (v7 + (IntKind.wrap .i64 ((41 : Int) + (List.getD v27 (Int.toNat v29) (qja qta)).2.2.2.2.1)))) v27 v28 (IntKind.wrap .i64 (v29 + (1 : Int))) (h8 ++ [v7])
else
some (h8, (0 : Int))) := (FnI.sem_eq _).trans (by kernel_rfl)
noncomputable def qKq (acc : List AV → Bool) : Summ Tryz.prog GT := list_Places_I.summ mixed acc false false
noncomputable def extract_open_I : FnI Tryz.prog GT := { f := 20, cuts := [⟨(7, 3), [0, 2, 5, 9, 29, 30, 31], false, false, [], [], []⟩], tab := [qst (fun _ => true), qKq (fun _ => true), qKm (fun _ => true)], fm := ⟨true, [.val qHa [], .val (.slice qna) [.nw], .val (.int .i64) []]⟩ }
noncomputable def qcb (a0 : List Int) : Option (qua × List qca × Int) := extract_open_I.call [(.sl (.int .u8) false a0)] []
noncomputable def qGe (v0 : List Int) (v30 : Int) (v31 : Int) (b8a : qpa) (b8bbb : Unit) (b9 : qua) (h10 : List qca) (h11 : List Int) (h12 : List qaa) (h13 : List qga) : Option (qua × List qca × Int) := extract_open_I.sem ⟨[.code (cIn (cIn (qha (qPa (qha (qha (qha (qha (qha (qoa Tryz.prog 20)))))))))), .inLoop (cIn (cIn (qha (qPa (qha (qha (qha (qha (qha (qoa Tryz.prog 20)))))))))), .inBlock 0, .code (qha (qha (qha (qha (qha (qha (qoa Tryz.prog 20)))))))], ⟨[(0, (.one (.sl (.int .u8) false v0))), (2, (.one (.ptr qHa 8 []))), (5, (.one (.ptr qHa 9 []))), (9, (.one (.ref qna 10 0 (List.length h10) true))), (29, (.one (.ref (.int .i64) 11 0 (List.length h11) true))), (30, (.one (.int .i64 v30))), (31, (.one (.int .i64 v31)))], [(8, some (.box qHa ((inj false qDa b8a), ((SV.ref 12 0 (List.length h12) true), ((SV.ref 13 0 (List.length h13) true), b8bbb))))), (9, some (.box qHa (inj true qHa b9))), (10, some (.row qna true h10)), (11, some (.row (.int .i64) true h11)), (12, some (.row qba true h12)), (13, some (.row qta true h13))], 14⟩⟩
theorem qdj (a0 : List Int) : qcb a0 = (
(qCo a0).bind fun r1 =>
if (r1.2 != (0 : Int)) = true then
some ((((0 : Int), ((0 : Int), ())), ([], ([], ()))), ([], r1.2))
else
(qZh r1.1).bind fun r2 =>
qGe a0 (Int.ofNat (List.length r2.1)) (0 : Int) ((0 : Int), ((0 : Int), ())) () r1.1 [] r2.1 [] []) := (FnI.call_eq (by kernel_rfl)).trans (by kernel_rfl)
theorem qWg (v0 : List Int) (v30 : Int) (v31 : Int) (b8a : qpa) (b8bbb : Unit) (b9 : qua) (h10 : List qca) (h11 : List Int) (h12 : List qaa) (h13 : List qga) : qGe v0 v30 v31 b8a b8bbb b9 h10 h11 h12 h13 = (
if (decide (v31 < v30)) = true then
gd (0 ≤ v31) <|
gd (v31 < (Int.ofNat (List.length h11))) <|
gd (0 ≤ (List.getD h11 (0 + (Int.toNat v31)) (0 : Int))) <|
gd ((List.getD h11 (0 + (Int.toNat v31)) (0 : Int)) ≤ (Int.ofNat (List.length v0))) <|
(qEh (List.drop (Int.toNat (List.getD h11 (0 + (Int.toNat v31)) (0 : Int))) v0)).bind fun r3 =>
gd ((List.length (h10 ++ [r3.1])) * 88 ≤ 140737488355328) <|
qGe v0 v30 (IntKind.wrap .i64 (v31 + (1 : Int))) b8a b8bbb b9 (h10 ++ [r3.1]) h11 h12 h13
else
some (b9, (h10, (0 : Int)))) := (FnI.sem_eq _).trans (by kernel_rfl)
noncomputable def qgk (acc : List AV → Bool) : Summ Tryz.prog GT := extract_open_I.summ mixed acc false false
noncomputable def block_Check_I : FnI Tryz.prog GT := { f := 69, cuts := [], tab := [qrf (fun _ => true)], fm := ⟨true, [.val (.int .i64) []]⟩ }
noncomputable def qEk (a0 : qca) : Option (Int) := block_Check_I.call [(.agg qna (inj false qna a0))] []
theorem qOp (a0 : qca) : qEk a0 = (
(qhe a0.1).bind fun r1 =>
if (r1 != (0 : Int)) = true then
some (8 : Int)
else
if ((Int.ofNat (List.length a0.2.1)) != a0.1.2.2.2.2.1) = true then
some (8 : Int)
else
some (0 : Int)) := (FnI.call_eq (by kernel_rfl)).trans (by kernel_rfl)
noncomputable def qor (acc : List AV → Bool) : Summ Tryz.prog GT := block_Check_I.summ mixed acc false false
noncomputable def block_isLevel_I : FnI Tryz.prog GT := { f := 70, cuts := [], tab := [], fm := ⟨true, [.val .bool []]⟩ }
noncomputable def qfi (a0 : Int) : Option (Bool) := block_isLevel_I.call [(.int .i64 a0)] []
theorem qen (a0 : Int) : qfi a0 = (
if (decide (a0 ≥ (0 : Int))) = true then
some (decide (a0 ≤ (7 : Int)))
else
some (false)) := (FnI.call_eq (by kernel_rfl)).trans (by kernel_rfl)
noncomputable def qdp (acc : List AV → Bool) : Summ Tryz.prog GT := block_isLevel_I.summ mixed acc false false
noncomputable def header_front_I : FnI Tryz.prog GT := { f := 175, cuts := [⟨(3, 3), [3, 18, 19], false, false, [], [], []⟩, ⟨(6, 7), [3, 4, 5, 18, 19, 25, 26], false, false, [], [], []⟩], tab := [], fm := ⟨true, [.val (.slice (.int .u8)) [.nw]]⟩ }
noncomputable def qZi (a0 : qga) : Option (List Int) := header_front_I.call [(.agg qta (inj false qta a0))] []
noncomputable def qbc (v18 : (List Int)) (v19 : Int) (h8 : List Int) : Option (List Int) := header_front_I.sem ⟨[.code (cIn (cIn (qha (qPa (qha (qha (qoa Tryz.prog 175))))))), .inLoop (cIn (cIn (qha (qPa (qha (qha (qoa Tryz.prog 175))))))), .inBlock 0, .code (qha (qha (qha (qoa Tryz.prog 175))))], ⟨[(3, (.one (.ref (.int .u8) 8 0 (List.length h8) true))), (18, (.one (.agg (.arr 5 (.int .i64)) v18))), (19, (.one (.int .i64 v19)))], [(8, some (.row (.int .u8) true h8))], 9⟩⟩
noncomputable def qpg (v4 : Int) (v5 : Int) (v18 : (List Int)) (v19 : Int) (v25 : Int) (v26 : Int) (h8 : List Int) : Option (List Int) := header_front_I.sem ⟨[.code (cIn (cIn (qha (qha (cIn (qPa (qha (qha (cIn (cIn (qha (qPa (qha (qha (qoa Tryz.prog 175))))))))))))))), .inLoop (cIn (cIn (qha (qha (cIn (qPa (qha (qha (cIn (cIn (qha (qPa (qha (qha (qoa Tryz.prog 175))))))))))))))), .inBlock 2, .inBlock 1, .code (qha (qha (qha (cIn (cIn (qha (qPa (qha (qha (qoa Tryz.prog 175)))))))))), .inLoop (cIn (cIn (qha (qPa (qha (qha (qoa Tryz.prog 175))))))), .inBlock 0, .code (qha (qha (qha (qoa Tryz.prog 175))))], ⟨[(3, (.one (.ref (.int .u8) 8 0 (List.length h8) true))), (4, (.one (.int .i64 v4))), (5, (.one (.int .i64 v5))), (18, (.one (.agg (.arr 5 (.int .i64)) v18))), (19, (.one (.int .i64 v19))), (25, (.one (.int .i64 v25))), (26, (.one (.int .i64 v26)))], [(8, some (.row (.int .u8) true h8))], 9⟩⟩
theorem qJo (a0 : qga) : qZi a0 = (
qbc (List.set (List.set (List.set (List.set (List.set (List.replicate 5 (0 : Int)) 0 (IntKind.wrap .i64 a0.1)) 1 a0.2.1) 2 a0.2.2.1) 3 a0.2.2.2.1) 4 a0.2.2.2.2.1) (0 : Int) []) := (FnI.call_eq (by kernel_rfl)).trans (by kernel_rfl)
theorem qDe (v18 : (List Int)) (v19 : Int) (h8 : List Int) : qbc v18 v19 h8 = (
if (decide (v19 < (5 : Int))) = true then
gd (0 ≤ v19) <|
gd (v19 < (5 : Int)) <|
gd (0 ≤ v19) <|
gd (v19 < (5 : Int)) <|
qpg v19 (List.getD v18 (Int.toNat v19) (0 : Int)) v18 v19 (List.getD G_widths (Int.toNat v19) (0 : Int)) (0 : Int) h8
else
some (h8)) := (FnI.sem_eq _).trans (by kernel_rfl)
theorem qmc (v4 : Int) (v5 : Int) (v18 : (List Int)) (v19 : Int) (v25 : Int) (v26 : Int) (h8 : List Int) : qpg v4 v5 v18 v19 v25 v26 h8 = (
if (decide (v26 < v25)) = true then
gd (0 ≤ v4) <|
gd (v4 < (5 : Int)) <|
gd (0 ≤ (IntKind.wrap .i64 ((8 : Int) * (IntKind.wrap .i64 ((IntKind.wrap .i64 ((List.getD G_widths (Int.toNat v4) (0 : Int)) - (1 : Int))) - v26))))) <|
gd ((List.length (h8 ++ [(IntKind.wrap .u8 (qnh .i64 v5 (IntKind.wrap .i64 ((8 : Int) * (IntKind.wrap .i64 ((IntKind.wrap .i64 ((List.getD G_widths (Int.toNat v4) (0 : Int)) - (1 : Int))) - v26))))))])) * 1 ≤ 140737488355328) <|
qpg v4 v5 v18 v19 v25 (IntKind.wrap .i64 (v26 + (1 : Int))) (h8 ++ [(IntKind.wrap .u8 (qnh .i64 v5 (IntKind.wrap .i64 ((8 : Int) * (IntKind.wrap .i64 ((IntKind.wrap .i64 ((List.getD G_widths (Int.toNat v4) (0 : Int)) - (1 : Int))) - v26))))))])
else
qbc v18 (IntKind.wrap .i64 (v19 + (1 : Int))) h8) := (FnI.sem_eq _).trans (by kernel_rfl)
noncomputable def qDp (acc : List AV → Bool) : Summ Tryz.prog GT := header_front_I.summ mixed acc false false
noncomputable def header_digest_I : FnI Tryz.prog GT := { f := 120, cuts := [], tab := [qDp (fun _ => true), qUk (fun _ => true)], fm := ⟨true, [.val (.arr 20 (.int .u8)) []]⟩ }
noncomputable def qbi (a0 : qga) (a1 : List Int) : Option ((List Int)) := header_digest_I.call [(.agg qta (inj false qta a0)), (.sl (.int .u8) false a1)] []
theorem qan (a0 : qga) (a1 : List Int) : qbi a0 a1 = (
(qZi a0).bind fun r1 =>
gd ((List.length (r1 ++ a1)) * 1 ≤ 140737488355328) <|
(qIl (r1 ++ a1)).bind fun r2 =>
some (r2.1)) := (FnI.call_eq (by kernel_rfl)).trans (by kernel_rfl)
noncomputable def qKo (acc : List AV → Bool) : Summ Tryz.prog GT := header_digest_I.summ mixed acc false false
noncomputable def header_Right_I : FnI Tryz.prog GT := { f := 74, cuts := [], tab := [qrf (fun _ => true), qKo (fun _ => true)], fm := ⟨true, [.val .bool [], .val (.int .i64) []]⟩ }
noncomputable def qaj (a0 : qga) (a1 : List Int) : Option (Bool × Int) := header_Right_I.call [(.agg qta (inj false qta a0)), (.sl (.int .u8) false a1)] []
theorem qLo (a0 : qga) (a1 : List Int) : qaj a0 a1 = (
(qhe a0).bind fun r1 =>
if (r1 != (0 : Int)) = true then
some (false, r1)
else
if ((Int.ofNat (List.length a1)) == a0.2.2.2.1) = true then
(qbi a0 a1).bind fun r2 =>
some ((peq (.arr 20 (.int .u8)) r2 a0.2.2.2.2.2.1), (0 : Int))
else
some (false, (0 : Int))) := (FnI.call_eq (by kernel_rfl)).trans (by kernel_rfl)
noncomputable def qFp (acc : List AV → Bool) : Summ Tryz.prog GT := header_Right_I.summ mixed acc false false
noncomputable def block_Raw_I : FnI Tryz.prog GT := { f := 40, cuts := [], tab := [qor (fun _ => true), qdp (fun _ => true), qul (fun _ => true), qFp (fun _ => true)], fm := ⟨true, [.val (.slice (.int .u8)) [.nw], .val (.int .i64) []]⟩ }
noncomputable def qwl (a0 : Int) (a1 : qca) : Option (List Int × Int) := block_Raw_I.call [(.int .i64 a0), (.agg qna (inj false qna a1))] []
theorem qIs (a0 : Int) (a1 : qca) : qwl a0 a1 = (
(qEk a1).bind fun r1 =>
if (r1 != (0 : Int)) = true then
some ([], r1)
else
(qfi a0).bind fun r2 =>
if (not r2) = true then
some ([], (2 : Int))
else
(qvg a1.2.1).bind fun r3 =>
if (a1.1.1 == (2 : Int)) = true then
none
else
(qaj a1.1 r3).bind fun r4 =>
if (not r4.1) = true then
some ([], (22 : Int))
else
some (r3, (0 : Int))) := (FnI.call_eq (by kernel_rfl)).trans (by kernel_rfl)
noncomputable def qXt (acc : List AV → Bool) : Summ Tryz.prog GT := block_Raw_I.summ mixed acc false false
noncomputable def extract_parts_I : FnI Tryz.prog GT := { f := 21, cuts := [⟨(3, 3), [0, 1, 6, 17, 18, 19], false, false, [], [], []⟩, ⟨(11, 3), [1, 6, 11, 41, 42], false, false, [], [], []⟩], tab := [qXt (fun _ => true)], fm := ⟨true, [.val (.slice qsa) [.nw], .val (.int .i64) []]⟩ }
noncomputable def qSb (a0 : Int) (a1 : List qca) : Option (List qma × Int) := extract_parts_I.call [(.int .i64 a0), (.sl qna false a1)] []
noncomputable def qUd (v0 : Int) (v1 : List qca) (v17 : List qca) (v18 : Int) (v19 : Int) (n8 : Nat) (h8 : List qlc) : Option (List qma × Int) := extract_parts_I.sem ⟨[.code (cIn (cIn (qha (qPa (qha (qha (qoa Tryz.prog 21))))))), .inLoop (cIn (cIn (qha (qPa (qha (qha (qoa Tryz.prog 21))))))), .inBlock 0, .code (qha (qha (qha (qoa Tryz.prog 21))))], ⟨[(0, (.one (.int .i64 v0))), (1, (.one (.sl qna false v1))), (6, (.one (.chan 8))), (17, (.one (.sl qna false v17))), (18, (.one (.int .i64 v18))), (19, (.one (.int .i64 v19)))], [(8, some (.chan qLa true n8 h8 false))], 9⟩⟩
noncomputable def qRc (v1 : List qca) (v41 : Int) (v42 : Int) (n8 : Nat) (h8 : List qlc) (h9 : List qma) : Option (List qma × Int) := extract_parts_I.sem ⟨[.code (cIn (cIn (qha (qPa (qha (qha (qha (qha (qha (qoa Tryz.prog 21)))))))))), .inLoop (cIn (cIn (qha (qPa (qha (qha (qha (qha (qha (qoa Tryz.prog 21)))))))))), .inBlock 2, .code (qha (qha (qha (qha (qha (qha (qoa Tryz.prog 21)))))))], ⟨[(1, (.one (.sl qna false v1))), (6, (.one (.chan 8))), (11, (.one (.ref qsa 9 0 (List.length h9) true))), (41, (.one (.int .i64 v41))), (42, (.one (.int .i64 v42)))], [(8, some (.chan qLa true n8 h8 true)), (9, some (.row qsa true h9))], 10⟩⟩
theorem qbn (a0 : Int) (a1 : List qca) : qSb a0 a1 = (
gd (0 ≤ (Int.ofNat (List.length a1))) <|
gd ((Int.ofNat (List.length a1)) ≤ 9223372036854775807) <|
gd (40 * (Int.ofNat (List.length a1)) ≤ 281474976710544) <|
qUd a0 a1 a1 (Int.ofNat (List.length a1)) (0 : Int) (List.length a1) []) := (FnI.call_eq (by kernel_rfl)).trans (by kernel_rfl)
theorem qrg (v0 : Int) (v1 : List qca) (v17 : List qca) (v18 : Int) (v19 : Int) (n8 : Nat) (h8 : List qlc) : qUd v0 v1 v17 v18 v19 n8 h8 = (
if (decide (v19 < v18)) = true then
gd (0 ≤ v19) <|
gd (v19 < (Int.ofNat (List.length v17))) <|
(qwl v0 (List.getD v17 (Int.toNat v19) (qja qna))).bind fun r1 =>
gd ((List.length h8) < n8) <|
qUd v0 v1 v17 v18 (IntKind.wrap .i64 (v19 + (1 : Int))) n8 (h8 ++ [(v19, (r1.1, (r1.2, ())))])
else
gd ((Int.ofNat (List.length v1)) = (Int.ofNat (List.length v1))) <|
gd (0 ≤ (Int.ofNat (List.length v1))) <|
gd ((Int.ofNat (List.length v1)) * 48 ≤ 140737488355328) <|
gd ((Int.ofNat (List.length v1)) ≤ 9223372036854775807) <|
qRc v1 (Int.ofNat (List.length v1)) (0 : Int) n8 h8 (List.replicate (List.length v1) (qja qsa))) := (FnI.sem_eq _).trans (by kernel_rfl)
theorem qqg (v1 : List qca) (v41 : Int) (v42 : Int) (n8 : Nat) (h8 : List qlc) (h9 : List qma) : qRc v1 v41 v42 n8 h8 h9 = (
if (decide (v42 < v41)) = true then
gd (0 < (List.length h8)) <|
if ((List.getD h8 0 (qja qLa)).2.2.1 != (0 : Int)) = true then
some ([], (List.getD h8 0 (qja qLa)).2.2.1)
else
gd (0 ≤ (List.getD h8 0 (qja qLa)).1) <|
gd ((List.getD h8 0 (qja qLa)).1 < (Int.ofNat (List.length v1))) <|
gd (0 ≤ (List.getD h8 0 (qja qLa)).1) <|
gd ((List.getD h8 0 (qja qLa)).1 < (Int.ofNat (List.length h9))) <|
qRc v1 v41 (IntKind.wrap .i64 (v42 + (1 : Int))) n8 (List.drop 1 h8) (List.set h9 (0 + (Int.toNat (List.getD h8 0 (qja qLa)).1)) (((List.getD v1 (Int.toNat (List.getD h8 0 (qja qLa)).1) (qja qna)).1.2.1, ((List.getD v1 (Int.toNat (List.getD h8 0 (qja qLa)).1) (qja qna)).1.2.2.1, ((List.getD v1 (Int.toNat (List.getD h8 0 (qja qLa)).1) (qja qna)).1.2.2.2.1, ()))), ((List.getD h8 0 (qja qLa)).2.1, ())))
else
some (h9, (0 : Int))) := (FnI.sem_eq _).trans (by kernel_rfl)
noncomputable def qsg (acc : List AV → Bool) : Summ Tryz.prog GT := extract_parts_I.summ mixed acc false false
noncomputable def split_within_I : FnI Tryz.prog GT := { f := 42, cuts := [], tab := [], fm := ⟨true, [.val .bool []]⟩ }
noncomputable def qyi (a0 : List Int) (a1 : qfa) : Option (Bool) := split_within_I.call [(.sl (.int .i64) false a0), (.agg qda (inj false qda a1))] []
theorem qBn (a0 : List Int) (a1 : qfa) : qyi a0 a1 = (
if (decide (a1.1 ≥ (0 : Int))) = true then
if (decide (a1.1 < (Int.ofNat (List.length a0)))) = true then
if (decide (a1.2.1 ≥ (0 : Int))) = true then
if (decide (a1.2.2.1 > (0 : Int))) = true then
gd (0 ≤ a1.1) <|
gd (a1.1 < (Int.ofNat (List.length a0))) <|
if (decide (a1.2.1 ≤ (List.getD a0 (Int.toNat a1.1) (0 : Int)))) = true then
gd (0 ≤ a1.1) <|
gd (a1.1 < (Int.ofNat (List.length a0))) <|
some (decide (a1.2.2.1 ≤ (IntKind.wrap .i64 ((List.getD a0 (Int.toNat a1.1) (0 : Int)) - a1.2.1))))
else
some (false)
else
some (false)
else
some (false)
else
some (false)
else
some (false)) := (FnI.call_eq (by kernel_rfl)).trans (by kernel_rfl)
noncomputable def qnp (acc : List AV → Bool) : Summ Tryz.prog GT := split_within_I.summ mixed acc false false
noncomputable def split_fill_v2_I : FnI Tryz.prog GT := { f := 43, cuts := [⟨(3, 3), [0, 1, 5, 17, 18, 19], false, false, [8], [], []⟩, ⟨(8, 3), [0, 5, 32, 33, 34], false, false, [8], [], []⟩, ⟨(12, 7), [0, 5, 10, 32, 33, 34, 41, 42, 43], false, false, [8], [], []⟩], tab := [], fm := ⟨true, [.val .bool [], .fams 0 .str (.int .u8)]⟩ }
noncomputable def qJh (a1 : List qma) (h0 : List (ByteArray × List Int)) : Option (Bool × List (ByteArray × List Int)) := split_fill_v2_I.call [(.ref qka 0 0 (List.length (qUf (a := .str) (e := (.int .u8)) h0)) true), (.sl qsa false a1)] [(0, (.famS .str (.int .u8) h0))]
noncomputable def qSd (v1 : List qma) (v18 : Int) (v19 : Int) (h0 : List (ByteArray × List Int)) (h8 : List (List Bool)) : Option (Bool × List (ByteArray × List Int)) := split_fill_v2_I.sem ⟨[.code (cIn (cIn (qha (qPa (qha (qha (qoa Tryz.prog 43))))))), .inLoop (cIn (cIn (qha (qPa (qha (qha (qoa Tryz.prog 43))))))), .inBlock 0, .code (qha (qha (qha (qoa Tryz.prog 43))))], ⟨[(0, (.one (.ref qka 0 0 (List.length (qUf (a := .str) (e := (.int .u8)) h0)) true))), (1, (.one (.sl qsa false v1))), (5, (.one (.ref (.slice .bool) 8 0 (List.length h8) true))), (17, (.one (.ref qka 0 0 (List.length (qUf (a := .str) (e := (.int .u8)) h0)) true))), (18, (.one (.int .i64 v18))), (19, (.one (.int .i64 v19)))], [(0, some (.famS .str (.int .u8) h0)), (8, some (.fam .bool h8))], 10⟩⟩
noncomputable def qjc (v32 : List qma) (v33 : Int) (v34 : Int) (h0 : List (ByteArray × List Int)) (h8 : List (List Bool)) : Option (Bool × List (ByteArray × List Int)) := split_fill_v2_I.sem ⟨[.code (cIn (cIn (qha (qPa (qha (qha (qha (qoa Tryz.prog 43)))))))), .inLoop (cIn (cIn (qha (qPa (qha (qha (qha (qoa Tryz.prog 43)))))))), .inBlock 2, .code (qha (qha (qha (qha (qoa Tryz.prog 43)))))], ⟨[(0, (.one (.ref qka 0 0 (List.length (qUf (a := .str) (e := (.int .u8)) h0)) true))), (5, (.one (.ref (.slice .bool) 8 0 (List.length h8) true))), (32, (.one (.sl qsa false v32))), (33, (.one (.int .i64 v33))), (34, (.one (.int .i64 v34)))], [(0, some (.famS .str (.int .u8) h0)), (8, some (.fam .bool h8))], 10⟩⟩
noncomputable def qLc (v32 : List qma) (v33 : Int) (v34 : Int) (v41 : List Int) (v42 : Int) (v43 : Int) (h0 : List (ByteArray × List Int)) (h8 : List (List Bool)) (b9 : qfa) : Option (Bool × List (ByteArray × List Int)) := split_fill_v2_I.sem ⟨[.code (cIn (cIn (qha (qha (qha (cIn (qPa (qha (qha (cIn (cIn (qha (qPa (qha (qha (qha (qoa Tryz.prog 43))))))))))))))))), .inLoop (cIn (cIn (qha (qha (qha (cIn (qPa (qha (qha (cIn (cIn (qha (qPa (qha (qha (qha (qoa Tryz.prog 43))))))))))))))))), .inBlock 4, .inBlock 3, .code (qha (qha (qha (cIn (cIn (qha (qPa (qha (qha (qha (qoa Tryz.prog 43))))))))))), .inLoop (cIn (cIn (qha (qPa (qha (qha (qha (qoa Tryz.prog 43)))))))), .inBlock 2, .code (qha (qha (qha (qha (qoa Tryz.prog 43)))))], ⟨[(0, (.one (.ref qka 0 0 (List.length (qUf (a := .str) (e := (.int .u8)) h0)) true))), (5, (.one (.ref (.slice .bool) 8 0 (List.length h8) true))), (10, (.one (.ptr qda 9 []))), (32, (.one (.sl qsa false v32))), (33, (.one (.int .i64 v33))), (34, (.one (.int .i64 v34))), (41, (.one (.sl (.int .u8) false v41))), (42, (.one (.int .i64 v42))), (43, (.one (.int .i64 v43)))], [(0, some (.famS .str (.int .u8) h0)), (8, some (.fam .bool h8)), (9, some (.box qda (inj false qda b9)))], 11⟩⟩
theorem qOm (a1 : List qma) (h0 : List (ByteArray × List Int)) : qJh a1 h0 = (
gd ((Int.ofNat (List.length (qUf (a := .str) (e := (.int .u8)) h0))) = (Int.ofNat (List.length (qUf (a := .str) (e := (.int .u8)) h0)))) <|
gd (0 ≤ (Int.ofNat (List.length (qUf (a := .str) (e := (.int .u8)) h0)))) <|
gd ((Int.ofNat (List.length (qUf (a := .str) (e := (.int .u8)) h0))) * 24 ≤ 140737488355328) <|
gd ((Int.ofNat (List.length (qUf (a := .str) (e := (.int .u8)) h0))) ≤ 9223372036854775807) <|
qSd a1 (Int.ofNat (List.length (qUf (a := .str) (e := (.int .u8)) h0))) (0 : Int) h0 (List.replicate (List.length (qUf (a := .str) (e := (.int .u8)) h0)) [])) := (FnI.call_eq (by kernel_rfl)).trans (by kernel_rfl)
theorem qfg (v1 : List qma) (v18 : Int) (v19 : Int) (h0 : List (ByteArray × List Int)) (h8 : List (List Bool)) : qSd v1 v18 v19 h0 h8 = (
if (decide (v19 < v18)) = true then
gd (0 ≤ v19) <|
gd (v19 < (Int.ofNat (List.length (qUf (a := .str) (e := (.int .u8)) h0)))) <|
gd ((Int.ofNat (List.length (List.getD h0 (0 + (Int.toNat v19)) (ByteArray.empty, [])).2)) = (Int.ofNat (List.length (List.getD h0 (0 + (Int.toNat v19)) (ByteArray.empty, [])).2))) <|
gd (0 ≤ (Int.ofNat (List.length (List.getD h0 (0 + (Int.toNat v19)) (ByteArray.empty, [])).2))) <|
gd ((Int.ofNat (List.length (List.getD h0 (0 + (Int.toNat v19)) (ByteArray.empty, [])).2)) * 1 ≤ 140737488355328) <|
gd ((Int.ofNat (List.length (List.getD h0 (0 + (Int.toNat v19)) (ByteArray.empty, [])).2)) ≤ 9223372036854775807) <|
gd (0 ≤ v19) <|
gd (v19 < (Int.ofNat (List.length h8))) <|
qSd v1 v18 (IntKind.wrap .i64 (v19 + (1 : Int))) h0 (List.set h8 (0 + (Int.toNat v19)) (List.replicate (List.length (List.getD h0 (0 + (Int.toNat v19)) (ByteArray.empty, [])).2) false))
else
qjc v1 (Int.ofNat (List.length v1)) (0 : Int) h0 h8) := (FnI.sem_eq _).trans (by kernel_rfl)
theorem qeg (v32 : List qma) (v33 : Int) (v34 : Int) (h0 : List (ByteArray × List Int)) (h8 : List (List Bool)) : qjc v32 v33 v34 h0 h8 = (
if (decide (v34 < v33)) = true then
gd (0 ≤ v34) <|
gd (v34 < (Int.ofNat (List.length v32))) <|
qLc v32 v33 v34 (List.getD v32 (Int.toNat v34) (qja qsa)).2.1 (Int.ofNat (List.length (List.getD v32 (Int.toNat v34) (qja qsa)).2.1)) (0 : Int) h0 h8 (List.getD v32 (Int.toNat v34) (qja qsa)).1
else
some (true, h0)) := (FnI.sem_eq _).trans (by kernel_rfl)
theorem qdg (v32 : List qma) (v33 : Int) (v34 : Int) (v41 : List Int) (v42 : Int) (v43 : Int) (h0 : List (ByteArray × List Int)) (h8 : List (List Bool)) (b9 : qfa) : qLc v32 v33 v34 v41 v42 v43 h0 h8 b9 = (
if (decide (v43 < v42)) = true then
gd (0 ≤ v43) <|
gd (v43 < (Int.ofNat (List.length v41))) <|
gd (0 ≤ b9.1) <|
gd (b9.1 < (Int.ofNat (List.length h8))) <|
gd (0 < (List.length (List.getD h8 (0 + (Int.toNat b9.1)) []))) <|
gd (0 ≤ (IntKind.wrap .i64 (b9.2.1 + v43))) <|
gd ((IntKind.wrap .i64 (b9.2.1 + v43)) < (Int.ofNat (List.length (List.getD h8 (0 + (Int.toNat b9.1)) [])))) <|
if (List.getD (List.getD h8 (0 + (Int.toNat b9.1)) []) (0 + (Int.toNat (IntKind.wrap .i64 (b9.2.1 + v43)))) false) = true then
gd (0 ≤ b9.1) <|
gd (b9.1 < (Int.ofNat (List.length (qUf (a := .str) (e := (.int .u8)) h0)))) <|
gd (0 < (List.length (List.getD h0 (0 + (Int.toNat b9.1)) (ByteArray.empty, [])).2)) <|
gd (0 ≤ (IntKind.wrap .i64 (b9.2.1 + v43))) <|
gd ((IntKind.wrap .i64 (b9.2.1 + v43)) < (Int.ofNat (List.length (List.getD h0 (0 + (Int.toNat b9.1)) (ByteArray.empty, [])).2))) <|
if ((List.getD (List.getD h0 (0 + (Int.toNat b9.1)) (ByteArray.empty, [])).2 (0 + (Int.toNat (IntKind.wrap .i64 (b9.2.1 + v43)))) (0 : Int)) != (List.getD v41 (Int.toNat v43) (0 : Int))) = true then
some (false, h0)
else
gd (0 ≤ b9.1) <|
gd (b9.1 < (Int.ofNat (List.length h8))) <|
gd (0 < (List.length (List.getD h8 (0 + (Int.toNat b9.1)) []))) <|
gd (0 ≤ b9.1) <|
gd (b9.1 < (Int.ofNat (List.length (qUf (a := .str) (e := (.int .u8)) h0)))) <|
gd (0 < (List.length (List.getD h0 (0 + (Int.toNat b9.1)) (ByteArray.empty, [])).2)) <|
gd (0 ≤ (IntKind.wrap .i64 (b9.2.1 + v43))) <|
gd ((IntKind.wrap .i64 (b9.2.1 + v43)) < (Int.ofNat (List.length (List.getD h8 (0 + (Int.toNat b9.1)) [])))) <|
gd (0 ≤ (IntKind.wrap .i64 (b9.2.1 + v43))) <|
gd ((IntKind.wrap .i64 (b9.2.1 + v43)) < (Int.ofNat (List.length (List.getD h0 (0 + (Int.toNat b9.1)) (ByteArray.empty, [])).2))) <|
qLc v32 v33 v34 v41 v42 (IntKind.wrap .i64 (v43 + (1 : Int))) (List.set h0 (0 + (Int.toNat b9.1)) ((List.getD h0 (0 + (Int.toNat b9.1)) (ByteArray.empty, [])).1, (List.set (List.getD h0 (0 + (Int.toNat b9.1)) (ByteArray.empty, [])).2 (0 + (Int.toNat (IntKind.wrap .i64 (b9.2.1 + v43)))) (List.getD v41 (Int.toNat v43) (0 : Int))))) (List.set h8 (0 + (Int.toNat b9.1)) (List.set (List.getD h8 (0 + (Int.toNat b9.1)) []) (0 + (Int.toNat (IntKind.wrap .i64 (b9.2.1 + v43)))) true)) b9
else
gd (0 ≤ b9.1) <|
gd (b9.1 < (Int.ofNat (List.length h8))) <|
gd (0 < (List.length (List.getD h8 (0 + (Int.toNat b9.1)) []))) <|
gd (0 ≤ b9.1) <|
gd (b9.1 < (Int.ofNat (List.length (qUf (a := .str) (e := (.int .u8)) h0)))) <|
gd (0 < (List.length (List.getD h0 (0 + (Int.toNat b9.1)) (ByteArray.empty, [])).2)) <|
gd (0 ≤ (IntKind.wrap .i64 (b9.2.1 + v43))) <|
gd ((IntKind.wrap .i64 (b9.2.1 + v43)) < (Int.ofNat (List.length (List.getD h8 (0 + (Int.toNat b9.1)) [])))) <|
gd (0 ≤ (IntKind.wrap .i64 (b9.2.1 + v43))) <|
gd ((IntKind.wrap .i64 (b9.2.1 + v43)) < (Int.ofNat (List.length (List.getD h0 (0 + (Int.toNat b9.1)) (ByteArray.empty, [])).2))) <|
qLc v32 v33 v34 v41 v42 (IntKind.wrap .i64 (v43 + (1 : Int))) (List.set h0 (0 + (Int.toNat b9.1)) ((List.getD h0 (0 + (Int.toNat b9.1)) (ByteArray.empty, [])).1, (List.set (List.getD h0 (0 + (Int.toNat b9.1)) (ByteArray.empty, [])).2 (0 + (Int.toNat (IntKind.wrap .i64 (b9.2.1 + v43)))) (List.getD v41 (Int.toNat v43) (0 : Int))))) (List.set h8 (0 + (Int.toNat b9.1)) (List.set (List.getD h8 (0 + (Int.toNat b9.1)) []) (0 + (Int.toNat (IntKind.wrap .i64 (b9.2.1 + v43)))) true)) b9
else
qjc v32 v33 (IntKind.wrap .i64 (v34 + (1 : Int))) h0 h8) := (FnI.sem_eq _).trans (by kernel_rfl)
noncomputable def qDn (acc : List AV → Bool) : Summ Tryz.prog GT := split_fill_v2_I.summ mixed acc true false
noncomputable def slices_Clone_api_Piece_api_Piece_I : FnI Tryz.prog GT := { f := 78, cuts := [], tab := [], fm := ⟨true, [.val (.slice qda) [.nw]]⟩ }
noncomputable def qtb (a0 : List qfa) : Option (List qfa) := slices_Clone_api_Piece_api_Piece_I.call [(.sl qda false a0)] []
theorem qZd (a0 : List qfa) : qtb a0 = (
qHy (fun (r1 : Bool) => r1 = true → a0 = []) fun (r1 : Bool) =>
if r1 = true then
some ([])
else
gd ((List.length ([] ++ a0)) * 24 ≤ 140737488355328) <|
some ([] ++ a0)) := (FnI.call_eq (by kernel_rfl)).trans (by kernel_rfl)
noncomputable def qse (acc : List AV → Bool) : Summ Tryz.prog GT := slices_Clone_api_Piece_api_Piece_I.summ mixed acc false false
noncomputable def math_bits_Len64_I : FnI Tryz.prog GT := { f := 185, cuts := [], tab := [], fm := ⟨true, [.val (.int .i64) []]⟩ }
noncomputable def qVi (a0 : Int) : Option (Int) := math_bits_Len64_I.call [(.int .u64 a0)] []
theorem qSg (a0 : Int) : qVi a0 = (
if (decide (a0 ≥ (4294967296 : Int))) = true then
gd (0 ≤ (32 : Int)) <|
if (decide ((Int.fdiv a0 (4294967296 : Int)) ≥ (65536 : Int))) = true then
gd (0 ≤ (16 : Int)) <|
if (decide ((Int.fdiv (Int.fdiv a0 (4294967296 : Int)) (65536 : Int)) ≥ (256 : Int))) = true then
gd (0 ≤ (8 : Int)) <|
gd (0 ≤ (IntKind.wrap .u8 (Int.fdiv (Int.fdiv (Int.fdiv a0 (4294967296 : Int)) (65536 : Int)) (256 : Int)))) <|
gd ((IntKind.wrap .u8 (Int.fdiv (Int.fdiv (Int.fdiv a0 (4294967296 : Int)) (65536 : Int)) (256 : Int))) < (t42Tab1.size : Int)) <|
some (IntKind.wrap .i64 ((56 : Int) + (IntKind.wrap .i64 (qJm t42Tab1 (Int.toNat (IntKind.wrap .u8 (Int.fdiv (Int.fdiv (Int.fdiv a0 (4294967296 : Int)) (65536 : Int)) (256 : Int))))))))
else
gd (0 ≤ (IntKind.wrap .u8 (Int.fdiv (Int.fdiv a0 (4294967296 : Int)) (65536 : Int)))) <|
gd ((IntKind.wrap .u8 (Int.fdiv (Int.fdiv a0 (4294967296 : Int)) (65536 : Int))) < (t42Tab1.size : Int)) <|
some (IntKind.wrap .i64 ((48 : Int) + (IntKind.wrap .i64 (qJm t42Tab1 (Int.toNat (IntKind.wrap .u8 (Int.fdiv (Int.fdiv a0 (4294967296 : Int)) (65536 : Int))))))))
else
if (decide ((Int.fdiv a0 (4294967296 : Int)) ≥ (256 : Int))) = true then
gd (0 ≤ (8 : Int)) <|
gd (0 ≤ (IntKind.wrap .u8 (Int.fdiv (Int.fdiv a0 (4294967296 : Int)) (256 : Int)))) <|
gd ((IntKind.wrap .u8 (Int.fdiv (Int.fdiv a0 (4294967296 : Int)) (256 : Int))) < (t42Tab1.size : Int)) <|
some (IntKind.wrap .i64 ((40 : Int) + (IntKind.wrap .i64 (qJm t42Tab1 (Int.toNat (IntKind.wrap .u8 (Int.fdiv (Int.fdiv a0 (4294967296 : Int)) (256 : Int))))))))
else
gd (0 ≤ (IntKind.wrap .u8 (Int.fdiv a0 (4294967296 : Int)))) <|
gd ((IntKind.wrap .u8 (Int.fdiv a0 (4294967296 : Int))) < (t42Tab1.size : Int)) <|
some (IntKind.wrap .i64 ((32 : Int) + (IntKind.wrap .i64 (qJm t42Tab1 (Int.toNat (IntKind.wrap .u8 (Int.fdiv a0 (4294967296 : Int))))))))
else
if (decide (a0 ≥ (65536 : Int))) = true then
gd (0 ≤ (16 : Int)) <|
if (decide ((Int.fdiv a0 (65536 : Int)) ≥ (256 : Int))) = true then
gd (0 ≤ (8 : Int)) <|
gd (0 ≤ (IntKind.wrap .u8 (Int.fdiv (Int.fdiv a0 (65536 : Int)) (256 : Int)))) <|
gd ((IntKind.wrap .u8 (Int.fdiv (Int.fdiv a0 (65536 : Int)) (256 : Int))) < (t42Tab1.size : Int)) <|
some (IntKind.wrap .i64 ((24 : Int) + (IntKind.wrap .i64 (qJm t42Tab1 (Int.toNat (IntKind.wrap .u8 (Int.fdiv (Int.fdiv a0 (65536 : Int)) (256 : Int))))))))
else
gd (0 ≤ (IntKind.wrap .u8 (Int.fdiv a0 (65536 : Int)))) <|
gd ((IntKind.wrap .u8 (Int.fdiv a0 (65536 : Int))) < (t42Tab1.size : Int)) <|
some (IntKind.wrap .i64 ((16 : Int) + (IntKind.wrap .i64 (qJm t42Tab1 (Int.toNat (IntKind.wrap .u8 (Int.fdiv a0 (65536 : Int))))))))
else
if (decide (a0 ≥ (256 : Int))) = true then
gd (0 ≤ (8 : Int)) <|
gd (0 ≤ (IntKind.wrap .u8 (Int.fdiv a0 (256 : Int)))) <|
gd ((IntKind.wrap .u8 (Int.fdiv a0 (256 : Int))) < (t42Tab1.size : Int)) <|
some (IntKind.wrap .i64 ((8 : Int) + (IntKind.wrap .i64 (qJm t42Tab1 (Int.toNat (IntKind.wrap .u8 (Int.fdiv a0 (256 : Int))))))))
else
gd (0 ≤ (IntKind.wrap .u8 a0)) <|
gd ((IntKind.wrap .u8 a0) < (t42Tab1.size : Int)) <|
some (IntKind.wrap .i64 ((0 : Int) + (IntKind.wrap .i64 (qJm t42Tab1 (Int.toNat (IntKind.wrap .u8 a0))))))) := (FnI.call_eq (by kernel_rfl)).trans (by kernel_rfl)
noncomputable def qVl (acc : List AV → Bool) : Summ Tryz.prog GT := math_bits_Len64_I.summ mixed acc false false
noncomputable def math_bits_Len_I : FnI Tryz.prog GT := { f := 122, cuts := [], tab := [qVl (fun _ => true)], fm := ⟨true, [.val (.int .i64) []]⟩ }
noncomputable def qBe (a0 : Int) : Option (Int) := math_bits_Len_I.call [(.int .u64 a0)] []
theorem qki (a0 : Int) : qBe a0 = (
(qVi a0).bind fun r1 =>
some (r1)) := (FnI.call_eq (by kernel_rfl)).trans (by kernel_rfl)
noncomputable def qUi (acc : List AV → Bool) : Summ Tryz.prog GT := math_bits_Len_I.summ mixed acc false false
noncomputable def cmp_isNaN_int_I : FnI Tryz.prog GT := { f := 123, cuts := [], tab := [], fm := ⟨true, [.val .bool []]⟩ }
noncomputable def qVf (a0 : Int) : Option (Bool) := cmp_isNaN_int_I.call [(.int .i64 a0)] []
theorem qcn (a0 : Int) : qVf a0 = (
some (a0 != a0)) := (FnI.call_eq (by kernel_rfl)).trans (by kernel_rfl)
noncomputable def qYo (acc : List AV → Bool) : Summ Tryz.prog GT := cmp_isNaN_int_I.summ mixed acc false false
noncomputable def cmp_Compare_int_I : FnI Tryz.prog GT := { f := 82, cuts := [], tab := [qYo (fun _ => true)], fm := ⟨true, [.val (.int .i64) []]⟩ }
noncomputable def qJe (a0 : Int) (a1 : Int) : Option (Int) := cmp_Compare_int_I.call [(.int .i64 a0), (.int .i64 a1)] []
theorem qql (a0 : Int) (a1 : Int) : qJe a0 a1 = (
(qVf a0).bind fun r1 =>
(qVf a1).bind fun r2 =>
if r1 = true then
if r2 = true then
some (0 : Int)
else
some (-1 : Int)
else
if r2 = true then
some (1 : Int)
else
if (decide (a0 < a1)) = true then
some (-1 : Int)
else
if (decide (a0 > a1)) = true then
some (1 : Int)
else
some (0 : Int)) := (FnI.call_eq (by kernel_rfl)).trans (by kernel_rfl)
noncomputable def qkm (acc : List AV → Bool) : Summ Tryz.prog GT := cmp_Compare_int_I.summ mixed acc false false
noncomputable def cmp_Or_int_I : FnI Tryz.prog GT := { f := 81, cuts := [⟨(3, 3), [3, 6, 7, 8], false, false, [], [], []⟩], tab := [], fm := ⟨true, [.val (.int .i64) []]⟩ }
noncomputable def qjm (a0 : List Int) : Option (Int) := cmp_Or_int_I.call [(.sl (.int .i64) false a0)] []
noncomputable def qAd (v3 : Int) (v6 : List Int) (v7 : Int) (v8 : Int) : Option (Int) := cmp_Or_int_I.sem ⟨[.code (cIn (cIn (qha (qPa (qha (qha (qoa Tryz.prog 81))))))), .inLoop (cIn (cIn (qha (qPa (qha (qha (qoa Tryz.prog 81))))))), .inBlock 0, .code (qha (qha (qha (qoa Tryz.prog 81))))], ⟨[(3, (.one (.int .i64 v3))), (6, (.one (.sl (.int .i64) false v6))), (7, (.one (.int .i64 v7))), (8, (.one (.int .i64 v8)))], [], 8⟩⟩
theorem qjr (a0 : List Int) : qjm a0 = (
qAd (0 : Int) a0 (Int.ofNat (List.length a0)) (0 : Int)) := (FnI.call_eq (by kernel_rfl)).trans (by kernel_rfl)
theorem qMf (v3 : Int) (v6 : List Int) (v7 : Int) (v8 : Int) : qAd v3 v6 v7 v8 = (
if (decide (v8 < v7)) = true then
gd (0 ≤ v8) <|
gd (v8 < (Int.ofNat (List.length v6))) <|
if ((List.getD v6 (Int.toNat v8) (0 : Int)) != v3) = true then
some (List.getD v6 (Int.toNat v8) (0 : Int))
else
qAd v3 v6 v7 (IntKind.wrap .i64 (v8 + (1 : Int)))
else
some (v3)) := (FnI.sem_eq _).trans (by kernel_rfl)
noncomputable def qDs (acc : List AV → Bool) : Summ Tryz.prog GT := cmp_Or_int_I.summ mixed acc false false
noncomputable def split_missing_1_I : FnI Tryz.prog GT := { f := 80, cuts := [], tab := [qkm (fun _ => true), qDs (fun _ => true)], fm := ⟨true, [.val (.int .i64) []]⟩ }
noncomputable def qEa (a0 : qfa) (a1 : qfa) : Option (Int) := split_missing_1_I.call [(.agg qda (inj false qda a0)), (.agg qda (inj false qda a1))] []
theorem qOk (a0 : qfa) (a1 : qfa) : qEa a0 a1 = (
(qJe a0.1 a1.1).bind fun r1 =>
(qJe a0.2.1 a1.2.1).bind fun r2 =>
(qjm [r1, r2]).bind fun r3 =>
some (r3)) := (FnI.call_eq (by kernel_rfl)).trans (by kernel_rfl)
noncomputable def qwb (acc : List AV → Bool) : Summ Tryz.prog GT := split_missing_1_I.summ mixed acc false false
noncomputable def slices_insertionSortCmpFunc_api_Piece_I : FnI Tryz.prog GT := { f := 176, cuts := [⟨(1, 2), [0, 1, 2, 3, 8], false, false, [], [], []⟩, ⟨(4, 6), [0, 1, 2, 3, 8, 9], false, false, [], [], []⟩], tab := [qwb (fun _ => true)], fm := ⟨false, [.row 0 qda]⟩ }
noncomputable def qab (a1 : Int) (a2 : Int) (h0 : List qfa) : Option (List qfa) := slices_insertionSortCmpFunc_api_Piece_I.call [(.ref qda 0 0 (List.length h0) true), (.int .i64 a1), (.int .i64 a2), (.func 80 [])] [(0, (.row qda false h0))]
noncomputable def qCa (v1 : Int) (v2 : Int) (v8 : Int) (h0 : List qfa) : Option (List qfa) := slices_insertionSortCmpFunc_api_Piece_I.sem ⟨[.code (cIn (cIn (qha (qoa Tryz.prog 176)))), .inLoop (cIn (cIn (qha (qoa Tryz.prog 176)))), .inBlock 0], ⟨[(0, (.one (.ref qda 0 0 (List.length h0) true))), (1, (.one (.int .i64 v1))), (2, (.one (.int .i64 v2))), (3, (.one (.func 80 []))), (8, (.one (.int .i64 v8)))], [(0, some (.row qda false h0))], 9⟩⟩
noncomputable def qVa (v1 : Int) (v2 : Int) (v8 : Int) (v9 : Int) (h0 : List qfa) : Option (List qfa) := slices_insertionSortCmpFunc_api_Piece_I.sem ⟨[.code (cIn (cIn (qha (cIn (qPa (qha (cIn (cIn (qha (qoa Tryz.prog 176)))))))))), .inLoop (cIn (cIn (qha (cIn (qPa (qha (cIn (cIn (qha (qoa Tryz.prog 176)))))))))), .inBlock 2, .inBlock 1, .code (qha (qha (cIn (cIn (qha (qoa Tryz.prog 176)))))), .inLoop (cIn (cIn (qha (qoa Tryz.prog 176)))), .inBlock 0], ⟨[(0, (.one (.ref qda 0 0 (List.length h0) true))), (1, (.one (.int .i64 v1))), (2, (.one (.int .i64 v2))), (3, (.one (.func 80 []))), (8, (.one (.int .i64 v8))), (9, (.one (.int .i64 v9)))], [(0, some (.row qda false h0))], 9⟩⟩
theorem qed (a1 : Int) (a2 : Int) (h0 : List qfa) : qab a1 a2 h0 = (
qCa a1 a2 (IntKind.wrap .i64 (a1 + (1 : Int))) h0) := (FnI.call_eq (by kernel_rfl)).trans (by kernel_rfl)
theorem qQa (v1 : Int) (v2 : Int) (v8 : Int) (h0 : List qfa) : qCa v1 v2 v8 h0 = (
if (decide (v8 < v2)) = true then
qVa v1 v2 v8 v8 h0
else
some (h0)) := (FnI.sem_eq _).trans (by kernel_rfl)
theorem qHc (v1 : Int) (v2 : Int) (v8 : Int) (v9 : Int) (h0 : List qfa) : qVa v1 v2 v8 v9 h0 = (
if (decide (v9 > v1)) = true then
gd (0 ≤ v9) <|
gd (v9 < (Int.ofNat (List.length h0))) <|
gd (0 ≤ (IntKind.wrap .i64 (v9 - (1 : Int)))) <|
gd ((IntKind.wrap .i64 (v9 - (1 : Int))) < (Int.ofNat (List.length h0))) <|
(qEa (List.getD h0 (0 + (Int.toNat v9)) (qja qda)) (List.getD h0 (0 + (Int.toNat (IntKind.wrap .i64 (v9 - (1 : Int))))) (qja qda))).bind fun r1 =>
if (decide (r1 < (0 : Int))) = true then
gd (0 ≤ (IntKind.wrap .i64 (v9 - (1 : Int)))) <|
gd ((IntKind.wrap .i64 (v9 - (1 : Int))) < (Int.ofNat (List.length h0))) <|
gd (0 ≤ v9) <|
gd (v9 < (Int.ofNat (List.length h0))) <|
gd (0 ≤ v9) <|
gd (v9 < (Int.ofNat (List.length h0))) <|
gd (0 ≤ (IntKind.wrap .i64 (v9 - (1 : Int)))) <|
gd ((IntKind.wrap .i64 (v9 - (1 : Int))) < (Int.ofNat (List.length h0))) <|
qVa v1 v2 v8 (IntKind.wrap .i64 (v9 - (1 : Int))) (List.set (List.set h0 (0 + (Int.toNat v9)) (List.getD h0 (0 + (Int.toNat (IntKind.wrap .i64 (v9 - (1 : Int))))) (qja qda))) (0 + (Int.toNat (IntKind.wrap .i64 (v9 - (1 : Int))))) (List.getD h0 (0 + (Int.toNat v9)) (qja qda)))
else
qCa v1 v2 (IntKind.wrap .i64 (v8 + (1 : Int))) h0
else
qCa v1 v2 (IntKind.wrap .i64 (v8 + (1 : Int))) h0) := (FnI.sem_eq _).trans (by kernel_rfl)
noncomputable def qjd (acc : List AV → Bool) : Summ Tryz.prog GT := slices_insertionSortCmpFunc_api_Piece_I.summ mixed acc true false
noncomputable def slices_siftDownCmpFunc_api_Piece_I : FnI Tryz.prog GT := { f := 253, cuts := [⟨(1, 2), [0, 2, 3, 4, 10], false, false, [], [], []⟩], tab := [qwb (fun _ => true)], fm := ⟨false, [.row 0 qda]⟩ }
noncomputable def qpe (acc : List AV → Bool) : Summ Tryz.prog GT := slices_siftDownCmpFunc_api_Piece_I.summ mixed acc true false
noncomputable def slices_heapSortCmpFunc_api_Piece_I : FnI Tryz.prog GT := { f := 177, cuts := [⟨(4, 3), [0, 3, 8, 9, 10, 11], false, false, [], [], []⟩, ⟨(8, 2), [0, 3, 8, 9, 12], false, false, [], [], []⟩], tab := [(qpe (fun _ => true)).dropping], fm := ⟨false, [.row 0 qda]⟩ }
noncomputable def qXe (a1 : Int) (a2 : Int) (h0 : List qfa) : Option (List qfa) := slices_heapSortCmpFunc_api_Piece_I.call [(.ref qda 0 0 (List.length h0) true), (.int .i64 a1), (.int .i64 a2), (.func 80 [])] [(0, (.row qda false h0))]
noncomputable def qre (acc : List AV → Bool) : Summ Tryz.prog GT := slices_heapSortCmpFunc_api_Piece_I.summ mixed acc true false
noncomputable def slices_nextPowerOfTwo_I : FnI Tryz.prog GT := { f := 254, cuts := [], tab := [qUi (fun _ => true)], fm := ⟨true, [.val (.int .u64) []]⟩ }
noncomputable def qLh (acc : List AV → Bool) : Summ Tryz.prog GT := slices_nextPowerOfTwo_I.summ mixed acc false false
noncomputable def slices_xorshift_Next_I : FnI Tryz.prog GT := { f := 255, cuts := [], tab := [], fm := ⟨true, [.val (.int .u64) [], .box 0 (.int .u64) []]⟩ }
noncomputable def qri (acc : List AV → Bool) : Summ Tryz.prog GT := slices_xorshift_Next_I.summ mixed acc false false
noncomputable def slices_breakPatternsCmpFunc_api_Piece_I : FnI Tryz.prog GT := { f := 178, cuts := [⟨(5, 2), [0, 1, 8, 9, 10, 11], false, false, [], [], []⟩], tab := [qLh (fun _ => true), qri (fun _ => true)], fm := ⟨false, [.row 0 qda]⟩ }
noncomputable def qHd (a1 : Int) (a2 : Int) (h0 : List qfa) : Option (List qfa) := slices_breakPatternsCmpFunc_api_Piece_I.call [(.ref qda 0 0 (List.length h0) true), (.int .i64 a1), (.int .i64 a2), (.func 80 [])] [(0, (.row qda false h0))]
noncomputable def qkd (acc : List AV → Bool) : Summ Tryz.prog GT := slices_breakPatternsCmpFunc_api_Piece_I.summ mixed acc true false
noncomputable def slices_order2CmpFunc_api_Piece_I : FnI Tryz.prog GT := { f := 324, cuts := [], tab := [qwb (fun _ => true)], fm := ⟨false, [.val (.int .i64) [], .val (.int .i64) [], .row 0 qda, .box 1 (.int .i64) []]⟩ }
noncomputable def qWe (acc : List AV → Bool) : Summ Tryz.prog GT := slices_order2CmpFunc_api_Piece_I.summ mixed acc true false
noncomputable def slices_medianCmpFunc_api_Piece_I : FnI Tryz.prog GT := { f := 257, cuts := [], tab := [(qWe (fun _ => true)).dropping], fm := ⟨false, [.val (.int .i64) [], .row 0 qda, .box 1 (.int .i64) []]⟩ }
noncomputable def qqc (acc : List AV → Bool) : Summ Tryz.prog GT := slices_medianCmpFunc_api_Piece_I.summ mixed acc true false
noncomputable def slices_medianAdjacentCmpFunc_api_Piece_I : FnI Tryz.prog GT := { f := 256, cuts := [], tab := [(qqc (fun _ => true)).dropping], fm := ⟨false, [.val (.int .i64) [], .row 0 qda, .box 1 (.int .i64) []]⟩ }
noncomputable def qdd (acc : List AV → Bool) : Summ Tryz.prog GT := slices_medianAdjacentCmpFunc_api_Piece_I.summ mixed acc true false
noncomputable def slices_choosePivotCmpFunc_api_Piece_I : FnI Tryz.prog GT := { f := 179, cuts := [], tab := [(qdd (fun _ => true)).dropping, (qqc (fun _ => true)).dropping], fm := ⟨false, [.val (.int .i64) [], .val (.int .i64) [], .row 0 qda]⟩ }
noncomputable def qac (a1 : Int) (a2 : Int) (h0 : List qfa) : Option (Int × Int × List qfa) := slices_choosePivotCmpFunc_api_Piece_I.call [(.ref qda 0 0 (List.length h0) true), (.int .i64 a1), (.int .i64 a2), (.func 80 [])] [(0, (.row qda false h0))]
noncomputable def qGd (acc : List AV → Bool) : Summ Tryz.prog GT := slices_choosePivotCmpFunc_api_Piece_I.summ mixed acc true false
noncomputable def slices_reverseRangeCmpFunc_api_Piece_I : FnI Tryz.prog GT := { f := 180, cuts := [⟨(2, 2), [0, 8, 9], false, false, [], [], []⟩], tab := [], fm := ⟨false, [.row 0 qda]⟩ }
noncomputable def qVb (a1 : Int) (a2 : Int) (h0 : List qfa) : Option (List qfa) := slices_reverseRangeCmpFunc_api_Piece_I.call [(.ref qda 0 0 (List.length h0) true), (.int .i64 a1), (.int .i64 a2), (.func 80 [])] [(0, (.row qda false h0))]
noncomputable def qvd (acc : List AV → Bool) : Summ Tryz.prog GT := slices_reverseRangeCmpFunc_api_Piece_I.summ mixed acc true false
noncomputable def slices_partialInsertionSortCmpFunc_api_Piece_I : FnI Tryz.prog GT := { f := 181, cuts := [⟨(3, 3), [0, 1, 2, 3, 9, 10], false, false, [], [], []⟩, ⟨(5, 8), [0, 1, 2, 3, 9, 10], false, false, [], [], []⟩, ⟨(14, 8), [0, 1, 2, 3, 9, 10, 11], false, false, [], [], []⟩, ⟨(20, 7), [0, 1, 2, 3, 9, 10, 12], false, false, [], [], []⟩], tab := [qwb (fun _ => true)], fm := ⟨false, [.val .bool [], .row 0 qda]⟩ }
noncomputable def qIa (a1 : Int) (a2 : Int) (h0 : List qfa) : Option (Bool × List qfa) := slices_partialInsertionSortCmpFunc_api_Piece_I.call [(.ref qda 0 0 (List.length h0) true), (.int .i64 a1), (.int .i64 a2), (.func 80 [])] [(0, (.row qda false h0))]
noncomputable def qsc (acc : List AV → Bool) : Summ Tryz.prog GT := slices_partialInsertionSortCmpFunc_api_Piece_I.summ mixed acc true false
noncomputable def slices_partitionEqualCmpFunc_api_Piece_I : FnI Tryz.prog GT := { f := 182, cuts := [⟨(3, 3), [0, 1, 4, 11, 12], false, false, [], [], []⟩, ⟨(3, 7), [0, 1, 4, 11, 12], false, false, [], [], []⟩, ⟨(5, 7), [0, 1, 4, 11, 12], false, false, [], [], []⟩], tab := [qwb (fun _ => true)], fm := ⟨false, [.val (.int .i64) [], .row 0 qda]⟩ }
noncomputable def qra (a1 : Int) (a2 : Int) (a3 : Int) (h0 : List qfa) : Option (Int × List qfa) := slices_partitionEqualCmpFunc_api_Piece_I.call [(.ref qda 0 0 (List.length h0) true), (.int .i64 a1), (.int .i64 a2), (.int .i64 a3), (.func 80 [])] [(0, (.row qda false h0))]
noncomputable def qcd (acc : List AV → Bool) : Summ Tryz.prog GT := slices_partitionEqualCmpFunc_api_Piece_I.summ mixed acc true false
noncomputable def slices_partitionCmpFunc_api_Piece_I : FnI Tryz.prog GT := { f := 183, cuts := [⟨(3, 3), [0, 1, 4, 12, 13], false, false, [], [], []⟩, ⟨(5, 3), [0, 1, 4, 12, 13], false, false, [], [], []⟩, ⟨(13, 3), [0, 1, 4, 12, 13], false, false, [], [], []⟩, ⟨(13, 7), [0, 1, 4, 12, 13], false, false, [], [], []⟩, ⟨(15, 7), [0, 1, 4, 12, 13], false, false, [], [], []⟩], tab := [qwb (fun _ => true)], fm := ⟨false, [.val (.int .i64) [], .val .bool [], .row 0 qda]⟩ }
noncomputable def qia (a1 : Int) (a2 : Int) (a3 : Int) (h0 : List qfa) : Option (Int × Bool × List qfa) := slices_partitionCmpFunc_api_Piece_I.call [(.ref qda 0 0 (List.length h0) true), (.int .i64 a1), (.int .i64 a2), (.int .i64 a3), (.func 80 [])] [(0, (.row qda false h0))]
noncomputable def qYd (acc : List AV → Bool) : Summ Tryz.prog GT := slices_partitionCmpFunc_api_Piece_I.summ mixed acc true false
end Go.Ab

set_option linter.unusedVariables false
set_option maxRecDepth 20000
namespace Go.Ab
open Go Go.Proofs
noncomputable def slices_pdqsortCmpFunc_api_Piece_I : FnI Tryz.prog GT := { f := 121, cuts := [⟨(2, 2), [0, 1, 2, 3, 4, 10, 11], false, false, [], [], []⟩], tab := [(qjd (fun _ => true)).dropping, (qre (fun _ => true)).dropping, (qkd (fun _ => true)).dropping, (qGd (fun _ => true)).dropping, (qvd (fun _ => true)).dropping, (qsc (fun _ => true)).dropping, qwb (fun _ => true), (qcd (fun _ => true)).dropping, (qYd (fun _ => true)).dropping], fm := ⟨false, [.row 0 qda]⟩ }
noncomputable def qxb (a1 : Int) (a2 : Int) (a3 : Int) (h0 : List qfa) : Option (List qfa) := slices_pdqsortCmpFunc_api_Piece_I.call [(.ref qda 0 0 (List.length h0) true), (.int .i64 a1), (.int .i64 a2), (.int .i64 a3), (.func 80 [])] [(0, (.row qda false h0))]
noncomputable def qqa (v1 : Int) (v2 : Int) (v3 : Int) (v10 : Bool) (v11 : Bool) (h0 : List qfa) : Option (List qfa) := slices_pdqsortCmpFunc_api_Piece_I.sem ⟨[.code (cIn (cIn (qha (qha (qoa Tryz.prog 121))))), .inLoop (cIn (cIn (qha (qha (qoa Tryz.prog 121))))), .inBlock 0], ⟨[(0, (.one (.ref qda 0 0 (List.length h0) true))), (1, (.one (.int .i64 v1))), (2, (.one (.int .i64 v2))), (3, (.one (.int .i64 v3))), (4, (.one (.func 80 []))), (10, (.one (.bool v10))), (11, (.one (.bool v11)))], [(0, some (.row qda false h0))], 9⟩⟩
theorem qqe (a1 : Int) (a2 : Int) (a3 : Int) (h0 : List qfa) : qxb a1 a2 a3 h0 = (
qqa a1 a2 a3 true true h0) := (FnI.call_eq (by kernel_rfl)).trans (by kernel_rfl)
theorem qFd (v1 : Int) (v2 : Int) (v3 : Int) (v10 : Bool) (v11 : Bool) (h0 : List qfa) : qqa v1 v2 v3 v10 v11 h0 = (
if (decide ((IntKind.wrap .i64 (v2 - v1)) ≤ (12 : Int))) = true then
(qab v1 v2 h0).bind fun r1 =>
some (r1)
else
if (v3 == (0 : Int)) = true then
(qXe v1 v2 h0).bind fun r2 =>
some (r2)
else
if (not v10) = true then
(qHd v1 v2 h0).bind fun r3 =>
(qac v1 v2 r3).bind fun r4 =>
if (r4.2.1 == (2 : Int)) = true then
(qVb v1 v2 r4.2.2).bind fun r5 =>
if v10 = true then
if v11 = true then
(qIa v1 v2 r5).bind fun r6 =>
if r6.1 = true then
some (r6.2)
else
if (decide (v1 > (0 : Int))) = true then
gd (0 ≤ (IntKind.wrap .i64 (v1 - (1 : Int)))) <|
gd ((IntKind.wrap .i64 (v1 - (1 : Int))) < (Int.ofNat (List.length h0))) <|
gd (0 ≤ (IntKind.wrap .i64 ((IntKind.wrap .i64 (v2 - (1 : Int))) - (IntKind.wrap .i64 (r4.1 - v1))))) <|
gd ((IntKind.wrap .i64 ((IntKind.wrap .i64 (v2 - (1 : Int))) - (IntKind.wrap .i64 (r4.1 - v1)))) < (Int.ofNat (List.length h0))) <|
(qEa (List.getD r6.2 (0 + (Int.toNat (IntKind.wrap .i64 (v1 - (1 : Int))))) (qja qda)) (List.getD r6.2 (0 + (Int.toNat (IntKind.wrap .i64 ((IntKind.wrap .i64 (v2 - (1 : Int))) - (IntKind.wrap .i64 (r4.1 - v1)))))) (qja qda))).bind fun r7 =>
if (not (decide (r7 < (0 : Int)))) = true then
(qra v1 v2 (IntKind.wrap .i64 ((IntKind.wrap .i64 (v2 - (1 : Int))) - (IntKind.wrap .i64 (r4.1 - v1)))) r6.2).bind fun r8 =>
qqa r8.1 v2 (IntKind.wrap .i64 (v3 - (1 : Int))) v10 v11 r8.2
else
(qia v1 v2 (IntKind.wrap .i64 ((IntKind.wrap .i64 (v2 - (1 : Int))) - (IntKind.wrap .i64 (r4.1 - v1)))) r6.2).bind fun r9 =>
gd ((8 : Int) ≠ 0) <|
if (decide ((IntKind.wrap .i64 (r9.1 - v1)) < (IntKind.wrap .i64 (v2 - r9.1)))) = true then
none
else
none
else
(qia v1 v2 (IntKind.wrap .i64 ((IntKind.wrap .i64 (v2 - (1 : Int))) - (IntKind.wrap .i64 (r4.1 - v1)))) r6.2).bind fun r10 =>
gd ((8 : Int) ≠ 0) <|
if (decide ((IntKind.wrap .i64 (r10.1 - v1)) < (IntKind.wrap .i64 (v2 - r10.1)))) = true then
none
else
none
else
if (decide (v1 > (0 : Int))) = true then
gd (0 ≤ (IntKind.wrap .i64 (v1 - (1 : Int)))) <|
gd ((IntKind.wrap .i64 (v1 - (1 : Int))) < (Int.ofNat (List.length h0))) <|
gd (0 ≤ (IntKind.wrap .i64 ((IntKind.wrap .i64 (v2 - (1 : Int))) - (IntKind.wrap .i64 (r4.1 - v1))))) <|
gd ((IntKind.wrap .i64 ((IntKind.wrap .i64 (v2 - (1 : Int))) - (IntKind.wrap .i64 (r4.1 - v1)))) < (Int.ofNat (List.length h0))) <|
(qEa (List.getD r5 (0 + (Int.toNat (IntKind.wrap .i64 (v1 - (1 : Int))))) (qja qda)) (List.getD r5 (0 + (Int.toNat (IntKind.wrap .i64 ((IntKind.wrap .i64 (v2 - (1 : Int))) - (IntKind.wrap .i64 (r4.1 - v1)))))) (qja qda))).bind fun r11 =>
if (not (decide (r11 < (0 : Int)))) = true then
(qra v1 v2 (IntKind.wrap .i64 ((IntKind.wrap .i64 (v2 - (1 : Int))) - (IntKind.wrap .i64 (r4.1 - v1)))) r5).bind fun r12 =>
qqa r12.1 v2 (IntKind.wrap .i64 (v3 - (1 : Int))) v10 v11 r12.2
else
(qia v1 v2 (IntKind.wrap .i64 ((IntKind.wrap .i64 (v2 - (1 : Int))) - (IntKind.wrap .i64 (r4.1 - v1)))) r5).bind fun r13 =>
gd ((8 : Int) ≠ 0) <|
if (decide ((IntKind.wrap .i64 (r13.1 - v1)) < (IntKind.wrap .i64 (v2 - r13.1)))) = true then
none
else
none
else
(qia v1 v2 (IntKind.wrap .i64 ((IntKind.wrap .i64 (v2 - (1 : Int))) - (IntKind.wrap .i64 (r4.1 - v1)))) r5).bind fun r14 =>
gd ((8 : Int) ≠ 0) <|
if (decide ((IntKind.wrap .i64 (r14.1 - v1)) < (IntKind.wrap .i64 (v2 - r14.1)))) = true then
none
else
none
else
if (decide (v1 > (0 : Int))) = true then
gd (0 ≤ (IntKind.wrap .i64 (v1 - (1 : Int)))) <|
gd ((IntKind.wrap .i64 (v1 - (1 : Int))) < (Int.ofNat (List.length h0))) <|
gd (0 ≤ (IntKind.wrap .i64 ((IntKind.wrap .i64 (v2 - (1 : Int))) - (IntKind.wrap .i64 (r4.1 - v1))))) <|
gd ((IntKind.wrap .i64 ((IntKind.wrap .i64 (v2 - (1 : Int))) - (IntKind.wrap .i64 (r4.1 - v1)))) < (Int.ofNat (List.length h0))) <|
(qEa (List.getD r5 (0 + (Int.toNat (IntKind.wrap .i64 (v1 - (1 : Int))))) (qja qda)) (List.getD r5 (0 + (Int.toNat (IntKind.wrap .i64 ((IntKind.wrap .i64 (v2 - (1 : Int))) - (IntKind.wrap .i64 (r4.1 - v1)))))) (qja qda))).bind fun r15 =>
if (not (decide (r15 < (0 : Int)))) = true then
(qra v1 v2 (IntKind.wrap .i64 ((IntKind.wrap .i64 (v2 - (1 : Int))) - (IntKind.wrap .i64 (r4.1 - v1)))) r5).bind fun r16 =>
qqa r16.1 v2 (IntKind.wrap .i64 (v3 - (1 : Int))) v10 v11 r16.2
else
(qia v1 v2 (IntKind.wrap .i64 ((IntKind.wrap .i64 (v2 - (1 : Int))) - (IntKind.wrap .i64 (r4.1 - v1)))) r5).bind fun r17 =>
gd ((8 : Int) ≠ 0) <|
if (decide ((IntKind.wrap .i64 (r17.1 - v1)) < (IntKind.wrap .i64 (v2 - r17.1)))) = true then
none
else
none
else
(qia v1 v2 (IntKind.wrap .i64 ((IntKind.wrap .i64 (v2 - (1 : Int))) - (IntKind.wrap .i64 (r4.1 - v1)))) r5).bind fun r18 =>
gd ((8 : Int) ≠ 0) <|
if (decide ((IntKind.wrap .i64 (r18.1 - v1)) < (IntKind.wrap .i64 (v2 - r18.1)))) = true then
none
else
none
else
if v10 = true then
if v11 = true then
if (r4.2.1 == (1 : Int)) = true then
(qIa v1 v2 r4.2.2).bind fun r19 =>
if r19.1 = true then
some (r19.2)
else
if (decide (v1 > (0 : Int))) = true then
gd (0 ≤ (IntKind.wrap .i64 (v1 - (1 : Int)))) <|
gd ((IntKind.wrap .i64 (v1 - (1 : Int))) < (Int.ofNat (List.length h0))) <|
gd (0 ≤ r4.1) <|
gd (r4.1 < (Int.ofNat (List.length h0))) <|
(qEa (List.getD r19.2 (0 + (Int.toNat (IntKind.wrap .i64 (v1 - (1 : Int))))) (qja qda)) (List.getD r19.2 (0 + (Int.toNat r4.1)) (qja qda))).bind fun r20 =>
if (not (decide (r20 < (0 : Int)))) = true then
(qra v1 v2 r4.1 r19.2).bind fun r21 =>
qqa r21.1 v2 (IntKind.wrap .i64 (v3 - (1 : Int))) v10 v11 r21.2
else
(qia v1 v2 r4.1 r19.2).bind fun r22 =>
gd ((8 : Int) ≠ 0) <|
if (decide ((IntKind.wrap .i64 (r22.1 - v1)) < (IntKind.wrap .i64 (v2 - r22.1)))) = true then
none
else
none
else
(qia v1 v2 r4.1 r19.2).bind fun r23 =>
gd ((8 : Int) ≠ 0) <|
if (decide ((IntKind.wrap .i64 (r23.1 - v1)) < (IntKind.wrap .i64 (v2 - r23.1)))) = true then
none
else
none
else
if (decide (v1 > (0 : Int))) = true then
gd (0 ≤ (IntKind.wrap .i64 (v1 - (1 : Int)))) <|
gd ((IntKind.wrap .i64 (v1 - (1 : Int))) < (Int.ofNat (List.length h0))) <|
gd (0 ≤ r4.1) <|
gd (r4.1 < (Int.ofNat (List.length h0))) <|
(qEa (List.getD r4.2.2 (0 + (Int.toNat (IntKind.wrap .i64 (v1 - (1 : Int))))) (qja qda)) (List.getD r4.2.2 (0 + (Int.toNat r4.1)) (qja qda))).bind fun r24 =>
if (not (decide (r24 < (0 : Int)))) = true then
(qra v1 v2 r4.1 r4.2.2).bind fun r25 =>
qqa r25.1 v2 (IntKind.wrap .i64 (v3 - (1 : Int))) v10 v11 r25.2
else
(qia v1 v2 r4.1 r4.2.2).bind fun r26 =>
gd ((8 : Int) ≠ 0) <|
if (decide ((IntKind.wrap .i64 (r26.1 - v1)) < (IntKind.wrap .i64 (v2 - r26.1)))) = true then
none
else
none
else
(qia v1 v2 r4.1 r4.2.2).bind fun r27 =>
gd ((8 : Int) ≠ 0) <|
if (decide ((IntKind.wrap .i64 (r27.1 - v1)) < (IntKind.wrap .i64 (v2 - r27.1)))) = true then
none
else
none
else
if (decide (v1 > (0 : Int))) = true then
gd (0 ≤ (IntKind.wrap .i64 (v1 - (1 : Int)))) <|
gd ((IntKind.wrap .i64 (v1 - (1 : Int))) < (Int.ofNat (List.length h0))) <|
gd (0 ≤ r4.1) <|
gd (r4.1 < (Int.ofNat (List.length h0))) <|
(qEa (List.getD r4.2.2 (0 + (Int.toNat (IntKind.wrap .i64 (v1 - (1 : Int))))) (qja qda)) (List.getD r4.2.2 (0 + (Int.toNat r4.1)) (qja qda))).bind fun r28 =>
if (not (decide (r28 < (0 : Int)))) = true then
(qra v1 v2 r4.1 r4.2.2).bind fun r29 =>
qqa r29.1 v2 (IntKind.wrap .i64 (v3 - (1 : Int))) v10 v11 r29.2
else
(qia v1 v2 r4.1 r4.2.2).bind fun r30 =>
gd ((8 : Int) ≠ 0) <|
if (decide ((IntKind.wrap .i64 (r30.1 - v1)) < (IntKind.wrap .i64 (v2 - r30.1)))) = true then
none
else
none
else
(qia v1 v2 r4.1 r4.2.2).bind fun r31 =>
gd ((8 : Int) ≠ 0) <|
if (decide ((IntKind.wrap .i64 (r31.1 - v1)) < (IntKind.wrap .i64 (v2 - r31.1)))) = true then
none
else
none
else
if (decide (v1 > (0 : Int))) = true then
gd (0 ≤ (IntKind.wrap .i64 (v1 - (1 : Int)))) <|
gd ((IntKind.wrap .i64 (v1 - (1 : Int))) < (Int.ofNat (List.length h0))) <|
gd (0 ≤ r4.1) <|
gd (r4.1 < (Int.ofNat (List.length h0))) <|
(qEa (List.getD r4.2.2 (0 + (Int.toNat (IntKind.wrap .i64 (v1 - (1 : Int))))) (qja qda)) (List.getD r4.2.2 (0 + (Int.toNat r4.1)) (qja qda))).bind fun r32 =>
if (not (decide (r32 < (0 : Int)))) = true then
(qra v1 v2 r4.1 r4.2.2).bind fun r33 =>
qqa r33.1 v2 (IntKind.wrap .i64 (v3 - (1 : Int))) v10 v11 r33.2
else
(qia v1 v2 r4.1 r4.2.2).bind fun r34 =>
gd ((8 : Int) ≠ 0) <|
if (decide ((IntKind.wrap .i64 (r34.1 - v1)) < (IntKind.wrap .i64 (v2 - r34.1)))) = true then
none
else
none
else
(qia v1 v2 r4.1 r4.2.2).bind fun r35 =>
gd ((8 : Int) ≠ 0) <|
if (decide ((IntKind.wrap .i64 (r35.1 - v1)) < (IntKind.wrap .i64 (v2 - r35.1)))) = true then
none
else
none
else
(qac v1 v2 h0).bind fun r36 =>
if (r36.2.1 == (2 : Int)) = true then
(qVb v1 v2 r36.2.2).bind fun r37 =>
if v10 = true then
if v11 = true then
(qIa v1 v2 r37).bind fun r38 =>
if r38.1 = true then
some (r38.2)
else
if (decide (v1 > (0 : Int))) = true then
gd (0 ≤ (IntKind.wrap .i64 (v1 - (1 : Int)))) <|
gd ((IntKind.wrap .i64 (v1 - (1 : Int))) < (Int.ofNat (List.length h0))) <|
gd (0 ≤ (IntKind.wrap .i64 ((IntKind.wrap .i64 (v2 - (1 : Int))) - (IntKind.wrap .i64 (r36.1 - v1))))) <|
gd ((IntKind.wrap .i64 ((IntKind.wrap .i64 (v2 - (1 : Int))) - (IntKind.wrap .i64 (r36.1 - v1)))) < (Int.ofNat (List.length h0))) <|
(qEa (List.getD r38.2 (0 + (Int.toNat (IntKind.wrap .i64 (v1 - (1 : Int))))) (qja qda)) (List.getD r38.2 (0 + (Int.toNat (IntKind.wrap .i64 ((IntKind.wrap .i64 (v2 - (1 : Int))) - (IntKind.wrap .i64 (r36.1 - v1)))))) (qja qda))).bind fun r39 =>
if (not (decide (r39 < (0 : Int)))) = true then
(qra v1 v2 (IntKind.wrap .i64 ((IntKind.wrap .i64 (v2 - (1 : Int))) - (IntKind.wrap .i64 (r36.1 - v1)))) r38.2).bind fun r40 =>
qqa r40.1 v2 v3 v10 v11 r40.2
else
(qia v1 v2 (IntKind.wrap .i64 ((IntKind.wrap .i64 (v2 - (1 : Int))) - (IntKind.wrap .i64 (r36.1 - v1)))) r38.2).bind fun r41 =>
gd ((8 : Int) ≠ 0) <|
if (decide ((IntKind.wrap .i64 (r41.1 - v1)) < (IntKind.wrap .i64 (v2 - r41.1)))) = true then
none
else
none
else
(qia v1 v2 (IntKind.wrap .i64 ((IntKind.wrap .i64 (v2 - (1 : Int))) - (IntKind.wrap .i64 (r36.1 - v1)))) r38.2).bind fun r42 =>
gd ((8 : Int) ≠ 0) <|
if (decide ((IntKind.wrap .i64 (r42.1 - v1)) < (IntKind.wrap .i64 (v2 - r42.1)))) = true then
none
else
none
else
if (decide (v1 > (0 : Int))) = true then
gd (0 ≤ (IntKind.wrap .i64 (v1 - (1 : Int)))) <|
gd ((IntKind.wrap .i64 (v1 - (1 : Int))) < (Int.ofNat (List.length h0))) <|
gd (0 ≤ (IntKind.wrap .i64 ((IntKind.wrap .i64 (v2 - (1 : Int))) - (IntKind.wrap .i64 (r36.1 - v1))))) <|
gd ((IntKind.wrap .i64 ((IntKind.wrap .i64 (v2 - (1 : Int))) - (IntKind.wrap .i64 (r36.1 - v1)))) < (Int.ofNat (List.length h0))) <|
(qEa (List.getD r37 (0 + (Int.toNat (IntKind.wrap .i64 (v1 - (1 : Int))))) (qja qda)) (List.getD r37 (0 + (Int.toNat (IntKind.wrap .i64 ((IntKind.wrap .i64 (v2 - (1 : Int))) - (IntKind.wrap .i64 (r36.1 - v1)))))) (qja qda))).bind fun r43 =>
if (not (decide (r43 < (0 : Int)))) = true then
(qra v1 v2 (IntKind.wrap .i64 ((IntKind.wrap .i64 (v2 - (1 : Int))) - (IntKind.wrap .i64 (r36.1 - v1)))) r37).bind fun r44 =>
qqa r44.1 v2 v3 v10 v11 r44.2
else
(qia v1 v2 (IntKind.wrap .i64 ((IntKind.wrap .i64 (v2 - (1 : Int))) - (IntKind.wrap .i64 (r36.1 - v1)))) r37).bind fun r45 =>
gd ((8 : Int) ≠ 0) <|
if (decide ((IntKind.wrap .i64 (r45.1 - v1)) < (IntKind.wrap .i64 (v2 - r45.1)))) = true then
none
else
none
else
(qia v1 v2 (IntKind.wrap .i64 ((IntKind.wrap .i64 (v2 - (1 : Int))) - (IntKind.wrap .i64 (r36.1 - v1)))) r37).bind fun r46 =>
gd ((8 : Int) ≠ 0) <|
if (decide ((IntKind.wrap .i64 (r46.1 - v1)) < (IntKind.wrap .i64 (v2 - r46.1)))) = true then
none
else
none
else
if (decide (v1 > (0 : Int))) = true then
gd (0 ≤ (IntKind.wrap .i64 (v1 - (1 : Int)))) <|
gd ((IntKind.wrap .i64 (v1 - (1 : Int))) < (Int.ofNat (List.length h0))) <|
gd (0 ≤ (IntKind.wrap .i64 ((IntKind.wrap .i64 (v2 - (1 : Int))) - (IntKind.wrap .i64 (r36.1 - v1))))) <|
gd ((IntKind.wrap .i64 ((IntKind.wrap .i64 (v2 - (1 : Int))) - (IntKind.wrap .i64 (r36.1 - v1)))) < (Int.ofNat (List.length h0))) <|
(qEa (List.getD r37 (0 + (Int.toNat (IntKind.wrap .i64 (v1 - (1 : Int))))) (qja qda)) (List.getD r37 (0 + (Int.toNat (IntKind.wrap .i64 ((IntKind.wrap .i64 (v2 - (1 : Int))) - (IntKind.wrap .i64 (r36.1 - v1)))))) (qja qda))).bind fun r47 =>
if (not (decide (r47 < (0 : Int)))) = true then
(qra v1 v2 (IntKind.wrap .i64 ((IntKind.wrap .i64 (v2 - (1 : Int))) - (IntKind.wrap .i64 (r36.1 - v1)))) r37).bind fun r48 =>
qqa r48.1 v2 v3 v10 v11 r48.2
else
(qia v1 v2 (IntKind.wrap .i64 ((IntKind.wrap .i64 (v2 - (1 : Int))) - (IntKind.wrap .i64 (r36.1 - v1)))) r37).bind fun r49 =>
gd ((8 : Int) ≠ 0) <|
if (decide ((IntKind.wrap .i64 (r49.1 - v1)) < (IntKind.wrap .i64 (v2 - r49.1)))) = true then
none
else
none
else
(qia v1 v2 (IntKind.wrap .i64 ((IntKind.wrap .i64 (v2 - (1 : Int))) - (IntKind.wrap .i64 (r36.1 - v1)))) r37).bind fun r50 =>
gd ((8 : Int) ≠ 0) <|
if (decide ((IntKind.wrap .i64 (r50.1 - v1)) < (IntKind.wrap .i64 (v2 - r50.1)))) = true then
none
else
none
else
if v10 = true then
if v11 = true then
if (r36.2.1 == (1 : Int)) = true then
(qIa v1 v2 r36.2.2).bind fun r51 =>
if r51.1 = true then
some (r51.2)
else
if (decide (v1 > (0 : Int))) = true then
gd (0 ≤ (IntKind.wrap .i64 (v1 - (1 : Int)))) <|
gd ((IntKind.wrap .i64 (v1 - (1 : Int))) < (Int.ofNat (List.length h0))) <|
gd (0 ≤ r36.1) <|
gd (r36.1 < (Int.ofNat (List.length h0))) <|
(qEa (List.getD r51.2 (0 + (Int.toNat (IntKind.wrap .i64 (v1 - (1 : Int))))) (qja qda)) (List.getD r51.2 (0 + (Int.toNat r36.1)) (qja qda))).bind fun r52 =>
if (not (decide (r52 < (0 : Int)))) = true then
(qra v1 v2 r36.1 r51.2).bind fun r53 =>
qqa r53.1 v2 v3 v10 v11 r53.2
else
(qia v1 v2 r36.1 r51.2).bind fun r54 =>
gd ((8 : Int) ≠ 0) <|
if (decide ((IntKind.wrap .i64 (r54.1 - v1)) < (IntKind.wrap .i64 (v2 - r54.1)))) = true then
none
else
none
else
(qia v1 v2 r36.1 r51.2).bind fun r55 =>
gd ((8 : Int) ≠ 0) <|
if (decide ((IntKind.wrap .i64 (r55.1 - v1)) < (IntKind.wrap .i64 (v2 - r55.1)))) = true then
none
else
none
else
if (decide (v1 > (0 : Int))) = true then
gd (0 ≤ (IntKind.wrap .i64 (v1 - (1 : Int)))) <|
gd ((IntKind.wrap .i64 (v1 - (1 : Int))) < (Int.ofNat (List.length h0))) <|
gd (0 ≤ r36.1) <|
gd (r36.1 < (Int.ofNat (List.length h0))) <|
(qEa (List.getD r36.2.2 (0 + (Int.toNat (IntKind.wrap .i64 (v1 - (1 : Int))))) (qja qda)) (List.getD r36.2.2 (0 + (Int.toNat r36.1)) (qja qda))).bind fun r56 =>
if (not (decide (r56 < (0 : Int)))) = true then
(qra v1 v2 r36.1 r36.2.2).bind fun r57 =>
qqa r57.1 v2 v3 v10 v11 r57.2
else
(qia v1 v2 r36.1 r36.2.2).bind fun r58 =>
gd ((8 : Int) ≠ 0) <|
if (decide ((IntKind.wrap .i64 (r58.1 - v1)) < (IntKind.wrap .i64 (v2 - r58.1)))) = true then
none
else
none
else
(qia v1 v2 r36.1 r36.2.2).bind fun r59 =>
gd ((8 : Int) ≠ 0) <|
if (decide ((IntKind.wrap .i64 (r59.1 - v1)) < (IntKind.wrap .i64 (v2 - r59.1)))) = true then
none
else
none
else
if (decide (v1 > (0 : Int))) = true then
gd (0 ≤ (IntKind.wrap .i64 (v1 - (1 : Int)))) <|
gd ((IntKind.wrap .i64 (v1 - (1 : Int))) < (Int.ofNat (List.length h0))) <|
gd (0 ≤ r36.1) <|
gd (r36.1 < (Int.ofNat (List.length h0))) <|
(qEa (List.getD r36.2.2 (0 + (Int.toNat (IntKind.wrap .i64 (v1 - (1 : Int))))) (qja qda)) (List.getD r36.2.2 (0 + (Int.toNat r36.1)) (qja qda))).bind fun r60 =>
if (not (decide (r60 < (0 : Int)))) = true then
(qra v1 v2 r36.1 r36.2.2).bind fun r61 =>
qqa r61.1 v2 v3 v10 v11 r61.2
else
(qia v1 v2 r36.1 r36.2.2).bind fun r62 =>
gd ((8 : Int) ≠ 0) <|
if (decide ((IntKind.wrap .i64 (r62.1 - v1)) < (IntKind.wrap .i64 (v2 - r62.1)))) = true then
none
else
none
else
(qia v1 v2 r36.1 r36.2.2).bind fun r63 =>
gd ((8 : Int) ≠ 0) <|
if (decide ((IntKind.wrap .i64 (r63.1 - v1)) < (IntKind.wrap .i64 (v2 - r63.1)))) = true then
none
else
none
else
if (decide (v1 > (0 : Int))) = true then
gd (0 ≤ (IntKind.wrap .i64 (v1 - (1 : Int)))) <|
gd ((IntKind.wrap .i64 (v1 - (1 : Int))) < (Int.ofNat (List.length h0))) <|
gd (0 ≤ r36.1) <|
gd (r36.1 < (Int.ofNat (List.length h0))) <|
(qEa (List.getD r36.2.2 (0 + (Int.toNat (IntKind.wrap .i64 (v1 - (1 : Int))))) (qja qda)) (List.getD r36.2.2 (0 + (Int.toNat r36.1)) (qja qda))).bind fun r64 =>
if (not (decide (r64 < (0 : Int)))) = true then
(qra v1 v2 r36.1 r36.2.2).bind fun r65 =>
qqa r65.1 v2 v3 v10 v11 r65.2
else
(qia v1 v2 r36.1 r36.2.2).bind fun r66 =>
gd ((8 : Int) ≠ 0) <|
if (decide ((IntKind.wrap .i64 (r66.1 - v1)) < (IntKind.wrap .i64 (v2 - r66.1)))) = true then
none
else
none
else
(qia v1 v2 r36.1 r36.2.2).bind fun r67 =>
gd ((8 : Int) ≠ 0) <|
if (decide ((IntKind.wrap .i64 (r67.1 - v1)) < (IntKind.wrap .i64 (v2 - r67.1)))) = true then
none
else
none) := (FnI.sem_eq _).trans (by kernel_rfl)
noncomputable def qve (acc : List AV → Bool) : Summ Tryz.prog GT := slices_pdqsortCmpFunc_api_Piece_I.summ mixed acc true false
noncomputable def slices_SortFunc_api_Piece_api_Piece_I : FnI Tryz.prog GT := { f := 79, cuts := [], tab := [qUi (fun _ => true), (qve (fun _ => true)).dropping], fm := ⟨false, [.row 0 qda]⟩ }
noncomputable def qBa (h0 : List qfa) : Option (List qfa) := slices_SortFunc_api_Piece_api_Piece_I.call [(.ref qda 0 0 (List.length h0) true), (.func 80 [])] [(0, (.row qda false h0))]
theorem qwd (h0 : List qfa) : qBa h0 = (
(qBe (IntKind.wrap .u64 (Int.ofNat (List.length h0)))).bind fun r1 =>
(qxb (0 : Int) (Int.ofNat (List.length h0)) r1 h0).bind fun r2 =>
some (r2)) := (FnI.call_eq (by kernel_rfl)).trans (by kernel_rfl)
noncomputable def qId (acc : List AV → Bool) : Summ Tryz.prog GT := slices_SortFunc_api_Piece_api_Piece_I.summ mixed acc true false
noncomputable def split_missing_I : FnI Tryz.prog GT := { f := 44, cuts := [⟨(5, 3), [1, 5, 15, 16, 17], false, false, [], [], [1]⟩, ⟨(9, 7), [1, 5, 6, 8, 15, 16, 17, 27, 28, 29], false, false, [], [], []⟩], tab := [qse (fun _ => true), (qId (fun _ => true)).dropping], fm := ⟨true, [.val (.slice qda) [.nw]]⟩ }
noncomputable def qIh (a0 : List Int) (a1 : List qfa) : Option (List qfa) := split_missing_I.call [(.sl (.int .i64) false a0), (.sl qda false a1)] []
noncomputable def qMb (v1n : Nat) (v15 : List Int) (v16 : Int) (v17 : Int) (h8 : List qfa) (h9 : List qfa) : Option (List qfa) := split_missing_I.sem ⟨[.code (cIn (cIn (qha (qPa (qha (qha (qha (qha (qoa Tryz.prog 44))))))))), .inLoop (cIn (cIn (qha (qPa (qha (qha (qha (qha (qoa Tryz.prog 44))))))))), .inBlock 0, .code (qha (qha (qha (qha (qha (qoa Tryz.prog 44))))))], ⟨[(1, (.one (.ref qda 8 0 v1n false))), (5, (.one (.ref qda 9 0 (List.length h9) true))), (15, (.one (.sl (.int .i64) false v15))), (16, (.one (.int .i64 v16))), (17, (.one (.int .i64 v17)))], [(8, some (.row qda false h8)), (9, some (.row qda true h9))], 10⟩⟩
noncomputable def qic (v1n : Nat) (v6 : Int) (v8 : Int) (v15 : List Int) (v16 : Int) (v17 : Int) (v28 : Int) (v29 : Int) (h8 : List qfa) (h9 : List qfa) : Option (List qfa) := split_missing_I.sem ⟨[.code (cIn (cIn (qha (qha (qha (cIn (qPa (qha (qha (cIn (cIn (qha (qPa (qha (qha (qha (qha (qoa Tryz.prog 44)))))))))))))))))), .inLoop (cIn (cIn (qha (qha (qha (cIn (qPa (qha (qha (cIn (cIn (qha (qPa (qha (qha (qha (qha (qoa Tryz.prog 44)))))))))))))))))), .inBlock 2, .inBlock 1, .code (qha (qha (qha (cIn (cIn (qha (qPa (qha (qha (qha (qha (qoa Tryz.prog 44)))))))))))), .inLoop (cIn (cIn (qha (qPa (qha (qha (qha (qha (qoa Tryz.prog 44))))))))), .inBlock 0, .code (qha (qha (qha (qha (qha (qoa Tryz.prog 44))))))], ⟨[(1, (.one (.ref qda 8 0 v1n false))), (5, (.one (.ref qda 9 0 (List.length h9) true))), (6, (.one (.int .i64 v6))), (8, (.one (.int .i64 v8))), (15, (.one (.sl (.int .i64) false v15))), (16, (.one (.int .i64 v16))), (17, (.one (.int .i64 v17))), (27, (.one (.ref qda 8 0 (List.length h8) true))), (28, (.one (.int .i64 v28))), (29, (.one (.int .i64 v29)))], [(8, some (.row qda false h8)), (9, some (.row qda true h9))], 10⟩⟩
noncomputable def qhc (v1n : Nat) (v6 : Int) (v8 : Int) (v15 : List Int) (v16 : Int) (v17 : Int) (v28 : Int) (v29 : Int) (h8 : List qfa) (h9 : List qfa) (h10 : List qfa) : Option (List qfa) := split_missing_I.sem ⟨[.code (cIn (cIn (qha (qha (qha (cIn (qPa (qha (qha (cIn (cIn (qha (qPa (qha (qha (qha (qha (qoa Tryz.prog 44)))))))))))))))))), .inLoop (cIn (cIn (qha (qha (qha (cIn (qPa (qha (qha (cIn (cIn (qha (qPa (qha (qha (qha (qha (qoa Tryz.prog 44)))))))))))))))))), .inBlock 2, .inBlock 1, .code (qha (qha (qha (cIn (cIn (qha (qPa (qha (qha (qha (qha (qoa Tryz.prog 44)))))))))))), .inLoop (cIn (cIn (qha (qPa (qha (qha (qha (qha (qoa Tryz.prog 44))))))))), .inBlock 0, .code (qha (qha (qha (qha (qha (qoa Tryz.prog 44))))))], ⟨[(1, (.one (.ref qda 8 0 v1n false))), (5, (.one (.ref qda 9 0 (List.length h9) true))), (6, (.one (.int .i64 v6))), (8, (.one (.int .i64 v8))), (15, (.one (.sl (.int .i64) false v15))), (16, (.one (.int .i64 v16))), (17, (.one (.int .i64 v17))), (27, (.one (.ref qda 10 0 (List.length h10) true))), (28, (.one (.int .i64 v28))), (29, (.one (.int .i64 v29)))], [(8, some (.row qda false h8)), (9, some (.row qda true h9)), (10, some (.row qda false h10))], 11⟩⟩
theorem qNm (a0 : List Int) (a1 : List qfa) : qIh a0 a1 = (
(qtb a1).bind fun r1 =>
(qBa r1).bind fun r2 =>
qMb (List.length r2) a0 (Int.ofNat (List.length a0)) (0 : Int) r2 []) := (FnI.call_eq (by kernel_rfl)).trans (by kernel_rfl)
theorem qcg (v1n : Nat) (v15 : List Int) (v16 : Int) (v17 : Int) (h8 : List qfa) (h9 : List qfa) : qMb v1n v15 v16 v17 h8 h9 = (
if (decide (v17 < v16)) = true then
gd (0 ≤ v17) <|
gd (v17 < (Int.ofNat (List.length v15))) <|
qHy (fun (r3 : Bool) => True) fun (r3 : Bool) =>
if r3 = true then
gd (v1n ≤ (List.length ((List.take v1n h8) ++ [(v17, ((List.getD v15 (Int.toNat v17) (0 : Int)), ((0 : Int), ())))]))) <|
gd (v1n ≤ (List.length ((List.take v1n h8) ++ [(v17, ((List.getD v15 (Int.toNat v17) (0 : Int)), ((0 : Int), ())))]))) <|
qic v1n v17 (0 : Int) v15 v16 v17 (Int.ofNat (List.length ((List.take v1n h8) ++ [(v17, ((List.getD v15 (Int.toNat v17) (0 : Int)), ((0 : Int), ())))]))) (0 : Int) ((List.take v1n h8) ++ [(v17, ((List.getD v15 (Int.toNat v17) (0 : Int)), ((0 : Int), ())))]) h9
else
gd ((List.length ((List.take v1n h8) ++ [(v17, ((List.getD v15 (Int.toNat v17) (0 : Int)), ((0 : Int), ())))])) * 24 ≤ 140737488355328) <|
qhc v1n v17 (0 : Int) v15 v16 v17 (Int.ofNat (List.length ((List.take v1n h8) ++ [(v17, ((List.getD v15 (Int.toNat v17) (0 : Int)), ((0 : Int), ())))]))) (0 : Int) h8 h9 ((List.take v1n h8) ++ [(v17, ((List.getD v15 (Int.toNat v17) (0 : Int)), ((0 : Int), ())))])
else
some (h9)) := (FnI.sem_eq _).trans (by kernel_rfl)
theorem qbg (v1n : Nat) (v6 : Int) (v8 : Int) (v15 : List Int) (v16 : Int) (v17 : Int) (v28 : Int) (v29 : Int) (h8 : List qfa) (h9 : List qfa) : qic v1n v6 v8 v15 v16 v17 v28 v29 h8 h9 = (
if (decide (v29 < v28)) = true then
gd (0 ≤ v29) <|
gd (v29 < (Int.ofNat (List.length h8))) <|
if ((List.getD h8 (0 + (Int.toNat v29)) (qja qda)).1 != v6) = true then
qic v1n v6 v8 v15 v16 v17 v28 (IntKind.wrap .i64 (v29 + (1 : Int))) h8 h9
else
if (decide ((List.getD h8 (0 + (Int.toNat v29)) (qja qda)).2.1 > v8)) = true then
gd ((List.length (h9 ++ [(v6, (v8, ((IntKind.wrap .i64 ((List.getD h8 (0 + (Int.toNat v29)) (qja qda)).2.1 - v8)), ())))])) * 24 ≤ 140737488355328) <|
qic v1n v6 (if (IntKind.wrap .i64 ((List.getD h8 (0 + (Int.toNat v29)) (qja qda)).2.1 + (List.getD h8 (0 + (Int.toNat v29)) (qja qda)).2.2.1)) > v8 then (IntKind.wrap .i64 ((List.getD h8 (0 + (Int.toNat v29)) (qja qda)).2.1 + (List.getD h8 (0 + (Int.toNat v29)) (qja qda)).2.2.1)) else v8) v15 v16 v17 v28 (IntKind.wrap .i64 (v29 + (1 : Int))) h8 (h9 ++ [(v6, (v8, ((IntKind.wrap .i64 ((List.getD h8 (0 + (Int.toNat v29)) (qja qda)).2.1 - v8)), ())))])
else
qic v1n v6 (if (IntKind.wrap .i64 ((List.getD h8 (0 + (Int.toNat v29)) (qja qda)).2.1 + (List.getD h8 (0 + (Int.toNat v29)) (qja qda)).2.2.1)) > v8 then (IntKind.wrap .i64 ((List.getD h8 (0 + (Int.toNat v29)) (qja qda)).2.1 + (List.getD h8 (0 + (Int.toNat v29)) (qja qda)).2.2.1)) else v8) v15 v16 v17 v28 (IntKind.wrap .i64 (v29 + (1 : Int))) h8 h9
else
qMb v1n v15 v16 (IntKind.wrap .i64 (v17 + (1 : Int))) h8 h9) := (FnI.sem_eq _).trans (by kernel_rfl)
theorem qag (v1n : Nat) (v6 : Int) (v8 : Int) (v15 : List Int) (v16 : Int) (v17 : Int) (v28 : Int) (v29 : Int) (h8 : List qfa) (h9 : List qfa) (h10 : List qfa) : qhc v1n v6 v8 v15 v16 v17 v28 v29 h8 h9 h10 = (
if (decide (v29 < v28)) = true then
gd (0 ≤ v29) <|
gd (v29 < (Int.ofNat (List.length h10))) <|
if ((List.getD h10 (0 + (Int.toNat v29)) (qja qda)).1 != v6) = true then
qhc v1n v6 v8 v15 v16 v17 v28 (IntKind.wrap .i64 (v29 + (1 : Int))) h8 h9 h10
else
if (decide ((List.getD h10 (0 + (Int.toNat v29)) (qja qda)).2.1 > v8)) = true then
gd ((List.length (h9 ++ [(v6, (v8, ((IntKind.wrap .i64 ((List.getD h10 (0 + (Int.toNat v29)) (qja qda)).2.1 - v8)), ())))])) * 24 ≤ 140737488355328) <|
qhc v1n v6 (if (IntKind.wrap .i64 ((List.getD h10 (0 + (Int.toNat v29)) (qja qda)).2.1 + (List.getD h10 (0 + (Int.toNat v29)) (qja qda)).2.2.1)) > v8 then (IntKind.wrap .i64 ((List.getD h10 (0 + (Int.toNat v29)) (qja qda)).2.1 + (List.getD h10 (0 + (Int.toNat v29)) (qja qda)).2.2.1)) else v8) v15 v16 v17 v28 (IntKind.wrap .i64 (v29 + (1 : Int))) h8 (h9 ++ [(v6, (v8, ((IntKind.wrap .i64 ((List.getD h10 (0 + (Int.toNat v29)) (qja qda)).2.1 - v8)), ())))]) h10
else
qhc v1n v6 (if (IntKind.wrap .i64 ((List.getD h10 (0 + (Int.toNat v29)) (qja qda)).2.1 + (List.getD h10 (0 + (Int.toNat v29)) (qja qda)).2.2.1)) > v8 then (IntKind.wrap .i64 ((List.getD h10 (0 + (Int.toNat v29)) (qja qda)).2.1 + (List.getD h10 (0 + (Int.toNat v29)) (qja qda)).2.2.1)) else v8) v15 v16 v17 v28 (IntKind.wrap .i64 (v29 + (1 : Int))) h8 h9 h10
else
qMb v1n v15 v16 (IntKind.wrap .i64 (v17 + (1 : Int))) h8 h9) := (FnI.sem_eq _).trans (by kernel_rfl)
noncomputable def qCn (acc : List AV → Bool) : Summ Tryz.prog GT := split_missing_I.summ mixed acc false false
noncomputable def split_Put_I : FnI Tryz.prog GT := { f := 22, cuts := [⟨(9, 3), [0, 1, 7, 8, 26, 27, 28], false, false, [9], [], []⟩, ⟨(16, 3), [0, 1, 7, 8, 11, 47, 48, 49], false, false, [9], [], []⟩, ⟨(27, 3), [0, 8, 82, 83, 84], false, false, [], [8], []⟩], tab := [qMd (fun _ => true), qnp (fun _ => true), qDn (fun _ => true), qCn (fun _ => true), qUk (fun _ => true)], fm := ⟨true, [.val (.slice qka) [.nw], .val (.int .i64) []]⟩ }
noncomputable def qub (a0 : List qaa) (a1 : List qma) : Option (List qla × Int) := split_Put_I.call [(.sl qba false a0), (.sl qsa false a1)] []
noncomputable def qHg (v0 : List qaa) (v1 : List qma) (v26 : List qaa) (v27 : Int) (v28 : Int) (h8 : List Int) (h9 : List (ByteArray × List Int)) : Option (List qla × Int) := split_Put_I.sem ⟨[.code (cIn (cIn (qha (qPa (qha (qha (qha (qha (qha (qoa Tryz.prog 22)))))))))), .inLoop (cIn (cIn (qha (qPa (qha (qha (qha (qha (qha (qoa Tryz.prog 22)))))))))), .inBlock 0, .code (qha (qha (qha (qha (qha (qha (qoa Tryz.prog 22)))))))], ⟨[(0, (.one (.sl qba false v0))), (1, (.one (.sl qsa false v1))), (7, (.one (.ref (.int .i64) 8 0 (List.length h8) true))), (8, (.one (.ref qka 9 0 (List.length (qUf (a := .str) (e := (.int .u8)) h9)) true))), (26, (.one (.sl qba false v26))), (27, (.one (.int .i64 v27))), (28, (.one (.int .i64 v28)))], [(8, some (.row (.int .i64) true h8)), (9, some (.famS .str (.int .u8) h9))], 10⟩⟩
noncomputable def qhd (v0 : List qaa) (v1 : List qma) (v47 : List qma) (v48 : Int) (v49 : Int) (h8 : List Int) (h9 : List (ByteArray × List Int)) (h10 : List qfa) : Option (List qla × Int) := split_Put_I.sem ⟨[.code (cIn (cIn (qha (qPa (qha (qha (qha (qha (qha (qha (qha (qoa Tryz.prog 22)))))))))))), .inLoop (cIn (cIn (qha (qPa (qha (qha (qha (qha (qha (qha (qha (qoa Tryz.prog 22)))))))))))), .inBlock 2, .code (qha (qha (qha (qha (qha (qha (qha (qha (qoa Tryz.prog 22)))))))))], ⟨[(0, (.one (.sl qba false v0))), (1, (.one (.sl qsa false v1))), (7, (.one (.ref (.int .i64) 8 0 (List.length h8) true))), (8, (.one (.ref qka 9 0 (List.length (qUf (a := .str) (e := (.int .u8)) h9)) true))), (11, (.one (.ref qda 10 0 (List.length h10) true))), (47, (.one (.sl qsa false v47))), (48, (.one (.int .i64 v48))), (49, (.one (.int .i64 v49)))], [(8, some (.row (.int .i64) true h8)), (9, some (.famS .str (.int .u8) h9)), (10, some (.row qda true h10))], 11⟩⟩
noncomputable def qwf (v0 : List qaa) (v83 : Int) (v84 : Int) (h8 : List qla) : Option (List qla × Int) := split_Put_I.sem ⟨[.code (cIn (cIn (qha (qPa (qha (qha (qha (qha (qha (qha (qha (qha (qha (qha (qoa Tryz.prog 22))))))))))))))), .inLoop (cIn (cIn (qha (qPa (qha (qha (qha (qha (qha (qha (qha (qha (qha (qha (qoa Tryz.prog 22))))))))))))))), .inBlock 4, .code (qha (qha (qha (qha (qha (qha (qha (qha (qha (qha (qha (qoa Tryz.prog 22))))))))))))], ⟨[(0, (.one (.sl qba false v0))), (8, (.one (.ref qka 8 0 (List.length h8) true))), (82, (.one (.ref qka 8 0 (List.length h8) true))), (83, (.one (.int .i64 v83))), (84, (.one (.int .i64 v84)))], [(8, some (.row qka true h8))], 9⟩⟩
theorem qyr (a0 : List qaa) (a1 : List qma) : qub a0 a1 = (
(qpd a0).bind fun r1 =>
if (r1 != (0 : Int)) = true then
some ([], r1)
else
if (decide ((Int.ofNat (List.length a1)) > (600 : Int))) = true then
some ([], (4 : Int))
else
qHg a0 a1 a0 (Int.ofNat (List.length a0)) (0 : Int) [] []) := (FnI.call_eq (by kernel_rfl)).trans (by kernel_rfl)
theorem qBi (v0 : List qaa) (v1 : List qma) (v26 : List qaa) (v27 : Int) (v28 : Int) (h8 : List Int) (h9 : List (ByteArray × List Int)) : qHg v0 v1 v26 v27 v28 h8 h9 = (
if (decide (v28 < v27)) = true then
gd (0 ≤ v28) <|
gd (v28 < (Int.ofNat (List.length v26))) <|
gd ((List.length (h8 ++ [(List.getD v26 (Int.toNat v28) (qja qba)).2.1])) * 8 ≤ 140737488355328) <|
gd ((List.getD v26 (Int.toNat v28) (qja qba)).2.1 = (List.getD v26 (Int.toNat v28) (qja qba)).2.1) <|
gd (0 ≤ (List.getD v26 (Int.toNat v28) (qja qba)).2.1) <|
gd ((List.getD v26 (Int.toNat v28) (qja qba)).2.1 * 1 ≤ 140737488355328) <|
gd ((List.getD v26 (Int.toNat v28) (qja qba)).2.1 ≤ 9223372036854775807) <|
gd ((List.length (h9 ++ [((List.getD v26 (Int.toNat v28) (qja qba)).1, (List.replicate (Int.toNat (List.getD v26 (Int.toNat v28) (qja qba)).2.1) (0 : Int)))])) * 40 ≤ 140737488355328) <|
qHg v0 v1 v26 v27 (IntKind.wrap .i64 (v28 + (1 : Int))) (h8 ++ [(List.getD v26 (Int.toNat v28) (qja qba)).2.1]) (h9 ++ [((List.getD v26 (Int.toNat v28) (qja qba)).1, (List.replicate (Int.toNat (List.getD v26 (Int.toNat v28) (qja qba)).2.1) (0 : Int)))])
else
qhd v0 v1 v1 (Int.ofNat (List.length v1)) (0 : Int) h8 h9 []) := (FnI.sem_eq _).trans (by kernel_rfl)
theorem qAi (v0 : List qaa) (v1 : List qma) (v47 : List qma) (v48 : Int) (v49 : Int) (h8 : List Int) (h9 : List (ByteArray × List Int)) (h10 : List qfa) : qhd v0 v1 v47 v48 v49 h8 h9 h10 = (
if (decide (v49 < v48)) = true then
gd (0 ≤ v49) <|
gd (v49 < (Int.ofNat (List.length v47))) <|
(qyi h8 (List.getD v47 (Int.toNat v49) (qja qsa)).1).bind fun r2 =>
if (not r2) = true then
some ([], (8 : Int))
else
if ((Int.ofNat (List.length (List.getD v47 (Int.toNat v49) (qja qsa)).2.1)) != (List.getD v47 (Int.toNat v49) (qja qsa)).1.2.2.1) = true then
some ([], (8 : Int))
else
gd ((List.length (h10 ++ [(List.getD v47 (Int.toNat v49) (qja qsa)).1])) * 24 ≤ 140737488355328) <|
qhd v0 v1 v47 v48 (IntKind.wrap .i64 (v49 + (1 : Int))) h8 h9 (h10 ++ [(List.getD v47 (Int.toNat v49) (qja qsa)).1])
else
(qJh v1 h9).bind fun r3 =>
if (not r3.1) = true then
some ([], (14 : Int))
else
(qIh h8 h10).bind fun r4 =>
if (decide ((Int.ofNat (List.length r4)) > (0 : Int))) = true then
some ([], (40 : Int))
else
qwf v0 (Int.ofNat (List.length (qUf (a := .str) (e := (.int .u8)) h9))) (0 : Int) (qUf (a := .str) (e := (.int .u8)) r3.2)) := (FnI.sem_eq _).trans (by kernel_rfl)
theorem qzi (v0 : List qaa) (v83 : Int) (v84 : Int) (h8 : List qla) : qwf v0 v83 v84 h8 = (
if (decide (v84 < v83)) = true then
gd (0 ≤ v84) <|
gd (v84 < (Int.ofNat (List.length h8))) <|
(qIl (List.getD h8 (0 + (Int.toNat v84)) (qja qka)).2.1).bind fun r5 =>
gd (0 ≤ v84) <|
gd (v84 < (Int.ofNat (List.length v0))) <|
if (not (peq (.arr 20 (.int .u8)) r5.1 (List.getD v0 (Int.toNat v84) (qja qba)).2.2.1)) = true then
some ([], (22 : Int))
else
qwf v0 v83 (IntKind.wrap .i64 (v84 + (1 : Int))) h8
else
some (h8, (0 : Int))) := (FnI.sem_eq _).trans (by kernel_rfl)
noncomputable def qFn (acc : List AV → Bool) : Summ Tryz.prog GT := split_Put_I.summ mixed acc false false
noncomputable def extract_Extract_I : FnI Tryz.prog GT := { f := 5, cuts := [], tab := [qgk (fun _ => true), qsg (fun _ => true), qFn (fun _ => true)], fm := ⟨true, [.val (.slice qka) [.nw], .val (.int .i64) []]⟩ }
noncomputable def qOa (a0 : List Int) : Option (List qla × Int) := extract_Extract_I.call [(.sl (.int .u8) false a0)] []
theorem qIe (a0 : List Int) : qOa a0 = (
(qcb a0).bind fun r1 =>
if (r1.2.2 != (0 : Int)) = true then
some ([], r1.2.2)
else
(qSb r1.1.1.1 r1.2.1).bind fun r2 =>
if (r2.2 != (0 : Int)) = true then
some ([], r2.2)
else
(qub r1.1.2.1 r2.1).bind fun r3 =>
some (r3)) := (FnI.call_eq (by kernel_rfl)).trans (by kernel_rfl)
noncomputable def qzh (acc : List AV → Bool) : Summ Tryz.prog GT := extract_Extract_I.summ mixed acc false false
noncomputable def member_Find_I : FnI Tryz.prog GT := { f := 46, cuts := [⟨(5, 3), [1, 14, 15, 16], false, false, [], [], []⟩], tab := [qMd (fun _ => true)], fm := ⟨true, [.val (.int .i64) [], .val (.int .i64) []]⟩ }
noncomputable def qaf (a0 : List qaa) (a1 : ByteArray) : Option (Int × Int) := member_Find_I.call [(.sl qba false a0), (.str a1)] []
noncomputable def qof (v1 : ByteArray) (v14 : List qaa) (v15 : Int) (v16 : Int) : Option (Int × Int) := member_Find_I.sem ⟨[.code (cIn (cIn (qha (qPa (qha (qha (qoa Tryz.prog 46))))))), .inLoop (cIn (cIn (qha (qPa (qha (qha (qoa Tryz.prog 46))))))), .inBlock 0, .code (qha (qha (qha (qoa Tryz.prog 46))))], ⟨[(1, (.one (.str v1))), (14, (.one (.sl qba false v14))), (15, (.one (.int .i64 v15))), (16, (.one (.int .i64 v16)))], [], 8⟩⟩
theorem qwp (a0 : List qaa) (a1 : ByteArray) : qaf a0 a1 = (
(qpd a0).bind fun r1 =>
if (r1 != (0 : Int)) = true then
some ((0 : Int), r1)
else
qof a1 a0 (Int.ofNat (List.length a0)) (0 : Int)) := (FnI.call_eq (by kernel_rfl)).trans (by kernel_rfl)
theorem qqh (v1 : ByteArray) (v14 : List qaa) (v15 : Int) (v16 : Int) : qof v1 v14 v15 v16 = (
if (decide (v16 < v15)) = true then
gd (0 ≤ v16) <|
gd (v16 < (Int.ofNat (List.length v14))) <|
if ((ByteArray.toList (List.getD v14 (Int.toNat v16) (qja qba)).1) == (ByteArray.toList v1)) = true then
some (v16, (0 : Int))
else
qof v1 v14 v15 (IntKind.wrap .i64 (v16 + (1 : Int)))
else
some ((0 : Int), (6 : Int))) := (FnI.sem_eq _).trans (by kernel_rfl)
noncomputable def qCq (acc : List AV → Bool) : Summ Tryz.prog GT := member_Find_I.summ mixed acc false false
noncomputable def extract_find_1_I : FnI Tryz.prog GT := { f := 47, cuts := [], tab := [], fm := ⟨true, [.val .bool [], .box 0 (.int .i64) []]⟩ }
noncomputable def qsf (a0 : qca) (b0 : Int) : Option (Bool × Int) := extract_find_1_I.call [(.agg qna (inj false qna a0)), (.ptr (.int .i64) 0 [])] [(0, (.box (.int .i64) b0))]
theorem qem (a0 : qca) (b0 : Int) : qsf a0 b0 = (
some ((a0.1.2.1 != b0), b0)) := (FnI.call_eq (by kernel_rfl)).trans (by kernel_rfl)
noncomputable def qoi (acc : List AV → Bool) : Summ Tryz.prog GT := extract_find_1_I.summ mixed acc false false
noncomputable def slices_IndexFunc_api_Block_api_Block_I : FnI Tryz.prog GT := { f := 48, cuts := [⟨(2, 3), [0, 1, 7, 8], false, false, [], [], []⟩], tab := [qoi (fun _ => true)], fm := ⟨true, [.val (.int .i64) [], .box 0 (.int .i64) []]⟩ }
noncomputable def qeb (a0 : List qca) (b0 : Int) : Option (Int × Int) := slices_IndexFunc_api_Block_api_Block_I.call [(.sl qna false a0), (.func 47 [0])] [(0, (.box (.int .i64) b0))]
noncomputable def qwa (v0 : List qca) (v7 : Int) (v8 : Int) (b0 : Int) : Option (Int × Int) := slices_IndexFunc_api_Block_api_Block_I.sem ⟨[.code (cIn (cIn (qha (qPa (qha (qoa Tryz.prog 48)))))), .inLoop (cIn (cIn (qha (qPa (qha (qoa Tryz.prog 48)))))), .inBlock 0, .code (qha (qha (qoa Tryz.prog 48)))], ⟨[(0, (.one (.sl qna false v0))), (1, (.one (.func 47 [0]))), (7, (.one (.int .i64 v7))), (8, (.one (.int .i64 v8)))], [(0, some (.box (.int .i64) b0))], 9⟩⟩
theorem qld (a0 : List qca) (b0 : Int) : qeb a0 b0 = (
qwa a0 (Int.ofNat (List.length a0)) (0 : Int) b0) := (FnI.call_eq (by kernel_rfl)).trans (by kernel_rfl)
theorem qsb (v0 : List qca) (v7 : Int) (v8 : Int) (b0 : Int) : qwa v0 v7 v8 b0 = (
if (decide (v8 < v7)) = true then
gd (0 ≤ v8) <|
gd (v8 < (Int.ofNat (List.length v0))) <|
(qsf (List.getD v0 (Int.toNat v8) (qja qna)) b0).bind fun r1 =>
if r1.1 = true then
some (v8, r1.2)
else
qwa v0 v7 (IntKind.wrap .i64 (v8 + (1 : Int))) r1.2
else
some ((-1 : Int), b0)) := (FnI.sem_eq _).trans (by kernel_rfl)
noncomputable def qxd (acc : List AV → Bool) : Summ Tryz.prog GT := slices_IndexFunc_api_Block_api_Block_I.summ mixed acc false false
noncomputable def slices_DeleteFunc_api_Block_api_Block_v2_I : FnI Tryz.prog GT := { f := 24, cuts := [⟨(5, 3), [0, 1, 5, 6], false, false, [], [], []⟩], tab := [qxd (fun _ => true), qoi (fun _ => true)], fm := ⟨false, [.sub 0 qna, .row 0 qna, .box 1 (.int .i64) []]⟩ }
noncomputable def qXa (h0 : List qca) (b1 : Int) : Option ((Nat × Nat) × List qca × Int) := slices_DeleteFunc_api_Block_api_Block_v2_I.call [(.ref qna 0 0 (List.length h0) true), (.func 47 [1])] [(0, (.row qna false h0)), (1, (.box (.int .i64) b1))]
noncomputable def qAa (v5 : Int) (v6 : Int) (h0 : List qca) (b1 : Int) : Option ((Nat × Nat) × List qca × Int) := slices_DeleteFunc_api_Block_api_Block_v2_I.sem ⟨[.code (cIn (cIn (qha (qPa (qha (qha (qha (qoa Tryz.prog 24)))))))), .inLoop (cIn (cIn (qha (qPa (qha (qha (qha (qoa Tryz.prog 24)))))))), .inBlock 0, .code (qha (qha (qha (qha (qoa Tryz.prog 24)))))], ⟨[(0, (.one (.ref qna 0 0 (List.length h0) true))), (1, (.one (.func 47 [1]))), (5, (.one (.int .i64 v5))), (6, (.one (.int .i64 v6)))], [(0, some (.row qna false h0)), (1, some (.box (.int .i64) b1))], 10⟩⟩
theorem qpb (h0 : List qca) (b1 : Int) : qXa h0 b1 = (
(qeb h0 b1).bind fun r1 =>
if (r1.1 == (-1 : Int)) = true then
some ((0, (List.length h0)), (h0, r1.2))
else
qAa r1.1 (IntKind.wrap .i64 (r1.1 + (1 : Int))) h0 r1.2) := (FnI.call_eq (by kernel_rfl)).trans (by kernel_rfl)
theorem qib (v5 : Int) (v6 : Int) (h0 : List qca) (b1 : Int) : qAa v5 v6 h0 b1 = (
if (decide (v6 < (Int.ofNat (List.length h0)))) = true then
gd (0 ≤ v6) <|
gd (v6 < (Int.ofNat (List.length h0))) <|
(qsf (List.getD h0 (0 + (Int.toNat v6)) (qja qna)) b1).bind fun r2 =>
if (not r2.1) = true then
gd (0 ≤ v5) <|
gd (v5 < (Int.ofNat (List.length h0))) <|
qAa (IntKind.wrap .i64 (v5 + (1 : Int))) (IntKind.wrap .i64 (v6 + (1 : Int))) (List.set h0 (0 + (Int.toNat v5)) (List.getD h0 (0 + (Int.toNat v6)) (qja qna))) r2.2
else
qAa v5 (IntKind.wrap .i64 (v6 + (1 : Int))) h0 r2.2
else
gd (0 ≤ v5) <|
gd (v5 ≤ (Int.ofNat (List.length h0))) <|
gd (0 ≤ v5) <|
gd (v5 ≤ (Int.ofNat (List.length h0))) <|
some ((0, ((Int.toNat v5) - 0)), ((qZb h0 (0 + (Int.toNat v5)) (List.replicate ((List.length h0) - (Int.toNat v5)) (qja qna))), b1))) := (FnI.sem_eq _).trans (by kernel_rfl)
noncomputable def qOc (acc : List AV → Bool) : Summ Tryz.prog GT := slices_DeleteFunc_api_Block_api_Block_v2_I.summ mixed acc true false
noncomputable def extract_find_I : FnI Tryz.prog GT := { f := 23, cuts := [], tab := [qgk (fun _ => true), qCq (fun _ => true), (qOc (fun _ => true)).dropping], fm := ⟨false, [.val qHa [], .val (.int .i64) [], .part qna, .val (.int .i64) []]⟩ }
noncomputable def qie (a0 : List Int) (a1 : ByteArray) : Option (qua × Int × (List qca × Nat × Nat) × Int) := extract_find_I.call [(.sl (.int .u8) false a0), (.str a1)] []
theorem qtg (a0 : List Int) (a1 : ByteArray) : qie a0 a1 = (
(qcb a0).bind fun r1 =>
if (r1.2.2 != (0 : Int)) = true then
some ((((0 : Int), ((0 : Int), ())), ([], ([], ()))), ((0 : Int), (([], (0, 0)), r1.2.2)))
else
(qaf r1.1.2.1 a1).bind fun r2 =>
if (r2.2 != (0 : Int)) = true then
some ((((0 : Int), ((0 : Int), ())), ([], ([], ()))), ((0 : Int), (([], (0, 0)), r2.2)))
else
(qXa r1.2.1 r2.1).bind fun r3 =>
some (r1.1, (r3.2.2, ((r3.2.1, r3.1), (0 : Int))))) := (FnI.call_eq (by kernel_rfl)).trans (by kernel_rfl)
noncomputable def qhk (acc : List AV → Bool) : Summ Tryz.prog GT := extract_find_I.summ mixed acc false false
noncomputable def extract_One_I : FnI Tryz.prog GT := { f := 6, cuts := [⟨(8, 3), [4, 6, 7, 10, 38, 39], false, false, [], [], []⟩], tab := [(qhk (fun _ => true)).dropping, qsg (fun _ => true), qFn (fun _ => true)], fm := ⟨true, [.val qka [], .val (.int .i64) []]⟩ }
noncomputable def qTa (a0 : List Int) (a1 : ByteArray) : Option (qla × Int) := extract_One_I.call [(.sl (.int .u8) false a0), (.str a1)] []
noncomputable def qNd (v7 : Int) (v38 : Int) (v39 : Int) (b8a : ByteArray) (b8bb : Unit) (b9 : qua) (h10 : List qma) (h11 : List Int) : Option (qla × Int) := extract_One_I.sem ⟨[.code (cIn (cIn (qha (qPa (qha (qha (qha (qha (qha (qoa Tryz.prog 6)))))))))), .inLoop (cIn (cIn (qha (qPa (qha (qha (qha (qha (qha (qoa Tryz.prog 6)))))))))), .inBlock 0, .code (qha (qha (qha (qha (qha (qha (qoa Tryz.prog 6)))))))], ⟨[(4, (.one (.ptr qka 8 []))), (6, (.one (.ptr qHa 9 []))), (7, (.one (.int .i64 v7))), (10, (.one (.ref qsa 10 0 (List.length h10) true))), (38, (.one (.int .i64 v38))), (39, (.one (.int .i64 v39)))], [(8, some (.box qka (b8a, ((SV.ref 11 0 (List.length h11) true), b8bb)))), (9, some (.box qHa (inj false qHa b9))), (10, some (.row qsa true h10)), (11, some (.row (.int .u8) true h11))], 12⟩⟩
theorem qtf (a0 : List Int) (a1 : ByteArray) : qTa a0 a1 = (
(qie a0 a1).bind fun r1 =>
if (r1.2.2.2 != (0 : Int)) = true then
some ((ByteArray.empty, ([], ())), r1.2.2.2)
else
(qSb r1.1.1.1 (List.take r1.2.2.1.2.2 (List.drop r1.2.2.1.2.1 r1.2.2.1.1))).bind fun r2 =>
if (r2.2 != (0 : Int)) = true then
some ((ByteArray.empty, ([], ())), r2.2)
else
qNd r1.2.1 (Int.ofNat (List.length r2.1)) (0 : Int) ByteArray.empty () r1.1 r2.1 []) := (FnI.call_eq (by kernel_rfl)).trans (by kernel_rfl)
theorem qyh (v7 : Int) (v38 : Int) (v39 : Int) (b8a : ByteArray) (b8bb : Unit) (b9 : qua) (h10 : List qma) (h11 : List Int) : qNd v7 v38 v39 b8a b8bb b9 h10 h11 = (
if (decide (v39 < v38)) = true then
gd (0 ≤ v39) <|
gd (v39 < (Int.ofNat (List.length h10))) <|
qNd v7 v38 (IntKind.wrap .i64 (v39 + (1 : Int))) b8a b8bb b9 (List.set h10 (0 + (Int.toNat v39)) (((0 : Int), (List.getD h10 (0 + (Int.toNat v39)) (qja qsa)).1.2), (List.getD h10 (0 + (Int.toNat v39)) (qja qsa)).2)) h11
else
gd (0 ≤ v7) <|
gd (v7 ≤ (IntKind.wrap .i64 (v7 + (1 : Int)))) <|
gd ((IntKind.wrap .i64 (v7 + (1 : Int))) ≤ (Int.ofNat (List.length b9.2.1))) <|
(qub (List.take ((Int.toNat (IntKind.wrap .i64 (v7 + (1 : Int)))) - (Int.toNat v7)) (List.drop (Int.toNat v7) b9.2.1)) h10).bind fun r3 =>
if (r3.2 != (0 : Int)) = true then
some ((ByteArray.empty, ([], ())), r3.2)
else
gd (0 ≤ (0 : Int)) <|
gd ((0 : Int) < (Int.ofNat (List.length r3.1))) <|
some ((List.getD r3.1 0 (qja qka)), (0 : Int))) := (FnI.sem_eq _).trans (by kernel_rfl)
noncomputable def qnl (acc : List AV → Bool) : Summ Tryz.prog GT := extract_One_I.summ mixed acc false false
noncomputable def extract_Range_1_I : FnI Tryz.prog GT := { f := 25, cuts := [], tab := [], fm := ⟨true, [.val .bool [], .box 0 (.int .i64) [], .box 1 (.int .i64) []]⟩ }
noncomputable def qHe (a0 : qca) (b0 : Int) (b1 : Int) : Option (Bool × Int × Int) := extract_Range_1_I.call [(.agg qna (inj false qna a0)), (.ptr (.int .i64) 0 []), (.ptr (.int .i64) 1 [])] [(0, (.box (.int .i64) b0)), (1, (.box (.int .i64) b1))]
theorem qml (a0 : qca) (b0 : Int) (b1 : Int) : qHe a0 b0 b1 = (
some ((decide ((if b0 > a0.1.2.2.1 then b0 else a0.1.2.2.1) ≥ (if b1 < (IntKind.wrap .i64 (a0.1.2.2.1 + a0.1.2.2.2.1)) then b1 else (IntKind.wrap .i64 (a0.1.2.2.1 + a0.1.2.2.2.1))))), (b0, b1))) := (FnI.call_eq (by kernel_rfl)).trans (by kernel_rfl)
noncomputable def qxh (acc : List AV → Bool) : Summ Tryz.prog GT := extract_Range_1_I.summ mixed acc false false
noncomputable def slices_IndexFunc_api_Block_api_Block_v2_I : FnI Tryz.prog GT := { f := 48, cuts := [⟨(2, 3), [0, 1, 7, 8], false, false, [], [], []⟩], tab := [qxh (fun _ => true)], fm := ⟨true, [.val (.int .i64) [], .box 0 (.int .i64) [], .box 1 (.int .i64) []]⟩ }
noncomputable def qYa (a0 : List qca) (b0 : Int) (b1 : Int) : Option (Int × Int × Int) := slices_IndexFunc_api_Block_api_Block_v2_I.call [(.sl qna false a0), (.func 25 [0, 1])] [(0, (.box (.int .i64) b0)), (1, (.box (.int .i64) b1))]
noncomputable def qva (v0 : List qca) (v7 : Int) (v8 : Int) (b0 : Int) (b1 : Int) : Option (Int × Int × Int) := slices_IndexFunc_api_Block_api_Block_v2_I.sem ⟨[.code (cIn (cIn (qha (qPa (qha (qoa Tryz.prog 48)))))), .inLoop (cIn (cIn (qha (qPa (qha (qoa Tryz.prog 48)))))), .inBlock 0, .code (qha (qha (qoa Tryz.prog 48)))], ⟨[(0, (.one (.sl qna false v0))), (1, (.one (.func 25 [0, 1]))), (7, (.one (.int .i64 v7))), (8, (.one (.int .i64 v8)))], [(0, some (.box (.int .i64) b0)), (1, some (.box (.int .i64) b1))], 10⟩⟩
theorem qMc (a0 : List qca) (b0 : Int) (b1 : Int) : qYa a0 b0 b1 = (
qva a0 (Int.ofNat (List.length a0)) (0 : Int) b0 b1) := (FnI.call_eq (by kernel_rfl)).trans (by kernel_rfl)
theorem qjb (v0 : List qca) (v7 : Int) (v8 : Int) (b0 : Int) (b1 : Int) : qva v0 v7 v8 b0 b1 = (
if (decide (v8 < v7)) = true then
gd (0 ≤ v8) <|
gd (v8 < (Int.ofNat (List.length v0))) <|
(qHe (List.getD v0 (Int.toNat v8) (qja qna)) b0 b1).bind fun r1 =>
if r1.1 = true then
some (v8, r1.2)
else
qva v0 v7 (IntKind.wrap .i64 (v8 + (1 : Int))) r1.2.1 r1.2.2
else
some ((-1 : Int), (b0, b1))) := (FnI.sem_eq _).trans (by kernel_rfl)
noncomputable def qTc (acc : List AV → Bool) : Summ Tryz.prog GT := slices_IndexFunc_api_Block_api_Block_v2_I.summ mixed acc false false
noncomputable def slices_DeleteFunc_api_Block_api_Block_v4_I : FnI Tryz.prog GT := { f := 24, cuts := [⟨(5, 3), [0, 1, 5, 6], false, false, [], [], []⟩], tab := [qTc (fun _ => true), qxh (fun _ => true)], fm := ⟨false, [.sub 0 qna, .row 0 qna, .box 1 (.int .i64) [], .box 2 (.int .i64) []]⟩ }
noncomputable def qWa (a0o : Nat) (a0n : Nat) (h0 : List qca) (b1 : Int) (b2 : Int) : Option ((Nat × Nat) × List qca × Int × Int) := slices_DeleteFunc_api_Block_api_Block_v4_I.call [(.ref qna 0 a0o a0n false), (.func 25 [1, 2])] [(0, (.row qna false h0)), (1, (.box (.int .i64) b1)), (2, (.box (.int .i64) b2))]
noncomputable def qza (v0o : Nat) (v0n : Nat) (v5 : Int) (v6 : Int) (h0 : List qca) (b1 : Int) (b2 : Int) : Option ((Nat × Nat) × List qca × Int × Int) := slices_DeleteFunc_api_Block_api_Block_v4_I.sem ⟨[.code (cIn (cIn (qha (qPa (qha (qha (qha (qoa Tryz.prog 24)))))))), .inLoop (cIn (cIn (qha (qPa (qha (qha (qha (qoa Tryz.prog 24)))))))), .inBlock 0, .code (qha (qha (qha (qha (qoa Tryz.prog 24)))))], ⟨[(0, (.one (.ref qna 0 v0o v0n false))), (1, (.one (.func 25 [1, 2]))), (5, (.one (.int .i64 v5))), (6, (.one (.int .i64 v6)))], [(0, some (.row qna false h0)), (1, some (.box (.int .i64) b1)), (2, some (.box (.int .i64) b2))], 11⟩⟩
theorem qIc (a0o : Nat) (a0n : Nat) (h0 : List qca) (b1 : Int) (b2 : Int) : qWa a0o a0n h0 b1 b2 = (
(qYa (List.take a0n (List.drop a0o h0)) b1 b2).bind fun r1 =>
if (r1.1 == (-1 : Int)) = true then
some ((a0o, a0n), (h0, r1.2))
else
qza a0o a0n r1.1 (IntKind.wrap .i64 (r1.1 + (1 : Int))) h0 r1.2.1 r1.2.2) := (FnI.call_eq (by kernel_rfl)).trans (by kernel_rfl)
theorem qhb (v0o : Nat) (v0n : Nat) (v5 : Int) (v6 : Int) (h0 : List qca) (b1 : Int) (b2 : Int) : qza v0o v0n v5 v6 h0 b1 b2 = (
if (decide (v6 < (Int.ofNat v0n))) = true then
gd (0 ≤ v6) <|
gd (v6 < (Int.ofNat v0n)) <|
(qHe (List.getD h0 (v0o + (Int.toNat v6)) (qja qna)) b1 b2).bind fun r2 =>
if (not r2.1) = true then
gd (0 ≤ v5) <|
gd (v5 < (Int.ofNat v0n)) <|
qza v0o v0n (IntKind.wrap .i64 (v5 + (1 : Int))) (IntKind.wrap .i64 (v6 + (1 : Int))) (List.set h0 (v0o + (Int.toNat v5)) (List.getD h0 (v0o + (Int.toNat v6)) (qja qna))) r2.2.1 r2.2.2
else
qza v0o v0n v5 (IntKind.wrap .i64 (v6 + (1 : Int))) h0 r2.2.1 r2.2.2
else
gd (0 ≤ v5) <|
gd (v5 ≤ (Int.ofNat v0n)) <|
gd (0 ≤ v5) <|
gd (v5 ≤ (Int.ofNat v0n)) <|
some (((v0o + 0), ((Int.toNat v5) - 0)), ((qZb h0 (v0o + (Int.toNat v5)) (List.replicate (v0n - (Int.toNat v5)) (qja qna))), (b1, b2)))) := (FnI.sem_eq _).trans (by kernel_rfl)
noncomputable def qNc (acc : List AV → Bool) : Summ Tryz.prog GT := slices_DeleteFunc_api_Block_api_Block_v4_I.summ mixed acc true false
noncomputable def extract_Range_I : FnI Tryz.prog GT := { f := 7, cuts := [⟨(12, 3), [6, 7, 15, 61, 62, 63], false, false, [], [], []⟩], tab := [(qhk (fun _ => true)).dropping, (qNc (fun _ => true)).dropping, qsg (fun _ => true)], fm := ⟨true, [.val (.slice (.int .u8)) [.nw], .val (.int .i64) []]⟩ }
noncomputable def qxa (a0 : List Int) (a1 : ByteArray) (a2 : Int) (a3 : Int) : Option (List Int × Int) := extract_Range_I.call [(.sl (.int .u8) false a0), (.str a1), (.int .i64 a2), (.int .i64 a3)] []
noncomputable def qkc (v62 : Int) (v63 : Int) (b8 : Int) (b9 : Int) (h10 : List Int) (h11 : List qma) : Option (List Int × Int) := extract_Range_I.sem ⟨[.code (cIn (cIn (qha (qPa (qha (qha (qha (qha (qha (qha (qha (qha (qoa Tryz.prog 7))))))))))))), .inLoop (cIn (cIn (qha (qPa (qha (qha (qha (qha (qha (qha (qha (qha (qoa Tryz.prog 7))))))))))))), .inBlock 0, .code (qha (qha (qha (qha (qha (qha (qha (qha (qha (qoa Tryz.prog 7))))))))))], ⟨[(6, (.one (.ptr (.int .i64) 8 []))), (7, (.one (.ptr (.int .i64) 9 []))), (15, (.one (.ref (.int .u8) 10 0 (List.length h10) true))), (61, (.one (.ref qsa 11 0 (List.length h11) true))), (62, (.one (.int .i64 v62))), (63, (.one (.int .i64 v63)))], [(8, some (.box (.int .i64) b8)), (9, some (.box (.int .i64) b9)), (10, some (.row (.int .u8) true h10)), (11, some (.row qsa true h11))], 12⟩⟩
theorem qVd (a0 : List Int) (a1 : ByteArray) (a2 : Int) (a3 : Int) : qxa a0 a1 a2 a3 = (
(qie a0 a1).bind fun r1 =>
if (r1.2.2.2 != (0 : Int)) = true then
some ([], r1.2.2.2)
else
if (decide (a2 < (0 : Int))) = true then
some ([], (2 : Int))
else
if (decide (a3 < a2)) = true then
some ([], (2 : Int))
else
gd (0 ≤ r1.2.1) <|
gd (r1.2.1 < (Int.ofNat (List.length r1.1.2.1))) <|
if (decide (a3 > (List.getD r1.1.2.1 (Int.toNat r1.2.1) (qja qba)).2.1)) = true then
some ([], (2 : Int))
else
(qWa r1.2.2.1.2.1 r1.2.2.1.2.2 r1.2.2.1.1 a2 a3).bind fun r2 =>
(qSb r1.1.1.1 (List.take r2.1.2 (List.drop r2.1.1 r2.2.1))).bind fun r3 =>
if (r3.2 != (0 : Int)) = true then
some ([], r3.2)
else
qkc (Int.ofNat (List.length r3.1)) (0 : Int) r2.2.2.1 r2.2.2.2 [] r3.1) := (FnI.call_eq (by kernel_rfl)).trans (by kernel_rfl)
theorem qug (v62 : Int) (v63 : Int) (b8 : Int) (b9 : Int) (h10 : List Int) (h11 : List qma) : qkc v62 v63 b8 b9 h10 h11 = (
if (decide (v63 < v62)) = true then
gd (0 ≤ v63) <|
gd (v63 < (Int.ofNat (List.length h11))) <|
gd (0 ≤ (if (0 : Int) > (IntKind.wrap .i64 (b8 - (List.getD h11 (0 + (Int.toNat v63)) (qja qsa)).1.2.1)) then (0 : Int) else (IntKind.wrap .i64 (b8 - (List.getD h11 (0 + (Int.toNat v63)) (qja qsa)).1.2.1)))) <|
gd ((if (0 : Int) > (IntKind.wrap .i64 (b8 - (List.getD h11 (0 + (Int.toNat v63)) (qja qsa)).1.2.1)) then (0 : Int) else (IntKind.wrap .i64 (b8 - (List.getD h11 (0 + (Int.toNat v63)) (qja qsa)).1.2.1))) ≤ (if (Int.ofNat (List.length (List.getD h11 (0 + (Int.toNat v63)) (qja qsa)).2.1)) < (IntKind.wrap .i64 (b9 - (List.getD h11 (0 + (Int.toNat v63)) (qja qsa)).1.2.1)) then (Int.ofNat (List.length (List.getD h11 (0 + (Int.toNat v63)) (qja qsa)).2.1)) else (IntKind.wrap .i64 (b9 - (List.getD h11 (0 + (Int.toNat v63)) (qja qsa)).1.2.1)))) <|
gd ((if (Int.ofNat (List.length (List.getD h11 (0 + (Int.toNat v63)) (qja qsa)).2.1)) < (IntKind.wrap .i64 (b9 - (List.getD h11 (0 + (Int.toNat v63)) (qja qsa)).1.2.1)) then (Int.ofNat (List.length (List.getD h11 (0 + (Int.toNat v63)) (qja qsa)).2.1)) else (IntKind.wrap .i64 (b9 - (List.getD h11 (0 + (Int.toNat v63)) (qja qsa)).1.2.1))) ≤ (Int.ofNat (List.length (List.getD h11 (0 + (Int.toNat v63)) (qja qsa)).2.1))) <|
gd ((List.length (h10 ++ (List.take ((Int.toNat (if (Int.ofNat (List.length (List.getD h11 (0 + (Int.toNat v63)) (qja qsa)).2.1)) < (IntKind.wrap .i64 (b9 - (List.getD h11 (0 + (Int.toNat v63)) (qja qsa)).1.2.1)) then (Int.ofNat (List.length (List.getD h11 (0 + (Int.toNat v63)) (qja qsa)).2.1)) else (IntKind.wrap .i64 (b9 - (List.getD h11 (0 + (Int.toNat v63)) (qja qsa)).1.2.1)))) - (Int.toNat (if (0 : Int) > (IntKind.wrap .i64 (b8 - (List.getD h11 (0 + (Int.toNat v63)) (qja qsa)).1.2.1)) then (0 : Int) else (IntKind.wrap .i64 (b8 - (List.getD h11 (0 + (Int.toNat v63)) (qja qsa)).1.2.1))))) (List.drop (Int.toNat (if (0 : Int) > (IntKind.wrap .i64 (b8 - (List.getD h11 (0 + (Int.toNat v63)) (qja qsa)).1.2.1)) then (0 : Int) else (IntKind.wrap .i64 (b8 - (List.getD h11 (0 + (Int.toNat v63)) (qja qsa)).1.2.1)))) (List.getD h11 (0 + (Int.toNat v63)) (qja qsa)).2.1)))) * 1 ≤ 140737488355328) <|
qkc v62 (IntKind.wrap .i64 (v63 + (1 : Int))) b8 b9 (h10 ++ (List.take ((Int.toNat (if (Int.ofNat (List.length (List.getD h11 (0 + (Int.toNat v63)) (qja qsa)).2.1)) < (IntKind.wrap .i64 (b9 - (List.getD h11 (0 + (Int.toNat v63)) (qja qsa)).1.2.1)) then (Int.ofNat (List.length (List.getD h11 (0 + (Int.toNat v63)) (qja qsa)).2.1)) else (IntKind.wrap .i64 (b9 - (List.getD h11 (0 + (Int.toNat v63)) (qja qsa)).1.2.1)))) - (Int.toNat (if (0 : Int) > (IntKind.wrap .i64 (b8 - (List.getD h11 (0 + (Int.toNat v63)) (qja qsa)).1.2.1)) then (0 : Int) else (IntKind.wrap .i64 (b8 - (List.getD h11 (0 + (Int.toNat v63)) (qja qsa)).1.2.1))))) (List.drop (Int.toNat (if (0 : Int) > (IntKind.wrap .i64 (b8 - (List.getD h11 (0 + (Int.toNat v63)) (qja qsa)).1.2.1)) then (0 : Int) else (IntKind.wrap .i64 (b8 - (List.getD h11 (0 + (Int.toNat v63)) (qja qsa)).1.2.1)))) (List.getD h11 (0 + (Int.toNat v63)) (qja qsa)).2.1))) h11
else
some (h10, (0 : Int))) := (FnI.sem_eq _).trans (by kernel_rfl)
noncomputable def qej (acc : List AV → Bool) : Summ Tryz.prog GT := extract_Range_I.summ mixed acc false false
noncomputable def bitloftref28_Name_I : FnI Tryz.prog GT := { f := 33, cuts := [⟨(4, 3), [0, 3], false, false, [], [], []⟩], tab := [], fm := ⟨true, [.val .bool []]⟩ }
noncomputable def qff (a0 : ByteArray) : Option (Bool) := bitloftref28_Name_I.call [(.str a0)] []
noncomputable def qvc (v0 : ByteArray) (v3 : Int) : Option (Bool) := bitloftref28_Name_I.sem ⟨[.code (cIn (cIn (qha (qPa (qha (qha (qoa Tryz.prog 33))))))), .inLoop (cIn (cIn (qha (qPa (qha (qha (qoa Tryz.prog 33))))))), .inBlock 0, .code (qha (qha (qha (qoa Tryz.prog 33))))], ⟨[(0, (.one (.str v0))), (3, (.one (.int .i64 v3)))], [], 8⟩⟩
theorem qJj (a0 : ByteArray) : qff a0 = (
if (decide ((Int.ofNat (ByteArray.size a0)) < (1 : Int))) = true then
some (false)
else
if (decide ((Int.ofNat (ByteArray.size a0)) > (40 : Int))) = true then
some (false)
else
qvc a0 (0 : Int)) := (FnI.call_eq (by kernel_rfl)).trans (by kernel_rfl)
theorem qLe (v0 : ByteArray) (v3 : Int) : qvc v0 v3 = (
if (decide (v3 < (Int.ofNat (ByteArray.size v0)))) = true then
gd (0 ≤ v3) <|
gd (v3 < (v0.size : Int)) <|
if (decide ((qJm v0 (Int.toNat v3)) < (33 : Int))) = true then
some (false)
else
gd (0 ≤ v3) <|
gd (v3 < (v0.size : Int)) <|
if (decide ((qJm v0 (Int.toNat v3)) > (126 : Int))) = true then
some (false)
else
qvc v0 (IntKind.wrap .i64 (v3 + (1 : Int)))
else
some (true)) := (FnI.sem_eq _).trans (by kernel_rfl)
noncomputable def qFk (acc : List AV → Bool) : Summ Tryz.prog GT := bitloftref28_Name_I.summ mixed acc false false
noncomputable def bitloftref28_Check_I : FnI Tryz.prog GT := { f := 16, cuts := [⟨(5, 3), [0, 3, 4], false, false, [], [], []⟩, ⟨(11, 3), [0, 5], false, false, [], [], []⟩, ⟨(16, 3), [0, 6], false, false, [], [], []⟩, ⟨(19, 7), [0, 6, 7], false, false, [], [], []⟩], tab := [qFk (fun _ => true)], fm := ⟨true, [.val (.int .i64) []]⟩ }
noncomputable def qYc (a0 : List qla) : Option (Int) := bitloftref28_Check_I.call [(.sl qka false a0)] []
noncomputable def qoc (v0 : List qla) (v3 : Int) (v4 : Int) : Option (Int) := bitloftref28_Check_I.sem ⟨[.code (cIn (cIn (qha (qPa (qha (qha (qha (qoa Tryz.prog 16)))))))), .inLoop (cIn (cIn (qha (qPa (qha (qha (qha (qoa Tryz.prog 16)))))))), .inBlock 0, .code (qha (qha (qha (qha (qoa Tryz.prog 16)))))], ⟨[(0, (.one (.sl qka false v0))), (3, (.one (.int .i64 v3))), (4, (.one (.int .i64 v4)))], [], 8⟩⟩
noncomputable def qFb (v0 : List qla) (v5 : Int) : Option (Int) := bitloftref28_Check_I.sem ⟨[.code (cIn (cIn (qha (qPa (qha (qha (qha (qha (qha (qoa Tryz.prog 16)))))))))), .inLoop (cIn (cIn (qha (qPa (qha (qha (qha (qha (qha (qoa Tryz.prog 16)))))))))), .inBlock 2, .code (qha (qha (qha (qha (qha (qha (qoa Tryz.prog 16)))))))], ⟨[(0, (.one (.sl qka false v0))), (5, (.one (.int .i64 v5)))], [], 8⟩⟩
noncomputable def qmb (v0 : List qla) (v6 : Int) : Option (Int) := bitloftref28_Check_I.sem ⟨[.code (cIn (cIn (qha (qPa (qha (qha (qha (qha (qha (qha (qoa Tryz.prog 16))))))))))), .inLoop (cIn (cIn (qha (qPa (qha (qha (qha (qha (qha (qha (qoa Tryz.prog 16))))))))))), .inBlock 4, .code (qha (qha (qha (qha (qha (qha (qha (qoa Tryz.prog 16))))))))], ⟨[(0, (.one (.sl qka false v0))), (6, (.one (.int .i64 v6)))], [], 8⟩⟩
noncomputable def qnc (v0 : List qla) (v6 : Int) (v7 : Int) : Option (Int) := bitloftref28_Check_I.sem ⟨[.code (cIn (cIn (qha (cIn (qPa (qha (cIn (cIn (qha (qPa (qha (qha (qha (qha (qha (qha (qoa Tryz.prog 16))))))))))))))))), .inLoop (cIn (cIn (qha (cIn (qPa (qha (cIn (cIn (qha (qPa (qha (qha (qha (qha (qha (qha (qoa Tryz.prog 16))))))))))))))))), .inBlock 6, .inBlock 5, .code (qha (qha (cIn (cIn (qha (qPa (qha (qha (qha (qha (qha (qha (qoa Tryz.prog 16))))))))))))), .inLoop (cIn (cIn (qha (qPa (qha (qha (qha (qha (qha (qha (qoa Tryz.prog 16))))))))))), .inBlock 4, .code (qha (qha (qha (qha (qha (qha (qha (qoa Tryz.prog 16))))))))], ⟨[(0, (.one (.sl qka false v0))), (6, (.one (.int .i64 v6))), (7, (.one (.int .i64 v7)))], [], 8⟩⟩
theorem qkj (a0 : List qla) : qYc a0 = (
if (decide ((Int.ofNat (List.length a0)) > (16 : Int))) = true then
some (4 : Int)
else
qoc a0 (0 : Int) (0 : Int)) := (FnI.call_eq (by kernel_rfl)).trans (by kernel_rfl)
theorem qme (v0 : List qla) (v3 : Int) (v4 : Int) : qoc v0 v3 v4 = (
if (decide (v4 < (Int.ofNat (List.length v0)))) = true then
gd (0 ≤ v4) <|
gd (v4 < (Int.ofNat (List.length v0))) <|
qoc v0 (IntKind.wrap .i64 (v3 + (Int.ofNat (List.length (List.getD v0 (Int.toNat v4) (qja qka)).2.1)))) (IntKind.wrap .i64 (v4 + (1 : Int)))
else
if (decide (v3 > (8192 : Int))) = true then
some (4 : Int)
else
qFb v0 (0 : Int)) := (FnI.sem_eq _).trans (by kernel_rfl)
theorem qle (v0 : List qla) (v5 : Int) : qFb v0 v5 = (
if (decide (v5 < (Int.ofNat (List.length v0)))) = true then
gd (0 ≤ v5) <|
gd (v5 < (Int.ofNat (List.length v0))) <|
(qff (List.getD v0 (Int.toNat v5) (qja qka)).1).bind fun r1 =>
if (not r1) = true then
some (8 : Int)
else
qFb v0 (IntKind.wrap .i64 (v5 + (1 : Int)))
else
qmb v0 (0 : Int)) := (FnI.sem_eq _).trans (by kernel_rfl)
theorem qke (v0 : List qla) (v6 : Int) : qmb v0 v6 = (
if (decide (v6 < (Int.ofNat (List.length v0)))) = true then
qnc v0 v6 (0 : Int)
else
some (0 : Int)) := (FnI.sem_eq _).trans (by kernel_rfl)
theorem qje (v0 : List qla) (v6 : Int) (v7 : Int) : qnc v0 v6 v7 = (
if (decide (v7 < v6)) = true then
gd (0 ≤ v7) <|
gd (v7 < (Int.ofNat (List.length v0))) <|
gd (0 ≤ v6) <|
gd (v6 < (Int.ofNat (List.length v0))) <|
if ((ByteArray.toList (List.getD v0 (Int.toNat v7) (qja qka)).1) == (ByteArray.toList (List.getD v0 (Int.toNat v6) (qja qka)).1)) = true then
some (14 : Int)
else
qnc v0 v6 (IntKind.wrap .i64 (v7 + (1 : Int)))
else
qmb v0 (IntKind.wrap .i64 (v6 + (1 : Int)))) := (FnI.sem_eq _).trans (by kernel_rfl)
noncomputable def qKj (acc : List AV → Bool) : Summ Tryz.prog GT := bitloftref28_Check_I.summ mixed acc false false
noncomputable def bitloftref01_Padding_I : FnI Tryz.prog GT := { f := 52, cuts := [⟨(2, 3), [0, 3], false, false, [], [], []⟩, ⟨(5, 3), [0, 3, 4], false, false, [], [], []⟩], tab := [], fm := ⟨true, [.val (.slice (.int .u8)) [.nw]]⟩ }
noncomputable def qKd (a0 : Int) : Option (List Int) := bitloftref01_Padding_I.call [(.int .i64 a0)] []
noncomputable def qUb (v0 : Int) (h8 : List Int) : Option (List Int) := bitloftref01_Padding_I.sem ⟨[.code (cIn (cIn (qPa (qha (qha (qoa Tryz.prog 52)))))), .inLoop (cIn (cIn (qPa (qha (qha (qoa Tryz.prog 52)))))), .inBlock 0, .code (qha (qha (qha (qoa Tryz.prog 52))))], ⟨[(0, (.one (.int .i64 v0))), (3, (.one (.ref (.int .u8) 8 0 (List.length h8) true)))], [(8, some (.row (.int .u8) true h8))], 9⟩⟩
noncomputable def qTb (v0 : Int) (v4 : Int) (h8 : List Int) : Option (List Int) := bitloftref01_Padding_I.sem ⟨[.code (cIn (cIn (qha (qPa (qha (qha (qha (qoa Tryz.prog 52)))))))), .inLoop (cIn (cIn (qha (qPa (qha (qha (qha (qoa Tryz.prog 52)))))))), .inBlock 2, .code (qha (qha (qha (qha (qoa Tryz.prog 52)))))], ⟨[(0, (.one (.int .i64 v0))), (3, (.one (.ref (.int .u8) 8 0 (List.length h8) true))), (4, (.one (.int .i64 v4)))], [(8, some (.row (.int .u8) true h8))], 9⟩⟩
theorem qgi (a0 : Int) : qKd a0 = (
qUb a0 [(128 : Int)]) := (FnI.call_eq (by kernel_rfl)).trans (by kernel_rfl)
theorem qEd (v0 : Int) (h8 : List Int) : qUb v0 h8 = (
gd ((64 : Int) ≠ 0) <|
if ((Int.tmod (IntKind.wrap .i64 ((IntKind.wrap .i64 (v0 + (Int.ofNat (List.length h8)))) + (8 : Int))) (64 : Int)) != (0 : Int)) = true then
gd ((List.length (h8 ++ [(0 : Int)])) * 1 ≤ 140737488355328) <|
qUb v0 (h8 ++ [(0 : Int)])
else
qTb v0 (7 : Int) h8) := (FnI.sem_eq _).trans (by kernel_rfl)
theorem qDd (v0 : Int) (v4 : Int) (h8 : List Int) : qTb v0 v4 h8 = (
if (decide (v4 ≥ (0 : Int))) = true then
gd (0 ≤ (IntKind.wrap .i64 ((8 : Int) * v4))) <|
gd ((List.length (h8 ++ [(IntKind.wrap .u8 (qnh .u64 (IntKind.wrap .u64 ((8 : Int) * (IntKind.wrap .u64 v0))) (IntKind.wrap .i64 ((8 : Int) * v4))))])) * 1 ≤ 140737488355328) <|
qTb v0 (IntKind.wrap .i64 (v4 - (1 : Int))) (h8 ++ [(IntKind.wrap .u8 (qnh .u64 (IntKind.wrap .u64 ((8 : Int) * (IntKind.wrap .u64 v0))) (IntKind.wrap .i64 ((8 : Int) * v4))))])
else
some (h8)) := (FnI.sem_eq _).trans (by kernel_rfl)
noncomputable def qvi (acc : List AV → Bool) : Summ Tryz.prog GT := bitloftref01_Padding_I.summ mixed acc false false
noncomputable def bitloftref01_First_I : FnI Tryz.prog GT := { f := 53, cuts := [], tab := [], fm := ⟨true, [.val (.arr 5 (.int .u32)) []]⟩ }
noncomputable def qZg : Option ((List Int)) := bitloftref01_First_I.call [] []
theorem qqj : qZg = (
some (List.set (List.set (List.set (List.set (List.set (List.replicate 5 (0 : Int)) 0 (1732584193 : Int)) 1 (4023233417 : Int)) 2 (2562383102 : Int)) 3 (271733878 : Int)) 4 (3285377520 : Int))) := (FnI.call_eq (by kernel_rfl)).trans (by kernel_rfl)
noncomputable def qSj (acc : List AV → Bool) : Summ Tryz.prog GT := bitloftref01_First_I.summ mixed acc false false
noncomputable def bitloftref01_turn_I : FnI Tryz.prog GT := { f := 87, cuts := [], tab := [], fm := ⟨true, [.val (.int .u32) []]⟩ }
noncomputable def qDc (a0 : Int) (a1 : Int) : Option (Int) := bitloftref01_turn_I.call [(.int .u32 a0), (.int .i64 a1)] []
theorem qQj (a0 : Int) (a1 : Int) : qDc a0 a1 = (
gd (0 ≤ a1) <|
gd (0 ≤ (IntKind.wrap .i64 ((32 : Int) - a1))) <|
some (qrc .u32 (IntKind.wrap .u32 (qDA .u32 a0 a1)) (qnh .u32 a0 (IntKind.wrap .i64 ((32 : Int) - a1))))) := (FnI.call_eq (by kernel_rfl)).trans (by kernel_rfl)
noncomputable def qHk (acc : List AV → Bool) : Summ Tryz.prog GT := bitloftref01_turn_I.summ mixed acc false false
noncomputable def bitloftref01_part_I : FnI Tryz.prog GT := { f := 88, cuts := [], tab := [], fm := ⟨true, [.val (.int .u32) [], .val (.int .u32) []]⟩ }
noncomputable def qgf (a0 : Int) (a1 : Int) (a2 : Int) (a3 : Int) : Option (Int × Int) := bitloftref01_part_I.call [(.int .i64 a0), (.int .u32 a1), (.int .u32 a2), (.int .u32 a3)] []
theorem qRj (a0 : Int) (a1 : Int) (a2 : Int) (a3 : Int) : qgf a0 a1 a2 a3 = (
if (decide (a0 < (20 : Int))) = true then
some ((qrc .u32 (qqb .u32 a1 a2) (qqb .u32 (qnb .u32 (4294967295 : Int) a1) a3)), (1518500249 : Int))
else
if (decide (a0 < (40 : Int))) = true then
some ((qnb .u32 (qnb .u32 a1 a2) a3), (1859775393 : Int))
else
if (decide (a0 < (60 : Int))) = true then
some ((qrc .u32 (qrc .u32 (qqb .u32 a1 a2) (qqb .u32 a1 a3)) (qqb .u32 a2 a3)), (2400959708 : Int))
else
some ((qnb .u32 (qnb .u32 a1 a2) a3), (3395469782 : Int))) := (FnI.call_eq (by kernel_rfl)).trans (by kernel_rfl)
noncomputable def qIk (acc : List AV → Bool) : Summ Tryz.prog GT := bitloftref01_part_I.summ mixed acc false false
noncomputable def bitloftref01_Done_I : FnI Tryz.prog GT := { f := 54, cuts := [⟨(3, 3), [1, 2, 4, 5, 6], false, false, [], [], []⟩, ⟨(7, 3), [2, 4, 5, 7], false, false, [], [], []⟩, ⟨(12, 3), [2, 4, 5, 8, 9], false, false, [], [], []⟩, ⟨(17, 3), [2, 4, 8, 12], false, false, [], [], []⟩], tab := [qHk (fun _ => true), qIk (fun _ => true)], fm := ⟨true, [.val (.arr 5 (.int .u32)) []]⟩ }
noncomputable def qif (a0 : (List Int)) (a1 : List Int) : Option ((List Int)) := bitloftref01_Done_I.call [(.agg (.arr 5 (.int .u32)) a0), (.sl (.int .u8) false a1)] []
noncomputable def qwc (v1 : List Int) (v6 : Int) (b8 : (List Int)) (b9 : (List Int)) (h10 : List Int) : Option ((List Int)) := bitloftref01_Done_I.sem ⟨[.code (cIn (cIn (qha (qPa (qha (qha (qoa Tryz.prog 54))))))), .inLoop (cIn (cIn (qha (qPa (qha (qha (qoa Tryz.prog 54))))))), .inBlock 0, .code (qha (qha (qha (qoa Tryz.prog 54))))], ⟨[(1, (.one (.sl (.int .u8) false v1))), (2, (.one (.ptr (.arr 5 (.int .u32)) 8 []))), (4, (.one (.ptr (.arr 5 (.int .u32)) 9 []))), (5, (.one (.ref (.int .u32) 10 0 (List.length h10) true))), (6, (.one (.int .i64 v6)))], [(8, some (.box (.arr 5 (.int .u32)) b8)), (9, some (.box (.arr 5 (.int .u32)) b9)), (10, some (.row (.int .u32) true h10))], 11⟩⟩
noncomputable def qQb (v7 : Int) (b8 : (List Int)) (b9 : (List Int)) (h10 : List Int) : Option ((List Int)) := bitloftref01_Done_I.sem ⟨[.code (cIn (cIn (qha (qPa (qha (qha (qha (qoa Tryz.prog 54)))))))), .inLoop (cIn (cIn (qha (qPa (qha (qha (qha (qoa Tryz.prog 54)))))))), .inBlock 2, .code (qha (qha (qha (qha (qoa Tryz.prog 54)))))], ⟨[(2, (.one (.ptr (.arr 5 (.int .u32)) 8 []))), (4, (.one (.ptr (.arr 5 (.int .u32)) 9 []))), (5, (.one (.ref (.int .u32) 10 0 (List.length h10) true))), (7, (.one (.int .i64 v7)))], [(8, some (.box (.arr 5 (.int .u32)) b8)), (9, some (.box (.arr 5 (.int .u32)) b9)), (10, some (.row (.int .u32) true h10))], 11⟩⟩
noncomputable def qPb (v9 : Int) (b8 : (List Int)) (b9 : (List Int)) (h10 : List Int) (b11 : (List Int)) : Option ((List Int)) := bitloftref01_Done_I.sem ⟨[.code (cIn (cIn (qha (qPa (qha (qha (qha (qha (qha (qoa Tryz.prog 54)))))))))), .inLoop (cIn (cIn (qha (qPa (qha (qha (qha (qha (qha (qoa Tryz.prog 54)))))))))), .inBlock 4, .code (qha (qha (qha (qha (qha (qha (qoa Tryz.prog 54)))))))], ⟨[(2, (.one (.ptr (.arr 5 (.int .u32)) 8 []))), (4, (.one (.ptr (.arr 5 (.int .u32)) 9 []))), (5, (.one (.ref (.int .u32) 10 0 (List.length h10) true))), (8, (.one (.ptr (.arr 5 (.int .u32)) 11 []))), (9, (.one (.int .i64 v9)))], [(8, some (.box (.arr 5 (.int .u32)) b8)), (9, some (.box (.arr 5 (.int .u32)) b9)), (10, some (.row (.int .u32) true h10)), (11, some (.box (.arr 5 (.int .u32)) b11))], 12⟩⟩
noncomputable def qOb (v12 : Int) (b8 : (List Int)) (b9 : (List Int)) (b10 : (List Int)) : Option ((List Int)) := bitloftref01_Done_I.sem ⟨[.code (cIn (cIn (qha (qPa (qha (qha (qha (qha (qha (qha (qoa Tryz.prog 54))))))))))), .inLoop (cIn (cIn (qha (qPa (qha (qha (qha (qha (qha (qha (qoa Tryz.prog 54))))))))))), .inBlock 6, .code (qha (qha (qha (qha (qha (qha (qha (qoa Tryz.prog 54))))))))], ⟨[(2, (.one (.ptr (.arr 5 (.int .u32)) 8 []))), (4, (.one (.ptr (.arr 5 (.int .u32)) 9 []))), (8, (.one (.ptr (.arr 5 (.int .u32)) 10 []))), (12, (.one (.int .i64 v12)))], [(8, some (.box (.arr 5 (.int .u32)) b8)), (9, some (.box (.arr 5 (.int .u32)) b9)), (10, some (.box (.arr 5 (.int .u32)) b10))], 11⟩⟩
theorem qTj (a0 : (List Int)) (a1 : List Int) : qif a0 a1 = (
qwc a1 (0 : Int) a0 (List.replicate 5 (0 : Int)) []) := (FnI.call_eq (by kernel_rfl)).trans (by kernel_rfl)
theorem qTe (v1 : List Int) (v6 : Int) (b8 : (List Int)) (b9 : (List Int)) (h10 : List Int) : qwc v1 v6 b8 b9 h10 = (
if (decide (v6 < (16 : Int))) = true then
gd (0 ≤ (IntKind.wrap .i64 ((4 : Int) * v6))) <|
gd ((IntKind.wrap .i64 ((4 : Int) * v6)) < (Int.ofNat (List.length v1))) <|
gd (0 ≤ (IntKind.wrap .i64 ((IntKind.wrap .i64 ((4 : Int) * v6)) + (1 : Int)))) <|
gd ((IntKind.wrap .i64 ((IntKind.wrap .i64 ((4 : Int) * v6)) + (1 : Int))) < (Int.ofNat (List.length v1))) <|
gd (0 ≤ (IntKind.wrap .i64 ((IntKind.wrap .i64 ((4 : Int) * v6)) + (2 : Int)))) <|
gd ((IntKind.wrap .i64 ((IntKind.wrap .i64 ((4 : Int) * v6)) + (2 : Int))) < (Int.ofNat (List.length v1))) <|
gd (0 ≤ (IntKind.wrap .i64 ((IntKind.wrap .i64 ((4 : Int) * v6)) + (3 : Int)))) <|
gd ((IntKind.wrap .i64 ((IntKind.wrap .i64 ((4 : Int) * v6)) + (3 : Int))) < (Int.ofNat (List.length v1))) <|
gd ((List.length (h10 ++ [(IntKind.wrap .u32 ((IntKind.wrap .u32 ((IntKind.wrap .u32 ((IntKind.wrap .u32 ((IntKind.wrap .u32 ((IntKind.wrap .u32 ((IntKind.wrap .u32 (List.getD v1 (Int.toNat (IntKind.wrap .i64 ((4 : Int) * v6))) (0 : Int))) * (256 : Int))) + (IntKind.wrap .u32 (List.getD v1 (Int.toNat (IntKind.wrap .i64 ((IntKind.wrap .i64 ((4 : Int) * v6)) + (1 : Int)))) (0 : Int))))) * (256 : Int))) + (IntKind.wrap .u32 (List.getD v1 (Int.toNat (IntKind.wrap .i64 ((IntKind.wrap .i64 ((4 : Int) * v6)) + (2 : Int)))) (0 : Int))))) * (256 : Int))) + (IntKind.wrap .u32 (List.getD v1 (Int.toNat (IntKind.wrap .i64 ((IntKind.wrap .i64 ((4 : Int) * v6)) + (3 : Int)))) (0 : Int)))))])) * 4 ≤ 140737488355328) <|
qwc v1 (IntKind.wrap .i64 (v6 + (1 : Int))) b8 b9 (h10 ++ [(IntKind.wrap .u32 ((IntKind.wrap .u32 ((IntKind.wrap .u32 ((IntKind.wrap .u32 ((IntKind.wrap .u32 ((IntKind.wrap .u32 ((IntKind.wrap .u32 (List.getD v1 (Int.toNat (IntKind.wrap .i64 ((4 : Int) * v6))) (0 : Int))) * (256 : Int))) + (IntKind.wrap .u32 (List.getD v1 (Int.toNat (IntKind.wrap .i64 ((IntKind.wrap .i64 ((4 : Int) * v6)) + (1 : Int)))) (0 : Int))))) * (256 : Int))) + (IntKind.wrap .u32 (List.getD v1 (Int.toNat (IntKind.wrap .i64 ((IntKind.wrap .i64 ((4 : Int) * v6)) + (2 : Int)))) (0 : Int))))) * (256 : Int))) + (IntKind.wrap .u32 (List.getD v1 (Int.toNat (IntKind.wrap .i64 ((IntKind.wrap .i64 ((4 : Int) * v6)) + (3 : Int)))) (0 : Int)))))])
else
qQb (16 : Int) b8 b9 h10) := (FnI.sem_eq _).trans (by kernel_rfl)
theorem qSe (v7 : Int) (b8 : (List Int)) (b9 : (List Int)) (h10 : List Int) : qQb v7 b8 b9 h10 = (
if (decide (v7 < (80 : Int))) = true then
gd (0 ≤ (IntKind.wrap .i64 (v7 - (3 : Int)))) <|
gd ((IntKind.wrap .i64 (v7 - (3 : Int))) < (Int.ofNat (List.length h10))) <|
gd (0 ≤ (IntKind.wrap .i64 (v7 - (8 : Int)))) <|
gd ((IntKind.wrap .i64 (v7 - (8 : Int))) < (Int.ofNat (List.length h10))) <|
gd (0 ≤ (IntKind.wrap .i64 (v7 - (14 : Int)))) <|
gd ((IntKind.wrap .i64 (v7 - (14 : Int))) < (Int.ofNat (List.length h10))) <|
gd (0 ≤ (IntKind.wrap .i64 (v7 - (16 : Int)))) <|
gd ((IntKind.wrap .i64 (v7 - (16 : Int))) < (Int.ofNat (List.length h10))) <|
(qDc (qnb .u32 (qnb .u32 (qnb .u32 (List.getD h10 (0 + (Int.toNat (IntKind.wrap .i64 (v7 - (3 : Int))))) (0 : Int)) (List.getD h10 (0 + (Int.toNat (IntKind.wrap .i64 (v7 - (8 : Int))))) (0 : Int))) (List.getD h10 (0 + (Int.toNat (IntKind.wrap .i64 (v7 - (14 : Int))))) (0 : Int))) (List.getD h10 (0 + (Int.toNat (IntKind.wrap .i64 (v7 - (16 : Int))))) (0 : Int))) (1 : Int)).bind fun r1 =>
gd ((List.length (h10 ++ [r1])) * 4 ≤ 140737488355328) <|
qQb (IntKind.wrap .i64 (v7 + (1 : Int))) b8 b9 (h10 ++ [r1])
else
qPb (0 : Int) b8 b9 h10 b8) := (FnI.sem_eq _).trans (by kernel_rfl)
theorem qRe (v9 : Int) (b8 : (List Int)) (b9 : (List Int)) (h10 : List Int) (b11 : (List Int)) : qPb v9 b8 b9 h10 b11 = (
if (decide (v9 < (80 : Int))) = true then
gd (0 ≤ (1 : Int)) <|
gd ((1 : Int) < (5 : Int)) <|
gd (0 ≤ (2 : Int)) <|
gd ((2 : Int) < (5 : Int)) <|
gd (0 ≤ (3 : Int)) <|
gd ((3 : Int) < (5 : Int)) <|
(qgf v9 (List.getD b11 1 (0 : Int)) (List.getD b11 2 (0 : Int)) (List.getD b11 3 (0 : Int))).bind fun r2 =>
gd (0 ≤ (0 : Int)) <|
gd ((0 : Int) < (5 : Int)) <|
(qDc (List.getD b11 0 (0 : Int)) (5 : Int)).bind fun r3 =>
gd (0 ≤ (4 : Int)) <|
gd ((4 : Int) < (5 : Int)) <|
gd (0 ≤ v9) <|
gd (v9 < (Int.ofNat (List.length h10))) <|
gd (0 ≤ (0 : Int)) <|
gd ((0 : Int) < (5 : Int)) <|
gd (0 ≤ (1 : Int)) <|
gd ((1 : Int) < (5 : Int)) <|
(qDc (List.getD b11 1 (0 : Int)) (30 : Int)).bind fun r4 =>
gd (0 ≤ (2 : Int)) <|
gd ((2 : Int) < (5 : Int)) <|
gd (0 ≤ (3 : Int)) <|
gd ((3 : Int) < (5 : Int)) <|
qPb (IntKind.wrap .i64 (v9 + (1 : Int))) b8 b9 h10 (List.set (List.set (List.set (List.set (List.set (List.replicate 5 (0 : Int)) 0 (IntKind.wrap .u32 ((IntKind.wrap .u32 ((IntKind.wrap .u32 ((IntKind.wrap .u32 (r3 + r2.1)) + (List.getD b11 4 (0 : Int)))) + r2.2)) + (List.getD h10 (0 + (Int.toNat v9)) (0 : Int))))) 1 (List.getD b11 0 (0 : Int))) 2 r4) 3 (List.getD b11 2 (0 : Int))) 4 (List.getD b11 3 (0 : Int)))
else
qOb (0 : Int) b8 b9 b11) := (FnI.sem_eq _).trans (by kernel_rfl)
theorem qZa (v12 : Int) (b8 : (List Int)) (b9 : (List Int)) (b10 : (List Int)) : qOb v12 b8 b9 b10 = (
if (decide (v12 < (5 : Int))) = true then
gd (0 ≤ v12) <|
gd (v12 < (5 : Int)) <|
gd (0 ≤ v12) <|
gd (v12 < (5 : Int)) <|
gd (0 ≤ v12) <|
gd (v12 < (5 : Int)) <|
qOb (IntKind.wrap .i64 (v12 + (1 : Int))) (List.set b8 (Int.toNat v12) (IntKind.wrap .u32 ((List.getD b8 (Int.toNat v12) (0 : Int)) + (List.getD b10 (Int.toNat v12) (0 : Int))))) b9 b10
else
some (b8)) := (FnI.sem_eq _).trans (by kernel_rfl)
noncomputable def qJk (acc : List AV → Bool) : Summ Tryz.prog GT := bitloftref01_Done_I.summ mixed acc false false
noncomputable def bitloftref01_Of_I : FnI Tryz.prog GT := { f := 31, cuts := [⟨(4, 3), [2, 3, 4, 5], false, false, [], [], []⟩, ⟨(9, 3), [2, 4, 6, 7], false, false, [], [], []⟩], tab := [qvi (fun _ => true), qSj (fun _ => true), qJk (fun _ => true)], fm := ⟨true, [.val (.arr 20 (.int .u8)) []]⟩ }
noncomputable def qud (a0 : List Int) : Option ((List Int)) := bitloftref01_Of_I.call [(.sl (.int .u8) false a0)] []
noncomputable def qbd (v5 : Int) (b8 : (List Int)) (h9 : List Int) (b10 : (List Int)) : Option ((List Int)) := bitloftref01_Of_I.sem ⟨[.code (cIn (cIn (qha (qPa (qha (qha (qha (qoa Tryz.prog 31)))))))), .inLoop (cIn (cIn (qha (qPa (qha (qha (qha (qoa Tryz.prog 31)))))))), .inBlock 0, .code (qha (qha (qha (qha (qoa Tryz.prog 31)))))], ⟨[(2, (.one (.ptr (.arr 20 (.int .u8)) 8 []))), (3, (.one (.ref (.int .u8) 9 0 (List.length h9) true))), (4, (.one (.ptr (.arr 5 (.int .u32)) 10 []))), (5, (.one (.int .i64 v5)))], [(8, some (.box (.arr 20 (.int .u8)) b8)), (9, some (.row (.int .u8) true h9)), (10, some (.box (.arr 5 (.int .u32)) b10))], 11⟩⟩
noncomputable def qad (v7 : Int) (b8 : (List Int)) (b9 : (List Int)) (b10 : (List Int)) : Option ((List Int)) := bitloftref01_Of_I.sem ⟨[.code (cIn (cIn (qha (qPa (qha (qha (qha (qha (qha (qoa Tryz.prog 31)))))))))), .inLoop (cIn (cIn (qha (qPa (qha (qha (qha (qha (qha (qoa Tryz.prog 31)))))))))), .inBlock 2, .code (qha (qha (qha (qha (qha (qha (qoa Tryz.prog 31)))))))], ⟨[(2, (.one (.ptr (.arr 20 (.int .u8)) 8 []))), (4, (.one (.ptr (.arr 5 (.int .u32)) 9 []))), (6, (.one (.ptr (.arr 20 (.int .u8)) 10 []))), (7, (.one (.int .i64 v7)))], [(8, some (.box (.arr 20 (.int .u8)) b8)), (9, some (.box (.arr 5 (.int .u32)) b9)), (10, some (.box (.arr 20 (.int .u8)) b10))], 11⟩⟩
theorem qAl (a0 : List Int) : qud a0 = (
gd ((List.length ([] ++ a0)) * 1 ≤ 140737488355328) <|
(qKd (Int.ofNat (List.length a0))).bind fun r1 =>
gd ((List.length (([] ++ a0) ++ r1)) * 1 ≤ 140737488355328) <|
(qZg).bind fun r2 =>
qbd (0 : Int) (List.replicate 20 (0 : Int)) (([] ++ a0) ++ r1) r2) := (FnI.call_eq (by kernel_rfl)).trans (by kernel_rfl)
theorem qHf (v5 : Int) (b8 : (List Int)) (h9 : List Int) (b10 : (List Int)) : qbd v5 b8 h9 b10 = (
if (decide (v5 < (Int.ofNat (List.length h9)))) = true then
gd (0 ≤ v5) <|
gd (v5 ≤ (IntKind.wrap .i64 (v5 + (64 : Int)))) <|
gd ((IntKind.wrap .i64 (v5 + (64 : Int))) ≤ (Int.ofNat (List.length h9))) <|
(qif b10 (List.take ((Int.toNat (IntKind.wrap .i64 (v5 + (64 : Int)))) - (Int.toNat v5)) (List.drop (0 + (Int.toNat v5)) h9))).bind fun r3 =>
qbd (IntKind.wrap .i64 (v5 + (64 : Int))) b8 h9 r3
else
qad (0 : Int) b8 b10 (List.replicate 20 (0 : Int))) := (FnI.sem_eq _).trans (by kernel_rfl)
theorem qGf (v7 : Int) (b8 : (List Int)) (b9 : (List Int)) (b10 : (List Int)) : qad v7 b8 b9 b10 = (
if (decide (v7 < (20 : Int))) = true then
gd ((4 : Int) ≠ 0) <|
gd (0 ≤ (IntKind.wrap .i64 (Int.tdiv v7 (4 : Int)))) <|
gd ((IntKind.wrap .i64 (Int.tdiv v7 (4 : Int))) < (5 : Int)) <|
gd ((4 : Int) ≠ 0) <|
gd (0 ≤ (IntKind.wrap .i64 ((24 : Int) - (IntKind.wrap .i64 ((8 : Int) * (Int.tmod v7 (4 : Int))))))) <|
gd (0 ≤ v7) <|
gd (v7 < (20 : Int)) <|
qad (IntKind.wrap .i64 (v7 + (1 : Int))) b8 b9 (List.set b10 (Int.toNat v7) (IntKind.wrap .u8 (qnh .u32 (List.getD b9 (Int.toNat (IntKind.wrap .i64 (Int.tdiv v7 (4 : Int)))) (0 : Int)) (IntKind.wrap .i64 ((24 : Int) - (IntKind.wrap .i64 ((8 : Int) * (Int.tmod v7 (4 : Int)))))))))
else
some (b10)) := (FnI.sem_eq _).trans (by kernel_rfl)
noncomputable def qhf (acc : List AV → Bool) : Summ Tryz.prog GT := bitloftref01_Of_I.summ mixed acc false false
noncomputable def bitloftref28_record_I : FnI Tryz.prog GT := { f := 26, cuts := [], tab := [qhf (fun _ => true)], fm := ⟨true, [.val qba []]⟩ }
noncomputable def qde (a0 : qla) : Option (qaa) := bitloftref28_record_I.call [(.agg qka (inj false qka a0))] []
theorem qui (a0 : qla) : qde a0 = (
(qud a0.2.1).bind fun r1 =>
some (a0.1, ((Int.ofNat (List.length a0.2.1)), (r1, ())))) := (FnI.call_eq (by kernel_rfl)).trans (by kernel_rfl)
noncomputable def qjj (acc : List AV → Bool) : Summ Tryz.prog GT := bitloftref28_record_I.summ mixed acc false false
noncomputable def bitloftref28_Of_I : FnI Tryz.prog GT := { f := 9, cuts := [⟨(5, 3), [0, 4, 5], false, false, [], [], []⟩], tab := [qKj (fun _ => true), qjj (fun _ => true)], fm := ⟨true, [.val (.slice qba) [.nw], .val (.int .i64) []]⟩ }
noncomputable def qtd (a0 : List qla) : Option (List qaa × Int) := bitloftref28_Of_I.call [(.sl qka false a0)] []
noncomputable def qXc (v0 : List qla) (v5 : Int) (h8 : List qaa) : Option (List qaa × Int) := bitloftref28_Of_I.sem ⟨[.code (cIn (cIn (qha (qPa (qha (qha (qha (qoa Tryz.prog 9)))))))), .inLoop (cIn (cIn (qha (qPa (qha (qha (qha (qoa Tryz.prog 9)))))))), .inBlock 0, .code (qha (qha (qha (qha (qoa Tryz.prog 9)))))], ⟨[(0, (.one (.sl qka false v0))), (4, (.one (.ref qba 8 0 (List.length h8) true))), (5, (.one (.int .i64 v5)))], [(8, some (.row qba true h8))], 9⟩⟩
theorem qxl (a0 : List qla) : qtd a0 = (
(qYc a0).bind fun r1 =>
if (r1 != (0 : Int)) = true then
(qYc a0).bind fun r2 =>
some ([], r2)
else
qXc a0 (0 : Int) []) := (FnI.call_eq (by kernel_rfl)).trans (by kernel_rfl)
theorem qFf (v0 : List qla) (v5 : Int) (h8 : List qaa) : qXc v0 v5 h8 = (
if (decide (v5 < (Int.ofNat (List.length v0)))) = true then
gd (0 ≤ v5) <|
gd (v5 < (Int.ofNat (List.length v0))) <|
(qde (List.getD v0 (Int.toNat v5) (qja qka))).bind fun r3 =>
gd ((List.length (h8 ++ [r3])) * 48 ≤ 140737488355328) <|
qXc v0 (IntKind.wrap .i64 (v5 + (1 : Int))) (h8 ++ [r3])
else
some (h8, (0 : Int))) := (FnI.sem_eq _).trans (by kernel_rfl)
noncomputable def qFh (acc : List AV → Bool) : Summ Tryz.prog GT := bitloftref28_Of_I.summ mixed acc false false
noncomputable def bitloftref30_Front_I : FnI Tryz.prog GT := { f := 29, cuts := [], tab := [], fm := ⟨true, [.val (.slice (.int .u8)) [.nw]]⟩ }
noncomputable def qYg (a0 : qpa) (a1 : Int) : Option (List Int) := bitloftref30_Front_I.call [(.agg qDa (inj false qDa a0)), (.int .i64 a1)] []
theorem qhj (a0 : qpa) (a1 : Int) : qYg a0 a1 = (
gd (0 ≤ (8 : Int)) <|
some ([(66 : Int), (76 : Int), (70 : Int), (1 : Int), (IntKind.wrap .u8 a0.1), (IntKind.wrap .u8 (Int.fdiv a0.2.1 (256 : Int))), (IntKind.wrap .u8 a0.2.1), (IntKind.wrap .u8 a1)])) := (FnI.call_eq (by kernel_rfl)).trans (by kernel_rfl)
noncomputable def qIj (acc : List AV → Bool) : Summ Tryz.prog GT := bitloftref30_Front_I.summ mixed acc false false
noncomputable def bitloftref28_Bytes_I : FnI Tryz.prog GT := { f := 30, cuts := [⟨(3, 3), [0, 3, 4], false, false, [], [], []⟩], tab := [], fm := ⟨true, [.val (.slice (.int .u8)) [.nw]]⟩ }
noncomputable def qMe (a0 : List qaa) : Option (List Int) := bitloftref28_Bytes_I.call [(.sl qba false a0)] []
noncomputable def qpc (v0 : List qaa) (v4 : Int) (h8 : List Int) : Option (List Int) := bitloftref28_Bytes_I.sem ⟨[.code (cIn (cIn (qha (qPa (qha (qha (qoa Tryz.prog 30))))))), .inLoop (cIn (cIn (qha (qPa (qha (qha (qoa Tryz.prog 30))))))), .inBlock 0, .code (qha (qha (qha (qoa Tryz.prog 30))))], ⟨[(0, (.one (.sl qba false v0))), (3, (.one (.ref (.int .u8) 8 0 (List.length h8) true))), (4, (.one (.int .i64 v4)))], [(8, some (.row (.int .u8) true h8))], 9⟩⟩
theorem qlj (a0 : List qaa) : qMe a0 = (
qpc a0 (0 : Int) []) := (FnI.call_eq (by kernel_rfl)).trans (by kernel_rfl)
theorem qne (v0 : List qaa) (v4 : Int) (h8 : List Int) : qpc v0 v4 h8 = (
if (decide (v4 < (Int.ofNat (List.length v0)))) = true then
gd (0 ≤ v4) <|
gd (v4 < (Int.ofNat (List.length v0))) <|
gd ((List.length (h8 ++ [(IntKind.wrap .u8 (Int.ofNat (ByteArray.size (List.getD v0 (Int.toNat v4) (qja qba)).1)))])) * 1 ≤ 140737488355328) <|
gd ((List.length ((h8 ++ [(IntKind.wrap .u8 (Int.ofNat (ByteArray.size (List.getD v0 (Int.toNat v4) (qja qba)).1)))]) ++ (qDb (List.getD v0 (Int.toNat v4) (qja qba)).1))) * 1 ≤ 140737488355328) <|
gd (0 ≤ (8 : Int)) <|
gd ((List.length (((h8 ++ [(IntKind.wrap .u8 (Int.ofNat (ByteArray.size (List.getD v0 (Int.toNat v4) (qja qba)).1)))]) ++ (qDb (List.getD v0 (Int.toNat v4) (qja qba)).1)) ++ [(IntKind.wrap .u8 (Int.fdiv (List.getD v0 (Int.toNat v4) (qja qba)).2.1 (256 : Int))), (IntKind.wrap .u8 (List.getD v0 (Int.toNat v4) (qja qba)).2.1)])) * 1 ≤ 140737488355328) <|
gd ((List.length ((((h8 ++ [(IntKind.wrap .u8 (Int.ofNat (ByteArray.size (List.getD v0 (Int.toNat v4) (qja qba)).1)))]) ++ (qDb (List.getD v0 (Int.toNat v4) (qja qba)).1)) ++ [(IntKind.wrap .u8 (Int.fdiv (List.getD v0 (Int.toNat v4) (qja qba)).2.1 (256 : Int))), (IntKind.wrap .u8 (List.getD v0 (Int.toNat v4) (qja qba)).2.1)]) ++ (List.take 20 (List.drop 0 (List.getD v0 (Int.toNat v4) (qja qba)).2.2.1)))) * 1 ≤ 140737488355328) <|
qpc v0 (IntKind.wrap .i64 (v4 + (1 : Int))) ((((h8 ++ [(IntKind.wrap .u8 (Int.ofNat (ByteArray.size (List.getD v0 (Int.toNat v4) (qja qba)).1)))]) ++ (qDb (List.getD v0 (Int.toNat v4) (qja qba)).1)) ++ [(IntKind.wrap .u8 (Int.fdiv (List.getD v0 (Int.toNat v4) (qja qba)).2.1 (256 : Int))), (IntKind.wrap .u8 (List.getD v0 (Int.toNat v4) (qja qba)).2.1)]) ++ (List.take 20 (List.drop 0 (List.getD v0 (Int.toNat v4) (qja qba)).2.2.1)))
else
some (h8)) := (FnI.sem_eq _).trans (by kernel_rfl)
noncomputable def qLj (acc : List AV → Bool) : Summ Tryz.prog GT := bitloftref28_Bytes_I.summ mixed acc false false
noncomputable def bitloftref30_Bytes_I : FnI Tryz.prog GT := { f := 12, cuts := [], tab := [qIj (fun _ => true), qLj (fun _ => true), qhf (fun _ => true)], fm := ⟨true, [.val (.slice (.int .u8)) [.nw]]⟩ }
noncomputable def qKb (a0 : qpa) (a1 : List qaa) : Option (List Int) := bitloftref30_Bytes_I.call [(.agg qDa (inj false qDa a0)), (.sl qba false a1)] []
theorem qij (a0 : qpa) (a1 : List qaa) : qKb a0 a1 = (
(qYg a0 (Int.ofNat (List.length a1))).bind fun r1 =>
(qMe a1).bind fun r2 =>
gd ((List.length (r1 ++ r2)) * 1 ≤ 140737488355328) <|
(qud (r1 ++ r2)).bind fun r3 =>
gd ((List.length ((r1 ++ r2) ++ (List.take 20 (List.drop 0 r3)))) * 1 ≤ 140737488355328) <|
some ((r1 ++ r2) ++ (List.take 20 (List.drop 0 r3)))) := (FnI.call_eq (by kernel_rfl)).trans (by kernel_rfl)
noncomputable def qQf (acc : List AV → Bool) : Summ Tryz.prog GT := bitloftref30_Bytes_I.summ mixed acc false false
noncomputable def bitloftref25_Bytes_I : FnI Tryz.prog GT := { f := 50, cuts := [], tab := [], fm := ⟨true, [.val (.slice (.int .u8)) [.nw]]⟩ }
noncomputable def qQe : Option (List Int) := bitloftref25_Bytes_I.call [] []
theorem qpj : qQe = (
some ([(183 : Int), (98 : Int), (105 : Int), (116 : Int), (108 : Int), (111 : Int), (102 : Int), (116 : Int), (32 : Int), (98 : Int), (108 : Int), (107 : Int), (10 : Int)])) := (FnI.call_eq (by kernel_rfl)).trans (by kernel_rfl)
noncomputable def qPj (acc : List AV → Bool) : Summ Tryz.prog GT := bitloftref25_Bytes_I.summ mixed acc false false
noncomputable def bitloftref26_two_I : FnI Tryz.prog GT := { f := 86, cuts := [], tab := [], fm := ⟨true, [.val (.slice (.int .u8)) [.nw]]⟩ }
noncomputable def qXd (a0 : Int) : Option (List Int) := bitloftref26_two_I.call [(.int .i64 a0)] []
theorem qGk (a0 : Int) : qXd a0 = (
gd (0 ≤ (8 : Int)) <|
some ([(IntKind.wrap .u8 (Int.fdiv a0 (256 : Int))), (IntKind.wrap .u8 a0)])) := (FnI.call_eq (by kernel_rfl)).trans (by kernel_rfl)
noncomputable def qyl (acc : List AV → Bool) : Summ Tryz.prog GT := bitloftref26_two_I.summ mixed acc false false
noncomputable def bitloftref26_Front_I : FnI Tryz.prog GT := { f := 49, cuts := [], tab := [qyl (fun _ => true)], fm := ⟨true, [.val (.slice (.int .u8)) [.nw]]⟩ }
noncomputable def qZc (a0 : qga) : Option (List Int) := bitloftref26_Front_I.call [(.agg qta (inj false qta a0))] []
theorem qnj (a0 : qga) : qZc a0 = (
(qXd a0.2.2.1).bind fun r1 =>
gd ((List.length ([a0.1, (IntKind.wrap .u8 a0.2.1)] ++ r1)) * 1 ≤ 140737488355328) <|
(qXd a0.2.2.2.1).bind fun r2 =>
gd ((List.length (([a0.1, (IntKind.wrap .u8 a0.2.1)] ++ r1) ++ r2)) * 1 ≤ 140737488355328) <|
(qXd a0.2.2.2.2.1).bind fun r3 =>
gd ((List.length ((([a0.1, (IntKind.wrap .u8 a0.2.1)] ++ r1) ++ r2) ++ r3)) * 1 ≤ 140737488355328) <|
some ((([a0.1, (IntKind.wrap .u8 a0.2.1)] ++ r1) ++ r2) ++ r3)) := (FnI.call_eq (by kernel_rfl)).trans (by kernel_rfl)
noncomputable def qRf (acc : List AV → Bool) : Summ Tryz.prog GT := bitloftref26_Front_I.summ mixed acc false false
noncomputable def bitloftref26_Bytes_I : FnI Tryz.prog GT := { f := 51, cuts := [], tab := [qRf (fun _ => true)], fm := ⟨true, [.val (.slice (.int .u8)) [.nw]]⟩ }
noncomputable def qPe (a0 : qga) : Option (List Int) := bitloftref26_Bytes_I.call [(.agg qta (inj false qta a0))] []
theorem qoj (a0 : qga) : qPe a0 = (
(qZc a0).bind fun r1 =>
gd ((List.length (r1 ++ (List.take 20 (List.drop 0 a0.2.2.2.2.2.1)))) * 1 ≤ 140737488355328) <|
some (r1 ++ (List.take 20 (List.drop 0 a0.2.2.2.2.2.1)))) := (FnI.call_eq (by kernel_rfl)).trans (by kernel_rfl)
noncomputable def qOj (acc : List AV → Bool) : Summ Tryz.prog GT := bitloftref26_Bytes_I.summ mixed acc false false
noncomputable def bitloftref27_Bytes_I : FnI Tryz.prog GT := { f := 28, cuts := [], tab := [qPj (fun _ => true), qOj (fun _ => true)], fm := ⟨true, [.val (.slice (.int .u8)) [.nw]]⟩ }
noncomputable def qNe (a0 : qca) : Option (List Int) := bitloftref27_Bytes_I.call [(.agg qna (inj false qna a0))] []
theorem qmj (a0 : qca) : qNe a0 = (
(qQe).bind fun r1 =>
(qPe a0.1).bind fun r2 =>
gd ((List.length (r1 ++ r2)) * 1 ≤ 140737488355328) <|
gd ((List.length ((r1 ++ r2) ++ a0.2.1)) * 1 ≤ 140737488355328) <|
some ((r1 ++ r2) ++ a0.2.1)) := (FnI.call_eq (by kernel_rfl)).trans (by kernel_rfl)
noncomputable def qNj (acc : List AV → Bool) : Summ Tryz.prog GT := bitloftref27_Bytes_I.summ mixed acc false false
noncomputable def bitloftref30_Join_I : FnI Tryz.prog GT := { f := 11, cuts := [⟨(3, 3), [1, 5, 6], false, false, [], [], []⟩], tab := [qNj (fun _ => true)], fm := ⟨true, [.val (.slice (.int .u8)) [.nw]]⟩ }
noncomputable def qXb (a0 : List Int) (a1 : List qca) : Option (List Int) := bitloftref30_Join_I.call [(.sl (.int .u8) false a0), (.sl qna false a1)] []
noncomputable def quc (v1 : List qca) (v6 : Int) (h8 : List Int) : Option (List Int) := bitloftref30_Join_I.sem ⟨[.code (cIn (cIn (qha (qPa (qha (qha (qoa Tryz.prog 11))))))), .inLoop (cIn (cIn (qha (qPa (qha (qha (qoa Tryz.prog 11))))))), .inBlock 0, .code (qha (qha (qha (qoa Tryz.prog 11))))], ⟨[(1, (.one (.sl qna false v1))), (5, (.one (.ref (.int .u8) 8 0 (List.length h8) true))), (6, (.one (.int .i64 v6)))], [(8, some (.row (.int .u8) true h8))], 9⟩⟩
theorem qPf (a0 : List Int) (a1 : List qca) : qXb a0 a1 = (
gd ((List.length ([] ++ a0)) * 1 ≤ 140737488355328) <|
quc a1 (0 : Int) ([] ++ a0)) := (FnI.call_eq (by kernel_rfl)).trans (by kernel_rfl)
theorem qKe (v1 : List qca) (v6 : Int) (h8 : List Int) : quc v1 v6 h8 = (
if (decide (v6 < (Int.ofNat (List.length v1)))) = true then
gd (0 ≤ v6) <|
gd (v6 < (Int.ofNat (List.length v1))) <|
(qNe (List.getD v1 (Int.toNat v6) (qja qna))).bind fun r1 =>
gd ((List.length (h8 ++ r1)) * 1 ≤ 140737488355328) <|
quc v1 (IntKind.wrap .i64 (v6 + (1 : Int))) (h8 ++ r1)
else
some (h8)) := (FnI.sem_eq _).trans (by kernel_rfl)
noncomputable def qwg (acc : List AV → Bool) : Summ Tryz.prog GT := bitloftref30_Join_I.summ mixed acc false false
noncomputable def bitloftref26_Of_I : FnI Tryz.prog GT := { f := 27, cuts := [], tab := [qRf (fun _ => true), qhf (fun _ => true)], fm := ⟨true, [.val (.arr 20 (.int .u8)) []]⟩ }
noncomputable def qOe (a0 : qga) (a1 : List Int) : Option ((List Int)) := bitloftref26_Of_I.call [(.agg qta (inj false qta a0)), (.sl (.int .u8) false a1)] []
theorem qzl (a0 : qga) (a1 : List Int) : qOe a0 a1 = (
(qZc a0).bind fun r1 =>
gd ((List.length (r1 ++ a1)) * 1 ≤ 140737488355328) <|
(qud (r1 ++ a1)).bind fun r2 =>
some (r2)) := (FnI.call_eq (by kernel_rfl)).trans (by kernel_rfl)
noncomputable def qpm (acc : List AV → Bool) : Summ Tryz.prog GT := bitloftref26_Of_I.summ mixed acc false false
noncomputable def bitloftref27_Made_I : FnI Tryz.prog GT := { f := 10, cuts := [], tab := [qpm (fun _ => true)], fm := ⟨true, [.val qna []]⟩ }
noncomputable def qBd (a0 : Int) (a1 : Int) (a2 : List Int) (a3 : List Int) : Option (qca) := bitloftref27_Made_I.call [(.int .i64 a0), (.int .i64 a1), (.sl (.int .u8) false a2), (.sl (.int .u8) false a3)] []
theorem qMj (a0 : Int) (a1 : Int) (a2 : List Int) (a3 : List Int) : qBd a0 a1 a2 a3 = (
gd ((List.length ([] ++ a2)) * 1 ≤ 140737488355328) <|
if (decide ((Int.ofNat (List.length a3)) < (Int.ofNat (List.length a2)))) = true then
gd ((List.length ([] ++ a3)) * 1 ≤ 140737488355328) <|
(qOe ((2 : Int), (a0, (a1, ((Int.ofNat (List.length a2)), ((Int.ofNat (List.length a3)), ((List.replicate 20 (0 : Int)), ())))))) a2).bind fun r1 =>
some (((2 : Int), (a0, (a1, ((Int.ofNat (List.length a2)), ((Int.ofNat (List.length a3)), (r1, ())))))), (([] ++ a3), ()))
else
(qOe ((1 : Int), (a0, (a1, ((Int.ofNat (List.length a2)), ((Int.ofNat (List.length a2)), ((List.replicate 20 (0 : Int)), ())))))) a2).bind fun r2 =>
some (((1 : Int), (a0, (a1, ((Int.ofNat (List.length a2)), ((Int.ofNat (List.length a2)), (r2, ())))))), (([] ++ a2), ()))) := (FnI.call_eq (by kernel_rfl)).trans (by kernel_rfl)
noncomputable def qyg (acc : List AV → Bool) : Summ Tryz.prog GT := bitloftref27_Made_I.summ mixed acc false false
noncomputable def bitloftlaw32_stored_I : FnI Tryz.prog GT := { f := 8, cuts := [⟨(4, 3), [0, 3, 5, 6], false, false, [], [], []⟩, ⟨(7, 7), [0, 3, 5, 6, 7], false, false, [], [], []⟩], tab := [qFh (fun _ => true), qQf (fun _ => true), qwg (fun _ => true), qyg (fun _ => true)], fm := ⟨true, [.val (.slice (.int .u8)) [.nw]]⟩ }
noncomputable def qMa (a0 : List qla) : Option (List Int) := bitloftlaw32_stored_I.call [(.sl qka false a0)] []
noncomputable def qvb (v0 : List qla) (v6 : Int) (h8 : List qaa) (h9 : List qca) : Option (List Int) := bitloftlaw32_stored_I.sem ⟨[.code (cIn (cIn (qha (qPa (qha (qha (qha (qoa Tryz.prog 8)))))))), .inLoop (cIn (cIn (qha (qPa (qha (qha (qha (qoa Tryz.prog 8)))))))), .inBlock 0, .code (qha (qha (qha (qha (qoa Tryz.prog 8)))))], ⟨[(0, (.one (.sl qka false v0))), (3, (.one (.ref qba 8 0 (List.length h8) true))), (5, (.one (.ref qna 9 0 (List.length h9) true))), (6, (.one (.int .i64 v6)))], [(8, some (.row qba true h8)), (9, some (.row qna true h9))], 10⟩⟩
noncomputable def qdc (v0 : List qla) (v6 : Int) (v7 : Int) (h8 : List qaa) (h9 : List qca) : Option (List Int) := bitloftlaw32_stored_I.sem ⟨[.code (cIn (cIn (qha (cIn (qPa (qha (cIn (cIn (qha (qPa (qha (qha (qha (qoa Tryz.prog 8)))))))))))))), .inLoop (cIn (cIn (qha (cIn (qPa (qha (cIn (cIn (qha (qPa (qha (qha (qha (qoa Tryz.prog 8)))))))))))))), .inBlock 2, .inBlock 1, .code (qha (qha (cIn (cIn (qha (qPa (qha (qha (qha (qoa Tryz.prog 8)))))))))), .inLoop (cIn (cIn (qha (qPa (qha (qha (qha (qoa Tryz.prog 8)))))))), .inBlock 0, .code (qha (qha (qha (qha (qoa Tryz.prog 8)))))], ⟨[(0, (.one (.sl qka false v0))), (3, (.one (.ref qba 8 0 (List.length h8) true))), (5, (.one (.ref qna 9 0 (List.length h9) true))), (6, (.one (.int .i64 v6))), (7, (.one (.int .i64 v7)))], [(8, some (.row qba true h8)), (9, some (.row qna true h9))], 10⟩⟩
theorem qwi (a0 : List qla) : qMa a0 = (
(qtd a0).bind fun r1 =>
qvb a0 (0 : Int) r1.1 []) := (FnI.call_eq (by kernel_rfl)).trans (by kernel_rfl)
theorem qQd (v0 : List qla) (v6 : Int) (h8 : List qaa) (h9 : List qca) : qvb v0 v6 h8 h9 = (
if (decide (v6 < (Int.ofNat (List.length v0)))) = true then
qdc v0 v6 (0 : Int) h8 h9
else
(qKb ((0 : Int), ((16 : Int), ())) h8).bind fun r2 =>
(qXb r2 h9).bind fun r3 =>
some (r3)) := (FnI.sem_eq _).trans (by kernel_rfl)
theorem qPd (v0 : List qla) (v6 : Int) (v7 : Int) (h8 : List qaa) (h9 : List qca) : qdc v0 v6 v7 h8 h9 = (
gd (0 ≤ v6) <|
gd (v6 < (Int.ofNat (List.length v0))) <|
if (decide (v7 < (Int.ofNat (List.length (List.getD v0 (Int.toNat v6) (qja qka)).2.1)))) = true then
gd (0 ≤ v6) <|
gd (v6 < (Int.ofNat (List.length v0))) <|
gd (0 ≤ v6) <|
gd (v6 < (Int.ofNat (List.length v0))) <|
gd (0 ≤ v7) <|
gd (v7 ≤ (if (IntKind.wrap .i64 (v7 + (16 : Int))) < (Int.ofNat (List.length (List.getD v0 (Int.toNat v6) (qja qka)).2.1)) then (IntKind.wrap .i64 (v7 + (16 : Int))) else (Int.ofNat (List.length (List.getD v0 (Int.toNat v6) (qja qka)).2.1)))) <|
gd ((if (IntKind.wrap .i64 (v7 + (16 : Int))) < (Int.ofNat (List.length (List.getD v0 (Int.toNat v6) (qja qka)).2.1)) then (IntKind.wrap .i64 (v7 + (16 : Int))) else (Int.ofNat (List.length (List.getD v0 (Int.toNat v6) (qja qka)).2.1))) ≤ (Int.ofNat (List.length (List.getD v0 (Int.toNat v6) (qja qka)).2.1))) <|
(qBd v6 v7 (List.take ((Int.toNat (if (IntKind.wrap .i64 (v7 + (16 : Int))) < (Int.ofNat (List.length (List.getD v0 (Int.toNat v6) (qja qka)).2.1)) then (IntKind.wrap .i64 (v7 + (16 : Int))) else (Int.ofNat (List.length (List.getD v0 (Int.toNat v6) (qja qka)).2.1)))) - (Int.toNat v7)) (List.drop (Int.toNat v7) (List.getD v0 (Int.toNat v6) (qja qka)).2.1)) (List.take ((Int.toNat (if (IntKind.wrap .i64 (v7 + (16 : Int))) < (Int.ofNat (List.length (List.getD v0 (Int.toNat v6) (qja qka)).2.1)) then (IntKind.wrap .i64 (v7 + (16 : Int))) else (Int.ofNat (List.length (List.getD v0 (Int.toNat v6) (qja qka)).2.1)))) - (Int.toNat v7)) (List.drop (Int.toNat v7) (List.getD v0 (Int.toNat v6) (qja qka)).2.1))).bind fun r4 =>
gd ((List.length (h9 ++ [r4])) * 88 ≤ 140737488355328) <|
qdc v0 v6 (IntKind.wrap .i64 (v7 + (16 : Int))) h8 (h9 ++ [r4])
else
qvb v0 (IntKind.wrap .i64 (v6 + (1 : Int))) h8 h9) := (FnI.sem_eq _).trans (by kernel_rfl)
noncomputable def qIf (acc : List AV → Bool) : Summ Tryz.prog GT := bitloftlaw32_stored_I.summ mixed acc false false
noncomputable def bitloftlaw32_alive_I : FnI Tryz.prog GT := { f := 13, cuts := [], tab := [qIf (fun _ => true), qej (fun _ => true), qzh (fun _ => true), qnl (fun _ => true)], fm := ⟨true, [.val .bool []]⟩ }
noncomputable def qUe : Option (Bool) := bitloftlaw32_alive_I.call [] []
theorem qrj : qUe = (
(qMa (qUf (a := .str) (e := (.int .u8)) [((ByteArray.mk #[97]), [(7 : Int), (8 : Int)])])).bind fun r1 =>
(qxa r1 (ByteArray.mk #[97]) (1 : Int) (2 : Int)).bind fun r2 =>
(qxa r1 (ByteArray.mk #[97]) (1 : Int) (3 : Int)).bind fun r3 =>
(qMa []).bind fun r4 =>
(qOa r4).bind fun r5 =>
(qMa []).bind fun r6 =>
(qTa r6 (ByteArray.mk #[97])).bind fun r7 =>
if (r2.2 == (0 : Int)) = true then
if ((ByteArray.toList (qJf r2.1)) == (ByteArray.toList (qJf [(8 : Int)]))) = true then
if (r3.2 == (2 : Int)) = true then
if (r5.2 == (0 : Int)) = true then
if ((Int.ofNat (List.length r5.1)) == (0 : Int)) = true then
some (r7.2 == (6 : Int))
else
some (false)
else
some (false)
else
some (false)
else
some (false)
else
some (false)) := (FnI.call_eq (by kernel_rfl)).trans (by kernel_rfl)
noncomputable def qUj (acc : List AV → Bool) : Summ Tryz.prog GT := bitloftlaw32_alive_I.summ mixed acc false false
noncomputable def bitloftref28_SameMembers_I : FnI Tryz.prog GT := { f := 14, cuts := [⟨(4, 3), [0, 1, 5], false, false, [], [], []⟩], tab := [], fm := ⟨true, [.val .bool []]⟩ }
noncomputable def qLb (a0 : List qla) (a1 : List qla) : Option (Bool) := bitloftref28_SameMembers_I.call [(.sl qka false a0), (.sl qka false a1)] []
noncomputable def qrb (v0 : List qla) (v1 : List qla) (v5 : Int) : Option (Bool) := bitloftref28_SameMembers_I.sem ⟨[.code (cIn (cIn (qha (qPa (qha (qha (qoa Tryz.prog 14))))))), .inLoop (cIn (cIn (qha (qPa (qha (qha (qoa Tryz.prog 14))))))), .inBlock 0, .code (qha (qha (qha (qoa Tryz.prog 14))))], ⟨[(0, (.one (.sl qka false v0))), (1, (.one (.sl qka false v1))), (5, (.one (.int .i64 v5)))], [], 8⟩⟩
theorem qxg (a0 : List qla) (a1 : List qla) : qLb a0 a1 = (
if ((Int.ofNat (List.length a0)) != (Int.ofNat (List.length a1))) = true then
some (false)
else
qrb a0 a1 (0 : Int)) := (FnI.call_eq (by kernel_rfl)).trans (by kernel_rfl)
theorem qFc (v0 : List qla) (v1 : List qla) (v5 : Int) : qrb v0 v1 v5 = (
if (decide (v5 < (Int.ofNat (List.length v0)))) = true then
gd (0 ≤ v5) <|
gd (v5 < (Int.ofNat (List.length v0))) <|
gd (0 ≤ v5) <|
gd (v5 < (Int.ofNat (List.length v1))) <|
if (not ((ByteArray.toList (List.getD v0 (Int.toNat v5) (qja qka)).1) == (ByteArray.toList (List.getD v1 (Int.toNat v5) (qja qka)).1))) = true then
some (false)
else
gd (0 ≤ v5) <|
gd (v5 < (Int.ofNat (List.length v0))) <|
gd (0 ≤ v5) <|
gd (v5 < (Int.ofNat (List.length v1))) <|
if (not ((ByteArray.toList (qJf (List.getD v0 (Int.toNat v5) (qja qka)).2.1)) == (ByteArray.toList (qJf (List.getD v1 (Int.toNat v5) (qja qka)).2.1)))) = true then
some (false)
else
qrb v0 v1 (IntKind.wrap .i64 (v5 + (1 : Int)))
else
some (true)) := (FnI.sem_eq _).trans (by kernel_rfl)
noncomputable def qEg (acc : List AV → Bool) : Summ Tryz.prog GT := bitloftref28_SameMembers_I.summ mixed acc false false
noncomputable def bitloftlaw32_ExtractNames_I : FnI Tryz.prog GT := { f := 3, cuts := [], tab := [qzh (fun _ => true), qnl (fun _ => true), qej (fun _ => true), qIf (fun _ => true), qFh (fun _ => true), qyg (fun _ => true), qQf (fun _ => true), qwg (fun _ => true), qUj (fun _ => true), qEg (fun _ => true)], fm := ⟨true, [.val .bool []]⟩ }
noncomputable def qRd : Option (Bool) := bitloftlaw32_ExtractNames_I.call [] []
theorem qWf : qRd = (
gd ((50001 : Int) = (50001 : Int)) <|
gd (0 ≤ (50001 : Int)) <|
gd ((50001 : Int) * 1 ≤ 140737488355328) <|
gd ((50001 : Int) ≤ 9223372036854775807) <|
(qOa (List.replicate 50001 (0 : Int))).bind fun r1 =>
(qTa (List.replicate 50001 (0 : Int)) (ByteArray.mk #[])).bind fun r2 =>
(qxa (List.replicate 50001 (0 : Int)) (ByteArray.mk #[]) (-1 : Int) (-1 : Int)).bind fun r3 =>
gd (0 < 19) <|
gd (0 < 1) <|
(qMa [((ByteArray.mk #[109]), ([(48 : Int), (49 : Int), (50 : Int), (51 : Int), (52 : Int), (53 : Int), (54 : Int), (55 : Int), (56 : Int), (57 : Int), (97 : Int), (98 : Int), (99 : Int), (100 : Int), (101 : Int), (102 : Int), (88 : Int), (89 : Int), (90 : Int)], ())), ((ByteArray.mk #[110]), ([], ())), ((ByteArray.mk #[111]), ([(33 : Int)], ()))]).bind fun r4 =>
gd ((List.length ([] ++ r4)) * 1 ≤ 140737488355328) <|
gd (0 ≤ (IntKind.wrap .i64 ((Int.ofNat (List.length ([] ++ r4))) - (1 : Int)))) <|
gd ((IntKind.wrap .i64 ((Int.ofNat (List.length ([] ++ r4))) - (1 : Int))) < (Int.ofNat (List.length ([] ++ r4)))) <|
gd (0 ≤ (IntKind.wrap .i64 ((Int.ofNat (List.length ([] ++ r4))) - (1 : Int)))) <|
gd ((IntKind.wrap .i64 ((Int.ofNat (List.length ([] ++ r4))) - (1 : Int))) < (Int.ofNat (List.length ([] ++ r4)))) <|
if (decide ((Int.ofNat (List.length r4)) < (60 : Int))) = true then
some (false)
else
(qOa r4).bind fun r5 =>
(qOa (List.set ([] ++ r4) (0 + (Int.toNat (IntKind.wrap .i64 ((Int.ofNat (List.length ([] ++ r4))) - (1 : Int))))) (IntKind.wrap .u8 ((List.getD ([] ++ r4) (0 + (Int.toNat (IntKind.wrap .i64 ((Int.ofNat (List.length ([] ++ r4))) - (1 : Int))))) (0 : Int)) + (1 : Int))))).bind fun r6 =>
(qTa (List.set ([] ++ r4) (0 + (Int.toNat (IntKind.wrap .i64 ((Int.ofNat (List.length ([] ++ r4))) - (1 : Int))))) (IntKind.wrap .u8 ((List.getD ([] ++ r4) (0 + (Int.toNat (IntKind.wrap .i64 ((Int.ofNat (List.length ([] ++ r4))) - (1 : Int))))) (0 : Int)) + (1 : Int)))) (ByteArray.mk #[109])).bind fun r7 =>
(qTa (List.set ([] ++ r4) (0 + (Int.toNat (IntKind.wrap .i64 ((Int.ofNat (List.length ([] ++ r4))) - (1 : Int))))) (IntKind.wrap .u8 ((List.getD ([] ++ r4) (0 + (Int.toNat (IntKind.wrap .i64 ((Int.ofNat (List.length ([] ++ r4))) - (1 : Int))))) (0 : Int)) + (1 : Int)))) (ByteArray.mk #[111])).bind fun r8 =>
(qTa (List.set ([] ++ r4) (0 + (Int.toNat (IntKind.wrap .i64 ((Int.ofNat (List.length ([] ++ r4))) - (1 : Int))))) (IntKind.wrap .u8 ((List.getD ([] ++ r4) (0 + (Int.toNat (IntKind.wrap .i64 ((Int.ofNat (List.length ([] ++ r4))) - (1 : Int))))) (0 : Int)) + (1 : Int)))) (ByteArray.mk #[110])).bind fun r9 =>
(qTa r4 (ByteArray.mk #[120])).bind fun r10 =>
(qxa r4 (ByteArray.mk #[120]) (-1 : Int) (-1 : Int)).bind fun r11 =>
(qxa r4 (ByteArray.mk #[109]) (-1 : Int) (3 : Int)).bind fun r12 =>
(qxa r4 (ByteArray.mk #[109]) (3 : Int) (2 : Int)).bind fun r13 =>
(qxa r4 (ByteArray.mk #[109]) (0 : Int) (20 : Int)).bind fun r14 =>
(qxa r4 (ByteArray.mk #[109]) (15 : Int) (18 : Int)).bind fun r15 =>
(qxa r4 (ByteArray.mk #[109]) (0 : Int) (19 : Int)).bind fun r16 =>
(qxa (List.set ([] ++ r4) (0 + (Int.toNat (IntKind.wrap .i64 ((Int.ofNat (List.length ([] ++ r4))) - (1 : Int))))) (IntKind.wrap .u8 ((List.getD ([] ++ r4) (0 + (Int.toNat (IntKind.wrap .i64 ((Int.ofNat (List.length ([] ++ r4))) - (1 : Int))))) (0 : Int)) + (1 : Int)))) (ByteArray.mk #[111]) (0 : Int) (1 : Int)).bind fun r17 =>
(qxa (List.set ([] ++ r4) (0 + (Int.toNat (IntKind.wrap .i64 ((Int.ofNat (List.length ([] ++ r4))) - (1 : Int))))) (IntKind.wrap .u8 ((List.getD ([] ++ r4) (0 + (Int.toNat (IntKind.wrap .i64 ((Int.ofNat (List.length ([] ++ r4))) - (1 : Int))))) (0 : Int)) + (1 : Int)))) (ByteArray.mk #[111]) (1 : Int) (1 : Int)).bind fun r18 =>
gd (0 ≤ (1 : Int)) <|
gd ((1 : Int) ≤ (3 : Int)) <|
(qtd (List.take 1 (List.drop 0 [((ByteArray.mk #[109]), ([(48 : Int), (49 : Int), (50 : Int), (51 : Int), (52 : Int), (53 : Int), (54 : Int), (55 : Int), (56 : Int), (57 : Int), (97 : Int), (98 : Int), (99 : Int), (100 : Int), (101 : Int), (102 : Int), (88 : Int), (89 : Int), (90 : Int)], ())), ((ByteArray.mk #[110]), ([], ())), ((ByteArray.mk #[111]), ([(33 : Int)], ()))]))).bind fun r19 =>
gd (0 ≤ (0 : Int)) <|
gd ((0 : Int) < (Int.ofNat (List.length r19.1))) <|
gd (0 ≤ (0 : Int)) <|
gd ((0 : Int) < (20 : Int)) <|
gd (0 ≤ (0 : Int)) <|
gd ((0 : Int) < (Int.ofNat (List.length r19.1))) <|
gd (0 ≤ (0 : Int)) <|
gd ((0 : Int) < (20 : Int)) <|
gd (0 ≤ (0 : Int)) <|
gd ((0 : Int) < (3 : Int)) <|
gd (0 ≤ (0 : Int)) <|
gd ((0 : Int) < (3 : Int)) <|
(qBd (0 : Int) (0 : Int) (List.getD [((ByteArray.mk #[109]), ([(48 : Int), (49 : Int), (50 : Int), (51 : Int), (52 : Int), (53 : Int), (54 : Int), (55 : Int), (56 : Int), (57 : Int), (97 : Int), (98 : Int), (99 : Int), (100 : Int), (101 : Int), (102 : Int), (88 : Int), (89 : Int), (90 : Int)], ())), ((ByteArray.mk #[110]), ([], ())), ((ByteArray.mk #[111]), ([(33 : Int)], ()))] 0 (qja qka)).2.1 (List.getD [((ByteArray.mk #[109]), ([(48 : Int), (49 : Int), (50 : Int), (51 : Int), (52 : Int), (53 : Int), (54 : Int), (55 : Int), (56 : Int), (57 : Int), (97 : Int), (98 : Int), (99 : Int), (100 : Int), (101 : Int), (102 : Int), (88 : Int), (89 : Int), (90 : Int)], ())), ((ByteArray.mk #[110]), ([], ())), ((ByteArray.mk #[111]), ([(33 : Int)], ()))] 0 (qja qka)).2.1).bind fun r20 =>
(qKb ((0 : Int), ((32 : Int), ())) (List.set r19.1 0 ((List.getD r19.1 0 (qja qba)).1, ((List.getD r19.1 0 (qja qba)).2.1, ((List.set (List.getD r19.1 0 (qja qba)).2.2.1 0 (IntKind.wrap .u8 ((List.getD (List.getD r19.1 0 (qja qba)).2.2.1 0 (0 : Int)) + (1 : Int)))), (List.getD r19.1 0 (qja qba)).2.2.2))))).bind fun r21 =>
(qXb r21 [r20]).bind fun r22 =>
(qOa r22).bind fun r23 =>
(qTa r22 (ByteArray.mk #[109])).bind fun r24 =>
(qxa r22 (ByteArray.mk #[109]) (2 : Int) (4 : Int)).bind fun r25 =>
(qUe).bind fun r26 =>
if r26 = true then
if (r1.2 == (4 : Int)) = true then
if (r2.2 == (4 : Int)) = true then
if (r3.2 == (4 : Int)) = true then
if (r5.2 == (0 : Int)) = true then
(qLb r5.1 [((ByteArray.mk #[109]), ([(48 : Int), (49 : Int), (50 : Int), (51 : Int), (52 : Int), (53 : Int), (54 : Int), (55 : Int), (56 : Int), (57 : Int), (97 : Int), (98 : Int), (99 : Int), (100 : Int), (101 : Int), (102 : Int), (88 : Int), (89 : Int), (90 : Int)], ())), ((ByteArray.mk #[110]), ([], ())), ((ByteArray.mk #[111]), ([(33 : Int)], ()))]).bind fun r27 =>
if r27 = true then
if (r6.2 == (22 : Int)) = true then
if (r7.2 == (0 : Int)) = true then
gd (0 ≤ (0 : Int)) <|
gd ((0 : Int) < (3 : Int)) <|
if ((ByteArray.toList (qJf r7.1.2.1)) == (ByteArray.toList (qJf (List.getD [((ByteArray.mk #[109]), ([(48 : Int), (49 : Int), (50 : Int), (51 : Int), (52 : Int), (53 : Int), (54 : Int), (55 : Int), (56 : Int), (57 : Int), (97 : Int), (98 : Int), (99 : Int), (100 : Int), (101 : Int), (102 : Int), (88 : Int), (89 : Int), (90 : Int)], ())), ((ByteArray.mk #[110]), ([], ())), ((ByteArray.mk #[111]), ([(33 : Int)], ()))] 0 (qja qka)).2.1))) = true then
if (r8.2 == (22 : Int)) = true then
if (r9.2 == (0 : Int)) = true then
if ((ByteArray.toList r9.1.1) == (ByteArray.toList (ByteArray.mk #[110]))) = true then
if ((Int.ofNat (List.length r9.1.2.1)) == (0 : Int)) = true then
if (r10.2 == (6 : Int)) = true then
if (r11.2 == (6 : Int)) = true then
if (r12.2 == (2 : Int)) = true then
if (r13.2 == (2 : Int)) = true then
if (r14.2 == (2 : Int)) = true then
if (r15.2 == (0 : Int)) = true then
if ((ByteArray.toList (qJf r15.1)) == (ByteArray.toList (ByteArray.mk #[102, 88, 89]))) = true then
if (r16.2 == (0 : Int)) = true then
gd (0 ≤ (0 : Int)) <|
gd ((0 : Int) < (3 : Int)) <|
if ((ByteArray.toList (qJf r16.1)) == (ByteArray.toList (qJf (List.getD [((ByteArray.mk #[109]), ([(48 : Int), (49 : Int), (50 : Int), (51 : Int), (52 : Int), (53 : Int), (54 : Int), (55 : Int), (56 : Int), (57 : Int), (97 : Int), (98 : Int), (99 : Int), (100 : Int), (101 : Int), (102 : Int), (88 : Int), (89 : Int), (90 : Int)], ())), ((ByteArray.mk #[110]), ([], ())), ((ByteArray.mk #[111]), ([(33 : Int)], ()))] 0 (qja qka)).2.1))) = true then
if (r17.2 == (22 : Int)) = true then
if (r18.2 == (0 : Int)) = true then
if ((Int.ofNat (List.length r18.1)) == (0 : Int)) = true then
if (r23.2 == (22 : Int)) = true then
if (r24.2 == (22 : Int)) = true then
if (r25.2 == (0 : Int)) = true then
some ((ByteArray.toList (qJf r25.1)) == (ByteArray.toList (ByteArray.mk #[50, 51])))
else
some (false)
else
some (false)
else
some (false)
else
some (false)
else
some (false)
else
some (false)
else
some (false)
else
some (false)
else
some (false)
else
some (false)
else
some (false)
else
some (false)
else
some (false)
else
some (false)
else
some (false)
else
some (false)
else
some (false)
else
some (false)
else
some (false)
else
some (false)
else
some (false)
else
some (false)
else
some (false)
else
some (false)
else
some (false)
else
some (false)
else
some (false)
else
some (false)) := (FnI.call_eq (by kernel_rfl)).trans (by kernel_rfl)
end Go.Ab
