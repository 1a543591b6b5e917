/-
  An abstract machine over the model's code and its soundness; what the functions compute, as plain functions (printed by a program of this repo's own, checked here by the kernel); plain laws of them: part 4. Helper text, no statement of the claim stands here.
-/
import Derived.Test.YtlaioapnemghaaaGreatDoorTxtVc
import Derived.Test.YtlaioapnemghaaaGreatDoorProg
import Derived.WalkKit
import Derived.LaidEql
import Derived.Stop.Asserts
import Derived.RowKitTokens
import Derived.Shelf.Bytes.SlIndexWhole
set_option linter.unusedVariables false
set_option linter.unusedSimpArgs false
namespace Go.Ab.As
open Go Go.Proofs Go.RowKit Go.Extern.Stop Go.Stop Go.Extern
theorem as_nil (t : Value) (w : World) :
    Calls Tryz.prog 131 #[.nilIface, t] w fun e w' => e = .returned (.bool false) ∧ w' = w := by
  go_enter Tryz.func131, Tryz.ntmps131
  go_wp2
  go_ret
  exact ⟨rfl, rfl⟩
theorem valueOfP (t : Addr) (w : World) : (ReflectliteValue.unpack (.iface 244 (.pointer (some t)))).run Tryz.prog w
    = .ok (.agg #[.pointer (some ⟨8, 244, none⟩), .pointer (some ⟨w.heap.size, 0, none⟩), .int .u64 150]) (w.alloc (.cells #[.pointer (some t)] 244)) := by kernel_rfl
theorem typeP (a : Addr) (w : World) : (ReflectliteValue.methodAny (ReflectliteValue.valueError "reflectlite.Value.Type" 0) (fun t _ _ _ => ReflectliteType.toType t) #[.agg #[.pointer (some ⟨8, 244, none⟩), .pointer (some a), .int .u64 150]]).run Tryz.prog w
    = .ok (.iface 389 (.agg #[.pointer (some ⟨8, 244, none⟩)])) w := by kernel_rfl
theorem methodKind (h : Value) (w : World) : (Go.method 688 389 (.agg #[h]) "Kind").run Tryz.prog w = .ok (425, h) w := by kernel_rfl
theorem kindP (w : World) : ((ReflectliteType.abiMethod fun t => (fun a : Nat => Value.int IntKind.u8 (a : Int)) <$> Rtype.kind t) #[.pointer (some ⟨8, 244, none⟩)]).run Tryz.prog w = .ok (.int .u8 22) w := by kernel_rfl
theorem kindE (w : World) : ((ReflectliteType.abiMethod fun t => (fun a : Nat => Value.int IntKind.u8 (a : Int)) <$> Rtype.kind t) #[.pointer (some ⟨8, 24, none⟩)]).run Tryz.prog w = .ok (.int .u8 2) w := by kernel_rfl
theorem rlm (z : Sem Value) (f : TypeId → Addr → Nat → Nat → Sem Value) (v : Value) :
    ReflectliteValue.method z f #[v] = (do match ← ReflectliteValue.parts v with | none => z | some (t, a, fl) => f t a fl (fl % 32)) := rfl
theorem partsP (a : Addr) (w : World) : (ReflectliteValue.parts (.agg #[.pointer (some ⟨8, 244, none⟩), .pointer (some a), .int .u64 150])).run Tryz.prog w = .ok (some (244, a, 150)) w := by kernel_rfl
theorem isNilP (a p : Addr) (W : World) (ha : W.cell? a = some (.pointer (some p))) :
    (ReflectliteValue.method (ReflectliteValue.valueError "reflectlite.Value.IsNil" 0) ReflectliteValue.isNil #[.agg #[.pointer (some ⟨8, 244, none⟩), .pointer (some a), .int .u64 150]]).run Tryz.prog W = .ok (.bool false) W := by
  rw [rlm]
  simp only [Sem.run_bind, partsP, Result.andThen]
  simp [ReflectliteValue.isNil, loadVar, isAgg, underlying, Tryz.underlying244, ha, Result.andThen]
theorem methodElem (h : Value) (w : World) : (Go.method 688 389 (.agg #[h]) "Elem").run Tryz.prog w = .ok (435, .agg #[h]) w := by kernel_rfl
theorem methodImplements (h : Value) (w : World) : (Go.method 688 389 (.agg #[h]) "Implements").run Tryz.prog w = .ok (436, .agg #[h]) w := by kernel_rfl
theorem methodAssignableTo (h : Value) (w : World) : (Go.method 688 389 (.agg #[h]) "AssignableTo").run Tryz.prog w = .ok (433, .agg #[h]) w := by kernel_rfl
theorem elemP (w : World) : (ReflectliteType.method ReflectliteType.elem #[.agg #[.pointer (some ⟨8, 244, none⟩)]]).run Tryz.prog w = .ok (.iface 389 (.agg #[.pointer (some ⟨8, 24, none⟩)])) w := by kernel_rfl
theorem implementsE (w : World) : (ReflectliteType.relation "Implements" ReflectliteType.implements_ #[.agg #[.pointer (some ⟨8, 24, none⟩)], .iface 389 (.agg #[.pointer (some ⟨8, 240, none⟩)])]).run Tryz.prog w = .ok (.bool true) w := by kernel_rfl
theorem typeOfE (v : Value) (w : World) : (ReflectliteType.typeOf #[.iface 24 v]).run Tryz.prog w = .ok (.iface 389 (.agg #[.pointer (some ⟨8, 24, none⟩)])) w := by kernel_rfl
theorem assignableE (w : World) : (ReflectliteType.relation "AssignableTo" ReflectliteType.assignableTo #[.agg #[.pointer (some ⟨8, 24, none⟩)], .iface 389 (.agg #[.pointer (some ⟨8, 24, none⟩)])]).run Tryz.prog w = .ok (.bool true) w := by kernel_rfl
theorem valueOfE (n : Int) (w : World) : (ReflectliteValue.unpack (.iface 24 (.int .i64 n))).run Tryz.prog w
    = .ok (.agg #[.pointer (some ⟨8, 24, none⟩), .pointer (some ⟨w.heap.size, 0, none⟩), .int .u64 130]) (w.alloc (.cells #[.int .i64 n] 24)) := by kernel_rfl
theorem elemOfP (w : World) : (Rtype.elem? 244).run Tryz.prog w = .ok (some 24) w := by kernel_rfl
theorem mkE (p : Addr) (w : World) : (ReflectliteValue.mk 24 p ReflectliteValue.flagAddr).run Tryz.prog w = .ok (.agg #[.pointer (some ⟨8, 24, none⟩), .pointer (some p), .int .u64 386]) w := by kernel_rfl
theorem elemVP (a p : Addr) (W : World) (ha : W.cell? a = some (.pointer (some p))) :
    (ReflectliteValue.method (ReflectliteValue.valueError "reflectlite.Value.Elem" 0) ReflectliteValue.elem #[.agg #[.pointer (some ⟨8, 244, none⟩), .pointer (some a), .int .u64 150]]).run Tryz.prog W
      = .ok (.agg #[.pointer (some ⟨8, 24, none⟩), .pointer (some p), .int .u64 386]) W := by
  rw [rlm]
  simp only [Sem.run_bind, partsP, Result.andThen]
  simp [ReflectliteValue.elem, loadVar, isAgg, underlying, Tryz.underlying244, ha, Result.andThen, elemOfP, mkE]
theorem rls (v x : Value) : ReflectliteValue.set #[v, x] = (do
    let (some (dst, a, fl), some (src, b, _)) := (← ReflectliteValue.parts v, ← ReflectliteValue.parts x)
      | unsupported (.noEntry "extern/(internal/reflectlite.Value).Set.zeroValue")
    if fl / ReflectliteValue.flagAddr % 2 == 0 then unsupported (.noEntry "extern/(internal/reflectlite.Value).Set.unaddressable")
    let val ← loadVar src b
    if ← Rtype.directlyAssignable dst src then storeVar dst a val
    else if ← Rtype.implements dst src then
      if (← Rtype.kind src) == 20 then
        match val with
        | .nilIface => unsupported (.noEntry "extern/reflectlite: a nil value of one interface type handed on as a value of another")
        | _ => storeVar dst a val
      else storeVar dst a (.iface src val)
    else panicString ("reflectlite.Set: value of type " ++ (← Rtype.spelt src) ++ " is not assignable to type " ++ (← Rtype.spelt dst))
    pure (.tuple #[])) := rfl
theorem partsEa (a : Addr) (w : World) : (ReflectliteValue.parts (.agg #[.pointer (some ⟨8, 24, none⟩), .pointer (some a), .int .u64 386])).run Tryz.prog w = .ok (some (24, a, 386)) w := by kernel_rfl
theorem partsE (a : Addr) (w : World) : (ReflectliteValue.parts (.agg #[.pointer (some ⟨8, 24, none⟩), .pointer (some a), .int .u64 130])).run Tryz.prog w = .ok (some (24, a, 130)) w := by kernel_rfl
theorem directE (w : World) : (Rtype.directlyAssignable 24 24).run Tryz.prog w = .ok true w := by kernel_rfl
theorem setE (ta b : Addr) (n : Int) (old : Value) (W : World) (hb : W.cell? b = some (.int .i64 n)) (ht : W.cell? ta = some old) (hf : W.frozen? ta = false) :
    (ReflectliteValue.set #[.agg #[.pointer (some ⟨8, 24, none⟩), .pointer (some ta), .int .u64 386], .agg #[.pointer (some ⟨8, 24, none⟩), .pointer (some b), .int .u64 130]]).run Tryz.prog W
      = .ok (.tuple #[]) (W.setCell ta (.int .i64 n)) := by
  rw [rls]
  simp only [Sem.run_bind, partsEa, partsE, Result.andThen]
  simp [ReflectliteValue.flagAddr, loadVar, isAgg, underlying, Tryz.underlying24, hb, Result.andThen, directE, storeVar, Value.cells, storeCells, Addr.add]
  rw [run_store Tryz.prog W ta _ _ (by rfl)]
  simp [ht, hf]
set_option maxHeartbeats 4000000 in
set_option maxRecDepth 100000 in
theorem as_hit (n : Int) (t : Addr) (old : Value) (w : World) (hg : w.cell? ⟨2, 0, none⟩ = some (.iface 389 (.agg #[.pointer (some ⟨8, 240, none⟩)]))) (ht0 : w.cell? t = some old) (hf0 : w.frozen? t = false) :
    Calls Tryz.prog 131 #[.iface 24 (.int .i64 n), .iface 244 (.pointer (some t))] w fun ev w' => ev = .returned (.bool true) ∧ w' = ((((w.alloc (.cells #[.pointer (some t)] 244)).alloc (.cells #[.pointer (some ⟨8, 244, none⟩), .pointer (some ⟨w.heap.size, 0, none⟩), .int .u64 150] 318)).alloc (.cells #[.pointer (some ⟨8, 244, none⟩), .pointer (some ⟨w.heap.size, 0, none⟩), .int .u64 150] 318)).alloc (.cells #[.int .i64 n] 24)).setCell t (.int .i64 n) := by
  have h6 := @run_callFunc_extern Tryz.prog 184 _ (fun args => ReflectliteValue.unpack (args.getD 0 (.tuple #[]))) Tryz.func184 (by kernel_rfl) (by kernel_rfl) (by kernel_rfl) (by kernel_rfl)
  have h7 := @run_callFunc_extern Tryz.prog 185 _ (ReflectliteValue.methodAny (ReflectliteValue.valueError "reflectlite.Value.Type" 0) (fun t _ _ _ => ReflectliteType.toType t)) Tryz.func185 (by kernel_rfl) (by kernel_rfl) (by kernel_rfl) (by kernel_rfl)
  have h8 := @run_callFunc_extern Tryz.prog 186 _ (ReflectliteValue.method (ReflectliteValue.valueError "reflectlite.Value.IsNil" 0) ReflectliteValue.isNil) Tryz.func186 (by kernel_rfl) (by kernel_rfl) (by kernel_rfl) (by kernel_rfl)
  have h27 := @run_callFunc_extern Tryz.prog 425 _ (ReflectliteType.abiMethod fun t => do pure (.int .u8 (← Rtype.kind t))) Tryz.func425 (by kernel_rfl) (by kernel_rfl) (by kernel_rfl) (by kernel_rfl)
  have h37 := @run_callFunc_extern Tryz.prog 435 _ (ReflectliteType.method ReflectliteType.elem) Tryz.func435 (by kernel_rfl) (by kernel_rfl) (by kernel_rfl) (by kernel_rfl)
  have h38 := @run_callFunc_extern Tryz.prog 436 _ (ReflectliteType.relation "Implements" ReflectliteType.implements_) Tryz.func436 (by kernel_rfl) (by kernel_rfl) (by kernel_rfl) (by kernel_rfl)
  have h10 := @run_callFunc_extern Tryz.prog 249 _ ReflectliteType.typeOf Tryz.func249 (by kernel_rfl) (by kernel_rfl) (by kernel_rfl) (by kernel_rfl)
  have h35 := @run_callFunc_extern Tryz.prog 433 _ (ReflectliteType.relation "AssignableTo" ReflectliteType.assignableTo) Tryz.func433 (by kernel_rfl) (by kernel_rfl) (by kernel_rfl) (by kernel_rfl)
  have h11 := @run_callFunc_extern Tryz.prog 250 _ (ReflectliteValue.method (ReflectliteValue.valueError "reflectlite.Value.Elem" 0) ReflectliteValue.elem) Tryz.func250 (by kernel_rfl) (by kernel_rfl) (by kernel_rfl) (by kernel_rfl)
  have h12 := @run_callFunc_extern Tryz.prog 251 _ ReflectliteValue.set Tryz.func251 (by kernel_rfl) (by kernel_rfl) (by kernel_rfl) (by kernel_rfl)
  have tO := typeOfE
  have mA := methodAssignableTo
  have a25 := assignableE
  have v25 := valueOfE
  have f6 := valueOfP
  have f7 := typeP
  have mK := methodKind
  have mE := methodElem
  have mI := methodImplements
  have k27 := kindP
  have k25 := kindE
  have e27 := elemP
  have i25 := implementsE
  have n8 := isNilP ⟨w.heap.size, 0, none⟩ t ((w.alloc (.cells #[.pointer (some t)] 244)).alloc (.cells #[.pointer (some ⟨8, 244, none⟩), .pointer (some ⟨w.heap.size, 0, none⟩), .int .u64 150] 318)) (by simp)
  have hlt : 2 < w.heap.size := by
    rcases Nat.lt_or_ge 2 w.heap.size with h | h
    · exact h
    · simp [World.cell?, Array.getElem?_eq_none h] at hg
  have hg2 : ((w.alloc (.cells #[.pointer (some t)] 244)).alloc (.cells #[.pointer (some ⟨8, 244, none⟩), .pointer (some ⟨w.heap.size, 0, none⟩), .int .u64 150] 318)).cell? ⟨2, 0, none⟩ = some (.iface 389 (.agg #[.pointer (some ⟨8, 240, none⟩)])) := by
    rw [World.cell?_alloc_lt _ _ ⟨2, 0, none⟩ (by first | (simp; done) | (simp; omega)), World.cell?_alloc_lt _ _ ⟨2, 0, none⟩ hlt]; exact hg
  have htl : t.block < w.heap.size := by
    rcases Nat.lt_or_ge t.block w.heap.size with h | h
    · exact h
    · simp [World.cell?, Array.getElem?_eq_none h] at ht0
  have el := elemVP ⟨w.heap.size, 0, none⟩ t (((w.alloc (.cells #[.pointer (some t)] 244)).alloc (.cells #[.pointer (some ⟨8, 244, none⟩), .pointer (some ⟨w.heap.size, 0, none⟩), .int .u64 150] 318)).alloc (.cells #[.pointer (some ⟨8, 244, none⟩), .pointer (some ⟨w.heap.size, 0, none⟩), .int .u64 150] 318)) (by rw [World.cell?_alloc_lt _ _ ⟨w.heap.size, 0, none⟩ (by first | (simp; done) | (simp; omega))]; simp)
  have st := setE t ⟨w.heap.size + 1 + 1 + 1, 0, none⟩ n old ((((w.alloc (.cells #[.pointer (some t)] 244)).alloc (.cells #[.pointer (some ⟨8, 244, none⟩), .pointer (some ⟨w.heap.size, 0, none⟩), .int .u64 150] 318)).alloc (.cells #[.pointer (some ⟨8, 244, none⟩), .pointer (some ⟨w.heap.size, 0, none⟩), .int .u64 150] 318)).alloc (.cells #[.int .i64 n] 24))
    (by rw [World.cell?_alloc_at _ _ _ _ (by simp)]; rfl)
    (by rw [World.cell?_alloc_lt _ _ t (by first | (simp; done) | (simp; omega)), World.cell?_alloc_lt _ _ t (by first | (simp; done) | (simp; omega)), World.cell?_alloc_lt _ _ t (by first | (simp; done) | (simp; omega)), World.cell?_alloc_lt _ _ t htl]; exact ht0)
    (by rw [World.frozen?_alloc_old _ _ t (by first | (simp; done) | (simp; omega)), World.frozen?_alloc_old _ _ t (by first | (simp; done) | (simp; omega)), World.frozen?_alloc_old _ _ t (by first | (simp; done) | (simp; omega)), World.frozen?_alloc_old _ _ t (Nat.ne_of_lt htl)]; exact hf0)
  go_enter Tryz.func131, Tryz.ntmps131
  go_wp2
  refine wp_loop_rounds 1 ?_
  rw [rounds_succ]
  go_wp2
  go_ret
  exact ⟨rfl, rfl⟩
end Go.Ab.As

set_option linter.unusedVariables false
set_option linter.unusedSimpArgs false
namespace Go.Ab
open Go Go.Proofs Go.RowKit
def errors_As (a0 : Option Int) (b0 : Int) : Option (Bool × Int) := some (match a0 with
  | some n => (true, n)
  | none => (false, b0))
theorem errors_As_some (n b0 : Int) : errors_As (some n) b0 = some (true, n) := rfl
theorem errors_As_none (b0 : Int) : errors_As none b0 = some (false, b0) := rfl
def errors_As_fn : List AV → List (Nat × Obj) → Option (Bool × Int)
  | [.eri T .i64 x, .ifp TP (.int .i64) 0 []], [(0, .box (.int .i64) v)] => if T = 24 ∧ TP = 244 then errors_As x v else none
  | _, _ => none
theorem As.oneRow : ((List.range Tryz.prog.types.size).filter fun t => Tryz.prog.rowNamed t [101, 114, 114, 111, 114]) = [240] := by kernel_rfl
theorem As.rt : (Tryz.prog.cutTypes.find? (·.1 == "internal/reflectlite.rtype")).map (·.2) = some 389 := by kernel_rfl
theorem As.hdl {w : World} {g : Nat} (h : Hdl Tryz.prog w g) : w.cell? ⟨g, 0, none⟩ = some (.iface 389 (.agg #[.pointer (some ⟨8, 240, none⟩)])) := by
  obtain ⟨u, ty, e1, e2, e3, e4⟩ := h
  obtain rfl := Option.some.inj (As.rt.symm.trans e1)
  have hm : ty ∈ (List.range Tryz.prog.types.size).filter fun t => Tryz.prog.rowNamed t [101, 114, 114, 111, 114] := List.mem_filter.2 ⟨List.mem_range.2 e2, e3⟩
  rw [As.oneRow] at hm
  obtain rfl := List.mem_singleton.1 hm
  have hh : typeHandle Tryz.prog 240 = .pointer (some ⟨8, 240, none⟩) := by kernel_rfl
  rw [hh] at e4
  exact e4
set_option maxRecDepth 100000 in
theorem errors_As_ok {GT : GTab} (hGT : lookL GT 2 = some ⟨.unit, ()⟩) {avs : List AV} {pre : List (Nat × Obj)} {r : Bool × Int} (h : errors_As_fn avs pre = some r) : CallOK Tryz.prog GT 131 avs pre (.one (.bool r.1)) [(0, .box (.int .i64) r.2)] := by
  unfold errors_As_fn at h
  split at h
  · rename_i T x TP v
    split at h
    · rename_i hT
      obtain ⟨rfl, rfl⟩ := hT
      intro w F G K vs hg hI hG hK hF hv
      obtain ⟨v1, r1, rfl, h1, h2⟩ := hv
      obtain ⟨v2, r2, rfl, h2, h3⟩ := h2
      simp only [VRdL] at h3; subst h3
      obtain ⟨sh, pl, po, k1, k2, rfl⟩ := h2
      obtain ⟨gh, g1, g2⟩ := hI.objs 0 (.box (.int .i64) v) rfl
      rw [k1] at g1; injection g1 with g1; subst g1
      obtain ⟨q1, p, cs, q2, q3, q4⟩ := g2
      rcases k2 with ⟨k3, k2⟩ | ⟨_, _, _, _, _, _, _, hp, _, _⟩
      rotate_left
      · cases hp
      rw [k3] at q2; injection q2 with q2; subst q2
      rw [q1] at k2
      obtain ⟨sh1, sh2⟩ := sh; simp only at q1 k3; subst q1; subst k3
      simp only [ARd] at q4; subst q4
      simp only [shAt, pathAt, Option.some.injEq, Prod.mk.injEq] at k2
      obtain ⟨rfl, _⟩ := k2
      have hcell : w.cell? ⟨pl.blk, pl.ob + 0, none⟩ = some (.int .i64 v) := q3.cells 0 _ rfl
      have hlt := q3.lt
      have hob : pl.ob + 0 < pl.bs := by obtain ⟨_, _, _, _, _, _, h5, _⟩ := q3; simp only [List.length_cons, List.length_nil] at h5; omega
      have hfree : w.frozen? ⟨pl.blk, pl.ob + 0, none⟩ = false := q3.free hob
      refine called_of (by kernel_rfl) (by kernel_rfl) ?_
      cases x with
      | none =>
        simp only [errors_As, Option.some.injEq] at h; subst h
        simp only [VRd] at h1; subst h1
        refine (As.as_nil _ w).mono ?_
        rintro e w' ⟨rfl, rfl⟩
        exact ⟨_, rfl, K, fun _ _ h => h, hI, rfl⟩
      | some n =>
        simp only [errors_As, Option.some.injEq] at h; subst h
        simp only [VRd] at h1; subst h1
        have hc := As.hdl (hg.2.2.1 2 hGT)
        refine (As.as_hit n ⟨pl.blk, pl.ob + 0, none⟩ _ w hc hcell hfree).mono ?_
        rintro e w' ⟨rfl, rfl⟩
        refine ⟨_, rfl, K, fun _ _ h => h, ?_, rfl⟩
        generalize hw4 : (((w.alloc _).alloc _).alloc _).alloc _ = w4
        have hm := hI.more (w' := w4) (by subst hw4; rfl) (by subst hw4; rfl) (by subst hw4; rfl) (by subst hw4; simp; omega) (fun k hk => by
          subst hw4
          simp only [World.alloc]
          rw [Array.getElem?_push_lt (by simp; omega), Array.getElem_push_lt (by simp; omega), Array.getElem_push_lt (by simp; omega), Array.getElem_push_lt hk]
          exact (Array.getElem?_eq_getElem hk).symm)
        have q5 : InBlk w4 pl [.int .i64 v] := q3.keep (by
          subst hw4
          simp only [World.alloc]
          rw [Array.getElem?_push_lt (by simp; omega), Array.getElem_push_lt (by simp; omega), Array.getElem_push_lt (by simp; omega), Array.getElem_push_lt hlt]
          exact (Array.getElem?_eq_getElem hlt).symm)
        have S := Stp.write (w' := w4.setCells pl.blk (pl.ob + 0) [.int .i64 n]) hm.1 0 0 (.box (.int .i64) v) (.box (.int .i64) n) _ pl rfl k1 (Or.inl rfl) (setCells_same pl.blk _ _ w4)
          (fun N' K' _ _ => ⟨rfl, pl, [.int .i64 n], rfl, q5.write (o := 0) (s := [.int .i64 n]) (by simp), rfl⟩)
        have hup : updL (lookL [(0, .box (.int .i64) v)]) [(0, some (.box (.int .i64) n))] = lookL [(0, .box (.int .i64) n)] := by
          funext l
          simp only [updL, lookL]
          by_cases hl : 0 = l <;> simp [hl]
        have := S.inv
        rw [hup] at this
        exact this
    · cases h
  · cases h
end Go.Ab

/-
  bytes.Index, by the shelf's contract.
-/
set_option linter.unusedVariables false
set_option linter.unusedSimpArgs false
namespace Go.Ab
open Go Go.Proofs Go.Shelf
def ixRen : Ren := ⟨fun | 185 => 182 | 187 => 245 | 115 => 93 | 253 => 246 | 224 => 247 | 254 => 248 | 255 => 301 | 291 => 302 | n => n, fun | 37 => 22 | 3 => 3 | 4 => 4 | 0 => 0 | 5 => 5 | 46 => 128 | 9 => 9 | 146 => 174 | 51 => 130 | n => n, fun | 1 => 3 | n => n⟩
set_option maxRecDepth 100000 in
theorem ixLays : Lays.n185 Tryz.prog ixRen := {
  mixed := by kernel_rfl,
  f115 := Tryz.func93.trans (congrArg some (by kernel_rfl)),
  f185 := Tryz.func182.trans (congrArg some (by kernel_rfl)),
  f187 := Tryz.func245.trans (congrArg some (by kernel_rfl)),
  f224 := Tryz.func247.trans (congrArg some (by kernel_rfl)),
  f253 := Tryz.func246.trans (congrArg some (by kernel_rfl)),
  f254 := Tryz.func248.trans (congrArg some (by kernel_rfl)),
  f255 := Tryz.func301.trans (congrArg some (by kernel_rfl)),
  f291 := Tryz.func302.trans (congrArg some (by kernel_rfl)),
  t0 := Tryz.underlying0,
  a0 := Tryz.isAgg0,
  z0 := Tryz.sizeOf0,
  v0 := Tryz.zeroValue0,
  t3 := Tryz.underlying3,
  a3 := Tryz.isAgg3,
  z3 := Tryz.sizeOf3,
  v3 := Tryz.zeroValue3,
  t4 := Tryz.underlying4,
  a4 := Tryz.isAgg4,
  z4 := Tryz.sizeOf4,
  v4 := Tryz.zeroValue4,
  t5 := Tryz.underlying5,
  a5 := Tryz.isAgg5,
  z5 := Tryz.sizeOf5,
  v5 := Tryz.zeroValue5,
  t9 := Tryz.underlying9,
  a9 := Tryz.isAgg9,
  z9 := Tryz.sizeOf9,
  v9 := Tryz.zeroValue9,
  t37 := Tryz.underlying22,
  a37 := Tryz.isAgg22,
  z37 := Tryz.sizeOf22,
  v37 := Tryz.zeroValue22,
  t46 := Tryz.underlying128,
  a46 := Tryz.isAgg128,
  z46 := Tryz.sizeOf128,
  v46 := Tryz.zeroValue128,
  t51 := Tryz.underlying130,
  a51 := Tryz.isAgg130,
  z51 := Tryz.sizeOf130,
  v51 := Tryz.zeroValue130,
  t146 := Tryz.underlying174,
  a146 := Tryz.isAgg174,
  z146 := Tryz.sizeOf174,
  v146 := Tryz.zeroValue174,
  g1 := by kernel_rfl }
def ixB (s t : List Int) : Int := Lib.index (Lib.bytesOf s) (Lib.bytesOf t)
noncomputable def bytes_Index (s t : List Int) : Option Int :=
  gd (s.length < 4294967281) <|
  gd (2 ≤ t.length) <|
  gd (t.length ≤ 9223372036854775807) <|
  gd ((∀ x ∈ s, 0 ≤ x ∧ x < 256) ∧ ∀ y ∈ t, 0 ≤ y ∧ y < 256) <|
  some (ixB s t)
noncomputable def bytes_Index_fn : List AV → List (Nat × Obj) → Option Int
  | [.sl (.int .u8) _ s, .sl (.int .u8) _ t], [] => bytes_Index s t
  | _, _ => none
theorem ix_cells {w : World} {N : Nat → Prop} {xs : List Int} {A : Option Addr} (h1 : xs ≠ []) (h : xs = [] ∨ ∃ b o cl, A = some ⟨b, o, none⟩ ∧ N b ∧ CellsAt w b o cl ∧ Cat (PRd w N (.int .u8)) xs cl) :
    ∃ a, A = some a ∧ ∀ i, i < xs.length → w.cell? (a.add i) = some (.int .u8 (xs.getD i 0)) := by
  rcases h with h | ⟨b, o, cl, hA, hN, hc, hx⟩
  · exact absurd h h1
  · refine ⟨_, hA, fun i hi => ?_⟩
    have e : cl = xs.map (Value.int .u8) := cat_nums_cells (k := .u8) hx
    rw [Lib.add_plain']
    refine hc i _ ?_
    rw [e, List.getElem?_map, List.getElem?_eq_getElem hi, List.getD_eq_getElem?_getD, List.getElem?_eq_getElem hi]
    rfl
set_option maxRecDepth 100000 in
theorem bytes_Index_ok {GT : GTab} (hGT : lookL GT 3 = some ⟨.pair .unit .unit, ((), ())⟩) {avs : List AV} {pre : List (Nat × Obj)} {r : Int} (h : bytes_Index_fn avs pre = some r) : CallOK Tryz.prog GT 182 avs pre (.one (.int .i64 r)) [] := by
  unfold bytes_Index_fn at h
  split at h
  · rename_i f1 s f2 t
    unfold bytes_Index at h
    obtain ⟨hs, h⟩ := gd_some h
    obtain ⟨ht, h⟩ := gd_some h
    obtain ⟨ht2, h⟩ := gd_some h
    obtain ⟨⟨hb1, hb2⟩, h⟩ := gd_some h
    obtain rfl := Option.some.inj h
    intro w F G K vs hg hI hG hK hF hv
    obtain ⟨v1, r1, rfl, h1, h2⟩ := hv
    obtain ⟨v2, r2, rfl, h2, h3⟩ := h2
    simp only [VRdL] at h3; subst h3
    obtain ⟨A1, c1, e1, l1, k1⟩ := h1
    obtain ⟨A2, c2, e2, l2, k2⟩ := h2
    obtain rfl := (List.cons.inj e1).1
    obtain rfl := (List.cons.inj e2).1
    obtain ⟨m, hm⟩ := hg.2.2.2 3 hGT
    have fin : ∀ (w' : World) (q : Nat), w' = w.drewN q → ∃ K', (∀ l gh, K l = some gh → K' l = some gh) ∧ Inv ⟨w, F, G, (ngOf GT), []⟩ (lookL []) K' w' ∧ TVRd w' (NN ⟨w, F, G, (ngOf GT), []⟩ (lookL []) K' w') K' (.one (.int .i64 (ixB s t))) (.int .i64 (ixB s t)) := by
      rintro w' q rfl
      exact ⟨K, fun _ _ h => h, (hI.more (w' := w.drewN q) rfl rfl rfl (Nat.le_refl _) (fun k hk => rfl)).1, rfl⟩
    refine called_of (by kernel_rfl) (by kernel_rfl) ?_
    by_cases hlt : s.length < t.length
    · have hc := Any.bytes_Index_longer ixLays A1 A2 s.length c1 t.length c2 w ht hlt ht2
      have hi : ixB s t = -1 := by
        have hr := Lib.index_room (Lib.bytesOf s) (Lib.bytesOf t)
        have hge := Lib.index_ge (Lib.bytesOf s) (Lib.bytesOf t)
        unfold ixB
        have e1 : (Lib.bytesOf s).length = s.length := List.length_map ..
        have e2 : (Lib.bytesOf t).length = t.length := List.length_map ..
        rw [e1, e2] at hr
        by_cases h0 : 0 ≤ Lib.index (Lib.bytesOf s) (Lib.bytesOf t)
        · have := hr h0; omega
        · omega
      refine Calls.mono hc ?_
      rintro e w' ⟨rfl, rfl⟩
      refine ⟨_, rfl, ?_⟩
      rw [← hi]
      exact fin _ 0 rfl
    · obtain ⟨a1, rfl, hc1⟩ := ix_cells (xs := s) (by intro h; rw [h] at hlt; simp only [List.length_nil] at hlt; omega) k1
      obtain ⟨a2, rfl, hc2⟩ := ix_cells (xs := t) (by intro h; rw [h] at ht; simp at ht) k2
      have hc := Any.bytes_Index_at ixLays a1 a2 s.length c1 t.length c2 s t m w rfl rfl hb1 hb2 hc1 hc2 l1 hs ht2 hm
      refine Calls.mono hc ?_
      rintro e w' ⟨rfl, q, rfl⟩
      exact ⟨_, rfl, fin _ q rfl⟩
  · cases h
end Go.Ab

set_option linter.unusedVariables false
set_option maxRecDepth 20000
namespace Go.Ab
open Go Go.Proofs
def t40Tab1 : ByteArray := (ByteArray.mk #[0, 1, 2, 2, 3, 3, 3, 3, 4, 4, 4, 4, 4, 4, 4, 4, 5, 5, 5, 5, 5, 5, 5, 5, 5, 5, 5, 5, 5, 5, 5, 5, 6, 6, 6, 6, 6, 6, 6, 6, 6, 6, 6, 6, 6, 6, 6, 6, 6, 6, 6, 6, 6, 6, 6, 6, 6, 6, 6, 6, 6, 6, 6, 6, 7, 7, 7, 7, 7, 7, 7, 7, 7, 7, 7, 7, 7, 7, 7, 7, 7, 7, 7, 7, 7, 7, 7, 7, 7, 7, 7, 7, 7, 7, 7, 7, 7, 7, 7, 7, 7, 7, 7, 7, 7, 7, 7, 7, 7, 7, 7, 7, 7, 7, 7, 7, 7, 7, 7, 7, 7, 7, 7, 7, 7, 7, 7, 7, 8, 8, 8, 8, 8, 8, 8, 8, 8, 8, 8, 8, 8, 8, 8, 8, 8, 8, 8, 8, 8, 8, 8, 8, 8, 8, 8, 8, 8, 8, 8, 8, 8, 8, 8, 8, 8, 8, 8, 8, 8, 8, 8, 8, 8, 8, 8, 8, 8, 8, 8, 8, 8, 8, 8, 8, 8, 8, 8, 8, 8, 8, 8, 8, 8, 8, 8, 8, 8, 8, 8, 8, 8, 8, 8, 8, 8, 8, 8, 8, 8, 8, 8, 8, 8, 8, 8, 8, 8, 8, 8, 8, 8, 8, 8, 8, 8, 8, 8, 8, 8, 8, 8, 8, 8, 8, 8, 8, 8, 8, 8, 8, 8, 8, 8, 8, 8, 8, 8, 8, 8, 8, 8, 8, 8, 8, 8, 8])
abbrev T_api_Member : Ty := (.pair .str (.pair (.slice (.int .u8)) .unit))
abbrev D_api_Member : Type := (ByteArray × ((List Int) × Unit))
abbrev T_api_Record : Ty := (.pair .str (.pair (.int .i64) (.pair (.arr 20 (.int .u8)) .unit)))
abbrev D_api_Record : Type := (ByteArray × (Int × ((List Int) × Unit)))
abbrev T_api_BlockHead : Ty := (.pair (.int .u8) (.pair (.int .i64) (.pair (.int .i64) (.pair (.int .i64) (.pair (.int .i64) (.pair (.arr 20 (.int .u8)) .unit))))))
abbrev D_api_BlockHead : Type := (Int × (Int × (Int × (Int × (Int × ((List Int) × Unit))))))
abbrev T_api_Block : Ty := (.pair T_api_BlockHead (.pair (.slice (.int .u8)) .unit))
abbrev D_api_Block : Type := (D_api_BlockHead × ((List Int) × Unit))
abbrev T_api_Settings : Ty := (.pair (.int .i64) (.pair (.int .i64) .unit))
abbrev D_api_Settings : Type := (Int × (Int × Unit))
abbrev T_api_Listing : Ty := (.pair T_api_Settings (.pair (.slice T_api_Record) (.pair (.slice T_api_BlockHead) .unit)))
abbrev D_api_Listing : Type := (D_api_Settings × ((List D_api_Record) × ((List D_api_BlockHead) × Unit)))
abbrev T_api_Piece : Ty := (.pair (.int .i64) T_api_Settings)
abbrev D_api_Piece : Type := (Int × D_api_Settings)
abbrev T_api_Part : Ty := (.pair T_api_Piece (.pair (.slice (.int .u8)) .unit))
abbrev D_api_Part : Type := (D_api_Piece × ((List Int) × Unit))
abbrev T_verify_look : Ty := (.pair T_api_Settings (.pair (.slice T_api_Record) (.pair (.slice T_api_Piece) (.pair (.slice (.int .u8)) .unit))))
abbrev D_verify_look : Type := (D_api_Settings × ((List D_api_Record) × ((List D_api_Piece) × ((List Int) × Unit))))
abbrev T_extract_result : Ty := (.pair (.int .i64) (.pair (.slice (.int .u8)) (.pair (.int .i64) .unit)))
abbrev D_extract_result : Type := (Int × ((List Int) × (Int × Unit)))
abbrev T_api_Walk : Ty := (.pair (.int .i64) .unit)
abbrev D_api_Walk : Type := (Int × Unit)
abbrev T_member_source : Ty := (.pair (.slice (.int .u8)) T_api_Walk)
abbrev D_member_source : Type := ((List Int) × D_api_Walk)
abbrev T_member_reader : Ty := (.pair T_member_source .unit)
abbrev D_member_reader : Type := (D_member_source × Unit)
def G_widths : List Int := [1, 1, 2, 2, 2]
def G_quarters : List Int := [1518500249, 1859775393, 2400959708, 3395469782]
def GT : GTab := [(0, ⟨(.arr 5 (.int .i64)), G_widths⟩), (1, ⟨(.arr 4 (.int .u32)), G_quarters⟩), (2, ⟨.unit, ()⟩), (3, ⟨(.pair .unit .unit), ((), ())⟩)]
theorem mixed : Tryz.prog.follows .mixedOrders = true := by kernel_rfl
noncomputable def errors_As_S (acc : List AV → Bool) : Summ Tryz.prog GT := { f := 131, acc := acc, rows := false, nils := false, R := Bool × Int, fn := errors_As_fn, res := fun r => .one (.bool r.1), post := fun r => [(0, .box (.int .i64) r.2)], ok := fun _ _ _ h => errors_As_ok rfl h }
noncomputable def bytes_Index_S (acc : List AV → Bool) : Summ Tryz.prog GT := { f := 182, acc := acc, rows := false, nils := false, R := Int, fn := bytes_Index_fn, res := fun r => .one (.int .i64 r), post := fun _ => [], ok := fun _ _ _ h => bytes_Index_ok rfl h }
noncomputable def bytes_Equal_I : FnI Tryz.prog GT := { f := 93, cuts := [], tab := [], fm := ⟨true, [.val .bool []]⟩ }
noncomputable def bytes_Equal (a0 : List Int) (a1 : List Int) : Option (Bool) := bytes_Equal_I.call [(.sl (.int .u8) false a0), (.sl (.int .u8) false a1)] []
theorem bytes_Equal_eq (a0 : List Int) (a1 : List Int) : bytes_Equal a0 a1 = (
some ((ByteArray.toList (toStr a0)) == (ByteArray.toList (toStr a1)))) := (FnI.call_eq (by kernel_rfl)).trans (by kernel_rfl)
noncomputable def bytes_Equal_S (acc : List AV → Bool) : Summ Tryz.prog GT := bytes_Equal_I.summ mixed acc false false
noncomputable def bytes_HasPrefix_I : FnI Tryz.prog GT := { f := 84, cuts := [], tab := [bytes_Equal_S (fun _ => true)], fm := ⟨true, [.val .bool []]⟩ }
noncomputable def bytes_HasPrefix (a0 : List Int) (a1 : List Int) : Option (Bool) := bytes_HasPrefix_I.call [(.sl (.int .u8) false a0), (.sl (.int .u8) false a1)] []
theorem bytes_HasPrefix_eq (a0 : List Int) (a1 : List Int) : bytes_HasPrefix a0 a1 = (
if (decide ((Int.ofNat (List.length a0)) ≥ (Int.ofNat (List.length a1)))) = true then
gd (0 ≤ (Int.ofNat (List.length a1))) <|
gd ((Int.ofNat (List.length a1)) ≤ (Int.ofNat (List.length a0))) <|
(bytes_Equal (List.take (List.length a1) a0) a1).bind fun r1 =>
some (r1)
else
some (false)) := (FnI.call_eq (by kernel_rfl)).trans (by kernel_rfl)
noncomputable def bytes_HasPrefix_S (acc : List AV → Bool) : Summ Tryz.prog GT := bytes_HasPrefix_I.summ mixed acc false false
noncomputable def pack_Check_I : FnI Tryz.prog GT := { f := 71, cuts := [], tab := [], fm := ⟨true, [.val (.int .i64) []]⟩ }
noncomputable def pack_Check (a0 : D_api_Settings) : Option (Int) := pack_Check_I.call [(.agg T_api_Settings (inj false T_api_Settings a0))] []
theorem pack_Check_eq (a0 : D_api_Settings) : pack_Check a0 = (
if (decide (a0.1 < (0 : Int))) = true then
some (2 : Int)
else
if (decide (a0.1 > (7 : Int))) = true then
some (2 : Int)
else
if (decide (a0.2.1 < (16 : Int))) = true then
some (2 : Int)
else
if (decide (a0.2.1 > (4096 : Int))) = true then
some (2 : Int)
else
some (0 : Int)) := (FnI.call_eq (by kernel_rfl)).trans (by kernel_rfl)
noncomputable def pack_Check_S (acc : List AV → Bool) : Summ Tryz.prog GT := pack_Check_I.summ mixed acc false false
noncomputable def member_source_take_I : FnI Tryz.prog GT := { f := 183, cuts := [], tab := [], fm := ⟨false, [.val (.slice (.int .u8)) [.pu], .err 24 .i64, .box 0 T_member_reader [.pu]]⟩ }
noncomputable def member_source_take (a1 : Int) (b0 : D_member_reader) : Option (List Int × Option Int × D_member_reader) := member_source_take_I.call [(.ptr T_member_source 0 [.fst]), (.int .i64 a1)] [(0, (.box T_member_reader (inj false T_member_reader b0)))]
theorem member_source_take_eq (a1 : Int) (b0 : D_member_reader) : member_source_take a1 b0 = (
if (decide ((IntKind.wrap .i64 ((Int.ofNat (List.length b0.1.1)) - b0.1.2.1)) < a1)) = true then
some ([], ((some (18 : Int)), b0))
else
gd (0 ≤ (IntKind.wrap .i64 ((IntKind.wrap .i64 (b0.1.2.1 + a1)) - a1))) <|
gd ((IntKind.wrap .i64 ((IntKind.wrap .i64 (b0.1.2.1 + a1)) - a1)) ≤ (IntKind.wrap .i64 (b0.1.2.1 + a1))) <|
gd ((IntKind.wrap .i64 (b0.1.2.1 + a1)) ≤ (Int.ofNat (List.length b0.1.1))) <|
some ((List.take ((Int.toNat (IntKind.wrap .i64 (b0.1.2.1 + a1))) - (Int.toNat (IntKind.wrap .i64 ((IntKind.wrap .i64 (b0.1.2.1 + a1)) - a1)))) (List.drop (Int.toNat (IntKind.wrap .i64 ((IntKind.wrap .i64 (b0.1.2.1 + a1)) - a1))) b0.1.1)), (none, ((b0.1.1, ((IntKind.wrap .i64 (b0.1.2.1 + a1)), b0.1.2.2)), b0.2)))) := (FnI.call_eq (by kernel_rfl)).trans (by kernel_rfl)
noncomputable def member_source_take_S (acc : List AV → Bool) : Summ Tryz.prog GT := member_source_take_I.summ mixed acc false false
noncomputable def member_reader_record_I : FnI Tryz.prog GT := { f := 130, cuts := [], tab := [(member_source_take_S (fun _ => true)).dropping], fm := ⟨false, [.val T_api_Record [], .err 24 .i64, .box 0 T_member_reader [.pu]]⟩ }
noncomputable def member_reader_record (b0 : D_member_reader) : Option (D_api_Record × Option Int × D_member_reader) := member_reader_record_I.call [(.ptr T_member_reader 0 [])] [(0, (.box T_member_reader (inj false T_member_reader b0)))]
theorem member_reader_record_eq (b0 : D_member_reader) : member_reader_record b0 = (
(member_source_take (1 : Int) b0).bind fun r1 =>
if (not (Option.isNone r1.2.1)) = true then
some ((ByteArray.empty, ((0 : Int), ((List.replicate 20 (0 : Int)), ()))), r1.2)
else
gd (0 ≤ (0 : Int)) <|
gd ((0 : Int) < (Int.ofNat (List.length r1.1))) <|
(member_source_take (IntKind.wrap .i64 ((IntKind.wrap .i64 (List.getD r1.1 0 (0 : Int))) + (22 : Int))) r1.2.2).bind fun r2 =>
if (not (Option.isNone r2.2.1)) = true then
some ((ByteArray.empty, ((0 : Int), ((List.replicate 20 (0 : Int)), ()))), r2.2)
else
gd (0 ≤ (0 : Int)) <|
gd ((0 : Int) < (Int.ofNat (List.length r1.1))) <|
gd (0 ≤ (IntKind.wrap .i64 (List.getD r1.1 0 (0 : Int)))) <|
gd ((IntKind.wrap .i64 (List.getD r1.1 0 (0 : Int))) ≤ (Int.ofNat (List.length r2.1))) <|
gd (0 ≤ (IntKind.wrap .i64 (List.getD r1.1 0 (0 : Int)))) <|
gd ((IntKind.wrap .i64 (List.getD r1.1 0 (0 : Int))) < (Int.ofNat (List.length r2.1))) <|
gd (0 ≤ (8 : Int)) <|
gd (0 ≤ (IntKind.wrap .i64 ((IntKind.wrap .i64 (List.getD r1.1 0 (0 : Int))) + (1 : Int)))) <|
gd ((IntKind.wrap .i64 ((IntKind.wrap .i64 (List.getD r1.1 0 (0 : Int))) + (1 : Int))) < (Int.ofNat (List.length r2.1))) <|
gd (0 ≤ (IntKind.wrap .i64 ((IntKind.wrap .i64 (List.getD r1.1 0 (0 : Int))) + (2 : Int)))) <|
gd ((IntKind.wrap .i64 ((IntKind.wrap .i64 (List.getD r1.1 0 (0 : Int))) + (2 : Int))) ≤ (Int.ofNat (List.length r2.1))) <|
some (((toStr (List.take (Int.toNat (IntKind.wrap .i64 (List.getD r1.1 0 (0 : Int)))) r2.1)), ((bitsOr .i64 (IntKind.wrap .i64 ((IntKind.wrap .i64 (List.getD r2.1 (Int.toNat (IntKind.wrap .i64 (List.getD r1.1 0 (0 : Int)))) (0 : Int))) * (256 : Int))) (IntKind.wrap .i64 (List.getD r2.1 (Int.toNat (IntKind.wrap .i64 ((IntKind.wrap .i64 (List.getD r1.1 0 (0 : Int))) + (1 : Int)))) (0 : Int)))), ((splice (List.replicate 20 (0 : Int)) 0 (List.take (min (List.length (List.drop (Int.toNat (IntKind.wrap .i64 ((IntKind.wrap .i64 (List.getD r1.1 0 (0 : Int))) + (2 : Int)))) r2.1)) 20) (List.drop (Int.toNat (IntKind.wrap .i64 ((IntKind.wrap .i64 (List.getD r1.1 0 (0 : Int))) + (2 : Int)))) r2.1))), ()))), (none, r2.2.2))) := (FnI.call_eq (by kernel_rfl)).trans (by kernel_rfl)
noncomputable def member_reader_record_S (acc : List AV → Bool) : Summ Tryz.prog GT := member_reader_record_I.summ mixed acc false false
noncomputable def member_isName_I : FnI Tryz.prog GT := { f := 95, cuts := [⟨(2, 3), [0, 5, 6], false, false, []⟩], tab := [], fm := ⟨true, [.val .bool []]⟩ }
noncomputable def member_isName (a0 : ByteArray) : Option (Bool) := member_isName_I.call [(.str a0)] []
noncomputable def member_isName_c1 (v0 : ByteArray) (v5 : Int) (v6 : Int) : Option (Bool) := member_isName_I.sem ⟨[.code (cIn (cIn (cSnd (cFst (cSnd (bodyOf Tryz.prog 95)))))), .inLoop (cIn (cIn (cSnd (cFst (cSnd (bodyOf Tryz.prog 95)))))), .inBlock 0, .code (cSnd (cSnd (bodyOf Tryz.prog 95)))], ⟨[(0, (.one (.str v0))), (5, (.one (.int .i64 v5))), (6, (.one (.int .i64 v6)))], [], 8⟩⟩
theorem member_isName_eq (a0 : ByteArray) : member_isName a0 = (
member_isName_c1 a0 (Int.ofNat (ByteArray.size a0)) (0 : Int)) := (FnI.call_eq (by kernel_rfl)).trans (by kernel_rfl)
theorem member_isName_c1_eq (v0 : ByteArray) (v5 : Int) (v6 : Int) : member_isName_c1 v0 v5 v6 = (
if (decide (v6 < v5)) = true then
gd (0 ≤ v6) <|
gd (v6 < (v0.size : Int)) <|
if (decide ((btAt v0 (Int.toNat v6)) ≤ (32 : Int))) = true then
some (false)
else
gd (0 ≤ v6) <|
gd (v6 < (v0.size : Int)) <|
if (decide ((btAt v0 (Int.toNat v6)) > (126 : Int))) = true then
some (false)
else
member_isName_c1 v0 v5 (IntKind.wrap .i64 (v6 + (1 : Int)))
else
if (decide ((Int.ofNat (ByteArray.size v0)) > (0 : Int))) = true then
some (decide ((Int.ofNat (ByteArray.size v0)) ≤ (40 : Int)))
else
some (false)) := (FnI.sem_eq _).trans (by kernel_rfl)
noncomputable def member_isName_S (acc : List AV → Bool) : Summ Tryz.prog GT := member_isName_I.summ mixed acc false false
noncomputable def sha_pad_I : FnI Tryz.prog GT := { f := 104, cuts := [⟨(3, 3), [0, 3, 4], false, false, []⟩], tab := [], fm := ⟨true, [.val (.slice (.int .u8)) [.nw]]⟩ }
noncomputable def sha_pad (a0 : Int) : Option (List Int) := sha_pad_I.call [(.int .i64 a0)] []
noncomputable def sha_pad_c1 (v0 : Int) (v4 : Int) (h8 : List Int) : Option (List Int) := sha_pad_I.sem ⟨[.code (cIn (cIn (cSnd (cFst (cSnd (cSnd (bodyOf Tryz.prog 104))))))), .inLoop (cIn (cIn (cSnd (cFst (cSnd (cSnd (bodyOf Tryz.prog 104))))))), .inBlock 0, .code (cSnd (cSnd (cSnd (bodyOf Tryz.prog 104))))], ⟨[(0, (.one (.int .i64 v0))), (3, (.one (.ref (.int .u8) 8 0 (List.length h8) true))), (4, (.one (.int .i64 v4)))], [(8, some (.row (.int .u8) true h8))], 9⟩⟩
theorem sha_pad_eq (a0 : Int) : sha_pad a0 = (
gd ((64 : Int) ≠ 0) <|
gd ((64 : Int) ≠ 0) <|
gd (0 ≤ (Int.tmod (IntKind.wrap .i64 ((119 : Int) - (Int.tmod a0 (64 : Int)))) (64 : Int))) <|
gd ((Int.tmod (IntKind.wrap .i64 ((119 : Int) - (Int.tmod a0 (64 : Int)))) (64 : Int)) * 1 ≤ 140737488355328) <|
gd ((Int.tmod (IntKind.wrap .i64 ((119 : Int) - (Int.tmod a0 (64 : Int)))) (64 : Int)) ≤ 9223372036854775807) <|
gd ((List.length ([(128 : Int)] ++ (List.replicate (Int.toNat (Int.tmod (IntKind.wrap .i64 ((119 : Int) - (Int.tmod a0 (64 : Int)))) (64 : Int))) (0 : Int)))) * 1 ≤ 140737488355328) <|
sha_pad_c1 a0 (56 : Int) ([(128 : Int)] ++ (List.replicate (Int.toNat (Int.tmod (IntKind.wrap .i64 ((119 : Int) - (Int.tmod a0 (64 : Int)))) (64 : Int))) (0 : Int)))) := (FnI.call_eq (by kernel_rfl)).trans (by kernel_rfl)
theorem sha_pad_c1_eq (v0 : Int) (v4 : Int) (h8 : List Int) : sha_pad_c1 v0 v4 h8 = (
if (decide (v4 ≥ (0 : Int))) = true then
gd (0 ≤ v4) <|
gd ((List.length (h8 ++ [(IntKind.wrap .u8 (shrBy .u64 (IntKind.wrap .u64 ((IntKind.wrap .u64 v0) * (8 : Int))) v4))])) * 1 ≤ 140737488355328) <|
sha_pad_c1 v0 (IntKind.wrap .i64 (v4 - (8 : Int))) (h8 ++ [(IntKind.wrap .u8 (shrBy .u64 (IntKind.wrap .u64 ((IntKind.wrap .u64 v0) * (8 : Int))) v4))])
else
some (h8)) := (FnI.sem_eq _).trans (by kernel_rfl)
noncomputable def sha_pad_S (acc : List AV → Bool) : Summ Tryz.prog GT := sha_pad_I.summ mixed acc false false
noncomputable def slices_Grow_byte_byte_I : FnI Tryz.prog GT := { f := 147, cuts := [], tab := [], fm := ⟨true, [.part (.int .u8)]⟩ }
noncomputable def slices_Grow_byte_byte (a1 : Int) : Option (List Int × Nat × Nat) := slices_Grow_byte_byte_I.call [.nil, (.int .i64 a1)] []
theorem slices_Grow_byte_byte_eq (a1 : Int) : slices_Grow_byte_byte a1 = (
if (decide (a1 < (0 : Int))) = true then
none
else
if (decide ((IntKind.wrap .i64 (a1 - (0 : Int))) > (0 : Int))) = true then
gd (0 ≤ (0 : Int)) <|
gd ((0 : Int) ≤ (0 : Int)) <|
gd (0 ≤ (IntKind.wrap .i64 (a1 - (0 : Int)))) <|
gd ((IntKind.wrap .i64 (a1 - (0 : Int))) * 1 ≤ 140737488355328) <|
gd ((IntKind.wrap .i64 (a1 - (0 : Int))) ≤ 9223372036854775807) <|
gd ((List.length (List.replicate (Int.toNat (IntKind.wrap .i64 (a1 - (0 : Int)))) (0 : Int))) * 1 ≤ 140737488355328) <|
gd (0 ≤ (0 : Int)) <|
gd ((0 : Int) ≤ (Int.ofNat (List.length (List.replicate (Int.toNat (IntKind.wrap .i64 (a1 - (0 : Int)))) (0 : Int))))) <|
some ((List.replicate (Int.toNat (IntKind.wrap .i64 (a1 - (0 : Int)))) (0 : Int)), (0, 0))
else
some ([], (0, 0))) := (FnI.call_eq (by kernel_rfl)).trans (by kernel_rfl)
noncomputable def slices_Grow_byte_byte_S (acc : List AV → Bool) : Summ Tryz.prog GT := slices_Grow_byte_byte_I.summ mixed acc false true
noncomputable def slices_Concat_byte_byte_I : FnI Tryz.prog GT := { f := 103, cuts := [⟨(3, 3), [0, 3, 9, 10, 11], false, false, []⟩, ⟨(11, 3), [6, 25, 26, 27], false, false, []⟩], tab := [slices_Grow_byte_byte_S (fun _ => true)], fm := ⟨true, [.val (.slice (.int .u8)) [.pu]]⟩ }
noncomputable def slices_Concat_byte_byte (a0 : List (List Int)) : Option (List Int) := slices_Concat_byte_byte_I.call [(.sl (.slice (.int .u8)) false a0)] []
noncomputable def slices_Concat_byte_byte_c1 (v0 : List (List Int)) (v3 : Int) (v9 : List (List Int)) (v10 : Int) (v11 : Int) : Option (List Int) := slices_Concat_byte_byte_I.sem ⟨[.code (cIn (cIn (cSnd (cFst (cSnd (cSnd (bodyOf Tryz.prog 103))))))), .inLoop (cIn (cIn (cSnd (cFst (cSnd (cSnd (bodyOf Tryz.prog 103))))))), .inBlock 0, .code (cSnd (cSnd (cSnd (bodyOf Tryz.prog 103))))], ⟨[(0, (.one (.sl (.slice (.int .u8)) false v0))), (3, (.one (.int .i64 v3))), (9, (.one (.sl (.slice (.int .u8)) false v9))), (10, (.one (.int .i64 v10))), (11, (.one (.int .i64 v11)))], [], 8⟩⟩
noncomputable def slices_Concat_byte_byte_c2 (v6o : Nat) (v6n : Nat) (v25 : List (List Int)) (v26 : Int) (v27 : Int) (h8 : List Int) : Option (List Int) := slices_Concat_byte_byte_I.sem ⟨[.code (cIn (cIn (cSnd (cFst (cSnd (cSnd (cSnd (cSnd (bodyOf Tryz.prog 103))))))))), .inLoop (cIn (cIn (cSnd (cFst (cSnd (cSnd (cSnd (cSnd (bodyOf Tryz.prog 103))))))))), .inBlock 2, .code (cSnd (cSnd (cSnd (cSnd (cSnd (bodyOf Tryz.prog 103))))))], ⟨[(6, (.one (.ref (.int .u8) 8 v6o v6n false))), (25, (.one (.sl (.slice (.int .u8)) false v25))), (26, (.one (.int .i64 v26))), (27, (.one (.int .i64 v27)))], [(8, some (.row (.int .u8) true h8))], 9⟩⟩
noncomputable def slices_Concat_byte_byte_c3 (v25 : List (List Int)) (v26 : Int) (v27 : Int) (h8 : List Int) : Option (List Int) := slices_Concat_byte_byte_I.sem ⟨[.code (cIn (cIn (cSnd (cFst (cSnd (cSnd (cSnd (cSnd (bodyOf Tryz.prog 103))))))))), .inLoop (cIn (cIn (cSnd (cFst (cSnd (cSnd (cSnd (cSnd (bodyOf Tryz.prog 103))))))))), .inBlock 2, .code (cSnd (cSnd (cSnd (cSnd (cSnd (bodyOf Tryz.prog 103))))))], ⟨[(6, (.one (.ref (.int .u8) 8 0 (List.length h8) true))), (25, (.one (.sl (.slice (.int .u8)) false v25))), (26, (.one (.int .i64 v26))), (27, (.one (.int .i64 v27)))], [(8, some (.row (.int .u8) true h8))], 9⟩⟩
theorem slices_Concat_byte_byte_eq (a0 : List (List Int)) : slices_Concat_byte_byte a0 = (
slices_Concat_byte_byte_c1 a0 (0 : Int) a0 (Int.ofNat (List.length a0)) (0 : Int)) := (FnI.call_eq (by kernel_rfl)).trans (by kernel_rfl)
theorem slices_Concat_byte_byte_c1_eq (v0 : List (List Int)) (v3 : Int) (v9 : List (List Int)) (v10 : Int) (v11 : Int) : slices_Concat_byte_byte_c1 v0 v3 v9 v10 v11 = (
if (decide (v11 < v10)) = true then
gd (0 ≤ v11) <|
gd (v11 < (Int.ofNat (List.length v9))) <|
if (decide ((IntKind.wrap .i64 (v3 + (Int.ofNat (List.length (List.getD v9 (Int.toNat v11) []))))) < (0 : Int))) = true then
none
else
slices_Concat_byte_byte_c1 v0 (IntKind.wrap .i64 (v3 + (Int.ofNat (List.length (List.getD v9 (Int.toNat v11) []))))) v9 v10 (IntKind.wrap .i64 (v11 + (1 : Int)))
else
(slices_Grow_byte_byte v3).bind fun r1 =>
slices_Concat_byte_byte_c2 r1.2.1 r1.2.2 v0 (Int.ofNat (List.length v0)) (0 : Int) r1.1) := (FnI.sem_eq _).trans (by kernel_rfl)
theorem slices_Concat_byte_byte_c2_eq (v6o : Nat) (v6n : Nat) (v25 : List (List Int)) (v26 : Int) (v27 : Int) (h8 : List Int) : slices_Concat_byte_byte_c2 v6o v6n v25 v26 v27 h8 = (
if (decide (v27 < v26)) = true then
gd (0 ≤ v27) <|
gd (v27 < (Int.ofNat (List.length v25))) <|
gd ((List.length ((List.take v6n (List.drop v6o h8)) ++ (List.getD v25 (Int.toNat v27) []))) * 1 ≤ 140737488355328) <|
slices_Concat_byte_byte_c3 v25 v26 (IntKind.wrap .i64 (v27 + (1 : Int))) ((List.take v6n (List.drop v6o h8)) ++ (List.getD v25 (Int.toNat v27) []))
else
some (List.take v6n (List.drop v6o h8))) := (FnI.sem_eq _).trans (by kernel_rfl)
theorem slices_Concat_byte_byte_c3_eq (v25 : List (List Int)) (v26 : Int) (v27 : Int) (h8 : List Int) : slices_Concat_byte_byte_c3 v25 v26 v27 h8 = (
if (decide (v27 < v26)) = true then
gd (0 ≤ v27) <|
gd (v27 < (Int.ofNat (List.length v25))) <|
gd ((List.length (h8 ++ (List.getD v25 (Int.toNat v27) []))) * 1 ≤ 140737488355328) <|
slices_Concat_byte_byte_c3 v25 v26 (IntKind.wrap .i64 (v27 + (1 : Int))) (h8 ++ (List.getD v25 (Int.toNat v27) []))
else
some (h8)) := (FnI.sem_eq _).trans (by kernel_rfl)
noncomputable def slices_Concat_byte_byte_S (acc : List AV → Bool) : Summ Tryz.prog GT := slices_Concat_byte_byte_I.summ mixed acc false false
noncomputable def math_bits_RotateLeft32_I : FnI Tryz.prog GT := { f := 148, cuts := [], tab := [], fm := ⟨true, [.val (.int .u32) []]⟩ }
noncomputable def math_bits_RotateLeft32 (a0 : Int) (a1 : Int) : Option (Int) := math_bits_RotateLeft32_I.call [(.int .u32 a0), (.int .i64 a1)] []
theorem math_bits_RotateLeft32_eq (a0 : Int) (a1 : Int) : math_bits_RotateLeft32 a0 a1 = (
gd (0 ≤ (bitsAnd .u64 (IntKind.wrap .u64 a1) (31 : Int))) <|
gd (0 ≤ (IntKind.wrap .u64 ((32 : Int) - (bitsAnd .u64 (IntKind.wrap .u64 a1) (31 : Int))))) <|
some (bitsOr .u32 (IntKind.wrap .u32 (shlBy .u32 a0 (bitsAnd .u64 (IntKind.wrap .u64 a1) (31 : Int)))) (shrBy .u32 a0 (IntKind.wrap .u64 ((32 : Int) - (bitsAnd .u64 (IntKind.wrap .u64 a1) (31 : Int))))))) := (FnI.call_eq (by kernel_rfl)).trans (by kernel_rfl)
noncomputable def math_bits_RotateLeft32_S (acc : List AV → Bool) : Summ Tryz.prog GT := math_bits_RotateLeft32_I.summ mixed acc false false
noncomputable def sha_mix_I : FnI Tryz.prog GT := { f := 149, cuts := [], tab := [], fm := ⟨true, [.val (.int .u32) []]⟩ }
noncomputable def sha_mix (a0 : Int) (a1 : Int) (a2 : Int) (a3 : Int) : Option (Int) := sha_mix_I.call [(.int .i64 a0), (.int .u32 a1), (.int .u32 a2), (.int .u32 a3)] []
theorem sha_mix_eq (a0 : Int) (a1 : Int) (a2 : Int) (a3 : Int) : sha_mix a0 a1 a2 a3 = (
if (a0 == (0 : Int)) = true then
some (bitsXor .u32 a3 (bitsAnd .u32 a1 (bitsXor .u32 a2 a3)))
else
if (a0 == (2 : Int)) = true then
some (bitsOr .u32 (bitsAnd .u32 a1 a2) (bitsAnd .u32 a3 (bitsOr .u32 a1 a2)))
else
some (bitsXor .u32 (bitsXor .u32 a1 a2) a3)) := (FnI.call_eq (by kernel_rfl)).trans (by kernel_rfl)
noncomputable def sha_mix_S (acc : List AV → Bool) : Summ Tryz.prog GT := sha_mix_I.summ mixed acc false false
noncomputable def sha_do_I : FnI Tryz.prog GT := { f := 105, cuts := [⟨(3, 3), [2, 4, 5, 16, 17, 18], false, false, []⟩, ⟨(9, 3), [2, 4, 5, 8, 9, 10, 11, 12, 45], false, false, []⟩], tab := [math_bits_RotateLeft32_S (fun _ => true), sha_mix_S (fun _ => true)], fm := ⟨true, [.val (.arr 5 (.int .u32)) []]⟩ }
noncomputable def sha_do (a0 : (List Int)) (a1 : List Int) : Option ((List Int)) := sha_do_I.call [(.agg (.arr 5 (.int .u32)) a0), (.sl (.int .u8) false a1)] []
noncomputable def sha_do_c1 (v16 : List Int) (v17 : Int) (v18 : Int) (b8 : (List Int)) (b9 : (List Int)) (b10 : (List Int)) : Option ((List Int)) := sha_do_I.sem ⟨[.code (cIn (cIn (cSnd (cFst (cSnd (cSnd (bodyOf Tryz.prog 105))))))), .inLoop (cIn (cIn (cSnd (cFst (cSnd (cSnd (bodyOf Tryz.prog 105))))))), .inBlock 0, .code (cSnd (cSnd (cSnd (bodyOf Tryz.prog 105))))], ⟨[(2, (.one (.ptr (.arr 5 (.int .u32)) 8 []))), (4, (.one (.ptr (.arr 5 (.int .u32)) 9 []))), (5, (.one (.ptr (.arr 16 (.int .u32)) 10 []))), (16, (.one (.sl (.int .u8) false v16))), (17, (.one (.int .i64 v17))), (18, (.one (.int .i64 v18)))], [(8, some (.box (.arr 5 (.int .u32)) b8)), (9, some (.box (.arr 5 (.int .u32)) b9)), (10, some (.box (.arr 16 (.int .u32)) b10))], 11⟩⟩
noncomputable def sha_do_c2 (v8 : Int) (v9 : Int) (v10 : Int) (v11 : Int) (v12 : Int) (v45 : Int) (b8 : (List Int)) (b9 : (List Int)) (b10 : (List Int)) : Option ((List Int)) := sha_do_I.sem ⟨[.code (cIn (cIn (cSnd (cFst (cSnd (cSnd (cSnd (cSnd (bodyOf Tryz.prog 105))))))))), .inLoop (cIn (cIn (cSnd (cFst (cSnd (cSnd (cSnd (cSnd (bodyOf Tryz.prog 105))))))))), .inBlock 2, .code (cSnd (cSnd (cSnd (cSnd (cSnd (bodyOf Tryz.prog 105))))))], ⟨[(2, (.one (.ptr (.arr 5 (.int .u32)) 8 []))), (4, (.one (.ptr (.arr 5 (.int .u32)) 9 []))), (5, (.one (.ptr (.arr 16 (.int .u32)) 10 []))), (8, (.one (.int .u32 v8))), (9, (.one (.int .u32 v9))), (10, (.one (.int .u32 v10))), (11, (.one (.int .u32 v11))), (12, (.one (.int .u32 v12))), (45, (.one (.int .i64 v45)))], [(8, some (.box (.arr 5 (.int .u32)) b8)), (9, some (.box (.arr 5 (.int .u32)) b9)), (10, some (.box (.arr 16 (.int .u32)) b10))], 11⟩⟩
theorem sha_do_eq (a0 : (List Int)) (a1 : List Int) : sha_do a0 a1 = (
gd (0 ≤ (64 : Int)) <|
gd ((64 : Int) ≤ (Int.ofNat (List.length a1))) <|
sha_do_c1 (List.take 64 a1) (Int.ofNat (List.length (List.take 64 a1))) (0 : Int) a0 (List.replicate 5 (0 : Int)) (List.replicate 16 (0 : Int))) := (FnI.call_eq (by kernel_rfl)).trans (by kernel_rfl)
theorem sha_do_c1_eq (v16 : List Int) (v17 : Int) (v18 : Int) (b8 : (List Int)) (b9 : (List Int)) (b10 : (List Int)) : sha_do_c1 v16 v17 v18 b8 b9 b10 = (
if (decide (v18 < v17)) = true then
gd (0 ≤ v18) <|
gd (v18 < (Int.ofNat (List.length v16))) <|
gd ((4 : Int) ≠ 0) <|
gd ((4 : Int) ≠ 0) <|
gd (0 ≤ (IntKind.wrap .i64 (Int.tdiv v18 (4 : Int)))) <|
gd ((IntKind.wrap .i64 (Int.tdiv v18 (4 : Int))) < (16 : Int)) <|
gd (0 ≤ (8 : Int)) <|
gd (0 ≤ (IntKind.wrap .i64 (Int.tdiv v18 (4 : Int)))) <|
gd ((IntKind.wrap .i64 (Int.tdiv v18 (4 : Int))) < (16 : Int)) <|
sha_do_c1 v16 v17 (IntKind.wrap .i64 (v18 + (1 : Int))) b8 b9 (List.set b10 (Int.toNat (IntKind.wrap .i64 (Int.tdiv v18 (4 : Int)))) (bitsOr .u32 (IntKind.wrap .u32 ((List.getD b10 (Int.toNat (IntKind.wrap .i64 (Int.tdiv v18 (4 : Int)))) (0 : Int)) * (256 : Int))) (IntKind.wrap .u32 (List.getD v16 (Int.toNat v18) (0 : Int)))))
else
gd (0 ≤ (0 : Int)) <|
gd ((0 : Int) < (5 : Int)) <|
gd (0 ≤ (1 : Int)) <|
gd ((1 : Int) < (5 : Int)) <|
gd (0 ≤ (2 : Int)) <|
gd ((2 : Int) < (5 : Int)) <|
gd (0 ≤ (3 : Int)) <|
gd ((3 : Int) < (5 : Int)) <|
gd (0 ≤ (4 : Int)) <|
gd ((4 : Int) < (5 : Int)) <|
sha_do_c2 (List.getD b8 0 (0 : Int)) (List.getD b8 1 (0 : Int)) (List.getD b8 2 (0 : Int)) (List.getD b8 3 (0 : Int)) (List.getD b8 4 (0 : Int)) (0 : Int) b8 b9 b10) := (FnI.sem_eq _).trans (by kernel_rfl)
theorem sha_do_c2_eq (v8 : Int) (v9 : Int) (v10 : Int) (v11 : Int) (v12 : Int) (v45 : Int) (b8 : (List Int)) (b9 : (List Int)) (b10 : (List Int)) : sha_do_c2 v8 v9 v10 v11 v12 v45 b8 b9 b10 = (
if (decide (v45 < (80 : Int))) = true then
if (decide (v45 ≥ (16 : Int))) = true then
gd ((16 : Int) ≠ 0) <|
gd ((16 : Int) ≠ 0) <|
gd (0 ≤ (Int.tmod (IntKind.wrap .i64 (v45 + (13 : Int))) (16 : Int))) <|
gd ((Int.tmod (IntKind.wrap .i64 (v45 + (13 : Int))) (16 : Int)) < (16 : Int)) <|
gd ((16 : Int) ≠ 0) <|
gd (0 ≤ (Int.tmod (IntKind.wrap .i64 (v45 + (8 : Int))) (16 : Int))) <|
gd ((Int.tmod (IntKind.wrap .i64 (v45 + (8 : Int))) (16 : Int)) < (16 : Int)) <|
gd ((16 : Int) ≠ 0) <|
gd (0 ≤ (Int.tmod (IntKind.wrap .i64 (v45 + (2 : Int))) (16 : Int))) <|
gd ((Int.tmod (IntKind.wrap .i64 (v45 + (2 : Int))) (16 : Int)) < (16 : Int)) <|
gd ((16 : Int) ≠ 0) <|
gd (0 ≤ (Int.tmod v45 (16 : Int))) <|
gd ((Int.tmod v45 (16 : Int)) < (16 : Int)) <|
(math_bits_RotateLeft32 (bitsXor .u32 (bitsXor .u32 (bitsXor .u32 (List.getD b10 (Int.toNat (Int.tmod (IntKind.wrap .i64 (v45 + (13 : Int))) (16 : Int))) (0 : Int)) (List.getD b10 (Int.toNat (Int.tmod (IntKind.wrap .i64 (v45 + (8 : Int))) (16 : Int))) (0 : Int))) (List.getD b10 (Int.toNat (Int.tmod (IntKind.wrap .i64 (v45 + (2 : Int))) (16 : Int))) (0 : Int))) (List.getD b10 (Int.toNat (Int.tmod v45 (16 : Int))) (0 : Int))) (1 : Int)).bind fun r1 =>
gd (0 ≤ (Int.tmod v45 (16 : Int))) <|
gd ((Int.tmod v45 (16 : Int)) < (16 : Int)) <|
(math_bits_RotateLeft32 v8 (5 : Int)).bind fun r2 =>
gd ((20 : Int) ≠ 0) <|
(sha_mix (IntKind.wrap .i64 (Int.tdiv v45 (20 : Int))) v9 v10 v11).bind fun r3 =>
gd ((20 : Int) ≠ 0) <|
gd (0 ≤ (IntKind.wrap .i64 (Int.tdiv v45 (20 : Int)))) <|
gd ((IntKind.wrap .i64 (Int.tdiv v45 (20 : Int))) < (4 : Int)) <|
gd ((16 : Int) ≠ 0) <|
gd (0 ≤ (Int.tmod v45 (16 : Int))) <|
gd ((Int.tmod v45 (16 : Int)) < (16 : Int)) <|
(math_bits_RotateLeft32 v9 (30 : Int)).bind fun r4 =>
sha_do_c2 (IntKind.wrap .u32 ((IntKind.wrap .u32 ((IntKind.wrap .u32 ((IntKind.wrap .u32 (r2 + r3)) + v12)) + (List.getD G_quarters (Int.toNat (IntKind.wrap .i64 (Int.tdiv v45 (20 : Int)))) (0 : Int)))) + (List.getD (List.set b10 (Int.toNat (Int.tmod v45 (16 : Int))) r1) (Int.toNat (Int.tmod v45 (16 : Int))) (0 : Int)))) v8 r4 v10 v11 (IntKind.wrap .i64 (v45 + (1 : Int))) b8 b9 (List.set b10 (Int.toNat (Int.tmod v45 (16 : Int))) r1)
else
(math_bits_RotateLeft32 v8 (5 : Int)).bind fun r5 =>
gd ((20 : Int) ≠ 0) <|
(sha_mix (IntKind.wrap .i64 (Int.tdiv v45 (20 : Int))) v9 v10 v11).bind fun r6 =>
gd ((20 : Int) ≠ 0) <|
gd (0 ≤ (IntKind.wrap .i64 (Int.tdiv v45 (20 : Int)))) <|
gd ((IntKind.wrap .i64 (Int.tdiv v45 (20 : Int))) < (4 : Int)) <|
gd ((16 : Int) ≠ 0) <|
gd (0 ≤ (Int.tmod v45 (16 : Int))) <|
gd ((Int.tmod v45 (16 : Int)) < (16 : Int)) <|
(math_bits_RotateLeft32 v9 (30 : Int)).bind fun r7 =>
sha_do_c2 (IntKind.wrap .u32 ((IntKind.wrap .u32 ((IntKind.wrap .u32 ((IntKind.wrap .u32 (r5 + r6)) + v12)) + (List.getD G_quarters (Int.toNat (IntKind.wrap .i64 (Int.tdiv v45 (20 : Int)))) (0 : Int)))) + (List.getD b10 (Int.toNat (Int.tmod v45 (16 : Int))) (0 : Int)))) v8 r7 v10 v11 (IntKind.wrap .i64 (v45 + (1 : Int))) b8 b9 b10
else
gd (0 ≤ (0 : Int)) <|
gd ((0 : Int) < (5 : Int)) <|
gd (0 ≤ (1 : Int)) <|
gd ((1 : Int) < (5 : Int)) <|
gd (0 ≤ (2 : Int)) <|
gd ((2 : Int) < (5 : Int)) <|
gd (0 ≤ (3 : Int)) <|
gd ((3 : Int) < (5 : Int)) <|
gd (0 ≤ (4 : Int)) <|
gd ((4 : Int) < (5 : Int)) <|
some (List.set (List.set (List.set (List.set (List.set (List.replicate 5 (0 : Int)) 0 (IntKind.wrap .u32 ((List.getD b8 0 (0 : Int)) + v8))) 1 (IntKind.wrap .u32 ((List.getD b8 1 (0 : Int)) + v9))) 2 (IntKind.wrap .u32 ((List.getD b8 2 (0 : Int)) + v10))) 3 (IntKind.wrap .u32 ((List.getD b8 3 (0 : Int)) + v11))) 4 (IntKind.wrap .u32 ((List.getD b8 4 (0 : Int)) + v12)))) := (FnI.sem_eq _).trans (by kernel_rfl)
noncomputable def sha_do_S (acc : List AV → Bool) : Summ Tryz.prog GT := sha_do_I.summ mixed acc false false
noncomputable def sha_Sum_I : FnI Tryz.prog GT := { f := 61, cuts := [⟨(5, 3), [2, 4, 5], false, false, []⟩, ⟨(9, 3), [2, 27, 28], false, false, []⟩], tab := [sha_pad_S (fun _ => true), slices_Concat_byte_byte_S (fun _ => true), sha_do_S (fun _ => true)], fm := ⟨true, [.val (.arr 20 (.int .u8)) [], .val (.int .i64) []]⟩ }
noncomputable def sha_Sum (a0 : List Int) : Option ((List Int) × Int) := sha_Sum_I.call [(.sl (.int .u8) false a0)] []
noncomputable def sha_Sum_c1 (v5 : List Int) (b8 : (List Int)) (b9 : (List Int)) : Option ((List Int) × Int) := sha_Sum_I.sem ⟨[.code (cIn (cIn (cSnd (cFst (cSnd (cSnd (cSnd (bodyOf Tryz.prog 61)))))))), .inLoop (cIn (cIn (cSnd (cFst (cSnd (cSnd (cSnd (bodyOf Tryz.prog 61)))))))), .inBlock 0, .code (cSnd (cSnd (cSnd (cSnd (bodyOf Tryz.prog 61)))))], ⟨[(2, (.one (.ptr (.arr 20 (.int .u8)) 8 []))), (4, (.one (.ptr (.arr 5 (.int .u32)) 9 []))), (5, (.one (.sl (.int .u8) true v5)))], [(8, some (.box (.arr 20 (.int .u8)) b8)), (9, some (.box (.arr 5 (.int .u32)) b9))], 10⟩⟩
noncomputable def sha_Sum_c2 (v27 : (List Int)) (v28 : Int) (b8 : (List Int)) : Option ((List Int) × Int) := sha_Sum_I.sem ⟨[.code (cIn (cIn (cSnd (cFst (cSnd (cSnd (cSnd (cSnd (bodyOf Tryz.prog 61))))))))), .inLoop (cIn (cIn (cSnd (cFst (cSnd (cSnd (cSnd (cSnd (bodyOf Tryz.prog 61))))))))), .inBlock 2, .code (cSnd (cSnd (cSnd (cSnd (cSnd (bodyOf Tryz.prog 61))))))], ⟨[(2, (.one (.ptr (.arr 20 (.int .u8)) 8 []))), (27, (.one (.agg (.arr 5 (.int .u32)) v27))), (28, (.one (.int .i64 v28)))], [(8, some (.box (.arr 20 (.int .u8)) b8))], 9⟩⟩
theorem sha_Sum_eq (a0 : List Int) : sha_Sum a0 = (
if (decide ((Int.ofNat (List.length a0)) > (20000 : Int))) = true then
some ((List.replicate 20 (0 : Int)), (4 : Int))
else
(sha_pad (Int.ofNat (List.length a0))).bind fun r1 =>
(slices_Concat_byte_byte [a0, r1]).bind fun r2 =>
sha_Sum_c1 r2 (List.replicate 20 (0 : Int)) (List.set (List.set (List.set (List.set (List.set (List.replicate 5 (0 : Int)) 0 (1732584193 : Int)) 1 (4023233417 : Int)) 2 (2562383102 : Int)) 3 (271733878 : Int)) 4 (3285377520 : Int))) := (FnI.call_eq (by kernel_rfl)).trans (by kernel_rfl)
theorem sha_Sum_c1_eq (v5 : List Int) (b8 : (List Int)) (b9 : (List Int)) : sha_Sum_c1 v5 b8 b9 = (
if (decide ((Int.ofNat (List.length v5)) > (0 : Int))) = true then
(sha_do b9 v5).bind fun r3 =>
gd (0 ≤ (64 : Int)) <|
gd ((64 : Int) ≤ (Int.ofNat (List.length v5))) <|
sha_Sum_c1 (List.drop 64 v5) b8 r3
else
sha_Sum_c2 b9 (0 : Int) b8) := (FnI.sem_eq _).trans (by kernel_rfl)
theorem sha_Sum_c2_eq (v27 : (List Int)) (v28 : Int) (b8 : (List Int)) : sha_Sum_c2 v27 v28 b8 = (
if (decide (v28 < (5 : Int))) = true then
gd (0 ≤ v28) <|
gd (v28 < (5 : Int)) <|
gd (0 ≤ (24 : Int)) <|
gd (0 ≤ (16 : Int)) <|
gd (0 ≤ (8 : Int)) <|
gd (0 ≤ (IntKind.wrap .i64 ((4 : Int) * v28))) <|
gd ((IntKind.wrap .i64 ((4 : Int) * v28)) < (20 : Int)) <|
gd (0 ≤ (IntKind.wrap .i64 ((IntKind.wrap .i64 ((4 : Int) * v28)) + (1 : Int)))) <|
gd ((IntKind.wrap .i64 ((IntKind.wrap .i64 ((4 : Int) * v28)) + (1 : Int))) < (20 : Int)) <|
gd (0 ≤ (IntKind.wrap .i64 ((IntKind.wrap .i64 ((4 : Int) * v28)) + (2 : Int)))) <|
gd ((IntKind.wrap .i64 ((IntKind.wrap .i64 ((4 : Int) * v28)) + (2 : Int))) < (20 : Int)) <|
gd (0 ≤ (IntKind.wrap .i64 ((IntKind.wrap .i64 ((4 : Int) * v28)) + (3 : Int)))) <|
gd ((IntKind.wrap .i64 ((IntKind.wrap .i64 ((4 : Int) * v28)) + (3 : Int))) < (20 : Int)) <|
sha_Sum_c2 v27 (IntKind.wrap .i64 (v28 + (1 : Int))) (List.set (List.set (List.set (List.set b8 (Int.toNat (IntKind.wrap .i64 ((4 : Int) * v28))) (IntKind.wrap .u8 (Int.fdiv (List.getD v27 (Int.toNat v28) (0 : Int)) (16777216 : Int)))) (Int.toNat (IntKind.wrap .i64 ((IntKind.wrap .i64 ((4 : Int) * v28)) + (1 : Int)))) (IntKind.wrap .u8 (Int.fdiv (List.getD v27 (Int.toNat v28) (0 : Int)) (65536 : Int)))) (Int.toNat (IntKind.wrap .i64 ((IntKind.wrap .i64 ((4 : Int) * v28)) + (2 : Int)))) (IntKind.wrap .u8 (Int.fdiv (List.getD v27 (Int.toNat v28) (0 : Int)) (256 : Int)))) (Int.toNat (IntKind.wrap .i64 ((IntKind.wrap .i64 ((4 : Int) * v28)) + (3 : Int)))) (IntKind.wrap .u8 (List.getD v27 (Int.toNat v28) (0 : Int))))
else
some (b8, (0 : Int))) := (FnI.sem_eq _).trans (by kernel_rfl)
noncomputable def sha_Sum_S (acc : List AV → Bool) : Summ Tryz.prog GT := sha_Sum_I.summ mixed acc false false
noncomputable def member_digest_I : FnI Tryz.prog GT := { f := 96, cuts := [], tab := [sha_Sum_S (fun _ => true)], fm := ⟨true, [.val (.arr 20 (.int .u8)) []]⟩ }
noncomputable def member_digest (a0 : List Int) : Option ((List Int)) := member_digest_I.call [(.sl (.int .u8) false a0)] []
theorem member_digest_eq (a0 : List Int) : member_digest a0 = (
(sha_Sum a0).bind fun r1 =>
some (r1.1)) := (FnI.call_eq (by kernel_rfl)).trans (by kernel_rfl)
noncomputable def member_digest_S (acc : List AV → Bool) : Summ Tryz.prog GT := member_digest_I.summ mixed acc false false
noncomputable def member_twice_I : FnI Tryz.prog GT := { f := 97, cuts := [⟨(3, 3), [3, 7, 8, 9], false, false, []⟩], tab := [], fm := ⟨true, [.val .bool []]⟩ }
noncomputable def member_twice (a0 : List ByteArray) : Option (Bool) := member_twice_I.call [(.sl .str false a0)] []
noncomputable def member_twice_c1 (v7 : List ByteArray) (v8 : Int) (v9 : Int) (m8 : List (ByteArray × Bool)) : Option (Bool) := member_twice_I.sem ⟨[.code (cIn (cIn (cSnd (cFst (cSnd (cSnd (bodyOf Tryz.prog 97))))))), .inLoop (cIn (cIn (cSnd (cFst (cSnd (cSnd (bodyOf Tryz.prog 97))))))), .inBlock 0, .code (cSnd (cSnd (cSnd (bodyOf Tryz.prog 97))))], ⟨[(3, (.one (.mapr 8))), (7, (.one (.sl .str false v7))), (8, (.one (.int .i64 v8))), (9, (.one (.int .i64 v9)))], [(8, some (.map .str .bool m8))], 9⟩⟩
theorem member_twice_eq (a0 : List ByteArray) : member_twice a0 = (
member_twice_c1 a0 (Int.ofNat (List.length a0)) (0 : Int) []) := (FnI.call_eq (by kernel_rfl)).trans (by kernel_rfl)
theorem member_twice_c1_eq (v7 : List ByteArray) (v8 : Int) (v9 : Int) (m8 : List (ByteArray × Bool)) : member_twice_c1 v7 v8 v9 m8 = (
if (decide (v9 < v8)) = true then
gd (0 ≤ v9) <|
gd (v9 < (Int.ofNat (List.length v7))) <|
if (Option.getD (mget (peq .str) (List.getD v7 (Int.toNat v9) ByteArray.empty) m8) false) = true then
some (true)
else
member_twice_c1 v7 v8 (IntKind.wrap .i64 (v9 + (1 : Int))) (mset (peq .str) (List.getD v7 (Int.toNat v9) ByteArray.empty) true m8)
else
some (false)) := (FnI.sem_eq _).trans (by kernel_rfl)
noncomputable def member_twice_S (acc : List AV → Bool) : Summ Tryz.prog GT := member_twice_I.summ mixed acc false false
noncomputable def member_Valid_I : FnI Tryz.prog GT := { f := 57, cuts := [⟨(6, 3), [3, 4, 10, 11, 12], false, false, []⟩], tab := [member_isName_S (fun _ => true), member_digest_S (fun _ => true), member_twice_S (fun _ => true)], fm := ⟨true, [.val (.int .i64) []]⟩ }
noncomputable def member_Valid (a0 : List D_api_Record) : Option (Int) := member_Valid_I.call [(.sl T_api_Record false a0)] []
noncomputable def member_Valid_c1 (v3 : Int) (v10 : List D_api_Record) (v11 : Int) (v12 : Int) (h8 : List ByteArray) : Option (Int) := member_Valid_I.sem ⟨[.code (cIn (cIn (cSnd (cFst (cSnd (cSnd (cSnd (cSnd (bodyOf Tryz.prog 57))))))))), .inLoop (cIn (cIn (cSnd (cFst (cSnd (cSnd (cSnd (cSnd (bodyOf Tryz.prog 57))))))))), .inBlock 0, .code (cSnd (cSnd (cSnd (cSnd (cSnd (bodyOf Tryz.prog 57))))))], ⟨[(3, (.one (.int .i64 v3))), (4, (.one (.ref .str 8 0 (List.length h8) true))), (10, (.one (.sl T_api_Record false v10))), (11, (.one (.int .i64 v11))), (12, (.one (.int .i64 v12)))], [(8, some (.row .str true h8))], 9⟩⟩
theorem member_Valid_eq (a0 : List D_api_Record) : member_Valid a0 = (
if (decide ((Int.ofNat (List.length a0)) > (16 : Int))) = true then
some (4 : Int)
else
member_Valid_c1 (0 : Int) a0 (Int.ofNat (List.length a0)) (0 : Int) []) := (FnI.call_eq (by kernel_rfl)).trans (by kernel_rfl)
theorem member_Valid_c1_eq (v3 : Int) (v10 : List D_api_Record) (v11 : Int) (v12 : Int) (h8 : List ByteArray) : member_Valid_c1 v3 v10 v11 v12 h8 = (
if (decide (v12 < v11)) = true then
gd (0 ≤ v12) <|
gd (v12 < (Int.ofNat (List.length v10))) <|
(member_isName (List.getD v10 (Int.toNat v12) (pzero T_api_Record)).1).bind fun r1 =>
if (not r1) = true then
some (8 : Int)
else
if (decide ((List.getD v10 (Int.toNat v12) (pzero T_api_Record)).2.1 < (0 : Int))) = true then
some (8 : Int)
else
if (decide ((List.getD v10 (Int.toNat v12) (pzero T_api_Record)).2.1 > (8192 : Int))) = true then
some (8 : Int)
else
if ((List.getD v10 (Int.toNat v12) (pzero T_api_Record)).2.1 == (0 : Int)) = true then
(member_digest []).bind fun r2 =>
if (not (peq (.arr 20 (.int .u8)) (List.getD v10 (Int.toNat v12) (pzero T_api_Record)).2.2.1 r2)) = true then
some (8 : Int)
else
gd ((List.length (h8 ++ [(List.getD v10 (Int.toNat v12) (pzero T_api_Record)).1])) * 16 ≤ 140737488355328) <|
member_Valid_c1 (IntKind.wrap .i64 (v3 + (List.getD v10 (Int.toNat v12) (pzero T_api_Record)).2.1)) v10 v11 (IntKind.wrap .i64 (v12 + (1 : Int))) (h8 ++ [(List.getD v10 (Int.toNat v12) (pzero T_api_Record)).1])
else
gd ((List.length (h8 ++ [(List.getD v10 (Int.toNat v12) (pzero T_api_Record)).1])) * 16 ≤ 140737488355328) <|
member_Valid_c1 (IntKind.wrap .i64 (v3 + (List.getD v10 (Int.toNat v12) (pzero T_api_Record)).2.1)) v10 v11 (IntKind.wrap .i64 (v12 + (1 : Int))) (h8 ++ [(List.getD v10 (Int.toNat v12) (pzero T_api_Record)).1])
else
if (decide (v3 > (8192 : Int))) = true then
some (4 : Int)
else
(member_twice h8).bind fun r3 =>
if r3 = true then
some (14 : Int)
else
some (0 : Int)) := (FnI.sem_eq _).trans (by kernel_rfl)
noncomputable def member_Valid_S (acc : List AV → Bool) : Summ Tryz.prog GT := member_Valid_I.summ mixed acc false false
noncomputable def member_Read_I : FnI Tryz.prog GT := { f := 85, cuts := [⟨(8, 3), [7, 8, 27, 28], false, false, []⟩], tab := [(member_reader_record_S (fun _ => true)).dropping, errors_As_S (fun _ => true), member_Valid_S (fun _ => true)], fm := ⟨true, [.val (.slice T_api_Record) [.nw], .val (.int .i64) [], .val (.int .i64) []]⟩ }
noncomputable def member_Read (a0 : List Int) (a1 : Int) : Option (List D_api_Record × Int × Int) := member_Read_I.call [(.sl (.int .u8) false a0), (.int .i64 a1)] []
noncomputable def member_Read_c1 (v27 : Int) (v28 : Int) (b8 : D_member_reader) (h9 : List D_api_Record) : Option (List D_api_Record × Int × Int) := member_Read_I.sem ⟨[.code (cIn (cIn (cSnd (cFst (cSnd (cSnd (cSnd (cSnd (bodyOf Tryz.prog 85))))))))), .inLoop (cIn (cIn (cSnd (cFst (cSnd (cSnd (cSnd (cSnd (bodyOf Tryz.prog 85))))))))), .inBlock 1, .code (cSnd (cSnd (cSnd (cSnd (cSnd (bodyOf Tryz.prog 85))))))], ⟨[(7, (.one (.ptr T_member_reader 8 []))), (8, (.one (.ref T_api_Record 9 0 (List.length h9) true))), (27, (.one (.int .i64 v27))), (28, (.one (.int .i64 v28)))], [(8, some (.box T_member_reader (inj false T_member_reader b8))), (9, some (.row T_api_Record true h9))], 10⟩⟩
theorem member_Read_eq (a0 : List Int) (a1 : Int) : member_Read a0 a1 = (
if (decide (a1 < (0 : Int))) = true then
some ([], ((0 : Int), (2 : Int)))
else
if (decide (a1 > (16 : Int))) = true then
some ([], ((0 : Int), (2 : Int)))
else
if (decide ((Int.ofNat (List.length a0)) > (50000 : Int))) = true then
some ([], ((0 : Int), (4 : Int)))
else
member_Read_c1 a1 (0 : Int) ((a0, ((0 : Int), ())), ()) []) := (FnI.call_eq (by kernel_rfl)).trans (by kernel_rfl)
theorem member_Read_c1_eq (v27 : Int) (v28 : Int) (b8 : D_member_reader) (h9 : List D_api_Record) : member_Read_c1 v27 v28 b8 h9 = (
if (decide (v28 < v27)) = true then
(member_reader_record b8).bind fun r1 =>
(errors_As r1.2.1 (0 : Int)).bind fun r2 =>
if r2.1 = true then
some ([], ((0 : Int), r2.2))
else
gd ((List.length (h9 ++ [r1.1])) * 48 ≤ 140737488355328) <|
member_Read_c1 v27 (IntKind.wrap .i64 (v28 + (1 : Int))) r1.2.2 (h9 ++ [r1.1])
else
(member_Valid h9).bind fun r3 =>
if (r3 != (0 : Int)) = true then
some ([], ((0 : Int), (12 : Int)))
else
some (h9, (b8.1.2.1, (0 : Int)))) := (FnI.sem_eq _).trans (by kernel_rfl)
noncomputable def member_Read_S (acc : List AV → Bool) : Summ Tryz.prog GT := member_Read_I.summ mixed acc false false
noncomputable def member_Write_I : FnI Tryz.prog GT := { f := 73, cuts := [⟨(6, 3), [5, 13, 14, 15], false, false, []⟩], tab := [member_Valid_S (fun _ => true)], fm := ⟨true, [.val (.slice (.int .u8)) [.nw], .val (.int .i64) []]⟩ }
noncomputable def member_Write (a0 : List D_api_Record) : Option (List Int × Int) := member_Write_I.call [(.sl T_api_Record false a0)] []
noncomputable def member_Write_c1 (v13 : List D_api_Record) (v14 : Int) (v15 : Int) (h8 : List Int) : Option (List Int × Int) := member_Write_I.sem ⟨[.code (cIn (cIn (cSnd (cFst (cSnd (cSnd (cSnd (bodyOf Tryz.prog 73)))))))), .inLoop (cIn (cIn (cSnd (cFst (cSnd (cSnd (cSnd (bodyOf Tryz.prog 73)))))))), .inBlock 0, .code (cSnd (cSnd (cSnd (cSnd (bodyOf Tryz.prog 73)))))], ⟨[(5, (.one (.ref (.int .u8) 8 0 (List.length h8) true))), (13, (.one (.sl T_api_Record false v13))), (14, (.one (.int .i64 v14))), (15, (.one (.int .i64 v15)))], [(8, some (.row (.int .u8) true h8))], 9⟩⟩
theorem member_Write_eq (a0 : List D_api_Record) : member_Write a0 = (
(member_Valid a0).bind fun r1 =>
if (r1 != (0 : Int)) = true then
some ([], r1)
else
member_Write_c1 a0 (Int.ofNat (List.length a0)) (0 : Int) []) := (FnI.call_eq (by kernel_rfl)).trans (by kernel_rfl)
theorem member_Write_c1_eq (v13 : List D_api_Record) (v14 : Int) (v15 : Int) (h8 : List Int) : member_Write_c1 v13 v14 v15 h8 = (
if (decide (v15 < v14)) = true then
gd (0 ≤ v15) <|
gd (v15 < (Int.ofNat (List.length v13))) <|
gd ((List.length (h8 ++ [(IntKind.wrap .u8 (Int.ofNat (ByteArray.size (List.getD v13 (Int.toNat v15) (pzero T_api_Record)).1)))])) * 1 ≤ 140737488355328) <|
gd ((List.length ((h8 ++ [(IntKind.wrap .u8 (Int.ofNat (ByteArray.size (List.getD v13 (Int.toNat v15) (pzero T_api_Record)).1)))]) ++ (ofStr (List.getD v13 (Int.toNat v15) (pzero T_api_Record)).1))) * 1 ≤ 140737488355328) <|
gd (0 ≤ (8 : Int)) <|
gd ((List.length (((h8 ++ [(IntKind.wrap .u8 (Int.ofNat (ByteArray.size (List.getD v13 (Int.toNat v15) (pzero T_api_Record)).1)))]) ++ (ofStr (List.getD v13 (Int.toNat v15) (pzero T_api_Record)).1)) ++ [(IntKind.wrap .u8 (Int.fdiv (List.getD v13 (Int.toNat v15) (pzero T_api_Record)).2.1 (256 : Int))), (IntKind.wrap .u8 (List.getD v13 (Int.toNat v15) (pzero T_api_Record)).2.1)])) * 1 ≤ 140737488355328) <|
gd ((List.length ((((h8 ++ [(IntKind.wrap .u8 (Int.ofNat (ByteArray.size (List.getD v13 (Int.toNat v15) (pzero T_api_Record)).1)))]) ++ (ofStr (List.getD v13 (Int.toNat v15) (pzero T_api_Record)).1)) ++ [(IntKind.wrap .u8 (Int.fdiv (List.getD v13 (Int.toNat v15) (pzero T_api_Record)).2.1 (256 : Int))), (IntKind.wrap .u8 (List.getD v13 (Int.toNat v15) (pzero T_api_Record)).2.1)]) ++ (List.take 20 (List.drop 0 (List.getD v13 (Int.toNat v15) (pzero T_api_Record)).2.2.1)))) * 1 ≤ 140737488355328) <|
member_Write_c1 v13 v14 (IntKind.wrap .i64 (v15 + (1 : Int))) ((((h8 ++ [(IntKind.wrap .u8 (Int.ofNat (ByteArray.size (List.getD v13 (Int.toNat v15) (pzero T_api_Record)).1)))]) ++ (ofStr (List.getD v13 (Int.toNat v15) (pzero T_api_Record)).1)) ++ [(IntKind.wrap .u8 (Int.fdiv (List.getD v13 (Int.toNat v15) (pzero T_api_Record)).2.1 (256 : Int))), (IntKind.wrap .u8 (List.getD v13 (Int.toNat v15) (pzero T_api_Record)).2.1)]) ++ (List.take 20 (List.drop 0 (List.getD v13 (Int.toNat v15) (pzero T_api_Record)).2.2.1)))
else
some (h8, (0 : Int))) := (FnI.sem_eq _).trans (by kernel_rfl)
noncomputable def member_Write_S (acc : List AV → Bool) : Summ Tryz.prog GT := member_Write_I.summ mixed acc false false
noncomputable def pack_Head_I : FnI Tryz.prog GT := { f := 45, cuts := [], tab := [pack_Check_S (fun _ => true), member_Write_S (fun _ => true), sha_Sum_S (fun _ => true)], fm := ⟨true, [.val (.slice (.int .u8)) [.nw], .val (.int .i64) []]⟩ }
noncomputable def pack_Head (a0 : D_api_Settings) (a1 : List D_api_Record) : Option (List Int × Int) := pack_Head_I.call [(.agg T_api_Settings (inj false T_api_Settings a0)), (.sl T_api_Record false a1)] []
theorem pack_Head_eq (a0 : D_api_Settings) (a1 : List D_api_Record) : pack_Head a0 a1 = (
(pack_Check a0).bind fun r1 =>
if (r1 != (0 : Int)) = true then
some ([], r1)
else
(member_Write a1).bind fun r2 =>
if (r2.2 != (0 : Int)) = true then
some ([], r2.2)
else
gd (0 ≤ (8 : Int)) <|
gd ((List.length ([(66 : Int), (76 : Int), (70 : Int), (1 : Int), (IntKind.wrap .u8 a0.1), (IntKind.wrap .u8 (Int.fdiv a0.2.1 (256 : Int))), (IntKind.wrap .u8 a0.2.1), (IntKind.wrap .u8 (Int.ofNat (List.length a1)))] ++ r2.1)) * 1 ≤ 140737488355328) <|
(sha_Sum ([(66 : Int), (76 : Int), (70 : Int), (1 : Int), (IntKind.wrap .u8 a0.1), (IntKind.wrap .u8 (Int.fdiv a0.2.1 (256 : Int))), (IntKind.wrap .u8 a0.2.1), (IntKind.wrap .u8 (Int.ofNat (List.length a1)))] ++ r2.1)).bind fun r3 =>
gd ((List.length (([(66 : Int), (76 : Int), (70 : Int), (1 : Int), (IntKind.wrap .u8 a0.1), (IntKind.wrap .u8 (Int.fdiv a0.2.1 (256 : Int))), (IntKind.wrap .u8 a0.2.1), (IntKind.wrap .u8 (Int.ofNat (List.length a1)))] ++ r2.1) ++ (List.take 20 (List.drop 0 r3.1)))) * 1 ≤ 140737488355328) <|
some ((([(66 : Int), (76 : Int), (70 : Int), (1 : Int), (IntKind.wrap .u8 a0.1), (IntKind.wrap .u8 (Int.fdiv a0.2.1 (256 : Int))), (IntKind.wrap .u8 a0.2.1), (IntKind.wrap .u8 (Int.ofNat (List.length a1)))] ++ r2.1) ++ (List.take 20 (List.drop 0 r3.1))), (0 : Int))) := (FnI.call_eq (by kernel_rfl)).trans (by kernel_rfl)
noncomputable def pack_Head_S (acc : List AV → Bool) : Summ Tryz.prog GT := pack_Head_I.summ mixed acc false false
noncomputable def list_Head_I : FnI Tryz.prog GT := { f := 50, cuts := [], tab := [bytes_HasPrefix_S (fun _ => true), pack_Check_S (fun _ => true), member_Read_S (fun _ => true), pack_Head_S (fun _ => true)], fm := ⟨true, [.val T_api_Settings [], .val (.slice T_api_Record) [.nw], .val (.int .i64) [], .val (.int .i64) []]⟩ }
noncomputable def list_Head (a0 : List Int) : Option (D_api_Settings × List D_api_Record × Int × Int) := list_Head_I.call [(.sl (.int .u8) false a0)] []
theorem list_Head_eq (a0 : List Int) : list_Head a0 = (
if (decide ((Int.ofNat (List.length a0)) > (50000 : Int))) = true then
some (((0 : Int), ((0 : Int), ())), ([], ((0 : Int), (4 : Int))))
else
if (decide ((Int.ofNat (List.length a0)) < (8 : Int))) = true then
some (((0 : Int), ((0 : Int), ())), ([], ((0 : Int), (18 : Int))))
else
gd (0 ≤ (4 : Int)) <|
gd ((4 : Int) < (Int.ofNat (List.length a0))) <|
gd (0 ≤ (5 : Int)) <|
gd ((5 : Int) < (Int.ofNat (List.length a0))) <|
gd (0 ≤ (8 : Int)) <|
gd (0 ≤ (6 : Int)) <|
gd ((6 : Int) < (Int.ofNat (List.length a0))) <|
(bytes_HasPrefix a0 [(66 : Int), (76 : Int), (70 : Int), (1 : Int)]).bind fun r1 =>
if (not r1) = true then
some (((0 : Int), ((0 : Int), ())), ([], ((0 : Int), (12 : Int))))
else
(pack_Check ((IntKind.wrap .i64 (List.getD a0 4 (0 : Int))), ((bitsOr .i64 (IntKind.wrap .i64 ((IntKind.wrap .i64 (List.getD a0 5 (0 : Int))) * (256 : Int))) (IntKind.wrap .i64 (List.getD a0 6 (0 : Int)))), ()))).bind fun r2 =>
if (r2 != (0 : Int)) = true then
some (((0 : Int), ((0 : Int), ())), ([], ((0 : Int), (12 : Int))))
else
gd (0 ≤ (7 : Int)) <|
gd ((7 : Int) < (Int.ofNat (List.length a0))) <|
if (decide ((List.getD a0 7 (0 : Int)) > (16 : Int))) = true then
some (((0 : Int), ((0 : Int), ())), ([], ((0 : Int), (12 : Int))))
else
gd (0 ≤ (8 : Int)) <|
gd ((8 : Int) ≤ (Int.ofNat (List.length a0))) <|
gd (0 ≤ (7 : Int)) <|
gd ((7 : Int) < (Int.ofNat (List.length a0))) <|
(member_Read (List.drop 8 a0) (IntKind.wrap .i64 (List.getD a0 7 (0 : Int)))).bind fun r3 =>
if (r3.2.2 != (0 : Int)) = true then
some (((0 : Int), ((0 : Int), ())), ([], ((0 : Int), r3.2.2)))
else
(pack_Head ((IntKind.wrap .i64 (List.getD a0 4 (0 : Int))), ((bitsOr .i64 (IntKind.wrap .i64 ((IntKind.wrap .i64 (List.getD a0 5 (0 : Int))) * (256 : Int))) (IntKind.wrap .i64 (List.getD a0 6 (0 : Int)))), ())) r3.1).bind fun r4 =>
if (decide ((IntKind.wrap .i64 ((IntKind.wrap .i64 ((Int.ofNat (List.length a0)) - (8 : Int))) - r3.2.1)) < (20 : Int))) = true then
some (((0 : Int), ((0 : Int), ())), ([], ((0 : Int), (18 : Int))))
else
(bytes_HasPrefix a0 r4.1).bind fun r5 =>
if (not r5) = true then
some (((0 : Int), ((0 : Int), ())), ([], ((0 : Int), (22 : Int))))
else
some (((IntKind.wrap .i64 (List.getD a0 4 (0 : Int))), ((bitsOr .i64 (IntKind.wrap .i64 ((IntKind.wrap .i64 (List.getD a0 5 (0 : Int))) * (256 : Int))) (IntKind.wrap .i64 (List.getD a0 6 (0 : Int)))), ())), (r3.1, ((Int.ofNat (List.length r4.1)), (0 : Int))))) := (FnI.call_eq (by kernel_rfl)).trans (by kernel_rfl)
noncomputable def list_Head_S (acc : List AV → Bool) : Summ Tryz.prog GT := list_Head_I.summ mixed acc false false
noncomputable def split_check_1_I : FnI Tryz.prog GT := { f := 181, cuts := [], tab := [], fm := ⟨true, [.val .bool []]⟩ }
noncomputable def split_check_1 (a0 : Int) : Option (Bool) := split_check_1_I.call [(.int .i64 a0)] []
theorem split_check_1_eq (a0 : Int) : split_check_1 a0 = (
some (decide (a0 < (0 : Int)))) := (FnI.call_eq (by kernel_rfl)).trans (by kernel_rfl)
noncomputable def split_check_1_S (acc : List AV → Bool) : Summ Tryz.prog GT := split_check_1_I.summ mixed acc false false
noncomputable def slices_IndexFunc_int_int_I : FnI Tryz.prog GT := { f := 244, cuts := [⟨(2, 3), [0, 1, 7, 8], false, false, []⟩], tab := [split_check_1_S (fun _ => true)], fm := ⟨true, [.val (.int .i64) []]⟩ }
noncomputable def slices_IndexFunc_int_int (a0 : List Int) : Option (Int) := slices_IndexFunc_int_int_I.call [(.sl (.int .i64) false a0), (.func 181 [])] []
noncomputable def slices_IndexFunc_int_int_c1 (v0 : List Int) (v7 : Int) (v8 : Int) : Option (Int) := slices_IndexFunc_int_int_I.sem ⟨[.code (cIn (cIn (cSnd (cFst (cSnd (bodyOf Tryz.prog 244)))))), .inLoop (cIn (cIn (cSnd (cFst (cSnd (bodyOf Tryz.prog 244)))))), .inBlock 0, .code (cSnd (cSnd (bodyOf Tryz.prog 244)))], ⟨[(0, (.one (.sl (.int .i64) false v0))), (1, (.one (.func 181 []))), (7, (.one (.int .i64 v7))), (8, (.one (.int .i64 v8)))], [], 8⟩⟩
theorem slices_IndexFunc_int_int_eq (a0 : List Int) : slices_IndexFunc_int_int a0 = (
slices_IndexFunc_int_int_c1 a0 (Int.ofNat (List.length a0)) (0 : Int)) := (FnI.call_eq (by kernel_rfl)).trans (by kernel_rfl)
theorem slices_IndexFunc_int_int_c1_eq (v0 : List Int) (v7 : Int) (v8 : Int) : slices_IndexFunc_int_int_c1 v0 v7 v8 = (
if (decide (v8 < v7)) = true then
gd (0 ≤ v8) <|
gd (v8 < (Int.ofNat (List.length v0))) <|
(split_check_1 (List.getD v0 (Int.toNat v8) (0 : Int))).bind fun r1 =>
if r1 = true then
some (v8)
else
slices_IndexFunc_int_int_c1 v0 v7 (IntKind.wrap .i64 (v8 + (1 : Int)))
else
some (-1 : Int)) := (FnI.sem_eq _).trans (by kernel_rfl)
noncomputable def slices_IndexFunc_int_int_S (acc : List AV → Bool) : Summ Tryz.prog GT := slices_IndexFunc_int_int_I.summ mixed acc false false
noncomputable def slices_ContainsFunc_int_int_I : FnI Tryz.prog GT := { f := 180, cuts := [], tab := [slices_IndexFunc_int_int_S (fun _ => true)], fm := ⟨true, [.val .bool []]⟩ }
noncomputable def slices_ContainsFunc_int_int (a0 : List Int) : Option (Bool) := slices_ContainsFunc_int_int_I.call [(.sl (.int .i64) false a0), (.func 181 [])] []
theorem slices_ContainsFunc_int_int_eq (a0 : List Int) : slices_ContainsFunc_int_int a0 = (
(slices_IndexFunc_int_int a0).bind fun r1 =>
some (decide (r1 ≥ (0 : Int)))) := (FnI.call_eq (by kernel_rfl)).trans (by kernel_rfl)
noncomputable def slices_ContainsFunc_int_int_S (acc : List AV → Bool) : Summ Tryz.prog GT := slices_ContainsFunc_int_int_I.summ mixed acc false false
noncomputable def split_check_I : FnI Tryz.prog GT := { f := 125, cuts := [⟨(7, 3), [3, 11, 12, 13], false, false, []⟩], tab := [slices_ContainsFunc_int_int_S (fun _ => true)], fm := ⟨true, [.val (.int .i64) []]⟩ }
noncomputable def split_check (a0 : List Int) : Option (Int) := split_check_I.call [(.sl (.int .i64) false a0)] []
noncomputable def split_check_c1 (v3 : Int) (v11 : List Int) (v12 : Int) (v13 : Int) : Option (Int) := split_check_I.sem ⟨[.code (cIn (cIn (cSnd (cFst (cSnd (cSnd (cSnd (cSnd (bodyOf Tryz.prog 125))))))))), .inLoop (cIn (cIn (cSnd (cFst (cSnd (cSnd (cSnd (cSnd (bodyOf Tryz.prog 125))))))))), .inBlock 0, .code (cSnd (cSnd (cSnd (cSnd (cSnd (bodyOf Tryz.prog 125))))))], ⟨[(3, (.one (.int .i64 v3))), (11, (.one (.sl (.int .i64) false v11))), (12, (.one (.int .i64 v12))), (13, (.one (.int .i64 v13)))], [], 8⟩⟩
theorem split_check_eq (a0 : List Int) : split_check a0 = (
(slices_ContainsFunc_int_int a0).bind fun r1 =>
if r1 = true then
some (8 : Int)
else
if (decide ((Int.ofNat (List.length a0)) > (16 : Int))) = true then
some (4 : Int)
else
split_check_c1 (0 : Int) a0 (Int.ofNat (List.length a0)) (0 : Int)) := (FnI.call_eq (by kernel_rfl)).trans (by kernel_rfl)
theorem split_check_c1_eq (v3 : Int) (v11 : List Int) (v12 : Int) (v13 : Int) : split_check_c1 v3 v11 v12 v13 = (
if (decide (v13 < v12)) = true then
gd (0 ≤ v13) <|
gd (v13 < (Int.ofNat (List.length v11))) <|
if (decide ((IntKind.wrap .i64 (v3 + (if (8193 : Int) < (List.getD v11 (Int.toNat v13) (0 : Int)) then (8193 : Int) else (List.getD v11 (Int.toNat v13) (0 : Int))))) > (8192 : Int))) = true then
some (4 : Int)
else
split_check_c1 (IntKind.wrap .i64 (v3 + (if (8193 : Int) < (List.getD v11 (Int.toNat v13) (0 : Int)) then (8193 : Int) else (List.getD v11 (Int.toNat v13) (0 : Int))))) v11 v12 (IntKind.wrap .i64 (v13 + (1 : Int)))
else
some (0 : Int)) := (FnI.sem_eq _).trans (by kernel_rfl)
noncomputable def split_check_S (acc : List AV → Bool) : Summ Tryz.prog GT := split_check_I.summ mixed acc false false
noncomputable def split_Pieces_I : FnI Tryz.prog GT := { f := 79, cuts := [⟨(8, 3), [1, 7, 22, 23, 24], false, false, []⟩, ⟨(11, 7), [1, 7, 8, 9, 10, 22, 23, 24], false, false, []⟩], tab := [split_check_S (fun _ => true)], fm := ⟨true, [.val (.slice T_api_Piece) [.nw], .val (.int .i64) []]⟩ }
noncomputable def split_Pieces (a0 : List Int) (a1 : Int) : Option (List D_api_Piece × Int) := split_Pieces_I.call [(.sl (.int .i64) false a0), (.int .i64 a1)] []
noncomputable def split_Pieces_c1 (v1 : Int) (v22 : List Int) (v23 : Int) (v24 : Int) (h8 : List D_api_Piece) : Option (List D_api_Piece × Int) := split_Pieces_I.sem ⟨[.code (cIn (cIn (cSnd (cFst (cSnd (cSnd (cSnd (cSnd (bodyOf Tryz.prog 79))))))))), .inLoop (cIn (cIn (cSnd (cFst (cSnd (cSnd (cSnd (cSnd (bodyOf Tryz.prog 79))))))))), .inBlock 0, .code (cSnd (cSnd (cSnd (cSnd (cSnd (bodyOf Tryz.prog 79))))))], ⟨[(1, (.one (.int .i64 v1))), (7, (.one (.ref T_api_Piece 8 0 (List.length h8) true))), (22, (.one (.sl (.int .i64) false v22))), (23, (.one (.int .i64 v23))), (24, (.one (.int .i64 v24)))], [(8, some (.row T_api_Piece true h8))], 9⟩⟩
noncomputable def split_Pieces_c2 (v1 : Int) (v8 : Int) (v9 : Int) (v10 : Int) (v22 : List Int) (v23 : Int) (v24 : Int) (h8 : List D_api_Piece) : Option (List D_api_Piece × Int) := split_Pieces_I.sem ⟨[.code (cIn (cIn (cSnd (cSnd (cIn (cFst (cSnd (cSnd (cIn (cIn (cSnd (cFst (cSnd (cSnd (cSnd (cSnd (bodyOf Tryz.prog 79))))))))))))))))), .inLoop (cIn (cIn (cSnd (cSnd (cIn (cFst (cSnd (cSnd (cIn (cIn (cSnd (cFst (cSnd (cSnd (cSnd (cSnd (bodyOf Tryz.prog 79))))))))))))))))), .inBlock 2, .inBlock 1, .code (cSnd (cSnd (cSnd (cIn (cIn (cSnd (cFst (cSnd (cSnd (cSnd (cSnd (bodyOf Tryz.prog 79)))))))))))), .inLoop (cIn (cIn (cSnd (cFst (cSnd (cSnd (cSnd (cSnd (bodyOf Tryz.prog 79))))))))), .inBlock 0, .code (cSnd (cSnd (cSnd (cSnd (cSnd (bodyOf Tryz.prog 79))))))], ⟨[(1, (.one (.int .i64 v1))), (7, (.one (.ref T_api_Piece 8 0 (List.length h8) true))), (8, (.one (.int .i64 v8))), (9, (.one (.int .i64 v9))), (10, (.one (.int .i64 v10))), (22, (.one (.sl (.int .i64) false v22))), (23, (.one (.int .i64 v23))), (24, (.one (.int .i64 v24)))], [(8, some (.row T_api_Piece true h8))], 9⟩⟩
theorem split_Pieces_eq (a0 : List Int) (a1 : Int) : split_Pieces a0 a1 = (
(split_check a0).bind fun r1 =>
if (r1 != (0 : Int)) = true then
some ([], r1)
else
if (decide (a1 < (16 : Int))) = true then
some ([], (2 : Int))
else
if (decide (a1 > (4096 : Int))) = true then
some ([], (2 : Int))
else
split_Pieces_c1 a1 a0 (Int.ofNat (List.length a0)) (0 : Int) []) := (FnI.call_eq (by kernel_rfl)).trans (by kernel_rfl)
theorem split_Pieces_c1_eq (v1 : Int) (v22 : List Int) (v23 : Int) (v24 : Int) (h8 : List D_api_Piece) : split_Pieces_c1 v1 v22 v23 v24 h8 = (
if (decide (v24 < v23)) = true then
gd (0 ≤ v24) <|
gd (v24 < (Int.ofNat (List.length v22))) <|
split_Pieces_c2 v1 v24 (List.getD v22 (Int.toNat v24) (0 : Int)) (0 : Int) v22 v23 v24 h8
else
some (h8, (0 : Int))) := (FnI.sem_eq _).trans (by kernel_rfl)
theorem split_Pieces_c2_eq (v1 : Int) (v8 : Int) (v9 : Int) (v10 : Int) (v22 : List Int) (v23 : Int) (v24 : Int) (h8 : List D_api_Piece) : split_Pieces_c2 v1 v8 v9 v10 v22 v23 v24 h8 = (
if (decide (v10 < v9)) = true then
gd ((List.length (h8 ++ [(v8, (v10, ((if v1 < (IntKind.wrap .i64 (v9 - v10)) then v1 else (IntKind.wrap .i64 (v9 - v10))), ())))])) * 24 ≤ 140737488355328) <|
split_Pieces_c2 v1 v8 v9 (IntKind.wrap .i64 (v10 + v1)) v22 v23 v24 (h8 ++ [(v8, (v10, ((if v1 < (IntKind.wrap .i64 (v9 - v10)) then v1 else (IntKind.wrap .i64 (v9 - v10))), ())))])
else
split_Pieces_c1 v1 v22 v23 (IntKind.wrap .i64 (v24 + (1 : Int))) h8) := (FnI.sem_eq _).trans (by kernel_rfl)
noncomputable def split_Pieces_S (acc : List AV → Bool) : Summ Tryz.prog GT := split_Pieces_I.summ mixed acc false false
noncomputable def math_bits_Mul64_I : FnI Tryz.prog GT := { f := 129, cuts := [], tab := [], fm := ⟨true, [.val (.int .u64) [], .val (.int .u64) []]⟩ }
noncomputable def math_bits_Mul64 (a0 : Int) (a1 : Int) : Option (Int × Int) := math_bits_Mul64_I.call [(.int .u64 a0), (.int .u64 a1)] []
theorem math_bits_Mul64_eq (a0 : Int) (a1 : Int) : math_bits_Mul64 a0 a1 = (
gd (0 ≤ (32 : Int)) <|
gd (0 ≤ (32 : Int)) <|
gd (0 ≤ (32 : Int)) <|
gd (0 ≤ (32 : Int)) <|
gd (0 ≤ (32 : Int)) <|
some ((IntKind.wrap .u64 ((IntKind.wrap .u64 ((IntKind.wrap .u64 ((Int.fdiv a0 (4294967296 : Int)) * (Int.fdiv a1 (4294967296 : Int)))) + (Int.fdiv (IntKind.wrap .u64 ((IntKind.wrap .u64 ((Int.fdiv a0 (4294967296 : Int)) * (bitsAnd .u64 a1 (4294967295 : Int)))) + (Int.fdiv (IntKind.wrap .u64 ((bitsAnd .u64 a0 (4294967295 : Int)) * (bitsAnd .u64 a1 (4294967295 : Int)))) (4294967296 : Int)))) (4294967296 : Int)))) + (Int.fdiv (IntKind.wrap .u64 ((bitsAnd .u64 (IntKind.wrap .u64 ((IntKind.wrap .u64 ((Int.fdiv a0 (4294967296 : Int)) * (bitsAnd .u64 a1 (4294967295 : Int)))) + (Int.fdiv (IntKind.wrap .u64 ((bitsAnd .u64 a0 (4294967295 : Int)) * (bitsAnd .u64 a1 (4294967295 : Int)))) (4294967296 : Int)))) (4294967295 : Int)) + (IntKind.wrap .u64 ((bitsAnd .u64 a0 (4294967295 : Int)) * (Int.fdiv a1 (4294967296 : Int)))))) (4294967296 : Int)))), (IntKind.wrap .u64 (a0 * a1)))) := (FnI.call_eq (by kernel_rfl)).trans (by kernel_rfl)
noncomputable def math_bits_Mul64_S (acc : List AV → Bool) : Summ Tryz.prog GT := math_bits_Mul64_I.summ mixed acc false false
noncomputable def math_bits_Mul_I : FnI Tryz.prog GT := { f := 83, cuts := [], tab := [math_bits_Mul64_S (fun _ => true)], fm := ⟨true, [.val (.int .u64) [], .val (.int .u64) []]⟩ }
noncomputable def math_bits_Mul (a0 : Int) (a1 : Int) : Option (Int × Int) := math_bits_Mul_I.call [(.int .u64 a0), (.int .u64 a1)] []
theorem math_bits_Mul_eq (a0 : Int) (a1 : Int) : math_bits_Mul a0 a1 = (
(math_bits_Mul64 a0 a1).bind fun r1 =>
some (r1)) := (FnI.call_eq (by kernel_rfl)).trans (by kernel_rfl)
noncomputable def math_bits_Mul_S (acc : List AV → Bool) : Summ Tryz.prog GT := math_bits_Mul_I.summ mixed acc false false
noncomputable def slices_Repeat_uint8_uint8_I : FnI Tryz.prog GT := { f := 80, cuts := [⟨(8, 3), [7, 8], false, false, []⟩], tab := [math_bits_Mul_S (fun _ => true)], fm := ⟨true, [.val (.slice (.int .u8)) [.nw]]⟩ }
noncomputable def slices_Repeat_uint8_uint8 (a0 : List Int) (a1 : Int) : Option (List Int) := slices_Repeat_uint8_uint8_I.call [(.sl (.int .u8) false a0), (.int .i64 a1)] []
noncomputable def slices_Repeat_uint8_uint8_c1 (v8 : Int) (h8 : List Int) : Option (List Int) := slices_Repeat_uint8_uint8_I.sem ⟨[.code (cIn (cIn (cFst (cSnd (cSnd (cSnd (cSnd (cSnd (cSnd (bodyOf Tryz.prog 80)))))))))), .inLoop (cIn (cIn (cFst (cSnd (cSnd (cSnd (cSnd (cSnd (cSnd (bodyOf Tryz.prog 80)))))))))), .inBlock 0, .code (cSnd (cSnd (cSnd (cSnd (cSnd (cSnd (cSnd (bodyOf Tryz.prog 80))))))))], ⟨[(7, (.one (.ref (.int .u8) 8 0 (List.length h8) true))), (8, (.one (.int .i64 v8)))], [(8, some (.row (.int .u8) true h8))], 9⟩⟩
theorem slices_Repeat_uint8_uint8_eq (a0 : List Int) (a1 : Int) : slices_Repeat_uint8_uint8 a0 a1 = (
if (decide (a1 < (0 : Int))) = true then
none
else
(math_bits_Mul (IntKind.wrap .u64 (Int.ofNat (List.length a0))) (IntKind.wrap .u64 a1)).bind fun r1 =>
if (decide (r1.1 > (0 : Int))) = true then
none
else
if (decide (r1.2 > (9223372036854775807 : Int))) = true then
none
else
gd ((IntKind.wrap .i64 r1.2) = (IntKind.wrap .i64 r1.2)) <|
gd (0 ≤ (IntKind.wrap .i64 r1.2)) <|
gd ((IntKind.wrap .i64 r1.2) * 1 ≤ 140737488355328) <|
gd ((IntKind.wrap .i64 r1.2) ≤ 9223372036854775807) <|
slices_Repeat_uint8_uint8_c1 (Int.ofNat (min (List.length a0) (List.length (List.replicate (Int.toNat (IntKind.wrap .i64 r1.2)) (0 : Int))))) (splice (List.replicate (Int.toNat (IntKind.wrap .i64 r1.2)) (0 : Int)) 0 (List.take (min (List.length a0) (List.length (List.replicate (Int.toNat (IntKind.wrap .i64 r1.2)) (0 : Int)))) a0))) := (FnI.call_eq (by kernel_rfl)).trans (by kernel_rfl)
theorem slices_Repeat_uint8_uint8_c1_eq (v8 : Int) (h8 : List Int) : slices_Repeat_uint8_uint8_c1 v8 h8 = (
if (decide (v8 < (Int.ofNat (List.length h8)))) = true then
gd (0 ≤ v8) <|
gd (v8 ≤ (Int.ofNat (List.length h8))) <|
gd (0 ≤ v8) <|
gd (v8 ≤ (Int.ofNat (List.length h8))) <|
slices_Repeat_uint8_uint8_c1 (IntKind.wrap .i64 (v8 + (Int.ofNat (min (List.length (List.take ((Int.toNat v8) - 0) (List.drop 0 h8))) ((List.length h8) - (Int.toNat v8)))))) (splice h8 (0 + (Int.toNat v8)) (List.take (min (List.length (List.take ((Int.toNat v8) - 0) (List.drop 0 h8))) ((List.length h8) - (Int.toNat v8))) (List.take ((Int.toNat v8) - 0) (List.drop 0 h8))))
else
some (h8)) := (FnI.sem_eq _).trans (by kernel_rfl)
noncomputable def slices_Repeat_uint8_uint8_S (acc : List AV → Bool) : Summ Tryz.prog GT := slices_Repeat_uint8_uint8_I.summ mixed acc false false
noncomputable def marker_check_I : FnI Tryz.prog GT := { f := 126, cuts := [], tab := [], fm := ⟨true, [.val (.int .i64) []]⟩ }
noncomputable def marker_check (a0 : List Int) (a1 : Int) : Option (Int) := marker_check_I.call [(.sl (.int .u8) false a0), (.int .i64 a1)] []
theorem marker_check_eq (a0 : List Int) (a1 : Int) : marker_check a0 a1 = (
if (decide ((Int.ofNat (List.length a0)) > (50000 : Int))) = true then
some (4 : Int)
else
if (decide (a1 < (0 : Int))) = true then
some (2 : Int)
else
if (decide (a1 > (Int.ofNat (List.length a0)))) = true then
some (2 : Int)
else
some (0 : Int)) := (FnI.call_eq (by kernel_rfl)).trans (by kernel_rfl)
noncomputable def marker_check_S (acc : List AV → Bool) : Summ Tryz.prog GT := marker_check_I.summ mixed acc false false
noncomputable def marker_Bytes_I : FnI Tryz.prog GT := { f := 132, cuts := [], tab := [], fm := ⟨true, [.val (.slice (.int .u8)) [.pu]]⟩ }
noncomputable def marker_Bytes : Option (List Int) := marker_Bytes_I.call [] []
theorem marker_Bytes_eq : marker_Bytes = (
gd (0 < 13) <|
some ([(183 : Int), (98 : Int), (105 : Int), (116 : Int), (108 : Int), (111 : Int), (102 : Int), (116 : Int), (32 : Int), (98 : Int), (108 : Int), (107 : Int), (10 : Int)])) := (FnI.call_eq (by kernel_rfl)).trans (by kernel_rfl)
noncomputable def marker_Bytes_S (acc : List AV → Bool) : Summ Tryz.prog GT := marker_Bytes_I.summ mixed acc false false
noncomputable def marker_Find_I : FnI Tryz.prog GT := { f := 127, cuts := [], tab := [marker_check_S (fun _ => true), marker_Bytes_S (fun _ => true), bytes_Index_S (fun _ => true)], fm := ⟨true, [.val (.int .i64) [], .val (.int .i64) []]⟩ }
noncomputable def marker_Find (a0 : List Int) (a1 : Int) : Option (Int × Int) := marker_Find_I.call [(.sl (.int .u8) false a0), (.int .i64 a1)] []
theorem marker_Find_eq (a0 : List Int) (a1 : Int) : marker_Find a0 a1 = (
(marker_check a0 a1).bind fun r1 =>
if (r1 != (0 : Int)) = true then
some ((0 : Int), r1)
else
gd (0 ≤ a1) <|
gd (a1 ≤ (Int.ofNat (List.length a0))) <|
(marker_Bytes).bind fun r2 =>
(bytes_Index (List.drop (Int.toNat a1) a0) r2).bind fun r3 =>
if (decide (r3 < (0 : Int))) = true then
some ((0 : Int), (6 : Int))
else
some ((IntKind.wrap .i64 (a1 + r3)), (0 : Int))) := (FnI.call_eq (by kernel_rfl)).trans (by kernel_rfl)
noncomputable def marker_Find_S (acc : List AV → Bool) : Summ Tryz.prog GT := marker_Find_I.summ mixed acc false false
noncomputable def marker_All_I : FnI Tryz.prog GT := { f := 81, cuts := [⟨(6, 3), [0, 5, 6, 7], false, false, []⟩], tab := [marker_check_S (fun _ => true), marker_Find_S (fun _ => true)], fm := ⟨true, [.val (.slice (.int .i64)) [.nw], .val (.int .i64) []]⟩ }
noncomputable def marker_All (a0 : List Int) : Option (List Int × Int) := marker_All_I.call [(.sl (.int .u8) false a0)] []
noncomputable def marker_All_c1 (v0 : List Int) (v6 : Int) (v7 : Int) (h8 : List Int) : Option (List Int × Int) := marker_All_I.sem ⟨[.code (cIn (cIn (cSnd (cFst (cSnd (cSnd (cSnd (bodyOf Tryz.prog 81)))))))), .inLoop (cIn (cIn (cSnd (cFst (cSnd (cSnd (cSnd (bodyOf Tryz.prog 81)))))))), .inBlock 0, .code (cSnd (cSnd (cSnd (cSnd (bodyOf Tryz.prog 81)))))], ⟨[(0, (.one (.sl (.int .u8) false v0))), (5, (.one (.ref (.int .i64) 8 0 (List.length h8) true))), (6, (.one (.int .i64 v6))), (7, (.one (.int .i64 v7)))], [(8, some (.row (.int .i64) true h8))], 9⟩⟩
theorem marker_All_eq (a0 : List Int) : marker_All a0 = (
(marker_check a0 (0 : Int)).bind fun r1 =>
if (r1 != (0 : Int)) = true then
some ([], r1)
else
(marker_Find a0 (0 : Int)).bind fun r2 =>
marker_All_c1 a0 r2.1 r2.2 []) := (FnI.call_eq (by kernel_rfl)).trans (by kernel_rfl)
theorem marker_All_c1_eq (v0 : List Int) (v6 : Int) (v7 : Int) (h8 : List Int) : marker_All_c1 v0 v6 v7 h8 = (
if (v7 == (0 : Int)) = true then
gd ((List.length (h8 ++ [v6])) * 8 ≤ 140737488355328) <|
(marker_Find v0 (IntKind.wrap .i64 (v6 + (13 : Int)))).bind fun r3 =>
marker_All_c1 v0 r3.1 r3.2 (h8 ++ [v6])
else
some (h8, (0 : Int))) := (FnI.sem_eq _).trans (by kernel_rfl)
noncomputable def marker_All_S (acc : List AV → Bool) : Summ Tryz.prog GT := marker_All_I.summ mixed acc false false
noncomputable def header_Check_I : FnI Tryz.prog GT := { f := 72, cuts := [], tab := [], fm := ⟨true, [.val (.int .i64) []]⟩ }
noncomputable def header_Check (a0 : D_api_BlockHead) : Option (Int) := header_Check_I.call [(.agg T_api_BlockHead (inj false T_api_BlockHead a0))] []
theorem header_Check_eq (a0 : D_api_BlockHead) : header_Check a0 = (
if (decide (a0.2.1 < (0 : Int))) = true then
some (8 : Int)
else
if (decide (a0.2.1 ≥ (16 : Int))) = true then
if (decide (a0.2.1 ≥ (16 : Int))) = true then
some (8 : Int)
else
if (a0.1 == (1 : Int)) = true then
if (a0.2.2.2.2.1 == a0.2.2.2.1) = true then
if (a0.2.2.2.2.1 == a0.2.2.2.1) = true then
some (0 : Int)
else
some (8 : Int)
else
if (a0.1 == (2 : Int)) = true then
if (decide (a0.2.2.2.2.1 > (0 : Int))) = true then
if (decide (a0.2.2.2.2.1 < a0.2.2.2.1)) = true then
some (0 : Int)
else
some (8 : Int)
else
some (8 : Int)
else
some (8 : Int)
else
if (a0.1 == (2 : Int)) = true then
if (decide (a0.2.2.2.2.1 > (0 : Int))) = true then
if (decide (a0.2.2.2.2.1 < a0.2.2.2.1)) = true then
some (0 : Int)
else
some (8 : Int)
else
some (8 : Int)
else
some (8 : Int)
else
if (decide (a0.2.2.2.1 < (1 : Int))) = true then
some (8 : Int)
else
if (decide (a0.2.2.2.1 > (4096 : Int))) = true then
if (decide (a0.2.2.2.1 > (4096 : Int))) = true then
some (8 : Int)
else
if (a0.1 == (1 : Int)) = true then
if (a0.2.2.2.2.1 == a0.2.2.2.1) = true then
if (a0.2.2.2.2.1 == a0.2.2.2.1) = true then
some (0 : Int)
else
some (8 : Int)
else
if (a0.1 == (2 : Int)) = true then
if (decide (a0.2.2.2.2.1 > (0 : Int))) = true then
if (decide (a0.2.2.2.2.1 < a0.2.2.2.1)) = true then
some (0 : Int)
else
some (8 : Int)
else
some (8 : Int)
else
some (8 : Int)
else
if (a0.1 == (2 : Int)) = true then
if (decide (a0.2.2.2.2.1 > (0 : Int))) = true then
if (decide (a0.2.2.2.2.1 < a0.2.2.2.1)) = true then
some (0 : Int)
else
some (8 : Int)
else
some (8 : Int)
else
some (8 : Int)
else
if (decide (a0.2.2.1 < (0 : Int))) = true then
some (8 : Int)
else
if (decide (a0.2.2.1 > (IntKind.wrap .i64 ((8192 : Int) - a0.2.2.2.1)))) = true then
some (8 : Int)
else
if (a0.1 == (1 : Int)) = true then
if (a0.2.2.2.2.1 == a0.2.2.2.1) = true then
if (a0.2.2.2.2.1 == a0.2.2.2.1) = true then
some (0 : Int)
else
some (8 : Int)
else
if (a0.1 == (2 : Int)) = true then
if (decide (a0.2.2.2.2.1 > (0 : Int))) = true then
if (decide (a0.2.2.2.2.1 < a0.2.2.2.1)) = true then
some (0 : Int)
else
some (8 : Int)
else
some (8 : Int)
else
some (8 : Int)
else
if (a0.1 == (2 : Int)) = true then
if (decide (a0.2.2.2.2.1 > (0 : Int))) = true then
if (decide (a0.2.2.2.2.1 < a0.2.2.2.1)) = true then
some (0 : Int)
else
some (8 : Int)
else
some (8 : Int)
else
some (8 : Int)) := (FnI.call_eq (by kernel_rfl)).trans (by kernel_rfl)
noncomputable def header_Check_S (acc : List AV → Bool) : Summ Tryz.prog GT := header_Check_I.summ mixed acc false false
noncomputable def header_Parse_I : FnI Tryz.prog GT := { f := 86, cuts := [⟨(5, 3), [0, 2, 4, 12, 13], false, false, []⟩, ⟨(8, 7), [0, 2, 4, 5, 12, 13, 17, 18], false, false, []⟩], tab := [header_Check_S (fun _ => true)], fm := ⟨true, [.val T_api_BlockHead [], .val (.int .i64) []]⟩ }
noncomputable def header_Parse (a0 : List Int) : Option (D_api_BlockHead × Int) := header_Parse_I.call [(.sl (.int .u8) false a0)] []
noncomputable def header_Parse_c1 (v0 : List Int) (v12 : (List Int)) (v13 : Int) (b8 : D_api_BlockHead) (b9 : (List Int)) : Option (D_api_BlockHead × Int) := header_Parse_I.sem ⟨[.code (cIn (cIn (cSnd (cFst (cSnd (cSnd (cSnd (bodyOf Tryz.prog 86)))))))), .inLoop (cIn (cIn (cSnd (cFst (cSnd (cSnd (cSnd (bodyOf Tryz.prog 86)))))))), .inBlock 0, .code (cSnd (cSnd (cSnd (cSnd (bodyOf Tryz.prog 86)))))], ⟨[(0, (.one (.sl (.int .u8) false v0))), (2, (.one (.ptr T_api_BlockHead 8 []))), (4, (.one (.ptr (.arr 5 (.int .i64)) 9 []))), (12, (.one (.agg (.arr 5 (.int .i64)) v12))), (13, (.one (.int .i64 v13)))], [(8, some (.box T_api_BlockHead (inj false T_api_BlockHead b8))), (9, some (.box (.arr 5 (.int .i64)) b9))], 10⟩⟩
noncomputable def header_Parse_c2 (v0 : List Int) (v5 : Int) (v12 : (List Int)) (v13 : Int) (v17 : Int) (v18 : Int) (b8 : D_api_BlockHead) (b9 : (List Int)) : Option (D_api_BlockHead × Int) := header_Parse_I.sem ⟨[.code (cIn (cIn (cSnd (cSnd (cIn (cFst (cSnd (cSnd (cIn (cIn (cSnd (cFst (cSnd (cSnd (cSnd (bodyOf Tryz.prog 86)))))))))))))))), .inLoop (cIn (cIn (cSnd (cSnd (cIn (cFst (cSnd (cSnd (cIn (cIn (cSnd (cFst (cSnd (cSnd (cSnd (bodyOf Tryz.prog 86)))))))))))))))), .inBlock 2, .inBlock 1, .code (cSnd (cSnd (cSnd (cIn (cIn (cSnd (cFst (cSnd (cSnd (cSnd (bodyOf Tryz.prog 86))))))))))), .inLoop (cIn (cIn (cSnd (cFst (cSnd (cSnd (cSnd (bodyOf Tryz.prog 86)))))))), .inBlock 0, .code (cSnd (cSnd (cSnd (cSnd (bodyOf Tryz.prog 86)))))], ⟨[(0, (.one (.sl (.int .u8) false v0))), (2, (.one (.ptr T_api_BlockHead 8 []))), (4, (.one (.ptr (.arr 5 (.int .i64)) 9 []))), (5, (.one (.int .i64 v5))), (12, (.one (.agg (.arr 5 (.int .i64)) v12))), (13, (.one (.int .i64 v13))), (17, (.one (.int .i64 v17))), (18, (.one (.int .i64 v18)))], [(8, some (.box T_api_BlockHead (inj false T_api_BlockHead b8))), (9, some (.box (.arr 5 (.int .i64)) b9))], 10⟩⟩
theorem header_Parse_eq (a0 : List Int) : header_Parse a0 = (
if ((Int.ofNat (List.length a0)) != (28 : Int)) = true then
some (((0 : Int), ((0 : Int), ((0 : Int), ((0 : Int), ((0 : Int), ((List.replicate 20 (0 : Int)), ())))))), (12 : Int))
else
header_Parse_c1 a0 G_widths (0 : Int) ((0 : Int), ((0 : Int), ((0 : Int), ((0 : Int), ((0 : Int), ((List.replicate 20 (0 : Int)), ())))))) (List.replicate 5 (0 : Int))) := (FnI.call_eq (by kernel_rfl)).trans (by kernel_rfl)
theorem header_Parse_c1_eq (v0 : List Int) (v12 : (List Int)) (v13 : Int) (b8 : D_api_BlockHead) (b9 : (List Int)) : header_Parse_c1 v0 v12 v13 b8 b9 = (
if (decide (v13 < (5 : Int))) = true then
gd (0 ≤ v13) <|
gd (v13 < (5 : Int)) <|
header_Parse_c2 v0 v13 v12 v13 (List.getD v12 (Int.toNat v13) (0 : Int)) (0 : Int) b8 b9
else
gd (0 ≤ (0 : Int)) <|
gd ((0 : Int) < (5 : Int)) <|
gd (0 ≤ (1 : Int)) <|
gd ((1 : Int) < (5 : Int)) <|
gd (0 ≤ (2 : Int)) <|
gd ((2 : Int) < (5 : Int)) <|
gd (0 ≤ (3 : Int)) <|
gd ((3 : Int) < (5 : Int)) <|
gd (0 ≤ (4 : Int)) <|
gd ((4 : Int) < (5 : Int)) <|
(header_Check ((IntKind.wrap .u8 (List.getD b9 0 (0 : Int))), ((List.getD b9 1 (0 : Int)), ((List.getD b9 2 (0 : Int)), ((List.getD b9 3 (0 : Int)), ((List.getD b9 4 (0 : Int)), ((splice (List.replicate 20 (0 : Int)) 0 (List.take (min (List.length v0) 20) v0)), ()))))))).bind fun r1 =>
if (r1 != (0 : Int)) = true then
some (((0 : Int), ((0 : Int), ((0 : Int), ((0 : Int), ((0 : Int), ((List.replicate 20 (0 : Int)), ())))))), (12 : Int))
else
some (((IntKind.wrap .u8 (List.getD b9 0 (0 : Int))), ((List.getD b9 1 (0 : Int)), ((List.getD b9 2 (0 : Int)), ((List.getD b9 3 (0 : Int)), ((List.getD b9 4 (0 : Int)), ((splice (List.replicate 20 (0 : Int)) 0 (List.take (min (List.length v0) 20) v0)), ())))))), (0 : Int))) := (FnI.sem_eq _).trans (by kernel_rfl)
theorem header_Parse_c2_eq (v0 : List Int) (v5 : Int) (v12 : (List Int)) (v13 : Int) (v17 : Int) (v18 : Int) (b8 : D_api_BlockHead) (b9 : (List Int)) : header_Parse_c2 v0 v5 v12 v13 v17 v18 b8 b9 = (
if (decide (v18 < v17)) = true then
gd (0 ≤ v5) <|
gd (v5 < (5 : Int)) <|
gd (0 ≤ (8 : Int)) <|
gd (0 ≤ (0 : Int)) <|
gd ((0 : Int) < (Int.ofNat (List.length v0))) <|
gd (0 ≤ v5) <|
gd (v5 < (5 : Int)) <|
gd (0 ≤ (1 : Int)) <|
gd ((1 : Int) ≤ (Int.ofNat (List.length v0))) <|
header_Parse_c2 (List.drop 1 v0) v5 v12 v13 v17 (IntKind.wrap .i64 (v18 + (1 : Int))) b8 (List.set b9 (Int.toNat v5) (bitsOr .i64 (IntKind.wrap .i64 ((List.getD b9 (Int.toNat v5) (0 : Int)) * (256 : Int))) (IntKind.wrap .i64 (List.getD v0 0 (0 : Int)))))
else
header_Parse_c1 v0 v12 (IntKind.wrap .i64 (v13 + (1 : Int))) b8 b9) := (FnI.sem_eq _).trans (by kernel_rfl)
noncomputable def header_Parse_S (acc : List AV → Bool) : Summ Tryz.prog GT := header_Parse_I.summ mixed acc false false
noncomputable def marker_At_I : FnI Tryz.prog GT := { f := 87, cuts := [], tab := [marker_check_S (fun _ => true), marker_Bytes_S (fun _ => true), bytes_HasPrefix_S (fun _ => true)], fm := ⟨true, [.val .bool [], .val (.int .i64) []]⟩ }
noncomputable def marker_At (a0 : List Int) (a1 : Int) : Option (Bool × Int) := marker_At_I.call [(.sl (.int .u8) false a0), (.int .i64 a1)] []
theorem marker_At_eq (a0 : List Int) (a1 : Int) : marker_At a0 a1 = (
(marker_check a0 a1).bind fun r1 =>
if (r1 != (0 : Int)) = true then
some (false, r1)
else
gd (0 ≤ a1) <|
gd (a1 ≤ (Int.ofNat (List.length a0))) <|
(marker_Bytes).bind fun r2 =>
(bytes_HasPrefix (List.drop (Int.toNat a1) a0) r2).bind fun r3 =>
some (r3, (0 : Int))) := (FnI.call_eq (by kernel_rfl)).trans (by kernel_rfl)
noncomputable def marker_At_S (acc : List AV → Bool) : Summ Tryz.prog GT := marker_At_I.summ mixed acc false false
noncomputable def bytes_Clone_I : FnI Tryz.prog GT := { f := 88, cuts := [], tab := [], fm := ⟨true, [.val (.slice (.int .u8)) [.nw]]⟩ }
noncomputable def bytes_Clone (a0 : List Int) : Option (List Int) := bytes_Clone_I.call [(.sl (.int .u8) false a0)] []
theorem bytes_Clone_eq (a0 : List Int) : bytes_Clone a0 = (
anyv (fun (r1 : Bool) => r1 = true → a0 = []) fun (r1 : Bool) =>
if r1 = true then
some ([])
else
gd ((List.length ([] ++ a0)) * 1 ≤ 140737488355328) <|
some ([] ++ a0)) := (FnI.call_eq (by kernel_rfl)).trans (by kernel_rfl)
noncomputable def bytes_Clone_S (acc : List AV → Bool) : Summ Tryz.prog GT := bytes_Clone_I.summ mixed acc false false
noncomputable def block_Read_I : FnI Tryz.prog GT := { f := 55, cuts := [], tab := [header_Parse_S (fun _ => true), marker_At_S (fun _ => true), bytes_Clone_S (fun _ => true)], fm := ⟨true, [.val T_api_Block [], .val (.int .i64) [], .val (.int .i64) []]⟩ }
noncomputable def block_Read (a0 : List Int) : Option (D_api_Block × Int × Int) := block_Read_I.call [(.sl (.int .u8) false a0)] []
theorem block_Read_eq (a0 : List Int) : block_Read a0 = (
if (decide ((Int.ofNat (List.length a0)) > (50000 : Int))) = true then
some ((((0 : Int), ((0 : Int), ((0 : Int), ((0 : Int), ((0 : Int), ((List.replicate 20 (0 : Int)), ())))))), ([], ())), ((0 : Int), (4 : Int)))
else
if (decide ((Int.ofNat (List.length a0)) < (41 : Int))) = true then
some ((((0 : Int), ((0 : Int), ((0 : Int), ((0 : Int), ((0 : Int), ((List.replicate 20 (0 : Int)), ())))))), ([], ())), ((0 : Int), (18 : Int)))
else
gd (0 ≤ (13 : Int)) <|
gd ((13 : Int) ≤ (41 : Int)) <|
gd ((41 : Int) ≤ (Int.ofNat (List.length a0))) <|
(header_Parse (List.take 28 (List.drop 13 a0))).bind fun r1 =>
(marker_At a0 (0 : Int)).bind fun r2 =>
if (not r2.1) = true then
some ((((0 : Int), ((0 : Int), ((0 : Int), ((0 : Int), ((0 : Int), ((List.replicate 20 (0 : Int)), ())))))), ([], ())), ((0 : Int), (12 : Int)))
else
if (r1.2 != (0 : Int)) = true then
some ((((0 : Int), ((0 : Int), ((0 : Int), ((0 : Int), ((0 : Int), ((List.replicate 20 (0 : Int)), ())))))), ([], ())), ((0 : Int), (12 : Int)))
else
if (decide ((Int.ofNat (List.length a0)) < (IntKind.wrap .i64 ((41 : Int) + r1.1.2.2.2.2.1)))) = true then
some ((((0 : Int), ((0 : Int), ((0 : Int), ((0 : Int), ((0 : Int), ((List.replicate 20 (0 : Int)), ())))))), ([], ())), ((0 : Int), (18 : Int)))
else
gd (0 ≤ (41 : Int)) <|
gd ((41 : Int) ≤ (IntKind.wrap .i64 ((41 : Int) + r1.1.2.2.2.2.1))) <|
gd ((IntKind.wrap .i64 ((41 : Int) + r1.1.2.2.2.2.1)) ≤ (Int.ofNat (List.length a0))) <|
(bytes_Clone (List.take ((Int.toNat (IntKind.wrap .i64 ((41 : Int) + r1.1.2.2.2.2.1))) - 41) (List.drop 41 a0))).bind fun r3 =>
some ((r1.1, (r3, ())), ((IntKind.wrap .i64 ((41 : Int) + r1.1.2.2.2.2.1)), (0 : Int)))) := (FnI.call_eq (by kernel_rfl)).trans (by kernel_rfl)
noncomputable def block_Read_S (acc : List AV → Bool) : Summ Tryz.prog GT := block_Read_I.summ mixed acc false false
noncomputable def slices_Index_api_Piece_api_Piece_I : FnI Tryz.prog GT := { f := 82, cuts := [⟨(2, 3), [0, 3, 7, 8], false, false, []⟩], tab := [], fm := ⟨true, [.val (.int .i64) []]⟩ }
noncomputable def slices_Index_api_Piece_api_Piece (a0 : List D_api_Piece) (a1 : D_api_Piece) : Option (Int) := slices_Index_api_Piece_api_Piece_I.call [(.sl T_api_Piece false a0), (.agg T_api_Piece (inj false T_api_Piece a1))] []
noncomputable def slices_Index_api_Piece_api_Piece_c1 (v0 : List D_api_Piece) (v7 : Int) (v8 : Int) (b8 : D_api_Piece) : Option (Int) := slices_Index_api_Piece_api_Piece_I.sem ⟨[.code (cIn (cIn (cSnd (cFst (cSnd (bodyOf Tryz.prog 82)))))), .inLoop (cIn (cIn (cSnd (cFst (cSnd (bodyOf Tryz.prog 82)))))), .inBlock 0, .code (cSnd (cSnd (bodyOf Tryz.prog 82)))], ⟨[(0, (.one (.sl T_api_Piece false v0))), (3, (.one (.ptr T_api_Piece 8 []))), (7, (.one (.int .i64 v7))), (8, (.one (.int .i64 v8)))], [(8, some (.box T_api_Piece (inj false T_api_Piece b8)))], 9⟩⟩
theorem slices_Index_api_Piece_api_Piece_eq (a0 : List D_api_Piece) (a1 : D_api_Piece) : slices_Index_api_Piece_api_Piece a0 a1 = (
slices_Index_api_Piece_api_Piece_c1 a0 (Int.ofNat (List.length a0)) (0 : Int) a1) := (FnI.call_eq (by kernel_rfl)).trans (by kernel_rfl)
theorem slices_Index_api_Piece_api_Piece_c1_eq (v0 : List D_api_Piece) (v7 : Int) (v8 : Int) (b8 : D_api_Piece) : slices_Index_api_Piece_api_Piece_c1 v0 v7 v8 b8 = (
if (decide (v8 < v7)) = true then
gd (0 ≤ v8) <|
gd (v8 < (Int.ofNat (List.length v0))) <|
if (peq T_api_Piece b8 (List.getD v0 (Int.toNat v8) (pzero T_api_Piece))) = true then
some (v8)
else
slices_Index_api_Piece_api_Piece_c1 v0 v7 (IntKind.wrap .i64 (v8 + (1 : Int))) b8
else
some (-1 : Int)) := (FnI.sem_eq _).trans (by kernel_rfl)
noncomputable def slices_Index_api_Piece_api_Piece_S (acc : List AV → Bool) : Summ Tryz.prog GT := slices_Index_api_Piece_api_Piece_I.summ mixed acc false false
noncomputable def block_Check_I : FnI Tryz.prog GT := { f := 89, cuts := [], tab := [header_Check_S (fun _ => true)], fm := ⟨true, [.val (.int .i64) []]⟩ }
noncomputable def block_Check (a0 : D_api_Block) : Option (Int) := block_Check_I.call [(.agg T_api_Block (inj false T_api_Block a0))] []
theorem block_Check_eq (a0 : D_api_Block) : block_Check a0 = (
(header_Check a0.1).bind fun r1 =>
if (r1 != (0 : Int)) = true then
some (8 : Int)
else
if ((Int.ofNat (List.length a0.2.1)) != a0.1.2.2.2.2.1) = true then
some (8 : Int)
else
some (0 : Int)) := (FnI.call_eq (by kernel_rfl)).trans (by kernel_rfl)
noncomputable def block_Check_S (acc : List AV → Bool) : Summ Tryz.prog GT := block_Check_I.summ mixed acc false false
noncomputable def block_isLevel_I : FnI Tryz.prog GT := { f := 90, cuts := [], tab := [], fm := ⟨true, [.val .bool []]⟩ }
noncomputable def block_isLevel (a0 : Int) : Option (Bool) := block_isLevel_I.call [(.int .i64 a0)] []
theorem block_isLevel_eq (a0 : Int) : block_isLevel a0 = (
if (decide (a0 ≥ (0 : Int))) = true then
some (decide (a0 ≤ (7 : Int)))
else
some (false)) := (FnI.call_eq (by kernel_rfl)).trans (by kernel_rfl)
noncomputable def block_isLevel_S (acc : List AV → Bool) : Summ Tryz.prog GT := block_isLevel_I.summ mixed acc false false
noncomputable def header_front_I : FnI Tryz.prog GT := { f := 203, cuts := [⟨(3, 3), [3, 18, 19], false, false, []⟩, ⟨(6, 7), [3, 4, 5, 18, 19, 25, 26], false, false, []⟩], tab := [], fm := ⟨true, [.val (.slice (.int .u8)) [.nw]]⟩ }
noncomputable def header_front (a0 : D_api_BlockHead) : Option (List Int) := header_front_I.call [(.agg T_api_BlockHead (inj false T_api_BlockHead a0))] []
noncomputable def header_front_c1 (v18 : (List Int)) (v19 : Int) (h8 : List Int) : Option (List Int) := header_front_I.sem ⟨[.code (cIn (cIn (cSnd (cFst (cSnd (cSnd (bodyOf Tryz.prog 203))))))), .inLoop (cIn (cIn (cSnd (cFst (cSnd (cSnd (bodyOf Tryz.prog 203))))))), .inBlock 0, .code (cSnd (cSnd (cSnd (bodyOf Tryz.prog 203))))], ⟨[(3, (.one (.ref (.int .u8) 8 0 (List.length h8) true))), (18, (.one (.agg (.arr 5 (.int .i64)) v18))), (19, (.one (.int .i64 v19)))], [(8, some (.row (.int .u8) true h8))], 9⟩⟩
noncomputable def header_front_c2 (v4 : Int) (v5 : Int) (v18 : (List Int)) (v19 : Int) (v25 : Int) (v26 : Int) (h8 : List Int) : Option (List Int) := header_front_I.sem ⟨[.code (cIn (cIn (cSnd (cSnd (cIn (cFst (cSnd (cSnd (cIn (cIn (cSnd (cFst (cSnd (cSnd (bodyOf Tryz.prog 203))))))))))))))), .inLoop (cIn (cIn (cSnd (cSnd (cIn (cFst (cSnd (cSnd (cIn (cIn (cSnd (cFst (cSnd (cSnd (bodyOf Tryz.prog 203))))))))))))))), .inBlock 2, .inBlock 1, .code (cSnd (cSnd (cSnd (cIn (cIn (cSnd (cFst (cSnd (cSnd (bodyOf Tryz.prog 203)))))))))), .inLoop (cIn (cIn (cSnd (cFst (cSnd (cSnd (bodyOf Tryz.prog 203))))))), .inBlock 0, .code (cSnd (cSnd (cSnd (bodyOf Tryz.prog 203))))], ⟨[(3, (.one (.ref (.int .u8) 8 0 (List.length h8) true))), (4, (.one (.int .i64 v4))), (5, (.one (.int .i64 v5))), (18, (.one (.agg (.arr 5 (.int .i64)) v18))), (19, (.one (.int .i64 v19))), (25, (.one (.int .i64 v25))), (26, (.one (.int .i64 v26)))], [(8, some (.row (.int .u8) true h8))], 9⟩⟩
theorem header_front_eq (a0 : D_api_BlockHead) : header_front a0 = (
header_front_c1 (List.set (List.set (List.set (List.set (List.set (List.replicate 5 (0 : Int)) 0 (IntKind.wrap .i64 a0.1)) 1 a0.2.1) 2 a0.2.2.1) 3 a0.2.2.2.1) 4 a0.2.2.2.2.1) (0 : Int) []) := (FnI.call_eq (by kernel_rfl)).trans (by kernel_rfl)
theorem header_front_c1_eq (v18 : (List Int)) (v19 : Int) (h8 : List Int) : header_front_c1 v18 v19 h8 = (
if (decide (v19 < (5 : Int))) = true then
gd (0 ≤ v19) <|
gd (v19 < (5 : Int)) <|
gd (0 ≤ v19) <|
gd (v19 < (5 : Int)) <|
header_front_c2 v19 (List.getD v18 (Int.toNat v19) (0 : Int)) v18 v19 (List.getD G_widths (Int.toNat v19) (0 : Int)) (0 : Int) h8
else
some (h8)) := (FnI.sem_eq _).trans (by kernel_rfl)
theorem header_front_c2_eq (v4 : Int) (v5 : Int) (v18 : (List Int)) (v19 : Int) (v25 : Int) (v26 : Int) (h8 : List Int) : header_front_c2 v4 v5 v18 v19 v25 v26 h8 = (
if (decide (v26 < v25)) = true then
gd (0 ≤ v4) <|
gd (v4 < (5 : Int)) <|
gd (0 ≤ (IntKind.wrap .i64 ((8 : Int) * (IntKind.wrap .i64 ((IntKind.wrap .i64 ((List.getD G_widths (Int.toNat v4) (0 : Int)) - (1 : Int))) - v26))))) <|
gd ((List.length (h8 ++ [(IntKind.wrap .u8 (shrBy .i64 v5 (IntKind.wrap .i64 ((8 : Int) * (IntKind.wrap .i64 ((IntKind.wrap .i64 ((List.getD G_widths (Int.toNat v4) (0 : Int)) - (1 : Int))) - v26))))))])) * 1 ≤ 140737488355328) <|
header_front_c2 v4 v5 v18 v19 v25 (IntKind.wrap .i64 (v26 + (1 : Int))) (h8 ++ [(IntKind.wrap .u8 (shrBy .i64 v5 (IntKind.wrap .i64 ((8 : Int) * (IntKind.wrap .i64 ((IntKind.wrap .i64 ((List.getD G_widths (Int.toNat v4) (0 : Int)) - (1 : Int))) - v26))))))])
else
header_front_c1 v18 (IntKind.wrap .i64 (v19 + (1 : Int))) h8) := (FnI.sem_eq _).trans (by kernel_rfl)
noncomputable def header_front_S (acc : List AV → Bool) : Summ Tryz.prog GT := header_front_I.summ mixed acc false false
noncomputable def header_digest_I : FnI Tryz.prog GT := { f := 143, cuts := [], tab := [header_front_S (fun _ => true), sha_Sum_S (fun _ => true)], fm := ⟨true, [.val (.arr 20 (.int .u8)) []]⟩ }
noncomputable def header_digest (a0 : D_api_BlockHead) (a1 : List Int) : Option ((List Int)) := header_digest_I.call [(.agg T_api_BlockHead (inj false T_api_BlockHead a0)), (.sl (.int .u8) false a1)] []
theorem header_digest_eq (a0 : D_api_BlockHead) (a1 : List Int) : header_digest a0 a1 = (
(header_front a0).bind fun r1 =>
gd ((List.length (r1 ++ a1)) * 1 ≤ 140737488355328) <|
(sha_Sum (r1 ++ a1)).bind fun r2 =>
some (r2.1)) := (FnI.call_eq (by kernel_rfl)).trans (by kernel_rfl)
noncomputable def header_digest_S (acc : List AV → Bool) : Summ Tryz.prog GT := header_digest_I.summ mixed acc false false
noncomputable def header_Right_I : FnI Tryz.prog GT := { f := 94, cuts := [], tab := [header_Check_S (fun _ => true), header_digest_S (fun _ => true)], fm := ⟨true, [.val .bool [], .val (.int .i64) []]⟩ }
noncomputable def header_Right (a0 : D_api_BlockHead) (a1 : List Int) : Option (Bool × Int) := header_Right_I.call [(.agg T_api_BlockHead (inj false T_api_BlockHead a0)), (.sl (.int .u8) false a1)] []
theorem header_Right_eq (a0 : D_api_BlockHead) (a1 : List Int) : header_Right a0 a1 = (
(header_Check a0).bind fun r1 =>
if (r1 != (0 : Int)) = true then
some (false, r1)
else
if ((Int.ofNat (List.length a1)) == a0.2.2.2.1) = true then
(header_digest a0 a1).bind fun r2 =>
some ((peq (.arr 20 (.int .u8)) r2 a0.2.2.2.2.2.1), (0 : Int))
else
some (false, (0 : Int))) := (FnI.call_eq (by kernel_rfl)).trans (by kernel_rfl)
noncomputable def header_Right_S (acc : List AV → Bool) : Summ Tryz.prog GT := header_Right_I.summ mixed acc false false
noncomputable def block_Raw_I : FnI Tryz.prog GT := { f := 56, cuts := [], tab := [block_Check_S (fun _ => true), block_isLevel_S (fun _ => true), bytes_Clone_S (fun _ => true), header_Right_S (fun _ => true)], fm := ⟨true, [.val (.slice (.int .u8)) [.nw], .val (.int .i64) []]⟩ }
noncomputable def block_Raw (a0 : Int) (a1 : D_api_Block) : Option (List Int × Int) := block_Raw_I.call [(.int .i64 a0), (.agg T_api_Block (inj false T_api_Block a1))] []
theorem block_Raw_eq (a0 : Int) (a1 : D_api_Block) : block_Raw a0 a1 = (
(block_Check a1).bind fun r1 =>
if (r1 != (0 : Int)) = true then
some ([], r1)
else
(block_isLevel a0).bind fun r2 =>
if (not r2) = true then
some ([], (2 : Int))
else
(bytes_Clone a1.2.1).bind fun r3 =>
if (a1.1.1 == (2 : Int)) = true then
none
else
(header_Right a1.1 r3).bind fun r4 =>
if (not r4.1) = true then
some ([], (22 : Int))
else
some (r3, (0 : Int))) := (FnI.call_eq (by kernel_rfl)).trans (by kernel_rfl)
noncomputable def block_Raw_S (acc : List AV → Bool) : Summ Tryz.prog GT := block_Raw_I.summ mixed acc false false
noncomputable def verify_looked_I : FnI Tryz.prog GT := { f := 48, cuts := [⟨(7, 3), [0, 2, 4, 8, 9, 36, 37, 38], false, false, []⟩, ⟨(15, 3), [0, 2, 4, 8, 67, 68, 69], false, false, []⟩], tab := [list_Head_S (fun _ => true), split_Pieces_S (fun _ => true), slices_Repeat_uint8_uint8_S (fun _ => true), marker_All_S (fun _ => true), block_Read_S (fun _ => true), slices_Index_api_Piece_api_Piece_S (fun _ => true), block_Raw_S (fun _ => true)], fm := ⟨true, [.val T_verify_look [], .val (.int .i64) []]⟩ }
noncomputable def verify_looked (a0 : List Int) : Option (D_verify_look × Int) := verify_looked_I.call [(.sl (.int .u8) false a0)] []
noncomputable def verify_looked_c1 (v0 : List Int) (v37 : Int) (v38 : Int) (b8a : D_api_Settings) (b8bbbb : Unit) (b9 : D_api_Settings) (b10a : D_api_Settings) (b10bbbb : Unit) (h11 : List Int) (h12 : List D_api_Record) (h13 : List D_api_Record) (h14 : List D_api_Piece) (h15 : List Int) (h16 : List D_api_Piece) (h17 : List Int) : Option (D_verify_look × Int) := verify_looked_I.sem ⟨[.code (cIn (cIn (cSnd (cFst (cSnd (cSnd (cSnd (cSnd (cSnd (bodyOf Tryz.prog 48)))))))))), .inLoop (cIn (cIn (cSnd (cFst (cSnd (cSnd (cSnd (cSnd (cSnd (bodyOf Tryz.prog 48)))))))))), .inBlock 0, .code (cSnd (cSnd (cSnd (cSnd (cSnd (cSnd (bodyOf Tryz.prog 48)))))))], ⟨[(0, (.one (.sl (.int .u8) false v0))), (2, (.one (.ptr T_verify_look 8 []))), (4, (.one (.ptr T_api_Settings 9 []))), (8, (.one (.ptr T_verify_look 10 []))), (9, (.one (.ref (.int .i64) 11 0 (List.length h11) true))), (36, (.one (.ref T_api_Record 12 0 (List.length h12) true))), (37, (.one (.int .i64 v37))), (38, (.one (.int .i64 v38)))], [(8, some (.box T_verify_look ((inj false T_api_Settings b8a), ((SV.ref 13 0 (List.length h13) true), ((SV.ref 14 0 (List.length h14) true), ((SV.ref 15 0 (List.length h15) true), b8bbbb)))))), (9, some (.box T_api_Settings (inj false T_api_Settings b9))), (10, some (.box T_verify_look ((inj false T_api_Settings b10a), ((SV.ref 12 0 (List.length h12) true), ((SV.ref 16 0 (List.length h16) true), ((SV.ref 17 0 (List.length h17) true), b10bbbb)))))), (11, some (.row (.int .i64) true h11)), (12, some (.row T_api_Record true h12)), (13, some (.row T_api_Record true h13)), (14, some (.row T_api_Piece true h14)), (15, some (.row (.int .u8) true h15)), (16, some (.row T_api_Piece true h16)), (17, some (.row (.int .u8) true h17))], 18⟩⟩
noncomputable def verify_looked_c2 (v0 : List Int) (v68 : Int) (v69 : Int) (b8a : D_api_Settings) (b8bbbb : Unit) (b9 : D_api_Settings) (b10a : D_api_Settings) (b10bbbb : Unit) (h11 : List Int) (h12 : List D_api_Record) (h13 : List D_api_Piece) (h14 : List Int) (h15 : List D_api_Record) (h16 : List D_api_Piece) (h17 : List Int) : Option (D_verify_look × Int) := verify_looked_I.sem ⟨[.code (cIn (cIn (cSnd (cFst (cSnd (cSnd (cSnd (cSnd (cSnd (cSnd (cSnd (cSnd (cSnd (bodyOf Tryz.prog 48)))))))))))))), .inLoop (cIn (cIn (cSnd (cFst (cSnd (cSnd (cSnd (cSnd (cSnd (cSnd (cSnd (cSnd (cSnd (bodyOf Tryz.prog 48)))))))))))))), .inBlock 2, .code (cSnd (cSnd (cSnd (cSnd (cSnd (cSnd (cSnd (cSnd (cSnd (cSnd (bodyOf Tryz.prog 48)))))))))))], ⟨[(0, (.one (.sl (.int .u8) false v0))), (2, (.one (.ptr T_verify_look 8 []))), (4, (.one (.ptr T_api_Settings 9 []))), (8, (.one (.ptr T_verify_look 10 []))), (67, (.one (.ref (.int .i64) 11 0 (List.length h11) true))), (68, (.one (.int .i64 v68))), (69, (.one (.int .i64 v69)))], [(8, some (.box T_verify_look ((inj false T_api_Settings b8a), ((SV.ref 12 0 (List.length h12) true), ((SV.ref 13 0 (List.length h13) true), ((SV.ref 14 0 (List.length h14) true), b8bbbb)))))), (9, some (.box T_api_Settings (inj false T_api_Settings b9))), (10, some (.box T_verify_look ((inj false T_api_Settings b10a), ((SV.ref 15 0 (List.length h15) true), ((SV.ref 16 0 (List.length h16) true), ((SV.ref 17 0 (List.length h17) true), b10bbbb)))))), (11, some (.row (.int .i64) true h11)), (12, some (.row T_api_Record true h12)), (13, some (.row T_api_Piece true h13)), (14, some (.row (.int .u8) true h14)), (15, some (.row T_api_Record true h15)), (16, some (.row T_api_Piece true h16)), (17, some (.row (.int .u8) true h17))], 18⟩⟩
theorem verify_looked_eq (a0 : List Int) : verify_looked a0 = (
(list_Head a0).bind fun r1 =>
if (r1.2.2.2 != (0 : Int)) = true then
some ((((0 : Int), ((0 : Int), ())), ([], ([], ([], ())))), r1.2.2.2)
else
verify_looked_c1 a0 (Int.ofNat (List.length r1.2.1)) (0 : Int) ((0 : Int), ((0 : Int), ())) () r1.1 r1.1 () [] r1.2.1 [] [] [] [] []) := (FnI.call_eq (by kernel_rfl)).trans (by kernel_rfl)
theorem verify_looked_c1_eq (v0 : List Int) (v37 : Int) (v38 : Int) (b8a : D_api_Settings) (b8bbbb : Unit) (b9 : D_api_Settings) (b10a : D_api_Settings) (b10bbbb : Unit) (h11 : List Int) (h12 : List D_api_Record) (h13 : List D_api_Record) (h14 : List D_api_Piece) (h15 : List Int) (h16 : List D_api_Piece) (h17 : List Int) : verify_looked_c1 v0 v37 v38 b8a b8bbbb b9 b10a b10bbbb h11 h12 h13 h14 h15 h16 h17 = (
if (decide (v38 < v37)) = true then
gd (0 ≤ v38) <|
gd (v38 < (Int.ofNat (List.length h12))) <|
gd ((List.length (h11 ++ [(List.getD h12 (0 + (Int.toNat v38)) (pzero T_api_Record)).2.1])) * 8 ≤ 140737488355328) <|
verify_looked_c1 v0 v37 (IntKind.wrap .i64 (v38 + (1 : Int))) b8a b8bbbb b9 b10a b10bbbb (h11 ++ [(List.getD h12 (0 + (Int.toNat v38)) (pzero T_api_Record)).2.1]) h12 h13 h14 h15 h16 h17
else
(split_Pieces h11 b9.2.1).bind fun r2 =>
(slices_Repeat_uint8_uint8 [(3 : Int)] (Int.ofNat (List.length r2.1))).bind fun r3 =>
(marker_All v0).bind fun r4 =>
verify_looked_c2 v0 (Int.ofNat (List.length r4.1)) (0 : Int) b8a b8bbbb b9 b10a b10bbbb r4.1 h13 h14 h15 h12 r2.1 r3) := (FnI.sem_eq _).trans (by kernel_rfl)
theorem verify_looked_c2_eq (v0 : List Int) (v68 : Int) (v69 : Int) (b8a : D_api_Settings) (b8bbbb : Unit) (b9 : D_api_Settings) (b10a : D_api_Settings) (b10bbbb : Unit) (h11 : List Int) (h12 : List D_api_Record) (h13 : List D_api_Piece) (h14 : List Int) (h15 : List D_api_Record) (h16 : List D_api_Piece) (h17 : List Int) : verify_looked_c2 v0 v68 v69 b8a b8bbbb b9 b10a b10bbbb h11 h12 h13 h14 h15 h16 h17 = (
if (decide (v69 < v68)) = true then
gd (0 ≤ v69) <|
gd (v69 < (Int.ofNat (List.length h11))) <|
gd (0 ≤ (List.getD h11 (0 + (Int.toNat v69)) (0 : Int))) <|
gd ((List.getD h11 (0 + (Int.toNat v69)) (0 : Int)) ≤ (Int.ofNat (List.length v0))) <|
(block_Read (List.drop (Int.toNat (List.getD h11 (0 + (Int.toNat v69)) (0 : Int))) v0)).bind fun r5 =>
if (r5.2.2 != (0 : Int)) = true then
verify_looked_c2 v0 v68 (IntKind.wrap .i64 (v69 + (1 : Int))) b8a b8bbbb b9 b10a b10bbbb h11 h12 h13 h14 h15 h16 h17
else
(slices_Index_api_Piece_api_Piece h16 (r5.1.1.2.1, (r5.1.1.2.2.1, (r5.1.1.2.2.2.1, ())))).bind fun r6 =>
if (decide (r6 < (0 : Int))) = true then
verify_looked_c2 v0 v68 (IntKind.wrap .i64 (v69 + (1 : Int))) b8a b8bbbb b9 b10a b10bbbb h11 h12 h13 h14 h15 h16 h17
else
gd (0 ≤ r6) <|
gd (r6 < (Int.ofNat (List.length h17))) <|
if ((List.getD h17 (0 + (Int.toNat r6)) (0 : Int)) == (1 : Int)) = true then
verify_looked_c2 v0 v68 (IntKind.wrap .i64 (v69 + (1 : Int))) b8a b8bbbb b9 b10a b10bbbb h11 h12 h13 h14 h15 h16 h17
else
gd (0 ≤ r6) <|
gd (r6 < (Int.ofNat (List.length h17))) <|
(block_Raw b9.1 r5.1).bind fun r7 =>
if (r7.2 == (0 : Int)) = true then
gd (0 ≤ r6) <|
gd (r6 < (Int.ofNat (List.length h17))) <|
verify_looked_c2 v0 v68 (IntKind.wrap .i64 (v69 + (1 : Int))) b8a b8bbbb b9 b10a b10bbbb h11 h12 h13 h14 h15 h16 (List.set (List.set h17 (0 + (Int.toNat r6)) (2 : Int)) (0 + (Int.toNat r6)) (1 : Int))
else
verify_looked_c2 v0 v68 (IntKind.wrap .i64 (v69 + (1 : Int))) b8a b8bbbb b9 b10a b10bbbb h11 h12 h13 h14 h15 h16 (List.set h17 (0 + (Int.toNat r6)) (2 : Int))
else
some ((b10a, (h15, (h16, (h17, b10bbbb)))), (0 : Int))) := (FnI.sem_eq _).trans (by kernel_rfl)
noncomputable def verify_looked_S (acc : List AV → Bool) : Summ Tryz.prog GT := verify_looked_I.summ mixed acc false false
noncomputable def verify_States_I : FnI Tryz.prog GT := { f := 21, cuts := [], tab := [verify_looked_S (fun _ => true)], fm := ⟨true, [.val (.slice (.int .u8)) [.pu], .val (.int .i64) []]⟩ }
noncomputable def verify_States (a0 : List Int) : Option (List Int × Int) := verify_States_I.call [(.sl (.int .u8) false a0)] []
theorem verify_States_eq (a0 : List Int) : verify_States a0 = (
(verify_looked a0).bind fun r1 =>
some (r1.1.2.2.2.1, r1.2)) := (FnI.call_eq (by kernel_rfl)).trans (by kernel_rfl)
noncomputable def verify_States_S (acc : List AV → Bool) : Summ Tryz.prog GT := verify_States_I.summ mixed acc false false
noncomputable def slices_Repeat_bool_bool_I : FnI Tryz.prog GT := { f := 49, cuts := [⟨(8, 3), [7, 8], false, false, []⟩], tab := [math_bits_Mul_S (fun _ => true)], fm := ⟨true, [.val (.slice .bool) [.nw]]⟩ }
noncomputable def slices_Repeat_bool_bool (a0 : List Bool) (a1 : Int) : Option (List Bool) := slices_Repeat_bool_bool_I.call [(.sl .bool false a0), (.int .i64 a1)] []
noncomputable def slices_Repeat_bool_bool_c1 (v8 : Int) (h8 : List Bool) : Option (List Bool) := slices_Repeat_bool_bool_I.sem ⟨[.code (cIn (cIn (cFst (cSnd (cSnd (cSnd (cSnd (cSnd (cSnd (bodyOf Tryz.prog 49)))))))))), .inLoop (cIn (cIn (cFst (cSnd (cSnd (cSnd (cSnd (cSnd (cSnd (bodyOf Tryz.prog 49)))))))))), .inBlock 0, .code (cSnd (cSnd (cSnd (cSnd (cSnd (cSnd (cSnd (bodyOf Tryz.prog 49))))))))], ⟨[(7, (.one (.ref .bool 8 0 (List.length h8) true))), (8, (.one (.int .i64 v8)))], [(8, some (.row .bool true h8))], 9⟩⟩
theorem slices_Repeat_bool_bool_eq (a0 : List Bool) (a1 : Int) : slices_Repeat_bool_bool a0 a1 = (
if (decide (a1 < (0 : Int))) = true then
none
else
(math_bits_Mul (IntKind.wrap .u64 (Int.ofNat (List.length a0))) (IntKind.wrap .u64 a1)).bind fun r1 =>
if (decide (r1.1 > (0 : Int))) = true then
none
else
if (decide (r1.2 > (9223372036854775807 : Int))) = true then
none
else
gd ((IntKind.wrap .i64 r1.2) = (IntKind.wrap .i64 r1.2)) <|
gd (0 ≤ (IntKind.wrap .i64 r1.2)) <|
gd ((IntKind.wrap .i64 r1.2) * 1 ≤ 140737488355328) <|
gd ((IntKind.wrap .i64 r1.2) ≤ 9223372036854775807) <|
slices_Repeat_bool_bool_c1 (Int.ofNat (min (List.length a0) (List.length (List.replicate (Int.toNat (IntKind.wrap .i64 r1.2)) false)))) (splice (List.replicate (Int.toNat (IntKind.wrap .i64 r1.2)) false) 0 (List.take (min (List.length a0) (List.length (List.replicate (Int.toNat (IntKind.wrap .i64 r1.2)) false))) a0))) := (FnI.call_eq (by kernel_rfl)).trans (by kernel_rfl)
theorem slices_Repeat_bool_bool_c1_eq (v8 : Int) (h8 : List Bool) : slices_Repeat_bool_bool_c1 v8 h8 = (
if (decide (v8 < (Int.ofNat (List.length h8)))) = true then
gd (0 ≤ v8) <|
gd (v8 ≤ (Int.ofNat (List.length h8))) <|
gd (0 ≤ v8) <|
gd (v8 ≤ (Int.ofNat (List.length h8))) <|
slices_Repeat_bool_bool_c1 (IntKind.wrap .i64 (v8 + (Int.ofNat (min (List.length (List.take ((Int.toNat v8) - 0) (List.drop 0 h8))) ((List.length h8) - (Int.toNat v8)))))) (splice h8 (0 + (Int.toNat v8)) (List.take (min (List.length (List.take ((Int.toNat v8) - 0) (List.drop 0 h8))) ((List.length h8) - (Int.toNat v8))) (List.take ((Int.toNat v8) - 0) (List.drop 0 h8))))
else
some (h8)) := (FnI.sem_eq _).trans (by kernel_rfl)
noncomputable def slices_Repeat_bool_bool_S (acc : List AV → Bool) : Summ Tryz.prog GT := slices_Repeat_bool_bool_I.summ mixed acc false false
noncomputable def verify_Members_I : FnI Tryz.prog GT := { f := 22, cuts := [⟨(6, 3), [4, 6, 23, 24, 25], false, false, []⟩], tab := [verify_looked_S (fun _ => true), slices_Repeat_bool_bool_S (fun _ => true)], fm := ⟨true, [.val (.slice .bool) [.nw], .val (.int .i64) []]⟩ }
noncomputable def verify_Members (a0 : List Int) : Option (List Bool × Int) := verify_Members_I.call [(.sl (.int .u8) false a0)] []
noncomputable def verify_Members_c1 (v23 : List D_api_Piece) (v24 : Int) (v25 : Int) (b8 : D_verify_look) (h9 : List Bool) : Option (List Bool × Int) := verify_Members_I.sem ⟨[.code (cIn (cIn (cSnd (cFst (cSnd (cSnd (cSnd (cSnd (bodyOf Tryz.prog 22))))))))), .inLoop (cIn (cIn (cSnd (cFst (cSnd (cSnd (cSnd (cSnd (bodyOf Tryz.prog 22))))))))), .inBlock 0, .code (cSnd (cSnd (cSnd (cSnd (cSnd (bodyOf Tryz.prog 22))))))], ⟨[(4, (.one (.ptr T_verify_look 8 []))), (6, (.one (.ref .bool 9 0 (List.length h9) true))), (23, (.one (.sl T_api_Piece true v23))), (24, (.one (.int .i64 v24))), (25, (.one (.int .i64 v25)))], [(8, some (.box T_verify_look (inj true T_verify_look b8))), (9, some (.row .bool true h9))], 10⟩⟩
theorem verify_Members_eq (a0 : List Int) : verify_Members a0 = (
(verify_looked a0).bind fun r1 =>
if (r1.2 != (0 : Int)) = true then
some ([], r1.2)
else
(slices_Repeat_bool_bool [true] (Int.ofNat (List.length r1.1.2.1))).bind fun r2 =>
verify_Members_c1 r1.1.2.2.1 (Int.ofNat (List.length r1.1.2.2.1)) (0 : Int) r1.1 r2) := (FnI.call_eq (by kernel_rfl)).trans (by kernel_rfl)
theorem verify_Members_c1_eq (v23 : List D_api_Piece) (v24 : Int) (v25 : Int) (b8 : D_verify_look) (h9 : List Bool) : verify_Members_c1 v23 v24 v25 b8 h9 = (
if (decide (v25 < v24)) = true then
gd (0 ≤ v25) <|
gd (v25 < (Int.ofNat (List.length v23))) <|
gd (0 ≤ (List.getD v23 (Int.toNat v25) (pzero T_api_Piece)).1) <|
gd ((List.getD v23 (Int.toNat v25) (pzero T_api_Piece)).1 < (Int.ofNat (List.length h9))) <|
if (List.getD h9 (0 + (Int.toNat (List.getD v23 (Int.toNat v25) (pzero T_api_Piece)).1)) false) = true then
gd (0 ≤ v25) <|
gd (v25 < (Int.ofNat (List.length b8.2.2.2.1))) <|
gd (0 ≤ (List.getD v23 (Int.toNat v25) (pzero T_api_Piece)).1) <|
gd ((List.getD v23 (Int.toNat v25) (pzero T_api_Piece)).1 < (Int.ofNat (List.length h9))) <|
verify_Members_c1 v23 v24 (IntKind.wrap .i64 (v25 + (1 : Int))) b8 (List.set h9 (0 + (Int.toNat (List.getD v23 (Int.toNat v25) (pzero T_api_Piece)).1)) ((List.getD b8.2.2.2.1 (Int.toNat v25) (0 : Int)) == (1 : Int)))
else
gd (0 ≤ (List.getD v23 (Int.toNat v25) (pzero T_api_Piece)).1) <|
gd ((List.getD v23 (Int.toNat v25) (pzero T_api_Piece)).1 < (Int.ofNat (List.length h9))) <|
verify_Members_c1 v23 v24 (IntKind.wrap .i64 (v25 + (1 : Int))) b8 (List.set h9 (0 + (Int.toNat (List.getD v23 (Int.toNat v25) (pzero T_api_Piece)).1)) false)
else
some (h9, (0 : Int))) := (FnI.sem_eq _).trans (by kernel_rfl)
noncomputable def verify_Members_S (acc : List AV → Bool) : Summ Tryz.prog GT := verify_Members_I.summ mixed acc false false
noncomputable def list_pieces_I : FnI Tryz.prog GT := { f := 69, cuts := [⟨(3, 3), [2, 5, 10, 11, 12], false, false, []⟩], tab := [split_Pieces_S (fun _ => true)], fm := ⟨true, [.val (.slice T_api_Piece) [.nw]]⟩ }
noncomputable def list_pieces (a0 : D_api_Settings) (a1 : List D_api_Record) : Option (List D_api_Piece) := list_pieces_I.call [(.agg T_api_Settings (inj false T_api_Settings a0)), (.sl T_api_Record false a1)] []
noncomputable def list_pieces_c1 (v10 : List D_api_Record) (v11 : Int) (v12 : Int) (b8 : D_api_Settings) (h9 : List Int) : Option (List D_api_Piece) := list_pieces_I.sem ⟨[.code (cIn (cIn (cSnd (cFst (cSnd (cSnd (bodyOf Tryz.prog 69))))))), .inLoop (cIn (cIn (cSnd (cFst (cSnd (cSnd (bodyOf Tryz.prog 69))))))), .inBlock 0, .code (cSnd (cSnd (cSnd (bodyOf Tryz.prog 69))))], ⟨[(2, (.one (.ptr T_api_Settings 8 []))), (5, (.one (.ref (.int .i64) 9 0 (List.length h9) true))), (10, (.one (.sl T_api_Record false v10))), (11, (.one (.int .i64 v11))), (12, (.one (.int .i64 v12)))], [(8, some (.box T_api_Settings (inj false T_api_Settings b8))), (9, some (.row (.int .i64) true h9))], 10⟩⟩
theorem list_pieces_eq (a0 : D_api_Settings) (a1 : List D_api_Record) : list_pieces a0 a1 = (
list_pieces_c1 a1 (Int.ofNat (List.length a1)) (0 : Int) a0 []) := (FnI.call_eq (by kernel_rfl)).trans (by kernel_rfl)
theorem list_pieces_c1_eq (v10 : List D_api_Record) (v11 : Int) (v12 : Int) (b8 : D_api_Settings) (h9 : List Int) : list_pieces_c1 v10 v11 v12 b8 h9 = (
if (decide (v12 < v11)) = true then
gd (0 ≤ v12) <|
gd (v12 < (Int.ofNat (List.length v10))) <|
gd ((List.length (h9 ++ [(List.getD v10 (Int.toNat v12) (pzero T_api_Record)).2.1])) * 8 ≤ 140737488355328) <|
list_pieces_c1 v10 v11 (IntKind.wrap .i64 (v12 + (1 : Int))) b8 (h9 ++ [(List.getD v10 (Int.toNat v12) (pzero T_api_Record)).2.1])
else
(split_Pieces h9 b8.2.1).bind fun r1 =>
some (r1.1)) := (FnI.sem_eq _).trans (by kernel_rfl)
noncomputable def list_pieces_S (acc : List AV → Bool) : Summ Tryz.prog GT := list_pieces_I.summ mixed acc false false
noncomputable def list_is_I : FnI Tryz.prog GT := { f := 70, cuts := [], tab := [], fm := ⟨true, [.val .bool []]⟩ }
noncomputable def list_is (a0 : D_api_BlockHead) (a1 : D_api_Piece) : Option (Bool) := list_is_I.call [(.agg T_api_BlockHead (inj false T_api_BlockHead a0)), (.agg T_api_Piece (inj false T_api_Piece a1))] []
theorem list_is_eq (a0 : D_api_BlockHead) (a1 : D_api_Piece) : list_is a0 a1 = (
some (peq T_api_Piece (a0.2.1, (a0.2.2.1, (a0.2.2.2.1, ()))) a1)) := (FnI.call_eq (by kernel_rfl)).trans (by kernel_rfl)
noncomputable def list_is_S (acc : List AV → Bool) : Summ Tryz.prog GT := list_is_I.summ mixed acc false false
noncomputable def list_all_I : FnI Tryz.prog GT := { f := 43, cuts := [⟨(7, 3), [0, 2, 7, 9, 10, 32, 33, 34], false, false, []⟩], tab := [list_Head_S (fun _ => true), list_pieces_S (fun _ => true), block_Read_S (fun _ => true), list_is_S (fun _ => true)], fm := ⟨true, [.val T_api_Listing [], .val (.slice T_api_Block) [.nw], .val (.int .i64) []]⟩ }
noncomputable def list_all (a0 : List Int) : Option (D_api_Listing × List D_api_Block × Int) := list_all_I.call [(.sl (.int .u8) false a0)] []
noncomputable def list_all_c1 (v0 : List Int) (v7 : Int) (v33 : Int) (v34 : Int) (b8a : D_api_Settings) (b8bbb : Unit) (b9a : D_api_Settings) (b9bbb : Unit) (h10 : List D_api_Block) (h11 : List D_api_Piece) (h12 : List D_api_Record) (h13 : List D_api_BlockHead) (h14 : List D_api_Record) (h15 : List D_api_BlockHead) : Option (D_api_Listing × List D_api_Block × Int) := list_all_I.sem ⟨[.code (cIn (cIn (cSnd (cFst (cSnd (cSnd (cSnd (cSnd (cSnd (bodyOf Tryz.prog 43)))))))))), .inLoop (cIn (cIn (cSnd (cFst (cSnd (cSnd (cSnd (cSnd (cSnd (bodyOf Tryz.prog 43)))))))))), .inBlock 0, .code (cSnd (cSnd (cSnd (cSnd (cSnd (cSnd (bodyOf Tryz.prog 43)))))))], ⟨[(0, (.one (.sl (.int .u8) false v0))), (2, (.one (.ptr T_api_Listing 8 []))), (7, (.one (.int .i64 v7))), (9, (.one (.ptr T_api_Listing 9 []))), (10, (.one (.ref T_api_Block 10 0 (List.length h10) true))), (32, (.one (.ref T_api_Piece 11 0 (List.length h11) true))), (33, (.one (.int .i64 v33))), (34, (.one (.int .i64 v34)))], [(8, some (.box T_api_Listing ((inj false T_api_Settings b8a), ((SV.ref 12 0 (List.length h12) true), ((SV.ref 13 0 (List.length h13) true), b8bbb))))), (9, some (.box T_api_Listing ((inj false T_api_Settings b9a), ((SV.ref 14 0 (List.length h14) true), ((SV.ref 15 0 (List.length h15) true), b9bbb))))), (10, some (.row T_api_Block true h10)), (11, some (.row T_api_Piece true h11)), (12, some (.row T_api_Record true h12)), (13, some (.row T_api_BlockHead true h13)), (14, some (.row T_api_Record true h14)), (15, some (.row T_api_BlockHead true h15))], 16⟩⟩
theorem list_all_eq (a0 : List Int) : list_all a0 = (
(list_Head a0).bind fun r1 =>
if (r1.2.2.2 != (0 : Int)) = true then
some ((((0 : Int), ((0 : Int), ())), ([], ([], ()))), ([], r1.2.2.2))
else
(list_pieces r1.1 r1.2.1).bind fun r2 =>
list_all_c1 a0 r1.2.2.1 (Int.ofNat (List.length r2)) (0 : Int) ((0 : Int), ((0 : Int), ())) () r1.1 () [] r2 [] [] r1.2.1 []) := (FnI.call_eq (by kernel_rfl)).trans (by kernel_rfl)
theorem list_all_c1_eq (v0 : List Int) (v7 : Int) (v33 : Int) (v34 : Int) (b8a : D_api_Settings) (b8bbb : Unit) (b9a : D_api_Settings) (b9bbb : Unit) (h10 : List D_api_Block) (h11 : List D_api_Piece) (h12 : List D_api_Record) (h13 : List D_api_BlockHead) (h14 : List D_api_Record) (h15 : List D_api_BlockHead) : list_all_c1 v0 v7 v33 v34 b8a b8bbb b9a b9bbb h10 h11 h12 h13 h14 h15 = (
if (decide (v34 < v33)) = true then
gd (0 ≤ v34) <|
gd (v34 < (Int.ofNat (List.length h11))) <|
gd (0 ≤ v7) <|
gd (v7 ≤ (Int.ofNat (List.length v0))) <|
(block_Read (List.drop (Int.toNat v7) v0)).bind fun r3 =>
if (r3.2.2 != (0 : Int)) = true then
some ((((0 : Int), ((0 : Int), ())), ([], ([], ()))), ([], r3.2.2))
else
(list_is r3.1.1 (List.getD h11 (0 + (Int.toNat v34)) (pzero T_api_Piece))).bind fun r4 =>
if (not r4) = true then
some ((((0 : Int), ((0 : Int), ())), ([], ([], ()))), ([], (32 : Int)))
else
gd ((List.length (h15 ++ [r3.1.1])) * 64 ≤ 140737488355328) <|
gd ((List.length (h10 ++ [r3.1])) * 88 ≤ 140737488355328) <|
list_all_c1 v0 (IntKind.wrap .i64 (v7 + r3.2.1)) v33 (IntKind.wrap .i64 (v34 + (1 : Int))) b8a b8bbb b9a b9bbb (h10 ++ [r3.1]) h11 h12 h13 h14 (h15 ++ [r3.1.1])
else
if (decide (v7 < (Int.ofNat (List.length v0)))) = true then
some ((((0 : Int), ((0 : Int), ())), ([], ([], ()))), ([], (12 : Int)))
else
some ((b9a, (h14, (h15, b9bbb))), (h10, (0 : Int)))) := (FnI.sem_eq _).trans (by kernel_rfl)
noncomputable def list_all_S (acc : List AV → Bool) : Summ Tryz.prog GT := list_all_I.summ mixed acc false false
noncomputable def list_List_I : FnI Tryz.prog GT := { f := 18, cuts := [], tab := [list_all_S (fun _ => true)], fm := ⟨true, [.val T_api_Listing [], .val (.int .i64) []]⟩ }
noncomputable def list_List (a0 : List Int) : Option (D_api_Listing × Int) := list_List_I.call [(.sl (.int .u8) false a0)] []
theorem list_List_eq (a0 : List Int) : list_List a0 = (
(list_all a0).bind fun r1 =>
some (r1.1, r1.2.2)) := (FnI.call_eq (by kernel_rfl)).trans (by kernel_rfl)
noncomputable def list_List_S (acc : List AV → Bool) : Summ Tryz.prog GT := list_List_I.summ mixed acc false false
noncomputable def list_Check_I : FnI Tryz.prog GT := { f := 44, cuts := [⟨(7, 3), [3, 28, 29, 30], false, false, []⟩], tab := [pack_Check_S (fun _ => true), member_Valid_S (fun _ => true), list_pieces_S (fun _ => true), header_Check_S (fun _ => true), list_is_S (fun _ => true)], fm := ⟨true, [.val (.int .i64) []]⟩ }
noncomputable def list_Check (a0 : D_api_Listing) : Option (Int) := list_Check_I.call [(.agg T_api_Listing (inj false T_api_Listing a0))] []
noncomputable def list_Check_c1 (v28 : List D_api_BlockHead) (v29 : Int) (v30 : Int) (h8 : List D_api_Piece) : Option (Int) := list_Check_I.sem ⟨[.code (cIn (cIn (cSnd (cFst (cSnd (cSnd (cSnd (cSnd (bodyOf Tryz.prog 44))))))))), .inLoop (cIn (cIn (cSnd (cFst (cSnd (cSnd (cSnd (cSnd (bodyOf Tryz.prog 44))))))))), .inBlock 0, .code (cSnd (cSnd (cSnd (cSnd (cSnd (bodyOf Tryz.prog 44))))))], ⟨[(3, (.one (.ref T_api_Piece 8 0 (List.length h8) true))), (28, (.one (.sl T_api_BlockHead false v28))), (29, (.one (.int .i64 v29))), (30, (.one (.int .i64 v30)))], [(8, some (.row T_api_Piece true h8))], 9⟩⟩
theorem list_Check_eq (a0 : D_api_Listing) : list_Check a0 = (
(pack_Check a0.1).bind fun r1 =>
if (r1 != (0 : Int)) = true then
some (8 : Int)
else
(member_Valid a0.2.1).bind fun r2 =>
if (r2 != (0 : Int)) = true then
some (8 : Int)
else
(list_pieces a0.1 a0.2.1).bind fun r3 =>
if ((Int.ofNat (List.length r3)) != (Int.ofNat (List.length a0.2.2.1))) = true then
some (8 : Int)
else
list_Check_c1 a0.2.2.1 (Int.ofNat (List.length a0.2.2.1)) (0 : Int) r3) := (FnI.call_eq (by kernel_rfl)).trans (by kernel_rfl)
theorem list_Check_c1_eq (v28 : List D_api_BlockHead) (v29 : Int) (v30 : Int) (h8 : List D_api_Piece) : list_Check_c1 v28 v29 v30 h8 = (
if (decide (v30 < v29)) = true then
gd (0 ≤ v30) <|
gd (v30 < (Int.ofNat (List.length v28))) <|
(header_Check (List.getD v28 (Int.toNat v30) (pzero T_api_BlockHead))).bind fun r4 =>
if (r4 != (0 : Int)) = true then
some (8 : Int)
else
gd (0 ≤ v30) <|
gd (v30 < (Int.ofNat (List.length h8))) <|
(list_is (List.getD v28 (Int.toNat v30) (pzero T_api_BlockHead)) (List.getD h8 (0 + (Int.toNat v30)) (pzero T_api_Piece))).bind fun r5 =>
if (not r5) = true then
some (8 : Int)
else
list_Check_c1 v28 v29 (IntKind.wrap .i64 (v30 + (1 : Int))) h8
else
some (0 : Int)) := (FnI.sem_eq _).trans (by kernel_rfl)
noncomputable def list_Check_S (acc : List AV → Bool) : Summ Tryz.prog GT := list_Check_I.summ mixed acc false false
noncomputable def list_Places_I : FnI Tryz.prog GT := { f := 19, cuts := [⟨(8, 3), [7, 8, 27, 28, 29], false, false, []⟩], tab := [list_Check_S (fun _ => true), pack_Head_S (fun _ => true)], fm := ⟨true, [.val (.slice (.int .i64)) [.nw], .val (.int .i64) []]⟩ }
noncomputable def list_Places (a0 : D_api_Listing) : Option (List Int × Int) := list_Places_I.call [(.agg T_api_Listing (inj false T_api_Listing a0))] []
noncomputable def list_Places_c1 (v7 : Int) (v27 : List D_api_BlockHead) (v28 : Int) (v29 : Int) (h8 : List Int) : Option (List Int × Int) := list_Places_I.sem ⟨[.code (cIn (cIn (cSnd (cFst (cSnd (cSnd (cSnd (cSnd (cSnd (bodyOf Tryz.prog 19)))))))))), .inLoop (cIn (cIn (cSnd (cFst (cSnd (cSnd (cSnd (cSnd (cSnd (bodyOf Tryz.prog 19)))))))))), .inBlock 0, .code (cSnd (cSnd (cSnd (cSnd (cSnd (cSnd (bodyOf Tryz.prog 19)))))))], ⟨[(7, (.one (.int .i64 v7))), (8, (.one (.ref (.int .i64) 8 0 (List.length h8) true))), (27, (.one (.sl T_api_BlockHead false v27))), (28, (.one (.int .i64 v28))), (29, (.one (.int .i64 v29)))], [(8, some (.row (.int .i64) true h8))], 9⟩⟩
theorem list_Places_eq (a0 : D_api_Listing) : list_Places a0 = (
(list_Check a0).bind fun r1 =>
if (r1 != (0 : Int)) = true then
some ([], r1)
else
(pack_Head a0.1 a0.2.1).bind fun r2 =>
list_Places_c1 (Int.ofNat (List.length r2.1)) a0.2.2.1 (Int.ofNat (List.length a0.2.2.1)) (0 : Int) []) := (FnI.call_eq (by kernel_rfl)).trans (by kernel_rfl)
theorem list_Places_c1_eq (v7 : Int) (v27 : List D_api_BlockHead) (v28 : Int) (v29 : Int) (h8 : List Int) : list_Places_c1 v7 v27 v28 v29 h8 = (
if (decide (v29 < v28)) = true then
gd (0 ≤ v29) <|
gd (v29 < (Int.ofNat (List.length v27))) <|
gd ((List.length (h8 ++ [v7])) * 8 ≤ 140737488355328) <|
list_Places_c1 (IntKind.wrap .i64 (v7 + (IntKind.wrap .i64 ((41 : Int) + (List.getD v27 (Int.toNat v29) (pzero T_api_BlockHead)).2.2.2.2.1)))) v27 v28 (IntKind.wrap .i64 (v29 + (1 : Int))) (h8 ++ [v7])
else
some (h8, (0 : Int))) := (FnI.sem_eq _).trans (by kernel_rfl)
noncomputable def list_Places_S (acc : List AV → Bool) : Summ Tryz.prog GT := list_Places_I.summ mixed acc false false
noncomputable def extract_open_I : FnI Tryz.prog GT := { f := 30, cuts := [⟨(7, 3), [0, 2, 5, 9, 29, 30, 31], false, false, []⟩], tab := [list_List_S (fun _ => true), list_Places_S (fun _ => true), block_Read_S (fun _ => true)], fm := ⟨true, [.val T_api_Listing [], .val (.slice T_api_Block) [.nw], .val (.int .i64) []]⟩ }
noncomputable def extract_open (a0 : List Int) : Option (D_api_Listing × List D_api_Block × Int) := extract_open_I.call [(.sl (.int .u8) false a0)] []
noncomputable def extract_open_c1 (v0 : List Int) (v30 : Int) (v31 : Int) (b8a : D_api_Settings) (b8bbb : Unit) (b9 : D_api_Listing) (h10 : List D_api_Block) (h11 : List Int) (h12 : List D_api_Record) (h13 : List D_api_BlockHead) : Option (D_api_Listing × List D_api_Block × Int) := extract_open_I.sem ⟨[.code (cIn (cIn (cSnd (cFst (cSnd (cSnd (cSnd (cSnd (cSnd (bodyOf Tryz.prog 30)))))))))), .inLoop (cIn (cIn (cSnd (cFst (cSnd (cSnd (cSnd (cSnd (cSnd (bodyOf Tryz.prog 30)))))))))), .inBlock 0, .code (cSnd (cSnd (cSnd (cSnd (cSnd (cSnd (bodyOf Tryz.prog 30)))))))], ⟨[(0, (.one (.sl (.int .u8) false v0))), (2, (.one (.ptr T_api_Listing 8 []))), (5, (.one (.ptr T_api_Listing 9 []))), (9, (.one (.ref T_api_Block 10 0 (List.length h10) true))), (29, (.one (.ref (.int .i64) 11 0 (List.length h11) true))), (30, (.one (.int .i64 v30))), (31, (.one (.int .i64 v31)))], [(8, some (.box T_api_Listing ((inj false T_api_Settings b8a), ((SV.ref 12 0 (List.length h12) true), ((SV.ref 13 0 (List.length h13) true), b8bbb))))), (9, some (.box T_api_Listing (inj true T_api_Listing b9))), (10, some (.row T_api_Block true h10)), (11, some (.row (.int .i64) true h11)), (12, some (.row T_api_Record true h12)), (13, some (.row T_api_BlockHead true h13))], 14⟩⟩
theorem extract_open_eq (a0 : List Int) : extract_open a0 = (
(list_List a0).bind fun r1 =>
if (r1.2 != (0 : Int)) = true then
some ((((0 : Int), ((0 : Int), ())), ([], ([], ()))), ([], r1.2))
else
(list_Places r1.1).bind fun r2 =>
extract_open_c1 a0 (Int.ofNat (List.length r2.1)) (0 : Int) ((0 : Int), ((0 : Int), ())) () r1.1 [] r2.1 [] []) := (FnI.call_eq (by kernel_rfl)).trans (by kernel_rfl)
theorem extract_open_c1_eq (v0 : List Int) (v30 : Int) (v31 : Int) (b8a : D_api_Settings) (b8bbb : Unit) (b9 : D_api_Listing) (h10 : List D_api_Block) (h11 : List Int) (h12 : List D_api_Record) (h13 : List D_api_BlockHead) : extract_open_c1 v0 v30 v31 b8a b8bbb b9 h10 h11 h12 h13 = (
if (decide (v31 < v30)) = true then
gd (0 ≤ v31) <|
gd (v31 < (Int.ofNat (List.length h11))) <|
gd (0 ≤ (List.getD h11 (0 + (Int.toNat v31)) (0 : Int))) <|
gd ((List.getD h11 (0 + (Int.toNat v31)) (0 : Int)) ≤ (Int.ofNat (List.length v0))) <|
(block_Read (List.drop (Int.toNat (List.getD h11 (0 + (Int.toNat v31)) (0 : Int))) v0)).bind fun r3 =>
gd ((List.length (h10 ++ [r3.1])) * 88 ≤ 140737488355328) <|
extract_open_c1 v0 v30 (IntKind.wrap .i64 (v31 + (1 : Int))) b8a b8bbb b9 (h10 ++ [r3.1]) h11 h12 h13
else
some (b9, (h10, (0 : Int)))) := (FnI.sem_eq _).trans (by kernel_rfl)
noncomputable def extract_open_S (acc : List AV → Bool) : Summ Tryz.prog GT := extract_open_I.summ mixed acc false false
noncomputable def extract_parts_I : FnI Tryz.prog GT := { f := 31, cuts := [⟨(3, 3), [0, 1, 6, 17, 18, 19], false, false, []⟩, ⟨(11, 3), [1, 6, 11, 41, 42], false, false, []⟩], tab := [block_Raw_S (fun _ => true)], fm := ⟨true, [.val (.slice T_api_Part) [.nw], .val (.int .i64) []]⟩ }
noncomputable def extract_parts (a0 : Int) (a1 : List D_api_Block) : Option (List D_api_Part × Int) := extract_parts_I.call [(.int .i64 a0), (.sl T_api_Block false a1)] []
noncomputable def extract_parts_c1 (v0 : Int) (v1 : List D_api_Block) (v17 : List D_api_Block) (v18 : Int) (v19 : Int) (n8 : Nat) (h8 : List D_extract_result) : Option (List D_api_Part × Int) := extract_parts_I.sem ⟨[.code (cIn (cIn (cSnd (cFst (cSnd (cSnd (bodyOf Tryz.prog 31))))))), .inLoop (cIn (cIn (cSnd (cFst (cSnd (cSnd (bodyOf Tryz.prog 31))))))), .inBlock 0, .code (cSnd (cSnd (cSnd (bodyOf Tryz.prog 31))))], ⟨[(0, (.one (.int .i64 v0))), (1, (.one (.sl T_api_Block false v1))), (6, (.one (.chan 8))), (17, (.one (.sl T_api_Block false v17))), (18, (.one (.int .i64 v18))), (19, (.one (.int .i64 v19)))], [(8, some (.chan T_extract_result true n8 h8 false))], 9⟩⟩
noncomputable def extract_parts_c2 (v1 : List D_api_Block) (v41 : Int) (v42 : Int) (n8 : Nat) (h8 : List D_extract_result) (h9 : List D_api_Part) : Option (List D_api_Part × Int) := extract_parts_I.sem ⟨[.code (cIn (cIn (cSnd (cFst (cSnd (cSnd (cSnd (cSnd (cSnd (bodyOf Tryz.prog 31)))))))))), .inLoop (cIn (cIn (cSnd (cFst (cSnd (cSnd (cSnd (cSnd (cSnd (bodyOf Tryz.prog 31)))))))))), .inBlock 2, .code (cSnd (cSnd (cSnd (cSnd (cSnd (cSnd (bodyOf Tryz.prog 31)))))))], ⟨[(1, (.one (.sl T_api_Block false v1))), (6, (.one (.chan 8))), (11, (.one (.ref T_api_Part 9 0 (List.length h9) true))), (41, (.one (.int .i64 v41))), (42, (.one (.int .i64 v42)))], [(8, some (.chan T_extract_result true n8 h8 true)), (9, some (.row T_api_Part true h9))], 10⟩⟩
theorem extract_parts_eq (a0 : Int) (a1 : List D_api_Block) : extract_parts a0 a1 = (
gd (0 ≤ (Int.ofNat (List.length a1))) <|
gd ((Int.ofNat (List.length a1)) ≤ 9223372036854775807) <|
gd (40 * (Int.ofNat (List.length a1)) ≤ 281474976710544) <|
extract_parts_c1 a0 a1 a1 (Int.ofNat (List.length a1)) (0 : Int) (List.length a1) []) := (FnI.call_eq (by kernel_rfl)).trans (by kernel_rfl)
theorem extract_parts_c1_eq (v0 : Int) (v1 : List D_api_Block) (v17 : List D_api_Block) (v18 : Int) (v19 : Int) (n8 : Nat) (h8 : List D_extract_result) : extract_parts_c1 v0 v1 v17 v18 v19 n8 h8 = (
if (decide (v19 < v18)) = true then
gd (0 ≤ v19) <|
gd (v19 < (Int.ofNat (List.length v17))) <|
(block_Raw v0 (List.getD v17 (Int.toNat v19) (pzero T_api_Block))).bind fun r1 =>
gd ((List.length h8) < n8) <|
extract_parts_c1 v0 v1 v17 v18 (IntKind.wrap .i64 (v19 + (1 : Int))) n8 (h8 ++ [(v19, (r1.1, (r1.2, ())))])
else
gd ((Int.ofNat (List.length v1)) = (Int.ofNat (List.length v1))) <|
gd (0 ≤ (Int.ofNat (List.length v1))) <|
gd ((Int.ofNat (List.length v1)) * 48 ≤ 140737488355328) <|
gd ((Int.ofNat (List.length v1)) ≤ 9223372036854775807) <|
extract_parts_c2 v1 (Int.ofNat (List.length v1)) (0 : Int) n8 h8 (List.replicate (List.length v1) (pzero T_api_Part))) := (FnI.sem_eq _).trans (by kernel_rfl)
theorem extract_parts_c2_eq (v1 : List D_api_Block) (v41 : Int) (v42 : Int) (n8 : Nat) (h8 : List D_extract_result) (h9 : List D_api_Part) : extract_parts_c2 v1 v41 v42 n8 h8 h9 = (
if (decide (v42 < v41)) = true then
gd (0 < (List.length h8)) <|
if ((List.getD h8 0 (pzero T_extract_result)).2.2.1 != (0 : Int)) = true then
some ([], (List.getD h8 0 (pzero T_extract_result)).2.2.1)
else
gd (0 ≤ (List.getD h8 0 (pzero T_extract_result)).1) <|
gd ((List.getD h8 0 (pzero T_extract_result)).1 < (Int.ofNat (List.length v1))) <|
gd (0 ≤ (List.getD h8 0 (pzero T_extract_result)).1) <|
gd ((List.getD h8 0 (pzero T_extract_result)).1 < (Int.ofNat (List.length h9))) <|
extract_parts_c2 v1 v41 (IntKind.wrap .i64 (v42 + (1 : Int))) n8 (List.drop 1 h8) (List.set h9 (0 + (Int.toNat (List.getD h8 0 (pzero T_extract_result)).1)) (((List.getD v1 (Int.toNat (List.getD h8 0 (pzero T_extract_result)).1) (pzero T_api_Block)).1.2.1, ((List.getD v1 (Int.toNat (List.getD h8 0 (pzero T_extract_result)).1) (pzero T_api_Block)).1.2.2.1, ((List.getD v1 (Int.toNat (List.getD h8 0 (pzero T_extract_result)).1) (pzero T_api_Block)).1.2.2.2.1, ()))), ((List.getD h8 0 (pzero T_extract_result)).2.1, ())))
else
some (h9, (0 : Int))) := (FnI.sem_eq _).trans (by kernel_rfl)
noncomputable def extract_parts_S (acc : List AV → Bool) : Summ Tryz.prog GT := extract_parts_I.summ mixed acc false false
noncomputable def split_within_I : FnI Tryz.prog GT := { f := 58, cuts := [], tab := [], fm := ⟨true, [.val .bool []]⟩ }
noncomputable def split_within (a0 : List Int) (a1 : D_api_Piece) : Option (Bool) := split_within_I.call [(.sl (.int .i64) false a0), (.agg T_api_Piece (inj false T_api_Piece a1))] []
noncomputable def split_within_S (acc : List AV → Bool) : Summ Tryz.prog GT := split_within_I.summ mixed acc false false
noncomputable def split_fill_v2_I : FnI Tryz.prog GT := { f := 59, cuts := [⟨(3, 3), [0, 1, 5, 17, 18, 19], false, false, []⟩, ⟨(8, 3), [0, 5, 32, 33, 34], false, false, []⟩, ⟨(12, 7), [0, 5, 10, 32, 33, 34, 41, 42, 43], false, false, []⟩], tab := [], fm := ⟨false, [.val .bool [], .row 0 T_api_Member]⟩ }
noncomputable def split_fill_v2 (a1 : List D_api_Part) (h0 : List D_api_Member) : Option (Bool × List D_api_Member) := split_fill_v2_I.call [(.ref T_api_Member 0 0 (List.length h0) true), (.sl T_api_Part false a1)] [(0, (.row T_api_Member false h0))]
noncomputable def split_fill_v2_c1 (v1 : List D_api_Part) (v18 : Int) (v19 : Int) (h0 : List D_api_Member) (h8 : List (List Bool)) : Option (Bool × List D_api_Member) := split_fill_v2_I.sem ⟨[.code (cIn (cIn (cSnd (cFst (cSnd (cSnd (bodyOf Tryz.prog 59))))))), .inLoop (cIn (cIn (cSnd (cFst (cSnd (cSnd (bodyOf Tryz.prog 59))))))), .inBlock 0, .code (cSnd (cSnd (cSnd (bodyOf Tryz.prog 59))))], ⟨[(0, (.one (.ref T_api_Member 0 0 (List.length h0) true))), (1, (.one (.sl T_api_Part false v1))), (5, (.one (.ref (.slice .bool) 8 0 (List.length h8) true))), (17, (.one (.ref T_api_Member 0 0 (List.length h0) true))), (18, (.one (.int .i64 v18))), (19, (.one (.int .i64 v19)))], [(0, some (.row T_api_Member false h0)), (8, some (.row (.slice .bool) true h8))], 10⟩⟩
noncomputable def split_fill_v2_c2 (v32 : List D_api_Part) (v33 : Int) (v34 : Int) (h0 : List D_api_Member) (h8 : List (List Bool)) : Option (Bool × List D_api_Member) := split_fill_v2_I.sem ⟨[.code (cIn (cIn (cSnd (cFst (cSnd (cSnd (cSnd (bodyOf Tryz.prog 59)))))))), .inLoop (cIn (cIn (cSnd (cFst (cSnd (cSnd (cSnd (bodyOf Tryz.prog 59)))))))), .inBlock 2, .code (cSnd (cSnd (cSnd (cSnd (bodyOf Tryz.prog 59)))))], ⟨[(0, (.one (.ref T_api_Member 0 0 (List.length h0) true))), (5, (.one (.ref (.slice .bool) 8 0 (List.length h8) true))), (32, (.one (.sl T_api_Part false v32))), (33, (.one (.int .i64 v33))), (34, (.one (.int .i64 v34)))], [(0, some (.row T_api_Member false h0)), (8, some (.row (.slice .bool) true h8))], 10⟩⟩
noncomputable def split_fill_v2_c3 (v32 : List D_api_Part) (v33 : Int) (v34 : Int) (v41 : List Int) (v42 : Int) (v43 : Int) (h0 : List D_api_Member) (h8 : List (List Bool)) (b9 : D_api_Piece) : Option (Bool × List D_api_Member) := split_fill_v2_I.sem ⟨[.code (cIn (cIn (cSnd (cSnd (cSnd (cIn (cFst (cSnd (cSnd (cIn (cIn (cSnd (cFst (cSnd (cSnd (cSnd (bodyOf Tryz.prog 59))))))))))))))))), .inLoop (cIn (cIn (cSnd (cSnd (cSnd (cIn (cFst (cSnd (cSnd (cIn (cIn (cSnd (cFst (cSnd (cSnd (cSnd (bodyOf Tryz.prog 59))))))))))))))))), .inBlock 4, .inBlock 3, .code (cSnd (cSnd (cSnd (cIn (cIn (cSnd (cFst (cSnd (cSnd (cSnd (bodyOf Tryz.prog 59))))))))))), .inLoop (cIn (cIn (cSnd (cFst (cSnd (cSnd (cSnd (bodyOf Tryz.prog 59)))))))), .inBlock 2, .code (cSnd (cSnd (cSnd (cSnd (bodyOf Tryz.prog 59)))))], ⟨[(0, (.one (.ref T_api_Member 0 0 (List.length h0) true))), (5, (.one (.ref (.slice .bool) 8 0 (List.length h8) true))), (10, (.one (.ptr T_api_Piece 9 []))), (32, (.one (.sl T_api_Part false v32))), (33, (.one (.int .i64 v33))), (34, (.one (.int .i64 v34))), (41, (.one (.sl (.int .u8) false v41))), (42, (.one (.int .i64 v42))), (43, (.one (.int .i64 v43)))], [(0, some (.row T_api_Member false h0)), (8, some (.row (.slice .bool) true h8)), (9, some (.box T_api_Piece (inj false T_api_Piece b9)))], 11⟩⟩
theorem split_fill_v2_eq (a1 : List D_api_Part) (h0 : List D_api_Member) : split_fill_v2 a1 h0 = (
gd ((Int.ofNat (List.length h0)) = (Int.ofNat (List.length h0))) <|
gd (0 ≤ (Int.ofNat (List.length h0))) <|
gd ((Int.ofNat (List.length h0)) * 24 ≤ 140737488355328) <|
gd ((Int.ofNat (List.length h0)) ≤ 9223372036854775807) <|
split_fill_v2_c1 a1 (Int.ofNat (List.length h0)) (0 : Int) h0 (List.replicate (List.length h0) [])) := (FnI.call_eq (by kernel_rfl)).trans (by kernel_rfl)
theorem split_fill_v2_c1_eq (v1 : List D_api_Part) (v18 : Int) (v19 : Int) (h0 : List D_api_Member) (h8 : List (List Bool)) : split_fill_v2_c1 v1 v18 v19 h0 h8 = (
if (decide (v19 < v18)) = true then
gd (0 ≤ v19) <|
gd (v19 < (Int.ofNat (List.length h0))) <|
gd ((Int.ofNat (List.length (List.getD h0 (0 + (Int.toNat v19)) (pzero T_api_Member)).2.1)) = (Int.ofNat (List.length (List.getD h0 (0 + (Int.toNat v19)) (pzero T_api_Member)).2.1))) <|
gd (0 ≤ (Int.ofNat (List.length (List.getD h0 (0 + (Int.toNat v19)) (pzero T_api_Member)).2.1))) <|
gd ((Int.ofNat (List.length (List.getD h0 (0 + (Int.toNat v19)) (pzero T_api_Member)).2.1)) * 1 ≤ 140737488355328) <|
gd ((Int.ofNat (List.length (List.getD h0 (0 + (Int.toNat v19)) (pzero T_api_Member)).2.1)) ≤ 9223372036854775807) <|
gd (0 ≤ v19) <|
gd (v19 < (Int.ofNat (List.length h8))) <|
split_fill_v2_c1 v1 v18 (IntKind.wrap .i64 (v19 + (1 : Int))) h0 (List.set h8 (0 + (Int.toNat v19)) (List.replicate (List.length (List.getD h0 (0 + (Int.toNat v19)) (pzero T_api_Member)).2.1) false))
else
split_fill_v2_c2 v1 (Int.ofNat (List.length v1)) (0 : Int) h0 h8) := (FnI.sem_eq _).trans (by kernel_rfl)
theorem split_fill_v2_c2_eq (v32 : List D_api_Part) (v33 : Int) (v34 : Int) (h0 : List D_api_Member) (h8 : List (List Bool)) : split_fill_v2_c2 v32 v33 v34 h0 h8 = (
if (decide (v34 < v33)) = true then
gd (0 ≤ v34) <|
gd (v34 < (Int.ofNat (List.length v32))) <|
split_fill_v2_c3 v32 v33 v34 (List.getD v32 (Int.toNat v34) (pzero T_api_Part)).2.1 (Int.ofNat (List.length (List.getD v32 (Int.toNat v34) (pzero T_api_Part)).2.1)) (0 : Int) h0 h8 (List.getD v32 (Int.toNat v34) (pzero T_api_Part)).1
else
some (true, h0)) := (FnI.sem_eq _).trans (by kernel_rfl)
noncomputable def split_fill_v2_S (acc : List AV → Bool) : Summ Tryz.prog GT := split_fill_v2_I.summ mixed acc true false
noncomputable def slices_Clone_api_Piece_api_Piece_I : FnI Tryz.prog GT := { f := 98, cuts := [], tab := [], fm := ⟨true, [.val (.slice T_api_Piece) [.nw]]⟩ }
noncomputable def slices_Clone_api_Piece_api_Piece (a0 : List D_api_Piece) : Option (List D_api_Piece) := slices_Clone_api_Piece_api_Piece_I.call [(.sl T_api_Piece false a0)] []
theorem slices_Clone_api_Piece_api_Piece_eq (a0 : List D_api_Piece) : slices_Clone_api_Piece_api_Piece a0 = (
anyv (fun (r1 : Bool) => r1 = true → a0 = []) fun (r1 : Bool) =>
if r1 = true then
some ([])
else
gd ((List.length ([] ++ a0)) * 24 ≤ 140737488355328) <|
some ([] ++ a0)) := (FnI.call_eq (by kernel_rfl)).trans (by kernel_rfl)
noncomputable def slices_Clone_api_Piece_api_Piece_S (acc : List AV → Bool) : Summ Tryz.prog GT := slices_Clone_api_Piece_api_Piece_I.summ mixed acc false false
noncomputable def math_bits_Len64_I : FnI Tryz.prog GT := { f := 213, cuts := [], tab := [], fm := ⟨true, [.val (.int .i64) []]⟩ }
noncomputable def math_bits_Len64 (a0 : Int) : Option (Int) := math_bits_Len64_I.call [(.int .u64 a0)] []
theorem math_bits_Len64_eq (a0 : Int) : math_bits_Len64 a0 = (
if (decide (a0 ≥ (4294967296 : Int))) = true then
gd (0 ≤ (32 : Int)) <|
if (decide ((Int.fdiv a0 (4294967296 : Int)) ≥ (65536 : Int))) = true then
gd (0 ≤ (16 : Int)) <|
if (decide ((Int.fdiv (Int.fdiv a0 (4294967296 : Int)) (65536 : Int)) ≥ (256 : Int))) = true then
gd (0 ≤ (8 : Int)) <|
gd (0 ≤ (IntKind.wrap .u8 (Int.fdiv (Int.fdiv (Int.fdiv a0 (4294967296 : Int)) (65536 : Int)) (256 : Int)))) <|
gd ((IntKind.wrap .u8 (Int.fdiv (Int.fdiv (Int.fdiv a0 (4294967296 : Int)) (65536 : Int)) (256 : Int))) < (t40Tab1.size : Int)) <|
some (IntKind.wrap .i64 ((56 : Int) + (IntKind.wrap .i64 (btAt t40Tab1 (Int.toNat (IntKind.wrap .u8 (Int.fdiv (Int.fdiv (Int.fdiv a0 (4294967296 : Int)) (65536 : Int)) (256 : Int))))))))
else
gd (0 ≤ (IntKind.wrap .u8 (Int.fdiv (Int.fdiv a0 (4294967296 : Int)) (65536 : Int)))) <|
gd ((IntKind.wrap .u8 (Int.fdiv (Int.fdiv a0 (4294967296 : Int)) (65536 : Int))) < (t40Tab1.size : Int)) <|
some (IntKind.wrap .i64 ((48 : Int) + (IntKind.wrap .i64 (btAt t40Tab1 (Int.toNat (IntKind.wrap .u8 (Int.fdiv (Int.fdiv a0 (4294967296 : Int)) (65536 : Int))))))))
else
if (decide ((Int.fdiv a0 (4294967296 : Int)) ≥ (256 : Int))) = true then
gd (0 ≤ (8 : Int)) <|
gd (0 ≤ (IntKind.wrap .u8 (Int.fdiv (Int.fdiv a0 (4294967296 : Int)) (256 : Int)))) <|
gd ((IntKind.wrap .u8 (Int.fdiv (Int.fdiv a0 (4294967296 : Int)) (256 : Int))) < (t40Tab1.size : Int)) <|
some (IntKind.wrap .i64 ((40 : Int) + (IntKind.wrap .i64 (btAt t40Tab1 (Int.toNat (IntKind.wrap .u8 (Int.fdiv (Int.fdiv a0 (4294967296 : Int)) (256 : Int))))))))
else
gd (0 ≤ (IntKind.wrap .u8 (Int.fdiv a0 (4294967296 : Int)))) <|
gd ((IntKind.wrap .u8 (Int.fdiv a0 (4294967296 : Int))) < (t40Tab1.size : Int)) <|
some (IntKind.wrap .i64 ((32 : Int) + (IntKind.wrap .i64 (btAt t40Tab1 (Int.toNat (IntKind.wrap .u8 (Int.fdiv a0 (4294967296 : Int))))))))
else
if (decide (a0 ≥ (65536 : Int))) = true then
gd (0 ≤ (16 : Int)) <|
if (decide ((Int.fdiv a0 (65536 : Int)) ≥ (256 : Int))) = true then
gd (0 ≤ (8 : Int)) <|
gd (0 ≤ (IntKind.wrap .u8 (Int.fdiv (Int.fdiv a0 (65536 : Int)) (256 : Int)))) <|
gd ((IntKind.wrap .u8 (Int.fdiv (Int.fdiv a0 (65536 : Int)) (256 : Int))) < (t40Tab1.size : Int)) <|
some (IntKind.wrap .i64 ((24 : Int) + (IntKind.wrap .i64 (btAt t40Tab1 (Int.toNat (IntKind.wrap .u8 (Int.fdiv (Int.fdiv a0 (65536 : Int)) (256 : Int))))))))
else
gd (0 ≤ (IntKind.wrap .u8 (Int.fdiv a0 (65536 : Int)))) <|
gd ((IntKind.wrap .u8 (Int.fdiv a0 (65536 : Int))) < (t40Tab1.size : Int)) <|
some (IntKind.wrap .i64 ((16 : Int) + (IntKind.wrap .i64 (btAt t40Tab1 (Int.toNat (IntKind.wrap .u8 (Int.fdiv a0 (65536 : Int))))))))
else
if (decide (a0 ≥ (256 : Int))) = true then
gd (0 ≤ (8 : Int)) <|
gd (0 ≤ (IntKind.wrap .u8 (Int.fdiv a0 (256 : Int)))) <|
gd ((IntKind.wrap .u8 (Int.fdiv a0 (256 : Int))) < (t40Tab1.size : Int)) <|
some (IntKind.wrap .i64 ((8 : Int) + (IntKind.wrap .i64 (btAt t40Tab1 (Int.toNat (IntKind.wrap .u8 (Int.fdiv a0 (256 : Int))))))))
else
gd (0 ≤ (IntKind.wrap .u8 a0)) <|
gd ((IntKind.wrap .u8 a0) < (t40Tab1.size : Int)) <|
some (IntKind.wrap .i64 ((0 : Int) + (IntKind.wrap .i64 (btAt t40Tab1 (Int.toNat (IntKind.wrap .u8 a0))))))) := (FnI.call_eq (by kernel_rfl)).trans (by kernel_rfl)
noncomputable def math_bits_Len64_S (acc : List AV → Bool) : Summ Tryz.prog GT := math_bits_Len64_I.summ mixed acc false false
noncomputable def math_bits_Len_I : FnI Tryz.prog GT := { f := 145, cuts := [], tab := [math_bits_Len64_S (fun _ => true)], fm := ⟨true, [.val (.int .i64) []]⟩ }
noncomputable def math_bits_Len (a0 : Int) : Option (Int) := math_bits_Len_I.call [(.int .u64 a0)] []
theorem math_bits_Len_eq (a0 : Int) : math_bits_Len a0 = (
(math_bits_Len64 a0).bind fun r1 =>
some (r1)) := (FnI.call_eq (by kernel_rfl)).trans (by kernel_rfl)
noncomputable def math_bits_Len_S (acc : List AV → Bool) : Summ Tryz.prog GT := math_bits_Len_I.summ mixed acc false false
noncomputable def cmp_isNaN_int_I : FnI Tryz.prog GT := { f := 146, cuts := [], tab := [], fm := ⟨true, [.val .bool []]⟩ }
noncomputable def cmp_isNaN_int_S (acc : List AV → Bool) : Summ Tryz.prog GT := cmp_isNaN_int_I.summ mixed acc false false
noncomputable def cmp_Compare_int_I : FnI Tryz.prog GT := { f := 102, cuts := [], tab := [cmp_isNaN_int_S (fun _ => true)], fm := ⟨true, [.val (.int .i64) []]⟩ }
noncomputable def cmp_Compare_int_S (acc : List AV → Bool) : Summ Tryz.prog GT := cmp_Compare_int_I.summ mixed acc false false
noncomputable def cmp_Or_int_I : FnI Tryz.prog GT := { f := 101, cuts := [⟨(3, 3), [3, 6, 7, 8], false, false, []⟩], tab := [], fm := ⟨true, [.val (.int .i64) []]⟩ }
noncomputable def cmp_Or_int_S (acc : List AV → Bool) : Summ Tryz.prog GT := cmp_Or_int_I.summ mixed acc false false
noncomputable def split_missing_1_I : FnI Tryz.prog GT := { f := 100, cuts := [], tab := [cmp_Compare_int_S (fun _ => true), cmp_Or_int_S (fun _ => true)], fm := ⟨true, [.val (.int .i64) []]⟩ }
noncomputable def split_missing_1 (a0 : D_api_Piece) (a1 : D_api_Piece) : Option (Int) := split_missing_1_I.call [(.agg T_api_Piece (inj false T_api_Piece a0)), (.agg T_api_Piece (inj false T_api_Piece a1))] []
noncomputable def split_missing_1_S (acc : List AV → Bool) : Summ Tryz.prog GT := split_missing_1_I.summ mixed acc false false
noncomputable def slices_insertionSortCmpFunc_api_Piece_I : FnI Tryz.prog GT := { f := 204, cuts := [⟨(1, 2), [0, 1, 2, 3, 8], false, false, []⟩, ⟨(4, 6), [0, 1, 2, 3, 8, 9], false, false, []⟩], tab := [split_missing_1_S (fun _ => true)], fm := ⟨true, []⟩ }
noncomputable def slices_insertionSortCmpFunc_api_Piece (a0 : List D_api_Piece) (a1 : Int) (a2 : Int) : Option Unit := slices_insertionSortCmpFunc_api_Piece_I.call [(.sl T_api_Piece false a0), (.int .i64 a1), (.int .i64 a2), (.func 100 [])] []
noncomputable def slices_insertionSortCmpFunc_api_Piece_c1 (v0 : List D_api_Piece) (v1 : Int) (v2 : Int) (v8 : Int) : Option Unit := slices_insertionSortCmpFunc_api_Piece_I.sem ⟨[.code (cIn (cIn (cSnd (bodyOf Tryz.prog 204)))), .inLoop (cIn (cIn (cSnd (bodyOf Tryz.prog 204)))), .inBlock 0], ⟨[(0, (.one (.sl T_api_Piece false v0))), (1, (.one (.int .i64 v1))), (2, (.one (.int .i64 v2))), (3, (.one (.func 100 []))), (8, (.one (.int .i64 v8)))], [], 8⟩⟩
noncomputable def slices_insertionSortCmpFunc_api_Piece_c2 (v0 : List D_api_Piece) (v1 : Int) (v2 : Int) (v8 : Int) (v9 : Int) : Option Unit := slices_insertionSortCmpFunc_api_Piece_I.sem ⟨[.code (cIn (cIn (cSnd (cIn (cFst (cSnd (cIn (cIn (cSnd (bodyOf Tryz.prog 204)))))))))), .inLoop (cIn (cIn (cSnd (cIn (cFst (cSnd (cIn (cIn (cSnd (bodyOf Tryz.prog 204)))))))))), .inBlock 2, .inBlock 1, .code (cSnd (cSnd (cIn (cIn (cSnd (bodyOf Tryz.prog 204)))))), .inLoop (cIn (cIn (cSnd (bodyOf Tryz.prog 204)))), .inBlock 0], ⟨[(0, (.one (.sl T_api_Piece false v0))), (1, (.one (.int .i64 v1))), (2, (.one (.int .i64 v2))), (3, (.one (.func 100 []))), (8, (.one (.int .i64 v8))), (9, (.one (.int .i64 v9)))], [], 8⟩⟩
theorem slices_insertionSortCmpFunc_api_Piece_eq (a0 : List D_api_Piece) (a1 : Int) (a2 : Int) : slices_insertionSortCmpFunc_api_Piece a0 a1 a2 = (
slices_insertionSortCmpFunc_api_Piece_c1 a0 a1 a2 (IntKind.wrap .i64 (a1 + (1 : Int)))) := (FnI.call_eq (by kernel_rfl)).trans (by kernel_rfl)
theorem slices_insertionSortCmpFunc_api_Piece_c1_eq (v0 : List D_api_Piece) (v1 : Int) (v2 : Int) (v8 : Int) : slices_insertionSortCmpFunc_api_Piece_c1 v0 v1 v2 v8 = (
if (decide (v8 < v2)) = true then
slices_insertionSortCmpFunc_api_Piece_c2 v0 v1 v2 v8 v8
else
some ()) := (FnI.sem_eq _).trans (by kernel_rfl)
noncomputable def slices_insertionSortCmpFunc_api_Piece_S (acc : List AV → Bool) : Summ Tryz.prog GT := slices_insertionSortCmpFunc_api_Piece_I.summ mixed acc false false
noncomputable def slices_siftDownCmpFunc_api_Piece_I : FnI Tryz.prog GT := { f := 282, cuts := [⟨(1, 2), [0, 2, 3, 4, 10], false, false, []⟩], tab := [split_missing_1_S (fun _ => true)], fm := ⟨true, []⟩ }
noncomputable def slices_siftDownCmpFunc_api_Piece_S (acc : List AV → Bool) : Summ Tryz.prog GT := slices_siftDownCmpFunc_api_Piece_I.summ mixed acc false false
noncomputable def slices_heapSortCmpFunc_api_Piece_I : FnI Tryz.prog GT := { f := 205, cuts := [⟨(4, 3), [0, 3, 8, 9, 10, 11], false, false, []⟩, ⟨(8, 2), [0, 3, 8, 9, 12], false, false, []⟩], tab := [slices_siftDownCmpFunc_api_Piece_S (fun _ => true)], fm := ⟨true, []⟩ }
noncomputable def slices_heapSortCmpFunc_api_Piece (a0 : List D_api_Piece) (a1 : Int) (a2 : Int) : Option Unit := slices_heapSortCmpFunc_api_Piece_I.call [(.sl T_api_Piece false a0), (.int .i64 a1), (.int .i64 a2), (.func 100 [])] []
noncomputable def slices_heapSortCmpFunc_api_Piece_S (acc : List AV → Bool) : Summ Tryz.prog GT := slices_heapSortCmpFunc_api_Piece_I.summ mixed acc false false
noncomputable def slices_nextPowerOfTwo_I : FnI Tryz.prog GT := { f := 283, cuts := [], tab := [math_bits_Len_S (fun _ => true)], fm := ⟨true, [.val (.int .u64) []]⟩ }
noncomputable def slices_nextPowerOfTwo_S (acc : List AV → Bool) : Summ Tryz.prog GT := slices_nextPowerOfTwo_I.summ mixed acc false false
noncomputable def slices_xorshift_Next_I : FnI Tryz.prog GT := { f := 284, cuts := [], tab := [], fm := ⟨true, [.val (.int .u64) [], .box 0 (.int .u64) []]⟩ }
noncomputable def slices_xorshift_Next_S (acc : List AV → Bool) : Summ Tryz.prog GT := slices_xorshift_Next_I.summ mixed acc false false
noncomputable def slices_breakPatternsCmpFunc_api_Piece_I : FnI Tryz.prog GT := { f := 206, cuts := [⟨(5, 2), [0, 1, 8, 9, 10, 11], false, false, []⟩], tab := [slices_nextPowerOfTwo_S (fun _ => true), slices_xorshift_Next_S (fun _ => true)], fm := ⟨true, []⟩ }
noncomputable def slices_breakPatternsCmpFunc_api_Piece (a0 : List D_api_Piece) (a1 : Int) (a2 : Int) : Option Unit := slices_breakPatternsCmpFunc_api_Piece_I.call [(.sl T_api_Piece false a0), (.int .i64 a1), (.int .i64 a2), (.func 100 [])] []
noncomputable def slices_breakPatternsCmpFunc_api_Piece_S (acc : List AV → Bool) : Summ Tryz.prog GT := slices_breakPatternsCmpFunc_api_Piece_I.summ mixed acc false false
noncomputable def slices_order2CmpFunc_api_Piece_I : FnI Tryz.prog GT := { f := 351, cuts := [], tab := [split_missing_1_S (fun _ => true)], fm := ⟨true, [.val (.int .i64) [], .val (.int .i64) [], .box 0 (.int .i64) []]⟩ }
noncomputable def slices_order2CmpFunc_api_Piece_S (acc : List AV → Bool) : Summ Tryz.prog GT := slices_order2CmpFunc_api_Piece_I.summ mixed acc false false
noncomputable def slices_medianCmpFunc_api_Piece_I : FnI Tryz.prog GT := { f := 286, cuts := [], tab := [slices_order2CmpFunc_api_Piece_S (fun _ => true)], fm := ⟨true, [.val (.int .i64) [], .box 0 (.int .i64) []]⟩ }
noncomputable def slices_medianCmpFunc_api_Piece_S (acc : List AV → Bool) : Summ Tryz.prog GT := slices_medianCmpFunc_api_Piece_I.summ mixed acc false false
noncomputable def slices_medianAdjacentCmpFunc_api_Piece_I : FnI Tryz.prog GT := { f := 285, cuts := [], tab := [slices_medianCmpFunc_api_Piece_S (fun _ => true)], fm := ⟨true, [.val (.int .i64) [], .box 0 (.int .i64) []]⟩ }
noncomputable def slices_medianAdjacentCmpFunc_api_Piece_S (acc : List AV → Bool) : Summ Tryz.prog GT := slices_medianAdjacentCmpFunc_api_Piece_I.summ mixed acc false false
noncomputable def slices_choosePivotCmpFunc_api_Piece_I : FnI Tryz.prog GT := { f := 207, cuts := [], tab := [slices_medianAdjacentCmpFunc_api_Piece_S (fun _ => true), slices_medianCmpFunc_api_Piece_S (fun _ => true)], fm := ⟨true, [.val (.int .i64) [], .val (.int .i64) []]⟩ }
noncomputable def slices_choosePivotCmpFunc_api_Piece (a0 : List D_api_Piece) (a1 : Int) (a2 : Int) : Option (Int × Int) := slices_choosePivotCmpFunc_api_Piece_I.call [(.sl T_api_Piece false a0), (.int .i64 a1), (.int .i64 a2), (.func 100 [])] []
noncomputable def slices_choosePivotCmpFunc_api_Piece_S (acc : List AV → Bool) : Summ Tryz.prog GT := slices_choosePivotCmpFunc_api_Piece_I.summ mixed acc false false
noncomputable def slices_reverseRangeCmpFunc_api_Piece_I : FnI Tryz.prog GT := { f := 208, cuts := [⟨(2, 2), [0, 8, 9], false, false, []⟩], tab := [], fm := ⟨true, []⟩ }
noncomputable def slices_reverseRangeCmpFunc_api_Piece (a0 : List D_api_Piece) (a1 : Int) (a2 : Int) : Option Unit := slices_reverseRangeCmpFunc_api_Piece_I.call [(.sl T_api_Piece false a0), (.int .i64 a1), (.int .i64 a2), (.func 100 [])] []
noncomputable def slices_reverseRangeCmpFunc_api_Piece_S (acc : List AV → Bool) : Summ Tryz.prog GT := slices_reverseRangeCmpFunc_api_Piece_I.summ mixed acc false false
noncomputable def slices_partialInsertionSortCmpFunc_api_Piece_I : FnI Tryz.prog GT := { f := 209, cuts := [⟨(3, 3), [0, 1, 2, 3, 9, 10], false, false, []⟩, ⟨(5, 8), [0, 1, 2, 3, 9, 10], false, false, []⟩], tab := [split_missing_1_S (fun _ => true)], fm := ⟨true, [.val .bool []]⟩ }
noncomputable def slices_partialInsertionSortCmpFunc_api_Piece (a0 : List D_api_Piece) (a1 : Int) (a2 : Int) : Option (Bool) := slices_partialInsertionSortCmpFunc_api_Piece_I.call [(.sl T_api_Piece false a0), (.int .i64 a1), (.int .i64 a2), (.func 100 [])] []
noncomputable def slices_partialInsertionSortCmpFunc_api_Piece_S (acc : List AV → Bool) : Summ Tryz.prog GT := slices_partialInsertionSortCmpFunc_api_Piece_I.summ mixed acc false false
noncomputable def slices_pdqsortCmpFunc_api_Piece_I : FnI Tryz.prog GT := { f := 144, cuts := [⟨(2, 2), [0, 1, 2, 3, 4, 10, 11], false, false, []⟩], tab := [slices_insertionSortCmpFunc_api_Piece_S (fun _ => true), slices_heapSortCmpFunc_api_Piece_S (fun _ => true), slices_breakPatternsCmpFunc_api_Piece_S (fun _ => true), slices_choosePivotCmpFunc_api_Piece_S (fun _ => true), slices_reverseRangeCmpFunc_api_Piece_S (fun _ => true), slices_partialInsertionSortCmpFunc_api_Piece_S (fun _ => true), split_missing_1_S (fun _ => true)], fm := ⟨true, []⟩ }
noncomputable def slices_pdqsortCmpFunc_api_Piece (a0 : List D_api_Piece) (a1 : Int) (a2 : Int) (a3 : Int) : Option Unit := slices_pdqsortCmpFunc_api_Piece_I.call [(.sl T_api_Piece false a0), (.int .i64 a1), (.int .i64 a2), (.int .i64 a3), (.func 100 [])] []
noncomputable def slices_pdqsortCmpFunc_api_Piece_c1 (v0 : List D_api_Piece) (v1 : Int) (v2 : Int) (v3 : Int) (v10 : Bool) (v11 : Bool) : Option Unit := slices_pdqsortCmpFunc_api_Piece_I.sem ⟨[.code (cIn (cIn (cSnd (cSnd (bodyOf Tryz.prog 144))))), .inLoop (cIn (cIn (cSnd (cSnd (bodyOf Tryz.prog 144))))), .inBlock 0], ⟨[(0, (.one (.sl T_api_Piece false v0))), (1, (.one (.int .i64 v1))), (2, (.one (.int .i64 v2))), (3, (.one (.int .i64 v3))), (4, (.one (.func 100 []))), (10, (.one (.bool v10))), (11, (.one (.bool v11)))], [], 8⟩⟩
theorem slices_pdqsortCmpFunc_api_Piece_eq (a0 : List D_api_Piece) (a1 : Int) (a2 : Int) (a3 : Int) : slices_pdqsortCmpFunc_api_Piece a0 a1 a2 a3 = (
slices_pdqsortCmpFunc_api_Piece_c1 a0 a1 a2 a3 true true) := (FnI.call_eq (by kernel_rfl)).trans (by kernel_rfl)
theorem slices_pdqsortCmpFunc_api_Piece_c1_eq (v0 : List D_api_Piece) (v1 : Int) (v2 : Int) (v3 : Int) (v10 : Bool) (v11 : Bool) : slices_pdqsortCmpFunc_api_Piece_c1 v0 v1 v2 v3 v10 v11 = (
if (decide ((IntKind.wrap .i64 (v2 - v1)) ≤ (12 : Int))) = true then
(slices_insertionSortCmpFunc_api_Piece v0 v1 v2).bind fun r1 =>
some ()
else
if (v3 == (0 : Int)) = true then
(slices_heapSortCmpFunc_api_Piece v0 v1 v2).bind fun r2 =>
some ()
else
if (not v10) = true then
(slices_breakPatternsCmpFunc_api_Piece v0 v1 v2).bind fun r3 =>
(slices_choosePivotCmpFunc_api_Piece v0 v1 v2).bind fun r4 =>
if (r4.2 == (2 : Int)) = true then
(slices_reverseRangeCmpFunc_api_Piece v0 v1 v2).bind fun r5 =>
if v10 = true then
if v11 = true then
(slices_partialInsertionSortCmpFunc_api_Piece v0 v1 v2).bind fun r6 =>
if r6 = true then
some ()
else
if (decide (v1 > (0 : Int))) = true then
gd (0 ≤ (IntKind.wrap .i64 (v1 - (1 : Int)))) <|
gd ((IntKind.wrap .i64 (v1 - (1 : Int))) < (Int.ofNat (List.length v0))) <|
gd (0 ≤ (IntKind.wrap .i64 ((IntKind.wrap .i64 (v2 - (1 : Int))) - (IntKind.wrap .i64 (r4.1 - v1))))) <|
gd ((IntKind.wrap .i64 ((IntKind.wrap .i64 (v2 - (1 : Int))) - (IntKind.wrap .i64 (r4.1 - v1)))) < (Int.ofNat (List.length v0))) <|
(split_missing_1 (List.getD v0 (Int.toNat (IntKind.wrap .i64 (v1 - (1 : Int)))) (pzero T_api_Piece)) (List.getD v0 (Int.toNat (IntKind.wrap .i64 ((IntKind.wrap .i64 (v2 - (1 : Int))) - (IntKind.wrap .i64 (r4.1 - v1))))) (pzero T_api_Piece))).bind fun r7 =>
if (not (decide (r7 < (0 : Int)))) = true then
none
else
none
else
none
else
if (decide (v1 > (0 : Int))) = true then
gd (0 ≤ (IntKind.wrap .i64 (v1 - (1 : Int)))) <|
gd ((IntKind.wrap .i64 (v1 - (1 : Int))) < (Int.ofNat (List.length v0))) <|
gd (0 ≤ (IntKind.wrap .i64 ((IntKind.wrap .i64 (v2 - (1 : Int))) - (IntKind.wrap .i64 (r4.1 - v1))))) <|
gd ((IntKind.wrap .i64 ((IntKind.wrap .i64 (v2 - (1 : Int))) - (IntKind.wrap .i64 (r4.1 - v1)))) < (Int.ofNat (List.length v0))) <|
(split_missing_1 (List.getD v0 (Int.toNat (IntKind.wrap .i64 (v1 - (1 : Int)))) (pzero T_api_Piece)) (List.getD v0 (Int.toNat (IntKind.wrap .i64 ((IntKind.wrap .i64 (v2 - (1 : Int))) - (IntKind.wrap .i64 (r4.1 - v1))))) (pzero T_api_Piece))).bind fun r8 =>
if (not (decide (r8 < (0 : Int)))) = true then
none
else
none
else
none
else
if (decide (v1 > (0 : Int))) = true then
gd (0 ≤ (IntKind.wrap .i64 (v1 - (1 : Int)))) <|
gd ((IntKind.wrap .i64 (v1 - (1 : Int))) < (Int.ofNat (List.length v0))) <|
gd (0 ≤ (IntKind.wrap .i64 ((IntKind.wrap .i64 (v2 - (1 : Int))) - (IntKind.wrap .i64 (r4.1 - v1))))) <|
gd ((IntKind.wrap .i64 ((IntKind.wrap .i64 (v2 - (1 : Int))) - (IntKind.wrap .i64 (r4.1 - v1)))) < (Int.ofNat (List.length v0))) <|
(split_missing_1 (List.getD v0 (Int.toNat (IntKind.wrap .i64 (v1 - (1 : Int)))) (pzero T_api_Piece)) (List.getD v0 (Int.toNat (IntKind.wrap .i64 ((IntKind.wrap .i64 (v2 - (1 : Int))) - (IntKind.wrap .i64 (r4.1 - v1))))) (pzero T_api_Piece))).bind fun r9 =>
if (not (decide (r9 < (0 : Int)))) = true then
none
else
none
else
none
else
if v10 = true then
if v11 = true then
if (r4.2 == (1 : Int)) = true then
(slices_partialInsertionSortCmpFunc_api_Piece v0 v1 v2).bind fun r10 =>
if r10 = true then
some ()
else
if (decide (v1 > (0 : Int))) = true then
gd (0 ≤ (IntKind.wrap .i64 (v1 - (1 : Int)))) <|
gd ((IntKind.wrap .i64 (v1 - (1 : Int))) < (Int.ofNat (List.length v0))) <|
gd (0 ≤ r4.1) <|
gd (r4.1 < (Int.ofNat (List.length v0))) <|
(split_missing_1 (List.getD v0 (Int.toNat (IntKind.wrap .i64 (v1 - (1 : Int)))) (pzero T_api_Piece)) (List.getD v0 (Int.toNat r4.1) (pzero T_api_Piece))).bind fun r11 =>
if (not (decide (r11 < (0 : Int)))) = true then
none
else
none
else
none
else
if (decide (v1 > (0 : Int))) = true then
gd (0 ≤ (IntKind.wrap .i64 (v1 - (1 : Int)))) <|
gd ((IntKind.wrap .i64 (v1 - (1 : Int))) < (Int.ofNat (List.length v0))) <|
gd (0 ≤ r4.1) <|
gd (r4.1 < (Int.ofNat (List.length v0))) <|
(split_missing_1 (List.getD v0 (Int.toNat (IntKind.wrap .i64 (v1 - (1 : Int)))) (pzero T_api_Piece)) (List.getD v0 (Int.toNat r4.1) (pzero T_api_Piece))).bind fun r12 =>
if (not (decide (r12 < (0 : Int)))) = true then
none
else
none
else
none
else
if (decide (v1 > (0 : Int))) = true then
gd (0 ≤ (IntKind.wrap .i64 (v1 - (1 : Int)))) <|
gd ((IntKind.wrap .i64 (v1 - (1 : Int))) < (Int.ofNat (List.length v0))) <|
gd (0 ≤ r4.1) <|
gd (r4.1 < (Int.ofNat (List.length v0))) <|
(split_missing_1 (List.getD v0 (Int.toNat (IntKind.wrap .i64 (v1 - (1 : Int)))) (pzero T_api_Piece)) (List.getD v0 (Int.toNat r4.1) (pzero T_api_Piece))).bind fun r13 =>
if (not (decide (r13 < (0 : Int)))) = true then
none
else
none
else
none
else
if (decide (v1 > (0 : Int))) = true then
gd (0 ≤ (IntKind.wrap .i64 (v1 - (1 : Int)))) <|
gd ((IntKind.wrap .i64 (v1 - (1 : Int))) < (Int.ofNat (List.length v0))) <|
gd (0 ≤ r4.1) <|
gd (r4.1 < (Int.ofNat (List.length v0))) <|
(split_missing_1 (List.getD v0 (Int.toNat (IntKind.wrap .i64 (v1 - (1 : Int)))) (pzero T_api_Piece)) (List.getD v0 (Int.toNat r4.1) (pzero T_api_Piece))).bind fun r14 =>
if (not (decide (r14 < (0 : Int)))) = true then
none
else
none
else
none
else
(slices_choosePivotCmpFunc_api_Piece v0 v1 v2).bind fun r15 =>
if (r15.2 == (2 : Int)) = true then
(slices_reverseRangeCmpFunc_api_Piece v0 v1 v2).bind fun r16 =>
if v10 = true then
if v11 = true then
(slices_partialInsertionSortCmpFunc_api_Piece v0 v1 v2).bind fun r17 =>
if r17 = true then
some ()
else
if (decide (v1 > (0 : Int))) = true then
gd (0 ≤ (IntKind.wrap .i64 (v1 - (1 : Int)))) <|
gd ((IntKind.wrap .i64 (v1 - (1 : Int))) < (Int.ofNat (List.length v0))) <|
gd (0 ≤ (IntKind.wrap .i64 ((IntKind.wrap .i64 (v2 - (1 : Int))) - (IntKind.wrap .i64 (r15.1 - v1))))) <|
gd ((IntKind.wrap .i64 ((IntKind.wrap .i64 (v2 - (1 : Int))) - (IntKind.wrap .i64 (r15.1 - v1)))) < (Int.ofNat (List.length v0))) <|
(split_missing_1 (List.getD v0 (Int.toNat (IntKind.wrap .i64 (v1 - (1 : Int)))) (pzero T_api_Piece)) (List.getD v0 (Int.toNat (IntKind.wrap .i64 ((IntKind.wrap .i64 (v2 - (1 : Int))) - (IntKind.wrap .i64 (r15.1 - v1))))) (pzero T_api_Piece))).bind fun r18 =>
if (not (decide (r18 < (0 : Int)))) = true then
none
else
none
else
none
else
if (decide (v1 > (0 : Int))) = true then
gd (0 ≤ (IntKind.wrap .i64 (v1 - (1 : Int)))) <|
gd ((IntKind.wrap .i64 (v1 - (1 : Int))) < (Int.ofNat (List.length v0))) <|
gd (0 ≤ (IntKind.wrap .i64 ((IntKind.wrap .i64 (v2 - (1 : Int))) - (IntKind.wrap .i64 (r15.1 - v1))))) <|
gd ((IntKind.wrap .i64 ((IntKind.wrap .i64 (v2 - (1 : Int))) - (IntKind.wrap .i64 (r15.1 - v1)))) < (Int.ofNat (List.length v0))) <|
(split_missing_1 (List.getD v0 (Int.toNat (IntKind.wrap .i64 (v1 - (1 : Int)))) (pzero T_api_Piece)) (List.getD v0 (Int.toNat (IntKind.wrap .i64 ((IntKind.wrap .i64 (v2 - (1 : Int))) - (IntKind.wrap .i64 (r15.1 - v1))))) (pzero T_api_Piece))).bind fun r19 =>
if (not (decide (r19 < (0 : Int)))) = true then
none
else
none
else
none
else
if (decide (v1 > (0 : Int))) = true then
gd (0 ≤ (IntKind.wrap .i64 (v1 - (1 : Int)))) <|
gd ((IntKind.wrap .i64 (v1 - (1 : Int))) < (Int.ofNat (List.length v0))) <|
gd (0 ≤ (IntKind.wrap .i64 ((IntKind.wrap .i64 (v2 - (1 : Int))) - (IntKind.wrap .i64 (r15.1 - v1))))) <|
gd ((IntKind.wrap .i64 ((IntKind.wrap .i64 (v2 - (1 : Int))) - (IntKind.wrap .i64 (r15.1 - v1)))) < (Int.ofNat (List.length v0))) <|
(split_missing_1 (List.getD v0 (Int.toNat (IntKind.wrap .i64 (v1 - (1 : Int)))) (pzero T_api_Piece)) (List.getD v0 (Int.toNat (IntKind.wrap .i64 ((IntKind.wrap .i64 (v2 - (1 : Int))) - (IntKind.wrap .i64 (r15.1 - v1))))) (pzero T_api_Piece))).bind fun r20 =>
if (not (decide (r20 < (0 : Int)))) = true then
none
else
none
else
none
else
if v10 = true then
if v11 = true then
if (r15.2 == (1 : Int)) = true then
(slices_partialInsertionSortCmpFunc_api_Piece v0 v1 v2).bind fun r21 =>
if r21 = true then
some ()
else
if (decide (v1 > (0 : Int))) = true then
gd (0 ≤ (IntKind.wrap .i64 (v1 - (1 : Int)))) <|
gd ((IntKind.wrap .i64 (v1 - (1 : Int))) < (Int.ofNat (List.length v0))) <|
gd (0 ≤ r15.1) <|
gd (r15.1 < (Int.ofNat (List.length v0))) <|
(split_missing_1 (List.getD v0 (Int.toNat (IntKind.wrap .i64 (v1 - (1 : Int)))) (pzero T_api_Piece)) (List.getD v0 (Int.toNat r15.1) (pzero T_api_Piece))).bind fun r22 =>
if (not (decide (r22 < (0 : Int)))) = true then
none
else
none
else
none
else
if (decide (v1 > (0 : Int))) = true then
gd (0 ≤ (IntKind.wrap .i64 (v1 - (1 : Int)))) <|
gd ((IntKind.wrap .i64 (v1 - (1 : Int))) < (Int.ofNat (List.length v0))) <|
gd (0 ≤ r15.1) <|
gd (r15.1 < (Int.ofNat (List.length v0))) <|
(split_missing_1 (List.getD v0 (Int.toNat (IntKind.wrap .i64 (v1 - (1 : Int)))) (pzero T_api_Piece)) (List.getD v0 (Int.toNat r15.1) (pzero T_api_Piece))).bind fun r23 =>
if (not (decide (r23 < (0 : Int)))) = true then
none
else
none
else
none
else
if (decide (v1 > (0 : Int))) = true then
gd (0 ≤ (IntKind.wrap .i64 (v1 - (1 : Int)))) <|
gd ((IntKind.wrap .i64 (v1 - (1 : Int))) < (Int.ofNat (List.length v0))) <|
gd (0 ≤ r15.1) <|
gd (r15.1 < (Int.ofNat (List.length v0))) <|
(split_missing_1 (List.getD v0 (Int.toNat (IntKind.wrap .i64 (v1 - (1 : Int)))) (pzero T_api_Piece)) (List.getD v0 (Int.toNat r15.1) (pzero T_api_Piece))).bind fun r24 =>
if (not (decide (r24 < (0 : Int)))) = true then
none
else
none
else
none
else
if (decide (v1 > (0 : Int))) = true then
gd (0 ≤ (IntKind.wrap .i64 (v1 - (1 : Int)))) <|
gd ((IntKind.wrap .i64 (v1 - (1 : Int))) < (Int.ofNat (List.length v0))) <|
gd (0 ≤ r15.1) <|
gd (r15.1 < (Int.ofNat (List.length v0))) <|
(split_missing_1 (List.getD v0 (Int.toNat (IntKind.wrap .i64 (v1 - (1 : Int)))) (pzero T_api_Piece)) (List.getD v0 (Int.toNat r15.1) (pzero T_api_Piece))).bind fun r25 =>
if (not (decide (r25 < (0 : Int)))) = true then
none
else
none
else
none) := (FnI.sem_eq _).trans (by kernel_rfl)
noncomputable def slices_pdqsortCmpFunc_api_Piece_S (acc : List AV → Bool) : Summ Tryz.prog GT := slices_pdqsortCmpFunc_api_Piece_I.summ mixed acc false false
noncomputable def slices_SortFunc_api_Piece_api_Piece_I : FnI Tryz.prog GT := { f := 99, cuts := [], tab := [math_bits_Len_S (fun _ => true), slices_pdqsortCmpFunc_api_Piece_S (fun _ => true)], fm := ⟨true, []⟩ }
noncomputable def slices_SortFunc_api_Piece_api_Piece (a0 : List D_api_Piece) : Option Unit := slices_SortFunc_api_Piece_api_Piece_I.call [(.sl T_api_Piece false a0), (.func 100 [])] []
theorem slices_SortFunc_api_Piece_api_Piece_eq (a0 : List D_api_Piece) : slices_SortFunc_api_Piece_api_Piece a0 = (
(math_bits_Len (IntKind.wrap .u64 (Int.ofNat (List.length a0)))).bind fun r1 =>
(slices_pdqsortCmpFunc_api_Piece a0 (0 : Int) (Int.ofNat (List.length a0)) r1).bind fun r2 =>
some ()) := (FnI.call_eq (by kernel_rfl)).trans (by kernel_rfl)
noncomputable def slices_SortFunc_api_Piece_api_Piece_S (acc : List AV → Bool) : Summ Tryz.prog GT := slices_SortFunc_api_Piece_api_Piece_I.summ mixed acc false false
noncomputable def split_missing_I : FnI Tryz.prog GT := { f := 60, cuts := [⟨(9, 7), [1, 5, 6, 8, 15, 16, 17, 27, 28, 29], false, false, []⟩, ⟨(5, 3), [1, 5, 15, 16, 17], false, false, []⟩], tab := [slices_Clone_api_Piece_api_Piece_S (fun _ => true), slices_SortFunc_api_Piece_api_Piece_S (fun _ => true)], fm := ⟨true, [.val (.slice T_api_Piece) [.nw]]⟩ }
noncomputable def split_missing (a0 : List Int) (a1 : List D_api_Piece) : Option (List D_api_Piece) := split_missing_I.call [(.sl (.int .i64) false a0), (.sl T_api_Piece false a1)] []
noncomputable def split_missing_c1 (v15 : List Int) (v16 : Int) (v17 : Int) (h8 : List D_api_Piece) (h9 : List D_api_Piece) : Option (List D_api_Piece) := split_missing_I.sem ⟨[.code (cIn (cIn (cSnd (cFst (cSnd (cSnd (cSnd (cSnd (bodyOf Tryz.prog 60))))))))), .inLoop (cIn (cIn (cSnd (cFst (cSnd (cSnd (cSnd (cSnd (bodyOf Tryz.prog 60))))))))), .inBlock 0, .code (cSnd (cSnd (cSnd (cSnd (cSnd (bodyOf Tryz.prog 60))))))], ⟨[(1, (.one (.ref T_api_Piece 8 0 (List.length h8) true))), (5, (.one (.ref T_api_Piece 9 0 (List.length h9) true))), (15, (.one (.sl (.int .i64) false v15))), (16, (.one (.int .i64 v16))), (17, (.one (.int .i64 v17)))], [(8, some (.row T_api_Piece true h8)), (9, some (.row T_api_Piece true h9))], 10⟩⟩
theorem split_missing_eq (a0 : List Int) (a1 : List D_api_Piece) : split_missing a0 a1 = (
(slices_Clone_api_Piece_api_Piece a1).bind fun r1 =>
(slices_SortFunc_api_Piece_api_Piece r1).bind fun r2 =>
split_missing_c1 a0 (Int.ofNat (List.length a0)) (0 : Int) r1 []) := (FnI.call_eq (by kernel_rfl)).trans (by kernel_rfl)
theorem split_missing_c1_eq (v15 : List Int) (v16 : Int) (v17 : Int) (h8 : List D_api_Piece) (h9 : List D_api_Piece) : split_missing_c1 v15 v16 v17 h8 h9 = (
if (decide (v17 < v16)) = true then
gd (0 ≤ v17) <|
gd (v17 < (Int.ofNat (List.length v15))) <|
gd ((List.length (h8 ++ [(v17, ((List.getD v15 (Int.toNat v17) (0 : Int)), ((0 : Int), ())))])) * 24 ≤ 140737488355328) <|
none
else
some (h9)) := (FnI.sem_eq _).trans (by kernel_rfl)
noncomputable def split_missing_S (acc : List AV → Bool) : Summ Tryz.prog GT := split_missing_I.summ mixed acc false false
noncomputable def split_Put_I : FnI Tryz.prog GT := { f := 32, cuts := [⟨(9, 3), [0, 1, 7, 8, 26, 27, 28], false, false, []⟩, ⟨(16, 3), [0, 1, 7, 8, 11, 47, 48, 49], false, false, []⟩, ⟨(27, 3), [0, 8, 82, 83, 84], false, false, []⟩], tab := [member_Valid_S (fun _ => true), split_within_S (fun _ => true), (split_fill_v2_S (fun _ => true)).dropping, split_missing_S (fun _ => true), sha_Sum_S (fun _ => true)], fm := ⟨false, [.val (.slice T_api_Member) [.nw], .val (.int .i64) []]⟩ }
noncomputable def split_Put (a0 : List D_api_Record) (a1 : List D_api_Part) : Option (List D_api_Member × Int) := split_Put_I.call [(.sl T_api_Record false a0), (.sl T_api_Part false a1)] []
noncomputable def split_Put_c1 (v0 : List D_api_Record) (v1 : List D_api_Part) (v26 : List D_api_Record) (v27 : Int) (v28 : Int) (h8 : List Int) (h9 : List D_api_Member) : Option (List D_api_Member × Int) := split_Put_I.sem ⟨[.code (cIn (cIn (cSnd (cFst (cSnd (cSnd (cSnd (cSnd (cSnd (bodyOf Tryz.prog 32)))))))))), .inLoop (cIn (cIn (cSnd (cFst (cSnd (cSnd (cSnd (cSnd (cSnd (bodyOf Tryz.prog 32)))))))))), .inBlock 0, .code (cSnd (cSnd (cSnd (cSnd (cSnd (cSnd (bodyOf Tryz.prog 32)))))))], ⟨[(0, (.one (.sl T_api_Record false v0))), (1, (.one (.sl T_api_Part false v1))), (7, (.one (.ref (.int .i64) 8 0 (List.length h8) true))), (8, (.one (.ref T_api_Member 9 0 (List.length h9) true))), (26, (.one (.sl T_api_Record false v26))), (27, (.one (.int .i64 v27))), (28, (.one (.int .i64 v28)))], [(8, some (.row (.int .i64) true h8)), (9, some (.row T_api_Member true h9))], 10⟩⟩
noncomputable def split_Put_c2 (v0 : List D_api_Record) (v1 : List D_api_Part) (v47 : List D_api_Part) (v48 : Int) (v49 : Int) (h8 : List Int) (h9 : List D_api_Member) (h10 : List D_api_Piece) : Option (List D_api_Member × Int) := split_Put_I.sem ⟨[.code (cIn (cIn (cSnd (cFst (cSnd (cSnd (cSnd (cSnd (cSnd (cSnd (cSnd (bodyOf Tryz.prog 32)))))))))))), .inLoop (cIn (cIn (cSnd (cFst (cSnd (cSnd (cSnd (cSnd (cSnd (cSnd (cSnd (bodyOf Tryz.prog 32)))))))))))), .inBlock 2, .code (cSnd (cSnd (cSnd (cSnd (cSnd (cSnd (cSnd (cSnd (bodyOf Tryz.prog 32)))))))))], ⟨[(0, (.one (.sl T_api_Record false v0))), (1, (.one (.sl T_api_Part false v1))), (7, (.one (.ref (.int .i64) 8 0 (List.length h8) true))), (8, (.one (.ref T_api_Member 9 0 (List.length h9) true))), (11, (.one (.ref T_api_Piece 10 0 (List.length h10) true))), (47, (.one (.sl T_api_Part false v47))), (48, (.one (.int .i64 v48))), (49, (.one (.int .i64 v49)))], [(8, some (.row (.int .i64) true h8)), (9, some (.row T_api_Member true h9)), (10, some (.row T_api_Piece true h10))], 11⟩⟩
noncomputable def split_Put_c3 (v0 : List D_api_Record) (v83 : Int) (v84 : Int) (h8 : List D_api_Member) : Option (List D_api_Member × Int) := split_Put_I.sem ⟨[.code (cIn (cIn (cSnd (cFst (cSnd (cSnd (cSnd (cSnd (cSnd (cSnd (cSnd (cSnd (cSnd (cSnd (bodyOf Tryz.prog 32))))))))))))))), .inLoop (cIn (cIn (cSnd (cFst (cSnd (cSnd (cSnd (cSnd (cSnd (cSnd (cSnd (cSnd (cSnd (cSnd (bodyOf Tryz.prog 32))))))))))))))), .inBlock 4, .code (cSnd (cSnd (cSnd (cSnd (cSnd (cSnd (cSnd (cSnd (cSnd (cSnd (cSnd (bodyOf Tryz.prog 32))))))))))))], ⟨[(0, (.one (.sl T_api_Record false v0))), (8, (.one (.ref T_api_Member 8 0 (List.length h8) true))), (82, (.one (.ref T_api_Member 8 0 (List.length h8) true))), (83, (.one (.int .i64 v83))), (84, (.one (.int .i64 v84)))], [(8, some (.row T_api_Member false h8))], 9⟩⟩
theorem split_Put_eq (a0 : List D_api_Record) (a1 : List D_api_Part) : split_Put a0 a1 = (
(member_Valid a0).bind fun r1 =>
if (r1 != (0 : Int)) = true then
some ([], r1)
else
if (decide ((Int.ofNat (List.length a1)) > (600 : Int))) = true then
some ([], (4 : Int))
else
split_Put_c1 a0 a1 a0 (Int.ofNat (List.length a0)) (0 : Int) [] []) := (FnI.call_eq (by kernel_rfl)).trans (by kernel_rfl)
theorem split_Put_c1_eq (v0 : List D_api_Record) (v1 : List D_api_Part) (v26 : List D_api_Record) (v27 : Int) (v28 : Int) (h8 : List Int) (h9 : List D_api_Member) : split_Put_c1 v0 v1 v26 v27 v28 h8 h9 = (
if (decide (v28 < v27)) = true then
gd (0 ≤ v28) <|
gd (v28 < (Int.ofNat (List.length v26))) <|
gd ((List.length (h8 ++ [(List.getD v26 (Int.toNat v28) (pzero T_api_Record)).2.1])) * 8 ≤ 140737488355328) <|
gd ((List.getD v26 (Int.toNat v28) (pzero T_api_Record)).2.1 = (List.getD v26 (Int.toNat v28) (pzero T_api_Record)).2.1) <|
gd (0 ≤ (List.getD v26 (Int.toNat v28) (pzero T_api_Record)).2.1) <|
gd ((List.getD v26 (Int.toNat v28) (pzero T_api_Record)).2.1 * 1 ≤ 140737488355328) <|
gd ((List.getD v26 (Int.toNat v28) (pzero T_api_Record)).2.1 ≤ 9223372036854775807) <|
gd ((List.length (h9 ++ [((List.getD v26 (Int.toNat v28) (pzero T_api_Record)).1, ((List.replicate (Int.toNat (List.getD v26 (Int.toNat v28) (pzero T_api_Record)).2.1) (0 : Int)), ()))])) * 40 ≤ 140737488355328) <|
split_Put_c1 v0 v1 v26 v27 (IntKind.wrap .i64 (v28 + (1 : Int))) (h8 ++ [(List.getD v26 (Int.toNat v28) (pzero T_api_Record)).2.1]) (h9 ++ [((List.getD v26 (Int.toNat v28) (pzero T_api_Record)).1, ((List.replicate (Int.toNat (List.getD v26 (Int.toNat v28) (pzero T_api_Record)).2.1) (0 : Int)), ()))])
else
split_Put_c2 v0 v1 v1 (Int.ofNat (List.length v1)) (0 : Int) h8 h9 []) := (FnI.sem_eq _).trans (by kernel_rfl)
theorem split_Put_c2_eq (v0 : List D_api_Record) (v1 : List D_api_Part) (v47 : List D_api_Part) (v48 : Int) (v49 : Int) (h8 : List Int) (h9 : List D_api_Member) (h10 : List D_api_Piece) : split_Put_c2 v0 v1 v47 v48 v49 h8 h9 h10 = (
if (decide (v49 < v48)) = true then
gd (0 ≤ v49) <|
gd (v49 < (Int.ofNat (List.length v47))) <|
(split_within h8 (List.getD v47 (Int.toNat v49) (pzero T_api_Part)).1).bind fun r2 =>
if (not r2) = true then
some ([], (8 : Int))
else
if ((Int.ofNat (List.length (List.getD v47 (Int.toNat v49) (pzero T_api_Part)).2.1)) != (List.getD v47 (Int.toNat v49) (pzero T_api_Part)).1.2.2.1) = true then
some ([], (8 : Int))
else
gd ((List.length (h10 ++ [(List.getD v47 (Int.toNat v49) (pzero T_api_Part)).1])) * 24 ≤ 140737488355328) <|
split_Put_c2 v0 v1 v47 v48 (IntKind.wrap .i64 (v49 + (1 : Int))) h8 h9 (h10 ++ [(List.getD v47 (Int.toNat v49) (pzero T_api_Part)).1])
else
(split_fill_v2 v1 h9).bind fun r3 =>
if (not r3.1) = true then
some ([], (14 : Int))
else
(split_missing h8 h10).bind fun r4 =>
if (decide ((Int.ofNat (List.length r4)) > (0 : Int))) = true then
some ([], (40 : Int))
else
split_Put_c3 v0 (Int.ofNat (List.length h9)) (0 : Int) r3.2) := (FnI.sem_eq _).trans (by kernel_rfl)
theorem split_Put_c3_eq (v0 : List D_api_Record) (v83 : Int) (v84 : Int) (h8 : List D_api_Member) : split_Put_c3 v0 v83 v84 h8 = (
if (decide (v84 < v83)) = true then
gd (0 ≤ v84) <|
gd (v84 < (Int.ofNat (List.length h8))) <|
(sha_Sum (List.getD h8 (0 + (Int.toNat v84)) (pzero T_api_Member)).2.1).bind fun r5 =>
gd (0 ≤ v84) <|
gd (v84 < (Int.ofNat (List.length v0))) <|
if (not (peq (.arr 20 (.int .u8)) r5.1 (List.getD v0 (Int.toNat v84) (pzero T_api_Record)).2.2.1)) = true then
some ([], (22 : Int))
else
split_Put_c3 v0 v83 (IntKind.wrap .i64 (v84 + (1 : Int))) h8
else
some (h8, (0 : Int))) := (FnI.sem_eq _).trans (by kernel_rfl)
noncomputable def split_Put_S (acc : List AV → Bool) : Summ Tryz.prog GT := split_Put_I.summ mixed acc false false
noncomputable def extract_Extract_I : FnI Tryz.prog GT := { f := 6, cuts := [], tab := [extract_open_S (fun _ => true), extract_parts_S (fun _ => true), (split_Put_S (fun _ => true)).dropping], fm := ⟨false, [.val (.slice T_api_Member) [.nw], .val (.int .i64) []]⟩ }
noncomputable def extract_Extract (a0 : List Int) : Option (List D_api_Member × Int) := extract_Extract_I.call [(.sl (.int .u8) false a0)] []
theorem extract_Extract_eq (a0 : List Int) : extract_Extract a0 = (
(extract_open a0).bind fun r1 =>
if (r1.2.2 != (0 : Int)) = true then
some ([], r1.2.2)
else
(extract_parts r1.1.1.1 r1.2.1).bind fun r2 =>
if (r2.2 != (0 : Int)) = true then
some ([], r2.2)
else
(split_Put r1.1.2.1 r2.1).bind fun r3 =>
some (r3)) := (FnI.call_eq (by kernel_rfl)).trans (by kernel_rfl)
noncomputable def extract_Extract_S (acc : List AV → Bool) : Summ Tryz.prog GT := extract_Extract_I.summ mixed acc false false
noncomputable def verify_Fine_I : FnI Tryz.prog GT := { f := 23, cuts := [], tab := [list_Head_S (fun _ => true), (extract_Extract_S (fun _ => true)).dropping], fm := ⟨true, [.val .bool [], .val (.int .i64) []]⟩ }
noncomputable def verify_Fine (a0 : List Int) : Option (Bool × Int) := verify_Fine_I.call [(.sl (.int .u8) false a0)] []
theorem verify_Fine_eq (a0 : List Int) : verify_Fine a0 = (
(list_Head a0).bind fun r1 =>
if (r1.2.2.2 != (0 : Int)) = true then
some (false, r1.2.2.2)
else
(extract_Extract a0).bind fun r2 =>
some ((r2.2 == (0 : Int)), (0 : Int))) := (FnI.call_eq (by kernel_rfl)).trans (by kernel_rfl)
noncomputable def verify_Fine_S (acc : List AV → Bool) : Summ Tryz.prog GT := verify_Fine_I.summ mixed acc false false
noncomputable def verify_First_1_I : FnI Tryz.prog GT := { f := 52, cuts := [], tab := [], fm := ⟨true, [.val .bool []]⟩ }
noncomputable def verify_First_1 (a0 : Int) : Option (Bool) := verify_First_1_I.call [(.int .u8 a0)] []
theorem verify_First_1_eq (a0 : Int) : verify_First_1 a0 = (
some (a0 != (1 : Int))) := (FnI.call_eq (by kernel_rfl)).trans (by kernel_rfl)
noncomputable def verify_First_1_S (acc : List AV → Bool) : Summ Tryz.prog GT := verify_First_1_I.summ mixed acc false false
noncomputable def slices_IndexFunc_uint8_uint8_I : FnI Tryz.prog GT := { f := 51, cuts := [⟨(2, 3), [0, 1, 7, 8], false, false, []⟩], tab := [verify_First_1_S (fun _ => true)], fm := ⟨true, [.val (.int .i64) []]⟩ }
noncomputable def slices_IndexFunc_uint8_uint8 (a0 : List Int) : Option (Int) := slices_IndexFunc_uint8_uint8_I.call [(.sl (.int .u8) false a0), (.func 52 [])] []
noncomputable def slices_IndexFunc_uint8_uint8_c1 (v0 : List Int) (v7 : Int) (v8 : Int) : Option (Int) := slices_IndexFunc_uint8_uint8_I.sem ⟨[.code (cIn (cIn (cSnd (cFst (cSnd (bodyOf Tryz.prog 51)))))), .inLoop (cIn (cIn (cSnd (cFst (cSnd (bodyOf Tryz.prog 51)))))), .inBlock 0, .code (cSnd (cSnd (bodyOf Tryz.prog 51)))], ⟨[(0, (.one (.sl (.int .u8) false v0))), (1, (.one (.func 52 []))), (7, (.one (.int .i64 v7))), (8, (.one (.int .i64 v8)))], [], 8⟩⟩
theorem slices_IndexFunc_uint8_uint8_eq (a0 : List Int) : slices_IndexFunc_uint8_uint8 a0 = (
slices_IndexFunc_uint8_uint8_c1 a0 (Int.ofNat (List.length a0)) (0 : Int)) := (FnI.call_eq (by kernel_rfl)).trans (by kernel_rfl)
theorem slices_IndexFunc_uint8_uint8_c1_eq (v0 : List Int) (v7 : Int) (v8 : Int) : slices_IndexFunc_uint8_uint8_c1 v0 v7 v8 = (
if (decide (v8 < v7)) = true then
gd (0 ≤ v8) <|
gd (v8 < (Int.ofNat (List.length v0))) <|
(verify_First_1 (List.getD v0 (Int.toNat v8) (0 : Int))).bind fun r1 =>
if r1 = true then
some (v8)
else
slices_IndexFunc_uint8_uint8_c1 v0 v7 (IntKind.wrap .i64 (v8 + (1 : Int)))
else
some (-1 : Int)) := (FnI.sem_eq _).trans (by kernel_rfl)
noncomputable def slices_IndexFunc_uint8_uint8_S (acc : List AV → Bool) : Summ Tryz.prog GT := slices_IndexFunc_uint8_uint8_I.summ mixed acc false false
noncomputable def verify_First_I : FnI Tryz.prog GT := { f := 24, cuts := [], tab := [verify_looked_S (fun _ => true), slices_IndexFunc_uint8_uint8_S (fun _ => true)], fm := ⟨true, [.val (.int .i64) [], .val (.int .i64) []]⟩ }
noncomputable def verify_First (a0 : List Int) : Option (Int × Int) := verify_First_I.call [(.sl (.int .u8) false a0)] []
theorem verify_First_eq (a0 : List Int) : verify_First a0 = (
(verify_looked a0).bind fun r1 =>
if (r1.2 != (0 : Int)) = true then
some ((0 : Int), r1.2)
else
(slices_IndexFunc_uint8_uint8 r1.1.2.2.2.1).bind fun r2 =>
if (decide (r2 < (0 : Int))) = true then
some ((0 : Int), (6 : Int))
else
some (r2, (0 : Int))) := (FnI.call_eq (by kernel_rfl)).trans (by kernel_rfl)
noncomputable def verify_First_S (acc : List AV → Bool) : Summ Tryz.prog GT := verify_First_I.summ mixed acc false false
noncomputable def bitloftref28_Name_I : FnI Tryz.prog GT := { f := 42, cuts := [⟨(4, 3), [0, 3], false, false, []⟩], tab := [], fm := ⟨true, [.val .bool []]⟩ }
noncomputable def bitloftref28_Name (a0 : ByteArray) : Option (Bool) := bitloftref28_Name_I.call [(.str a0)] []
noncomputable def bitloftref28_Name_c1 (v0 : ByteArray) (v3 : Int) : Option (Bool) := bitloftref28_Name_I.sem ⟨[.code (cIn (cIn (cSnd (cFst (cSnd (cSnd (bodyOf Tryz.prog 42))))))), .inLoop (cIn (cIn (cSnd (cFst (cSnd (cSnd (bodyOf Tryz.prog 42))))))), .inBlock 0, .code (cSnd (cSnd (cSnd (bodyOf Tryz.prog 42))))], ⟨[(0, (.one (.str v0))), (3, (.one (.int .i64 v3)))], [], 8⟩⟩
theorem bitloftref28_Name_eq (a0 : ByteArray) : bitloftref28_Name a0 = (
if (decide ((Int.ofNat (ByteArray.size a0)) < (1 : Int))) = true then
some (false)
else
if (decide ((Int.ofNat (ByteArray.size a0)) > (40 : Int))) = true then
some (false)
else
bitloftref28_Name_c1 a0 (0 : Int)) := (FnI.call_eq (by kernel_rfl)).trans (by kernel_rfl)
theorem bitloftref28_Name_c1_eq (v0 : ByteArray) (v3 : Int) : bitloftref28_Name_c1 v0 v3 = (
if (decide (v3 < (Int.ofNat (ByteArray.size v0)))) = true then
gd (0 ≤ v3) <|
gd (v3 < (v0.size : Int)) <|
if (decide ((btAt v0 (Int.toNat v3)) < (33 : Int))) = true then
some (false)
else
gd (0 ≤ v3) <|
gd (v3 < (v0.size : Int)) <|
if (decide ((btAt v0 (Int.toNat v3)) > (126 : Int))) = true then
some (false)
else
bitloftref28_Name_c1 v0 (IntKind.wrap .i64 (v3 + (1 : Int)))
else
some (true)) := (FnI.sem_eq _).trans (by kernel_rfl)
noncomputable def bitloftref28_Name_S (acc : List AV → Bool) : Summ Tryz.prog GT := bitloftref28_Name_I.summ mixed acc false false
end Go.Ab

set_option linter.unusedVariables false
set_option maxRecDepth 20000
namespace Go.Ab
open Go Go.Proofs
noncomputable def bitloftref28_Check_I : FnI Tryz.prog GT := { f := 17, cuts := [⟨(5, 3), [0, 3, 4], false, false, []⟩, ⟨(11, 3), [0, 5], false, false, []⟩, ⟨(16, 3), [0, 6], false, false, []⟩, ⟨(19, 7), [0, 6, 7], false, false, []⟩], tab := [bitloftref28_Name_S (fun _ => true)], fm := ⟨true, [.val (.int .i64) []]⟩ }
noncomputable def bitloftref28_Check (a0 : List D_api_Member) : Option (Int) := bitloftref28_Check_I.call [(.sl T_api_Member false a0)] []
noncomputable def bitloftref28_Check_c1 (v0 : List D_api_Member) (v3 : Int) (v4 : Int) : Option (Int) := bitloftref28_Check_I.sem ⟨[.code (cIn (cIn (cSnd (cFst (cSnd (cSnd (cSnd (bodyOf Tryz.prog 17)))))))), .inLoop (cIn (cIn (cSnd (cFst (cSnd (cSnd (cSnd (bodyOf Tryz.prog 17)))))))), .inBlock 0, .code (cSnd (cSnd (cSnd (cSnd (bodyOf Tryz.prog 17)))))], ⟨[(0, (.one (.sl T_api_Member false v0))), (3, (.one (.int .i64 v3))), (4, (.one (.int .i64 v4)))], [], 8⟩⟩
noncomputable def bitloftref28_Check_c2 (v0 : List D_api_Member) (v5 : Int) : Option (Int) := bitloftref28_Check_I.sem ⟨[.code (cIn (cIn (cSnd (cFst (cSnd (cSnd (cSnd (cSnd (cSnd (bodyOf Tryz.prog 17)))))))))), .inLoop (cIn (cIn (cSnd (cFst (cSnd (cSnd (cSnd (cSnd (cSnd (bodyOf Tryz.prog 17)))))))))), .inBlock 2, .code (cSnd (cSnd (cSnd (cSnd (cSnd (cSnd (bodyOf Tryz.prog 17)))))))], ⟨[(0, (.one (.sl T_api_Member false v0))), (5, (.one (.int .i64 v5)))], [], 8⟩⟩
noncomputable def bitloftref28_Check_c3 (v0 : List D_api_Member) (v6 : Int) : Option (Int) := bitloftref28_Check_I.sem ⟨[.code (cIn (cIn (cSnd (cFst (cSnd (cSnd (cSnd (cSnd (cSnd (cSnd (bodyOf Tryz.prog 17))))))))))), .inLoop (cIn (cIn (cSnd (cFst (cSnd (cSnd (cSnd (cSnd (cSnd (cSnd (bodyOf Tryz.prog 17))))))))))), .inBlock 4, .code (cSnd (cSnd (cSnd (cSnd (cSnd (cSnd (cSnd (bodyOf Tryz.prog 17))))))))], ⟨[(0, (.one (.sl T_api_Member false v0))), (6, (.one (.int .i64 v6)))], [], 8⟩⟩
noncomputable def bitloftref28_Check_c4 (v0 : List D_api_Member) (v6 : Int) (v7 : Int) : Option (Int) := bitloftref28_Check_I.sem ⟨[.code (cIn (cIn (cSnd (cIn (cFst (cSnd (cIn (cIn (cSnd (cFst (cSnd (cSnd (cSnd (cSnd (cSnd (cSnd (bodyOf Tryz.prog 17))))))))))))))))), .inLoop (cIn (cIn (cSnd (cIn (cFst (cSnd (cIn (cIn (cSnd (cFst (cSnd (cSnd (cSnd (cSnd (cSnd (cSnd (bodyOf Tryz.prog 17))))))))))))))))), .inBlock 6, .inBlock 5, .code (cSnd (cSnd (cIn (cIn (cSnd (cFst (cSnd (cSnd (cSnd (cSnd (cSnd (cSnd (bodyOf Tryz.prog 17))))))))))))), .inLoop (cIn (cIn (cSnd (cFst (cSnd (cSnd (cSnd (cSnd (cSnd (cSnd (bodyOf Tryz.prog 17))))))))))), .inBlock 4, .code (cSnd (cSnd (cSnd (cSnd (cSnd (cSnd (cSnd (bodyOf Tryz.prog 17))))))))], ⟨[(0, (.one (.sl T_api_Member false v0))), (6, (.one (.int .i64 v6))), (7, (.one (.int .i64 v7)))], [], 8⟩⟩
theorem bitloftref28_Check_eq (a0 : List D_api_Member) : bitloftref28_Check a0 = (
if (decide ((Int.ofNat (List.length a0)) > (16 : Int))) = true then
some (4 : Int)
else
bitloftref28_Check_c1 a0 (0 : Int) (0 : Int)) := (FnI.call_eq (by kernel_rfl)).trans (by kernel_rfl)
theorem bitloftref28_Check_c1_eq (v0 : List D_api_Member) (v3 : Int) (v4 : Int) : bitloftref28_Check_c1 v0 v3 v4 = (
if (decide (v4 < (Int.ofNat (List.length v0)))) = true then
gd (0 ≤ v4) <|
gd (v4 < (Int.ofNat (List.length v0))) <|
bitloftref28_Check_c1 v0 (IntKind.wrap .i64 (v3 + (Int.ofNat (List.length (List.getD v0 (Int.toNat v4) (pzero T_api_Member)).2.1)))) (IntKind.wrap .i64 (v4 + (1 : Int)))
else
if (decide (v3 > (8192 : Int))) = true then
some (4 : Int)
else
bitloftref28_Check_c2 v0 (0 : Int)) := (FnI.sem_eq _).trans (by kernel_rfl)
theorem bitloftref28_Check_c2_eq (v0 : List D_api_Member) (v5 : Int) : bitloftref28_Check_c2 v0 v5 = (
if (decide (v5 < (Int.ofNat (List.length v0)))) = true then
gd (0 ≤ v5) <|
gd (v5 < (Int.ofNat (List.length v0))) <|
(bitloftref28_Name (List.getD v0 (Int.toNat v5) (pzero T_api_Member)).1).bind fun r1 =>
if (not r1) = true then
some (8 : Int)
else
bitloftref28_Check_c2 v0 (IntKind.wrap .i64 (v5 + (1 : Int)))
else
bitloftref28_Check_c3 v0 (0 : Int)) := (FnI.sem_eq _).trans (by kernel_rfl)
theorem bitloftref28_Check_c3_eq (v0 : List D_api_Member) (v6 : Int) : bitloftref28_Check_c3 v0 v6 = (
if (decide (v6 < (Int.ofNat (List.length v0)))) = true then
bitloftref28_Check_c4 v0 v6 (0 : Int)
else
some (0 : Int)) := (FnI.sem_eq _).trans (by kernel_rfl)
theorem bitloftref28_Check_c4_eq (v0 : List D_api_Member) (v6 : Int) (v7 : Int) : bitloftref28_Check_c4 v0 v6 v7 = (
if (decide (v7 < v6)) = true then
gd (0 ≤ v7) <|
gd (v7 < (Int.ofNat (List.length v0))) <|
gd (0 ≤ v6) <|
gd (v6 < (Int.ofNat (List.length v0))) <|
if ((ByteArray.toList (List.getD v0 (Int.toNat v7) (pzero T_api_Member)).1) == (ByteArray.toList (List.getD v0 (Int.toNat v6) (pzero T_api_Member)).1)) = true then
some (14 : Int)
else
bitloftref28_Check_c4 v0 v6 (IntKind.wrap .i64 (v7 + (1 : Int)))
else
bitloftref28_Check_c3 v0 (IntKind.wrap .i64 (v6 + (1 : Int)))) := (FnI.sem_eq _).trans (by kernel_rfl)
noncomputable def bitloftref28_Check_S (acc : List AV → Bool) : Summ Tryz.prog GT := bitloftref28_Check_I.summ mixed acc false false
noncomputable def bitloftref01_Padding_I : FnI Tryz.prog GT := { f := 66, cuts := [⟨(2, 3), [0, 3], false, false, []⟩, ⟨(5, 3), [0, 3, 4], false, false, []⟩], tab := [], fm := ⟨true, [.val (.slice (.int .u8)) [.nw]]⟩ }
noncomputable def bitloftref01_Padding (a0 : Int) : Option (List Int) := bitloftref01_Padding_I.call [(.int .i64 a0)] []
noncomputable def bitloftref01_Padding_c1 (v0 : Int) (h8 : List Int) : Option (List Int) := bitloftref01_Padding_I.sem ⟨[.code (cIn (cIn (cFst (cSnd (cSnd (bodyOf Tryz.prog 66)))))), .inLoop (cIn (cIn (cFst (cSnd (cSnd (bodyOf Tryz.prog 66)))))), .inBlock 0, .code (cSnd (cSnd (cSnd (bodyOf Tryz.prog 66))))], ⟨[(0, (.one (.int .i64 v0))), (3, (.one (.ref (.int .u8) 8 0 (List.length h8) true)))], [(8, some (.row (.int .u8) true h8))], 9⟩⟩
noncomputable def bitloftref01_Padding_c2 (v0 : Int) (v4 : Int) (h8 : List Int) : Option (List Int) := bitloftref01_Padding_I.sem ⟨[.code (cIn (cIn (cSnd (cFst (cSnd (cSnd (cSnd (bodyOf Tryz.prog 66)))))))), .inLoop (cIn (cIn (cSnd (cFst (cSnd (cSnd (cSnd (bodyOf Tryz.prog 66)))))))), .inBlock 2, .code (cSnd (cSnd (cSnd (cSnd (bodyOf Tryz.prog 66)))))], ⟨[(0, (.one (.int .i64 v0))), (3, (.one (.ref (.int .u8) 8 0 (List.length h8) true))), (4, (.one (.int .i64 v4)))], [(8, some (.row (.int .u8) true h8))], 9⟩⟩
theorem bitloftref01_Padding_eq (a0 : Int) : bitloftref01_Padding a0 = (
bitloftref01_Padding_c1 a0 [(128 : Int)]) := (FnI.call_eq (by kernel_rfl)).trans (by kernel_rfl)
theorem bitloftref01_Padding_c1_eq (v0 : Int) (h8 : List Int) : bitloftref01_Padding_c1 v0 h8 = (
gd ((64 : Int) ≠ 0) <|
if ((Int.tmod (IntKind.wrap .i64 ((IntKind.wrap .i64 (v0 + (Int.ofNat (List.length h8)))) + (8 : Int))) (64 : Int)) != (0 : Int)) = true then
gd ((List.length (h8 ++ [(0 : Int)])) * 1 ≤ 140737488355328) <|
bitloftref01_Padding_c1 v0 (h8 ++ [(0 : Int)])
else
bitloftref01_Padding_c2 v0 (7 : Int) h8) := (FnI.sem_eq _).trans (by kernel_rfl)
theorem bitloftref01_Padding_c2_eq (v0 : Int) (v4 : Int) (h8 : List Int) : bitloftref01_Padding_c2 v0 v4 h8 = (
if (decide (v4 ≥ (0 : Int))) = true then
gd (0 ≤ (IntKind.wrap .i64 ((8 : Int) * v4))) <|
gd ((List.length (h8 ++ [(IntKind.wrap .u8 (shrBy .u64 (IntKind.wrap .u64 ((8 : Int) * (IntKind.wrap .u64 v0))) (IntKind.wrap .i64 ((8 : Int) * v4))))])) * 1 ≤ 140737488355328) <|
bitloftref01_Padding_c2 v0 (IntKind.wrap .i64 (v4 - (1 : Int))) (h8 ++ [(IntKind.wrap .u8 (shrBy .u64 (IntKind.wrap .u64 ((8 : Int) * (IntKind.wrap .u64 v0))) (IntKind.wrap .i64 ((8 : Int) * v4))))])
else
some (h8)) := (FnI.sem_eq _).trans (by kernel_rfl)
noncomputable def bitloftref01_Padding_S (acc : List AV → Bool) : Summ Tryz.prog GT := bitloftref01_Padding_I.summ mixed acc false false
noncomputable def bitloftref01_First_I : FnI Tryz.prog GT := { f := 67, cuts := [], tab := [], fm := ⟨true, [.val (.arr 5 (.int .u32)) []]⟩ }
noncomputable def bitloftref01_First : Option ((List Int)) := bitloftref01_First_I.call [] []
theorem bitloftref01_First_eq : bitloftref01_First = (
some (List.set (List.set (List.set (List.set (List.set (List.replicate 5 (0 : Int)) 0 (1732584193 : Int)) 1 (4023233417 : Int)) 2 (2562383102 : Int)) 3 (271733878 : Int)) 4 (3285377520 : Int))) := (FnI.call_eq (by kernel_rfl)).trans (by kernel_rfl)
noncomputable def bitloftref01_First_S (acc : List AV → Bool) : Summ Tryz.prog GT := bitloftref01_First_I.summ mixed acc false false
noncomputable def bitloftref01_turn_I : FnI Tryz.prog GT := { f := 107, cuts := [], tab := [], fm := ⟨true, [.val (.int .u32) []]⟩ }
noncomputable def bitloftref01_turn (a0 : Int) (a1 : Int) : Option (Int) := bitloftref01_turn_I.call [(.int .u32 a0), (.int .i64 a1)] []
theorem bitloftref01_turn_eq (a0 : Int) (a1 : Int) : bitloftref01_turn a0 a1 = (
gd (0 ≤ a1) <|
gd (0 ≤ (IntKind.wrap .i64 ((32 : Int) - a1))) <|
some (bitsOr .u32 (IntKind.wrap .u32 (shlBy .u32 a0 a1)) (shrBy .u32 a0 (IntKind.wrap .i64 ((32 : Int) - a1))))) := (FnI.call_eq (by kernel_rfl)).trans (by kernel_rfl)
noncomputable def bitloftref01_turn_S (acc : List AV → Bool) : Summ Tryz.prog GT := bitloftref01_turn_I.summ mixed acc false false
noncomputable def bitloftref01_part_I : FnI Tryz.prog GT := { f := 108, cuts := [], tab := [], fm := ⟨true, [.val (.int .u32) [], .val (.int .u32) []]⟩ }
noncomputable def bitloftref01_part (a0 : Int) (a1 : Int) (a2 : Int) (a3 : Int) : Option (Int × Int) := bitloftref01_part_I.call [(.int .i64 a0), (.int .u32 a1), (.int .u32 a2), (.int .u32 a3)] []
theorem bitloftref01_part_eq (a0 : Int) (a1 : Int) (a2 : Int) (a3 : Int) : bitloftref01_part a0 a1 a2 a3 = (
if (decide (a0 < (20 : Int))) = true then
some ((bitsOr .u32 (bitsAnd .u32 a1 a2) (bitsAnd .u32 (bitsXor .u32 (4294967295 : Int) a1) a3)), (1518500249 : Int))
else
if (decide (a0 < (40 : Int))) = true then
some ((bitsXor .u32 (bitsXor .u32 a1 a2) a3), (1859775393 : Int))
else
if (decide (a0 < (60 : Int))) = true then
some ((bitsOr .u32 (bitsOr .u32 (bitsAnd .u32 a1 a2) (bitsAnd .u32 a1 a3)) (bitsAnd .u32 a2 a3)), (2400959708 : Int))
else
some ((bitsXor .u32 (bitsXor .u32 a1 a2) a3), (3395469782 : Int))) := (FnI.call_eq (by kernel_rfl)).trans (by kernel_rfl)
noncomputable def bitloftref01_part_S (acc : List AV → Bool) : Summ Tryz.prog GT := bitloftref01_part_I.summ mixed acc false false
noncomputable def bitloftref01_Done_I : FnI Tryz.prog GT := { f := 68, cuts := [⟨(3, 3), [1, 2, 4, 5, 6], false, false, []⟩, ⟨(7, 3), [2, 4, 5, 7], false, false, []⟩, ⟨(12, 3), [2, 4, 5, 8, 9], false, false, []⟩, ⟨(17, 3), [2, 4, 8, 12], false, false, []⟩], tab := [bitloftref01_turn_S (fun _ => true), bitloftref01_part_S (fun _ => true)], fm := ⟨true, [.val (.arr 5 (.int .u32)) []]⟩ }
noncomputable def bitloftref01_Done (a0 : (List Int)) (a1 : List Int) : Option ((List Int)) := bitloftref01_Done_I.call [(.agg (.arr 5 (.int .u32)) a0), (.sl (.int .u8) false a1)] []
noncomputable def bitloftref01_Done_c1 (v1 : List Int) (v6 : Int) (b8 : (List Int)) (b9 : (List Int)) (h10 : List Int) : Option ((List Int)) := bitloftref01_Done_I.sem ⟨[.code (cIn (cIn (cSnd (cFst (cSnd (cSnd (bodyOf Tryz.prog 68))))))), .inLoop (cIn (cIn (cSnd (cFst (cSnd (cSnd (bodyOf Tryz.prog 68))))))), .inBlock 0, .code (cSnd (cSnd (cSnd (bodyOf Tryz.prog 68))))], ⟨[(1, (.one (.sl (.int .u8) false v1))), (2, (.one (.ptr (.arr 5 (.int .u32)) 8 []))), (4, (.one (.ptr (.arr 5 (.int .u32)) 9 []))), (5, (.one (.ref (.int .u32) 10 0 (List.length h10) true))), (6, (.one (.int .i64 v6)))], [(8, some (.box (.arr 5 (.int .u32)) b8)), (9, some (.box (.arr 5 (.int .u32)) b9)), (10, some (.row (.int .u32) true h10))], 11⟩⟩
noncomputable def bitloftref01_Done_c2 (v7 : Int) (b8 : (List Int)) (b9 : (List Int)) (h10 : List Int) : Option ((List Int)) := bitloftref01_Done_I.sem ⟨[.code (cIn (cIn (cSnd (cFst (cSnd (cSnd (cSnd (bodyOf Tryz.prog 68)))))))), .inLoop (cIn (cIn (cSnd (cFst (cSnd (cSnd (cSnd (bodyOf Tryz.prog 68)))))))), .inBlock 2, .code (cSnd (cSnd (cSnd (cSnd (bodyOf Tryz.prog 68)))))], ⟨[(2, (.one (.ptr (.arr 5 (.int .u32)) 8 []))), (4, (.one (.ptr (.arr 5 (.int .u32)) 9 []))), (5, (.one (.ref (.int .u32) 10 0 (List.length h10) true))), (7, (.one (.int .i64 v7)))], [(8, some (.box (.arr 5 (.int .u32)) b8)), (9, some (.box (.arr 5 (.int .u32)) b9)), (10, some (.row (.int .u32) true h10))], 11⟩⟩
noncomputable def bitloftref01_Done_c3 (v9 : Int) (b8 : (List Int)) (b9 : (List Int)) (h10 : List Int) (b11 : (List Int)) : Option ((List Int)) := bitloftref01_Done_I.sem ⟨[.code (cIn (cIn (cSnd (cFst (cSnd (cSnd (cSnd (cSnd (cSnd (bodyOf Tryz.prog 68)))))))))), .inLoop (cIn (cIn (cSnd (cFst (cSnd (cSnd (cSnd (cSnd (cSnd (bodyOf Tryz.prog 68)))))))))), .inBlock 4, .code (cSnd (cSnd (cSnd (cSnd (cSnd (cSnd (bodyOf Tryz.prog 68)))))))], ⟨[(2, (.one (.ptr (.arr 5 (.int .u32)) 8 []))), (4, (.one (.ptr (.arr 5 (.int .u32)) 9 []))), (5, (.one (.ref (.int .u32) 10 0 (List.length h10) true))), (8, (.one (.ptr (.arr 5 (.int .u32)) 11 []))), (9, (.one (.int .i64 v9)))], [(8, some (.box (.arr 5 (.int .u32)) b8)), (9, some (.box (.arr 5 (.int .u32)) b9)), (10, some (.row (.int .u32) true h10)), (11, some (.box (.arr 5 (.int .u32)) b11))], 12⟩⟩
noncomputable def bitloftref01_Done_c4 (v12 : Int) (b8 : (List Int)) (b9 : (List Int)) (b10 : (List Int)) : Option ((List Int)) := bitloftref01_Done_I.sem ⟨[.code (cIn (cIn (cSnd (cFst (cSnd (cSnd (cSnd (cSnd (cSnd (cSnd (bodyOf Tryz.prog 68))))))))))), .inLoop (cIn (cIn (cSnd (cFst (cSnd (cSnd (cSnd (cSnd (cSnd (cSnd (bodyOf Tryz.prog 68))))))))))), .inBlock 6, .code (cSnd (cSnd (cSnd (cSnd (cSnd (cSnd (cSnd (bodyOf Tryz.prog 68))))))))], ⟨[(2, (.one (.ptr (.arr 5 (.int .u32)) 8 []))), (4, (.one (.ptr (.arr 5 (.int .u32)) 9 []))), (8, (.one (.ptr (.arr 5 (.int .u32)) 10 []))), (12, (.one (.int .i64 v12)))], [(8, some (.box (.arr 5 (.int .u32)) b8)), (9, some (.box (.arr 5 (.int .u32)) b9)), (10, some (.box (.arr 5 (.int .u32)) b10))], 11⟩⟩
theorem bitloftref01_Done_eq (a0 : (List Int)) (a1 : List Int) : bitloftref01_Done a0 a1 = (
bitloftref01_Done_c1 a1 (0 : Int) a0 (List.replicate 5 (0 : Int)) []) := (FnI.call_eq (by kernel_rfl)).trans (by kernel_rfl)
theorem bitloftref01_Done_c1_eq (v1 : List Int) (v6 : Int) (b8 : (List Int)) (b9 : (List Int)) (h10 : List Int) : bitloftref01_Done_c1 v1 v6 b8 b9 h10 = (
if (decide (v6 < (16 : Int))) = true then
gd (0 ≤ (IntKind.wrap .i64 ((4 : Int) * v6))) <|
gd ((IntKind.wrap .i64 ((4 : Int) * v6)) < (Int.ofNat (List.length v1))) <|
gd (0 ≤ (IntKind.wrap .i64 ((IntKind.wrap .i64 ((4 : Int) * v6)) + (1 : Int)))) <|
gd ((IntKind.wrap .i64 ((IntKind.wrap .i64 ((4 : Int) * v6)) + (1 : Int))) < (Int.ofNat (List.length v1))) <|
gd (0 ≤ (IntKind.wrap .i64 ((IntKind.wrap .i64 ((4 : Int) * v6)) + (2 : Int)))) <|
gd ((IntKind.wrap .i64 ((IntKind.wrap .i64 ((4 : Int) * v6)) + (2 : Int))) < (Int.ofNat (List.length v1))) <|
gd (0 ≤ (IntKind.wrap .i64 ((IntKind.wrap .i64 ((4 : Int) * v6)) + (3 : Int)))) <|
gd ((IntKind.wrap .i64 ((IntKind.wrap .i64 ((4 : Int) * v6)) + (3 : Int))) < (Int.ofNat (List.length v1))) <|
gd ((List.length (h10 ++ [(IntKind.wrap .u32 ((IntKind.wrap .u32 ((IntKind.wrap .u32 ((IntKind.wrap .u32 ((IntKind.wrap .u32 ((IntKind.wrap .u32 ((IntKind.wrap .u32 (List.getD v1 (Int.toNat (IntKind.wrap .i64 ((4 : Int) * v6))) (0 : Int))) * (256 : Int))) + (IntKind.wrap .u32 (List.getD v1 (Int.toNat (IntKind.wrap .i64 ((IntKind.wrap .i64 ((4 : Int) * v6)) + (1 : Int)))) (0 : Int))))) * (256 : Int))) + (IntKind.wrap .u32 (List.getD v1 (Int.toNat (IntKind.wrap .i64 ((IntKind.wrap .i64 ((4 : Int) * v6)) + (2 : Int)))) (0 : Int))))) * (256 : Int))) + (IntKind.wrap .u32 (List.getD v1 (Int.toNat (IntKind.wrap .i64 ((IntKind.wrap .i64 ((4 : Int) * v6)) + (3 : Int)))) (0 : Int)))))])) * 4 ≤ 140737488355328) <|
bitloftref01_Done_c1 v1 (IntKind.wrap .i64 (v6 + (1 : Int))) b8 b9 (h10 ++ [(IntKind.wrap .u32 ((IntKind.wrap .u32 ((IntKind.wrap .u32 ((IntKind.wrap .u32 ((IntKind.wrap .u32 ((IntKind.wrap .u32 ((IntKind.wrap .u32 (List.getD v1 (Int.toNat (IntKind.wrap .i64 ((4 : Int) * v6))) (0 : Int))) * (256 : Int))) + (IntKind.wrap .u32 (List.getD v1 (Int.toNat (IntKind.wrap .i64 ((IntKind.wrap .i64 ((4 : Int) * v6)) + (1 : Int)))) (0 : Int))))) * (256 : Int))) + (IntKind.wrap .u32 (List.getD v1 (Int.toNat (IntKind.wrap .i64 ((IntKind.wrap .i64 ((4 : Int) * v6)) + (2 : Int)))) (0 : Int))))) * (256 : Int))) + (IntKind.wrap .u32 (List.getD v1 (Int.toNat (IntKind.wrap .i64 ((IntKind.wrap .i64 ((4 : Int) * v6)) + (3 : Int)))) (0 : Int)))))])
else
bitloftref01_Done_c2 (16 : Int) b8 b9 h10) := (FnI.sem_eq _).trans (by kernel_rfl)
theorem bitloftref01_Done_c2_eq (v7 : Int) (b8 : (List Int)) (b9 : (List Int)) (h10 : List Int) : bitloftref01_Done_c2 v7 b8 b9 h10 = (
if (decide (v7 < (80 : Int))) = true then
gd (0 ≤ (IntKind.wrap .i64 (v7 - (3 : Int)))) <|
gd ((IntKind.wrap .i64 (v7 - (3 : Int))) < (Int.ofNat (List.length h10))) <|
gd (0 ≤ (IntKind.wrap .i64 (v7 - (8 : Int)))) <|
gd ((IntKind.wrap .i64 (v7 - (8 : Int))) < (Int.ofNat (List.length h10))) <|
gd (0 ≤ (IntKind.wrap .i64 (v7 - (14 : Int)))) <|
gd ((IntKind.wrap .i64 (v7 - (14 : Int))) < (Int.ofNat (List.length h10))) <|
gd (0 ≤ (IntKind.wrap .i64 (v7 - (16 : Int)))) <|
gd ((IntKind.wrap .i64 (v7 - (16 : Int))) < (Int.ofNat (List.length h10))) <|
(bitloftref01_turn (bitsXor .u32 (bitsXor .u32 (bitsXor .u32 (List.getD h10 (0 + (Int.toNat (IntKind.wrap .i64 (v7 - (3 : Int))))) (0 : Int)) (List.getD h10 (0 + (Int.toNat (IntKind.wrap .i64 (v7 - (8 : Int))))) (0 : Int))) (List.getD h10 (0 + (Int.toNat (IntKind.wrap .i64 (v7 - (14 : Int))))) (0 : Int))) (List.getD h10 (0 + (Int.toNat (IntKind.wrap .i64 (v7 - (16 : Int))))) (0 : Int))) (1 : Int)).bind fun r1 =>
gd ((List.length (h10 ++ [r1])) * 4 ≤ 140737488355328) <|
bitloftref01_Done_c2 (IntKind.wrap .i64 (v7 + (1 : Int))) b8 b9 (h10 ++ [r1])
else
bitloftref01_Done_c3 (0 : Int) b8 b9 h10 b8) := (FnI.sem_eq _).trans (by kernel_rfl)
theorem bitloftref01_Done_c3_eq (v9 : Int) (b8 : (List Int)) (b9 : (List Int)) (h10 : List Int) (b11 : (List Int)) : bitloftref01_Done_c3 v9 b8 b9 h10 b11 = (
if (decide (v9 < (80 : Int))) = true then
gd (0 ≤ (1 : Int)) <|
gd ((1 : Int) < (5 : Int)) <|
gd (0 ≤ (2 : Int)) <|
gd ((2 : Int) < (5 : Int)) <|
gd (0 ≤ (3 : Int)) <|
gd ((3 : Int) < (5 : Int)) <|
(bitloftref01_part v9 (List.getD b11 1 (0 : Int)) (List.getD b11 2 (0 : Int)) (List.getD b11 3 (0 : Int))).bind fun r2 =>
gd (0 ≤ (0 : Int)) <|
gd ((0 : Int) < (5 : Int)) <|
(bitloftref01_turn (List.getD b11 0 (0 : Int)) (5 : Int)).bind fun r3 =>
gd (0 ≤ (4 : Int)) <|
gd ((4 : Int) < (5 : Int)) <|
gd (0 ≤ v9) <|
gd (v9 < (Int.ofNat (List.length h10))) <|
gd (0 ≤ (0 : Int)) <|
gd ((0 : Int) < (5 : Int)) <|
gd (0 ≤ (1 : Int)) <|
gd ((1 : Int) < (5 : Int)) <|
(bitloftref01_turn (List.getD b11 1 (0 : Int)) (30 : Int)).bind fun r4 =>
gd (0 ≤ (2 : Int)) <|
gd ((2 : Int) < (5 : Int)) <|
gd (0 ≤ (3 : Int)) <|
gd ((3 : Int) < (5 : Int)) <|
bitloftref01_Done_c3 (IntKind.wrap .i64 (v9 + (1 : Int))) b8 b9 h10 (List.set (List.set (List.set (List.set (List.set (List.replicate 5 (0 : Int)) 0 (IntKind.wrap .u32 ((IntKind.wrap .u32 ((IntKind.wrap .u32 ((IntKind.wrap .u32 (r3 + r2.1)) + (List.getD b11 4 (0 : Int)))) + r2.2)) + (List.getD h10 (0 + (Int.toNat v9)) (0 : Int))))) 1 (List.getD b11 0 (0 : Int))) 2 r4) 3 (List.getD b11 2 (0 : Int))) 4 (List.getD b11 3 (0 : Int)))
else
bitloftref01_Done_c4 (0 : Int) b8 b9 b11) := (FnI.sem_eq _).trans (by kernel_rfl)
theorem bitloftref01_Done_c4_eq (v12 : Int) (b8 : (List Int)) (b9 : (List Int)) (b10 : (List Int)) : bitloftref01_Done_c4 v12 b8 b9 b10 = (
if (decide (v12 < (5 : Int))) = true then
gd (0 ≤ v12) <|
gd (v12 < (5 : Int)) <|
gd (0 ≤ v12) <|
gd (v12 < (5 : Int)) <|
gd (0 ≤ v12) <|
gd (v12 < (5 : Int)) <|
bitloftref01_Done_c4 (IntKind.wrap .i64 (v12 + (1 : Int))) (List.set b8 (Int.toNat v12) (IntKind.wrap .u32 ((List.getD b8 (Int.toNat v12) (0 : Int)) + (List.getD b10 (Int.toNat v12) (0 : Int))))) b9 b10
else
some (b8)) := (FnI.sem_eq _).trans (by kernel_rfl)
noncomputable def bitloftref01_Done_S (acc : List AV → Bool) : Summ Tryz.prog GT := bitloftref01_Done_I.summ mixed acc false false
noncomputable def bitloftref01_Of_I : FnI Tryz.prog GT := { f := 40, cuts := [⟨(4, 3), [2, 3, 4, 5], false, false, []⟩, ⟨(9, 3), [2, 4, 6, 7], false, false, []⟩], tab := [bitloftref01_Padding_S (fun _ => true), bitloftref01_First_S (fun _ => true), bitloftref01_Done_S (fun _ => true)], fm := ⟨true, [.val (.arr 20 (.int .u8)) []]⟩ }
noncomputable def bitloftref01_Of (a0 : List Int) : Option ((List Int)) := bitloftref01_Of_I.call [(.sl (.int .u8) false a0)] []
noncomputable def bitloftref01_Of_c1 (v5 : Int) (b8 : (List Int)) (h9 : List Int) (b10 : (List Int)) : Option ((List Int)) := bitloftref01_Of_I.sem ⟨[.code (cIn (cIn (cSnd (cFst (cSnd (cSnd (cSnd (bodyOf Tryz.prog 40)))))))), .inLoop (cIn (cIn (cSnd (cFst (cSnd (cSnd (cSnd (bodyOf Tryz.prog 40)))))))), .inBlock 0, .code (cSnd (cSnd (cSnd (cSnd (bodyOf Tryz.prog 40)))))], ⟨[(2, (.one (.ptr (.arr 20 (.int .u8)) 8 []))), (3, (.one (.ref (.int .u8) 9 0 (List.length h9) true))), (4, (.one (.ptr (.arr 5 (.int .u32)) 10 []))), (5, (.one (.int .i64 v5)))], [(8, some (.box (.arr 20 (.int .u8)) b8)), (9, some (.row (.int .u8) true h9)), (10, some (.box (.arr 5 (.int .u32)) b10))], 11⟩⟩
noncomputable def bitloftref01_Of_c2 (v7 : Int) (b8 : (List Int)) (b9 : (List Int)) (b10 : (List Int)) : Option ((List Int)) := bitloftref01_Of_I.sem ⟨[.code (cIn (cIn (cSnd (cFst (cSnd (cSnd (cSnd (cSnd (cSnd (bodyOf Tryz.prog 40)))))))))), .inLoop (cIn (cIn (cSnd (cFst (cSnd (cSnd (cSnd (cSnd (cSnd (bodyOf Tryz.prog 40)))))))))), .inBlock 2, .code (cSnd (cSnd (cSnd (cSnd (cSnd (cSnd (bodyOf Tryz.prog 40)))))))], ⟨[(2, (.one (.ptr (.arr 20 (.int .u8)) 8 []))), (4, (.one (.ptr (.arr 5 (.int .u32)) 9 []))), (6, (.one (.ptr (.arr 20 (.int .u8)) 10 []))), (7, (.one (.int .i64 v7)))], [(8, some (.box (.arr 20 (.int .u8)) b8)), (9, some (.box (.arr 5 (.int .u32)) b9)), (10, some (.box (.arr 20 (.int .u8)) b10))], 11⟩⟩
theorem bitloftref01_Of_eq (a0 : List Int) : bitloftref01_Of a0 = (
gd ((List.length ([] ++ a0)) * 1 ≤ 140737488355328) <|
(bitloftref01_Padding (Int.ofNat (List.length a0))).bind fun r1 =>
gd ((List.length (([] ++ a0) ++ r1)) * 1 ≤ 140737488355328) <|
(bitloftref01_First).bind fun r2 =>
bitloftref01_Of_c1 (0 : Int) (List.replicate 20 (0 : Int)) (([] ++ a0) ++ r1) r2) := (FnI.call_eq (by kernel_rfl)).trans (by kernel_rfl)
theorem bitloftref01_Of_c1_eq (v5 : Int) (b8 : (List Int)) (h9 : List Int) (b10 : (List Int)) : bitloftref01_Of_c1 v5 b8 h9 b10 = (
if (decide (v5 < (Int.ofNat (List.length h9)))) = true then
gd (0 ≤ v5) <|
gd (v5 ≤ (IntKind.wrap .i64 (v5 + (64 : Int)))) <|
gd ((IntKind.wrap .i64 (v5 + (64 : Int))) ≤ (Int.ofNat (List.length h9))) <|
(bitloftref01_Done b10 (List.take ((Int.toNat (IntKind.wrap .i64 (v5 + (64 : Int)))) - (Int.toNat v5)) (List.drop (0 + (Int.toNat v5)) h9))).bind fun r3 =>
bitloftref01_Of_c1 (IntKind.wrap .i64 (v5 + (64 : Int))) b8 h9 r3
else
bitloftref01_Of_c2 (0 : Int) b8 b10 (List.replicate 20 (0 : Int))) := (FnI.sem_eq _).trans (by kernel_rfl)
theorem bitloftref01_Of_c2_eq (v7 : Int) (b8 : (List Int)) (b9 : (List Int)) (b10 : (List Int)) : bitloftref01_Of_c2 v7 b8 b9 b10 = (
if (decide (v7 < (20 : Int))) = true then
gd ((4 : Int) ≠ 0) <|
gd (0 ≤ (IntKind.wrap .i64 (Int.tdiv v7 (4 : Int)))) <|
gd ((IntKind.wrap .i64 (Int.tdiv v7 (4 : Int))) < (5 : Int)) <|
gd ((4 : Int) ≠ 0) <|
gd (0 ≤ (IntKind.wrap .i64 ((24 : Int) - (IntKind.wrap .i64 ((8 : Int) * (Int.tmod v7 (4 : Int))))))) <|
gd (0 ≤ v7) <|
gd (v7 < (20 : Int)) <|
bitloftref01_Of_c2 (IntKind.wrap .i64 (v7 + (1 : Int))) b8 b9 (List.set b10 (Int.toNat v7) (IntKind.wrap .u8 (shrBy .u32 (List.getD b9 (Int.toNat (IntKind.wrap .i64 (Int.tdiv v7 (4 : Int)))) (0 : Int)) (IntKind.wrap .i64 ((24 : Int) - (IntKind.wrap .i64 ((8 : Int) * (Int.tmod v7 (4 : Int)))))))))
else
some (b10)) := (FnI.sem_eq _).trans (by kernel_rfl)
noncomputable def bitloftref01_Of_S (acc : List AV → Bool) : Summ Tryz.prog GT := bitloftref01_Of_I.summ mixed acc false false
noncomputable def bitloftref28_record_I : FnI Tryz.prog GT := { f := 36, cuts := [], tab := [bitloftref01_Of_S (fun _ => true)], fm := ⟨true, [.val T_api_Record []]⟩ }
noncomputable def bitloftref28_record (a0 : D_api_Member) : Option (D_api_Record) := bitloftref28_record_I.call [(.agg T_api_Member (inj false T_api_Member a0))] []
theorem bitloftref28_record_eq (a0 : D_api_Member) : bitloftref28_record a0 = (
(bitloftref01_Of a0.2.1).bind fun r1 =>
some (a0.1, ((Int.ofNat (List.length a0.2.1)), (r1, ())))) := (FnI.call_eq (by kernel_rfl)).trans (by kernel_rfl)
noncomputable def bitloftref28_record_S (acc : List AV → Bool) : Summ Tryz.prog GT := bitloftref28_record_I.summ mixed acc false false
noncomputable def bitloftref28_Of_I : FnI Tryz.prog GT := { f := 10, cuts := [⟨(5, 3), [0, 4, 5], false, false, []⟩], tab := [bitloftref28_Check_S (fun _ => true), bitloftref28_record_S (fun _ => true)], fm := ⟨true, [.val (.slice T_api_Record) [.nw], .val (.int .i64) []]⟩ }
noncomputable def bitloftref28_Of (a0 : List D_api_Member) : Option (List D_api_Record × Int) := bitloftref28_Of_I.call [(.sl T_api_Member false a0)] []
noncomputable def bitloftref28_Of_c1 (v0 : List D_api_Member) (v5 : Int) (h8 : List D_api_Record) : Option (List D_api_Record × Int) := bitloftref28_Of_I.sem ⟨[.code (cIn (cIn (cSnd (cFst (cSnd (cSnd (cSnd (bodyOf Tryz.prog 10)))))))), .inLoop (cIn (cIn (cSnd (cFst (cSnd (cSnd (cSnd (bodyOf Tryz.prog 10)))))))), .inBlock 0, .code (cSnd (cSnd (cSnd (cSnd (bodyOf Tryz.prog 10)))))], ⟨[(0, (.one (.sl T_api_Member false v0))), (4, (.one (.ref T_api_Record 8 0 (List.length h8) true))), (5, (.one (.int .i64 v5)))], [(8, some (.row T_api_Record true h8))], 9⟩⟩
theorem bitloftref28_Of_eq (a0 : List D_api_Member) : bitloftref28_Of a0 = (
(bitloftref28_Check a0).bind fun r1 =>
if (r1 != (0 : Int)) = true then
(bitloftref28_Check a0).bind fun r2 =>
some ([], r2)
else
bitloftref28_Of_c1 a0 (0 : Int) []) := (FnI.call_eq (by kernel_rfl)).trans (by kernel_rfl)
theorem bitloftref28_Of_c1_eq (v0 : List D_api_Member) (v5 : Int) (h8 : List D_api_Record) : bitloftref28_Of_c1 v0 v5 h8 = (
if (decide (v5 < (Int.ofNat (List.length v0)))) = true then
gd (0 ≤ v5) <|
gd (v5 < (Int.ofNat (List.length v0))) <|
(bitloftref28_record (List.getD v0 (Int.toNat v5) (pzero T_api_Member))).bind fun r3 =>
gd ((List.length (h8 ++ [r3])) * 48 ≤ 140737488355328) <|
bitloftref28_Of_c1 v0 (IntKind.wrap .i64 (v5 + (1 : Int))) (h8 ++ [r3])
else
some (h8, (0 : Int))) := (FnI.sem_eq _).trans (by kernel_rfl)
noncomputable def bitloftref28_Of_S (acc : List AV → Bool) : Summ Tryz.prog GT := bitloftref28_Of_I.summ mixed acc false false
noncomputable def bitloftref30_Front_I : FnI Tryz.prog GT := { f := 38, cuts := [], tab := [], fm := ⟨true, [.val (.slice (.int .u8)) [.nw]]⟩ }
noncomputable def bitloftref30_Front (a0 : D_api_Settings) (a1 : Int) : Option (List Int) := bitloftref30_Front_I.call [(.agg T_api_Settings (inj false T_api_Settings a0)), (.int .i64 a1)] []
theorem bitloftref30_Front_eq (a0 : D_api_Settings) (a1 : Int) : bitloftref30_Front a0 a1 = (
gd (0 ≤ (8 : Int)) <|
some ([(66 : Int), (76 : Int), (70 : Int), (1 : Int), (IntKind.wrap .u8 a0.1), (IntKind.wrap .u8 (Int.fdiv a0.2.1 (256 : Int))), (IntKind.wrap .u8 a0.2.1), (IntKind.wrap .u8 a1)])) := (FnI.call_eq (by kernel_rfl)).trans (by kernel_rfl)
noncomputable def bitloftref30_Front_S (acc : List AV → Bool) : Summ Tryz.prog GT := bitloftref30_Front_I.summ mixed acc false false
noncomputable def bitloftref28_Bytes_I : FnI Tryz.prog GT := { f := 39, cuts := [⟨(3, 3), [0, 3, 4], false, false, []⟩], tab := [], fm := ⟨true, [.val (.slice (.int .u8)) [.nw]]⟩ }
noncomputable def bitloftref28_Bytes (a0 : List D_api_Record) : Option (List Int) := bitloftref28_Bytes_I.call [(.sl T_api_Record false a0)] []
noncomputable def bitloftref28_Bytes_c1 (v0 : List D_api_Record) (v4 : Int) (h8 : List Int) : Option (List Int) := bitloftref28_Bytes_I.sem ⟨[.code (cIn (cIn (cSnd (cFst (cSnd (cSnd (bodyOf Tryz.prog 39))))))), .inLoop (cIn (cIn (cSnd (cFst (cSnd (cSnd (bodyOf Tryz.prog 39))))))), .inBlock 0, .code (cSnd (cSnd (cSnd (bodyOf Tryz.prog 39))))], ⟨[(0, (.one (.sl T_api_Record false v0))), (3, (.one (.ref (.int .u8) 8 0 (List.length h8) true))), (4, (.one (.int .i64 v4)))], [(8, some (.row (.int .u8) true h8))], 9⟩⟩
theorem bitloftref28_Bytes_eq (a0 : List D_api_Record) : bitloftref28_Bytes a0 = (
bitloftref28_Bytes_c1 a0 (0 : Int) []) := (FnI.call_eq (by kernel_rfl)).trans (by kernel_rfl)
theorem bitloftref28_Bytes_c1_eq (v0 : List D_api_Record) (v4 : Int) (h8 : List Int) : bitloftref28_Bytes_c1 v0 v4 h8 = (
if (decide (v4 < (Int.ofNat (List.length v0)))) = true then
gd (0 ≤ v4) <|
gd (v4 < (Int.ofNat (List.length v0))) <|
gd ((List.length (h8 ++ [(IntKind.wrap .u8 (Int.ofNat (ByteArray.size (List.getD v0 (Int.toNat v4) (pzero T_api_Record)).1)))])) * 1 ≤ 140737488355328) <|
gd ((List.length ((h8 ++ [(IntKind.wrap .u8 (Int.ofNat (ByteArray.size (List.getD v0 (Int.toNat v4) (pzero T_api_Record)).1)))]) ++ (ofStr (List.getD v0 (Int.toNat v4) (pzero T_api_Record)).1))) * 1 ≤ 140737488355328) <|
gd (0 ≤ (8 : Int)) <|
gd ((List.length (((h8 ++ [(IntKind.wrap .u8 (Int.ofNat (ByteArray.size (List.getD v0 (Int.toNat v4) (pzero T_api_Record)).1)))]) ++ (ofStr (List.getD v0 (Int.toNat v4) (pzero T_api_Record)).1)) ++ [(IntKind.wrap .u8 (Int.fdiv (List.getD v0 (Int.toNat v4) (pzero T_api_Record)).2.1 (256 : Int))), (IntKind.wrap .u8 (List.getD v0 (Int.toNat v4) (pzero T_api_Record)).2.1)])) * 1 ≤ 140737488355328) <|
gd ((List.length ((((h8 ++ [(IntKind.wrap .u8 (Int.ofNat (ByteArray.size (List.getD v0 (Int.toNat v4) (pzero T_api_Record)).1)))]) ++ (ofStr (List.getD v0 (Int.toNat v4) (pzero T_api_Record)).1)) ++ [(IntKind.wrap .u8 (Int.fdiv (List.getD v0 (Int.toNat v4) (pzero T_api_Record)).2.1 (256 : Int))), (IntKind.wrap .u8 (List.getD v0 (Int.toNat v4) (pzero T_api_Record)).2.1)]) ++ (List.take 20 (List.drop 0 (List.getD v0 (Int.toNat v4) (pzero T_api_Record)).2.2.1)))) * 1 ≤ 140737488355328) <|
bitloftref28_Bytes_c1 v0 (IntKind.wrap .i64 (v4 + (1 : Int))) ((((h8 ++ [(IntKind.wrap .u8 (Int.ofNat (ByteArray.size (List.getD v0 (Int.toNat v4) (pzero T_api_Record)).1)))]) ++ (ofStr (List.getD v0 (Int.toNat v4) (pzero T_api_Record)).1)) ++ [(IntKind.wrap .u8 (Int.fdiv (List.getD v0 (Int.toNat v4) (pzero T_api_Record)).2.1 (256 : Int))), (IntKind.wrap .u8 (List.getD v0 (Int.toNat v4) (pzero T_api_Record)).2.1)]) ++ (List.take 20 (List.drop 0 (List.getD v0 (Int.toNat v4) (pzero T_api_Record)).2.2.1)))
else
some (h8)) := (FnI.sem_eq _).trans (by kernel_rfl)
noncomputable def bitloftref28_Bytes_S (acc : List AV → Bool) : Summ Tryz.prog GT := bitloftref28_Bytes_I.summ mixed acc false false
noncomputable def bitloftref30_Bytes_I : FnI Tryz.prog GT := { f := 13, cuts := [], tab := [bitloftref30_Front_S (fun _ => true), bitloftref28_Bytes_S (fun _ => true), bitloftref01_Of_S (fun _ => true)], fm := ⟨true, [.val (.slice (.int .u8)) [.nw]]⟩ }
noncomputable def bitloftref30_Bytes (a0 : D_api_Settings) (a1 : List D_api_Record) : Option (List Int) := bitloftref30_Bytes_I.call [(.agg T_api_Settings (inj false T_api_Settings a0)), (.sl T_api_Record false a1)] []
theorem bitloftref30_Bytes_eq (a0 : D_api_Settings) (a1 : List D_api_Record) : bitloftref30_Bytes a0 a1 = (
(bitloftref30_Front a0 (Int.ofNat (List.length a1))).bind fun r1 =>
(bitloftref28_Bytes a1).bind fun r2 =>
gd ((List.length (r1 ++ r2)) * 1 ≤ 140737488355328) <|
(bitloftref01_Of (r1 ++ r2)).bind fun r3 =>
gd ((List.length ((r1 ++ r2) ++ (List.take 20 (List.drop 0 r3)))) * 1 ≤ 140737488355328) <|
some ((r1 ++ r2) ++ (List.take 20 (List.drop 0 r3)))) := (FnI.call_eq (by kernel_rfl)).trans (by kernel_rfl)
noncomputable def bitloftref30_Bytes_S (acc : List AV → Bool) : Summ Tryz.prog GT := bitloftref30_Bytes_I.summ mixed acc false false
noncomputable def bitloftref26_two_I : FnI Tryz.prog GT := { f := 106, cuts := [], tab := [], fm := ⟨true, [.val (.slice (.int .u8)) [.nw]]⟩ }
noncomputable def bitloftref26_two (a0 : Int) : Option (List Int) := bitloftref26_two_I.call [(.int .i64 a0)] []
theorem bitloftref26_two_eq (a0 : Int) : bitloftref26_two a0 = (
gd (0 ≤ (8 : Int)) <|
some ([(IntKind.wrap .u8 (Int.fdiv a0 (256 : Int))), (IntKind.wrap .u8 a0)])) := (FnI.call_eq (by kernel_rfl)).trans (by kernel_rfl)
noncomputable def bitloftref26_two_S (acc : List AV → Bool) : Summ Tryz.prog GT := bitloftref26_two_I.summ mixed acc false false
noncomputable def bitloftref26_Front_I : FnI Tryz.prog GT := { f := 65, cuts := [], tab := [bitloftref26_two_S (fun _ => true)], fm := ⟨true, [.val (.slice (.int .u8)) [.nw]]⟩ }
noncomputable def bitloftref26_Front (a0 : D_api_BlockHead) : Option (List Int) := bitloftref26_Front_I.call [(.agg T_api_BlockHead (inj false T_api_BlockHead a0))] []
theorem bitloftref26_Front_eq (a0 : D_api_BlockHead) : bitloftref26_Front a0 = (
(bitloftref26_two a0.2.2.1).bind fun r1 =>
gd ((List.length ([a0.1, (IntKind.wrap .u8 a0.2.1)] ++ r1)) * 1 ≤ 140737488355328) <|
(bitloftref26_two a0.2.2.2.1).bind fun r2 =>
gd ((List.length (([a0.1, (IntKind.wrap .u8 a0.2.1)] ++ r1) ++ r2)) * 1 ≤ 140737488355328) <|
(bitloftref26_two a0.2.2.2.2.1).bind fun r3 =>
gd ((List.length ((([a0.1, (IntKind.wrap .u8 a0.2.1)] ++ r1) ++ r2) ++ r3)) * 1 ≤ 140737488355328) <|
some ((([a0.1, (IntKind.wrap .u8 a0.2.1)] ++ r1) ++ r2) ++ r3)) := (FnI.call_eq (by kernel_rfl)).trans (by kernel_rfl)
noncomputable def bitloftref26_Front_S (acc : List AV → Bool) : Summ Tryz.prog GT := bitloftref26_Front_I.summ mixed acc false false
noncomputable def bitloftref26_Of_I : FnI Tryz.prog GT := { f := 37, cuts := [], tab := [bitloftref26_Front_S (fun _ => true), bitloftref01_Of_S (fun _ => true)], fm := ⟨true, [.val (.arr 20 (.int .u8)) []]⟩ }
noncomputable def bitloftref26_Of (a0 : D_api_BlockHead) (a1 : List Int) : Option ((List Int)) := bitloftref26_Of_I.call [(.agg T_api_BlockHead (inj false T_api_BlockHead a0)), (.sl (.int .u8) false a1)] []
theorem bitloftref26_Of_eq (a0 : D_api_BlockHead) (a1 : List Int) : bitloftref26_Of a0 a1 = (
(bitloftref26_Front a0).bind fun r1 =>
gd ((List.length (r1 ++ a1)) * 1 ≤ 140737488355328) <|
(bitloftref01_Of (r1 ++ a1)).bind fun r2 =>
some (r2)) := (FnI.call_eq (by kernel_rfl)).trans (by kernel_rfl)
noncomputable def bitloftref26_Of_S (acc : List AV → Bool) : Summ Tryz.prog GT := bitloftref26_Of_I.summ mixed acc false false
noncomputable def bitloftref27_Made_I : FnI Tryz.prog GT := { f := 11, cuts := [], tab := [bitloftref26_Of_S (fun _ => true)], fm := ⟨true, [.val T_api_Block []]⟩ }
noncomputable def bitloftref27_Made (a0 : Int) (a1 : Int) (a2 : List Int) (a3 : List Int) : Option (D_api_Block) := bitloftref27_Made_I.call [(.int .i64 a0), (.int .i64 a1), (.sl (.int .u8) false a2), (.sl (.int .u8) false a3)] []
theorem bitloftref27_Made_eq (a0 : Int) (a1 : Int) (a2 : List Int) (a3 : List Int) : bitloftref27_Made a0 a1 a2 a3 = (
gd ((List.length ([] ++ a2)) * 1 ≤ 140737488355328) <|
if (decide ((Int.ofNat (List.length a3)) < (Int.ofNat (List.length a2)))) = true then
gd ((List.length ([] ++ a3)) * 1 ≤ 140737488355328) <|
(bitloftref26_Of ((2 : Int), (a0, (a1, ((Int.ofNat (List.length a2)), ((Int.ofNat (List.length a3)), ((List.replicate 20 (0 : Int)), ())))))) a2).bind fun r1 =>
some (((2 : Int), (a0, (a1, ((Int.ofNat (List.length a2)), ((Int.ofNat (List.length a3)), (r1, ())))))), (([] ++ a3), ()))
else
(bitloftref26_Of ((1 : Int), (a0, (a1, ((Int.ofNat (List.length a2)), ((Int.ofNat (List.length a2)), ((List.replicate 20 (0 : Int)), ())))))) a2).bind fun r2 =>
some (((1 : Int), (a0, (a1, ((Int.ofNat (List.length a2)), ((Int.ofNat (List.length a2)), (r2, ())))))), (([] ++ a2), ()))) := (FnI.call_eq (by kernel_rfl)).trans (by kernel_rfl)
noncomputable def bitloftref27_Made_S (acc : List AV → Bool) : Summ Tryz.prog GT := bitloftref27_Made_I.summ mixed acc false false
noncomputable def bitloftref25_Bytes_I : FnI Tryz.prog GT := { f := 53, cuts := [], tab := [], fm := ⟨true, [.val (.slice (.int .u8)) [.nw]]⟩ }
noncomputable def bitloftref25_Bytes : Option (List Int) := bitloftref25_Bytes_I.call [] []
theorem bitloftref25_Bytes_eq : bitloftref25_Bytes = (
some ([(183 : Int), (98 : Int), (105 : Int), (116 : Int), (108 : Int), (111 : Int), (102 : Int), (116 : Int), (32 : Int), (98 : Int), (108 : Int), (107 : Int), (10 : Int)])) := (FnI.call_eq (by kernel_rfl)).trans (by kernel_rfl)
noncomputable def bitloftref25_Bytes_S (acc : List AV → Bool) : Summ Tryz.prog GT := bitloftref25_Bytes_I.summ mixed acc false false
noncomputable def bitloftref26_Bytes_I : FnI Tryz.prog GT := { f := 54, cuts := [], tab := [bitloftref26_Front_S (fun _ => true)], fm := ⟨true, [.val (.slice (.int .u8)) [.nw]]⟩ }
noncomputable def bitloftref26_Bytes (a0 : D_api_BlockHead) : Option (List Int) := bitloftref26_Bytes_I.call [(.agg T_api_BlockHead (inj false T_api_BlockHead a0))] []
theorem bitloftref26_Bytes_eq (a0 : D_api_BlockHead) : bitloftref26_Bytes a0 = (
(bitloftref26_Front a0).bind fun r1 =>
gd ((List.length (r1 ++ (List.take 20 (List.drop 0 a0.2.2.2.2.2.1)))) * 1 ≤ 140737488355328) <|
some (r1 ++ (List.take 20 (List.drop 0 a0.2.2.2.2.2.1)))) := (FnI.call_eq (by kernel_rfl)).trans (by kernel_rfl)
noncomputable def bitloftref26_Bytes_S (acc : List AV → Bool) : Summ Tryz.prog GT := bitloftref26_Bytes_I.summ mixed acc false false
noncomputable def bitloftref27_Bytes_I : FnI Tryz.prog GT := { f := 26, cuts := [], tab := [bitloftref25_Bytes_S (fun _ => true), bitloftref26_Bytes_S (fun _ => true)], fm := ⟨true, [.val (.slice (.int .u8)) [.nw]]⟩ }
noncomputable def bitloftref27_Bytes (a0 : D_api_Block) : Option (List Int) := bitloftref27_Bytes_I.call [(.agg T_api_Block (inj false T_api_Block a0))] []
theorem bitloftref27_Bytes_eq (a0 : D_api_Block) : bitloftref27_Bytes a0 = (
(bitloftref25_Bytes).bind fun r1 =>
(bitloftref26_Bytes a0.1).bind fun r2 =>
gd ((List.length (r1 ++ r2)) * 1 ≤ 140737488355328) <|
gd ((List.length ((r1 ++ r2) ++ a0.2.1)) * 1 ≤ 140737488355328) <|
some ((r1 ++ r2) ++ a0.2.1)) := (FnI.call_eq (by kernel_rfl)).trans (by kernel_rfl)
noncomputable def bitloftref27_Bytes_S (acc : List AV → Bool) : Summ Tryz.prog GT := bitloftref27_Bytes_I.summ mixed acc false false
noncomputable def bitloftref30_Join_I : FnI Tryz.prog GT := { f := 12, cuts := [⟨(3, 3), [1, 5, 6], false, false, []⟩], tab := [bitloftref27_Bytes_S (fun _ => true)], fm := ⟨true, [.val (.slice (.int .u8)) [.nw]]⟩ }
noncomputable def bitloftref30_Join (a0 : List Int) (a1 : List D_api_Block) : Option (List Int) := bitloftref30_Join_I.call [(.sl (.int .u8) false a0), (.sl T_api_Block false a1)] []
noncomputable def bitloftref30_Join_c1 (v1 : List D_api_Block) (v6 : Int) (h8 : List Int) : Option (List Int) := bitloftref30_Join_I.sem ⟨[.code (cIn (cIn (cSnd (cFst (cSnd (cSnd (bodyOf Tryz.prog 12))))))), .inLoop (cIn (cIn (cSnd (cFst (cSnd (cSnd (bodyOf Tryz.prog 12))))))), .inBlock 0, .code (cSnd (cSnd (cSnd (bodyOf Tryz.prog 12))))], ⟨[(1, (.one (.sl T_api_Block false v1))), (5, (.one (.ref (.int .u8) 8 0 (List.length h8) true))), (6, (.one (.int .i64 v6)))], [(8, some (.row (.int .u8) true h8))], 9⟩⟩
theorem bitloftref30_Join_eq (a0 : List Int) (a1 : List D_api_Block) : bitloftref30_Join a0 a1 = (
gd ((List.length ([] ++ a0)) * 1 ≤ 140737488355328) <|
bitloftref30_Join_c1 a1 (0 : Int) ([] ++ a0)) := (FnI.call_eq (by kernel_rfl)).trans (by kernel_rfl)
theorem bitloftref30_Join_c1_eq (v1 : List D_api_Block) (v6 : Int) (h8 : List Int) : bitloftref30_Join_c1 v1 v6 h8 = (
if (decide (v6 < (Int.ofNat (List.length v1)))) = true then
gd (0 ≤ v6) <|
gd (v6 < (Int.ofNat (List.length v1))) <|
(bitloftref27_Bytes (List.getD v1 (Int.toNat v6) (pzero T_api_Block))).bind fun r1 =>
gd ((List.length (h8 ++ r1)) * 1 ≤ 140737488355328) <|
bitloftref30_Join_c1 v1 (IntKind.wrap .i64 (v6 + (1 : Int))) (h8 ++ r1)
else
some (h8)) := (FnI.sem_eq _).trans (by kernel_rfl)
noncomputable def bitloftref30_Join_S (acc : List AV → Bool) : Summ Tryz.prog GT := bitloftref30_Join_I.summ mixed acc false false
noncomputable def bitloftlaw33_example_I : FnI Tryz.prog GT := { f := 25, cuts := [], tab := [bitloftref28_Of_S (fun _ => true), bitloftref30_Bytes_S (fun _ => true), bitloftref27_Made_S (fun _ => true), bitloftref30_Join_S (fun _ => true)], fm := ⟨true, [.val (.slice (.int .u8)) [.nw]]⟩ }
noncomputable def bitloftlaw33_example : Option (List Int) := bitloftlaw33_example_I.call [] []
theorem bitloftlaw33_example_eq : bitloftlaw33_example = (
(bitloftref28_Of [((ByteArray.mk #[97]), ([(7 : Int)], ()))]).bind fun r1 =>
(bitloftref30_Bytes ((0 : Int), ((16 : Int), ())) r1.1).bind fun r2 =>
(bitloftref27_Made (0 : Int) (0 : Int) [(7 : Int)] [(7 : Int)]).bind fun r3 =>
(bitloftref30_Join r2 [r3]).bind fun r4 =>
some (r4)) := (FnI.call_eq (by kernel_rfl)).trans (by kernel_rfl)
noncomputable def bitloftlaw33_example_S (acc : List AV → Bool) : Summ Tryz.prog GT := bitloftlaw33_example_I.summ mixed acc false false
noncomputable def bitloftref33_Same_I : FnI Tryz.prog GT := { f := 29, cuts := [], tab := [], fm := ⟨true, [.val .bool []]⟩ }
noncomputable def bitloftref33_Same (a0 : List Int) (a1 : List Int) : Option (Bool) := bitloftref33_Same_I.call [(.sl (.int .u8) false a0), (.sl (.int .u8) false a1)] []
theorem bitloftref33_Same_eq (a0 : List Int) (a1 : List Int) : bitloftref33_Same a0 a1 = (
some ((ByteArray.toList (toStr a0)) == (ByteArray.toList (toStr a1)))) := (FnI.call_eq (by kernel_rfl)).trans (by kernel_rfl)
noncomputable def bitloftref33_Same_S (acc : List AV → Bool) : Summ Tryz.prog GT := bitloftref33_Same_I.summ mixed acc false false
noncomputable def bitloftlaw33_alive_I : FnI Tryz.prog GT := { f := 27, cuts := [], tab := [bitloftlaw33_example_S (fun _ => true), bitloftref30_Bytes_S (fun _ => true), verify_Fine_S (fun _ => true), verify_States_S (fun _ => true), bitloftref33_Same_S (fun _ => true)], fm := ⟨true, [.val .bool []]⟩ }
noncomputable def bitloftlaw33_alive : Option (Bool) := bitloftlaw33_alive_I.call [] []
theorem bitloftlaw33_alive_eq : bitloftlaw33_alive = (
(bitloftlaw33_example).bind fun r1 =>
(bitloftref30_Bytes ((0 : Int), ((16 : Int), ())) []).bind fun r2 =>
(verify_Fine r2).bind fun r3 =>
(verify_States r2).bind fun r4 =>
(verify_States r1).bind fun r5 =>
gd (0 ≤ (IntKind.wrap .i64 ((Int.ofNat (List.length r1)) - (1 : Int)))) <|
gd ((IntKind.wrap .i64 ((Int.ofNat (List.length r1)) - (1 : Int))) ≤ (Int.ofNat (List.length r1))) <|
(verify_States (List.take ((Int.toNat (IntKind.wrap .i64 ((Int.ofNat (List.length r1)) - (1 : Int)))) - 0) (List.drop 0 r1))).bind fun r6 =>
gd ((List.length ([] ++ r1)) * 1 ≤ 140737488355328) <|
gd (0 ≤ (IntKind.wrap .i64 ((Int.ofNat (List.length ([] ++ r1))) - (1 : Int)))) <|
gd ((IntKind.wrap .i64 ((Int.ofNat (List.length ([] ++ r1))) - (1 : Int))) < (Int.ofNat (List.length ([] ++ r1)))) <|
gd (0 ≤ (IntKind.wrap .i64 ((Int.ofNat (List.length ([] ++ r1))) - (1 : Int)))) <|
gd ((IntKind.wrap .i64 ((Int.ofNat (List.length ([] ++ r1))) - (1 : Int))) < (Int.ofNat (List.length ([] ++ r1)))) <|
(verify_States (List.set ([] ++ r1) (0 + (Int.toNat (IntKind.wrap .i64 ((Int.ofNat (List.length ([] ++ r1))) - (1 : Int))))) (IntKind.wrap .u8 ((List.getD ([] ++ r1) (0 + (Int.toNat (IntKind.wrap .i64 ((Int.ofNat (List.length ([] ++ r1))) - (1 : Int))))) (0 : Int)) + (1 : Int))))).bind fun r7 =>
if (r3.2 == (0 : Int)) = true then
if r3.1 = true then
if (r4.2 == (0 : Int)) = true then
if ((Int.ofNat (List.length r4.1)) == (0 : Int)) = true then
if (r5.2 == (0 : Int)) = true then
(bitloftref33_Same r5.1 [(1 : Int)]).bind fun r8 =>
if r8 = true then
if (r6.2 == (0 : Int)) = true then
(bitloftref33_Same r6.1 [(3 : Int)]).bind fun r9 =>
if r9 = true then
if (r7.2 == (0 : Int)) = true then
(bitloftref33_Same r7.1 [(2 : Int)]).bind fun r10 =>
some (r10)
else
some (false)
else
some (false)
else
some (false)
else
some (false)
else
some (false)
else
some (false)
else
some (false)
else
some (false)
else
some (false)) := (FnI.call_eq (by kernel_rfl)).trans (by kernel_rfl)
noncomputable def bitloftlaw33_alive_S (acc : List AV → Bool) : Summ Tryz.prog GT := bitloftlaw33_alive_I.summ mixed acc false false
noncomputable def bitloftref33_SameBools_I : FnI Tryz.prog GT := { f := 28, cuts := [⟨(4, 3), [0, 1, 5], false, false, []⟩], tab := [], fm := ⟨true, [.val .bool []]⟩ }
noncomputable def bitloftref33_SameBools (a0 : List Bool) (a1 : List Bool) : Option (Bool) := bitloftref33_SameBools_I.call [(.sl .bool false a0), (.sl .bool false a1)] []
noncomputable def bitloftref33_SameBools_c1 (v0 : List Bool) (v1 : List Bool) (v5 : Int) : Option (Bool) := bitloftref33_SameBools_I.sem ⟨[.code (cIn (cIn (cSnd (cFst (cSnd (cSnd (bodyOf Tryz.prog 28))))))), .inLoop (cIn (cIn (cSnd (cFst (cSnd (cSnd (bodyOf Tryz.prog 28))))))), .inBlock 0, .code (cSnd (cSnd (cSnd (bodyOf Tryz.prog 28))))], ⟨[(0, (.one (.sl .bool false v0))), (1, (.one (.sl .bool false v1))), (5, (.one (.int .i64 v5)))], [], 8⟩⟩
theorem bitloftref33_SameBools_eq (a0 : List Bool) (a1 : List Bool) : bitloftref33_SameBools a0 a1 = (
if ((Int.ofNat (List.length a0)) != (Int.ofNat (List.length a1))) = true then
some (false)
else
bitloftref33_SameBools_c1 a0 a1 (0 : Int)) := (FnI.call_eq (by kernel_rfl)).trans (by kernel_rfl)
theorem bitloftref33_SameBools_c1_eq (v0 : List Bool) (v1 : List Bool) (v5 : Int) : bitloftref33_SameBools_c1 v0 v1 v5 = (
if (decide (v5 < (Int.ofNat (List.length v0)))) = true then
gd (0 ≤ v5) <|
gd (v5 < (Int.ofNat (List.length v0))) <|
gd (0 ≤ v5) <|
gd (v5 < (Int.ofNat (List.length v1))) <|
if (not ((List.getD v0 (Int.toNat v5) false) == (List.getD v1 (Int.toNat v5) false))) = true then
some (false)
else
bitloftref33_SameBools_c1 v0 v1 (IntKind.wrap .i64 (v5 + (1 : Int)))
else
some (true)) := (FnI.sem_eq _).trans (by kernel_rfl)
noncomputable def bitloftref33_SameBools_S (acc : List AV → Bool) : Summ Tryz.prog GT := bitloftref33_SameBools_I.summ mixed acc false false
noncomputable def bitloftlaw33_VerifyNames_I : FnI Tryz.prog GT := { f := 5, cuts := [], tab := [verify_States_S (fun _ => true), verify_Members_S (fun _ => true), verify_Fine_S (fun _ => true), verify_First_S (fun _ => true), bitloftlaw33_example_S (fun _ => true), bitloftref27_Made_S (fun _ => true), bitloftref27_Bytes_S (fun _ => true), bitloftlaw33_alive_S (fun _ => true), bitloftref33_SameBools_S (fun _ => true), bitloftref33_Same_S (fun _ => true)], fm := ⟨true, [.val .bool []]⟩ }
noncomputable def bitloftlaw33_VerifyNames : Option (Bool) := bitloftlaw33_VerifyNames_I.call [] []
theorem bitloftlaw33_VerifyNames_eq : bitloftlaw33_VerifyNames = (
gd ((50001 : Int) = (50001 : Int)) <|
gd (0 ≤ (50001 : Int)) <|
gd ((50001 : Int) * 1 ≤ 140737488355328) <|
gd ((50001 : Int) ≤ 9223372036854775807) <|
(verify_States (List.replicate 50001 (0 : Int))).bind fun r1 =>
(verify_Members (List.replicate 50001 (0 : Int))).bind fun r2 =>
(verify_Fine (List.replicate 50001 (0 : Int))).bind fun r3 =>
(verify_First (List.replicate 50001 (0 : Int))).bind fun r4 =>
(bitloftlaw33_example).bind fun r5 =>
if (decide ((IntKind.wrap .i64 ((Int.ofNat (List.length r5)) - (42 : Int))) < (28 : Int))) = true then
some (false)
else
gd ((List.length ([] ++ r5)) * 1 ≤ 140737488355328) <|
gd (0 ≤ (IntKind.wrap .i64 ((IntKind.wrap .i64 ((Int.ofNat (List.length r5)) - (42 : Int))) - (1 : Int)))) <|
gd ((IntKind.wrap .i64 ((IntKind.wrap .i64 ((Int.ofNat (List.length r5)) - (42 : Int))) - (1 : Int))) < (Int.ofNat (List.length ([] ++ r5)))) <|
gd (0 ≤ (IntKind.wrap .i64 ((IntKind.wrap .i64 ((Int.ofNat (List.length r5)) - (42 : Int))) - (1 : Int)))) <|
gd ((IntKind.wrap .i64 ((IntKind.wrap .i64 ((Int.ofNat (List.length r5)) - (42 : Int))) - (1 : Int))) < (Int.ofNat (List.length ([] ++ r5)))) <|
(verify_States (List.set ([] ++ r5) (0 + (Int.toNat (IntKind.wrap .i64 ((IntKind.wrap .i64 ((Int.ofNat (List.length r5)) - (42 : Int))) - (1 : Int))))) (IntKind.wrap .u8 ((List.getD ([] ++ r5) (0 + (Int.toNat (IntKind.wrap .i64 ((IntKind.wrap .i64 ((Int.ofNat (List.length r5)) - (42 : Int))) - (1 : Int))))) (0 : Int)) + (1 : Int))))).bind fun r6 =>
gd (0 ≤ (7 : Int)) <|
gd ((7 : Int) ≤ (Int.ofNat (List.length r5))) <|
(verify_Fine (List.take 7 (List.drop 0 r5))).bind fun r7 =>
(verify_First r5).bind fun r8 =>
gd (0 ≤ (IntKind.wrap .i64 ((Int.ofNat (List.length r5)) - (42 : Int)))) <|
gd ((IntKind.wrap .i64 ((Int.ofNat (List.length r5)) - (42 : Int))) ≤ (Int.ofNat (List.length r5))) <|
(verify_First (List.take ((Int.toNat (IntKind.wrap .i64 ((Int.ofNat (List.length r5)) - (42 : Int)))) - 0) (List.drop 0 r5))).bind fun r9 =>
(verify_Members r5).bind fun r10 =>
gd (0 ≤ (IntKind.wrap .i64 ((Int.ofNat (List.length r5)) - (42 : Int)))) <|
gd ((IntKind.wrap .i64 ((Int.ofNat (List.length r5)) - (42 : Int))) ≤ (Int.ofNat (List.length r5))) <|
(verify_Members (List.take ((Int.toNat (IntKind.wrap .i64 ((Int.ofNat (List.length r5)) - (42 : Int)))) - 0) (List.drop 0 r5))).bind fun r11 =>
gd ((List.length ([] ++ r5)) * 1 ≤ 140737488355328) <|
gd ((List.length (([] ++ r5) ++ [(1 : Int)])) * 1 ≤ 140737488355328) <|
(verify_Fine (([] ++ r5) ++ [(1 : Int)])).bind fun r12 =>
(verify_States (([] ++ r5) ++ [(1 : Int)])).bind fun r13 =>
(bitloftref27_Made (0 : Int) (0 : Int) [(8 : Int)] [(8 : Int)]).bind fun r14 =>
gd (0 ≤ (IntKind.wrap .i64 ((Int.ofNat (List.length r5)) - (42 : Int)))) <|
gd ((IntKind.wrap .i64 ((Int.ofNat (List.length r5)) - (42 : Int))) ≤ (Int.ofNat (List.length r5))) <|
gd ((List.length ([] ++ (List.take ((Int.toNat (IntKind.wrap .i64 ((Int.ofNat (List.length r5)) - (42 : Int)))) - 0) (List.drop 0 r5)))) * 1 ≤ 140737488355328) <|
(bitloftref27_Bytes (r14.1, ([(9 : Int)], r14.2.2))).bind fun r15 =>
gd ((List.length (([] ++ (List.take ((Int.toNat (IntKind.wrap .i64 ((Int.ofNat (List.length r5)) - (42 : Int)))) - 0) (List.drop 0 r5))) ++ r15)) * 1 ≤ 140737488355328) <|
gd (0 ≤ (IntKind.wrap .i64 ((Int.ofNat (List.length r5)) - (42 : Int)))) <|
gd ((IntKind.wrap .i64 ((Int.ofNat (List.length r5)) - (42 : Int))) ≤ (Int.ofNat (List.length r5))) <|
gd ((List.length ((([] ++ (List.take ((Int.toNat (IntKind.wrap .i64 ((Int.ofNat (List.length r5)) - (42 : Int)))) - 0) (List.drop 0 r5))) ++ r15) ++ (List.take ((List.length r5) - (Int.toNat (IntKind.wrap .i64 ((Int.ofNat (List.length r5)) - (42 : Int))))) (List.drop (0 + (Int.toNat (IntKind.wrap .i64 ((Int.ofNat (List.length r5)) - (42 : Int))))) r5)))) * 1 ≤ 140737488355328) <|
(verify_States ((([] ++ (List.take ((Int.toNat (IntKind.wrap .i64 ((Int.ofNat (List.length r5)) - (42 : Int)))) - 0) (List.drop 0 r5))) ++ r15) ++ (List.take ((List.length r5) - (Int.toNat (IntKind.wrap .i64 ((Int.ofNat (List.length r5)) - (42 : Int))))) (List.drop (0 + (Int.toNat (IntKind.wrap .i64 ((Int.ofNat (List.length r5)) - (42 : Int))))) r5)))).bind fun r16 =>
(verify_Fine ((([] ++ (List.take ((Int.toNat (IntKind.wrap .i64 ((Int.ofNat (List.length r5)) - (42 : Int)))) - 0) (List.drop 0 r5))) ++ r15) ++ (List.take ((List.length r5) - (Int.toNat (IntKind.wrap .i64 ((Int.ofNat (List.length r5)) - (42 : Int))))) (List.drop (0 + (Int.toNat (IntKind.wrap .i64 ((Int.ofNat (List.length r5)) - (42 : Int))))) r5)))).bind fun r17 =>
(bitloftlaw33_alive).bind fun r18 =>
if r18 = true then
if (r1.2 == (4 : Int)) = true then
if (r2.2 == (4 : Int)) = true then
if (r3.2 == (4 : Int)) = true then
if (r4.2 == (4 : Int)) = true then
if (r6.2 == (22 : Int)) = true then
if (r7.2 == (18 : Int)) = true then
if (r8.2 == (6 : Int)) = true then
if (r9.2 == (0 : Int)) = true then
if (r9.1 == (0 : Int)) = true then
if (r10.2 == (0 : Int)) = true then
(bitloftref33_SameBools r10.1 [true]).bind fun r19 =>
if r19 = true then
if (r11.2 == (0 : Int)) = true then
(bitloftref33_SameBools r11.1 [false]).bind fun r20 =>
if r20 = true then
if (r12.2 == (0 : Int)) = true then
if (not r12.1) = true then
if (r13.2 == (0 : Int)) = true then
(bitloftref33_Same r13.1 [(1 : Int)]).bind fun r21 =>
if r21 = true then
if (r16.2 == (0 : Int)) = true then
(bitloftref33_Same r16.1 [(1 : Int)]).bind fun r22 =>
if r22 = true then
if (r17.2 == (0 : Int)) = true then
some (not r17.1)
else
some (false)
else
some (false)
else
some (false)
else
some (false)
else
some (false)
else
some (false)
else
some (false)
else
some (false)
else
some (false)
else
some (false)
else
some (false)
else
some (false)
else
some (false)
else
some (false)
else
some (false)
else
some (false)
else
some (false)
else
some (false)
else
some (false)
else
some (false)
else
some (false)) := (FnI.call_eq (by kernel_rfl)).trans (by kernel_rfl)
end Go.Ab
