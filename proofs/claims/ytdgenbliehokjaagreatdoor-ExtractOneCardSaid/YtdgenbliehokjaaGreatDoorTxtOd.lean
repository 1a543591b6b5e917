/-
  An abstract machine over the model's code and its soundness; what the functions compute, as plain functions (printed by a program of this repo's own, checked here by the kernel); plain laws of them: part 4. Helper text, no statement of the claim stands here.
-/
import Derived.Test.YtdgenbliehokjaaGreatDoorTxtOc
import Derived.Test.YtdgenbliehokjaaGreatDoorProg
import Derived.WalkKit
import Derived.LaidEql
import Derived.Stop.Asserts
import Derived.RowKitTokens
import Derived.Laws.Externs
import Derived.Shelf.Bytes.SlIndexWhole
open ByteArray renaming empty → wD, size → wxb, toList → wO
open Go.IntKind renaming wrap → wd
open Go.Proofs.Tryz renaming prog → wg
open Go.Sem renaming run_bind → ww
open Int renaming fdiv → wX, ofNat → wi, tdiv → wFa, tmod → wob, toNat → wn
open List renaming drop → wW, getD → wk, length → we, replicate → wo, set → wF, take → wK
open Option.some renaming injEq → wc
set_option linter.unusedVariables false
set_option linter.unusedSimpArgs false
namespace Go.Ab.As
open Go Go.Proofs Go.RowKit Go.Extern.Stop Go.Stop Go.Extern
theorem as_nil (t:Value) (w:World):
  Calls wg 58 #[.nilIface,t] w fun e w'=>e= .returned (.bool false)∧w'=w:=by
 go_enter Tryz.func58,Tryz.ntmps58
 go_wp2
 go_ret
 exact ⟨rfl,rfl⟩
theorem qWM (t:Addr) (w:World):(ReflectliteValue.unpack (.iface 132 (.pointer (some t)))).run wg w
  = .ok (.agg #[.pointer (some ⟨8,132,none⟩), .pointer (some ⟨w.heap.size,0,none⟩), .int .u64 150]) (w.alloc (.cells #[.pointer (some t)] 132)):=by kernel_rfl
theorem qAR (a:Addr) (w:World):(ReflectliteValue.methodAny (ReflectliteValue.valueError "reflectlite.Value.Type" 0) (fun t _ _ _=>ReflectliteType.toType t) #[.agg #[.pointer (some ⟨8,132,none⟩), .pointer (some a), .int .u64 150]]).run wg w
  = .ok (.iface 257 (.agg #[.pointer (some ⟨8,132,none⟩)])) w:=by kernel_rfl
theorem qkJ (h:Value) (w:World):(Go.method 614 257 (.agg #[h]) "Kind").run wg w= .ok (338,h) w:=by kernel_rfl
theorem qGR (w:World):((ReflectliteType.abiMethod fun t=>(fun a:Nat=>Value.int IntKind.u8 (a:Int)) <$> Rtype.kind t) #[.pointer (some ⟨8,132,none⟩)]).run wg w= .ok (.int .u8 22) w:=by kernel_rfl
theorem qHR (w:World):((ReflectliteType.abiMethod fun t=>(fun a:Nat=>Value.int IntKind.u8 (a:Int)) <$> Rtype.kind t) #[.pointer (some ⟨8,26,none⟩)]).run wg w= .ok (.int .u8 2) w:=by kernel_rfl
theorem rlm (z:Sem Value) (f:TypeId→Addr→Nat→Nat→Sem Value) (v:Value):
  ReflectliteValue.method z f #[v]=(do match ←ReflectliteValue.parts v with|none=>z|some (t,a,fl)=>f t a fl (fl%32)):=rfl
theorem qDO (a:Addr) (w:World):(ReflectliteValue.parts (.agg #[.pointer (some ⟨8,132,none⟩), .pointer (some a), .int .u64 150])).run wg w= .ok (some (132,a,150)) w:=by kernel_rfl
theorem qMQ (a p:Addr) (W:World) (ha:W.cell? a=some (.pointer (some p))):
  (ReflectliteValue.method (ReflectliteValue.valueError "reflectlite.Value.IsNil" 0) ReflectliteValue.isNil #[.agg #[.pointer (some ⟨8,132,none⟩), .pointer (some a), .int .u64 150]]).run wg W= .ok (.bool false) W:=by
 rw [rlm]
 simp only [ww,qDO,Result.andThen]
 simp [ReflectliteValue.isNil,loadVar,isAgg,underlying,Tryz.underlying132,ha,Result.andThen]
theorem qlJ (h:Value) (w:World):(Go.method 614 257 (.agg #[h]) "Elem").run wg w= .ok (348, .agg #[h]) w:=by kernel_rfl
theorem qBv (h:Value) (w:World):(Go.method 614 257 (.agg #[h]) "Implements").run wg w= .ok (349, .agg #[h]) w:=by kernel_rfl
theorem qHs (h:Value) (w:World):(Go.method 614 257 (.agg #[h]) "AssignableTo").run wg w= .ok (346, .agg #[h]) w:=by kernel_rfl
theorem qMR (w:World):(ReflectliteType.method ReflectliteType.elem #[.agg #[.pointer (some ⟨8,132,none⟩)]]).run wg w= .ok (.iface 257 (.agg #[.pointer (some ⟨8,26,none⟩)])) w:=by kernel_rfl
theorem qoG (w:World):(ReflectliteType.relation "Implements" ReflectliteType.implements_ #[.agg #[.pointer (some ⟨8,26,none⟩)], .iface 257 (.agg #[.pointer (some ⟨8,128,none⟩)])]).run wg w= .ok (.bool true) w:=by kernel_rfl
theorem qhP (v:Value) (w:World):(ReflectliteType.typeOf #[.iface 26 v]).run wg w= .ok (.iface 257 (.agg #[.pointer (some ⟨8,26,none⟩)])) w:=by kernel_rfl
theorem qVG (w:World):(ReflectliteType.relation "AssignableTo" ReflectliteType.assignableTo #[.agg #[.pointer (some ⟨8,26,none⟩)], .iface 257 (.agg #[.pointer (some ⟨8,26,none⟩)])]).run wg w= .ok (.bool true) w:=by kernel_rfl
theorem qXM (n:Int) (w:World):(ReflectliteValue.unpack (.iface 26 (.int .i64 n))).run wg w
  = .ok (.agg #[.pointer (some ⟨8,26,none⟩), .pointer (some ⟨w.heap.size,0,none⟩), .int .u64 130]) (w.alloc (.cells #[.int .i64 n] 26)):=by kernel_rfl
theorem qSP (w:World):(Rtype.elem? 132).run wg w= .ok (some 26) w:=by kernel_rfl
theorem mkE (p:Addr) (w:World):(ReflectliteValue.mk 26 p ReflectliteValue.flagAddr).run wg w= .ok (.agg #[.pointer (some ⟨8,26,none⟩), .pointer (some p), .int .u64 386]) w:=by kernel_rfl
theorem qVQ (a p:Addr) (W:World) (ha:W.cell? a=some (.pointer (some p))):
  (ReflectliteValue.method (ReflectliteValue.valueError "reflectlite.Value.Elem" 0) ReflectliteValue.elem #[.agg #[.pointer (some ⟨8,132,none⟩), .pointer (some a), .int .u64 150]]).run wg W
   = .ok (.agg #[.pointer (some ⟨8,26,none⟩), .pointer (some p), .int .u64 386]) W:=by
 rw [rlm]
 simp only [ww,qDO,Result.andThen]
 simp [ReflectliteValue.elem,loadVar,isAgg,underlying,Tryz.underlying132,ha,Result.andThen,qSP,mkE]
theorem rls (v x:Value):ReflectliteValue.set #[v,x]=(do
  let (some (dst,a,fl),some (src,b,_)):=(←ReflectliteValue.parts v,←ReflectliteValue.parts x)
   |unsupported (.noEntry "extern/(internal/reflectlite.Value).Set.zeroValue")
  if fl/ReflectliteValue.flagAddr%2==0 then unsupported (.noEntry "extern/(internal/reflectlite.Value).Set.unaddressable")
  let val ←loadVar src b
  if ←Rtype.directlyAssignable dst src then storeVar dst a val
  else if ←Rtype.implements dst src then
   if (←Rtype.kind src)==20 then
    match val with
    | .nilIface=>unsupported (.noEntry "extern/reflectlite: a nil value of one interface type handed on as a value of another")
    |_=>storeVar dst a val
   else storeVar dst a (.iface src val)
  else panicString ("reflectlite.Set: value of type " ++(←Rtype.spelt src)++ " is not assignable to type " ++(←Rtype.spelt dst))
  pure (.tuple #[])):=rfl
theorem qBP (a:Addr) (w:World):(ReflectliteValue.parts (.agg #[.pointer (some ⟨8,26,none⟩), .pointer (some a), .int .u64 386])).run wg w= .ok (some (26,a,386)) w:=by kernel_rfl
theorem qyQ (a:Addr) (w:World):(ReflectliteValue.parts (.agg #[.pointer (some ⟨8,26,none⟩), .pointer (some a), .int .u64 130])).run wg w= .ok (some (26,a,130)) w:=by kernel_rfl
theorem qWP (w:World):(Rtype.directlyAssignable 26 26).run wg w= .ok true w:=by kernel_rfl
theorem qpS (ta b:Addr) (n:Int) (old:Value) (W:World) (hb:W.cell? b=some (.int .i64 n)) (ht:W.cell? ta=some old) (hf:W.frozen? ta=false):
  (ReflectliteValue.set #[.agg #[.pointer (some ⟨8,26,none⟩), .pointer (some ta), .int .u64 386], .agg #[.pointer (some ⟨8,26,none⟩), .pointer (some b), .int .u64 130]]).run wg W
   = .ok (.tuple #[]) (W.setCell ta (.int .i64 n)):=by
 rw [rls]
 simp only [ww,qBP,qyQ,Result.andThen]
 simp [ReflectliteValue.flagAddr,loadVar,isAgg,underlying,Tryz.underlying26,hb,Result.andThen,qWP,storeVar,Value.cells,storeCells,Addr.add]
 rw [run_store wg W ta _ _ (by rfl)]
 simp [ht,hf]
set_option maxHeartbeats 4000000 in
set_option maxRecDepth 100000 in
theorem as_hit (n:Int) (t:Addr) (old:Value) (w:World) (hg:w.cell? ⟨0,0,none⟩=some (.iface 257 (.agg #[.pointer (some ⟨8,128,none⟩)]))) (ht0:w.cell? t=some old) (hf0:w.frozen? t=false):
  Calls wg 58 #[.iface 26 (.int .i64 n), .iface 132 (.pointer (some t))] w fun ev w'=>ev= .returned (.bool true)∧w'=((((w.alloc (.cells #[.pointer (some t)] 132)).alloc (.cells #[.pointer (some ⟨8,132,none⟩), .pointer (some ⟨w.heap.size,0,none⟩), .int .u64 150] 181)).alloc (.cells #[.pointer (some ⟨8,132,none⟩), .pointer (some ⟨w.heap.size,0,none⟩), .int .u64 150] 181)).alloc (.cells #[.int .i64 n] 26)).setCell t (.int .i64 n):=by
 have h6:=@run_callFunc_extern wg 99 _ (fun args=>ReflectliteValue.unpack (args.getD 0 (.tuple #[]))) Tryz.func99 (by kernel_rfl) (by kernel_rfl) (by kernel_rfl) (by kernel_rfl)
 have h7:=@run_callFunc_extern wg 100 _ (ReflectliteValue.methodAny (ReflectliteValue.valueError "reflectlite.Value.Type" 0) (fun t _ _ _=>ReflectliteType.toType t)) Tryz.func100 (by kernel_rfl) (by kernel_rfl) (by kernel_rfl) (by kernel_rfl)
 have h8:=@run_callFunc_extern wg 101 _ (ReflectliteValue.method (ReflectliteValue.valueError "reflectlite.Value.IsNil" 0) ReflectliteValue.isNil) Tryz.func101 (by kernel_rfl) (by kernel_rfl) (by kernel_rfl) (by kernel_rfl)
 have h27:=@run_callFunc_extern wg 338 _ (ReflectliteType.abiMethod fun t=>do pure (.int .u8 (←Rtype.kind t))) Tryz.func338 (by kernel_rfl) (by kernel_rfl) (by kernel_rfl) (by kernel_rfl)
 have h37:=@run_callFunc_extern wg 348 _ (ReflectliteType.method ReflectliteType.elem) Tryz.func348 (by kernel_rfl) (by kernel_rfl) (by kernel_rfl) (by kernel_rfl)
 have h38:=@run_callFunc_extern wg 349 _ (ReflectliteType.relation "Implements" ReflectliteType.implements_) Tryz.func349 (by kernel_rfl) (by kernel_rfl) (by kernel_rfl) (by kernel_rfl)
 have h10:=@run_callFunc_extern wg 138 _ ReflectliteType.typeOf Tryz.func138 (by kernel_rfl) (by kernel_rfl) (by kernel_rfl) (by kernel_rfl)
 have h35:=@run_callFunc_extern wg 346 _ (ReflectliteType.relation "AssignableTo" ReflectliteType.assignableTo) Tryz.func346 (by kernel_rfl) (by kernel_rfl) (by kernel_rfl) (by kernel_rfl)
 have h11:=@run_callFunc_extern wg 139 _ (ReflectliteValue.method (ReflectliteValue.valueError "reflectlite.Value.Elem" 0) ReflectliteValue.elem) Tryz.func139 (by kernel_rfl) (by kernel_rfl) (by kernel_rfl) (by kernel_rfl)
 have h12:=@run_callFunc_extern wg 140 _ ReflectliteValue.set Tryz.func140 (by kernel_rfl) (by kernel_rfl) (by kernel_rfl) (by kernel_rfl)
 have tO:=qhP
 have mA:=qHs
 have a25:=qVG
 have v25:=qXM
 have f6:=qWM
 have f7:=qAR
 have mK:=qkJ
 have mE:=qlJ
 have mI:=qBv
 have k27:=qGR
 have k25:=qHR
 have e27:=qMR
 have i25:=qoG
 have n8:=qMQ ⟨w.heap.size,0,none⟩ t ((w.alloc (.cells #[.pointer (some t)] 132)).alloc (.cells #[.pointer (some ⟨8,132,none⟩), .pointer (some ⟨w.heap.size,0,none⟩), .int .u64 150] 181)) (by simp)
 have hlt:0<w.heap.size:=by
  rcases Nat.lt_or_ge 0 w.heap.size with h|h
  ·exact h
  ·simp [World.cell?,Array.getElem?_eq_none h] at hg
 have hg2:((w.alloc (.cells #[.pointer (some t)] 132)).alloc (.cells #[.pointer (some ⟨8,132,none⟩), .pointer (some ⟨w.heap.size,0,none⟩), .int .u64 150] 181)).cell? ⟨0,0,none⟩=some (.iface 257 (.agg #[.pointer (some ⟨8,128,none⟩)])):=by
  rw [World.cell?_alloc_lt _ _ ⟨0,0,none⟩ (by first|(simp;done)|(simp;omega)),World.cell?_alloc_lt _ _ ⟨0,0,none⟩ hlt];exact hg
 have htl:t.block<w.heap.size:=by
  rcases Nat.lt_or_ge t.block w.heap.size with h|h
  ·exact h
  ·simp [World.cell?,Array.getElem?_eq_none h] at ht0
 have el:=qVQ ⟨w.heap.size,0,none⟩ t (((w.alloc (.cells #[.pointer (some t)] 132)).alloc (.cells #[.pointer (some ⟨8,132,none⟩), .pointer (some ⟨w.heap.size,0,none⟩), .int .u64 150] 181)).alloc (.cells #[.pointer (some ⟨8,132,none⟩), .pointer (some ⟨w.heap.size,0,none⟩), .int .u64 150] 181)) (by rw [World.cell?_alloc_lt _ _ ⟨w.heap.size,0,none⟩ (by first|(simp;done)|(simp;omega))];simp)
 have st:=qpS t ⟨w.heap.size+1+1+1,0,none⟩ n old ((((w.alloc (.cells #[.pointer (some t)] 132)).alloc (.cells #[.pointer (some ⟨8,132,none⟩), .pointer (some ⟨w.heap.size,0,none⟩), .int .u64 150] 181)).alloc (.cells #[.pointer (some ⟨8,132,none⟩), .pointer (some ⟨w.heap.size,0,none⟩), .int .u64 150] 181)).alloc (.cells #[.int .i64 n] 26))
  (by rw [World.cell?_alloc_at _ _ _ _ (by simp)];rfl)
  (by rw [World.cell?_alloc_lt _ _ t (by first|(simp;done)|(simp;omega)),World.cell?_alloc_lt _ _ t (by first|(simp;done)|(simp;omega)),World.cell?_alloc_lt _ _ t (by first|(simp;done)|(simp;omega)),World.cell?_alloc_lt _ _ t htl];exact ht0)
  (by rw [World.frozen?_alloc_old _ _ t (by first|(simp;done)|(simp;omega)),World.frozen?_alloc_old _ _ t (by first|(simp;done)|(simp;omega)),World.frozen?_alloc_old _ _ t (by first|(simp;done)|(simp;omega)),World.frozen?_alloc_old _ _ t (Nat.ne_of_lt htl)];exact hf0)
 go_enter Tryz.func58,Tryz.ntmps58
 go_wp2
 refine wp_loop_rounds 1 ?_
 rw [rounds_succ]
 go_wp2
 go_ret
 exact ⟨rfl,rfl⟩
end Go.Ab.As

set_option linter.unusedVariables false
set_option linter.unusedSimpArgs false
namespace Go.Ab
open Go Go.Proofs Go.RowKit
def qWm (a0:Option Int) (b0:Int):Option (Bool×Int):=some (match a0 with
 |some n=>(true,n)
 |none=>(false,b0))
theorem qaA (n b0:Int):qWm (some n) b0=some (true,n):=rfl
theorem qbA (b0:Int):qWm none b0=some (false,b0):=rfl
def qsp:List AV→List (Nat×Obj)→Option (Bool×Int)
 |[.eri T .i64 x, .ifp TP (.int .i64) 0 []],[(0, .box (.int .i64) v)]=>if T=26∧TP=132 then qWm x v else none
 |_,_=>none
theorem uJ:((List.range Tryz.prog.types.size).filter fun t=>Tryz.prog.rowNamed t [101,114,114,111,114])=[128]:=by kernel_rfl
theorem As.rt:(Tryz.prog.cutTypes.find? (·.1== "internal/reflectlite.rtype")).map (·.2)=some 257:=by kernel_rfl
theorem uK {w:World} {g:Nat} (h:Hdl wg w g):w.cell? ⟨g,0,none⟩=some (.iface 257 (.agg #[.pointer (some ⟨8,128,none⟩)])):=by
 obtain ⟨u,ty,e1,e2,e3,e4⟩:=h
 obtain rfl:=Option.some.inj (As.rt.symm.trans e1)
 have hm:ty∈(List.range Tryz.prog.types.size).filter fun t=>Tryz.prog.rowNamed t [101,114,114,111,114]:=List.mem_filter.2 ⟨List.mem_range.2 e2,e3⟩
 rw [uJ] at hm
 obtain rfl:=List.mem_singleton.1 hm
 have hh:typeHandle wg 128= .pointer (some ⟨8,128,none⟩):=by kernel_rfl
 rw [hh] at e4
 exact e4
set_option maxRecDepth 100000 in
theorem qKE {GT:qyi} (hGT:lookL GT 0=some ⟨.unit,()⟩) {avs:List AV} {pre:List (Nat×Obj)} {r:Bool×Int} (h:qsp avs pre=some r):CallOK wg GT 58 avs pre (.one (.bool r.1)) [(0, .box (.int .i64) r.2)]:=by
 unfold qsp at h
 split at h
 ·rename_i T x TP v
  split at h
  ·rename_i hT
   obtain ⟨rfl,rfl⟩:=hT
   intro w F G K vs hg hI hG hK hF hv
   obtain ⟨v1,r1,rfl,h1,h2⟩:=hv
   obtain ⟨v2,r2,rfl,h2,h3⟩:=h2
   simp only [VRdL] at h3;subst h3
   obtain ⟨sh,pl,po,k1,k2,rfl⟩:=h2
   obtain ⟨gh,g1,g2⟩:=hI.objs 0 (.box (.int .i64) v) rfl
   rw [k1] at g1;injection g1 with g1;subst g1
   obtain ⟨q1,p,cs,q2,q3,q4⟩:=g2
   rcases k2 with ⟨k3,k2⟩|⟨_,_,_,_,_,_,_,hp,_,_⟩|⟨_,_,_,_,_,_,_,_,hp,_,_⟩
   rotate_left
   ·cases hp
   ·cases hp
   rw [k3] at q2;injection q2 with q2;subst q2
   rw [q1] at k2
   obtain ⟨sh1,sh2⟩:=sh;simp only at q1 k3;subst q1;subst k3
   simp only [ARd] at q4;subst q4
   simp only [qym,qMa,wc,Prod.mk.injEq] at k2
   obtain ⟨rfl,_⟩:=k2
   have hcell:w.cell? ⟨pl.blk,pl.ob+0,none⟩=some (.int .i64 v):=q3.cells 0 _ rfl
   have hlt:=q3.lt
   have hob:pl.ob+0<pl.bs:=by obtain ⟨_,_,_,_,_,_,h5,_⟩:=q3;simp only [List.length_cons,List.length_nil] at h5;omega
   have hfree:w.frozen? ⟨pl.blk,pl.ob+0,none⟩=false:=q3.free hob
   refine qvM (by kernel_rfl) (by kernel_rfl) ?_
   cases x with
   |none=>
    simp only [qWm,wc] at h;subst h
    simp only [VRd] at h1;subst h1
    refine (As.as_nil _ w).mono ?_
    rintro e w' ⟨rfl,rfl⟩
    exact ⟨_,rfl,K,fun _ _ h=>h,hI,rfl⟩
   |some n=>
    simp only [qWm,wc] at h;subst h
    simp only [VRd] at h1;subst h1
    have hc:=uK (hg.2.2.1 0 hGT)
    refine (As.as_hit n ⟨pl.blk,pl.ob+0,none⟩ _ w hc hcell hfree).mono ?_
    rintro e w' ⟨rfl,rfl⟩
    refine ⟨_,rfl,K,fun _ _ h=>h,?_,rfl⟩
    generalize hw4:(((w.alloc _).alloc _).alloc _).alloc _=w4
    have hm:=hI.more (w':=w4) (by subst hw4;rfl) (by subst hw4;rfl) (by subst hw4;rfl) (by subst hw4;simp;omega) (fun k hk=>by
     subst hw4
     simp only [World.alloc]
     rw [Array.getElem?_push_lt (by simp;omega),Array.getElem_push_lt (by simp;omega),Array.getElem_push_lt (by simp;omega),Array.getElem_push_lt hk]
     exact (Array.getElem?_eq_getElem hk).symm)
    have q5:InBlk w4 pl [.int .i64 v]:=q3.keep (by
     subst hw4
     simp only [World.alloc]
     rw [Array.getElem?_push_lt (by simp;omega),Array.getElem_push_lt (by simp;omega),Array.getElem_push_lt (by simp;omega),Array.getElem_push_lt hlt]
     exact (Array.getElem?_eq_getElem hlt).symm)
    have S:=Stp.write (w':=w4.setCells pl.blk (pl.ob+0) [.int .i64 n]) hm.1 0 0 (.box (.int .i64) v) (.box (.int .i64) n) _ pl rfl k1 (Or.inl rfl) (qwb pl.blk _ _ w4)
     (fun N' K' _ _=>⟨rfl,pl,[.int .i64 n],rfl,q5.write (o:=0) (s:=[.int .i64 n]) (by simp),rfl⟩)
    have hup:qFb (lookL [(0, .box (.int .i64) v)]) [(0,some (.box (.int .i64) n))]=lookL [(0, .box (.int .i64) n)]:=by
     funext l
     simp only [qFb,lookL]
     by_cases hl:0=l <;> simp [hl]
    have:=S.inv
    rw [hup] at this
    exact this
  ·cases h
 ·cases h
end Go.Ab

set_option linter.unusedVariables false
set_option linter.unusedSimpArgs false
namespace Go.Ab
open Go Go.Proofs
def qqq (x y c:Int):Option (Int×Int):=
 if 0≤x∧0≤y∧0≤c∧c≤1 then some ((x+y+c)%18446744073709551616,(x+y+c)/18446744073709551616) else none
def qPn:List AV→List (Nat×Obj)→Option (Int×Int)
 |[.int .u64 x, .int .u64 y, .int .u64 c],[]=>qqq x y c
 |_,_=>none
set_option maxRecDepth 100000 in
theorem qVC {GT:qyi} {avs:List AV} {pre:List (Nat×Obj)} {r:Int×Int} (h:qPn avs pre=some r):CallOK wg GT 286 avs pre (.tup [.int .u64 r.1, .int .u64 r.2]) []:=by
 unfold qPn at h
 split at h
 ·rename_i x y c
  unfold qqq at h
  split at h
  ·rename_i hc
   obtain ⟨c1,c2,c3,c4⟩:=hc
   injection h with h;subst h
   intro w F G K vs hg hI hG hK hF hv
   obtain ⟨v1,r1,rfl,h1,h2⟩:=hv
   obtain ⟨v2,r2,rfl,h2,h3⟩:=h2
   obtain ⟨v3,r3,rfl,h3,h4⟩:=h3
   simp only [VRdL] at h4;subst h4
   simp only [VRd] at h1 h2 h3;subst h1;subst h2;subst h3
   have hr:=run_callFunc_extern (w:=w) (args:=#[.int .u64 x, .int .u64 y, .int .u64 c]) Tryz.func286 (by kernel_rfl) (by kernel_rfl) (by kernel_rfl) (e:=add64Entry) (by kernel_rfl)
   rw [run_add64 x y c c1 c2 c3 c4] at hr
   unfold qfr
   rw [hr]
   exact ⟨K,fun _ _ h=>h,hI,_,rfl,_,_,rfl,rfl,_,_,rfl,rfl,rfl⟩
  ·cases h
 ·cases h
end Go.Ab

/-
  bytes.Index, by the shelf's contract.
-/
set_option linter.unusedVariables false
set_option linter.unusedSimpArgs false
namespace Go.Ab
open Go Go.Proofs Go.Shelf
end Go.Ab

set_option linter.unusedVariables false
set_option maxRecDepth 20000
namespace Go.Ab
open Go Go.Proofs
abbrev qua:Ty:=(.pair .str (.pair (.slice (.int .u8)) .unit))
abbrev qva:Type:=(ByteArray×((List Int)×Unit))
abbrev qwa:Ty:=(.pair (.int .i64) (.pair (.int .i64) .unit))
abbrev qia:Type:=(Int×(Int×Unit))
abbrev qJa:Ty:=(.pair qwa (.pair (.slice (.pair .str (.pair (.int .i64) (.pair (.arr 20 (.int .u8)) .unit)))) (.pair (.slice (.pair (.int .u8) (.pair (.int .i64) (.pair (.int .i64) (.pair (.int .i64) (.pair (.int .i64) (.pair (.arr 20 (.int .u8)) .unit))))))) .unit)))
abbrev qza:Type:=(qia×((List (ByteArray×(Int×((List Int)×Unit))))×((List (Int×(Int×(Int×(Int×(Int×((List Int)×Unit)))))))×Unit)))
abbrev qsa:Ty:=(.pair (.int .u8) (.pair (.int .i64) (.pair (.int .i64) (.pair (.int .i64) (.pair (.int .i64) (.pair (.arr 20 (.int .u8)) .unit))))))
abbrev qga:Type:=(Int×(Int×(Int×(Int×(Int×((List Int)×Unit))))))
abbrev qka:Ty:=(.pair (.int .i64) qwa)
abbrev qea:Type:=(Int×qia)
abbrev qKa:Ty:=(.pair qka (.pair (.slice (.int .u8)) .unit))
abbrev qoa:Type:=(qea×((List Int)×Unit))
abbrev qfa:Ty:=(.pair .str (.pair (.int .i64) (.pair (.arr 20 (.int .u8)) .unit)))
abbrev qaa:Type:=(ByteArray×(Int×((List Int)×Unit)))
abbrev qpa:Ty:=(.pair qsa (.pair (.slice (.int .u8)) .unit))
abbrev qca:Type:=(qga×((List Int)×Unit))
abbrev qna:Ty:=(.pair (.int .i64) (.pair (.slice (.int .u8)) (.pair (.int .i64) .unit)))
abbrev qma:Type:=(Int×((List Int)×(Int×Unit)))
abbrev qZk:Ty:=(.pair (.slice (.int .u8)) (.pair (.int .i64) .unit))
abbrev qaq:Type:=((List Int)×(Int×Unit))
abbrev qUb:Ty:=(.pair qZk .unit)
abbrev qLc:Type:=(qaq×Unit)
abbrev qdb:Type:=qma
abbrev qCa:Ty:=(.pair (.slice (.slice (.int .i32))) .unit)
abbrev qAa:Type:=((List (List Int))×Unit)
abbrev qac:Ty:=(.pair qCa (.pair qCa .unit))
abbrev qUa:Type:=(qAa×(qAa×Unit))
abbrev qgb:Ty:=(.pair (.int .i64) (.pair (.slice (.int .i64)) .unit))
abbrev qIa:Type:=(Int×((List Int)×Unit))
abbrev qbc:Type:=qia
abbrev qLa:Ty:=(.pair (.int .i64) .unit)
abbrev qxa:Type:=(Int×Unit)
abbrev qla:Ty:=(.pair (.int .i64) (.pair qna (.pair (.slice (.pair (.int .i64) (.pair (.slice (.pair (.int .u8) (.pair (.arr 15 (.int .u8)) .unit))) .unit))) (.pair (.slice (.pair (.int .i32) (.pair (.slice (.int .i32)) (.pair (.slice (.int .i32)) .unit)))) (.pair qCa (.pair qac (.pair qgb (.pair qwa (.pair qLa (.pair (.arr 6 (.int .u32)) (.pair (.arr 6 (.int .i64)) .unit)))))))))))
abbrev qja:Type:=(Int×(qma×((List (Int×((List (Int×((List Int)×Unit)))×Unit)))×((List (Int×((List Int)×((List Int)×Unit))))×(qAa×(qUa×(qIa×(qia×(qxa×((List Int)×((List Int)×Unit)))))))))))
abbrev qPa:Ty:=(.pair (.int .u32) (.pair (.int .u32) (.pair (.int .u32) qZk)))
abbrev qNa:Type:=(Int×(Int×(Int×qaq)))
abbrev qya:Ty:=(.pair (.int .u32) (.pair (.int .u32) (.pair (.slice (.int .u8)) .unit)))
abbrev qBa:Type:=(Int×(Int×((List Int)×Unit)))
abbrev qqh:Ty:=(.pair (.arr 2 (.int .i64)) (.pair (.arr 2 (.int .i64)) .unit))
abbrev qrc:Type:=((List Int)×((List Int)×Unit))
abbrev qmc:Ty:=(.pair (.int .i64) (.pair (.slice (.int .u8)) (.pair (.slice (.int .i32)) (.pair (.int .i32) (.pair (.int .i32) (.pair qqh .unit))))))
abbrev qEc:Type:=(Int×((List Int)×((List Int)×(Int×(Int×(qrc×Unit))))))
abbrev qEa:Ty:=(.pair (.int .i64) (.pair (.slice (.pair (.int .u8) (.pair (.arr 15 (.int .u8)) .unit))) .unit))
abbrev qta:Type:=(Int×((List (Int×((List Int)×Unit)))×Unit))
abbrev qDa:Ty:=(.pair (.int .i32) (.pair (.slice (.int .i32)) (.pair (.slice (.int .i32)) .unit)))
abbrev qra:Type:=(Int×((List Int)×((List Int)×Unit)))
abbrev qAc:Ty:=(.pair (.int .u8) (.pair (.arr 15 (.int .u8)) .unit))
abbrev qye:Type:=(Int×((List Int)×Unit))
abbrev qkb:Ty:=(.pair (.int .i32) (.pair (.int .i32) (.pair (.int .u8) .unit)))
abbrev qhb:Type:=(Int×(Int×(Int×Unit)))
def G_widths:List Int:=[1,1,2,2,2]
def G_targets:List Int:=[0,65535]
def G_row:List Int:=[1,2,3,6,10,16,27,45,73,120,194,310,488,747,1101,1546,2047,2549,2994,3348,3607,3785,3901,3975,4022,4050,4068,4079,4085,4089,4092,4093,4094]
def G_quarters:List Int:=[1518500249,1859775393,2400959708,3395469782]
def GT:qyi:=[(0,⟨.unit,()⟩),(1,⟨(.arr 5 (.int .i64)),G_widths⟩),(2,⟨(.arr 4 (.int .u32)),G_quarters⟩),(3,⟨(.pair .unit .unit),((),())⟩),(4,⟨(.arr 2 (.int .i32)),G_targets⟩),(5,⟨(.arr 33 (.int .i32)),G_row⟩)]
theorem mixed:Tryz.prog.follows .mixedOrders=true:=by kernel_rfl
abbrev FN:=FnI wg GT
noncomputable abbrev SS (I:FN):Summ wg GT:=I.summ mixed (fun _=>true) false false
theorem CE {I:FN} {a:List AV} {p:List (Nat×Obj)} {y:Option I.fm.R} (h:(qJP wg I.f a.length&&p.all (fun p=>decide (p.1<8)))=true:=by kernel_rfl) (k:I.go (I.at a p) I.sem=y:=by kernel_rfl):I.call a p=y:=(uG h).trans k
theorem SE {I:FN} {s:Pos} {y:Option I.fm.R} (k:I.go s I.sem=y:=by kernel_rfl):I.sem s=y:=(uB s).trans k
noncomputable def qAG (acc:List AV→Bool):Summ wg GT:={f:=58,acc:=acc,rows:=false,nils:=false,R:=Bool×Int,fn:=qsp,res:=fun r=> .one (.bool r.1),post:=fun r=>[(0, .box (.int .i64) r.2)],ok:=fun _ _ _ h=>qKE rfl h}
noncomputable def qhF (acc:List AV→Bool):Summ wg GT:={f:=286,acc:=acc,rows:=false,nils:=false,R:=Int×Int,fn:=qPn,res:=fun r=> .tup [.int .u64 r.1, .int .u64 r.2],post:=fun _=>[],ok:=fun _ _ _ h=>qVC h}
noncomputable def vaa:FN:={f:=107,cuts:=[⟨(4,3),[0,3],false,false,[],[],[]⟩],tab:=[],fm:=⟨true,[.val .bool []]⟩}
noncomputable def qag (a0:ByteArray):Option (Bool):=vaa.call [(.str a0)] []
noncomputable def qie (v0:ByteArray) (v3:Int):Option (Bool):=vaa.sem ⟨[.code (cIn (cIn (qba (qGa (qba (qba (qha wg 107))))))), .inLoop (cIn (cIn (qba (qGa (qba (qba (qha wg 107))))))), .inBlock 0, .code (qba (qba (qba (qha wg 107))))],⟨[(0,(.one (.str v0))),(3,(.one (.int .i64 v3)))],[],8⟩⟩
theorem qwq (a0:ByteArray):qag a0=(
letI c:=(wi (wxb a0))
if (decide (c<(1:Int)))=true then
some (false)
else
if (decide (c>(40:Int)))=true then
some (false)
else
qie a0 (0:Int)):=CE
theorem qii (v0:ByteArray) (v3:Int):qie v0 v3=(
if (decide (v3<(wi (wxb v0))))=true then
gd (0≤v3)<|
gd (v3<(v0.size:Int))<|
letI c:=(qlw v0 (wn v3))
if (decide (c<(33:Int)))=true then
some (false)
else
gd (0≤v3)<|
gd (v3<(v0.size:Int))<|
if (decide (c>(126:Int)))=true then
some (false)
else
qie v0 (wd .i64 (v3+(1:Int)))
else
some (true)):=SE
noncomputable def vn:FN:={f:=64,cuts:=[⟨(5,3),[0,3,4],false,false,[],[],[]⟩,⟨(11,3),[0,5],false,false,[],[],[]⟩,⟨(16,3),[0,6],false,false,[],[],[]⟩,⟨(19,7),[0,6,7],false,false,[],[],[]⟩],tab:=[SS vaa],fm:=⟨true,[.val (.int .i64) []]⟩}
noncomputable def qji (a0:List qva):Option (Int):=vn.call [(.sl qua false a0)] []
noncomputable def qTd (v0:List qva) (v3:Int) (v4:Int):Option (Int):=vn.sem ⟨[.code (cIn (cIn (qba (qGa (qba (qba (qba (qha wg 64)))))))), .inLoop (cIn (cIn (qba (qGa (qba (qba (qba (qha wg 64)))))))), .inBlock 0, .code (qba (qba (qba (qba (qha wg 64)))))],⟨[(0,(.one (.sl qua false v0))),(3,(.one (.int .i64 v3))),(4,(.one (.int .i64 v4)))],[],8⟩⟩
noncomputable def qJc (v0:List qva) (v5:Int):Option (Int):=vn.sem ⟨[.code (cIn (cIn (qba (qGa (qba (qba (qba (qba (qba (qha wg 64)))))))))), .inLoop (cIn (cIn (qba (qGa (qba (qba (qba (qba (qba (qha wg 64)))))))))), .inBlock 2, .code (qba (qba (qba (qba (qba (qba (qha wg 64)))))))],⟨[(0,(.one (.sl qua false v0))),(5,(.one (.int .i64 v5)))],[],8⟩⟩
noncomputable def qhc (v0:List qva) (v6:Int):Option (Int):=vn.sem ⟨[.code (cIn (cIn (qba (qGa (qba (qba (qba (qba (qba (qba (qha wg 64))))))))))), .inLoop (cIn (cIn (qba (qGa (qba (qba (qba (qba (qba (qba (qha wg 64))))))))))), .inBlock 4, .code (qba (qba (qba (qba (qba (qba (qba (qha wg 64))))))))],⟨[(0,(.one (.sl qua false v0))),(6,(.one (.int .i64 v6)))],[],8⟩⟩
noncomputable def qSd (v0:List qva) (v6:Int) (v7:Int):Option (Int):=vn.sem ⟨[.code (cIn (cIn (qba (cIn (qGa (qba (cIn (cIn (qba (qGa (qba (qba (qba (qba (qba (qba (qha wg 64))))))))))))))))), .inLoop (cIn (cIn (qba (cIn (qGa (qba (cIn (cIn (qba (qGa (qba (qba (qba (qba (qba (qba (qha wg 64))))))))))))))))), .inBlock 6, .inBlock 5, .code (qba (qba (cIn (cIn (qba (qGa (qba (qba (qba (qba (qba (qba (qha wg 64))))))))))))), .inLoop (cIn (cIn (qba (qGa (qba (qba (qba (qba (qba (qba (qha wg 64))))))))))), .inBlock 4, .code (qba (qba (qba (qba (qba (qba (qba (qha wg 64))))))))],⟨[(0,(.one (.sl qua false v0))),(6,(.one (.int .i64 v6))),(7,(.one (.int .i64 v7)))],[],8⟩⟩
theorem qLp (a0:List qva):qji a0=(
if (decide ((wi (we a0))>(16:Int)))=true then
some (4:Int)
else
qTd a0 (0:Int) (0:Int)):=CE
theorem qnh (v0:List qva) (v3:Int) (v4:Int):qTd v0 v3 v4=(
letI c:=(wi (we v0))
if (decide (v4<c))=true then
gd (0≤v4)<|
gd (v4<c)<|
qTd v0 (wd .i64 (v3+(wi (we (wk v0 (wn v4) (qqa qua)).2.1)))) (wd .i64 (v4+(1:Int)))
else
if (decide (v3>(8192:Int)))=true then
some (4:Int)
else
qJc v0 (0:Int)):=SE
theorem qmh (v0:List qva) (v5:Int):qJc v0 v5=(
letI c:=(wi (we v0))
if (decide (v5<c))=true then
gd (0≤v5)<|
gd (v5<c)<|
(qag (wk v0 (wn v5) (qqa qua)).1).bind fun r1=>
if (not r1)=true then
some (8:Int)
else
qJc v0 (wd .i64 (v5+(1:Int)))
else
qhc v0 (0:Int)):=SE
theorem qlh (v0:List qva) (v6:Int):qhc v0 v6=(
if (decide (v6<(wi (we v0))))=true then
qSd v0 v6 (0:Int)
else
some (0:Int)):=SE
theorem qkh (v0:List qva) (v6:Int) (v7:Int):qSd v0 v6 v7=(
if (decide (v7<v6))=true then
gd (0≤v7)<|
letI c:=(wi (we v0))
gd (v7<c)<|
gd (0≤v6)<|
gd (v6<c)<|
letI d:=(qqa qua)
if ((wO (wk v0 (wn v7) d).1)==(wO (wk v0 (wn v6) d).1))=true then
some (14:Int)
else
qSd v0 v6 (wd .i64 (v7+(1:Int)))
else
qhc v0 (wd .i64 (v6+(1:Int)))):=SE
noncomputable def vJ:FN:={f:=93,cuts:=[⟨(2,3),[0,3],false,false,[],[],[]⟩,⟨(5,3),[0,3,4],false,false,[],[],[]⟩],tab:=[],fm:=⟨true,[.val (.slice (.int .u8)) [.nw]]⟩}
noncomputable def qmg (a0:Int):Option (List Int):=vJ.call [(.int .i64 a0)] []
noncomputable def qfd (v0:Int) (h8:List Int):Option (List Int):=vJ.sem ⟨[.code (cIn (cIn (qGa (qba (qba (qha wg 93)))))), .inLoop (cIn (cIn (qGa (qba (qba (qha wg 93)))))), .inBlock 0, .code (qba (qba (qba (qha wg 93))))],⟨[(0,(.one (.int .i64 v0))),(3,(.one (.ref (.int .u8) 8 0 (we h8) true)))],[(8,some (.row (.int .u8) true h8))],9⟩⟩
noncomputable def qed (v0:Int) (v4:Int) (h8:List Int):Option (List Int):=vJ.sem ⟨[.code (cIn (cIn (qba (qGa (qba (qba (qba (qha wg 93)))))))), .inLoop (cIn (cIn (qba (qGa (qba (qba (qba (qha wg 93)))))))), .inBlock 2, .code (qba (qba (qba (qba (qha wg 93)))))],⟨[(0,(.one (.int .i64 v0))),(3,(.one (.ref (.int .u8) 8 0 (we h8) true))),(4,(.one (.int .i64 v4)))],[(8,some (.row (.int .u8) true h8))],9⟩⟩
theorem qQn (a0:Int):qmg a0=(
qfd a0 [(128:Int)]):=CE
theorem qeg (v0:Int) (h8:List Int):qfd v0 h8=(
gd ((64:Int)≠0)<|
if ((wob (wd .i64 ((wd .i64 (v0+(wi (we h8))))+(8:Int))) (64:Int)) != (0:Int))=true then
letI c:=(h8++[(0:Int)])
gd ((we c)*1≤140737488355328)<|
qfd v0 c
else
qed v0 (7:Int) h8):=SE
theorem qdg (v0:Int) (v4:Int) (h8:List Int):qed v0 v4 h8=(
if (decide (v4≥(0:Int)))=true then
letI d:=(wd .i64 ((8:Int)*v4))
gd (0≤d)<|
letI c:=(h8++[(wd .u8 (qcl .u64 (wd .u64 ((8:Int)*(wd .u64 v0))) d))])
gd ((we c)*1≤140737488355328)<|
qed v0 (wd .i64 (v4 - (1:Int))) c
else
some (h8)):=SE
noncomputable def vtb:FN:={f:=94,cuts:=[],tab:=[],fm:=⟨true,[.val (.arr 5 (.int .u32)) []]⟩}
noncomputable def qVl:Option ((List Int)):=vtb.call [] []
theorem qTp:qVl=(
some (wF (wF (wF (wF (wF (wo 5 (0:Int)) 0 (1732584193:Int)) 1 (4023233417:Int)) 2 (2562383102:Int)) 3 (271733878:Int)) 4 (3285377520:Int))):=CE
noncomputable def vHb:FN:={f:=135,cuts:=[],tab:=[],fm:=⟨true,[.val (.int .u32) []]⟩}
noncomputable def qwe (a0:Int) (a1:Int):Option (Int):=vHb.call [(.int .u32 a0),(.int .i64 a1)] []
theorem qzq (a0:Int) (a1:Int):qwe a0 a1=(
gd (0≤a1)<|
letI c:=(wd .i64 ((32:Int) - a1))
gd (0≤c)<|
some (qlc .u32 (wd .u32 (qLw .u32 a0 a1)) (qcl .u32 a0 c))):=CE
noncomputable def vEb:FN:={f:=136,cuts:=[],tab:=[],fm:=⟨true,[.val (.int .u32) [], .val (.int .u32) []]⟩}
noncomputable def qRi (a0:Int) (a1:Int) (a2:Int) (a3:Int):Option (Int×Int):=vEb.call [(.int .i64 a0),(.int .u32 a1),(.int .u32 a2),(.int .u32 a3)] []
theorem qAq (a0:Int) (a1:Int) (a2:Int) (a3:Int):qRi a0 a1 a2 a3=(
letI d:=(qeb .u32 a1 a2)
if (decide (a0<(20:Int)))=true then
some ((qlc .u32 d (qeb .u32 (qAb .u32 (4294967295:Int) a1) a3)),(1518500249:Int))
else
letI c:=(qAb .u32 (qAb .u32 a1 a2) a3)
if (decide (a0<(40:Int)))=true then
some (c,(1859775393:Int))
else
if (decide (a0<(60:Int)))=true then
some ((qlc .u32 (qlc .u32 d (qeb .u32 a1 a3)) (qeb .u32 a2 a3)),(2400959708:Int))
else
some (c,(3395469782:Int))):=CE
noncomputable def vr:FN:={f:=95,cuts:=[⟨(3,3),[1,2,4,5,6],false,false,[],[],[]⟩,⟨(7,3),[2,4,5,7],false,false,[],[],[]⟩,⟨(12,3),[2,4,5,8,9],false,false,[],[],[]⟩,⟨(17,3),[2,4,8,12],false,false,[],[],[]⟩],tab:=[SS vHb,SS vEb],fm:=⟨true,[.val (.arr 5 (.int .u32)) []]⟩}
noncomputable def qSi (a0:(List Int)) (a1:List Int):Option ((List Int)):=vr.call [(.agg (.arr 5 (.int .u32)) a0),(.sl (.int .u8) false a1)] []
noncomputable def qje (v1:List Int) (v6:Int) (b8:(List Int)) (b9:(List Int)) (h10:List Int):Option ((List Int)):=vr.sem ⟨[.code (cIn (cIn (qba (qGa (qba (qba (qha wg 95))))))), .inLoop (cIn (cIn (qba (qGa (qba (qba (qha wg 95))))))), .inBlock 0, .code (qba (qba (qba (qha wg 95))))],⟨[(1,(.one (.sl (.int .u8) false v1))),(2,(.one (.ptr (.arr 5 (.int .u32)) 8 []))),(4,(.one (.ptr (.arr 5 (.int .u32)) 9 []))),(5,(.one (.ref (.int .u32) 10 0 (we h10) true))),(6,(.one (.int .i64 v6)))],[(8,some (.box (.arr 5 (.int .u32)) b8)),(9,some (.box (.arr 5 (.int .u32)) b9)),(10,some (.row (.int .u32) true h10))],11⟩⟩
noncomputable def qcd (v7:Int) (b8:(List Int)) (b9:(List Int)) (h10:List Int):Option ((List Int)):=vr.sem ⟨[.code (cIn (cIn (qba (qGa (qba (qba (qba (qha wg 95)))))))), .inLoop (cIn (cIn (qba (qGa (qba (qba (qba (qha wg 95)))))))), .inBlock 2, .code (qba (qba (qba (qba (qha wg 95)))))],⟨[(2,(.one (.ptr (.arr 5 (.int .u32)) 8 []))),(4,(.one (.ptr (.arr 5 (.int .u32)) 9 []))),(5,(.one (.ref (.int .u32) 10 0 (we h10) true))),(7,(.one (.int .i64 v7)))],[(8,some (.box (.arr 5 (.int .u32)) b8)),(9,some (.box (.arr 5 (.int .u32)) b9)),(10,some (.row (.int .u32) true h10))],11⟩⟩
noncomputable def qbd (v9:Int) (b8:(List Int)) (b9:(List Int)) (h10:List Int) (b11:(List Int)):Option ((List Int)):=vr.sem ⟨[.code (cIn (cIn (qba (qGa (qba (qba (qba (qba (qba (qha wg 95)))))))))), .inLoop (cIn (cIn (qba (qGa (qba (qba (qba (qba (qba (qha wg 95)))))))))), .inBlock 4, .code (qba (qba (qba (qba (qba (qba (qha wg 95)))))))],⟨[(2,(.one (.ptr (.arr 5 (.int .u32)) 8 []))),(4,(.one (.ptr (.arr 5 (.int .u32)) 9 []))),(5,(.one (.ref (.int .u32) 10 0 (we h10) true))),(8,(.one (.ptr (.arr 5 (.int .u32)) 11 []))),(9,(.one (.int .i64 v9)))],[(8,some (.box (.arr 5 (.int .u32)) b8)),(9,some (.box (.arr 5 (.int .u32)) b9)),(10,some (.row (.int .u32) true h10)),(11,some (.box (.arr 5 (.int .u32)) b11))],12⟩⟩
noncomputable def qad (v12:Int) (b8:(List Int)) (b9:(List Int)) (b10:(List Int)):Option ((List Int)):=vr.sem ⟨[.code (cIn (cIn (qba (qGa (qba (qba (qba (qba (qba (qba (qha wg 95))))))))))), .inLoop (cIn (cIn (qba (qGa (qba (qba (qba (qba (qba (qba (qha wg 95))))))))))), .inBlock 6, .code (qba (qba (qba (qba (qba (qba (qba (qha wg 95))))))))],⟨[(2,(.one (.ptr (.arr 5 (.int .u32)) 8 []))),(4,(.one (.ptr (.arr 5 (.int .u32)) 9 []))),(8,(.one (.ptr (.arr 5 (.int .u32)) 10 []))),(12,(.one (.int .i64 v12)))],[(8,some (.box (.arr 5 (.int .u32)) b8)),(9,some (.box (.arr 5 (.int .u32)) b9)),(10,some (.box (.arr 5 (.int .u32)) b10))],11⟩⟩
theorem qBq (a0:(List Int)) (a1:List Int):qSi a0 a1=(
qje a1 (0:Int) a0 (wo 5 (0:Int)) []):=CE
theorem qsi (v1:List Int) (v6:Int) (b8:(List Int)) (b9:(List Int)) (h10:List Int):qje v1 v6 b8 b9 h10=(
if (decide (v6<(16:Int)))=true then
letI d:=(wd .i64 ((4:Int)*v6))
gd (0≤d)<|
letI e:=(wi (we v1))
gd (d<e)<|
letI f:=(wd .i64 (d+(1:Int)))
gd (0≤f)<|
gd (f<e)<|
letI g:=(wd .i64 (d+(2:Int)))
gd (0≤g)<|
gd (g<e)<|
letI i:=(wd .i64 (d+(3:Int)))
gd (0≤i)<|
gd (i<e)<|
letI c:=(h10++[(wd .u32 ((wd .u32 ((wd .u32 ((wd .u32 ((wd .u32 ((wd .u32 ((wd .u32 (wk v1 (wn d) (0:Int)))*(256:Int)))+(wd .u32 (wk v1 (wn f) (0:Int)))))*(256:Int)))+(wd .u32 (wk v1 (wn g) (0:Int)))))*(256:Int)))+(wd .u32 (wk v1 (wn i) (0:Int)))))])
gd ((we c)*4≤140737488355328)<|
qje v1 (wd .i64 (v6+(1:Int))) b8 b9 c
else
qcd (16:Int) b8 b9 h10):=SE
theorem qri (v7:Int) (b8:(List Int)) (b9:(List Int)) (h10:List Int):qcd v7 b8 b9 h10=(
if (decide (v7<(80:Int)))=true then
letI f:=(wd .i64 (v7 - (3:Int)))
gd (0≤f)<|
letI c:=(wi (we h10))
gd (f<c)<|
letI g:=(wd .i64 (v7 - (8:Int)))
gd (0≤g)<|
gd (g<c)<|
letI d:=(wd .i64 (v7 - (14:Int)))
gd (0≤d)<|
gd (d<c)<|
letI e:=(wd .i64 (v7 - (16:Int)))
gd (0≤e)<|
gd (e<c)<|
(qwe (qAb .u32 (qAb .u32 (qAb .u32 (wk h10 (0+(wn f)) (0:Int)) (wk h10 (0+(wn g)) (0:Int))) (wk h10 (0+(wn d)) (0:Int))) (wk h10 (0+(wn e)) (0:Int))) (1:Int)).bind fun r1=>
gd ((we (h10++[r1]))*4≤140737488355328)<|
qcd (wd .i64 (v7+(1:Int))) b8 b9 (h10++[r1])
else
qbd (0:Int) b8 b9 h10 b8):=SE
theorem qqi (v9:Int) (b8:(List Int)) (b9:(List Int)) (h10:List Int) (b11:(List Int)):qbd v9 b8 b9 h10 b11=(
if (decide (v9<(80:Int)))=true then
gd (0≤(1:Int))<|
gd ((1:Int)<(5:Int))<|
gd (0≤(2:Int))<|
gd ((2:Int)<(5:Int))<|
gd (0≤(3:Int))<|
gd ((3:Int)<(5:Int))<|
letI e:=(wk b11 3 (0:Int))
letI d:=(wk b11 2 (0:Int))
letI c:=(wk b11 1 (0:Int))
(qRi v9 c d e).bind fun r2=>
gd (0≤(0:Int))<|
gd ((0:Int)<(5:Int))<|
letI f:=(wk b11 0 (0:Int))
(qwe f (5:Int)).bind fun r3=>
gd (0≤(4:Int))<|
gd ((4:Int)<(5:Int))<|
gd (0≤v9)<|
gd (v9<(wi (we h10)))<|
gd (0≤(0:Int))<|
gd ((0:Int)<(5:Int))<|
gd (0≤(1:Int))<|
gd ((1:Int)<(5:Int))<|
(qwe c (30:Int)).bind fun r4=>
gd (0≤(2:Int))<|
gd ((2:Int)<(5:Int))<|
gd (0≤(3:Int))<|
gd ((3:Int)<(5:Int))<|
qbd (wd .i64 (v9+(1:Int))) b8 b9 h10 (wF (wF (wF (wF (wF (wo 5 (0:Int)) 0 (wd .u32 ((wd .u32 ((wd .u32 ((wd .u32 (r3+r2.1))+(wk b11 4 (0:Int))))+r2.2))+(wk h10 (0+(wn v9)) (0:Int))))) 1 f) 2 r4) 3 d) 4 e)
else
qad (0:Int) b8 b9 b11):=SE
theorem qIb (v12:Int) (b8:(List Int)) (b9:(List Int)) (b10:(List Int)):qad v12 b8 b9 b10=(
if (decide (v12<(5:Int)))=true then
gd (0≤v12)<|
gd (v12<(5:Int))<|
gd (0≤v12)<|
gd (v12<(5:Int))<|
gd (0≤v12)<|
gd (v12<(5:Int))<|
letI c:=(wn v12)
qad (wd .i64 (v12+(1:Int))) (wF b8 c (wd .u32 ((wk b8 c (0:Int))+(wk b10 c (0:Int))))) b9 b10
else
some (b8)):=SE
noncomputable def vi:FN:={f:=53,cuts:=[⟨(4,3),[2,3,4,5],false,false,[],[],[]⟩,⟨(9,3),[2,4,6,7],false,false,[],[],[]⟩],tab:=[SS vJ,SS vtb,SS vr],fm:=⟨true,[.val (.arr 20 (.int .u8)) []]⟩}
noncomputable def qKc (a0:List Int):Option ((List Int)):=vi.call [(.sl (.int .u8) false a0)] []
noncomputable def qof (v5:Int) (b8:(List Int)) (h9:List Int) (b10:(List Int)):Option ((List Int)):=vi.sem ⟨[.code (cIn (cIn (qba (qGa (qba (qba (qba (qha wg 53)))))))), .inLoop (cIn (cIn (qba (qGa (qba (qba (qba (qha wg 53)))))))), .inBlock 0, .code (qba (qba (qba (qba (qha wg 53)))))],⟨[(2,(.one (.ptr (.arr 20 (.int .u8)) 8 []))),(3,(.one (.ref (.int .u8) 9 0 (we h9) true))),(4,(.one (.ptr (.arr 5 (.int .u32)) 10 []))),(5,(.one (.int .i64 v5)))],[(8,some (.box (.arr 20 (.int .u8)) b8)),(9,some (.row (.int .u8) true h9)),(10,some (.box (.arr 5 (.int .u32)) b10))],11⟩⟩
noncomputable def qnf (v7:Int) (b8:(List Int)) (b9:(List Int)) (b10:(List Int)):Option ((List Int)):=vi.sem ⟨[.code (cIn (cIn (qba (qGa (qba (qba (qba (qba (qba (qha wg 53)))))))))), .inLoop (cIn (cIn (qba (qGa (qba (qba (qba (qba (qba (qha wg 53)))))))))), .inBlock 2, .code (qba (qba (qba (qba (qba (qba (qha wg 53)))))))],⟨[(2,(.one (.ptr (.arr 20 (.int .u8)) 8 []))),(4,(.one (.ptr (.arr 5 (.int .u32)) 9 []))),(6,(.one (.ptr (.arr 20 (.int .u8)) 10 []))),(7,(.one (.int .i64 v7)))],[(8,some (.box (.arr 20 (.int .u8)) b8)),(9,some (.box (.arr 5 (.int .u32)) b9)),(10,some (.box (.arr 20 (.int .u8)) b10))],11⟩⟩
theorem qlt (a0:List Int):qKc a0=(
gd ((we ([]++a0))*1≤140737488355328)<|
(qmg (wi (we a0))).bind fun r1=>
gd ((we (([]++a0)++r1))*1≤140737488355328)<|
(qVl).bind fun r2=>
qof (0:Int) (wo 20 (0:Int)) (([]++a0)++r1) r2):=CE
theorem qFj (v5:Int) (b8:(List Int)) (h9:List Int) (b10:(List Int)):qof v5 b8 h9 b10=(
letI d:=(wi (we h9))
if (decide (v5<d))=true then
gd (0≤v5)<|
letI c:=(wd .i64 (v5+(64:Int)))
gd (v5≤c)<|
gd (c≤d)<|
(qSi b10 (wK ((wn c) - (wn v5)) (wW (0+(wn v5)) h9))).bind fun r3=>
qof c b8 h9 r3
else
qnf (0:Int) b8 b10 (wo 20 (0:Int))):=SE
theorem qEj (v7:Int) (b8:(List Int)) (b9:(List Int)) (b10:(List Int)):qnf v7 b8 b9 b10=(
if (decide (v7<(20:Int)))=true then
gd ((4:Int)≠0)<|
letI d:=(wd .i64 (wFa v7 (4:Int)))
gd (0≤d)<|
gd (d<(5:Int))<|
gd ((4:Int)≠0)<|
letI c:=(wd .i64 ((24:Int) - (wd .i64 ((8:Int)*(wob v7 (4:Int))))))
gd (0≤c)<|
gd (0≤v7)<|
gd (v7<(20:Int))<|
qnf (wd .i64 (v7+(1:Int))) b8 b9 (wF b10 (wn v7) (wd .u8 (qcl .u32 (wk b9 (wn d) (0:Int)) c)))
else
some (b10)):=SE
noncomputable def vfb:FN:={f:=65,cuts:=[],tab:=[SS vi],fm:=⟨true,[.val qfa []]⟩}
noncomputable def qWg (a0:qva):Option (qaa):=vfb.call [(.agg qua (inj false qua a0))] []
theorem qto (a0:qva):qWg a0=(
(qKc a0.2.1).bind fun r1=>
some (a0.1,((wi (we a0.2.1)),(r1,())))):=CE
noncomputable def vRa:FN:={f:=35,cuts:=[⟨(5,3),[0,4,5],false,false,[],[],[]⟩],tab:=[SS vn,SS vfb],fm:=⟨true,[.val (.slice qfa) [.nw], .val (.int .i64) []]⟩}
noncomputable def qVk (a0:List qva):Option (List qaa×Int):=vRa.call [(.sl qua false a0)] []
noncomputable def qkf (v0:List qva) (v5:Int) (h8:List qaa):Option (List qaa×Int):=vRa.sem ⟨[.code (cIn (cIn (qba (qGa (qba (qba (qba (qha wg 35)))))))), .inLoop (cIn (cIn (qba (qGa (qba (qba (qba (qha wg 35)))))))), .inBlock 0, .code (qba (qba (qba (qba (qha wg 35)))))],⟨[(0,(.one (.sl qua false v0))),(4,(.one (.ref qfa 8 0 (we h8) true))),(5,(.one (.int .i64 v5)))],[(8,some (.row qfa true h8))],9⟩⟩
theorem qjt (a0:List qva):qVk a0=(
letI c:=(qji a0)
c.bind fun r1=>
if (r1 != (0:Int))=true then
c.bind fun r2=>
some ([],r2)
else
qkf a0 (0:Int) []):=CE
theorem qDj (v0:List qva) (v5:Int) (h8:List qaa):qkf v0 v5 h8=(
letI c:=(wi (we v0))
if (decide (v5<c))=true then
gd (0≤v5)<|
gd (v5<c)<|
(qWg (wk v0 (wn v5) (qqa qua))).bind fun r3=>
gd ((we (h8++[r3]))*48≤140737488355328)<|
qkf v0 (wd .i64 (v5+(1:Int))) (h8++[r3])
else
some (h8,(0:Int))):=SE
noncomputable def vAb:FN:={f:=51,cuts:=[],tab:=[],fm:=⟨true,[.val (.slice (.int .u8)) [.nw]]⟩}
noncomputable def qUl (a0:qia) (a1:Int):Option (List Int):=vAb.call [(.agg qwa (inj false qwa a0)),(.int .i64 a1)] []
theorem qGp (a0:qia) (a1:Int):qUl a0 a1=(
gd (0≤(8:Int))<|
some ([(66:Int),(76:Int),(70:Int),(1:Int),(wd .u8 a0.1),(wd .u8 (wX a0.2.1 (256:Int))),(wd .u8 a0.2.1),(wd .u8 a1)])):=CE
noncomputable def vna:FN:={f:=52,cuts:=[⟨(3,3),[0,3,4],false,false,[],[],[]⟩],tab:=[],fm:=⟨true,[.val (.slice (.int .u8)) [.nw]]⟩}
noncomputable def qki (a0:List qaa):Option (List Int):=vna.call [(.sl qfa false a0)] []
noncomputable def qUd (v0:List qaa) (v4:Int) (h8:List Int):Option (List Int):=vna.sem ⟨[.code (cIn (cIn (qba (qGa (qba (qba (qha wg 52))))))), .inLoop (cIn (cIn (qba (qGa (qba (qba (qha wg 52))))))), .inBlock 0, .code (qba (qba (qba (qha wg 52))))],⟨[(0,(.one (.sl qfa false v0))),(3,(.one (.ref (.int .u8) 8 0 (we h8) true))),(4,(.one (.int .i64 v4)))],[(8,some (.row (.int .u8) true h8))],9⟩⟩
theorem qMp (a0:List qaa):qki a0=(
qUd a0 (0:Int) []):=CE
theorem qoh (v0:List qaa) (v4:Int) (h8:List Int):qUd v0 v4 h8=(
letI g:=(wi (we v0))
if (decide (v4<g))=true then
gd (0≤v4)<|
gd (v4<g)<|
letI c:=(wk v0 (wn v4) (qqa qfa))
letI e:=(h8++[(wd .u8 (wi (wxb c.1)))])
gd ((we e)*1≤140737488355328)<|
letI i:=(e++(qld c.1))
gd ((we i)*1≤140737488355328)<|
gd (0≤(8:Int))<|
letI d:=(i++[(wd .u8 (wX c.2.1 (256:Int))),(wd .u8 c.2.1)])
gd ((we d)*1≤140737488355328)<|
letI f:=(d++(wK 20 (wW 0 c.2.2.1)))
gd ((we f)*1≤140737488355328)<|
qUd v0 (wd .i64 (v4+(1:Int))) f
else
some (h8)):=SE
noncomputable def vkb:FN:={f:=24,cuts:=[],tab:=[SS vAb,SS vna,SS vi],fm:=⟨true,[.val (.slice (.int .u8)) [.nw]]⟩}
noncomputable def qjf (a0:qia) (a1:List qaa):Option (List Int):=vkb.call [(.agg qwa (inj false qwa a0)),(.sl qfa false a1)] []
theorem qIp (a0:qia) (a1:List qaa):qjf a0 a1=(
(qUl a0 (wi (we a1))).bind fun r1=>
(qki a1).bind fun r2=>
gd ((we (r1++r2))*1≤140737488355328)<|
(qKc (r1++r2)).bind fun r3=>
letI c:=((r1++r2)++(wK 20 (wW 0 r3)))
gd ((we c)*1≤140737488355328)<|
some c):=CE
noncomputable def vqa:FN:={f:=109,cuts:=[],tab:=[],fm:=⟨true,[.val (.slice (.int .u8)) [.nw]]⟩}
noncomputable def qmf:Option (List Int):=vqa.call [] []
theorem qSp:qmf=(
some ([(183:Int),(98:Int),(105:Int),(116:Int),(108:Int),(111:Int),(102:Int),(116:Int),(32:Int),(98:Int),(108:Int),(107:Int),(10:Int)])):=CE
noncomputable def vZb:FN:={f:=146,cuts:=[],tab:=[],fm:=⟨true,[.val (.slice (.int .u8)) [.nw]]⟩}
noncomputable def qKg (a0:Int):Option (List Int):=vZb.call [(.int .i64 a0)] []
theorem qUr (a0:Int):qKg a0=(
gd (0≤(8:Int))<|
some ([(wd .u8 (wX a0 (256:Int))),(wd .u8 a0)])):=CE
noncomputable def vma:FN:={f:=108,cuts:=[],tab:=[SS vZb],fm:=⟨true,[.val (.slice (.int .u8)) [.nw]]⟩}
noncomputable def qlf (a0:qga):Option (List Int):=vma.call [(.agg qsa (inj false qsa a0))] []
theorem qPp (a0:qga):qlf a0=(
(qKg a0.2.2.1).bind fun r1=>
letI c:=([a0.1,(wd .u8 a0.2.1)]++r1)
gd ((we c)*1≤140737488355328)<|
(qKg a0.2.2.2.1).bind fun r2=>
gd ((we (c++r2))*1≤140737488355328)<|
(qKg a0.2.2.2.2.1).bind fun r3=>
letI d:=((c++r2)++r3)
gd ((we d)*1≤140737488355328)<|
some d):=CE
noncomputable def vib:FN:={f:=110,cuts:=[],tab:=[SS vma],fm:=⟨true,[.val (.slice (.int .u8)) [.nw]]⟩}
noncomputable def qpi (a0:qga):Option (List Int):=vib.call [(.agg qsa (inj false qsa a0))] []
theorem qRp (a0:qga):qpi a0=(
(qlf a0).bind fun r1=>
letI c:=(r1++(wK 20 (wW 0 a0.2.2.2.2.2.1)))
gd ((we c)*1≤140737488355328)<|
some c):=CE
noncomputable def vwb:FN:={f:=67,cuts:=[],tab:=[SS vqa,SS vib],fm:=⟨true,[.val (.slice (.int .u8)) [.nw]]⟩}
noncomputable def qli (a0:qca):Option (List Int):=vwb.call [(.agg qpa (inj false qpa a0))] []
theorem qNp (a0:qca):qli a0=(
(qmf).bind fun r1=>
(qpi a0.1).bind fun r2=>
gd ((we (r1++r2))*1≤140737488355328)<|
letI c:=((r1++r2)++a0.2.1)
gd ((we c)*1≤140737488355328)<|
some c):=CE
noncomputable def vva:FN:={f:=37,cuts:=[⟨(3,3),[1,5,6],false,false,[],[],[]⟩],tab:=[SS vwb],fm:=⟨true,[.val (.slice (.int .u8)) [.nw]]⟩}
noncomputable def qZf (a0:List Int) (a1:List qca):Option (List Int):=vva.call [(.sl (.int .u8) false a0),(.sl qpa false a1)] []
noncomputable def qge (v1:List qca) (v6:Int) (h8:List Int):Option (List Int):=vva.sem ⟨[.code (cIn (cIn (qba (qGa (qba (qba (qha wg 37))))))), .inLoop (cIn (cIn (qba (qGa (qba (qba (qha wg 37))))))), .inBlock 0, .code (qba (qba (qba (qha wg 37))))],⟨[(1,(.one (.sl qpa false v1))),(5,(.one (.ref (.int .u8) 8 0 (we h8) true))),(6,(.one (.int .i64 v6)))],[(8,some (.row (.int .u8) true h8))],9⟩⟩
theorem quq (a0:List Int) (a1:List qca):qZf a0 a1=(
gd ((we ([]++a0))*1≤140737488355328)<|
qge a1 (0:Int) ([]++a0)):=CE
theorem qbi (v1:List qca) (v6:Int) (h8:List Int):qge v1 v6 h8=(
letI c:=(wi (we v1))
if (decide (v6<c))=true then
gd (0≤v6)<|
gd (v6<c)<|
(qli (wk v1 (wn v6) (qqa qpa))).bind fun r1=>
gd ((we (h8++r1))*1≤140737488355328)<|
qge v1 (wd .i64 (v6+(1:Int))) (h8++r1)
else
some (h8)):=SE
noncomputable def vuc:FN:={f:=66,cuts:=[],tab:=[SS vma,SS vi],fm:=⟨true,[.val (.arr 20 (.int .u8)) []]⟩}
noncomputable def qni (a0:qga) (a1:List Int):Option ((List Int)):=vuc.call [(.agg qsa (inj false qsa a0)),(.sl (.int .u8) false a1)] []
theorem qkt (a0:qga) (a1:List Int):qni a0 a1=(
(qlf a0).bind fun r1=>
gd ((we (r1++a1))*1≤140737488355328)<|
(qKc (r1++a1)).bind fun r2=>
some (r2)):=CE
noncomputable def vDb:FN:={f:=36,cuts:=[],tab:=[SS vuc],fm:=⟨true,[.val qpa []]⟩}
noncomputable def qQi (a0:Int) (a1:Int) (a2:List Int) (a3:List Int):Option (qca):=vDb.call [(.int .i64 a0),(.int .i64 a1),(.sl (.int .u8) false a2),(.sl (.int .u8) false a3)] []
theorem qyq (a0:Int) (a1:Int) (a2:List Int) (a3:List Int):qQi a0 a1 a2 a3=(
gd ((we ([]++a2))*1≤140737488355328)<|
letI e:=(wo 20 (0:Int))
letI d:=(wi (we a3))
letI c:=(wi (we a2))
if (decide (d<c))=true then
gd ((we ([]++a3))*1≤140737488355328)<|
(qni ((2:Int),(a0,(a1,(c,(d,(e,())))))) a2).bind fun r1=>
some (((2:Int),(a0,(a1,(c,(d,(r1,())))))),(([]++a3),()))
else
(qni ((1:Int),(a0,(a1,(c,(c,(e,())))))) a2).bind fun r2=>
some (((1:Int),(a0,(a1,(c,(c,(r2,())))))),(([]++a2),()))):=CE
noncomputable def vN:FN:={f:=15,cuts:=[⟨(4,3),[0,3,5,6],false,false,[],[],[]⟩,⟨(7,7),[0,3,5,6,7],false,false,[],[],[]⟩],tab:=[SS vRa,SS vkb,SS vva,SS vDb],fm:=⟨true,[.val (.slice (.int .u8)) [.nw]]⟩}
noncomputable def qZb (a0:List qva):Option (List Int):=vN.call [(.sl qua false a0)] []
noncomputable def quc (v0:List qva) (v6:Int) (h8:List qaa) (h9:List qca):Option (List Int):=vN.sem ⟨[.code (cIn (cIn (qba (qGa (qba (qba (qba (qha wg 15)))))))), .inLoop (cIn (cIn (qba (qGa (qba (qba (qba (qha wg 15)))))))), .inBlock 0, .code (qba (qba (qba (qba (qha wg 15)))))],⟨[(0,(.one (.sl qua false v0))),(3,(.one (.ref qfa 8 0 (we h8) true))),(5,(.one (.ref qpa 9 0 (we h9) true))),(6,(.one (.int .i64 v6)))],[(8,some (.row qfa true h8)),(9,some (.row qpa true h9))],10⟩⟩
noncomputable def qyd (v0:List qva) (v6:Int) (v7:Int) (h8:List qaa) (h9:List qca):Option (List Int):=vN.sem ⟨[.code (cIn (cIn (qba (cIn (qGa (qba (cIn (cIn (qba (qGa (qba (qba (qba (qha wg 15)))))))))))))), .inLoop (cIn (cIn (qba (cIn (qGa (qba (cIn (cIn (qba (qGa (qba (qba (qba (qha wg 15)))))))))))))), .inBlock 2, .inBlock 1, .code (qba (qba (cIn (cIn (qba (qGa (qba (qba (qba (qha wg 15)))))))))), .inLoop (cIn (cIn (qba (qGa (qba (qba (qba (qha wg 15)))))))), .inBlock 0, .code (qba (qba (qba (qba (qha wg 15)))))],⟨[(0,(.one (.sl qua false v0))),(3,(.one (.ref qfa 8 0 (we h8) true))),(5,(.one (.ref qpa 9 0 (we h9) true))),(6,(.one (.int .i64 v6))),(7,(.one (.int .i64 v7)))],[(8,some (.row qfa true h8)),(9,some (.row qpa true h9))],10⟩⟩
theorem qxo (a0:List qva):qZb a0=(
(qVk a0).bind fun r1=>
quc a0 (0:Int) r1.1 []):=CE
theorem qEg (v0:List qva) (v6:Int) (h8:List qaa) (h9:List qca):quc v0 v6 h8 h9=(
if (decide (v6<(wi (we v0))))=true then
qyd v0 v6 (0:Int) h8 h9
else
(qjf ((0:Int),((16:Int),())) h8).bind fun r2=>
(qZf r2 h9).bind fun r3=>
some (r3)):=SE
theorem qDg (v0:List qva) (v6:Int) (v7:Int) (h8:List qaa) (h9:List qca):qyd v0 v6 v7 h8 h9=(
gd (0≤v6)<|
letI f:=(wi (we v0))
gd (v6<f)<|
letI g:=(wk v0 (wn v6) (qqa qua))
letI c:=(wi (we g.2.1))
if (decide (v7<c))=true then
gd (0≤v6)<|
gd (v6<f)<|
gd (0≤v6)<|
gd (v6<f)<|
gd (0≤v7)<|
letI d:=(wd .i64 (v7+(16:Int)))
gd (v7≤(if d<c then d else c))<|
gd ((if d<c then d else c)≤c)<|
letI e:=(wK ((wn (if d<c then d else c)) - (wn v7)) (wW (wn v7) g.2.1))
(qQi v6 v7 e e).bind fun r4=>
gd ((we (h9++[r4]))*88≤140737488355328)<|
qyd v0 v6 d h8 (h9++[r4])
else
quc v0 (wd .i64 (v6+(1:Int))) h8 h9):=SE
noncomputable def vlc:FN:={f:=56,cuts:=[],tab:=[],fm:=⟨true,[.val .bool []]⟩}
noncomputable def qSr (a0:List Int) (a1:List Int):Option (Bool):=vlc.call [(.sl (.int .u8) false a0),(.sl (.int .u8) false a1)] []
theorem qwm (a0:List Int) (a1:List Int):qSr a0 a1=(
some ((wO (qng a0))==(wO (qng a1)))):=CE
noncomputable def vSa:FN:={f:=28,cuts:=[],tab:=[SS vlc],fm:=⟨true,[.val .bool []]⟩}
noncomputable def qRf (a0:List Int) (a1:List Int):Option (Bool):=vSa.call [(.sl (.int .u8) false a0),(.sl (.int .u8) false a1)] []
theorem qTl (a0:List Int) (a1:List Int):qRf a0 a1=(
letI e:=(we a1)
letI d:=(wi (we a0))
letI c:=(wi e)
if (decide (d≥c))=true then
gd (0≤c)<|
gd (c≤d)<|
(qSr (wK e a0) a1).bind fun r1=>
some (r1)
else
some (false)):=CE
noncomputable def vob:FN:={f:=29,cuts:=[],tab:=[],fm:=⟨true,[.val (.int .i64) []]⟩}
noncomputable def qHm (a0:qia):Option (Int):=vob.call [(.agg qwa (inj false qwa a0))] []
theorem qDB (a0:qia):qHm a0=(
if (decide (a0.1<(0:Int)))=true then
some (2:Int)
else
if (decide (a0.1>(7:Int)))=true then
some (2:Int)
else
if (decide (a0.2.1<(16:Int)))=true then
some (2:Int)
else
if (decide (a0.2.1>(4096:Int)))=true then
some (2:Int)
else
some (0:Int)):=CE
noncomputable def vvb:FN:={f:=98,cuts:=[],tab:=[],fm:=⟨false,[.val (.slice (.int .u8)) [.pu], .err 26 .i64, .box 0 qUb [.pu]]⟩}
noncomputable def qRc (a1:Int) (b0:qLc):Option (List Int×Option Int×qLc):=vvb.call [(.ptr qZk 0 [.fst]),(.int .i64 a1)] [(0,(.box qUb (inj false qUb b0)))]
theorem qap (a1:Int) (b0:qLc):qRc a1 b0=(
letI e:=(wi (we b0.1.1))
if (decide ((wd .i64 (e - b0.1.2.1))<a1))=true then
some ([],((some (18:Int)),b0))
else
letI c:=(wd .i64 (b0.1.2.1+a1))
letI d:=(wd .i64 (c - a1))
gd (0≤d)<|
gd (d≤c)<|
gd (c≤e)<|
some ((wK ((wn c) - (wn d)) (wW (wn d) b0.1.1)),(none,((b0.1.1,(c,b0.1.2.2)),b0.2)))):=CE
noncomputable def vVa:FN:={f:=57,cuts:=[],tab:=[(SS vvb).dropping],fm:=⟨false,[.val qfa [], .err 26 .i64, .box 0 qUb [.pu]]⟩}
noncomputable def qfe (b0:qLc):Option (qaa×Option Int×qLc):=vVa.call [(.ptr qUb 0 [])] [(0,(.box qUb (inj false qUb b0)))]
theorem qKh (b0:qLc):qfe b0=(
(qRc (1:Int) b0).bind fun r1=>
letI g:=(wo 20 (0:Int))
if (not (Option.isNone r1.2.1))=true then
some ((wD,((0:Int),(g,()))),r1.2)
else
gd (0≤(0:Int))<|
letI i:=(wi (we r1.1))
gd ((0:Int)<i)<|
letI c:=(wd .i64 (wk r1.1 0 (0:Int)))
(qRc (wd .i64 (c+(22:Int))) r1.2.2).bind fun r2=>
if (not (Option.isNone r2.2.1))=true then
some ((wD,((0:Int),(g,()))),r2.2)
else
gd (0≤(0:Int))<|
gd ((0:Int)<i)<|
gd (0≤c)<|
letI e:=(wi (we r2.1))
gd (c≤e)<|
gd (0≤c)<|
gd (c<e)<|
gd (0≤(8:Int))<|
letI f:=(wd .i64 (c+(1:Int)))
gd (0≤f)<|
gd (f<e)<|
letI d:=(wd .i64 (c+(2:Int)))
gd (0≤d)<|
gd (d≤e)<|
letI j:=(wW (wn d) r2.1)
some (((qng (wK (wn c) r2.1)),((qlc .i64 (wd .i64 ((wd .i64 (wk r2.1 (wn c) (0:Int)))*(256:Int))) (wd .i64 (wk r2.1 (wn f) (0:Int)))),((qKb g 0 (wK (min (we j) 20) j)),()))),(none,r2.2.2))):=CE
noncomputable def vqb:FN:={f:=82,cuts:=[⟨(2,3),[0,5,6],false,false,[],[],[]⟩],tab:=[],fm:=⟨true,[.val .bool []]⟩}
noncomputable def qyn (a0:ByteArray):Option (Bool):=vqb.call [(.str a0)] []
noncomputable def qGg (v0:ByteArray) (v5:Int) (v6:Int):Option (Bool):=vqb.sem ⟨[.code (cIn (cIn (qba (qGa (qba (qha wg 82)))))), .inLoop (cIn (cIn (qba (qGa (qba (qha wg 82)))))), .inBlock 0, .code (qba (qba (qha wg 82)))],⟨[(0,(.one (.str v0))),(5,(.one (.int .i64 v5))),(6,(.one (.int .i64 v6)))],[],8⟩⟩
theorem qCv (a0:ByteArray):qyn a0=(
qGg a0 (wi (wxb a0)) (0:Int)):=CE
theorem qHk (v0:ByteArray) (v5:Int) (v6:Int):qGg v0 v5 v6=(
if (decide (v6<v5))=true then
gd (0≤v6)<|
gd (v6<(v0.size:Int))<|
letI d:=(qlw v0 (wn v6))
if (decide (d≤(32:Int)))=true then
some (false)
else
gd (0≤v6)<|
gd (v6<(v0.size:Int))<|
if (decide (d>(126:Int)))=true then
some (false)
else
qGg v0 v5 (wd .i64 (v6+(1:Int)))
else
letI c:=(wi (wxb v0))
if (decide (c>(0:Int)))=true then
some (decide (c≤(40:Int)))
else
some (false)):=SE
noncomputable def vTd:FN:={f:=91,cuts:=[⟨(3,3),[0,3,4],false,false,[],[],[]⟩],tab:=[],fm:=⟨true,[.val (.slice (.int .u8)) [.nw]]⟩}
noncomputable def qJF (a0:Int):Option (List Int):=vTd.call [(.int .i64 a0)] []
noncomputable def qcq (v0:Int) (v4:Int) (h8:List Int):Option (List Int):=vTd.sem ⟨[.code (cIn (cIn (qba (qGa (qba (qba (qha wg 91))))))), .inLoop (cIn (cIn (qba (qGa (qba (qba (qha wg 91))))))), .inBlock 0, .code (qba (qba (qba (qha wg 91))))],⟨[(0,(.one (.int .i64 v0))),(3,(.one (.ref (.int .u8) 8 0 (we h8) true))),(4,(.one (.int .i64 v4)))],[(8,some (.row (.int .u8) true h8))],9⟩⟩
theorem qPI (a0:Int):qJF a0=(
gd ((64:Int)≠0)<|
gd ((64:Int)≠0)<|
letI c:=(wob (wd .i64 ((119:Int) - (wob a0 (64:Int)))) (64:Int))
gd (0≤c)<|
gd (c*1≤140737488355328)<|
gd (c≤9223372036854775807)<|
letI d:=([(128:Int)]++(wo (wn c) (0:Int)))
gd ((we d)*1≤140737488355328)<|
qcq a0 (56:Int) d):=CE
theorem qjs (v0:Int) (v4:Int) (h8:List Int):qcq v0 v4 h8=(
if (decide (v4≥(0:Int)))=true then
gd (0≤v4)<|
letI c:=(h8++[(wd .u8 (qcl .u64 (wd .u64 ((wd .u64 v0)*(8:Int))) v4))])
gd ((we c)*1≤140737488355328)<|
qcq v0 (wd .i64 (v4 - (8:Int))) c
else
some (h8)):=SE
noncomputable def vOa:FN:={f:=132,cuts:=[],tab:=[],fm:=⟨true,[.part (.int .u8)]⟩}
noncomputable def qAf (a1:Int):Option (List Int×Nat×Nat):=vOa.call [.nil,(.int .i64 a1)] []
theorem qDm (a1:Int):qAf a1=(
if (decide (a1<(0:Int)))=true then
none
else
letI c:=(wd .i64 (a1 - (0:Int)))
if (decide (c>(0:Int)))=true then
gd (0≤(0:Int))<|
gd ((0:Int)≤(0:Int))<|
gd (0≤c)<|
gd (c*1≤140737488355328)<|
gd (c≤9223372036854775807)<|
letI d:=(wo (wn c) (0:Int))
letI e:=(we d)
gd (e*1≤140737488355328)<|
gd (0≤(0:Int))<|
gd ((0:Int)≤(wi e))<|
some (d,(0,0))
else
some ([],(0,0))):=CE
noncomputable def qkn (acc:List AV→Bool):Summ wg GT:=vOa.summ mixed acc false true
noncomputable def vm:FN:={f:=90,cuts:=[⟨(3,3),[0,3,9,10,11],false,false,[],[],[]⟩,⟨(11,3),[6,25,26,27],false,false,[],[],[]⟩],tab:=[qkn (fun _=>true)],fm:=⟨true,[.val (.slice (.int .u8)) [.pu]]⟩}
noncomputable def qFe (a0:List (List Int)):Option (List Int):=vm.call [(.sl (.slice (.int .u8)) false a0)] []
noncomputable def qGd (v0:List (List Int)) (v3:Int) (v9:List (List Int)) (v10:Int) (v11:Int):Option (List Int):=vm.sem ⟨[.code (cIn (cIn (qba (qGa (qba (qba (qha wg 90))))))), .inLoop (cIn (cIn (qba (qGa (qba (qba (qha wg 90))))))), .inBlock 0, .code (qba (qba (qba (qha wg 90))))],⟨[(0,(.one (.sl (.slice (.int .u8)) false v0))),(3,(.one (.int .i64 v3))),(9,(.one (.sl (.slice (.int .u8)) false v9))),(10,(.one (.int .i64 v10))),(11,(.one (.int .i64 v11)))],[],8⟩⟩
noncomputable def qcg (v6o:Nat) (v6n:Nat) (v25:List (List Int)) (v26:Int) (v27:Int) (h8:List Int):Option (List Int):=vm.sem ⟨[.code (cIn (cIn (qba (qGa (qba (qba (qba (qba (qha wg 90))))))))), .inLoop (cIn (cIn (qba (qGa (qba (qba (qba (qba (qha wg 90))))))))), .inBlock 2, .code (qba (qba (qba (qba (qba (qha wg 90))))))],⟨[(6,(.one (.ref (.int .u8) 8 v6o v6n false))),(25,(.one (.sl (.slice (.int .u8)) false v25))),(26,(.one (.int .i64 v26))),(27,(.one (.int .i64 v27)))],[(8,some (.row (.int .u8) true h8))],9⟩⟩
noncomputable def qFd (v25:List (List Int)) (v26:Int) (v27:Int) (h8:List Int):Option (List Int):=vm.sem ⟨[.code (cIn (cIn (qba (qGa (qba (qba (qba (qba (qha wg 90))))))))), .inLoop (cIn (cIn (qba (qGa (qba (qba (qba (qba (qha wg 90))))))))), .inBlock 2, .code (qba (qba (qba (qba (qba (qha wg 90))))))],⟨[(6,(.one (.ref (.int .u8) 8 0 (we h8) true))),(25,(.one (.sl (.slice (.int .u8)) false v25))),(26,(.one (.int .i64 v26))),(27,(.one (.int .i64 v27)))],[(8,some (.row (.int .u8) true h8))],9⟩⟩
theorem qbl (a0:List (List Int)):qFe a0=(
qGd a0 (0:Int) a0 (wi (we a0)) (0:Int)):=CE
theorem qTc (v0:List (List Int)) (v3:Int) (v9:List (List Int)) (v10:Int) (v11:Int):qGd v0 v3 v9 v10 v11=(
if (decide (v11<v10))=true then
gd (0≤v11)<|
gd (v11<(wi (we v9)))<|
letI c:=(wn v11)
if (decide ((wd .i64 (v3+(wi (we (wk v9 c [])))))<(0:Int)))=true then
none
else
qGd v0 (wd .i64 (v3+(wi (we (wk v9 c []))))) v9 v10 (wd .i64 (v11+(1:Int)))
else
(qAf v3).bind fun r1=>
qcg r1.2.1 r1.2.2 v0 (wi (we v0)) (0:Int) r1.1):=SE
theorem qIj (v6o:Nat) (v6n:Nat) (v25:List (List Int)) (v26:Int) (v27:Int) (h8:List Int):qcg v6o v6n v25 v26 v27 h8=(
letI c:=(wK v6n (wW v6o h8))
if (decide (v27<v26))=true then
gd (0≤v27)<|
gd (v27<(wi (we v25)))<|
letI d:=(wn v27)
gd ((we (c++(wk v25 d [])))*1≤140737488355328)<|
qFd v25 v26 (wd .i64 (v27+(1:Int))) (c++(wk v25 d []))
else
some c):=SE
theorem qSe (v25:List (List Int)) (v26:Int) (v27:Int) (h8:List Int):qFd v25 v26 v27 h8=(
if (decide (v27<v26))=true then
gd (0≤v27)<|
gd (v27<(wi (we v25)))<|
letI c:=(wn v27)
gd ((we (h8++(wk v25 c [])))*1≤140737488355328)<|
qFd v25 v26 (wd .i64 (v27+(1:Int))) (h8++(wk v25 c []))
else
some (h8)):=SE
noncomputable def vCa:FN:={f:=133,cuts:=[],tab:=[],fm:=⟨true,[.val (.int .u32) []]⟩}
noncomputable def qvb (a0:Int) (a1:Int):Option (Int):=vCa.call [(.int .u32 a0),(.int .i64 a1)] []
theorem qkm (a0:Int) (a1:Int):qvb a0 a1=(
letI c:=(qeb .u64 (wd .u64 a1) (31:Int))
gd (0≤c)<|
letI d:=(wd .u64 ((32:Int) - c))
gd (0≤d)<|
some (qlc .u32 (wd .u32 (qLw .u32 a0 c)) (qcl .u32 a0 d))):=CE
noncomputable def vve:FN:={f:=134,cuts:=[],tab:=[],fm:=⟨true,[.val (.int .u32) []]⟩}
noncomputable def qKF (a0:Int) (a1:Int) (a2:Int) (a3:Int):Option (Int):=vve.call [(.int .i64 a0),(.int .u32 a1),(.int .u32 a2),(.int .u32 a3)] []
theorem qQI (a0:Int) (a1:Int) (a2:Int) (a3:Int):qKF a0 a1 a2 a3=(
if (a0==(0:Int))=true then
some (qAb .u32 a3 (qeb .u32 a1 (qAb .u32 a2 a3)))
else
if (a0==(2:Int))=true then
some (qlc .u32 (qeb .u32 a1 a2) (qeb .u32 a3 (qlc .u32 a1 a2)))
else
some (qAb .u32 (qAb .u32 a1 a2) a3)):=CE
noncomputable def vwd:FN:={f:=92,cuts:=[⟨(3,3),[2,4,5,16,17,18],false,false,[],[],[]⟩,⟨(9,3),[2,4,5,8,9,10,11,12,45],false,false,[],[],[]⟩],tab:=[SS vCa,SS vve],fm:=⟨true,[.val (.arr 5 (.int .u32)) []]⟩}
noncomputable def quK (a0:(List Int)) (a1:List Int):Option ((List Int)):=vwd.call [(.agg (.arr 5 (.int .u32)) a0),(.sl (.int .u8) false a1)] []
noncomputable def qyk (v16:List Int) (v17:Int) (v18:Int) (b8:(List Int)) (b9:(List Int)) (b10:(List Int)):Option ((List Int)):=vwd.sem ⟨[.code (cIn (cIn (qba (qGa (qba (qba (qha wg 92))))))), .inLoop (cIn (cIn (qba (qGa (qba (qba (qha wg 92))))))), .inBlock 0, .code (qba (qba (qba (qha wg 92))))],⟨[(2,(.one (.ptr (.arr 5 (.int .u32)) 8 []))),(4,(.one (.ptr (.arr 5 (.int .u32)) 9 []))),(5,(.one (.ptr (.arr 16 (.int .u32)) 10 []))),(16,(.one (.sl (.int .u8) false v16))),(17,(.one (.int .i64 v17))),(18,(.one (.int .i64 v18)))],[(8,some (.box (.arr 5 (.int .u32)) b8)),(9,some (.box (.arr 5 (.int .u32)) b9)),(10,some (.box (.arr 16 (.int .u32)) b10))],11⟩⟩
noncomputable def qHo (v8:Int) (v9:Int) (v10:Int) (v11:Int) (v12:Int) (v45:Int) (b8:(List Int)) (b9:(List Int)) (b10:(List Int)):Option ((List Int)):=vwd.sem ⟨[.code (cIn (cIn (qba (qGa (qba (qba (qba (qba (qha wg 92))))))))), .inLoop (cIn (cIn (qba (qGa (qba (qba (qba (qba (qha wg 92))))))))), .inBlock 2, .code (qba (qba (qba (qba (qba (qha wg 92))))))],⟨[(2,(.one (.ptr (.arr 5 (.int .u32)) 8 []))),(4,(.one (.ptr (.arr 5 (.int .u32)) 9 []))),(5,(.one (.ptr (.arr 16 (.int .u32)) 10 []))),(8,(.one (.int .u32 v8))),(9,(.one (.int .u32 v9))),(10,(.one (.int .u32 v10))),(11,(.one (.int .u32 v11))),(12,(.one (.int .u32 v12))),(45,(.one (.int .i64 v45)))],[(8,some (.box (.arr 5 (.int .u32)) b8)),(9,some (.box (.arr 5 (.int .u32)) b9)),(10,some (.box (.arr 16 (.int .u32)) b10))],11⟩⟩
theorem qtK (a0:(List Int)) (a1:List Int):quK a0 a1=(
gd (0≤(64:Int))<|
gd ((64:Int)≤(wi (we a1)))<|
letI c:=(wK 64 a1)
qyk c (wi (we c)) (0:Int) a0 (wo 5 (0:Int)) (wo 16 (0:Int))):=CE
theorem qGu (v16:List Int) (v17:Int) (v18:Int) (b8:(List Int)) (b9:(List Int)) (b10:(List Int)):qyk v16 v17 v18 b8 b9 b10=(
if (decide (v18<v17))=true then
gd (0≤v18)<|
gd (v18<(wi (we v16)))<|
gd ((4:Int)≠0)<|
gd ((4:Int)≠0)<|
letI c:=(wd .i64 (wFa v18 (4:Int)))
gd (0≤c)<|
gd (c<(16:Int))<|
gd (0≤(8:Int))<|
gd (0≤c)<|
gd (c<(16:Int))<|
qyk v16 v17 (wd .i64 (v18+(1:Int))) b8 b9 (wF b10 (wn c) (qlc .u32 (wd .u32 ((wk b10 (wn c) (0:Int))*(256:Int))) (wd .u32 (wk v16 (wn v18) (0:Int)))))
else
gd (0≤(0:Int))<|
gd ((0:Int)<(5:Int))<|
gd (0≤(1:Int))<|
gd ((1:Int)<(5:Int))<|
gd (0≤(2:Int))<|
gd ((2:Int)<(5:Int))<|
gd (0≤(3:Int))<|
gd ((3:Int)<(5:Int))<|
gd (0≤(4:Int))<|
gd ((4:Int)<(5:Int))<|
qHo (wk b8 0 (0:Int)) (wk b8 1 (0:Int)) (wk b8 2 (0:Int)) (wk b8 3 (0:Int)) (wk b8 4 (0:Int)) (0:Int) b8 b9 b10):=SE
theorem qFu (v8:Int) (v9:Int) (v10:Int) (v11:Int) (v12:Int) (v45:Int) (b8:(List Int)) (b9:(List Int)) (b10:(List Int)):qHo v8 v9 v10 v11 v12 v45 b8 b9 b10=(
if (decide (v45<(80:Int)))=true then
letI m:=(wd .i64 (v45+(1:Int)))
letI l:=(qvb v8 (5:Int))
letI k:=(qvb v9 (30:Int))
letI d:=(wob v45 (16:Int))
letI j:=(wk b10 (wn d) (0:Int))
letI c:=(wd .i64 (wFa v45 (20:Int)))
letI o:=(qKF c v9 v10 v11)
letI i:=(wk G_quarters (wn c) (0:Int))
if (decide (v45≥(16:Int)))=true then
gd ((16:Int)≠0)<|
gd ((16:Int)≠0)<|
letI e:=(wob (wd .i64 (v45+(13:Int))) (16:Int))
gd (0≤e)<|
gd (e<(16:Int))<|
gd ((16:Int)≠0)<|
letI f:=(wob (wd .i64 (v45+(8:Int))) (16:Int))
gd (0≤f)<|
gd (f<(16:Int))<|
gd ((16:Int)≠0)<|
letI g:=(wob (wd .i64 (v45+(2:Int))) (16:Int))
gd (0≤g)<|
gd (g<(16:Int))<|
gd ((16:Int)≠0)<|
gd (0≤d)<|
gd (d<(16:Int))<|
(qvb (qAb .u32 (qAb .u32 (qAb .u32 (wk b10 (wn e) (0:Int)) (wk b10 (wn f) (0:Int))) (wk b10 (wn g) (0:Int))) j) (1:Int)).bind fun r1=>
gd (0≤d)<|
gd (d<(16:Int))<|
l.bind fun r2=>
gd ((20:Int)≠0)<|
o.bind fun r3=>
gd ((20:Int)≠0)<|
gd (0≤c)<|
gd (c<(4:Int))<|
gd ((16:Int)≠0)<|
gd (0≤d)<|
gd (d<(16:Int))<|
k.bind fun r4=>
letI n:=(wF b10 (wn d) r1)
qHo (wd .u32 ((wd .u32 ((wd .u32 ((wd .u32 (r2+r3))+v12))+i))+(wk n (wn d) (0:Int)))) v8 r4 v10 v11 m b8 b9 n
else
l.bind fun r5=>
gd ((20:Int)≠0)<|
o.bind fun r6=>
gd ((20:Int)≠0)<|
gd (0≤c)<|
gd (c<(4:Int))<|
gd ((16:Int)≠0)<|
gd (0≤d)<|
gd (d<(16:Int))<|
k.bind fun r7=>
qHo (wd .u32 ((wd .u32 ((wd .u32 ((wd .u32 (r5+r6))+v12))+i))+j)) v8 r7 v10 v11 m b8 b9 b10
else
gd (0≤(0:Int))<|
gd ((0:Int)<(5:Int))<|
gd (0≤(1:Int))<|
gd ((1:Int)<(5:Int))<|
gd (0≤(2:Int))<|
gd ((2:Int)<(5:Int))<|
gd (0≤(3:Int))<|
gd ((3:Int)<(5:Int))<|
gd (0≤(4:Int))<|
gd ((4:Int)<(5:Int))<|
some (wF (wF (wF (wF (wF (wo 5 (0:Int)) 0 (wd .u32 ((wk b8 0 (0:Int))+v8))) 1 (wd .u32 ((wk b8 1 (0:Int))+v9))) 2 (wd .u32 ((wk b8 2 (0:Int))+v10))) 3 (wd .u32 ((wk b8 3 (0:Int))+v11))) 4 (wd .u32 ((wk b8 4 (0:Int))+v12)))):=SE
noncomputable def vBa:FN:={f:=47,cuts:=[⟨(5,3),[2,4,5],false,false,[],[],[]⟩,⟨(9,3),[2,27,28],false,false,[],[],[]⟩],tab:=[SS vTd,SS vm,SS vwd],fm:=⟨true,[.val (.arr 20 (.int .u8)) [], .val (.int .i64) []]⟩}
noncomputable def qAt (a0:List Int):Option ((List Int)×Int):=vBa.call [(.sl (.int .u8) false a0)] []
noncomputable def qeq (v5:List Int) (b8:(List Int)) (b9:(List Int)):Option ((List Int)×Int):=vBa.sem ⟨[.code (cIn (cIn (qba (qGa (qba (qba (qba (qha wg 47)))))))), .inLoop (cIn (cIn (qba (qGa (qba (qba (qba (qha wg 47)))))))), .inBlock 0, .code (qba (qba (qba (qba (qha wg 47)))))],⟨[(2,(.one (.ptr (.arr 20 (.int .u8)) 8 []))),(4,(.one (.ptr (.arr 5 (.int .u32)) 9 []))),(5,(.one (.sl (.int .u8) true v5)))],[(8,some (.box (.arr 20 (.int .u8)) b8)),(9,some (.box (.arr 5 (.int .u32)) b9))],10⟩⟩
noncomputable def qdq (v27:(List Int)) (v28:Int) (b8:(List Int)):Option ((List Int)×Int):=vBa.sem ⟨[.code (cIn (cIn (qba (qGa (qba (qba (qba (qba (qha wg 47))))))))), .inLoop (cIn (cIn (qba (qGa (qba (qba (qba (qba (qha wg 47))))))))), .inBlock 2, .code (qba (qba (qba (qba (qba (qha wg 47))))))],⟨[(2,(.one (.ptr (.arr 20 (.int .u8)) 8 []))),(27,(.one (.agg (.arr 5 (.int .u32)) v27))),(28,(.one (.int .i64 v28)))],[(8,some (.box (.arr 20 (.int .u8)) b8))],9⟩⟩
theorem qRI (a0:List Int):qAt a0=(
letI d:=(wi (we a0))
letI c:=(wo 20 (0:Int))
if (decide (d>(20000:Int)))=true then
some (c,(4:Int))
else
(qJF d).bind fun r1=>
(qFe [a0,r1]).bind fun r2=>
qeq r2 c (wF (wF (wF (wF (wF (wo 5 (0:Int)) 0 (1732584193:Int)) 1 (4023233417:Int)) 2 (2562383102:Int)) 3 (271733878:Int)) 4 (3285377520:Int))):=CE
theorem qls (v5:List Int) (b8:(List Int)) (b9:(List Int)):qeq v5 b8 b9=(
letI c:=(wi (we v5))
if (decide (c>(0:Int)))=true then
(quK b9 v5).bind fun r3=>
gd (0≤(64:Int))<|
gd ((64:Int)≤c)<|
qeq (wW 64 v5) b8 r3
else
qdq b9 (0:Int) b8):=SE
theorem qks (v27:(List Int)) (v28:Int) (b8:(List Int)):qdq v27 v28 b8=(
if (decide (v28<(5:Int)))=true then
gd (0≤v28)<|
gd (v28<(5:Int))<|
gd (0≤(24:Int))<|
gd (0≤(16:Int))<|
gd (0≤(8:Int))<|
letI c:=(wd .i64 ((4:Int)*v28))
gd (0≤c)<|
gd (c<(20:Int))<|
letI e:=(wd .i64 (c+(1:Int)))
gd (0≤e)<|
gd (e<(20:Int))<|
letI f:=(wd .i64 (c+(2:Int)))
gd (0≤f)<|
gd (f<(20:Int))<|
letI g:=(wd .i64 (c+(3:Int)))
gd (0≤g)<|
gd (g<(20:Int))<|
letI d:=(wk v27 (wn v28) (0:Int))
qdq v27 (wd .i64 (v28+(1:Int))) (wF (wF (wF (wF b8 (wn c) (wd .u8 (wX d (16777216:Int)))) (wn e) (wd .u8 (wX d (65536:Int)))) (wn f) (wd .u8 (wX d (256:Int)))) (wn g) (wd .u8 d))
else
some (b8,(0:Int))):=SE
noncomputable def vVc:FN:={f:=83,cuts:=[],tab:=[SS vBa],fm:=⟨true,[.val (.arr 20 (.int .u8)) []]⟩}
noncomputable def qzn (a0:List Int):Option ((List Int)):=vVc.call [(.sl (.int .u8) false a0)] []
theorem qDv (a0:List Int):qzn a0=(
(qAt a0).bind fun r1=>
some (r1.1)):=CE
noncomputable def vRb:FN:={f:=84,cuts:=[⟨(3,3),[3,7,8,9],false,false,[],[],[]⟩],tab:=[],fm:=⟨true,[.val .bool []]⟩}
noncomputable def qZo (a0:List ByteArray):Option (Bool):=vRb.call [(.sl .str false a0)] []
noncomputable def qJh (v7:List ByteArray) (v8:Int) (v9:Int) (m8:List (ByteArray×Bool)):Option (Bool):=vRb.sem ⟨[.code (cIn (cIn (qba (qGa (qba (qba (qha wg 84))))))), .inLoop (cIn (cIn (qba (qGa (qba (qba (qha wg 84))))))), .inBlock 0, .code (qba (qba (qba (qha wg 84))))],⟨[(3,(.one (.mapr 8))),(7,(.one (.sl .str false v7))),(8,(.one (.int .i64 v8))),(9,(.one (.int .i64 v9)))],[(8,some (.map .str .bool m8))],9⟩⟩
theorem qJx (a0:List ByteArray):qZo a0=(
qJh a0 (wi (we a0)) (0:Int) []):=CE
theorem qyl (v7:List ByteArray) (v8:Int) (v9:Int) (m8:List (ByteArray×Bool)):qJh v7 v8 v9 m8=(
if (decide (v9<v8))=true then
gd (0≤v9)<|
gd (v9<(wi (we v7)))<|
letI c:=(wk v7 (wn v9) wD)
if (Option.getD (qAv (peq .str) c m8) false)=true then
some (true)
else
qJh v7 v8 (wd .i64 (v9+(1:Int))) (qZD (peq .str) c true m8)
else
some (false)):=SE
noncomputable def vG:FN:={f:=43,cuts:=[⟨(6,3),[3,4,10,11,12],false,false,[],[],[]⟩],tab:=[SS vqb,SS vVc,SS vRb],fm:=⟨true,[.val (.int .i64) []]⟩}
noncomputable def qKf (a0:List qaa):Option (Int):=vG.call [(.sl qfa false a0)] []
noncomputable def qJf (v3:Int) (v10:List qaa) (v11:Int) (v12:Int) (h8:List ByteArray):Option (Int):=vG.sem ⟨[.code (cIn (cIn (qba (qGa (qba (qba (qba (qba (qha wg 43))))))))), .inLoop (cIn (cIn (qba (qGa (qba (qba (qba (qba (qha wg 43))))))))), .inBlock 0, .code (qba (qba (qba (qba (qba (qha wg 43))))))],⟨[(3,(.one (.int .i64 v3))),(4,(.one (.ref .str 8 0 (we h8) true))),(10,(.one (.sl qfa false v10))),(11,(.one (.int .i64 v11))),(12,(.one (.int .i64 v12)))],[(8,some (.row .str true h8))],9⟩⟩
theorem qLx (a0:List qaa):qKf a0=(
letI c:=(wi (we a0))
if (decide (c>(16:Int)))=true then
some (4:Int)
else
qJf (0:Int) a0 c (0:Int) []):=CE
theorem qAl (v3:Int) (v10:List qaa) (v11:Int) (v12:Int) (h8:List ByteArray):qJf v3 v10 v11 v12 h8=(
if (decide (v12<v11))=true then
gd (0≤v12)<|
gd (v12<(wi (we v10)))<|
letI c:=(wk v10 (wn v12) (qqa qfa))
(qyn c.1).bind fun r1=>
if (not r1)=true then
some (8:Int)
else
if (decide (c.2.1<(0:Int)))=true then
some (8:Int)
else
if (decide (c.2.1>(8192:Int)))=true then
some (8:Int)
else
letI f:=(we (h8++[c.1]))
letI e:=(wd .i64 (v3+c.2.1))
letI d:=(wd .i64 (v12+(1:Int)))
if (c.2.1==(0:Int))=true then
(qzn []).bind fun r2=>
if (not (peq (.arr 20 (.int .u8)) c.2.2.1 r2))=true then
some (8:Int)
else
gd (f*16≤140737488355328)<|
qJf e v10 v11 d (h8++[c.1])
else
gd (f*16≤140737488355328)<|
qJf e v10 v11 d (h8++[c.1])
else
if (decide (v3>(8192:Int)))=true then
some (4:Int)
else
(qZo h8).bind fun r3=>
if r3=true then
some (14:Int)
else
some (0:Int)):=SE
noncomputable def vac:FN:={f:=30,cuts:=[⟨(8,3),[7,8,27,28],false,false,[],[],[]⟩],tab:=[(SS vVa).dropping,qAG (fun _=>true),SS vG],fm:=⟨true,[.val (.slice qfa) [.nw], .val (.int .i64) [], .val (.int .i64) []]⟩}
noncomputable def qzr (a0:List Int) (a1:Int):Option (List qaa×Int×Int):=vac.call [(.sl (.int .u8) false a0),(.int .i64 a1)] []
noncomputable def qYi (v27:Int) (v28:Int) (b8:qLc) (h9:List qaa):Option (List qaa×Int×Int):=vac.sem ⟨[.code (cIn (cIn (qba (qGa (qba (qba (qba (qba (qha wg 30))))))))), .inLoop (cIn (cIn (qba (qGa (qba (qba (qba (qba (qha wg 30))))))))), .inBlock 1, .code (qba (qba (qba (qba (qba (qha wg 30))))))],⟨[(7,(.one (.ptr qUb 8 []))),(8,(.one (.ref qfa 9 0 (we h9) true))),(27,(.one (.int .i64 v27))),(28,(.one (.int .i64 v28)))],[(8,some (.box qUb (inj false qUb b8))),(9,some (.row qfa true h9))],10⟩⟩
theorem qJz (a0:List Int) (a1:Int):qzr a0 a1=(
if (decide (a1<(0:Int)))=true then
some ([],((0:Int),(2:Int)))
else
if (decide (a1>(16:Int)))=true then
some ([],((0:Int),(2:Int)))
else
if (decide ((wi (we a0))>(50000:Int)))=true then
some ([],((0:Int),(4:Int)))
else
qYi a1 (0:Int) ((a0,((0:Int),())),()) []):=CE
theorem qLm (v27:Int) (v28:Int) (b8:qLc) (h9:List qaa):qYi v27 v28 b8 h9=(
if (decide (v28<v27))=true then
(qfe b8).bind fun r1=>
(qWm r1.2.1 (0:Int)).bind fun r2=>
if r2.1=true then
some ([],((0:Int),r2.2))
else
gd ((we (h9++[r1.1]))*48≤140737488355328)<|
qYi v27 (wd .i64 (v28+(1:Int))) r1.2.2 (h9++[r1.1])
else
(qKf h9).bind fun r3=>
if (r3 != (0:Int))=true then
some ([],((0:Int),(12:Int)))
else
some (h9,(b8.1.2.1,(0:Int)))):=SE
noncomputable def vUb:FN:={f:=59,cuts:=[⟨(6,3),[5,13,14,15],false,false,[],[],[]⟩],tab:=[SS vG],fm:=⟨true,[.val (.slice (.int .u8)) [.nw], .val (.int .i64) []]⟩}
noncomputable def qbp (a0:List qaa):Option (List Int×Int):=vUb.call [(.sl qfa false a0)] []
noncomputable def qLh (v13:List qaa) (v14:Int) (v15:Int) (h8:List Int):Option (List Int×Int):=vUb.sem ⟨[.code (cIn (cIn (qba (qGa (qba (qba (qba (qha wg 59)))))))), .inLoop (cIn (cIn (qba (qGa (qba (qba (qba (qha wg 59)))))))), .inBlock 0, .code (qba (qba (qba (qba (qha wg 59)))))],⟨[(5,(.one (.ref (.int .u8) 8 0 (we h8) true))),(13,(.one (.sl qfa false v13))),(14,(.one (.int .i64 v14))),(15,(.one (.int .i64 v15)))],[(8,some (.row (.int .u8) true h8))],9⟩⟩
theorem qKx (a0:List qaa):qbp a0=(
(qKf a0).bind fun r1=>
if (r1 != (0:Int))=true then
some ([],r1)
else
qLh a0 (wi (we a0)) (0:Int) []):=CE
theorem qzl (v13:List qaa) (v14:Int) (v15:Int) (h8:List Int):qLh v13 v14 v15 h8=(
if (decide (v15<v14))=true then
gd (0≤v15)<|
gd (v15<(wi (we v13)))<|
letI c:=(wk v13 (wn v15) (qqa qfa))
letI e:=(h8++[(wd .u8 (wi (wxb c.1)))])
gd ((we e)*1≤140737488355328)<|
letI g:=(e++(qld c.1))
gd ((we g)*1≤140737488355328)<|
gd (0≤(8:Int))<|
letI d:=(g++[(wd .u8 (wX c.2.1 (256:Int))),(wd .u8 c.2.1)])
gd ((we d)*1≤140737488355328)<|
letI f:=(d++(wK 20 (wW 0 c.2.2.1)))
gd ((we f)*1≤140737488355328)<|
qLh v13 v14 (wd .i64 (v15+(1:Int))) f
else
some (h8,(0:Int))):=SE
noncomputable def vWc:FN:={f:=31,cuts:=[],tab:=[SS vob,SS vUb,SS vBa],fm:=⟨true,[.val (.slice (.int .u8)) [.nw], .val (.int .i64) []]⟩}
noncomputable def qxs (a0:qia) (a1:List qaa):Option (List Int×Int):=vWc.call [(.agg qwa (inj false qwa a0)),(.sl qfa false a1)] []
theorem qSD (a0:qia) (a1:List qaa):qxs a0 a1=(
(qHm a0).bind fun r1=>
if (r1 != (0:Int))=true then
some ([],r1)
else
(qbp a1).bind fun r2=>
if (r2.2 != (0:Int))=true then
some ([],r2.2)
else
gd (0≤(8:Int))<|
letI c:=([(66:Int),(76:Int),(70:Int),(1:Int),(wd .u8 a0.1),(wd .u8 (wX a0.2.1 (256:Int))),(wd .u8 a0.2.1),(wd .u8 (wi (we a1)))]++r2.1)
gd ((we c)*1≤140737488355328)<|
(qAt c).bind fun r3=>
letI d:=(c++(wK 20 (wW 0 r3.1)))
gd ((we d)*1≤140737488355328)<|
some (d,(0:Int))):=CE
noncomputable def vpe:FN:={f:=13,cuts:=[],tab:=[SS vSa,SS vob,SS vac,SS vWc],fm:=⟨true,[.val qwa [], .val (.slice qfa) [.nw], .val (.int .i64) [], .val (.int .i64) []]⟩}
noncomputable def qYx (a0:List Int):Option (qia×List qaa×Int×Int):=vpe.call [(.sl (.int .u8) false a0)] []
theorem qkE (a0:List Int):qYx a0=(
letI d:=(wi (we a0))
if (decide (d>(50000:Int)))=true then
some (((0:Int),((0:Int),())),([],((0:Int),(4:Int))))
else
if (decide (d<(8:Int)))=true then
some (((0:Int),((0:Int),())),([],((0:Int),(18:Int))))
else
gd (0≤(4:Int))<|
gd ((4:Int)<d)<|
gd (0≤(5:Int))<|
gd ((5:Int)<d)<|
gd (0≤(8:Int))<|
gd (0≤(6:Int))<|
gd ((6:Int)<d)<|
(qRf a0 [(66:Int),(76:Int),(70:Int),(1:Int)]).bind fun r1=>
if (not r1)=true then
some (((0:Int),((0:Int),())),([],((0:Int),(12:Int))))
else
letI e:=(wd .i64 (wk a0 4 (0:Int)))
letI c:=(qlc .i64 (wd .i64 ((wd .i64 (wk a0 5 (0:Int)))*(256:Int))) (wd .i64 (wk a0 6 (0:Int))))
(qHm (e,(c,()))).bind fun r2=>
if (r2 != (0:Int))=true then
some (((0:Int),((0:Int),())),([],((0:Int),(12:Int))))
else
gd (0≤(7:Int))<|
gd ((7:Int)<d)<|
letI f:=(wk a0 7 (0:Int))
if (decide (f>(16:Int)))=true then
some (((0:Int),((0:Int),())),([],((0:Int),(12:Int))))
else
gd (0≤(8:Int))<|
gd ((8:Int)≤d)<|
gd (0≤(7:Int))<|
gd ((7:Int)<d)<|
(qzr (wW 8 a0) (wd .i64 f)).bind fun r3=>
if (r3.2.2 != (0:Int))=true then
some (((0:Int),((0:Int),())),([],((0:Int),r3.2.2)))
else
(qxs (e,(c,())) r3.1).bind fun r4=>
if (decide ((wd .i64 ((wd .i64 (d - (8:Int))) - r3.2.1))<(20:Int)))=true then
some (((0:Int),((0:Int),())),([],((0:Int),(18:Int))))
else
(qRf a0 r4.1).bind fun r5=>
if (not r5)=true then
some (((0:Int),((0:Int),())),([],((0:Int),(22:Int))))
else
some ((e,(c,())),(r3.1,((wi (we r4.1)),(0:Int))))):=CE
noncomputable def vUc:FN:={f:=142,cuts:=[],tab:=[],fm:=⟨true,[.val .bool []]⟩}
noncomputable def qgs (a0:Int):Option (Bool):=vUc.call [(.int .i64 a0)] []
theorem qlv (a0:Int):qgs a0=(
some (decide (a0<(0:Int)))):=CE
noncomputable def vO:FN:={f:=177,cuts:=[⟨(2,3),[0,1,7,8],false,false,[],[],[]⟩],tab:=[SS vUc],fm:=⟨true,[.val (.int .i64) []]⟩}
noncomputable def qle (a0:List Int):Option (Int):=vO.call [(.sl (.int .i64) false a0),(.func 142 [])] []
noncomputable def qnc (v0:List Int) (v7:Int) (v8:Int):Option (Int):=vO.sem ⟨[.code (cIn (cIn (qba (qGa (qba (qha wg 177)))))), .inLoop (cIn (cIn (qba (qGa (qba (qha wg 177)))))), .inBlock 0, .code (qba (qba (qha wg 177)))],⟨[(0,(.one (.sl (.int .i64) false v0))),(1,(.one (.func 142 []))),(7,(.one (.int .i64 v7))),(8,(.one (.int .i64 v8)))],[],8⟩⟩
theorem qwk (a0:List Int):qle a0=(
qnc a0 (wi (we a0)) (0:Int)):=CE
theorem qAe (v0:List Int) (v7:Int) (v8:Int):qnc v0 v7 v8=(
if (decide (v8<v7))=true then
gd (0≤v8)<|
gd (v8<(wi (we v0)))<|
(qgs (wk v0 (wn v8) (0:Int))).bind fun r1=>
if r1=true then
some (v8)
else
qnc v0 v7 (wd .i64 (v8+(1:Int)))
else
some (-1:Int)):=SE
noncomputable def vfa:FN:={f:=141,cuts:=[],tab:=[SS vO],fm:=⟨true,[.val .bool []]⟩}
noncomputable def qBf (a0:List Int):Option (Bool):=vfa.call [(.sl (.int .i64) false a0),(.func 142 [])] []
theorem qkj (a0:List Int):qBf a0=(
(qle a0).bind fun r1=>
some (decide (r1≥(0:Int)))):=CE
noncomputable def vdc:FN:={f:=103,cuts:=[⟨(7,3),[3,11,12,13],false,false,[],[],[]⟩],tab:=[SS vfa],fm:=⟨true,[.val (.int .i64) []]⟩}
noncomputable def qjr (a0:List Int):Option (Int):=vdc.call [(.sl (.int .i64) false a0)] []
noncomputable def qTi (v3:Int) (v11:List Int) (v12:Int) (v13:Int):Option (Int):=vdc.sem ⟨[.code (cIn (cIn (qba (qGa (qba (qba (qba (qba (qha wg 103))))))))), .inLoop (cIn (cIn (qba (qGa (qba (qba (qba (qba (qha wg 103))))))))), .inBlock 0, .code (qba (qba (qba (qba (qba (qha wg 103))))))],⟨[(3,(.one (.int .i64 v3))),(11,(.one (.sl (.int .i64) false v11))),(12,(.one (.int .i64 v12))),(13,(.one (.int .i64 v13)))],[],8⟩⟩
theorem qqz (a0:List Int):qjr a0=(
(qBf a0).bind fun r1=>
if r1=true then
some (8:Int)
else
letI c:=(wi (we a0))
if (decide (c>(16:Int)))=true then
some (4:Int)
else
qTi (0:Int) a0 c (0:Int)):=CE
theorem qzm (v3:Int) (v11:List Int) (v12:Int) (v13:Int):qTi v3 v11 v12 v13=(
if (decide (v13<v12))=true then
gd (0≤v13)<|
gd (v13<(wi (we v11)))<|
letI d:=(wk v11 (wn v13) (0:Int))
letI c:=(wd .i64 (v3+(if (8193:Int)<d then (8193:Int) else d)))
if (decide (c>(8192:Int)))=true then
some (4:Int)
else
qTi c v11 v12 (wd .i64 (v13+(1:Int)))
else
some (0:Int)):=SE
noncomputable def vLa:FN:={f:=60,cuts:=[⟨(8,3),[1,7,22,23,24],false,false,[],[],[]⟩,⟨(11,7),[1,7,8,9,10,22,23,24],false,false,[],[],[]⟩],tab:=[SS vdc],fm:=⟨true,[.val (.slice qka) [.nw], .val (.int .i64) []]⟩}
noncomputable def qFo (a0:List Int) (a1:Int):Option (List qea×Int):=vLa.call [(.sl (.int .i64) false a0),(.int .i64 a1)] []
noncomputable def qtf (v1:Int) (v22:List Int) (v23:Int) (v24:Int) (h8:List qea):Option (List qea×Int):=vLa.sem ⟨[.code (cIn (cIn (qba (qGa (qba (qba (qba (qba (qha wg 60))))))))), .inLoop (cIn (cIn (qba (qGa (qba (qba (qba (qba (qha wg 60))))))))), .inBlock 0, .code (qba (qba (qba (qba (qba (qha wg 60))))))],⟨[(1,(.one (.int .i64 v1))),(7,(.one (.ref qka 8 0 (we h8) true))),(22,(.one (.sl (.int .i64) false v22))),(23,(.one (.int .i64 v23))),(24,(.one (.int .i64 v24)))],[(8,some (.row qka true h8))],9⟩⟩
noncomputable def qyh (v1:Int) (v8:Int) (v9:Int) (v10:Int) (v22:List Int) (v23:Int) (v24:Int) (h8:List qea):Option (List qea×Int):=vLa.sem ⟨[.code (cIn (cIn (qba (qba (cIn (qGa (qba (qba (cIn (cIn (qba (qGa (qba (qba (qba (qba (qha wg 60))))))))))))))))), .inLoop (cIn (cIn (qba (qba (cIn (qGa (qba (qba (cIn (cIn (qba (qGa (qba (qba (qba (qba (qha wg 60))))))))))))))))), .inBlock 2, .inBlock 1, .code (qba (qba (qba (cIn (cIn (qba (qGa (qba (qba (qba (qba (qha wg 60)))))))))))), .inLoop (cIn (cIn (qba (qGa (qba (qba (qba (qba (qha wg 60))))))))), .inBlock 0, .code (qba (qba (qba (qba (qba (qha wg 60))))))],⟨[(1,(.one (.int .i64 v1))),(7,(.one (.ref qka 8 0 (we h8) true))),(8,(.one (.int .i64 v8))),(9,(.one (.int .i64 v9))),(10,(.one (.int .i64 v10))),(22,(.one (.sl (.int .i64) false v22))),(23,(.one (.int .i64 v23))),(24,(.one (.int .i64 v24)))],[(8,some (.row qka true h8))],9⟩⟩
theorem qGw (a0:List Int) (a1:Int):qFo a0 a1=(
(qjr a0).bind fun r1=>
if (r1 != (0:Int))=true then
some ([],r1)
else
if (decide (a1<(16:Int)))=true then
some ([],(2:Int))
else
if (decide (a1>(4096:Int)))=true then
some ([],(2:Int))
else
qtf a1 a0 (wi (we a0)) (0:Int) []):=CE
theorem qjl (v1:Int) (v22:List Int) (v23:Int) (v24:Int) (h8:List qea):qtf v1 v22 v23 v24 h8=(
if (decide (v24<v23))=true then
gd (0≤v24)<|
gd (v24<(wi (we v22)))<|
qyh v1 v24 (wk v22 (wn v24) (0:Int)) (0:Int) v22 v23 v24 h8
else
some (h8,(0:Int))):=SE
theorem qil (v1:Int) (v8:Int) (v9:Int) (v10:Int) (v22:List Int) (v23:Int) (v24:Int) (h8:List qea):qyh v1 v8 v9 v10 v22 v23 v24 h8=(
if (decide (v10<v9))=true then
letI c:=(wd .i64 (v9 - v10))
gd ((we (h8++[(v8,(v10,((if v1<c then v1 else c),())))]))*24≤140737488355328)<|
qyh v1 v8 v9 (wd .i64 (v10+v1)) v22 v23 v24 (h8++[(v8,(v10,((if v1<c then v1 else c),())))])
else
qtf v1 v22 v23 (wd .i64 (v24+(1:Int))) h8):=SE
noncomputable def vcb:FN:={f:=114,cuts:=[⟨(3,3),[2,5,10,11,12],false,false,[],[],[]⟩],tab:=[SS vLa],fm:=⟨true,[.val (.slice qka) [.nw]]⟩}
noncomputable def qBn (a0:qia) (a1:List qaa):Option (List qea):=vcb.call [(.agg qwa (inj false qwa a0)),(.sl qfa false a1)] []
noncomputable def qcj (v10:List qaa) (v11:Int) (v12:Int) (b8:qia) (h9:List Int):Option (List qea):=vcb.sem ⟨[.code (cIn (cIn (qba (qGa (qba (qba (qha wg 114))))))), .inLoop (cIn (cIn (qba (qGa (qba (qba (qha wg 114))))))), .inBlock 0, .code (qba (qba (qba (qha wg 114))))],⟨[(2,(.one (.ptr qwa 8 []))),(5,(.one (.ref (.int .i64) 9 0 (we h9) true))),(10,(.one (.sl qfa false v10))),(11,(.one (.int .i64 v11))),(12,(.one (.int .i64 v12)))],[(8,some (.box qwa (inj false qwa b8))),(9,some (.row (.int .i64) true h9))],10⟩⟩
theorem qNz (a0:qia) (a1:List qaa):qBn a0 a1=(
qcj a1 (wi (we a1)) (0:Int) a0 []):=CE
theorem qQm (v10:List qaa) (v11:Int) (v12:Int) (b8:qia) (h9:List Int):qcj v10 v11 v12 b8 h9=(
if (decide (v12<v11))=true then
gd (0≤v12)<|
gd (v12<(wi (we v10)))<|
letI c:=(h9++[(wk v10 (wn v12) (qqa qfa)).2.1])
gd ((we c)*8≤140737488355328)<|
qcj v10 v11 (wd .i64 (v12+(1:Int))) b8 c
else
(qFo h9 b8.2.1).bind fun r1=>
some (r1.1)):=SE
noncomputable def via:FN:={f:=116,cuts:=[],tab:=[],fm:=⟨true,[.val (.int .i64) []]⟩}
noncomputable def qch (a0:qga):Option (Int):=via.call [(.agg qsa (inj false qsa a0))] []
theorem qhy (a0:qga):qch a0=(
if (decide (a0.2.1<(0:Int)))=true then
some (8:Int)
else
letI j:=(decide (a0.2.1≥(16:Int)))
letI g:=(a0.1==(1:Int))
letI f:=(a0.1==(2:Int))
letI e:=(a0.2.2.2.2.1==a0.2.2.2.1)
letI d:=(decide (a0.2.2.2.2.1>(0:Int)))
letI c:=(decide (a0.2.2.2.2.1<a0.2.2.2.1))
if j=true then
if j=true then
some (8:Int)
else
if g=true then
if e=true then
if e=true then
some (0:Int)
else
some (8:Int)
else
if f=true then
if d=true then
if c=true then
some (0:Int)
else
some (8:Int)
else
some (8:Int)
else
some (8:Int)
else
if f=true then
if d=true then
if c=true then
some (0:Int)
else
some (8:Int)
else
some (8:Int)
else
some (8:Int)
else
if (decide (a0.2.2.2.1<(1:Int)))=true then
some (8:Int)
else
letI i:=(decide (a0.2.2.2.1>(4096:Int)))
if i=true then
if i=true then
some (8:Int)
else
if g=true then
if e=true then
if e=true then
some (0:Int)
else
some (8:Int)
else
if f=true then
if d=true then
if c=true then
some (0:Int)
else
some (8:Int)
else
some (8:Int)
else
some (8:Int)
else
if f=true then
if d=true then
if c=true then
some (0:Int)
else
some (8:Int)
else
some (8:Int)
else
some (8:Int)
else
if (decide (a0.2.2.1<(0:Int)))=true then
some (8:Int)
else
if (decide (a0.2.2.1>(wd .i64 ((8192:Int) - a0.2.2.2.1))))=true then
some (8:Int)
else
if g=true then
if e=true then
if e=true then
some (0:Int)
else
some (8:Int)
else
if f=true then
if d=true then
if c=true then
some (0:Int)
else
some (8:Int)
else
some (8:Int)
else
some (8:Int)
else
if f=true then
if d=true then
if c=true then
some (0:Int)
else
some (8:Int)
else
some (8:Int)
else
some (8:Int)):=CE
noncomputable def vJa:FN:={f:=74,cuts:=[⟨(5,3),[0,2,4,12,13],false,false,[],[],[]⟩,⟨(8,7),[0,2,4,5,12,13,17,18],false,false,[],[],[]⟩],tab:=[SS via],fm:=⟨true,[.val qsa [], .val (.int .i64) []]⟩}
noncomputable def qkp (a0:List Int):Option (qga×Int):=vJa.call [(.sl (.int .u8) false a0)] []
noncomputable def qpd (v0:List Int) (v12:(List Int)) (v13:Int) (b8:qga) (b9:(List Int)):Option (qga×Int):=vJa.sem ⟨[.code (cIn (cIn (qba (qGa (qba (qba (qba (qha wg 74)))))))), .inLoop (cIn (cIn (qba (qGa (qba (qba (qba (qha wg 74)))))))), .inBlock 0, .code (qba (qba (qba (qba (qha wg 74)))))],⟨[(0,(.one (.sl (.int .u8) false v0))),(2,(.one (.ptr qsa 8 []))),(4,(.one (.ptr (.arr 5 (.int .i64)) 9 []))),(12,(.one (.agg (.arr 5 (.int .i64)) v12))),(13,(.one (.int .i64 v13)))],[(8,some (.box qsa (inj false qsa b8))),(9,some (.box (.arr 5 (.int .i64)) b9))],10⟩⟩
noncomputable def qLf (v0:List Int) (v5:Int) (v12:(List Int)) (v13:Int) (v17:Int) (v18:Int) (b8:qga) (b9:(List Int)):Option (qga×Int):=vJa.sem ⟨[.code (cIn (cIn (qba (qba (cIn (qGa (qba (qba (cIn (cIn (qba (qGa (qba (qba (qba (qha wg 74)))))))))))))))), .inLoop (cIn (cIn (qba (qba (cIn (qGa (qba (qba (cIn (cIn (qba (qGa (qba (qba (qba (qha wg 74)))))))))))))))), .inBlock 2, .inBlock 1, .code (qba (qba (qba (cIn (cIn (qba (qGa (qba (qba (qba (qha wg 74))))))))))), .inLoop (cIn (cIn (qba (qGa (qba (qba (qba (qha wg 74)))))))), .inBlock 0, .code (qba (qba (qba (qba (qha wg 74)))))],⟨[(0,(.one (.sl (.int .u8) false v0))),(2,(.one (.ptr qsa 8 []))),(4,(.one (.ptr (.arr 5 (.int .i64)) 9 []))),(5,(.one (.int .i64 v5))),(12,(.one (.agg (.arr 5 (.int .i64)) v12))),(13,(.one (.int .i64 v13))),(17,(.one (.int .i64 v17))),(18,(.one (.int .i64 v18)))],[(8,some (.box qsa (inj false qsa b8))),(9,some (.box (.arr 5 (.int .i64)) b9))],10⟩⟩
theorem qgy (a0:List Int):qkp a0=(
letI c:=(wo 20 (0:Int))
if ((wi (we a0)) != (28:Int))=true then
some (((0:Int),((0:Int),((0:Int),((0:Int),((0:Int),(c,())))))),(12:Int))
else
qpd a0 G_widths (0:Int) ((0:Int),((0:Int),((0:Int),((0:Int),((0:Int),(c,())))))) (wo 5 (0:Int))):=CE
theorem qQh (v0:List Int) (v12:(List Int)) (v13:Int) (b8:qga) (b9:(List Int)):qpd v0 v12 v13 b8 b9=(
if (decide (v13<(5:Int)))=true then
gd (0≤v13)<|
gd (v13<(5:Int))<|
qLf v0 v13 v12 v13 (wk v12 (wn v13) (0:Int)) (0:Int) b8 b9
else
gd (0≤(0:Int))<|
gd ((0:Int)<(5:Int))<|
gd (0≤(1:Int))<|
gd ((1:Int)<(5:Int))<|
gd (0≤(2:Int))<|
gd ((2:Int)<(5:Int))<|
gd (0≤(3:Int))<|
gd ((3:Int)<(5:Int))<|
gd (0≤(4:Int))<|
gd ((4:Int)<(5:Int))<|
letI j:=(wk b9 4 (0:Int))
letI i:=(wk b9 3 (0:Int))
letI g:=(wk b9 2 (0:Int))
letI f:=(wk b9 1 (0:Int))
letI e:=(wo 20 (0:Int))
letI d:=(wd .u8 (wk b9 0 (0:Int)))
letI c:=(qKb e 0 (wK (min (we v0) 20) v0))
(qch (d,(f,(g,(i,(j,(c,()))))))).bind fun r1=>
if (r1 != (0:Int))=true then
some (((0:Int),((0:Int),((0:Int),((0:Int),((0:Int),(e,())))))),(12:Int))
else
some ((d,(f,(g,(i,(j,(c,())))))),(0:Int))):=SE
theorem qPh (v0:List Int) (v5:Int) (v12:(List Int)) (v13:Int) (v17:Int) (v18:Int) (b8:qga) (b9:(List Int)):qLf v0 v5 v12 v13 v17 v18 b8 b9=(
if (decide (v18<v17))=true then
gd (0≤v5)<|
gd (v5<(5:Int))<|
gd (0≤(8:Int))<|
gd (0≤(0:Int))<|
letI c:=(wi (we v0))
gd ((0:Int)<c)<|
gd (0≤v5)<|
gd (v5<(5:Int))<|
gd (0≤(1:Int))<|
gd ((1:Int)≤c)<|
qLf (wW 1 v0) v5 v12 v13 v17 (wd .i64 (v18+(1:Int))) b8 (wF b9 (wn v5) (qlc .i64 (wd .i64 ((wk b9 (wn v5) (0:Int))*(256:Int))) (wd .i64 (wk v0 0 (0:Int)))))
else
qpd v0 v12 (wd .i64 (v13+(1:Int))) b8 b9):=SE
noncomputable def ved:FN:={f:=105,cuts:=[],tab:=[],fm:=⟨true,[.val (.int .i64) []]⟩}
noncomputable def qSu (a0:List Int) (a1:Int):Option (Int):=ved.call [(.sl (.int .u8) false a0),(.int .i64 a1)] []
theorem qQx (a0:List Int) (a1:Int):qSu a0 a1=(
letI c:=(wi (we a0))
if (decide (c>(50000:Int)))=true then
some (4:Int)
else
if (decide (a1<(0:Int)))=true then
some (2:Int)
else
if (decide (a1>c))=true then
some (2:Int)
else
some (0:Int)):=CE
noncomputable def vpd:FN:={f:=117,cuts:=[],tab:=[],fm:=⟨true,[.val (.slice (.int .u8)) [.pu]]⟩}
noncomputable def qfp:Option (List Int):=vpd.call [] []
theorem qRx:qfp=(
gd (0<13)<|
some ([(183:Int),(98:Int),(105:Int),(116:Int),(108:Int),(111:Int),(102:Int),(116:Int),(32:Int),(98:Int),(108:Int),(107:Int),(10:Int)])):=CE
noncomputable def vie:FN:={f:=75,cuts:=[],tab:=[SS ved,SS vpd,SS vSa],fm:=⟨true,[.val .bool [], .val (.int .i64) []]⟩}
noncomputable def qSx (a0:List Int) (a1:Int):Option (Bool×Int):=vie.call [(.sl (.int .u8) false a0),(.int .i64 a1)] []
theorem qgE (a0:List Int) (a1:Int):qSx a0 a1=(
(qSu a0 a1).bind fun r1=>
if (r1 != (0:Int))=true then
some (false,r1)
else
gd (0≤a1)<|
gd (a1≤(wi (we a0)))<|
(qfp).bind fun r2=>
(qRf (wW (wn a1) a0) r2).bind fun r3=>
some (r3,(0:Int))):=CE
noncomputable def vXa:FN:={f:=76,cuts:=[],tab:=[],fm:=⟨true,[.val (.slice (.int .u8)) [.nw]]⟩}
noncomputable def qLi (a0:List Int):Option (List Int):=vXa.call [(.sl (.int .u8) false a0)] []
theorem qdr (a0:List Int):qLi a0=(
qkF (fun (r1:Bool)=>r1=true→a0=[]) fun (r1:Bool)=>
if r1=true then
some ([])
else
gd ((we ([]++a0))*1≤140737488355328)<|
some ([]++a0)):=CE
noncomputable def vzc:FN:={f:=41,cuts:=[],tab:=[SS vJa,SS vie,SS vXa],fm:=⟨true,[.val qpa [], .val (.int .i64) [], .val (.int .i64) []]⟩}
noncomputable def qdn (a0:List Int):Option (qca×Int×Int):=vzc.call [(.sl (.int .u8) false a0)] []
theorem qgt (a0:List Int):qdn a0=(
letI e:=(wi (we a0))
letI d:=(wo 20 (0:Int))
if (decide (e>(50000:Int)))=true then
some ((((0:Int),((0:Int),((0:Int),((0:Int),((0:Int),(d,())))))),([],())),((0:Int),(4:Int)))
else
if (decide (e<(41:Int)))=true then
some ((((0:Int),((0:Int),((0:Int),((0:Int),((0:Int),(d,())))))),([],())),((0:Int),(18:Int)))
else
gd (0≤(13:Int))<|
gd ((13:Int)≤(41:Int))<|
gd ((41:Int)≤e)<|
(qkp (wK 28 (wW 13 a0))).bind fun r1=>
(qSx a0 (0:Int)).bind fun r2=>
if (not r2.1)=true then
some ((((0:Int),((0:Int),((0:Int),((0:Int),((0:Int),(d,())))))),([],())),((0:Int),(12:Int)))
else
if (r1.2 != (0:Int))=true then
some ((((0:Int),((0:Int),((0:Int),((0:Int),((0:Int),(d,())))))),([],())),((0:Int),(12:Int)))
else
letI c:=(wd .i64 ((41:Int)+r1.1.2.2.2.2.1))
if (decide (e<c))=true then
some ((((0:Int),((0:Int),((0:Int),((0:Int),((0:Int),(d,())))))),([],())),((0:Int),(18:Int)))
else
gd (0≤(41:Int))<|
gd ((41:Int)≤c)<|
gd (c≤e)<|
(qLi (wK ((wn c) - 41) (wW 41 a0))).bind fun r3=>
some ((r1.1,(r3,())),(c,(0:Int)))):=CE
noncomputable def vee:FN:={f:=115,cuts:=[],tab:=[],fm:=⟨true,[.val .bool []]⟩}
noncomputable def qTB (a0:qga) (a1:qea):Option (Bool):=vee.call [(.agg qsa (inj false qsa a0)),(.agg qka (inj false qka a1))] []
theorem qpJ (a0:qga) (a1:qea):qTB a0 a1=(
some (peq qka (a0.2.1,(a0.2.2.1,(a0.2.2.2.1,()))) a1)):=CE
noncomputable def vrd:FN:={f:=72,cuts:=[⟨(7,3),[0,2,7,9,10,32,33,34],false,false,[],[],[]⟩],tab:=[SS vpe,SS vcb,SS vzc,SS vee],fm:=⟨true,[.val qJa [], .val (.slice qpa) [.nw], .val (.int .i64) []]⟩}
noncomputable def qVB (a0:List Int):Option (qza×List qca×Int):=vrd.call [(.sl (.int .u8) false a0)] []
noncomputable def qCn (v0:List Int) (v7:Int) (v33:Int) (v34:Int) (b8a:qia) (b8bbb:Unit) (b9a:qia) (b9bbb:Unit) (h10:List qca) (h11:List qea) (h12:List qaa) (h13:List qga) (h14:List qaa) (h15:List qga):Option (qza×List qca×Int):=vrd.sem ⟨[.code (cIn (cIn (qba (qGa (qba (qba (qba (qba (qba (qha wg 72)))))))))), .inLoop (cIn (cIn (qba (qGa (qba (qba (qba (qba (qba (qha wg 72)))))))))), .inBlock 0, .code (qba (qba (qba (qba (qba (qba (qha wg 72)))))))],⟨[(0,(.one (.sl (.int .u8) false v0))),(2,(.one (.ptr qJa 8 []))),(7,(.one (.int .i64 v7))),(9,(.one (.ptr qJa 9 []))),(10,(.one (.ref qpa 10 0 (we h10) true))),(32,(.one (.ref qka 11 0 (we h11) true))),(33,(.one (.int .i64 v33))),(34,(.one (.int .i64 v34)))],[(8,some (.box qJa ((inj false qwa b8a),((SV.ref 12 0 (we h12) true),((SV.ref 13 0 (we h13) true),b8bbb))))),(9,some (.box qJa ((inj false qwa b9a),((SV.ref 14 0 (we h14) true),((SV.ref 15 0 (we h15) true),b9bbb))))),(10,some (.row qpa true h10)),(11,some (.row qka true h11)),(12,some (.row qfa true h12)),(13,some (.row qsa true h13)),(14,some (.row qfa true h14)),(15,some (.row qsa true h15))],16⟩⟩
theorem qkG (a0:List Int):qVB a0=(
(qYx a0).bind fun r1=>
if (r1.2.2.2 != (0:Int))=true then
some ((((0:Int),((0:Int),())),([],([],()))),([],r1.2.2.2))
else
(qBn r1.1 r1.2.1).bind fun r2=>
qCn a0 r1.2.2.1 (wi (we r2)) (0:Int) ((0:Int),((0:Int),())) () r1.1 () [] r2 [] [] r1.2.1 []):=CE
theorem qSq (v0:List Int) (v7:Int) (v33:Int) (v34:Int) (b8a:qia) (b8bbb:Unit) (b9a:qia) (b9bbb:Unit) (h10:List qca) (h11:List qea) (h12:List qaa) (h13:List qga) (h14:List qaa) (h15:List qga):qCn v0 v7 v33 v34 b8a b8bbb b9a b9bbb h10 h11 h12 h13 h14 h15=(
letI c:=(wi (we v0))
if (decide (v34<v33))=true then
gd (0≤v34)<|
gd (v34<(wi (we h11)))<|
gd (0≤v7)<|
gd (v7≤c)<|
(qdn (wW (wn v7) v0)).bind fun r3=>
if (r3.2.2 != (0:Int))=true then
some ((((0:Int),((0:Int),())),([],([],()))),([],r3.2.2))
else
(qTB r3.1.1 (wk h11 (0+(wn v34)) (qqa qka))).bind fun r4=>
if (not r4)=true then
some ((((0:Int),((0:Int),())),([],([],()))),([],(32:Int)))
else
letI d:=(h15++[r3.1.1])
gd ((we d)*64≤140737488355328)<|
letI e:=(h10++[r3.1])
gd ((we e)*88≤140737488355328)<|
qCn v0 (wd .i64 (v7+r3.2.1)) v33 (wd .i64 (v34+(1:Int))) b8a b8bbb b9a b9bbb e h11 h12 h13 h14 d
else
if (decide (v7<c))=true then
some ((((0:Int),((0:Int),())),([],([],()))),([],(12:Int)))
else
some ((b9a,(h14,(h15,b9bbb))),(h10,(0:Int)))):=SE
noncomputable def voe:FN:={f:=39,cuts:=[],tab:=[SS vrd],fm:=⟨true,[.val qJa [], .val (.int .i64) []]⟩}
noncomputable def qXx (a0:List Int):Option (qza×Int):=voe.call [(.sl (.int .u8) false a0)] []
theorem qjE (a0:List Int):qXx a0=(
(qVB a0).bind fun r1=>
some (r1.1,r1.2.2)):=CE
noncomputable def vGc:FN:={f:=73,cuts:=[⟨(7,3),[3,28,29,30],false,false,[],[],[]⟩],tab:=[SS vob,SS vG,SS vcb,SS via,SS vee],fm:=⟨true,[.val (.int .i64) []]⟩}
noncomputable def qZt (a0:qza):Option (Int):=vGc.call [(.agg qJa (inj false qJa a0))] []
noncomputable def qYj (v28:List qga) (v29:Int) (v30:Int) (h8:List qea):Option (Int):=vGc.sem ⟨[.code (cIn (cIn (qba (qGa (qba (qba (qba (qba (qha wg 73))))))))), .inLoop (cIn (cIn (qba (qGa (qba (qba (qba (qba (qha wg 73))))))))), .inBlock 0, .code (qba (qba (qba (qba (qba (qha wg 73))))))],⟨[(3,(.one (.ref qka 8 0 (we h8) true))),(28,(.one (.sl qsa false v28))),(29,(.one (.int .i64 v29))),(30,(.one (.int .i64 v30)))],[(8,some (.row qka true h8))],9⟩⟩
theorem qWB (a0:qza):qZt a0=(
(qHm a0.1).bind fun r1=>
if (r1 != (0:Int))=true then
some (8:Int)
else
(qKf a0.2.1).bind fun r2=>
if (r2 != (0:Int))=true then
some (8:Int)
else
(qBn a0.1 a0.2.1).bind fun r3=>
letI c:=(wi (we a0.2.2.1))
if ((wi (we r3)) != c)=true then
some (8:Int)
else
qYj a0.2.2.1 c (0:Int) r3):=CE
theorem qgo (v28:List qga) (v29:Int) (v30:Int) (h8:List qea):qYj v28 v29 v30 h8=(
if (decide (v30<v29))=true then
gd (0≤v30)<|
gd (v30<(wi (we v28)))<|
letI d:=(wn v30)
letI c:=(wk v28 d (qqa qsa))
(qch c).bind fun r4=>
if (r4 != (0:Int))=true then
some (8:Int)
else
gd (0≤v30)<|
gd (v30<(wi (we h8)))<|
(qTB c (wk h8 (0+d) (qqa qka))).bind fun r5=>
if (not r5)=true then
some (8:Int)
else
qYj v28 v29 (wd .i64 (v30+(1:Int))) h8
else
some (0:Int)):=SE
noncomputable def vec:FN:={f:=40,cuts:=[⟨(8,3),[7,8,27,28,29],false,false,[],[],[]⟩],tab:=[SS vGc,SS vWc],fm:=⟨true,[.val (.slice (.int .i64)) [.nw], .val (.int .i64) []]⟩}
noncomputable def qDn (a0:qza):Option (List Int×Int):=vec.call [(.agg qJa (inj false qJa a0))] []
noncomputable def qdj (v7:Int) (v27:List qga) (v28:Int) (v29:Int) (h8:List Int):Option (List Int×Int):=vec.sem ⟨[.code (cIn (cIn (qba (qGa (qba (qba (qba (qba (qba (qha wg 40)))))))))), .inLoop (cIn (cIn (qba (qGa (qba (qba (qba (qba (qba (qha wg 40)))))))))), .inBlock 0, .code (qba (qba (qba (qba (qba (qba (qha wg 40)))))))],⟨[(7,(.one (.int .i64 v7))),(8,(.one (.ref (.int .i64) 8 0 (we h8) true))),(27,(.one (.sl qsa false v27))),(28,(.one (.int .i64 v28))),(29,(.one (.int .i64 v29)))],[(8,some (.row (.int .i64) true h8))],9⟩⟩
theorem qOz (a0:qza):qDn a0=(
(qZt a0).bind fun r1=>
if (r1 != (0:Int))=true then
some ([],r1)
else
(qxs a0.1 a0.2.1).bind fun r2=>
qdj (wi (we r2.1)) a0.2.2.1 (wi (we a0.2.2.1)) (0:Int) []):=CE
theorem qRm (v7:Int) (v27:List qga) (v28:Int) (v29:Int) (h8:List Int):qdj v7 v27 v28 v29 h8=(
if (decide (v29<v28))=true then
gd (0≤v29)<|
gd (v29<(wi (we v27)))<|
gd ((we (h8++[v7]))*8≤140737488355328)<|
qdj (wd .i64 (v7+(wd .i64 ((41:Int)+(wk v27 (wn v29) (qqa qsa)).2.2.2.2.1)))) v27 v28 (wd .i64 (v29+(1:Int))) (h8++[v7])
else
some (h8,(0:Int))):=SE
noncomputable def vHa:FN:={f:=17,cuts:=[⟨(7,3),[0,2,5,9,29,30,31],false,false,[],[],[]⟩],tab:=[SS voe,SS vec,SS vzc],fm:=⟨true,[.val qJa [], .val (.slice qpa) [.nw], .val (.int .i64) []]⟩}
noncomputable def qid (a0:List Int):Option (qza×List qca×Int):=vHa.call [(.sl (.int .u8) false a0)] []
noncomputable def qRh (v0:List Int) (v30:Int) (v31:Int) (b8a:qia) (b8bbb:Unit) (b9:qza) (h10:List qca) (h11:List Int) (h12:List qaa) (h13:List qga):Option (qza×List qca×Int):=vHa.sem ⟨[.code (cIn (cIn (qba (qGa (qba (qba (qba (qba (qba (qha wg 17)))))))))), .inLoop (cIn (cIn (qba (qGa (qba (qba (qba (qba (qba (qha wg 17)))))))))), .inBlock 0, .code (qba (qba (qba (qba (qba (qba (qha wg 17)))))))],⟨[(0,(.one (.sl (.int .u8) false v0))),(2,(.one (.ptr qJa 8 []))),(5,(.one (.ptr qJa 9 []))),(9,(.one (.ref qpa 10 0 (we h10) true))),(29,(.one (.ref (.int .i64) 11 0 (we h11) true))),(30,(.one (.int .i64 v30))),(31,(.one (.int .i64 v31)))],[(8,some (.box qJa ((inj false qwa b8a),((SV.ref 12 0 (we h12) true),((SV.ref 13 0 (we h13) true),b8bbb))))),(9,some (.box qJa (inj true qJa b9))),(10,some (.row qpa true h10)),(11,some (.row (.int .i64) true h11)),(12,some (.row qfa true h12)),(13,some (.row qsa true h13))],14⟩⟩
theorem qqp (a0:List Int):qid a0=(
(qXx a0).bind fun r1=>
if (r1.2 != (0:Int))=true then
some ((((0:Int),((0:Int),())),([],([],()))),([],r1.2))
else
(qDn r1.1).bind fun r2=>
qRh a0 (wi (we r2.1)) (0:Int) ((0:Int),((0:Int),())) () r1.1 [] r2.1 [] []):=CE
theorem qLl (v0:List Int) (v30:Int) (v31:Int) (b8a:qia) (b8bbb:Unit) (b9:qza) (h10:List qca) (h11:List Int) (h12:List qaa) (h13:List qga):qRh v0 v30 v31 b8a b8bbb b9 h10 h11 h12 h13=(
if (decide (v31<v30))=true then
gd (0≤v31)<|
gd (v31<(wi (we h11)))<|
letI c:=(wk h11 (0+(wn v31)) (0:Int))
gd (0≤c)<|
gd (c≤(wi (we v0)))<|
(qdn (wW (wn c) v0)).bind fun r3=>
letI d:=(h10++[r3.1])
gd ((we d)*88≤140737488355328)<|
qRh v0 v30 (wd .i64 (v31+(1:Int))) b8a b8bbb b9 d h11 h12 h13
else
some (b9,(h10,(0:Int)))):=SE
noncomputable def vcc:FN:={f:=48,cuts:=[⟨(5,3),[1,14,15,16],false,false,[],[],[]⟩],tab:=[SS vG],fm:=⟨true,[.val (.int .i64) [], .val (.int .i64) []]⟩}
noncomputable def qDi (a0:List qaa) (a1:ByteArray):Option (Int×Int):=vcc.call [(.sl qfa false a0),(.str a1)] []
noncomputable def qZi (v1:ByteArray) (v14:List qaa) (v15:Int) (v16:Int):Option (Int×Int):=vcc.sem ⟨[.code (cIn (cIn (qba (qGa (qba (qba (qha wg 48))))))), .inLoop (cIn (cIn (qba (qGa (qba (qba (qha wg 48))))))), .inBlock 0, .code (qba (qba (qba (qha wg 48))))],⟨[(1,(.one (.str v1))),(14,(.one (.sl qfa false v14))),(15,(.one (.int .i64 v15))),(16,(.one (.int .i64 v16)))],[],8⟩⟩
theorem qKz (a0:List qaa) (a1:ByteArray):qDi a0 a1=(
(qKf a0).bind fun r1=>
if (r1 != (0:Int))=true then
some ((0:Int),r1)
else
qZi a1 a0 (wi (we a0)) (0:Int)):=CE
theorem qMm (v1:ByteArray) (v14:List qaa) (v15:Int) (v16:Int):qZi v1 v14 v15 v16=(
if (decide (v16<v15))=true then
gd (0≤v16)<|
gd (v16<(wi (we v14)))<|
if ((wO (wk v14 (wn v16) (qqa qfa)).1)==(wO v1))=true then
some (v16,(0:Int))
else
qZi v1 v14 v15 (wd .i64 (v16+(1:Int)))
else
some ((0:Int),(6:Int))):=SE
noncomputable def veb:FN:={f:=49,cuts:=[],tab:=[],fm:=⟨true,[.val .bool [], .box 0 (.int .i64) []]⟩}
noncomputable def qej (a0:qca) (b0:Int):Option (Bool×Int):=veb.call [(.agg qpa (inj false qpa a0)),(.ptr (.int .i64) 0 [])] [(0,(.box (.int .i64) b0))]
theorem qiu (a0:qca) (b0:Int):qej a0 b0=(
some ((a0.1.2.1 != b0),b0)):=CE
noncomputable def vj:FN:={f:=50,cuts:=[⟨(2,3),[0,1,7,8],false,false,[],[],[]⟩],tab:=[SS veb],fm:=⟨true,[.val (.int .i64) [], .box 0 (.int .i64) []]⟩}
noncomputable def qRb (a0:List qca) (b0:Int):Option (Int×Int):=vj.call [(.sl qpa false a0),(.func 49 [0])] [(0,(.box (.int .i64) b0))]
noncomputable def qHa (v0:List qca) (v7:Int) (v8:Int) (b0:Int):Option (Int×Int):=vj.sem ⟨[.code (cIn (cIn (qba (qGa (qba (qha wg 50)))))), .inLoop (cIn (cIn (qba (qGa (qba (qha wg 50)))))), .inBlock 0, .code (qba (qba (qha wg 50)))],⟨[(0,(.one (.sl qpa false v0))),(1,(.one (.func 49 [0]))),(7,(.one (.int .i64 v7))),(8,(.one (.int .i64 v8)))],[(0,some (.box (.int .i64) b0))],9⟩⟩
theorem qyf (a0:List qca) (b0:Int):qRb a0 b0=(
qHa a0 (wi (we a0)) (0:Int) b0):=CE
theorem qpc (v0:List qca) (v7:Int) (v8:Int) (b0:Int):qHa v0 v7 v8 b0=(
if (decide (v8<v7))=true then
gd (0≤v8)<|
gd (v8<(wi (we v0)))<|
(qej (wk v0 (wn v8) (qqa qpa)) b0).bind fun r1=>
if r1.1=true then
some (v8,r1.2)
else
qHa v0 v7 (wd .i64 (v8+(1:Int))) r1.2
else
some ((-1:Int),b0)):=SE
noncomputable def ve:FN:={f:=21,cuts:=[⟨(5,3),[0,1,5,6],false,false,[],[],[]⟩],tab:=[SS vj,SS veb],fm:=⟨false,[.sub 0 qpa, .row 0 qpa, .box 1 (.int .i64) []]⟩}
noncomputable def qzb (h0:List qca) (b1:Int):Option ((Nat×Nat)×List qca×Int):=ve.call [(.ref qpa 0 0 (we h0) true),(.func 49 [1])] [(0,(.row qpa false h0)),(1,(.box (.int .i64) b1))]
noncomputable def qSa (v5:Int) (v6:Int) (h0:List qca) (b1:Int):Option ((Nat×Nat)×List qca×Int):=ve.sem ⟨[.code (cIn (cIn (qba (qGa (qba (qba (qba (qha wg 21)))))))), .inLoop (cIn (cIn (qba (qGa (qba (qba (qba (qha wg 21)))))))), .inBlock 0, .code (qba (qba (qba (qba (qha wg 21)))))],⟨[(0,(.one (.ref qpa 0 0 (we h0) true))),(1,(.one (.func 49 [1]))),(5,(.one (.int .i64 v5))),(6,(.one (.int .i64 v6)))],[(0,some (.row qpa false h0)),(1,some (.box (.int .i64) b1))],10⟩⟩
theorem qoc (h0:List qca) (b1:Int):qzb h0 b1=(
(qRb h0 b1).bind fun r1=>
if (r1.1==(-1:Int))=true then
some ((0,(we h0)),(h0,r1.2))
else
qSa r1.1 (wd .i64 (r1.1+(1:Int))) h0 r1.2):=CE
theorem qXb (v5:Int) (v6:Int) (h0:List qca) (b1:Int):qSa v5 v6 h0 b1=(
letI i:=(we h0)
letI g:=(qqa qpa)
letI e:=(wn v5)
letI c:=(wi i)
if (decide (v6<c))=true then
gd (0≤v6)<|
gd (v6<c)<|
letI d:=(wk h0 (0+(wn v6)) g)
(qej d b1).bind fun r2=>
letI f:=(wd .i64 (v6+(1:Int)))
if (not r2.1)=true then
gd (0≤v5)<|
gd (v5<c)<|
qSa (wd .i64 (v5+(1:Int))) f (wF h0 (0+e) d) r2.2
else
qSa v5 f h0 r2.2
else
gd (0≤v5)<|
gd (v5≤c)<|
gd (0≤v5)<|
gd (v5≤c)<|
some ((0,(e - 0)),((qKb h0 (0+e) (wo (i - e) g)),b1))):=SE
noncomputable def qQe (acc:List AV→Bool):Summ wg GT:=ve.summ mixed acc true false
noncomputable def vSb:FN:={f:=20,cuts:=[],tab:=[SS vHa,SS vcc,(qQe (fun _=>true)).dropping],fm:=⟨false,[.val qJa [], .val (.int .i64) [], .part qpa, .val (.int .i64) []]⟩}
noncomputable def qxj (a0:List Int) (a1:ByteArray):Option (qza×Int×(List qca×Nat×Nat)×Int):=vSb.call [(.sl (.int .u8) false a0),(.str a1)] []
theorem qrp (a0:List Int) (a1:ByteArray):qxj a0 a1=(
(qid a0).bind fun r1=>
if (r1.2.2 != (0:Int))=true then
some ((((0:Int),((0:Int),())),([],([],()))),((0:Int),(([],(0,0)),r1.2.2)))
else
(qDi r1.1.2.1 a1).bind fun r2=>
if (r2.2 != (0:Int))=true then
some ((((0:Int),((0:Int),())),([],([],()))),((0:Int),(([],(0,0)),r2.2)))
else
(qzb r1.2.1 r2.1).bind fun r3=>
some (r1.1,(r3.2.2,((r3.2.1,r3.1),(0:Int))))):=CE
noncomputable def vTa:FN:={f:=22,cuts:=[],tab:=[],fm:=⟨true,[.val .bool [], .box 0 (.int .i64) [], .box 1 (.int .i64) []]⟩}
noncomputable def qSh (a0:qca) (b0:Int) (b1:Int):Option (Bool×Int×Int):=vTa.call [(.agg qpa (inj false qpa a0)),(.ptr (.int .i64) 0 []),(.ptr (.int .i64) 1 [])] [(0,(.box (.int .i64) b0)),(1,(.box (.int .i64) b1))]
theorem qUs (a0:qca) (b0:Int) (b1:Int):qSh a0 b0 b1=(
letI c:=(wd .i64 (a0.1.2.2.1+a0.1.2.2.2.1))
some ((decide ((if b0>a0.1.2.2.1 then b0 else a0.1.2.2.1)≥(if b1<c then b1 else c))),(b0,b1))):=CE
noncomputable def vg:FN:={f:=50,cuts:=[⟨(2,3),[0,1,7,8],false,false,[],[],[]⟩],tab:=[SS vTa],fm:=⟨true,[.val (.int .i64) [], .box 0 (.int .i64) [], .box 1 (.int .i64) []]⟩}
noncomputable def qDb (a0:List qca) (b0:Int) (b1:Int):Option (Int×Int×Int):=vg.call [(.sl qpa false a0),(.func 22 [0,1])] [(0,(.box (.int .i64) b0)),(1,(.box (.int .i64) b1))]
noncomputable def qFa (v0:List qca) (v7:Int) (v8:Int) (b0:Int) (b1:Int):Option (Int×Int×Int):=vg.sem ⟨[.code (cIn (cIn (qba (qGa (qba (qha wg 50)))))), .inLoop (cIn (cIn (qba (qGa (qba (qha wg 50)))))), .inBlock 0, .code (qba (qba (qha wg 50)))],⟨[(0,(.one (.sl qpa false v0))),(1,(.one (.func 22 [0,1]))),(7,(.one (.int .i64 v7))),(8,(.one (.int .i64 v8)))],[(0,some (.box (.int .i64) b0)),(1,some (.box (.int .i64) b1))],10⟩⟩
theorem qOe (a0:List qca) (b0:Int) (b1:Int):qDb a0 b0 b1=(
qFa a0 (wi (we a0)) (0:Int) b0 b1):=CE
theorem qcc (v0:List qca) (v7:Int) (v8:Int) (b0:Int) (b1:Int):qFa v0 v7 v8 b0 b1=(
if (decide (v8<v7))=true then
gd (0≤v8)<|
gd (v8<(wi (we v0)))<|
(qSh (wk v0 (wn v8) (qqa qpa)) b0 b1).bind fun r1=>
if r1.1=true then
some (v8,r1.2)
else
qFa v0 v7 (wd .i64 (v8+(1:Int))) r1.2.1 r1.2.2
else
some ((-1:Int),(b0,b1))):=SE
noncomputable def vf:FN:={f:=21,cuts:=[⟨(5,3),[0,1,5,6],false,false,[],[],[]⟩],tab:=[SS vg,SS vTa],fm:=⟨false,[.sub 0 qpa, .row 0 qpa, .box 1 (.int .i64) [], .box 2 (.int .i64) []]⟩}
noncomputable def qyb (a0o:Nat) (a0n:Nat) (h0:List qca) (b1:Int) (b2:Int):Option ((Nat×Nat)×List qca×Int×Int):=vf.call [(.ref qpa 0 a0o a0n false),(.func 22 [1,2])] [(0,(.row qpa false h0)),(1,(.box (.int .i64) b1)),(2,(.box (.int .i64) b2))]
noncomputable def qRa (v0o:Nat) (v0n:Nat) (v5:Int) (v6:Int) (h0:List qca) (b1:Int) (b2:Int):Option ((Nat×Nat)×List qca×Int×Int):=vf.sem ⟨[.code (cIn (cIn (qba (qGa (qba (qba (qba (qha wg 21)))))))), .inLoop (cIn (cIn (qba (qGa (qba (qba (qba (qha wg 21)))))))), .inBlock 0, .code (qba (qba (qba (qba (qha wg 21)))))],⟨[(0,(.one (.ref qpa 0 v0o v0n false))),(1,(.one (.func 22 [1,2]))),(5,(.one (.int .i64 v5))),(6,(.one (.int .i64 v6)))],[(0,some (.row qpa false h0)),(1,some (.box (.int .i64) b1)),(2,some (.box (.int .i64) b2))],11⟩⟩
theorem qEe (a0o:Nat) (a0n:Nat) (h0:List qca) (b1:Int) (b2:Int):qyb a0o a0n h0 b1 b2=(
(qDb (wK a0n (wW a0o h0)) b1 b2).bind fun r1=>
if (r1.1==(-1:Int))=true then
some ((a0o,a0n),(h0,r1.2))
else
qRa a0o a0n r1.1 (wd .i64 (r1.1+(1:Int))) h0 r1.2.1 r1.2.2):=CE
theorem qWb (v0o:Nat) (v0n:Nat) (v5:Int) (v6:Int) (h0:List qca) (b1:Int) (b2:Int):qRa v0o v0n v5 v6 h0 b1 b2=(
letI g:=(qqa qpa)
letI e:=(wn v5)
letI d:=(wi v0n)
if (decide (v6<d))=true then
gd (0≤v6)<|
gd (v6<d)<|
letI c:=(wk h0 (v0o+(wn v6)) g)
(qSh c b1 b2).bind fun r2=>
letI f:=(wd .i64 (v6+(1:Int)))
if (not r2.1)=true then
gd (0≤v5)<|
gd (v5<d)<|
qRa v0o v0n (wd .i64 (v5+(1:Int))) f (wF h0 (v0o+e) c) r2.2.1 r2.2.2
else
qRa v0o v0n v5 f h0 r2.2.1 r2.2.2
else
gd (0≤v5)<|
gd (v5≤d)<|
gd (0≤v5)<|
gd (v5≤d)<|
some (((v0o+0),(e - 0)),((qKb h0 (v0o+e) (wo (v0n - e) g)),(b1,b2)))):=SE
noncomputable def qPe (acc:List AV→Bool):Summ wg GT:=vf.summ mixed acc true false
noncomputable def vQd:FN:={f:=77,cuts:=[],tab:=[SS via],fm:=⟨true,[.val (.int .i64) []]⟩}
noncomputable def qTr (a0:qca):Option (Int):=vQd.call [(.agg qpa (inj false qpa a0))] []
theorem qtA (a0:qca):qTr a0=(
(qch a0.1).bind fun r1=>
if (r1 != (0:Int))=true then
some (8:Int)
else
if ((wi (we a0.2.1)) != a0.1.2.2.2.2.1)=true then
some (8:Int)
else
some (0:Int)):=CE
noncomputable def vSc:FN:={f:=78,cuts:=[],tab:=[],fm:=⟨true,[.val .bool []]⟩}
noncomputable def qOn (a0:Int):Option (Bool):=vSc.call [(.int .i64 a0)] []
theorem qUv (a0:Int):qOn a0=(
if (decide (a0≥(0:Int)))=true then
some (decide (a0≤(7:Int)))
else
some (false)):=CE
noncomputable def vgc:FN:={f:=219,cuts:=[],tab:=[],fm:=⟨true,[.val (.int .i64) []]⟩}
noncomputable def qpn (a0:Int):Option (Int):=vgc.call [(.int .i64 a0)] []
theorem quz (a0:Int):qpn a0=(
gd (0≤a0)<|
some (wd .i64 (qLw .i64 (64:Int) a0))):=CE
noncomputable def vue:FN:={f:=182,cuts:=[],tab:=[SS vgc],fm:=⟨true,[.val qna [], .val (.int .i64) []]⟩}
noncomputable def qtB (a0:Int):Option (qma×Int):=vue.call [(.int .i64 a0)] []
theorem qVw (a0:Int):qtB a0=(
if (decide (a0<(0:Int)))=true then
some (((0:Int),([],((0:Int),()))),(2:Int))
else
if (decide (a0>(7:Int)))=true then
some (((0:Int),([],((0:Int),()))),(2:Int))
else
(qpn a0).bind fun r1=>
gd (r1=r1)<|
gd (0≤r1)<|
gd (r1*1≤140737488355328)<|
gd (r1≤9223372036854775807)<|
some ((a0,((wo (wn r1) (0:Int)),((0:Int),()))),(0:Int))):=CE
noncomputable def vza:FN:={f:=244,cuts:=[],tab:=[],fm:=⟨true,[.val (.int .i32) []]⟩}
noncomputable def qxh (a0:Int):Option (Int):=vza.call [(.int .i32 a0)] []
theorem qiv (a0:Int):qxh a0=(
if (decide (a0>(2047:Int)))=true then
some (4095:Int)
else
if (decide (a0<(-2047:Int)))=true then
some (0:Int)
else
gd (0≤(7:Int))<|
letI c:=(wd .i32 ((wX a0 (128:Int))+(16:Int)))
gd (0≤c)<|
gd (c<(33:Int))<|
letI d:=(wd .i32 (c+(1:Int)))
gd (0≤d)<|
gd (d<(33:Int))<|
gd (0≤c)<|
gd (c<(33:Int))<|
gd (0≤(7:Int))<|
letI e:=(wk G_row (wn c) (0:Int))
some (wX (wd .i32 ((wd .i32 ((wd .i32 (e*(128:Int)))+(wd .i32 ((wd .i32 ((wk G_row (wn d) (0:Int)) - e))*(qeb .i32 a0 (127:Int))))))+(64:Int))) (128:Int))):=CE
noncomputable def vb:FN:={f:=258,cuts:=[],tab:=[],fm:=⟨true,[.val (.slice (.int .i32)) [.nw]]⟩}
noncomputable def qVa (a0:List Int):Option (List Int):=vb.call [(.sl (.int .i32) false a0)] []
theorem qxk (a0:List Int):qVa a0=(
qkF (fun (r1:Bool)=>r1=true→a0=[]) fun (r1:Bool)=>
if r1=true then
some ([])
else
gd ((we ([]++a0))*4≤140737488355328)<|
some ([]++a0)):=CE
noncomputable def vxb:FN:={f:=220,cuts:=[⟨(5,3),[0,2,4,14],false,false,[],[],[]⟩,⟨(11,3),[2,4,6,26,27],false,false,[],[],[]⟩],tab:=[SS vza,SS vb],fm:=⟨true,[.val qCa [], .val (.int .i64) []]⟩}
noncomputable def qDt (a0:Int):Option (qAa×Int):=vxb.call [(.int .i64 a0)] []
noncomputable def qIh (v0:Int) (v14:Int) (b8b:Unit) (h9:List Int) (h10:List (List Int)):Option (qAa×Int):=vxb.sem ⟨[.code (cIn (cIn (qba (qGa (qba (qba (qba (qha wg 220)))))))), .inLoop (cIn (cIn (qba (qGa (qba (qba (qba (qha wg 220)))))))), .inBlock 0, .code (qba (qba (qba (qba (qha wg 220)))))],⟨[(0,(.one (.int .i64 v0))),(2,(.one (.ptr qCa 8 []))),(4,(.one (.ref (.int .i32) 9 0 (we h9) true))),(14,(.one (.int .i32 v14)))],[(8,some (.box qCa ((SV.ref 10 0 (we h10) true),b8b))),(9,some (.row (.int .i32) true h9)),(10,some (.row (.slice (.int .i32)) true h10))],11⟩⟩
noncomputable def qHh (v26:Int) (v27:Int) (b8b:Unit) (h9:List Int) (b10b:Unit) (h11:List (List Int)) (h12:List (List Int)):Option (qAa×Int):=vxb.sem ⟨[.code (cIn (cIn (qba (qGa (qba (qba (qba (qba (qba (qha wg 220)))))))))), .inLoop (cIn (cIn (qba (qGa (qba (qba (qba (qba (qba (qha wg 220)))))))))), .inBlock 2, .code (qba (qba (qba (qba (qba (qba (qha wg 220)))))))],⟨[(2,(.one (.ptr qCa 8 []))),(4,(.one (.ref (.int .i32) 9 0 (we h9) true))),(6,(.one (.ptr qCa 10 []))),(26,(.one (.int .i64 v26))),(27,(.one (.int .i64 v27)))],[(8,some (.box qCa ((SV.ref 11 0 (we h11) true),b8b))),(9,some (.row (.int .i32) true h9)),(10,some (.box qCa ((SV.ref 12 0 (we h12) true),b10b))),(11,some (.row (.slice (.int .i32)) true h11)),(12,some (.row (.slice (.int .i32)) true h12))],13⟩⟩
theorem qvB (a0:Int):qDt a0=(
if (decide (a0<(1:Int)))=true then
some (([],()),(2:Int))
else
if (decide (a0>(256:Int)))=true then
some (([],()),(2:Int))
else
qIh a0 (0:Int) () [] []):=CE
theorem qYn (v0:Int) (v14:Int) (b8b:Unit) (h9:List Int) (h10:List (List Int)):qIh v0 v14 b8b h9 h10=(
if (decide (v14<(33:Int)))=true then
(qxh (wd .i32 ((128:Int)*(wd .i32 (v14 - (16:Int)))))).bind fun r1=>
letI c:=(h9++[(wd .i32 ((16:Int)*r1))])
gd ((we c)*4≤140737488355328)<|
qIh v0 (wd .i32 (v14+(1:Int))) b8b c h10
else
qHh v0 (0:Int) b8b h9 () h10 []):=SE
theorem qXn (v26:Int) (v27:Int) (b8b:Unit) (h9:List Int) (b10b:Unit) (h11:List (List Int)) (h12:List (List Int)):qHh v26 v27 b8b h9 b10b h11 h12=(
if (decide (v27<v26))=true then
(qVa h9).bind fun r2=>
gd ((we (h12++[r2]))*24≤140737488355328)<|
qHh v26 (wd .i64 (v27+(1:Int))) b8b h9 b10b h11 (h12++[r2])
else
some ((h12,b10b),(0:Int))):=SE
noncomputable def vme:FN:={f:=183,cuts:=[],tab:=[SS vxb],fm:=⟨true,[.val qac []]⟩}
noncomputable def qwy:Option (qUa):=vme.call [] []
theorem qDE:qwy=(
letI c:=(qDt (256:Int))
c.bind fun r1=>
c.bind fun r2=>
some (r1.1,(r2.1,()))):=CE
noncomputable def vVb:FN:={f:=184,cuts:=[],tab:=[],fm:=⟨true,[.val qwa []]⟩}
noncomputable def qKs:Option (qia):=vVb.call [] []
theorem qep:qKs=(
some ((-1:Int),((0:Int),()))):=CE
noncomputable def vDc:FN:={f:=185,cuts:=[],tab:=[],fm:=⟨true,[.val qLa []]⟩}
noncomputable def qRt:Option (qxa):=vDc.call [] []
theorem qzs:qRt=(
some ((1:Int),())):=CE
noncomputable def vjb:FN:={f:=222,cuts:=[],tab:=[],fm:=⟨true,[.val (.int .i64) []]⟩}
noncomputable def qZj (a0:Int):Option (Int):=vjb.call [(.int .i64 a0)] []
theorem qJv (a0:Int):qZj a0=(
gd (0≤a0)<|
some (wd .i64 (qLw .i64 (64:Int) a0))):=CE
noncomputable def vsc:FN:={f:=144,cuts:=[],tab:=[],fm:=⟨true,[.val (.int .u64) [], .val (.int .u64) []]⟩}
noncomputable def qcp (a0:Int) (a1:Int):Option (Int×Int):=vsc.call [(.int .u64 a0),(.int .u64 a1)] []
theorem qJs (a0:Int) (a1:Int):qcp a0 a1=(
gd (0≤(32:Int))<|
gd (0≤(32:Int))<|
gd (0≤(32:Int))<|
gd (0≤(32:Int))<|
gd (0≤(32:Int))<|
letI g:=(wX a1 (4294967296:Int))
letI f:=(wX a0 (4294967296:Int))
letI e:=(qeb .u64 a1 (4294967295:Int))
letI d:=(qeb .u64 a0 (4294967295:Int))
letI c:=(wd .u64 ((wd .u64 (f*e))+(wX (wd .u64 (d*e)) (4294967296:Int))))
some ((wd .u64 ((wd .u64 ((wd .u64 (f*g))+(wX c (4294967296:Int))))+(wX (wd .u64 ((qeb .u64 c (4294967295:Int))+(wd .u64 (d*g)))) (4294967296:Int)))),(wd .u64 (a0*a1)))):=CE
noncomputable def vzb:FN:={f:=104,cuts:=[],tab:=[SS vsc],fm:=⟨true,[.val (.int .u64) [], .val (.int .u64) []]⟩}
noncomputable def qXj (a0:Int) (a1:Int):Option (Int×Int):=vzb.call [(.int .u64 a0),(.int .u64 a1)] []
theorem qGv (a0:Int) (a1:Int):qXj a0 a1=(
(qcp a0 a1).bind fun r1=>
some (r1)):=CE
noncomputable def vba:FN:={f:=221,cuts:=[⟨(8,3),[7,8],false,false,[],[],[]⟩],tab:=[SS vzb],fm:=⟨true,[.val (.slice (.int .i64)) [.nw]]⟩}
noncomputable def qwf (a0:List Int) (a1:Int):Option (List Int):=vba.call [(.sl (.int .i64) false a0),(.int .i64 a1)] []
noncomputable def qQc (v8:Int) (h8:List Int):Option (List Int):=vba.sem ⟨[.code (cIn (cIn (qGa (qba (qba (qba (qba (qba (qba (qha wg 221)))))))))), .inLoop (cIn (cIn (qGa (qba (qba (qba (qba (qba (qba (qha wg 221)))))))))), .inBlock 0, .code (qba (qba (qba (qba (qba (qba (qba (qha wg 221))))))))],⟨[(7,(.one (.ref (.int .i64) 8 0 (we h8) true))),(8,(.one (.int .i64 v8)))],[(8,some (.row (.int .i64) true h8))],9⟩⟩
theorem qCm (a0:List Int) (a1:Int):qwf a0 a1=(
if (decide (a1<(0:Int)))=true then
none
else
letI f:=(we a0)
(qXj (wd .u64 (wi f)) (wd .u64 a1)).bind fun r1=>
if (decide (r1.1>(0:Int)))=true then
none
else
if (decide (r1.2>(9223372036854775807:Int)))=true then
none
else
letI c:=(wd .i64 r1.2)
gd (c=c)<|
gd (0≤c)<|
gd (c*8≤140737488355328)<|
gd (c≤9223372036854775807)<|
letI d:=(wo (wn c) (0:Int))
letI e:=(min f (we d))
qQc (wi e) (qKb d 0 (wK e a0))):=CE
theorem qvf (v8:Int) (h8:List Int):qQc v8 h8=(
letI g:=(we h8)
letI d:=(wi g)
if (decide (v8<d))=true then
gd (0≤v8)<|
gd (v8≤d)<|
gd (0≤v8)<|
gd (v8≤d)<|
letI f:=(wn v8)
letI e:=(wK (f - 0) (wW 0 h8))
letI c:=(min (we e) (g - f))
qQc (wd .i64 (v8+(wi c))) (qKb h8 (0+f) (wK c e))
else
some (h8)):=SE
noncomputable def vUd:FN:={f:=186,cuts:=[],tab:=[SS vjb,SS vba],fm:=⟨true,[.val qgb [], .val (.int .i64) []]⟩}
noncomputable def qeu (a0:Int):Option (qIa×Int):=vUd.call [(.int .i64 a0)] []
theorem qgC (a0:Int):qeu a0=(
if (decide (a0<(0:Int)))=true then
some (((0:Int),([],())),(2:Int))
else
if (decide (a0>(7:Int)))=true then
some (((0:Int),([],())),(2:Int))
else
(qZj a0).bind fun r1=>
(qwf [(-1:Int)] r1).bind fun r2=>
some ((a0,(r2,())),(0:Int))):=CE
noncomputable def vq:FN:={f:=225,cuts:=[⟨(8,3),[7,8],false,false,[],[],[]⟩],tab:=[SS vzb],fm:=⟨true,[.val (.slice (.int .i32)) [.nw]]⟩}
noncomputable def qBc (a0:List Int) (a1:Int):Option (List Int):=vq.call [(.sl (.int .i32) false a0),(.int .i64 a1)] []
noncomputable def qic (v8:Int) (h8:List Int):Option (List Int):=vq.sem ⟨[.code (cIn (cIn (qGa (qba (qba (qba (qba (qba (qba (qha wg 225)))))))))), .inLoop (cIn (cIn (qGa (qba (qba (qba (qba (qba (qba (qha wg 225)))))))))), .inBlock 0, .code (qba (qba (qba (qba (qba (qba (qba (qha wg 225))))))))],⟨[(7,(.one (.ref (.int .i32) 8 0 (we h8) true))),(8,(.one (.int .i64 v8)))],[(8,some (.row (.int .i32) true h8))],9⟩⟩
theorem qUj (a0:List Int) (a1:Int):qBc a0 a1=(
if (decide (a1<(0:Int)))=true then
none
else
letI f:=(we a0)
(qXj (wd .u64 (wi f)) (wd .u64 a1)).bind fun r1=>
if (decide (r1.1>(0:Int)))=true then
none
else
if (decide (r1.2>(9223372036854775807:Int)))=true then
none
else
letI c:=(wd .i64 r1.2)
gd (c=c)<|
gd (0≤c)<|
gd (c*4≤140737488355328)<|
gd (c≤9223372036854775807)<|
letI d:=(wo (wn c) (0:Int))
letI e:=(min f (we d))
qic (wi e) (qKb d 0 (wK e a0))):=CE
theorem qke (v8:Int) (h8:List Int):qic v8 h8=(
letI g:=(we h8)
letI d:=(wi g)
if (decide (v8<d))=true then
gd (0≤v8)<|
gd (v8≤d)<|
gd (0≤v8)<|
gd (v8≤d)<|
letI f:=(wn v8)
letI e:=(wK (f - 0) (wW 0 h8))
letI c:=(min (we e) (g - f))
qic (wd .i64 (v8+(wi c))) (qKb h8 (0+f) (wK c e))
else
some (h8)):=SE
noncomputable def vYb:FN:={f:=223,cuts:=[],tab:=[SS vq],fm:=⟨true,[.val (.slice (.int .i32)) [.nw]]⟩}
noncomputable def qco (a0:Int) (a1:Int):Option (List Int):=vYb.call [(.int .i64 a0),(.int .i32 a1)] []
theorem qxr (a0:Int) (a1:Int):qco a0 a1=(
(qBc [a1] a0).bind fun r1=>
some (r1)):=CE
noncomputable def vbd:FN:={f:=187,cuts:=[⟨(5,3),[1,4,6,14,15],false,false,[],[],[]⟩],tab:=[SS vYb],fm:=⟨true,[.val qCa [], .val (.int .i64) []]⟩}
noncomputable def qFx (a0:Int) (a1:Int):Option (qAa×Int):=vbd.call [(.int .i64 a0),(.int .i32 a1)] []
noncomputable def qqj (v1:Int) (v14:Int) (v15:Int) (b8b:Unit) (b9b:Unit) (h10:List (List Int)) (h11:List (List Int)):Option (qAa×Int):=vbd.sem ⟨[.code (cIn (cIn (qba (qGa (qba (qba (qba (qha wg 187)))))))), .inLoop (cIn (cIn (qba (qGa (qba (qba (qba (qha wg 187)))))))), .inBlock 0, .code (qba (qba (qba (qba (qha wg 187)))))],⟨[(1,(.one (.int .i32 v1))),(4,(.one (.ptr qCa 8 []))),(6,(.one (.ptr qCa 9 []))),(14,(.one (.int .i64 v14))),(15,(.one (.int .i64 v15)))],[(8,some (.box qCa ((SV.ref 10 0 (we h10) true),b8b))),(9,some (.box qCa ((SV.ref 11 0 (we h11) true),b9b))),(10,some (.row (.slice (.int .i32)) true h10)),(11,some (.row (.slice (.int .i32)) true h11))],12⟩⟩
theorem qaE (a0:Int) (a1:Int):qFx a0 a1=(
if (decide (a0<(1:Int)))=true then
some (([],()),(2:Int))
else
if (decide (a0>(256:Int)))=true then
some (([],()),(2:Int))
else
qqj a1 a0 (0:Int) () () [] []):=CE
theorem qYo (v1:Int) (v14:Int) (v15:Int) (b8b:Unit) (b9b:Unit) (h10:List (List Int)) (h11:List (List Int)):qqj v1 v14 v15 b8b b9b h10 h11=(
if (decide (v15<v14))=true then
(qco (8:Int) v1).bind fun r1=>
gd ((we (h11++[r1]))*24≤140737488355328)<|
qqj v1 v14 (wd .i64 (v15+(1:Int))) b8b b9b h10 (h11++[r1])
else
some ((h11,b9b),(0:Int))):=SE
noncomputable def vFc:FN:={f:=224,cuts:=[],tab:=[],fm:=⟨true,[.val (.int .i64) []]⟩}
noncomputable def qbq (a0:Int):Option (Int):=vFc.call [(.int .i64 a0)] []
theorem qoB (a0:Int):qbq a0=(
gd (0≤a0)<|
some (wd .i64 (qLw .i64 (16:Int) a0))):=CE
noncomputable def vre:FN:={f:=188,cuts:=[],tab:=[SS vFc],fm:=⟨true,[.val qEa [], .val (.int .i64) []]⟩}
noncomputable def qJw (a0:Int):Option (qta×Int):=vre.call [(.int .i64 a0)] []
theorem qkD (a0:Int):qJw a0=(
if (decide (a0<(0:Int)))=true then
some (((0:Int),([],())),(2:Int))
else
if (decide (a0>(7:Int)))=true then
some (((0:Int),([],())),(2:Int))
else
(qbq a0).bind fun r1=>
gd (r1=r1)<|
gd (0≤r1)<|
gd (r1*16≤140737488355328)<|
gd (r1≤9223372036854775807)<|
some ((a0,((wo (wn r1) (qqa qAc)),())),(0:Int))):=CE
noncomputable def vqe:FN:={f:=189,cuts:=[],tab:=[SS vq],fm:=⟨true,[.val qDa [], .val (.int .i64) []]⟩}
noncomputable def qgz (a0:Int):Option (qra×Int):=vqe.call [(.int .i64 a0)] []
theorem qpF (a0:Int):qgz a0=(
if (decide (a0<(1:Int)))=true then
some (((0:Int),([],([],()))),(2:Int))
else
if (decide (a0>(1000:Int)))=true then
some (((0:Int),([],([],()))),(2:Int))
else
(qBc [(32768:Int)] (193:Int)).bind fun r1=>
gd ((193:Int)=(193:Int))<|
gd (0≤(193:Int))<|
gd ((193:Int)*4≤140737488355328)<|
gd ((193:Int)≤9223372036854775807)<|
some (((wd .i32 a0),(r1,((wo 193 (0:Int)),()))),(0:Int))):=CE
noncomputable def vga:FN:={f:=323,cuts:=[],tab:=[],fm:=⟨true,[.val (.int .i32) [], .val (.int .i64) []]⟩}
noncomputable def qok (a0:List Int):Option (Int×Int):=vga.call [(.sl (.int .u8) false a0)] []
noncomputable def vR:FN:={f:=318,cuts:=[⟨(2,3),[0,6,7,8],false,false,[],[],[]⟩],tab:=[SS vga],fm:=⟨true,[.val (.int .i32) [], .val (.int .i64) []]⟩}
noncomputable def qCe (a0:List Int):Option (Int×Int):=vR.call [(.sl (.int .u8) false a0)] []
noncomputable def qbg (v0:List Int) (v6:List Int) (v7:Int) (v8:Int):Option (Int×Int):=vR.sem ⟨[.code (cIn (cIn (qba (qGa (qba (qha wg 318)))))), .inLoop (cIn (cIn (qba (qGa (qba (qha wg 318)))))), .inBlock 0, .code (qba (qba (qha wg 318)))],⟨[(0,(.one (.sl (.int .u8) false v0))),(6,(.one (.sl (.int .u8) false v6))),(7,(.one (.int .i64 v7))),(8,(.one (.int .i64 v8)))],[],8⟩⟩
theorem qal (a0:List Int):qCe a0=(
qbg a0 a0 (wi (we a0)) (0:Int)):=CE
theorem qHj (v0:List Int) (v6:List Int) (v7:Int) (v8:Int):qbg v0 v6 v7 v8=(
letI d:=(qok v0)
if (decide (v8<v7))=true then
gd (0≤v8)<|
gd (v8<(wi (we v6)))<|
letI c:=(wk v6 (wn v8) (0:Int))
if (decide (c<(128:Int)))=true then
some ((wd .i32 c),(1:Int))
else
d.bind fun r1=>
some (r1)
else
d.bind fun r2=>
some (r2)):=SE
noncomputable def vod:FN:={f:=269,cuts:=[],tab:=[],fm:=⟨true,[.val .bool []]⟩}
noncomputable def qLu (a0:Int):Option (Bool):=vod.call [(.int .i32 a0)] []
theorem qWw (a0:Int):qLu a0=(
some (a0 != (0:Int))):=CE
noncomputable def vUa:FN:={f:=311,cuts:=[⟨(2,3),[0,1,2,7],false,false,[],[],[]⟩],tab:=[SS vR,SS vod],fm:=⟨true,[.val (.int .i64) []]⟩}
noncomputable def qCp (a0:List Int) (a2:Bool):Option (Int):=vUa.call [(.sl (.int .u8) false a0),(.func 269 []),(.bool a2)] []
noncomputable def qPd (v0:List Int) (v2:Bool) (v7:Int):Option (Int):=vUa.sem ⟨[.code (cIn (cIn (qGa (qba (qba (qha wg 311)))))), .inLoop (cIn (cIn (qGa (qba (qba (qha wg 311)))))), .inBlock 0, .code (qba (qba (qba (qha wg 311))))],⟨[(0,(.one (.sl (.int .u8) false v0))),(1,(.one (.func 269 []))),(2,(.one (.bool v2))),(7,(.one (.int .i64 v7)))],[],8⟩⟩
theorem qet (a0:List Int) (a2:Bool):qCp a0 a2=(
qPd a0 a2 (0:Int)):=CE
theorem qBj (v0:List Int) (v2:Bool) (v7:Int):qPd v0 v2 v7=(
letI c:=(wi (we v0))
if (decide (v7<c))=true then
gd (0≤v7)<|
gd (v7≤c)<|
(qCe (wW (wn v7) v0)).bind fun r1=>
(qLu r1.1).bind fun r2=>
if (r2==v2)=true then
some (v7)
else
qPd v0 v2 (wd .i64 (v7+r1.2))
else
some (-1:Int)):=SE
noncomputable def vpc:FN:={f:=304,cuts:=[],tab:=[SS vUa],fm:=⟨true,[.val (.int .i64) []]⟩}
noncomputable def qDp (a0:List Int):Option (Int):=vpc.call [(.sl (.int .u8) false a0),(.func 269 [])] []
theorem qft (a0:List Int):qDp a0=(
(qCp a0 true).bind fun r1=>
some (r1)):=CE
noncomputable def vmb:FN:={f:=268,cuts:=[],tab:=[SS vpc],fm:=⟨true,[.val .bool []]⟩}
noncomputable def qZh (a0:List Int):Option (Bool):=vmb.call [(.sl (.int .u8) false a0),(.func 269 [])] []
theorem qEp (a0:List Int):qZh a0=(
(qDp a0).bind fun r1=>
some (decide (r1≥(0:Int)))):=CE
noncomputable def vu:FN:={f:=226,cuts:=[],tab:=[SS vgc,SS vmb],fm:=⟨true,[.val (.int .i64) []]⟩}
noncomputable def qne (a0:qma):Option (Int):=vu.call [(.agg qna (inj false qna a0))] []
theorem quB (a0:qma):qne a0=(
if (decide (a0.1<(0:Int)))=true then
some (8:Int)
else
if (decide (a0.1>(7:Int)))=true then
some (8:Int)
else
(qpn a0.1).bind fun r1=>
letI c:=(wi (we a0.2.1))
if (c != r1)=true then
some (8:Int)
else
if (decide (a0.2.2.1<(0:Int)))=true then
some (8:Int)
else
if (decide (a0.2.2.1>(1073741824:Int)))=true then
some (8:Int)
else
if (decide (a0.2.2.1<c))=true then
gd (0≤a0.2.2.1)<|
gd (a0.2.2.1≤c)<|
(qZh (wW (wn a0.2.2.1) a0.2.1)).bind fun r2=>
if r2=true then
some (8:Int)
else
some (0:Int)
else
some (0:Int)):=CE
noncomputable def vud:FN:={f:=305,cuts:=[],tab:=[],fm:=⟨true,[.val (.int .u8) []]⟩}
noncomputable def qew (a0:qma) (a1:Int):Option (Int):=vud.call [(.agg qna (inj false qna a0)),(.int .i64 a1)] []
theorem qPF (a0:qma) (a1:Int):qew a0 a1=(
letI d:=(wi (we a0.2.1))
letI c:=(qeb .i64 (wd .i64 (a0.2.2.1 - a1)) (wd .i64 (d - (1:Int))))
gd (0≤c)<|
gd (c<d)<|
some (wk a0.2.1 (wn c) (0:Int))):=CE
noncomputable def vad:FN:={f:=270,cuts:=[],tab:=[SS vu,SS vud],fm:=⟨true,[.val (.int .u8) [], .val (.int .i64) []]⟩}
noncomputable def qps (a0:qma) (a1:Int):Option (Int×Int):=vad.call [(.agg qna (inj false qna a0)),(.int .i64 a1)] []
theorem quD (a0:qma) (a1:Int):qps a0 a1=(
(qne a0).bind fun r1=>
if (r1 != (0:Int))=true then
some ((0:Int),r1)
else
if (decide (a1<(1:Int)))=true then
some ((0:Int),(2:Int))
else
if (decide (a1>(wi (we a0.2.1))))=true then
some ((0:Int),(2:Int))
else
if (decide (a1>a0.2.2.1))=true then
some ((0:Int),(0:Int))
else
(qew a0 a1).bind fun r2=>
some (r2,(0:Int))):=CE
noncomputable def vka:FN:={f:=227,cuts:=[⟨(3,3),[2,5,6],false,false,[],[],[]⟩],tab:=[SS vad],fm:=⟨true,[.val (.slice (.int .u8)) [.nw]]⟩}
noncomputable def qAj (a0:qma) (a1:Int):Option (List Int):=vka.call [(.agg qna (inj false qna a0)),(.int .i64 a1)] []
noncomputable def qWh (v6:Int) (b8:qma) (h9:List Int):Option (List Int):=vka.sem ⟨[.code (cIn (cIn (qba (qGa (qba (qba (qha wg 227))))))), .inLoop (cIn (cIn (qba (qGa (qba (qba (qha wg 227))))))), .inBlock 0, .code (qba (qba (qba (qha wg 227))))],⟨[(2,(.one (.ptr qna 8 []))),(5,(.one (.ref (.int .u8) 9 0 (we h9) true))),(6,(.one (.int .i64 v6)))],[(8,some (.box qna (inj false qna b8))),(9,some (.row (.int .u8) true h9))],10⟩⟩
theorem qPy (a0:qma) (a1:Int):qAj a0 a1=(
qWh a1 a0 []):=CE
theorem qPl (v6:Int) (b8:qma) (h9:List Int):qWh v6 b8 h9=(
if (decide (v6>(0:Int)))=true then
(qps b8 v6).bind fun r1=>
gd ((we (h9++[r1.1]))*1≤140737488355328)<|
qWh (wd .i64 (v6 - (1:Int))) b8 (h9++[r1.1])
else
some (h9)):=SE
noncomputable def vhd:FN:={f:=271,cuts:=[],tab:=[],fm:=⟨true,[.val (.int .u32) [], .val (.int .i64) []]⟩}
noncomputable def qWu (a0:Int):Option (Int×Int):=vhd.call [(.int .i64 a0)] []
theorem qjy (a0:Int):qWu a0=(
if (decide (a0<(0:Int)))=true then
some ((0:Int),(2:Int))
else
if (decide (a0≥(8:Int)))=true then
some ((0:Int),(2:Int))
else
some ((wd .u32 ((2654435769:Int)*(wd .u32 (wd .i64 (a0+(1:Int)))))),(0:Int))):=CE
noncomputable def vIa:FN:={f:=272,cuts:=[⟨(2,3),[0,7,8,9],false,false,[],[],[]⟩],tab:=[],fm:=⟨true,[.val (.int .u32) []]⟩}
noncomputable def qHl (a0:Int) (a1:List Int):Option (Int):=vIa.call [(.int .u32 a0),(.sl (.int .u8) false a1)] []
noncomputable def qMf (v0:Int) (v7:List Int) (v8:Int) (v9:Int):Option (Int):=vIa.sem ⟨[.code (cIn (cIn (qba (qGa (qba (qha wg 272)))))), .inLoop (cIn (cIn (qba (qGa (qba (qha wg 272)))))), .inBlock 0, .code (qba (qba (qha wg 272)))],⟨[(0,(.one (.int .u32 v0))),(7,(.one (.sl (.int .u8) false v7))),(8,(.one (.int .i64 v8))),(9,(.one (.int .i64 v9)))],[],8⟩⟩
theorem qiy (a0:Int) (a1:List Int):qHl a0 a1=(
qMf a0 a1 (wi (we a1)) (0:Int)):=CE
theorem qGl (v0:Int) (v7:List Int) (v8:Int) (v9:Int):qMf v0 v7 v8 v9=(
if (decide (v9<v8))=true then
gd (0≤v9)<|
gd (v9<(wi (we v7)))<|
gd (0≤(15:Int))<|
letI c:=(wd .u32 ((qAb .u32 v0 (wd .u32 (wk v7 (wn v9) (0:Int))))*(16777619:Int)))
qMf (qAb .u32 c (wX c (32768:Int))) v7 v8 (wd .i64 (v9+(1:Int)))
else
some (v0)):=SE
noncomputable def vWb:FN:={f:=228,cuts:=[],tab:=[SS vhd,SS vIa],fm:=⟨true,[.val (.int .u32) [], .val (.int .i64) []]⟩}
noncomputable def qTm (a0:Int) (a1:List Int):Option (Int×Int):=vWb.call [(.int .i64 a0),(.sl (.int .u8) false a1)] []
theorem qsE (a0:Int) (a1:List Int):qTm a0 a1=(
(qWu a0).bind fun r1=>
if (r1.2 != (0:Int))=true then
some ((0:Int),r1.2)
else
if (decide ((wi (we a1))>(20000:Int)))=true then
some ((0:Int),(4:Int))
else
(qHl r1.1 a1).bind fun r2=>
some (r2,(0:Int))):=CE
noncomputable def vPc:FN:={f:=273,cuts:=[],tab:=[],fm:=⟨true,[.val (.int .u8) []]⟩}
noncomputable def qfk (a0:Int):Option (Int):=vPc.call [(.int .u8 a0)] []
theorem qRv (a0:Int):qfk a0=(
letI e:=(decide (a0≤(90:Int)))
letI d:=(decide (a0≥(65:Int)))
letI c:=(wd .u8 (a0+(32:Int)))
if (decide (a0≥(97:Int)))=true then
if (decide (a0≤(122:Int)))=true then
some (a0)
else
if d=true then
if e=true then
some c
else
some (0:Int)
else
some (0:Int)
else
if d=true then
if e=true then
some c
else
some (0:Int)
else
some (0:Int)):=CE
noncomputable def vNa:FN:={f:=229,cuts:=[⟨(3,3),[3,4],false,false,[],[],[]⟩,⟨(7,3),[5,27,28,29],false,false,[],[],[]⟩],tab:=[SS vka,SS vPc],fm:=⟨true,[.val (.slice (.int .u8)) [.nw]]⟩}
noncomputable def qxp (a0:qma):Option (List Int):=vNa.call [(.agg qna (inj false qna a0))] []
noncomputable def qVh (v4:Int) (h8:List Int):Option (List Int):=vNa.sem ⟨[.code (cIn (cIn (qGa (qba (qba (qba (qha wg 229))))))), .inLoop (cIn (cIn (qGa (qba (qba (qba (qha wg 229))))))), .inBlock 0, .code (qba (qba (qba (qba (qha wg 229)))))],⟨[(3,(.one (.ref (.int .u8) 8 0 (we h8) true))),(4,(.one (.int .i64 v4)))],[(8,some (.row (.int .u8) true h8))],9⟩⟩
noncomputable def que (v27o:Nat) (v27n:Nat) (v28:Int) (v29:Int) (h8:List Int) (h9:List Int):Option (List Int):=vNa.sem ⟨[.code (cIn (cIn (qba (qGa (qba (qba (qba (qba (qba (qha wg 229)))))))))), .inLoop (cIn (cIn (qba (qGa (qba (qba (qba (qba (qba (qha wg 229)))))))))), .inBlock 2, .code (qba (qba (qba (qba (qba (qba (qha wg 229)))))))],⟨[(5,(.one (.ref (.int .u8) 8 0 (we h8) true))),(27,(.one (.ref (.int .u8) 9 v27o v27n false))),(28,(.one (.int .i64 v28))),(29,(.one (.int .i64 v29)))],[(8,some (.row (.int .u8) true h8)),(9,some (.row (.int .u8) true h9))],10⟩⟩
theorem qOy (a0:qma):qxp a0=(
(qAj a0 (16:Int)).bind fun r1=>
qVh (wi (we r1)) r1):=CE
theorem qOl (v4:Int) (h8:List Int):qVh v4 h8=(
letI g:=(we h8)
letI f:=(wn v4)
letI e:=(wi g)
letI d:=(g - f)
if (decide (v4>(0:Int)))=true then
letI c:=(wd .i64 (v4 - (1:Int)))
gd (0≤c)<|
gd (c<e)<|
(qfk (wk h8 (0+(wn c)) (0:Int))).bind fun r2=>
if (r2 != (0:Int))=true then
qVh c h8
else
gd (0≤v4)<|
gd (v4≤e)<|
que (0+f) d (wi d) (0:Int) [] h8
else
gd (0≤v4)<|
gd (v4≤e)<|
que (0+f) d (wi d) (0:Int) [] h8):=SE
theorem qNl (v27o:Nat) (v27n:Nat) (v28:Int) (v29:Int) (h8:List Int) (h9:List Int):que v27o v27n v28 v29 h8 h9=(
if (decide (v29<v28))=true then
gd (0≤v29)<|
gd (v29<(wi v27n))<|
(qfk (wk h9 (v27o+(wn v29)) (0:Int))).bind fun r3=>
gd ((we (h8++[r3]))*1≤140737488355328)<|
que v27o v27n v28 (wd .i64 (v29+(1:Int))) (h8++[r3]) h9
else
some (h8)):=SE
noncomputable def vAa:FN:={f:=190,cuts:=[⟨(7,3),[1,2,4,6,17,18],false,false,[],[],[]⟩],tab:=[SS vu,SS vka,SS vWb,SS vNa],fm:=⟨true,[.val (.arr 6 (.int .u32)) [], .val (.int .i64) []]⟩}
noncomputable def qXf (a0:qma):Option ((List Int)×Int):=vAa.call [(.agg qna (inj false qna a0))] []
noncomputable def qXh (v17:(List Int)) (v18:Int) (b8:qma) (b9:(List Int)) (b10:(List Int)) (h11:List Int):Option ((List Int)×Int):=vAa.sem ⟨[.code (cIn (cIn (qba (qGa (qba (qba (qba (qba (qha wg 190))))))))), .inLoop (cIn (cIn (qba (qGa (qba (qba (qba (qba (qha wg 190))))))))), .inBlock 0, .code (qba (qba (qba (qba (qba (qha wg 190))))))],⟨[(1,(.one (.ptr qna 8 []))),(2,(.one (.ptr (.arr 6 (.int .u32)) 9 []))),(4,(.one (.ptr (.arr 6 (.int .u32)) 10 []))),(6,(.one (.ref (.int .u8) 11 0 (we h11) true))),(17,(.one (.agg (.arr 5 (.int .i64)) v17))),(18,(.one (.int .i64 v18)))],[(8,some (.box qna (inj false qna b8))),(9,some (.box (.arr 6 (.int .u32)) b9)),(10,some (.box (.arr 6 (.int .u32)) b10)),(11,some (.row (.int .u8) true h11))],12⟩⟩
theorem qLC (a0:qma):qXf a0=(
(qne a0).bind fun r1=>
letI c:=(wo 6 (0:Int))
if (r1 != (0:Int))=true then
some (c,r1)
else
(qAj a0 (6:Int)).bind fun r2=>
qXh (wF (wF (wF (wF (wF (wo 5 (0:Int)) 0 (1:Int)) 1 (2:Int)) 2 (3:Int)) 3 (4:Int)) 4 (6:Int)) (0:Int) a0 c c r2):=CE
theorem qno (v17:(List Int)) (v18:Int) (b8:qma) (b9:(List Int)) (b10:(List Int)) (h11:List Int):qXh v17 v18 b8 b9 b10 h11=(
if (decide (v18<(5:Int)))=true then
gd (0≤v18)<|
gd (v18<(5:Int))<|
letI e:=(wn v18)
letI c:=(wd .i64 ((6:Int) - (wk v17 e (0:Int))))
gd (0≤c)<|
letI d:=(we h11)
gd (c≤(wi d))<|
(qTm v18 (wK (d - (wn c)) (wW (0+(wn c)) h11))).bind fun r3=>
gd (0≤v18)<|
gd (v18<(6:Int))<|
qXh v17 (wd .i64 (v18+(1:Int))) b8 b9 (wF b10 e r3.1) h11
else
(qxp b8).bind fun r4=>
(qTm (5:Int) r4).bind fun r5=>
gd (0≤(5:Int))<|
gd ((5:Int)<(6:Int))<|
some ((wF b10 5 r5.1),(0:Int))):=SE
noncomputable def vE:FN:={f:=277,cuts:=[⟨(5,3),[0,3,4],false,false,[],[],[]⟩],tab:=[],fm:=⟨true,[.val (.int .u8) []]⟩}
noncomputable def qsd (a0:List Int):Option (Int):=vE.call [(.sl (.int .u8) false a0)] []
noncomputable def qPb (v0:List Int) (v3:Int) (v4:Int):Option (Int):=vE.sem ⟨[.code (cIn (cIn (qba (qGa (qba (qba (qba (qha wg 277)))))))), .inLoop (cIn (cIn (qba (qGa (qba (qba (qba (qha wg 277)))))))), .inBlock 0, .code (qba (qba (qba (qba (qha wg 277)))))],⟨[(0,(.one (.sl (.int .u8) false v0))),(3,(.one (.int .u8 v3))),(4,(.one (.int .i64 v4)))],[],8⟩⟩
theorem qem (a0:List Int):qsd a0=(
letI c:=(wi (we a0))
if (decide (c<(1:Int)))=true then
none
else
gd (0≤(0:Int))<|
gd ((0:Int)<c)<|
qPb a0 (wk a0 0 (0:Int)) (1:Int)):=CE
theorem qdf (v0:List Int) (v3:Int) (v4:Int):qPb v0 v3 v4=(
letI d:=(wi (we v0))
if (decide (v4<d))=true then
gd (0≤v4)<|
gd (v4<d)<|
letI c:=(wk v0 (wn v4) (0:Int))
qPb v0 (if c>v3 then c else v3) (wd .i64 (v4+(1:Int)))
else
some (v3)):=SE
noncomputable def vsa:FN:={f:=232,cuts:=[⟨(4,3),[23,24,25],false,false,[],[],[]⟩],tab:=[SS vFc,SS vE],fm:=⟨true,[.val (.int .i64) []]⟩}
noncomputable def qvk (a0:qta):Option (Int):=vsa.call [(.agg qEa (inj false qEa a0))] []
noncomputable def qpg (v23:List qye) (v24:Int) (v25:Int):Option (Int):=vsa.sem ⟨[.code (cIn (cIn (qba (qGa (qba (qba (qha wg 232))))))), .inLoop (cIn (cIn (qba (qGa (qba (qba (qha wg 232))))))), .inBlock 0, .code (qba (qba (qba (qha wg 232))))],⟨[(23,(.one (.sl qAc false v23))),(24,(.one (.int .i64 v24))),(25,(.one (.int .i64 v25)))],[],8⟩⟩
theorem qsz (a0:qta):qvk a0=(
if (decide (a0.1<(0:Int)))=true then
some (8:Int)
else
if (decide (a0.1>(7:Int)))=true then
some (8:Int)
else
(qbq a0.1).bind fun r1=>
letI c:=(wi (we a0.2.1))
if (c != r1)=true then
some (8:Int)
else
qpg a0.2.1 c (0:Int)):=CE
theorem qBm (v23:List qye) (v24:Int) (v25:Int):qpg v23 v24 v25=(
if (decide (v25<v24))=true then
gd (0≤v25)<|
gd (v25<(wi (we v23)))<|
(qsd (wK 15 (wW 0 (wk v23 (wn v25) (qqa qAc)).2.1))).bind fun r2=>
if (decide (r2≥(193:Int)))=true then
some (8:Int)
else
qpg v23 v24 (wd .i64 (v25+(1:Int)))
else
some (0:Int)):=SE
noncomputable def vKa:FN:={f:=250,cuts:=[],tab:=[],fm:=⟨true,[.val (.int .i64) [], .val (.int .i64) []]⟩}
noncomputable def quj (a0:Int) (a1:Int):Option (Int×Int):=vKa.call [(.int .u32 a0),(.int .i64 a1)] []
theorem qky (a0:Int) (a1:Int):quj a0 a1=(
if (decide (a1<(1:Int)))=true then
some ((0:Int),(2:Int))
else
if (decide (a1>(1048576:Int)))=true then
some ((0:Int),(2:Int))
else
letI c:=(wd .i64 (a1 - (1:Int)))
if ((qeb .i64 a1 c) != (0:Int))=true then
some ((0:Int),(2:Int))
else
some ((qeb .i64 (wd .i64 a0) c),(0:Int))):=CE
noncomputable def vid:FN:={f:=274,cuts:=[],tab:=[],fm:=⟨true,[.val (.int .u8) []]⟩}
noncomputable def qlp (a0:Int):Option (Int):=vid.call [(.int .u32 a0)] []
theorem qly (a0:Int):qlp a0=(
gd (0≤(24:Int))<|
some (wd .u8 (wX a0 (16777216:Int)))):=CE
noncomputable def vh:FN:={f:=257,cuts:=[],tab:=[],fm:=⟨true,[.val (.slice qAc) [.nw]]⟩}
noncomputable def qpb (a0:List qye):Option (List qye):=vh.call [(.sl qAc false a0)] []
theorem qDh (a0:List qye):qpb a0=(
qkF (fun (r1:Bool)=>r1=true→a0=[]) fun (r1:Bool)=>
if r1=true then
some ([])
else
gd ((we ([]++a0))*16≤140737488355328)<|
some ([]++a0)):=CE
noncomputable def vNd:FN:={f:=319,cuts:=[],tab:=[],fm:=⟨true,[.val (.int .i64) []]⟩}
noncomputable def qAw:Option (Int):=vNd.call [] []
theorem qoz:qAw=(
some (193:Int)):=CE
noncomputable def vJb:FN:={f:=312,cuts:=[],tab:=[SS vNd],fm:=⟨true,[.val qkb [], .val (.int .i64) []]⟩}
noncomputable def qgl (a0:Int):Option (qhb×Int):=vJb.call [(.int .u8 a0)] []
theorem qCw (a0:Int):qgl a0=(
(qAw).bind fun r1=>
if (decide ((wd .i64 a0)≥r1))=true then
some (((0:Int),((0:Int),((0:Int),()))),(2:Int))
else
if (a0==(0:Int))=true then
some (((0:Int),((0:Int),((0:Int),()))),(0:Int))
else
gd ((8:Int)≠0)<|
gd ((12:Int)≠0)<|
gd ((8:Int)≠0)<|
gd ((12:Int)≠0)<|
gd ((8:Int)≠0)<|
letI e:=(wd .i32 (wd .u8 (a0 - (1:Int))))
letI g:=(wd .i32 (wFa e (8:Int)))
letI c:=(wd .i32 (wFa g (12:Int)))
gd (0≤c)<|
gd (c<(2:Int))<|
letI f:=(wd .i32 ((1:Int) - c))
gd (0≤f)<|
gd (f<(2:Int))<|
gd (0≤(0:Int))<|
gd ((0:Int)<(2:Int))<|
gd (0≤(1:Int))<|
gd ((1:Int)<(2:Int))<|
letI d:=(wF (wF (wo 2 (0:Int)) (wn c) (wd .i32 ((wob g (12:Int))+(1:Int)))) (wn f) (wob e (8:Int)))
some (((wk d 0 (0:Int)),((wk d 1 (0:Int)),((wd .u8 c),()))),(0:Int))):=CE
noncomputable def vmd:FN:={f:=306,cuts:=[],tab:=[SS vJb],fm:=⟨true,[.val (.int .i32) [], .val (.int .i64) []]⟩}
noncomputable def qAo (a0:Int):Option (Int×Int):=vmd.call [(.int .u8 a0)] []
theorem qzw (a0:Int):qAo a0=(
(qgl a0).bind fun r1=>
some ((wd .i32 (r1.1.1+r1.1.2.1)),r1.2)):=CE
noncomputable def vIc:FN:={f:=275,cuts:=[],tab:=[SS vmd],fm:=⟨true,[.val (.int .i32) []]⟩}
noncomputable def qUi (a0:qye):Option (Int):=vIc.call [(.agg qAc (inj false qAc a0))] []
theorem qyt (a0:qye):qUi a0=(
gd (0≤(0:Int))<|
gd ((0:Int)<(15:Int))<|
(qAo (wk a0.2.1 0 (0:Int))).bind fun r1=>
some (r1.1)):=CE
noncomputable def vVd:FN:={f:=230,cuts:=[],tab:=[SS vsa,SS vKa,SS vid,SS vh,SS vIc],fm:=⟨true,[.val qEa [], .val (.int .i64) [], .val (.int .i64) []]⟩}
noncomputable def qzt (a0:qta) (a1:Int):Option (qta×Int×Int):=vVd.call [(.agg qEa (inj false qEa a0)),(.int .u32 a1)] []
theorem qpB (a0:qta) (a1:Int):qzt a0 a1=(
(qvk a0).bind fun r1=>
if (r1 != (0:Int))=true then
some (((0:Int),([],())),((0:Int),r1))
else
letI d:=(wi (we a0.2.1))
(quj a1 d).bind fun r2=>
if (r2.2 != (0:Int))=true then
some (((0:Int),([],())),((0:Int),r2.2))
else
(qlp a1).bind fun r3=>
(qpb a0.2.1).bind fun r4=>
gd (0≤r2.1)<|
gd (r2.1<d)<|
letI k:=(wn r2.1)
letI j:=(qqa qAc)
letI e:=(wk a0.2.1 k j)
if (e.1==r3)=true then
some ((a0.1,(r4,())),(r2.1,(0:Int)))
else
letI c:=(qAb .i64 r2.1 (1:Int))
gd (0≤c)<|
gd (c<d)<|
letI f:=(wk a0.2.1 (wn c) j)
if (f.1==r3)=true then
some ((a0.1,(r4,())),(c,(0:Int)))
else
gd (0≤c)<|
gd (c<d)<|
(qUi f).bind fun r5=>
gd (0≤r2.1)<|
gd (r2.1<d)<|
(qUi e).bind fun r6=>
letI i:=(wi (we r4))
letI g:=(wo 15 (0:Int))
if (decide (r5<r6))=true then
gd (0≤c)<|
gd (c<i)<|
some ((a0.1,((wF r4 (0+(wn c)) (r3,(g,()))),())),(c,(0:Int)))
else
gd (0≤r2.1)<|
gd (r2.1<i)<|
some ((a0.1,((wF r4 (0+k) (r3,(g,()))),())),(r2.1,(0:Int)))):=CE
noncomputable def vPa:FN:={f:=191,cuts:=[⟨(2,2),[0,6,7],false,false,[],[],[]⟩],tab:=[SS vVd],fm:=⟨false,[.box 0 qla [.pu,(.kp 1),(.kp 2), .pu, .pu, .pu, .pu], .row 1 qEa, .row 2 qDa]⟩}
noncomputable def qHf (a1:(List Int)) (b0a:Int) (b0ba:qma) (b0bbbb:(qAa×(qUa×(qIa×(qia×(qxa×((List Int)×((List Int)×Unit)))))))) (h1:List qta) (h2:List qra):Option (qja×List qta×List qra):=vPa.call [(.ptr qla 0 []),(.agg (.arr 6 (.int .u32)) a1)] [(0,(.box qla (b0a,((inj false qna b0ba),((SV.ref 1 0 (we h1) true),((SV.ref 2 0 (we h2) true),(inj false (.pair qCa (.pair qac (.pair qgb (.pair qwa (.pair qLa (.pair (.arr 6 (.int .u32)) (.pair (.arr 6 (.int .i64)) .unit))))))) b0bbbb))))))),(1,(.row qEa false h1)),(2,(.row qDa false h2))]
noncomputable def qNd (v6:(List Int)) (v7:Int) (b0a:Int) (b0ba:qma) (b0bbbb:(qAa×(qUa×(qIa×(qia×(qxa×((List Int)×((List Int)×Unit)))))))) (h1:List qta) (h2:List qra):Option (qja×List qta×List qra):=vPa.sem ⟨[.code (cIn (cIn (qba (qba (qha wg 191))))), .inLoop (cIn (cIn (qba (qba (qha wg 191))))), .inBlock 0],⟨[(0,(.one (.ptr qla 0 []))),(6,(.one (.agg (.arr 6 (.int .u32)) v6))),(7,(.one (.int .i64 v7)))],[(0,some (.box qla (b0a,((inj false qna b0ba),((SV.ref 1 0 (we h1) true),((SV.ref 2 0 (we h2) true),(inj false (.pair qCa (.pair qac (.pair qgb (.pair qwa (.pair qLa (.pair (.arr 6 (.int .u32)) (.pair (.arr 6 (.int .i64)) .unit))))))) b0bbbb))))))),(1,some (.row qEa false h1)),(2,some (.row qDa false h2))],11⟩⟩
theorem qts (a1:(List Int)) (b0a:Int) (b0ba:qma) (b0bbbb:(qAa×(qUa×(qIa×(qia×(qxa×((List Int)×((List Int)×Unit)))))))) (h1:List qta) (h2:List qra):qHf a1 b0a b0ba b0bbbb h1 h2=(
qNd a1 (0:Int) b0a b0ba b0bbbb h1 h2):=CE
theorem qnj (v6:(List Int)) (v7:Int) (b0a:Int) (b0ba:qma) (b0bbbb:(qAa×(qUa×(qIa×(qia×(qxa×((List Int)×((List Int)×Unit)))))))) (h1:List qta) (h2:List qra):qNd v6 v7 b0a b0ba b0bbbb h1 h2=(
if (decide (v7<(6:Int)))=true then
gd (0≤v7)<|
gd (v7<(6:Int))<|
gd (0≤v7)<|
letI d:=(wi (we h1))
gd (v7<d)<|
letI c:=(wn v7)
(qzt (wk h1 (0+c) (qqa qEa)) (wk v6 c (0:Int))).bind fun r1=>
gd (0≤v7)<|
gd (v7<d)<|
gd (0≤v7)<|
gd (v7<(6:Int))<|
qNd v6 (wd .i64 (v7+(1:Int))) b0a b0ba (b0bbbb.1,(b0bbbb.2.1,(b0bbbb.2.2.1,(b0bbbb.2.2.2.1,(b0bbbb.2.2.2.2.1,(b0bbbb.2.2.2.2.2.1,((wF b0bbbb.2.2.2.2.2.2.1 c r1.2.1),b0bbbb.2.2.2.2.2.2.2))))))) (wF h1 (0+c) r1.1) h2
else
some ((b0a,(b0ba,(h1,(h2,b0bbbb)))),(h1,h2))):=SE
noncomputable def qFm (acc:List AV→Bool):Summ wg GT:=vPa.summ mixed acc true false
end Go.Ab

set_option linter.unusedVariables false
set_option maxRecDepth 20000
namespace Go.Ab
open Go Go.Proofs
def t45Tab1:ByteArray:=(ByteArray.mk #[0,1,2,2,3,3,3,3,4,4,4,4,4,4,4,4,5,5,5,5,5,5,5,5,5,5,5,5,5,5,5,5,6,6,6,6,6,6,6,6,6,6,6,6,6,6,6,6,6,6,6,6,6,6,6,6,6,6,6,6,6,6,6,6,7,7,7,7,7,7,7,7,7,7,7,7,7,7,7,7,7,7,7,7,7,7,7,7,7,7,7,7,7,7,7,7,7,7,7,7,7,7,7,7,7,7,7,7,7,7,7,7,7,7,7,7,7,7,7,7,7,7,7,7,7,7,7,7,8,8,8,8,8,8,8,8,8,8,8,8,8,8,8,8,8,8,8,8,8,8,8,8,8,8,8,8,8,8,8,8,8,8,8,8,8,8,8,8,8,8,8,8,8,8,8,8,8,8,8,8,8,8,8,8,8,8,8,8,8,8,8,8,8,8,8,8,8,8,8,8,8,8,8,8,8,8,8,8,8,8,8,8,8,8,8,8,8,8,8,8,8,8,8,8,8,8,8,8,8,8,8,8,8,8,8,8,8,8,8,8,8,8,8,8,8,8,8,8,8,8,8,8,8,8,8,8])
noncomputable def vic:FN:={f:=151,cuts:=[⟨(8,3),[0,2,4,6,36],false,false,[],[],[]⟩],tab:=[SS vue,SS vme,SS vVb,SS vDc,SS vUd,SS vbd,SS vre,SS vqe,SS vAa,(qFm (fun _=>true)).dropping],fm:=⟨false,[.val qla [], .val (.int .i64) []]⟩}
noncomputable def qrr (a0:Int):Option (qja×Int):=vic.call [(.int .i64 a0)] []
noncomputable def qqg (v0:Int) (v36:Int) (b8a:Int) (b8baa:Int) (b8babb:qxa) (b8bbbbab:Unit) (b8bbbbbaab:Unit) (b8bbbbbabab:Unit) (b8bbbbbabb:Unit) (b8bbbbbbaa:Int) (b8bbbbbbabb:Unit) (b8bbbbbbb:(qia×(qxa×((List Int)×((List Int)×Unit))))) (b9:qma) (b10a:Int) (b10ba:qma) (b10bbbb:(qAa×(qUa×(qIa×(qia×(qxa×((List Int)×((List Int)×Unit)))))))) (h11:List Int) (h12:List qta) (h13:List qra) (h14:List (List Int)) (h15:List (List Int)) (h16:List (List Int)) (h17:List Int) (h18:List qta) (h19:List qra):Option (qja×Int):=vic.sem ⟨[.code (cIn (cIn (qba (qGa (qba (qba (qba (qba (qba (qba (qha wg 151))))))))))), .inLoop (cIn (cIn (qba (qGa (qba (qba (qba (qba (qba (qba (qha wg 151))))))))))), .inBlock 0, .code (qba (qba (qba (qba (qba (qba (qba (qha wg 151))))))))],⟨[(0,(.one (.int .i64 v0))),(2,(.one (.ptr qla 8 []))),(4,(.one (.ptr qna 9 []))),(6,(.one (.ptr qla 10 []))),(36,(.one (.int .i64 v36)))],[(8,some (.box qla (b8a,((b8baa,((SV.ref 11 0 (we h11) true),(inj false qLa b8babb))),((SV.ref 12 0 (we h12) true),((SV.ref 13 0 (we h13) true),(((SV.ref 14 0 (we h14) true),b8bbbbab),((((SV.ref 15 0 (we h15) true),b8bbbbbaab),(((SV.ref 16 0 (we h16) true),b8bbbbbabab),b8bbbbbabb)),((b8bbbbbbaa,((SV.ref 17 0 (we h17) true),b8bbbbbbabb)),(inj false (.pair qwa (.pair qLa (.pair (.arr 6 (.int .u32)) (.pair (.arr 6 (.int .i64)) .unit)))) b8bbbbbbb)))))))))),(9,some (.box qna (inj true qna b9))),(10,some (.box qla (b10a,((inj true qna b10ba),((SV.ref 18 0 (we h18) true),((SV.ref 19 0 (we h19) true),(inj true (.pair qCa (.pair qac (.pair qgb (.pair qwa (.pair qLa (.pair (.arr 6 (.int .u32)) (.pair (.arr 6 (.int .i64)) .unit))))))) b10bbbb))))))),(11,some (.row (.int .u8) true h11)),(12,some (.row qEa true h12)),(13,some (.row qDa true h13)),(14,some (.row (.slice (.int .i32)) true h14)),(15,some (.row (.slice (.int .i32)) true h15)),(16,some (.row (.slice (.int .i32)) true h16)),(17,some (.row (.int .i64) true h17)),(18,some (.row qEa true h18)),(19,some (.row qDa true h19))],20⟩⟩
theorem qyz (a0:Int):qrr a0=(
(qtB a0).bind fun r1=>
letI c:=(wo 6 (0:Int))
if (r1.2 != (0:Int))=true then
some (((0:Int),(((0:Int),([],((0:Int),()))),([],([],(([],()),((([],()),(([],()),())),(((0:Int),([],())),(((0:Int),((0:Int),())),(((0:Int),()),(c,(c,()))))))))))),(2:Int))
else
(qwy).bind fun r2=>
(qKs).bind fun r3=>
(qRt).bind fun r4=>
(qeu a0).bind fun r5=>
(qFx (256:Int) (16384:Int)).bind fun r6=>
qqg a0 (0:Int) (0:Int) (0:Int) ((0:Int),()) () () () () (0:Int) () (((0:Int),((0:Int),())),(((0:Int),()),(c,(c,())))) r1.1 a0 r1.1 (r6.1,(r2,(r5.1,(r3,(r4,(c,(c,()))))))) [] [] [] [] [] [] [] [] []):=CE
theorem qGm (v0:Int) (v36:Int) (b8a:Int) (b8baa:Int) (b8babb:qxa) (b8bbbbab:Unit) (b8bbbbbaab:Unit) (b8bbbbbabab:Unit) (b8bbbbbabb:Unit) (b8bbbbbbaa:Int) (b8bbbbbbabb:Unit) (b8bbbbbbb:(qia×(qxa×((List Int)×((List Int)×Unit))))) (b9:qma) (b10a:Int) (b10ba:qma) (b10bbbb:(qAa×(qUa×(qIa×(qia×(qxa×((List Int)×((List Int)×Unit)))))))) (h11:List Int) (h12:List qta) (h13:List qra) (h14:List (List Int)) (h15:List (List Int)) (h16:List (List Int)) (h17:List Int) (h18:List qta) (h19:List qra):qqg v0 v36 b8a b8baa b8babb b8bbbbab b8bbbbbaab b8bbbbbabab b8bbbbbabb b8bbbbbbaa b8bbbbbbabb b8bbbbbbb b9 b10a b10ba b10bbbb h11 h12 h13 h14 h15 h16 h17 h18 h19=(
if (decide (v36<(6:Int)))=true then
(qJw v0).bind fun r7=>
(qgz (255:Int)).bind fun r8=>
letI c:=(h18++[r7.1])
gd ((we c)*32≤140737488355328)<|
letI d:=(h19++[r8.1])
gd ((we d)*56≤140737488355328)<|
qqg v0 (wd .i64 (v36+(1:Int))) b8a b8baa b8babb b8bbbbab b8bbbbbaab b8bbbbbabab b8bbbbbabb b8bbbbbbaa b8bbbbbbabb b8bbbbbbb b9 b10a b10ba b10bbbb h11 h12 h13 h14 h15 h16 h17 c d
else
(qXf b9).bind fun r9=>
(qHf r9.1 b10a b10ba (b10bbbb.1,(b10bbbb.2.1,(b10bbbb.2.2.1,(b10bbbb.2.2.2.1,(b10bbbb.2.2.2.2.1,(r9.1,b10bbbb.2.2.2.2.2.2)))))) h18 h19).bind fun r10=>
some ((r10.1.1,(r10.1.2.1,(r10.2.1,(r10.2.2,r10.1.2.2.2.2)))),(0:Int))):=SE
noncomputable def vmc:FN:={f:=118,cuts:=[],tab:=[(SS vic).dropping],fm:=⟨false,[.val qla [], .val (.int .i64) []]⟩}
noncomputable def qQr (a0:Int) (a1:Int):Option (qja×Int):=vmc.call [(.int .i64 a0),(.int .i64 a1)] []
theorem qcr (a0:Int) (a1:Int):qQr a0 a1=(
(qrr a0).bind fun r1=>
if (r1.2==(0:Int))=true then
if (decide (a1>(4096:Int)))=true then
some (r1.1,(4:Int))
else
some (r1)
else
some (r1)):=CE
noncomputable def vd:FN:={f:=153,cuts:=[],tab:=[],fm:=⟨true,[.val (.slice (.int .u8)) [.nw]]⟩}
noncomputable def qub (a0:List Int):Option (List Int):=vd.call [(.sl (.int .u8) false a0)] []
theorem qgm (a0:List Int):qub a0=(
qkF (fun (r1:Bool)=>r1=true→a0=[]) fun (r1:Bool)=>
if r1=true then
some ([])
else
gd ((we ([]++a0))*1≤140737488355328)<|
some ([]++a0)):=CE
noncomputable def vBc:FN:={f:=192,cuts:=[],tab:=[],fm:=⟨true,[.val (.int .u8) []]⟩}
noncomputable def qnq (a0:List Int) (a1:Int):Option (Int):=vBc.call [(.sl (.int .u8) false a0),(.int .i64 a1)] []
theorem qEC (a0:List Int) (a1:Int):qnq a0 a1=(
letI c:=(wi (we a0))
if (decide (a1<c))=true then
gd (0≤a1)<|
gd (a1<c)<|
some (wk a0 (wn a1) (0:Int))
else
some (0:Int)):=CE
noncomputable def vBb:FN:={f:=152,cuts:=[⟨(2,3),[0,2,3],false,false,[],[],[]⟩],tab:=[SS vBc],fm:=⟨false,[.val qPa []]⟩}
noncomputable def qYs (a0:List Int):Option (qNa):=vBb.call [(.sl (.int .u8) false a0)] []
noncomputable def qXe (v0:List Int) (b8a:Int) (b8ba:Int) (b8bba:Int) (b8bbbb:qxa) (b9:qNa) (h10:List Int):Option (qNa):=vBb.sem ⟨[.code (cIn (cIn (qGa (qba (qba (qha wg 152)))))), .inLoop (cIn (cIn (qGa (qba (qba (qha wg 152)))))), .inBlock 0, .code (qba (qba (qba (qha wg 152))))],⟨[(0,(.one (.sl (.int .u8) false v0))),(2,(.one (.ptr qPa 8 []))),(3,(.one (.ptr qPa 9 [])))],[(8,some (.box qPa (b8a,(b8ba,(b8bba,((SV.ref 10 0 (we h10) true),(inj false qLa b8bbbb))))))),(9,some (.box qPa (inj false qPa b9))),(10,some (.row (.int .u8) true h10))],11⟩⟩
theorem qPv (a0:List Int):qYs a0=(
qXe a0 (0:Int) (0:Int) (0:Int) ((0:Int),()) ((0:Int),((4294967295:Int),((0:Int),(a0,((0:Int),()))))) []):=CE
theorem qSk (v0:List Int) (b8a:Int) (b8ba:Int) (b8bba:Int) (b8bbbb:qxa) (b9:qNa) (h10:List Int):qXe v0 b8a b8ba b8bba b8bbbb b9 h10=(
if (decide (b9.2.2.2.2.1<(4:Int)))=true then
gd (0≤(8:Int))<|
(qnq v0 b9.2.2.2.2.1).bind fun r1=>
qXe v0 b8a b8ba b8bba b8bbbb (b9.1,(b9.2.1,((qlc .u32 (wd .u32 (b9.2.2.1*(256:Int))) (wd .u32 r1)),(b9.2.2.2.1,((wd .i64 (b9.2.2.2.2.1+(1:Int))),b9.2.2.2.2.2))))) h10
else
some (b9)):=SE
noncomputable def vFd:FN:={f:=119,cuts:=[],tab:=[SS vd,(SS vBb).dropping],fm:=⟨false,[.val qPa [], .val (.int .i64) []]⟩}
noncomputable def qMr (a0:List Int):Option (qNa×Int):=vFd.call [(.sl (.int .u8) false a0)] []
theorem qbr (a0:List Int):qMr a0=(
if (decide ((wi (we a0))>(20000:Int)))=true then
some (((0:Int),((0:Int),((0:Int),([],((0:Int),()))))),(4:Int))
else
(qub a0).bind fun r1=>
(qYs r1).bind fun r2=>
some (r2,(0:Int))):=CE
noncomputable def vHc:FN:={f:=276,cuts:=[],tab:=[],fm:=⟨true,[.val .bool []]⟩}
noncomputable def qYq (a0:Int):Option (Bool):=vHc.call [(.int .i64 a0)] []
theorem qfu (a0:Int):qYq a0=(
if (decide (a0<(-1:Int)))=true then
some (true)
else
some (decide (a0>(1073741824:Int)))):=CE
noncomputable def vF:FN:={f:=177,cuts:=[⟨(2,3),[0,1,7,8],false,false,[],[],[]⟩],tab:=[SS vHc],fm:=⟨true,[.val (.int .i64) []]⟩}
noncomputable def qxf (a0:List Int):Option (Int):=vF.call [(.sl (.int .i64) false a0),(.func 276 [])] []
noncomputable def qob (v0:List Int) (v7:Int) (v8:Int):Option (Int):=vF.sem ⟨[.code (cIn (cIn (qba (qGa (qba (qha wg 177)))))), .inLoop (cIn (cIn (qba (qGa (qba (qha wg 177)))))), .inBlock 0, .code (qba (qba (qha wg 177)))],⟨[(0,(.one (.sl (.int .i64) false v0))),(1,(.one (.func 276 []))),(7,(.one (.int .i64 v7))),(8,(.one (.int .i64 v8)))],[],8⟩⟩
theorem qjj (a0:List Int):qxf a0=(
qob a0 (wi (we a0)) (0:Int)):=CE
theorem qLd (v0:List Int) (v7:Int) (v8:Int):qob v0 v7 v8=(
if (decide (v8<v7))=true then
gd (0≤v8)<|
gd (v8<(wi (we v0)))<|
(qYq (wk v0 (wn v8) (0:Int))).bind fun r1=>
if r1=true then
some (v8)
else
qob v0 v7 (wd .i64 (v8+(1:Int)))
else
some (-1:Int)):=SE
noncomputable def vY:FN:={f:=141,cuts:=[],tab:=[SS vF],fm:=⟨true,[.val .bool []]⟩}
noncomputable def qFc (a0:List Int):Option (Bool):=vY.call [(.sl (.int .i64) false a0),(.func 276 [])] []
theorem qCh (a0:List Int):qFc a0=(
(qxf a0).bind fun r1=>
some (decide (r1≥(0:Int)))):=CE
noncomputable def vMa:FN:={f:=231,cuts:=[],tab:=[SS vjb,SS vY],fm:=⟨true,[.val (.int .i64) []]⟩}
noncomputable def qwj (a0:qIa):Option (Int):=vMa.call [(.agg qgb (inj false qgb a0))] []
theorem quy (a0:qIa):qwj a0=(
if (decide (a0.1<(0:Int)))=true then
some (8:Int)
else
if (decide (a0.1>(7:Int)))=true then
some (8:Int)
else
(qZj a0.1).bind fun r1=>
if ((wi (we a0.2.1)) != r1)=true then
some (8:Int)
else
(qFc a0.2.1).bind fun r2=>
if r2=true then
some (8:Int)
else
some (0:Int)):=CE
noncomputable def vD:FN:={f:=281,cuts:=[⟨(5,3),[0,3,4],false,false,[],[],[]⟩],tab:=[],fm:=⟨true,[.val (.int .i32) []]⟩}
noncomputable def qrd (a0:List Int):Option (Int):=vD.call [(.sl (.int .i32) false a0)] []
noncomputable def qOb (v0:List Int) (v3:Int) (v4:Int):Option (Int):=vD.sem ⟨[.code (cIn (cIn (qba (qGa (qba (qba (qba (qha wg 281)))))))), .inLoop (cIn (cIn (qba (qGa (qba (qba (qba (qha wg 281)))))))), .inBlock 0, .code (qba (qba (qba (qba (qha wg 281)))))],⟨[(0,(.one (.sl (.int .i32) false v0))),(3,(.one (.int .i32 v3))),(4,(.one (.int .i64 v4)))],[],8⟩⟩
theorem qdm (a0:List Int):qrd a0=(
letI c:=(wi (we a0))
if (decide (c<(1:Int)))=true then
none
else
gd (0≤(0:Int))<|
gd ((0:Int)<c)<|
qOb a0 (wk a0 0 (0:Int)) (1:Int)):=CE
theorem qcf (v0:List Int) (v3:Int) (v4:Int):qOb v0 v3 v4=(
letI d:=(wi (we v0))
if (decide (v4<d))=true then
gd (0≤v4)<|
gd (v4<d)<|
letI c:=(wk v0 (wn v4) (0:Int))
qOb v0 (if c<v3 then c else v3) (wd .i64 (v4+(1:Int)))
else
some (v3)):=SE
noncomputable def vy:FN:={f:=282,cuts:=[⟨(5,3),[0,3,4],false,false,[],[],[]⟩],tab:=[],fm:=⟨true,[.val (.int .i32) []]⟩}
noncomputable def qtd (a0:List Int):Option (Int):=vy.call [(.sl (.int .i32) false a0)] []
noncomputable def qQb (v0:List Int) (v3:Int) (v4:Int):Option (Int):=vy.sem ⟨[.code (cIn (cIn (qba (qGa (qba (qba (qba (qha wg 282)))))))), .inLoop (cIn (cIn (qba (qGa (qba (qba (qba (qha wg 282)))))))), .inBlock 0, .code (qba (qba (qba (qba (qha wg 282)))))],⟨[(0,(.one (.sl (.int .i32) false v0))),(3,(.one (.int .i32 v3))),(4,(.one (.int .i64 v4)))],[],8⟩⟩
theorem qfm (a0:List Int):qtd a0=(
letI c:=(wi (we a0))
if (decide (c<(1:Int)))=true then
none
else
gd (0≤(0:Int))<|
gd ((0:Int)<c)<|
qQb a0 (wk a0 0 (0:Int)) (1:Int)):=CE
theorem qef (v0:List Int) (v3:Int) (v4:Int):qQb v0 v3 v4=(
letI d:=(wi (we v0))
if (decide (v4<d))=true then
gd (0≤v4)<|
gd (v4<d)<|
letI c:=(wk v0 (wn v4) (0:Int))
qQb v0 (if c>v3 then c else v3) (wd .i64 (v4+(1:Int)))
else
some (v3)):=SE
noncomputable def vJc:FN:={f:=278,cuts:=[],tab:=[SS vD,SS vy],fm:=⟨true,[.val .bool []]⟩}
noncomputable def qjk (a0:List Int) (a1:Int):Option (Bool):=vJc.call [(.sl (.int .i32) false a0),(.int .i32 a1)] []
theorem qWv (a0:List Int) (a1:Int):qjk a0 a1=(
if ((wi (we a0)) != (193:Int))=true then
some (true)
else
(qrd a0).bind fun r1=>
if (decide (r1<(0:Int)))=true then
some (true)
else
(qtd a0).bind fun r2=>
some (decide (r2>a1))):=CE
noncomputable def vnc:FN:={f:=234,cuts:=[],tab:=[SS vJc],fm:=⟨true,[.val (.int .i64) []]⟩}
noncomputable def qRn (a0:qra):Option (Int):=vnc.call [(.agg qDa (inj false qDa a0))] []
theorem qyA (a0:qra):qRn a0=(
if (decide (a0.1<(1:Int)))=true then
some (8:Int)
else
if (decide (a0.1>(1000:Int)))=true then
some (8:Int)
else
gd (0≤(1:Int))<|
gd ((1:Int)<(2:Int))<|
(qjk a0.2.1 (wk G_targets 1 (0:Int))).bind fun r1=>
if r1=true then
some (8:Int)
else
(qjk a0.2.2.1 a0.1).bind fun r2=>
if r2=true then
some (8:Int)
else
some (0:Int)):=CE
noncomputable def voc:FN:={f:=233,cuts:=[],tab:=[SS vnc],fm:=⟨true,[.val .bool []]⟩}
noncomputable def qWo (a0:qra):Option (Bool):=voc.call [(.agg qDa (inj false qDa a0))] []
theorem qrs (a0:qra):qWo a0=(
(qRn a0).bind fun r1=>
if (r1 != (0:Int))=true then
some (true)
else
some (a0.1 != (255:Int))):=CE
noncomputable def vk:FN:={f:=279,cuts:=[⟨(2,3),[0,1,7,8],false,false,[],[],[]⟩],tab:=[SS voc],fm:=⟨true,[.val (.int .i64) []]⟩}
noncomputable def qhd (a0:List qra):Option (Int):=vk.call [(.sl qDa false a0),(.func 233 [])] []
noncomputable def qZa (v0:List qra) (v7:Int) (v8:Int):Option (Int):=vk.sem ⟨[.code (cIn (cIn (qba (qGa (qba (qha wg 279)))))), .inLoop (cIn (cIn (qba (qGa (qba (qha wg 279)))))), .inBlock 0, .code (qba (qba (qha wg 279)))],⟨[(0,(.one (.sl qDa false v0))),(1,(.one (.func 233 []))),(7,(.one (.int .i64 v7))),(8,(.one (.int .i64 v8)))],[],8⟩⟩
theorem qzf (a0:List qra):qhd a0=(
qZa a0 (wi (we a0)) (0:Int)):=CE
theorem qqc (v0:List qra) (v7:Int) (v8:Int):qZa v0 v7 v8=(
if (decide (v8<v7))=true then
gd (0≤v8)<|
gd (v8<(wi (we v0)))<|
(qWo (wk v0 (wn v8) (qqa qDa))).bind fun r1=>
if r1=true then
some (v8)
else
qZa v0 v7 (wd .i64 (v8+(1:Int)))
else
some (-1:Int)):=SE
noncomputable def vx:FN:={f:=235,cuts:=[],tab:=[SS vk],fm:=⟨true,[.val .bool []]⟩}
noncomputable def qEb (a0:List qra):Option (Bool):=vx.call [(.sl qDa false a0),(.func 233 [])] []
theorem qRe (a0:List qra):qEb a0=(
(qhd a0).bind fun r1=>
some (decide (r1≥(0:Int)))):=CE
noncomputable def vsb:FN:={f:=193,cuts:=[⟨(6,3),[1,53,54,55],false,false,[],[],[]⟩],tab:=[SS vu,SS vMa,SS vsa,SS vx],fm:=⟨true,[.val .bool []]⟩}
noncomputable def qsn (a0:qja):Option (Bool):=vsb.call [(.agg qla (inj false qla a0))] []
noncomputable def qTe (v53:List qta) (v54:Int) (v55:Int) (b8:qja):Option (Bool):=vsb.sem ⟨[.code (cIn (cIn (qba (qGa (qba (qba (qba (qha wg 193)))))))), .inLoop (cIn (cIn (qba (qGa (qba (qba (qba (qha wg 193)))))))), .inBlock 0, .code (qba (qba (qba (qba (qha wg 193)))))],⟨[(1,(.one (.ptr qla 8 []))),(53,(.one (.sl qEa false v53))),(54,(.one (.int .i64 v54))),(55,(.one (.int .i64 v55)))],[(8,some (.box qla (inj false qla b8)))],9⟩⟩
theorem qtv (a0:qja):qsn a0=(
if (decide (a0.1<(0:Int)))=true then
some (false)
else
if (decide (a0.1>(7:Int)))=true then
some (false)
else
letI c:=(wi (we a0.2.2.1))
if (c != (6:Int))=true then
some (false)
else
if ((wi (we a0.2.2.2.1)) != (6:Int))=true then
some (false)
else
(qne a0.2.1).bind fun r1=>
if (r1 != (0:Int))=true then
some (false)
else
if (a0.2.1.1 != a0.1)=true then
some (false)
else
(qwj a0.2.2.2.2.2.2.1).bind fun r2=>
if (r2 != (0:Int))=true then
some (false)
else
if (a0.2.2.2.2.2.2.1.1 != a0.1)=true then
some (false)
else
qTe a0.2.2.1 c (0:Int) a0):=CE
theorem qBk (v53:List qta) (v54:Int) (v55:Int) (b8:qja):qTe v53 v54 v55 b8=(
if (decide (v55<v54))=true then
gd (0≤v55)<|
gd (v55<(wi (we v53)))<|
letI e:=(wn v55)
letI c:=(wk v53 e (qqa qEa))
(qvk c).bind fun r3=>
if (r3 != (0:Int))=true then
some (false)
else
if (c.1 != b8.1)=true then
some (false)
else
gd (0≤v55)<|
gd (v55<(6:Int))<|
letI d:=(wk b8.2.2.2.2.2.2.2.2.2.2.1 e (0:Int))
if (decide (d<(0:Int)))=true then
some (false)
else
gd (0≤v55)<|
gd (v55<(6:Int))<|
if (decide (d≥(wi (we c.2.1))))=true then
some (false)
else
qTe v53 v54 (wd .i64 (v55+(1:Int))) b8
else
(qEb b8.2.2.2.1).bind fun r4=>
some (not r4)):=SE
noncomputable def vRc:FN:={f:=236,cuts:=[],tab:=[],fm:=⟨true,[.val .bool []]⟩}
noncomputable def qFs (a0:List Int):Option (Bool):=vRc.call [(.sl (.int .i32) false a0)] []
theorem qyv (a0:List Int):qFs a0=(
some ((wi (we a0)) != (8:Int))):=CE
noncomputable def vz:FN:={f:=280,cuts:=[⟨(2,3),[0,1,7,8],false,false,[],[],[]⟩],tab:=[SS vRc],fm:=⟨true,[.val (.int .i64) []]⟩}
noncomputable def qgf (a0:List (List Int)):Option (Int):=vz.call [(.sl (.slice (.int .i32)) false a0),(.func 236 [])] []
noncomputable def qjb (v0:List (List Int)) (v7:Int) (v8:Int):Option (Int):=vz.sem ⟨[.code (cIn (cIn (qba (qGa (qba (qha wg 280)))))), .inLoop (cIn (cIn (qba (qGa (qba (qha wg 280)))))), .inBlock 0, .code (qba (qba (qha wg 280)))],⟨[(0,(.one (.sl (.slice (.int .i32)) false v0))),(1,(.one (.func 236 []))),(7,(.one (.int .i64 v7))),(8,(.one (.int .i64 v8)))],[],8⟩⟩
theorem qBi (a0:List (List Int)):qgf a0=(
qjb a0 (wi (we a0)) (0:Int)):=CE
theorem qDd (v0:List (List Int)) (v7:Int) (v8:Int):qjb v0 v7 v8=(
if (decide (v8<v7))=true then
gd (0≤v8)<|
gd (v8<(wi (we v0)))<|
(qFs (wk v0 (wn v8) [])).bind fun r1=>
if r1=true then
some (v8)
else
qjb v0 v7 (wd .i64 (v8+(1:Int)))
else
some (-1:Int)):=SE
noncomputable def vT:FN:={f:=237,cuts:=[],tab:=[SS vz],fm:=⟨true,[.val .bool []]⟩}
noncomputable def qyc (a0:List (List Int)):Option (Bool):=vT.call [(.sl (.slice (.int .i32)) false a0),(.func 236 [])] []
theorem qth (a0:List (List Int)):qyc a0=(
(qgf a0).bind fun r1=>
some (decide (r1≥(0:Int)))):=CE
noncomputable def vhc:FN:={f:=194,cuts:=[],tab:=[SS vT],fm:=⟨true,[.val (.int .i64) []]⟩}
noncomputable def qxn (a0:qAa):Option (Int):=vhc.call [(.agg qCa (inj false qCa a0))] []
theorem qIz (a0:qAa):qxn a0=(
letI c:=(wi (we a0.1))
if (decide (c<(1:Int)))=true then
some (8:Int)
else
if (decide (c>(256:Int)))=true then
some (8:Int)
else
(qyc a0.1).bind fun r1=>
if r1=true then
some (8:Int)
else
some (0:Int)):=CE
noncomputable def vFa:FN:={f:=238,cuts:=[⟨(4,3),[16,17,18],false,false,[],[],[]⟩],tab:=[SS vD,SS vy],fm:=⟨true,[.val (.int .i64) []]⟩}
noncomputable def qsl (a0:qAa):Option (Int):=vFa.call [(.agg qCa (inj false qCa a0))] []
noncomputable def qEf (v16:List (List Int)) (v17:Int) (v18:Int):Option (Int):=vFa.sem ⟨[.code (cIn (cIn (qba (qGa (qba (qba (qha wg 238))))))), .inLoop (cIn (cIn (qba (qGa (qba (qba (qha wg 238))))))), .inBlock 0, .code (qba (qba (qba (qha wg 238))))],⟨[(16,(.one (.sl (.slice (.int .i32)) false v16))),(17,(.one (.int .i64 v17))),(18,(.one (.int .i64 v18)))],[],8⟩⟩
theorem qdx (a0:qAa):qsl a0=(
letI c:=(wi (we a0.1))
if (decide (c<(1:Int)))=true then
some (8:Int)
else
if (decide (c>(256:Int)))=true then
some (8:Int)
else
qEf a0.1 c (0:Int)):=CE
theorem qrl (v16:List (List Int)) (v17:Int) (v18:Int):qEf v16 v17 v18=(
if (decide (v18<v17))=true then
gd (0≤v18)<|
gd (v18<(wi (we v16)))<|
letI c:=(wn v18)
if ((wi (we (wk v16 c []))) != (33:Int))=true then
some (8:Int)
else
(qrd (wk v16 c [])).bind fun r1=>
if (decide (r1<(0:Int)))=true then
some (8:Int)
else
(qtd (wk v16 c [])).bind fun r2=>
if (decide (r2>(65535:Int)))=true then
some (8:Int)
else
qEf v16 v17 (wd .i64 (v18+(1:Int)))
else
some (0:Int)):=SE
noncomputable def vta:FN:={f:=195,cuts:=[⟨(2,3),[9,10,11],false,false,[],[],[]⟩],tab:=[SS vFa],fm:=⟨true,[.val (.int .i64) []]⟩}
noncomputable def qQk (a0:qUa):Option (Int):=vta.call [(.agg qac (inj false qac a0))] []
noncomputable def qom (v10:Int) (v11:Int) (h8:List qAa):Option (Int):=vta.sem ⟨[.code (cIn (cIn (qba (qGa (qba (qha wg 195)))))), .inLoop (cIn (cIn (qba (qGa (qba (qha wg 195)))))), .inBlock 0, .code (qba (qba (qha wg 195)))],⟨[(9,(.one (.ref qCa 8 0 (we h8) true))),(10,(.one (.int .i64 v10))),(11,(.one (.int .i64 v11)))],[(8,some (.row qCa false h8))],9⟩⟩
theorem qZz (a0:qUa):qQk a0=(
qom (2:Int) (0:Int) [a0.1,a0.2.1]):=CE
theorem qIi (v10:Int) (v11:Int) (h8:List qAa):qom v10 v11 h8=(
if (decide (v11<v10))=true then
gd (0≤v11)<|
gd (v11<(wi (we h8)))<|
letI c:=(wk h8 (0+(wn v11)) (qqa qCa))
(qsl c).bind fun r1=>
if (r1 != (0:Int))=true then
some (8:Int)
else
if ((wi (we c.1)) != (256:Int))=true then
some (8:Int)
else
qom v10 (wd .i64 (v11+(1:Int))) h8
else
some (0:Int)):=SE
noncomputable def vbb:FN:={f:=196,cuts:=[],tab:=[SS vVb],fm:=⟨true,[.val (.int .i64) []]⟩}
noncomputable def qIk (a0:qia):Option (Int):=vbb.call [(.agg qwa (inj false qwa a0))] []
theorem qMz (a0:qia):qIk a0=(
(qKs).bind fun r1=>
if (peq qwa a0 r1)=true then
some (0:Int)
else
if (decide (a0.1≥(0:Int)))=true then
if (decide (a0.1≤(1073741824:Int)))=true then
if (decide (a0.2.1≥(1:Int)))=true then
if (decide (a0.2.1≤(40:Int)))=true then
some (0:Int)
else
some (8:Int)
else
some (8:Int)
else
some (8:Int)
else
some (8:Int)):=CE
noncomputable def vV:FN:={f:=197,cuts:=[],tab:=[],fm:=⟨true,[.val (.int .i64) []]⟩}
noncomputable def qIf (a0:qxa):Option (Int):=vV.call [(.agg qLa (inj false qLa a0))] []
theorem qBx (a0:qxa):qIf a0=(
if (decide (a0.1<(1:Int)))=true then
some (8:Int)
else
if (decide (a0.1>(255:Int)))=true then
some (8:Int)
else
some (0:Int)):=CE
noncomputable def vnb:FN:={f:=154,cuts:=[],tab:=[SS vsb,SS vhc,SS vta,SS vbb,SS vV,SS vAa],fm:=⟨true,[.val (.int .i64) []]⟩}
noncomputable def qWj (a0:qja):Option (Int):=vnb.call [(.agg qla (inj false qla a0))] []
theorem quv (a0:qja):qWj a0=(
(qsn a0).bind fun r1=>
if (not r1)=true then
some (8:Int)
else
(qxn a0.2.2.2.2.1).bind fun r2=>
if (r2 != (0:Int))=true then
some (8:Int)
else
if ((wi (we a0.2.2.2.2.1.1)) != (256:Int))=true then
some (8:Int)
else
(qQk a0.2.2.2.2.2.1).bind fun r3=>
if (r3 != (0:Int))=true then
some (8:Int)
else
(qIk a0.2.2.2.2.2.2.2.1).bind fun r4=>
if (r4 != (0:Int))=true then
some (8:Int)
else
(qIf a0.2.2.2.2.2.2.2.2.1).bind fun r5=>
if (r5 != (0:Int))=true then
some (8:Int)
else
(qXf a0.2.1).bind fun r6=>
if (not (peq (.arr 6 (.int .u32)) r6.1 a0.2.2.2.2.2.2.2.2.2.1))=true then
some (8:Int)
else
some (0:Int)):=CE
noncomputable def vqc:FN:={f:=176,cuts:=[],tab:=[],fm:=⟨true,[.val (.int .i64) []]⟩}
noncomputable def qdp (a0:Int):Option (Int):=vqc.call [(.int .u64 a0)] []
theorem qBl (a0:Int):qdp a0=(
if (decide (a0≥(4294967296:Int)))=true then
gd (0≤(32:Int))<|
letI c:=(wX a0 (4294967296:Int))
if (decide (c≥(65536:Int)))=true then
gd (0≤(16:Int))<|
letI e:=(wX c (65536:Int))
if (decide (e≥(256:Int)))=true then
gd (0≤(8:Int))<|
letI g:=(wd .u8 (wX e (256:Int)))
gd (0≤g)<|
gd (g<(t45Tab1.size:Int))<|
some (wd .i64 ((56:Int)+(wd .i64 (qlw t45Tab1 (wn g)))))
else
letI l:=(wd .u8 e)
gd (0≤l)<|
gd (l<(t45Tab1.size:Int))<|
some (wd .i64 ((48:Int)+(wd .i64 (qlw t45Tab1 (wn l)))))
else
if (decide (c≥(256:Int)))=true then
gd (0≤(8:Int))<|
letI i:=(wd .u8 (wX c (256:Int)))
gd (0≤i)<|
gd (i<(t45Tab1.size:Int))<|
some (wd .i64 ((40:Int)+(wd .i64 (qlw t45Tab1 (wn i)))))
else
letI m:=(wd .u8 c)
gd (0≤m)<|
gd (m<(t45Tab1.size:Int))<|
some (wd .i64 ((32:Int)+(wd .i64 (qlw t45Tab1 (wn m)))))
else
if (decide (a0≥(65536:Int)))=true then
gd (0≤(16:Int))<|
letI d:=(wX a0 (65536:Int))
if (decide (d≥(256:Int)))=true then
gd (0≤(8:Int))<|
letI j:=(wd .u8 (wX d (256:Int)))
gd (0≤j)<|
gd (j<(t45Tab1.size:Int))<|
some (wd .i64 ((24:Int)+(wd .i64 (qlw t45Tab1 (wn j)))))
else
letI n:=(wd .u8 d)
gd (0≤n)<|
gd (n<(t45Tab1.size:Int))<|
some (wd .i64 ((16:Int)+(wd .i64 (qlw t45Tab1 (wn n)))))
else
if (decide (a0≥(256:Int)))=true then
gd (0≤(8:Int))<|
letI f:=(wd .u8 (wX a0 (256:Int)))
gd (0≤f)<|
gd (f<(t45Tab1.size:Int))<|
some (wd .i64 ((8:Int)+(wd .i64 (qlw t45Tab1 (wn f)))))
else
letI k:=(wd .u8 a0)
gd (0≤k)<|
gd (k<(t45Tab1.size:Int))<|
some (wd .i64 ((0:Int)+(wd .i64 (qlw t45Tab1 (wn k)))))):=CE
noncomputable def vxa:FN:={f:=130,cuts:=[],tab:=[SS vqc],fm:=⟨true,[.val (.int .i64) []]⟩}
noncomputable def qHe (a0:Int):Option (Int):=vxa.call [(.int .u64 a0)] []
theorem qdo (a0:Int):qHe a0=(
(qdp a0).bind fun r1=>
some (r1)):=CE
noncomputable def vOd:FN:={f:=239,cuts:=[],tab:=[SS vxa],fm:=⟨true,[.val (.int .i64) []]⟩}
noncomputable def qAx (a0:Int):Option (Int):=vOd.call [(.int .i64 a0)] []
theorem qAz (a0:Int):qAx a0=(
(qHe (wd .u64 a0)).bind fun r1=>
letI d:=(wd .i64 (r1 - (1:Int)))
if (decide (d<(4:Int)))=true then
some (a0)
else
letI e:=(wd .i64 (d - (4:Int)))
gd (0≤e)<|
letI c:=(wd .i64 (qLw .i64 (1:Int) e))
gd (c≠0)<|
some (wd .i64 (c+(wob a0 c)))):=CE
noncomputable def vyd:FN:={f:=198,cuts:=[],tab:=[SS vV,SS vOd],fm:=⟨true,[.val (.int .i64) [], .val (.int .i64) []]⟩}
noncomputable def qur (a0:qxa):Option (Int×Int):=vyd.call [(.agg qLa (inj false qLa a0))] []
theorem qCz (a0:qxa):qur a0=(
(qIf a0).bind fun r1=>
if (r1 != (0:Int))=true then
some ((0:Int),r1)
else
(qAx a0.1).bind fun r2=>
some (r2,(0:Int))):=CE
noncomputable def vtd:FN:={f:=240,cuts:=[],tab:=[SS vsa],fm:=⟨true,[.val (.int .i64) []]⟩}
noncomputable def qbw (a0:qta) (a1:Int) (a2:Int):Option (Int):=vtd.call [(.agg qEa (inj false qEa a0)),(.int .i64 a1),(.int .i64 a2)] []
theorem qFF (a0:qta) (a1:Int) (a2:Int):qbw a0 a1 a2=(
(qvk a0).bind fun r1=>
if (r1 != (0:Int))=true then
some (r1)
else
if (decide (a1<(0:Int)))=true then
some (2:Int)
else
if (decide (a1≥(wi (we a0.2.1))))=true then
some (2:Int)
else
if (decide (a2<(1:Int)))=true then
some (2:Int)
else
if (decide (a2>(15:Int)))=true then
some (2:Int)
else
some (0:Int)):=CE
noncomputable def vXc:FN:={f:=199,cuts:=[],tab:=[SS vtd],fm:=⟨true,[.val (.int .u8) [], .val (.int .i64) []]⟩}
noncomputable def qhs (a0:qta) (a1:Int) (a2:Int):Option (Int×Int):=vXc.call [(.agg qEa (inj false qEa a0)),(.int .i64 a1),(.int .i64 a2)] []
theorem qlD (a0:qta) (a1:Int) (a2:Int):qhs a0 a1 a2=(
(qbw a0 a1 a2).bind fun r1=>
if (r1 != (0:Int))=true then
some ((0:Int),r1)
else
gd (0≤a1)<|
gd (a1<(wi (we a0.2.1)))<|
letI c:=(wd .i64 (a2 - (1:Int)))
gd (0≤c)<|
gd (c<(15:Int))<|
some ((wk (wk a0.2.1 (wn a1) (qqa qAc)).2.1 (wn c) (0:Int)),(0:Int))):=CE
noncomputable def vsd:FN:={f:=241,cuts:=[],tab:=[SS vnc],fm:=⟨true,[.val (.int .i64) []]⟩}
noncomputable def qow (a0:qra) (a1:Int):Option (Int):=vsd.call [(.agg qDa (inj false qDa a0)),(.int .u8 a1)] []
theorem qWG (a0:qra) (a1:Int):qow a0 a1=(
(qRn a0).bind fun r1=>
if (r1 != (0:Int))=true then
some (r1)
else
if (decide (a1≥(193:Int)))=true then
some (2:Int)
else
some (0:Int)):=CE
noncomputable def vxe:FN:={f:=200,cuts:=[],tab:=[SS vsd],fm:=⟨true,[.val (.int .i32) [], .val (.int .i64) []]⟩}
noncomputable def qXG (a0:qra) (a1:Int):Option (Int×Int):=vxe.call [(.agg qDa (inj false qDa a0)),(.int .u8 a1)] []
theorem qUJ (a0:qra) (a1:Int):qXG a0 a1=(
(qow a0 a1).bind fun r1=>
if (r1 != (0:Int))=true then
some ((0:Int),r1)
else
gd (0≤a1)<|
gd (a1<(wi (we a0.2.1)))<|
some ((wk a0.2.1 (wn a1) (0:Int)),(0:Int))):=CE
noncomputable def vXb:FN:={f:=243,cuts:=[],tab:=[SS vza],fm:=⟨true,[.val .bool [], .box 0 (.int .i32) []]⟩}
noncomputable def qVn (a0:Int) (b0:Int):Option (Bool×Int):=vXb.call [(.int .i64 a0),(.ptr (.int .i32) 0 [])] [(0,(.box (.int .i32) b0))]
theorem qir (a0:Int) (b0:Int):qVn a0 b0=(
(qxh (wd .i32 ((wd .i32 a0) - (2047:Int)))).bind fun r1=>
some ((decide (r1≥b0)),b0)):=CE
noncomputable def vkc:FN:={f:=242,cuts:=[⟨(2,3),[1,5,6],false,false,[],[],[]⟩],tab:=[SS vXb],fm:=⟨true,[.val (.int .i64) [], .box 0 (.int .i32) []]⟩}
noncomputable def qHw (a0:Int) (b0:Int):Option (Int×Int):=vkc.call [(.int .i64 a0),(.func 243 [0])] [(0,(.box (.int .i32) b0))]
noncomputable def qog (v5:Int) (v6:Int) (b0:Int):Option (Int×Int):=vkc.sem ⟨[.code (cIn (cIn (qGa (qba (qba (qha wg 242)))))), .inLoop (cIn (cIn (qGa (qba (qba (qha wg 242)))))), .inBlock 0, .code (qba (qba (qba (qha wg 242))))],⟨[(1,(.one (.func 243 [0]))),(5,(.one (.int .i64 v5))),(6,(.one (.int .i64 v6)))],[(0,some (.box (.int .i32) b0))],9⟩⟩
theorem qrz (a0:Int) (b0:Int):qHw a0 b0=(
qog (0:Int) a0 b0):=CE
theorem qAm (v5:Int) (v6:Int) (b0:Int):qog v5 v6 b0=(
if (decide (v5<v6))=true then
gd (0≤(1:Int))<|
letI c:=(wd .i64 (wX (wd .u64 (wd .i64 (v5+v6))) (2:Int)))
(qVn c b0).bind fun r1=>
if (not r1.1)=true then
qog (wd .i64 (c+(1:Int))) v6 r1.2
else
qog v5 c r1.2
else
some (v5,b0)):=SE
noncomputable def vAc:FN:={f:=201,cuts:=[],tab:=[SS vkc],fm:=⟨true,[.val (.int .i32) []]⟩}
noncomputable def qcm (a0:Int):Option (Int):=vAc.call [(.int .i32 a0)] []
theorem qwt (a0:Int):qcm a0=(
(qHw (4094:Int) a0).bind fun r1=>
some (wd .i32 ((wd .i32 r1.1) - (2047:Int)))):=CE
noncomputable def vwe:FN:={f:=283,cuts:=[],tab:=[SS vu,SS vud],fm:=⟨true,[.val (.int .u8) [], .val .bool [], .val (.int .i64) []]⟩}
noncomputable def qRF (a0:qma) (a1:Int):Option (Int×Bool×Int):=vwe.call [(.agg qna (inj false qna a0)),(.int .i64 a1)] []
theorem qXI (a0:qma) (a1:Int):qRF a0 a1=(
(qne a0).bind fun r1=>
if (r1 != (0:Int))=true then
some ((0:Int),(false,r1))
else
if (decide (a1<(0:Int)))=true then
some ((0:Int),(false,(2:Int)))
else
if (decide (a1≥a0.2.2.1))=true then
some ((0:Int),(false,(0:Int)))
else
letI c:=(wd .i64 (a0.2.2.1 - a1))
if (decide (c>(wi (we a0.2.1))))=true then
some ((0:Int),(false,(0:Int)))
else
(qew a0 c).bind fun r2=>
some (r2,(true,(0:Int)))):=CE
noncomputable def vNb:FN:={f:=245,cuts:=[],tab:=[SS vwe],fm:=⟨true,[.val (.int .u8) [], .val .bool []]⟩}
noncomputable def qDl (a0:qia) (a1:qma):Option (Int×Bool):=vNb.call [(.agg qwa (inj false qwa a0)),(.agg qna (inj false qna a1))] []
theorem qPx (a0:qia) (a1:qma):qDl a0 a1=(
if (decide (a0.1<(0:Int)))=true then
some ((0:Int),false)
else
(qRF a1 a0.1).bind fun r1=>
some (r1.1,r1.2.1)):=CE
noncomputable def vfc:FN:={f:=246,cuts:=[⟨(6,3),[1,5,6],false,false,[],[],[]⟩],tab:=[SS vV,SS vxa],fm:=⟨true,[.val (.slice .bool) [.nw], .val (.int .i64) []]⟩}
noncomputable def qvr (a0:qxa):Option (List Bool×Int):=vfc.call [(.agg qLa (inj false qLa a0))] []
noncomputable def qXi (v6:Int) (b8:qxa) (h9:List Bool):Option (List Bool×Int):=vfc.sem ⟨[.code (cIn (cIn (qba (qGa (qba (qba (qba (qha wg 246)))))))), .inLoop (cIn (cIn (qba (qGa (qba (qba (qba (qha wg 246)))))))), .inBlock 0, .code (qba (qba (qba (qba (qha wg 246)))))],⟨[(1,(.one (.ptr qLa 8 []))),(5,(.one (.ref .bool 9 0 (we h9) true))),(6,(.one (.int .i64 v6)))],[(8,some (.box qLa (inj false qLa b8))),(9,some (.row .bool true h9))],10⟩⟩
theorem qDz (a0:qxa):qvr a0=(
(qIf a0).bind fun r1=>
if (r1 != (0:Int))=true then
some ([],r1)
else
(qHe (wd .u64 a0.1)).bind fun r2=>
qXi (wd .i64 (r2 - (2:Int))) a0 []):=CE
theorem qIm (v6:Int) (b8:qxa) (h9:List Bool):qXi v6 b8 h9=(
if (decide (v6≥(0:Int)))=true then
gd (0≤v6)<|
letI c:=(h9++[((qeb .i64 (qcl .i64 b8.1 v6) (1:Int))==(1:Int))])
gd ((we c)*1≤140737488355328)<|
qXi (wd .i64 (v6 - (1:Int))) b8 c
else
some (h9,(0:Int))):=SE
noncomputable def vKd:FN:={f:=202,cuts:=[],tab:=[SS vbb,SS vu,SS vV,SS vNb,SS vfc],fm:=⟨true,[.val (.int .i32) [], .val (.int .i64) []]⟩}
noncomputable def qAr (a0:qia) (a1:qma) (a2:qxa):Option (Int×Int):=vKd.call [(.agg qwa (inj false qwa a0)),(.agg qna (inj false qna a1)),(.agg qLa (inj false qLa a2))] []
theorem qLz (a0:qia) (a1:qma) (a2:qxa):qAr a0 a1 a2=(
(qIk a0).bind fun r1=>
if (r1 != (0:Int))=true then
some ((0:Int),(8:Int))
else
(qne a1).bind fun r2=>
if (r2 != (0:Int))=true then
some ((0:Int),(8:Int))
else
(qIf a2).bind fun r3=>
if (r3 != (0:Int))=true then
some ((0:Int),(8:Int))
else
(qDl a0 a1).bind fun r4=>
(qvr a2).bind fun r5=>
if (not r4.2)=true then
some ((0:Int),(0:Int))
else
letI c:=(wi (we r5.1))
letI d:=(wd .i64 ((8:Int) - c))
gd (0≤d)<|
if ((qcl .i64 (wd .i64 ((256:Int)+(wd .i64 r4.1))) d) != a2.1)=true then
some ((0:Int),(0:Int))
else
letI e:=(wd .i64 ((7:Int) - c))
gd (0≤e)<|
if ((qeb .u8 (qcl .u8 r4.1 e) (1:Int))==(1:Int))=true then
some ((wd .i32 (wd .i64 ((50:Int)*a0.2.1))),(0:Int))
else
some ((wd .i32 (wd .i64 ((-50:Int)*a0.2.1))),(0:Int))):=CE
noncomputable def vyc:FN:={f:=249,cuts:=[],tab:=[],fm:=⟨true,[.val (.int .i32) []]⟩}
noncomputable def qiq (a0:Int):Option (Int):=vyc.call [(.int .i32 a0)] []
theorem qKB (a0:Int):qiq a0=(
some (if (if a0<(2047:Int) then a0 else (2047:Int))>(-2047:Int) then (if a0<(2047:Int) then a0 else (2047:Int)) else (-2047:Int))):=CE
noncomputable def vMc:FN:={f:=284,cuts:=[],tab:=[SS vyc],fm:=⟨true,[.val .bool []]⟩}
noncomputable def qDs (a0:Int):Option (Bool):=vMc.call [(.int .i32 a0)] []
theorem qvv (a0:Int):qDs a0=(
(qiq a0).bind fun r1=>
some (r1 != a0)):=CE
noncomputable def vv:FN:={f:=307,cuts:=[⟨(2,3),[0,1,7,8],false,false,[],[],[]⟩],tab:=[SS vMc],fm:=⟨true,[.val (.int .i64) []]⟩}
noncomputable def qme (a0:List Int):Option (Int):=vv.call [(.sl (.int .i32) false a0),(.func 284 [])] []
noncomputable def qfb (v0:List Int) (v7:Int) (v8:Int):Option (Int):=vv.sem ⟨[.code (cIn (cIn (qba (qGa (qba (qha wg 307)))))), .inLoop (cIn (cIn (qba (qGa (qba (qha wg 307)))))), .inBlock 0, .code (qba (qba (qha wg 307)))],⟨[(0,(.one (.sl (.int .i32) false v0))),(1,(.one (.func 284 []))),(7,(.one (.int .i64 v7))),(8,(.one (.int .i64 v8)))],[],8⟩⟩
theorem qrh (a0:List Int):qme a0=(
qfb a0 (wi (we a0)) (0:Int)):=CE
theorem qYc (v0:List Int) (v7:Int) (v8:Int):qfb v0 v7 v8=(
if (decide (v8<v7))=true then
gd (0≤v8)<|
gd (v8<(wi (we v0)))<|
(qDs (wk v0 (wn v8) (0:Int))).bind fun r1=>
if r1=true then
some (v8)
else
qfb v0 v7 (wd .i64 (v8+(1:Int)))
else
some (-1:Int)):=SE
noncomputable def vK:FN:={f:=285,cuts:=[],tab:=[SS vv],fm:=⟨true,[.val .bool []]⟩}
noncomputable def qjc (a0:List Int):Option (Bool):=vK.call [(.sl (.int .i32) false a0),(.func 284 [])] []
theorem qjg (a0:List Int):qjc a0=(
(qme a0).bind fun r1=>
some (decide (r1≥(0:Int)))):=CE
noncomputable def vjc:FN:={f:=247,cuts:=[],tab:=[SS vhc,SS vK],fm:=⟨true,[.val (.int .i64) []]⟩}
noncomputable def qwn (a0:qAa) (a1:Int) (a2:List Int):Option (Int):=vjc.call [(.agg qCa (inj false qCa a0)),(.int .i64 a1),(.sl (.int .i32) false a2)] []
theorem qFz (a0:qAa) (a1:Int) (a2:List Int):qwn a0 a1 a2=(
(qxn a0).bind fun r1=>
if (r1 != (0:Int))=true then
some (r1)
else
if (decide (a1<(0:Int)))=true then
some (2:Int)
else
if (decide (a1≥(wi (we a0.1))))=true then
some (2:Int)
else
if ((wi (we a2)) != (8:Int))=true then
some (2:Int)
else
(qjc a2).bind fun r2=>
if r2=true then
some (2:Int)
else
some (0:Int)):=CE
noncomputable def vYc:FN:={f:=287,cuts:=[],tab:=[],fm:=⟨true,[.val (.int .i32) []]⟩}
noncomputable def qQs (a0:Int):Option (Int):=vYc.call [(.int .i64 a0)] []
theorem qxE (a0:Int):qQs a0=(
some (wd .i32 (if (2147483647:Int)<(if (-2147483648:Int)>a0 then (-2147483648:Int) else a0) then (2147483647:Int) else (if (-2147483648:Int)>a0 then (-2147483648:Int) else a0)))):=CE
noncomputable def vZc:FN:={f:=248,cuts:=[⟨(7,3),[1,6,7,24,25,26],false,false,[],[],[]⟩],tab:=[qhF (fun _=>true),SS vYc],fm:=⟨true,[.val (.int .i32) [], .val (.int .i64) []]⟩}
noncomputable def qry (a0:List Int) (a1:List Int):Option (Int×Int):=vZc.call [(.sl (.int .i32) false a0),(.sl (.int .i32) false a1)] []
noncomputable def qvj (v1:List Int) (v6:Int) (v7:Int) (v24:List Int) (v25:Int) (v26:Int):Option (Int×Int):=vZc.sem ⟨[.code (cIn (cIn (qba (qGa (qba (qba (qba (qba (qha wg 248))))))))), .inLoop (cIn (cIn (qba (qGa (qba (qba (qba (qba (qha wg 248))))))))), .inBlock 0, .code (qba (qba (qba (qba (qba (qha wg 248))))))],⟨[(1,(.one (.sl (.int .i32) false v1))),(6,(.one (.int .i64 v6))),(7,(.one (.int .u64 v7))),(24,(.one (.sl (.int .i32) false v24))),(25,(.one (.int .i64 v25))),(26,(.one (.int .i64 v26)))],[],8⟩⟩
theorem qyE (a0:List Int) (a1:List Int):qry a0 a1=(
letI d:=(wi (we a1))
letI c:=(wi (we a0))
if (decide ((if d>c then d else c)>(16:Int)))=true then
some ((0:Int),(4:Int))
else
if (c != d)=true then
some ((0:Int),(2:Int))
else
qvj a1 (0:Int) (0:Int) a0 c (0:Int)):=CE
theorem qop (v1:List Int) (v6:Int) (v7:Int) (v24:List Int) (v25:Int) (v26:Int):qvj v1 v6 v7 v24 v25 v26=(
if (decide (v26<v25))=true then
gd (0≤v26)<|
gd (v26<(wi (we v24)))<|
gd (0≤v26)<|
gd (v26<(wi (we v1)))<|
letI i:=(wn v26)
letI c:=(wd .i64 ((wd .i64 (wk v24 i (0:Int)))*(wd .i64 (wk v1 i (0:Int)))))
(qqq v7 (wd .u64 c) (0:Int)).bind fun r1=>
gd (0≤(63:Int))<|
qvj v1 (wd .i64 ((wd .i64 (v6+(wX c (9223372036854775808:Int))))+(wd .i64 r1.2))) r1.1 v24 v25 (wd .i64 (v26+(1:Int)))
else
if (decide (v6>(0:Int)))=true then
some ((2147483647:Int),(0:Int))
else
letI g:=(v6==(-1:Int))
letI f:=(decide (v6<(-1:Int)))
letI e:=(decide (v7≤(9223372036854775807:Int)))
letI d:=(qQs (wd .i64 v7))
if (v6==(0:Int))=true then
if (decide (v7>(9223372036854775807:Int)))=true then
some ((2147483647:Int),(0:Int))
else
if f=true then
some ((-2147483648:Int),(0:Int))
else
if g=true then
if e=true then
some ((-2147483648:Int),(0:Int))
else
d.bind fun r2=>
some (r2,(0:Int))
else
d.bind fun r3=>
some (r3,(0:Int))
else
if f=true then
some ((-2147483648:Int),(0:Int))
else
if g=true then
if e=true then
some ((-2147483648:Int),(0:Int))
else
d.bind fun r4=>
some (r4,(0:Int))
else
d.bind fun r5=>
some (r5,(0:Int))):=SE
noncomputable def vle:FN:={f:=203,cuts:=[],tab:=[SS vjc,SS vZc,SS vyc,SS vza],fm:=⟨true,[.val (.int .i32) [], .val (.int .i32) [], .val (.int .i64) []]⟩}
noncomputable def qHx (a0:qAa) (a1:Int) (a2:List Int):Option (Int×Int×Int):=vle.call [(.agg qCa (inj false qCa a0)),(.int .i64 a1),(.sl (.int .i32) false a2)] []
theorem qbE (a0:qAa) (a1:Int) (a2:List Int):qHx a0 a1 a2=(
(qwn a0 a1 a2).bind fun r1=>
if (r1 != (0:Int))=true then
some ((0:Int),((0:Int),r1))
else
gd (0≤a1)<|
gd (a1<(wi (we a0.1)))<|
(qry (wk a0.1 (wn a1) []) a2).bind fun r2=>
gd (0≤(16:Int))<|
(qiq (wX r2.1 (65536:Int))).bind fun r3=>
(qxh r3).bind fun r4=>
some (r3,(r4,(0:Int)))):=CE
noncomputable def vwc:FN:={f:=204,cuts:=[],tab:=[SS vu,SS vka],fm:=⟨true,[.val (.int .u8) [], .val (.int .u8) [], .val (.int .i64) []]⟩}
noncomputable def qtm (a0:qma):Option (Int×Int×Int):=vwc.call [(.agg qna (inj false qna a0))] []
theorem qpu (a0:qma):qtm a0=(
(qne a0).bind fun r1=>
if (r1 != (0:Int))=true then
some ((0:Int),((0:Int),r1))
else
(qAj a0 (2:Int)).bind fun r2=>
gd (0≤(1:Int))<|
letI c:=(wi (we r2))
gd ((1:Int)<c)<|
gd (0≤(0:Int))<|
gd ((0:Int)<c)<|
some ((wk r2 1 (0:Int)),((wk r2 0 (0:Int)),(0:Int)))):=CE
noncomputable def vXd:FN:={f:=205,cuts:=[],tab:=[SS vWb,SS vKa],fm:=⟨true,[.val (.arr 2 (.int .i64)) [], .val (.int .i64) []]⟩}
noncomputable def qhu (a0:Int) (a1:Int) (a2:Int):Option ((List Int)×Int):=vXd.call [(.int .u8 a0),(.int .u8 a1),(.int .i64 a2)] []
theorem qjC (a0:Int) (a1:Int) (a2:Int):qhu a0 a1 a2=(
letI c:=(wo 2 (0:Int))
if (decide (a2<(1:Int)))=true then
some (c,(2:Int))
else
if (decide (a2>(255:Int)))=true then
some (c,(2:Int))
else
(qTm (7:Int) [a1,a0,(wd .u8 a2)]).bind fun r1=>
(quj r1.1 (256:Int)).bind fun r2=>
some ((wF (wF c 0 a2) 1 r2.1),(0:Int))):=CE
noncomputable def vQb:FN:={f:=288,cuts:=[],tab:=[SS vFa],fm:=⟨true,[.val (.int .i64) []]⟩}
noncomputable def qol (a0:qAa) (a1:Int):Option (Int):=vQb.call [(.agg qCa (inj false qCa a0)),(.int .i64 a1)] []
theorem qZw (a0:qAa) (a1:Int):qol a0 a1=(
(qsl a0).bind fun r1=>
if (r1 != (0:Int))=true then
some (r1)
else
if (decide (a1<(0:Int)))=true then
some (2:Int)
else
if (decide (a1≥(wi (we a0.1))))=true then
some (2:Int)
else
some (0:Int)):=CE
noncomputable def vRd:FN:={f:=251,cuts:=[],tab:=[SS vQb],fm:=⟨true,[.val (.int .i32) [], .val (.int .i64) [], .val (.int .i64) []]⟩}
noncomputable def qqn (a0:qAa) (a1:Int) (a2:Int):Option (Int×Int×Int):=vRd.call [(.agg qCa (inj false qCa a0)),(.int .i64 a1),(.int .i32 a2)] []
theorem qwz (a0:qAa) (a1:Int) (a2:Int):qqn a0 a1 a2=(
(qol a0 a1).bind fun r1=>
if (r1 != (0:Int))=true then
some ((0:Int),((0:Int),r1))
else
if (decide (a2<(-2047:Int)))=true then
some ((0:Int),((0:Int),(2:Int)))
else
if (decide (a2>(2047:Int)))=true then
some ((0:Int),((0:Int),(2:Int)))
else
gd ((128:Int)≠0)<|
gd ((128:Int)≠0)<|
gd (0≤a1)<|
gd (a1<(wi (we a0.1)))<|
letI f:=(wd .i32 (a2+(2048:Int)))
letI c:=(wd .i64 (wFa (wd .i64 f) (128:Int)))
gd (0≤c)<|
letI g:=(wn a1)
gd (c<(wi (we (wk a0.1 g []))))<|
letI e:=(wd .i64 (c+(1:Int)))
gd (0≤e)<|
gd (e<(wi (we (wk a0.1 g []))))<|
gd ((2048:Int)≠0)<|
gd ((64:Int)≠0)<|
letI d:=(wob f (128:Int))
some ((wd .i32 (wFa (wd .i32 ((wd .i32 ((wd .i32 ((128:Int) - d))*(wk (wk a0.1 g []) (wn c) (0:Int))))+(wd .i32 (d*(wk (wk a0.1 g []) (wn e) (0:Int)))))) (2048:Int))),((wd .i64 (c+(wd .i64 (wd .i32 (wFa d (64:Int)))))),(0:Int)))):=CE
noncomputable def vde:FN:={f:=252,cuts:=[],tab:=[],fm:=⟨true,[.val .bool []]⟩}
noncomputable def qgu (a0:Int):Option (Bool):=vde.call [(.int .i32 a0)] []
theorem qiC (a0:Int):qgu a0=(
if (decide (a0≥(0:Int)))=true then
some (decide (a0≤(4095:Int)))
else
some (false)):=CE
noncomputable def vfe:FN:={f:=253,cuts:=[],tab:=[],fm:=⟨true,[.val (.int .i32) []]⟩}
noncomputable def qTA (a0:Int) (a1:Int) (a2:Int):Option (Int):=vfe.call [(.int .i32 a0),(.int .i32 a1),(.int .i32 a2)] []
theorem qSs (a0:Int) (a1:Int) (a2:Int):qTA a0 a1 a2=(
gd ((4:Int)≠0)<|
gd ((2:Int)≠0)<|
gd ((2:Int)≠0)<|
letI c:=(wd .i32 (wFa (wd .i32 ((wd .i32 ((wd .i32 (wFa (wd .i32 (a0+(wd .i32 ((3:Int)*a1)))) (4:Int)))+(wd .i32 (wFa (wd .i32 (a0+a2)) (2:Int)))))+(1:Int))) (2:Int)))
some (if (if c<(4095:Int) then c else (4095:Int))>(1:Int) then (if c<(4095:Int) then c else (4095:Int)) else (1:Int))):=CE
noncomputable def vZd:FN:={f:=206,cuts:=[],tab:=[SS vta,SS vRd,SS vde,SS vfe],fm:=⟨true,[.val (.int .i32) [], .val qqh [], .val (.int .i64) []]⟩}
noncomputable def qkq (a0:qUa) (a1:(List Int)) (a2:Int) (a3:Int):Option (Int×qrc×Int):=vZd.call [(.agg qac (inj false qac a0)),(.agg (.arr 2 (.int .i64)) a1),(.int .i32 a2),(.int .i32 a3)] []
theorem qTs (a0:qUa) (a1:(List Int)) (a2:Int) (a3:Int):qkq a0 a1 a2 a3=(
(qQk a0).bind fun r1=>
letI c:=(wo 2 (0:Int))
if (r1 != (0:Int))=true then
some ((0:Int),((c,(c,())),r1))
else
gd (0≤(0:Int))<|
gd ((0:Int)<(2:Int))<|
(qqn a0.1 (wk a1 0 (0:Int)) a2).bind fun r2=>
gd (0≤(1:Int))<|
gd ((1:Int)<(2:Int))<|
(qqn a0.2.1 (wk a1 1 (0:Int)) a2).bind fun r3=>
if (r2.2.2 != (0:Int))=true then
some ((0:Int),((c,(c,())),(2:Int)))
else
if (r3.2.2 != (0:Int))=true then
some ((0:Int),((c,(c,())),(2:Int)))
else
(qgu a3).bind fun r4=>
if (not r4)=true then
some ((0:Int),((c,(c,())),(2:Int)))
else
(qTA a3 r2.1 r3.1).bind fun r5=>
some (r5,((a1,((wF (wF c 0 r2.2.1) 1 r3.2.1),())),(0:Int)))):=CE
noncomputable def vab:FN:={f:=155,cuts:=[⟨(4,3),[1,2,3,28,29,30],false,false,[],[],[]⟩],tab:=[SS vyd,SS vXc,SS vxe,SS vAc,SS vKd,SS vle,SS vwc,SS vXd,SS vZd],fm:=⟨true,[.val qmc []]⟩}
noncomputable def qCi (a0:qja):Option (qEc):=vab.call [(.agg qla (inj false qla a0))] []
noncomputable def qYd (v28:List qta) (v29:Int) (v30:Int) (b8:qja) (b9a:Int) (b9bbb:(Int×(Int×(qrc×Unit)))) (b10a:Int) (b10bbb:(Int×(Int×(qrc×Unit)))) (h11:List Int) (h12:List Int) (h13:List Int) (h14:List Int):Option (qEc):=vab.sem ⟨[.code (cIn (cIn (qba (qGa (qba (qba (qba (qha wg 155)))))))), .inLoop (cIn (cIn (qba (qGa (qba (qba (qba (qha wg 155)))))))), .inBlock 0, .code (qba (qba (qba (qba (qha wg 155)))))],⟨[(1,(.one (.ptr qla 8 []))),(2,(.one (.ptr qmc 9 []))),(3,(.one (.ptr qmc 10 []))),(28,(.one (.sl qEa false v28))),(29,(.one (.int .i64 v29))),(30,(.one (.int .i64 v30)))],[(8,some (.box qla (inj false qla b8))),(9,some (.box qmc (b9a,((SV.ref 11 0 (we h11) true),((SV.ref 12 0 (we h12) true),(inj false (.pair (.int .i32) (.pair (.int .i32) (.pair qqh .unit))) b9bbb)))))),(10,some (.box qmc (b10a,((SV.ref 13 0 (we h13) true),((SV.ref 14 0 (we h14) true),(inj false (.pair (.int .i32) (.pair (.int .i32) (.pair qqh .unit))) b10bbb)))))),(11,some (.row (.int .u8) true h11)),(12,some (.row (.int .i32) true h12)),(13,some (.row (.int .u8) true h13)),(14,some (.row (.int .i32) true h14))],15⟩⟩
theorem qJq (a0:qja):qCi a0=(
(qur a0.2.2.2.2.2.2.2.2.1).bind fun r1=>
letI c:=(wo 2 (0:Int))
qYd a0.2.2.1 (wi (we a0.2.2.1)) (0:Int) a0 (0:Int) ((0:Int),((0:Int),((c,(c,())),()))) r1.1 ((0:Int),((0:Int),((c,(c,())),()))) [] [] [] []):=CE
theorem qUf (v28:List qta) (v29:Int) (v30:Int) (b8:qja) (b9a:Int) (b9bbb:(Int×(Int×(qrc×Unit)))) (b10a:Int) (b10bbb:(Int×(Int×(qrc×Unit)))) (h11:List Int) (h12:List Int) (h13:List Int) (h14:List Int):qYd v28 v29 v30 b8 b9a b9bbb b10a b10bbb h11 h12 h13 h14=(
if (decide (v30<v29))=true then
gd (0≤v30)<|
gd (v30<(wi (we v28)))<|
gd (0≤v30)<|
gd (v30<(6:Int))<|
letI d:=(wn v30)
(qhs (wk v28 d (qqa qEa)) (wk b8.2.2.2.2.2.2.2.2.2.2.1 d (0:Int)) b10a).bind fun r2=>
gd (0≤v30)<|
gd (v30<(wi (we b8.2.2.2.1)))<|
(qXG (wk b8.2.2.2.1 d (qqa qDa)) r2.1).bind fun r3=>
letI e:=(h13++[r2.1])
gd ((we e)*1≤140737488355328)<|
gd ((16:Int)≠0)<|
(qcm (wd .i32 (wFa r3.1 (16:Int)))).bind fun r4=>
gd ((we (h14++[r4]))*4≤140737488355328)<|
qYd v28 v29 (wd .i64 (v30+(1:Int))) b8 b9a b9bbb b10a b10bbb h11 h12 e (h14++[r4])
else
(qAr b8.2.2.2.2.2.2.2.1 b8.2.1 b8.2.2.2.2.2.2.2.2.1).bind fun r5=>
letI c:=(h14++[r5.1,(256:Int)])
gd ((we c)*4≤140737488355328)<|
(qHx b8.2.2.2.2.1 b8.2.2.2.2.2.2.2.2.1.1 c).bind fun r6=>
(qtm b8.2.1).bind fun r7=>
(qhu r7.1 r7.2.1 b8.2.2.2.2.2.2.2.2.1.1).bind fun r8=>
(qkq b8.2.2.2.2.2.1 r8.1 r6.1 r6.2.1).bind fun r9=>
some (b10a,(h13,(c,(r6.2.1,(r9.1,(r9.2.1,b10bbb.2.2.2))))))):=SE
noncomputable def vne:FN:={f:=120,cuts:=[],tab:=[SS vnb,SS vab],fm:=⟨true,[.val (.int .i64) [], .val (.int .i64) []]⟩}
noncomputable def qlx (a0:qja):Option (Int×Int):=vne.call [(.agg qla (inj false qla a0))] []
theorem qKD (a0:qja):qlx a0=(
(qWj a0).bind fun r1=>
if (r1 != (0:Int))=true then
some ((0:Int),r1)
else
(qCi a0).bind fun r2=>
some ((wd .i64 r2.2.2.2.2.1),(0:Int))):=CE
noncomputable def vOc:FN:={f:=156,cuts:=[],tab:=[],fm:=⟨true,[.val (.int .i64) []]⟩}
noncomputable def qZs (a0:qNa):Option (Int):=vOc.call [(.agg qPa (inj false qPa a0))] []
theorem qQv (a0:qNa):qZs a0=(
if (decide (a0.1≥a0.2.1))=true then
some (8:Int)
else
gd (0≤(24:Int))<|
gd (0≤(24:Int))<|
if ((wX a0.1 (16777216:Int))==(wX a0.2.1 (16777216:Int)))=true then
some (8:Int)
else
if (decide (a0.2.2.1<a0.1))=true then
some (8:Int)
else
if (decide (a0.2.2.1>a0.2.1))=true then
some (8:Int)
else
if (decide ((wi (we a0.2.2.2.1))>(20000:Int)))=true then
some (8:Int)
else
if (decide (a0.2.2.2.2.1<(4:Int)))=true then
some (8:Int)
else
if (decide (a0.2.2.2.2.1>(1000000:Int)))=true then
some (8:Int)
else
some (0:Int)):=CE
noncomputable def vQc:FN:={f:=157,cuts:=[],tab:=[],fm:=⟨true,[.val .bool []]⟩}
noncomputable def qXs (a0:Int):Option (Bool):=vQc.call [(.int .i64 a0)] []
theorem qOv (a0:Int):qXs a0=(
if (decide (a0<(0:Int)))=true then
some (true)
else
some (decide (a0>(4095:Int)))):=CE
noncomputable def vMb:FN:={f:=163,cuts:=[],tab:=[],fm:=⟨true,[.val .bool []]⟩}
noncomputable def qzj (a0:Int):Option (Bool):=vMb.call [(.int .i64 a0)] []
theorem qtp (a0:Int):qzj a0=(
if (decide (a0≥(0:Int)))=true then
some (decide (a0≤(4095:Int)))
else
some (false)):=CE
noncomputable def vub:FN:={f:=211,cuts:=[],tab:=[],fm:=⟨true,[.val (.int .u32) []]⟩}
noncomputable def qTh (a0:Int) (a1:Int) (a2:Int):Option (Int):=vub.call [(.int .u32 a0),(.int .u32 a1),(.int .i64 a2)] []
theorem qjo (a0:Int) (a1:Int) (a2:Int):qTh a0 a1 a2=(
gd (0≤(12:Int))<|
gd (0≤(12:Int))<|
letI d:=(wd .u32 a2)
letI c:=(wd .u32 (a1 - a0))
some (wd .u32 ((wd .u32 (a0+(wd .u32 ((wX c (4096:Int))*d))))+(wX (wd .u32 ((qeb .u32 c (4095:Int))*d)) (4096:Int))))):=CE
noncomputable def vLc:FN:={f:=207,cuts:=[],tab:=[SS vMb,SS vub],fm:=⟨true,[.val (.int .u32) [], .val (.int .i64) []]⟩}
noncomputable def qIn (a0:Int) (a1:Int) (a2:Int):Option (Int×Int):=vLc.call [(.int .u32 a0),(.int .u32 a1),(.int .i64 a2)] []
theorem qMv (a0:Int) (a1:Int) (a2:Int):qIn a0 a1 a2=(
if (decide (a0≥a1))=true then
some ((0:Int),(2:Int))
else
(qzj a2).bind fun r1=>
if (not r1)=true then
some ((0:Int),(2:Int))
else
(qTh a0 a1 a2).bind fun r2=>
some (r2,(0:Int))):=CE
noncomputable def vbc:FN:={f:=158,cuts:=[⟨(6,3),[0,7],false,false,[],[],[]⟩],tab:=[SS vLc,SS vBc],fm:=⟨false,[.val .bool [], .box 0 qPa [.pu]]⟩}
noncomputable def qHy (a1:Int) (b0:qNa):Option (Bool×qNa):=vbc.call [(.ptr qPa 0 []),(.int .i64 a1)] [(0,(.box qPa (inj false qPa b0)))]
noncomputable def qvg (v7:Bool) (b0:qNa):Option (Bool×qNa):=vbc.sem ⟨[.code (cIn (cIn (qGa (qba (qba (qba (qba (qha wg 158)))))))), .inLoop (cIn (cIn (qGa (qba (qba (qba (qba (qha wg 158)))))))), .inBlock 0, .code (qba (qba (qba (qba (qba (qha wg 158))))))],⟨[(0,(.one (.ptr qPa 0 []))),(7,(.one (.bool v7)))],[(0,some (.box qPa (inj false qPa b0)))],9⟩⟩
theorem qlA (a1:Int) (b0:qNa):qHy a1 b0=(
(qIn b0.1 b0.2.1 a1).bind fun r1=>
letI c:=(decide (b0.2.2.1≤r1.1))
if c=true then
qvg c (b0.1,(r1.1,b0.2.2))
else
qvg c ((wd .u32 (r1.1+(1:Int))),b0.2)):=CE
theorem qXm (v7:Bool) (b0:qNa):qvg v7 b0=(
gd (0≤(24:Int))<|
gd (0≤(24:Int))<|
if ((wX b0.1 (16777216:Int))==(wX b0.2.1 (16777216:Int)))=true then
gd (0≤(8:Int))<|
gd (0≤(8:Int))<|
gd (0≤(8:Int))<|
(qnq b0.2.2.2.1 b0.2.2.2.2.1).bind fun r2=>
qvg v7 ((wd .u32 (b0.1*(256:Int))),((qlc .u32 (wd .u32 (b0.2.1*(256:Int))) (255:Int)),((qlc .u32 (wd .u32 (b0.2.2.1*(256:Int))) (wd .u32 r2)),(b0.2.2.2.1,((wd .i64 (b0.2.2.2.2.1+(1:Int))),b0.2.2.2.2.2)))))
else
some (v7,b0)):=SE
noncomputable def vxd:FN:={f:=121,cuts:=[],tab:=[SS vOc,SS vQc,SS vd,(SS vbc).dropping],fm:=⟨false,[.val qPa [], .val .bool [], .val (.int .i64) []]⟩}
noncomputable def qNr (a0:qNa) (a1:Int):Option (qNa×Bool×Int):=vxd.call [(.agg qPa (inj false qPa a0)),(.int .i64 a1)] []
theorem qmA (a0:qNa) (a1:Int):qNr a0 a1=(
(qZs a0).bind fun r1=>
if (r1 != (0:Int))=true then
some (((0:Int),((0:Int),((0:Int),([],((0:Int),()))))),(false,r1))
else
(qXs a1).bind fun r2=>
if r2=true then
some (((0:Int),((0:Int),((0:Int),([],((0:Int),()))))),(false,(2:Int)))
else
(qub a0.2.2.2.1).bind fun r3=>
(qHy a1 (a0.1,(a0.2.1,(a0.2.2.1,(r3,a0.2.2.2.2))))).bind fun r4=>
if (decide (r4.2.2.2.2.2.1>(1000000:Int)))=true then
some (((0:Int),((0:Int),((0:Int),([],((0:Int),()))))),(false,(4:Int)))
else
some (r4.2,(r4.1,(0:Int)))):=CE
noncomputable def vea:FN:={f:=254,cuts:=[],tab:=[],fm:=⟨true,[.val (.slice (.int .i64)) [.nw]]⟩}
noncomputable def qde (a0:List Int):Option (List Int):=vea.call [(.sl (.int .i64) false a0)] []
theorem qln (a0:List Int):qde a0=(
qkF (fun (r1:Bool)=>r1=true→a0=[]) fun (r1:Bool)=>
if r1=true then
some ([])
else
gd ((we ([]++a0))*8≤140737488355328)<|
some ([]++a0)):=CE
noncomputable def vo:FN:={f:=255,cuts:=[],tab:=[],fm:=⟨false,[.val (.slice qEa) [.nw]]⟩}
noncomputable def qBb (a0:List qta):Option (List qta):=vo.call [(.sl qEa false a0)] []
theorem qLg (a0:List qta):qBb a0=(
qkF (fun (r1:Bool)=>r1=true→a0=[]) fun (r1:Bool)=>
if r1=true then
some ([])
else
gd ((we ([]++a0))*32≤140737488355328)<|
some ([]++a0)):=CE
noncomputable def vp:FN:={f:=256,cuts:=[],tab:=[],fm:=⟨false,[.val (.slice qDa) [.nw]]⟩}
noncomputable def qCb (a0:List qra):Option (List qra):=vp.call [(.sl qDa false a0)] []
theorem qNg (a0:List qra):qCb a0=(
qkF (fun (r1:Bool)=>r1=true→a0=[]) fun (r1:Bool)=>
if r1=true then
some ([])
else
gd ((we ([]++a0))*56≤140737488355328)<|
some ([]++a0)):=CE
noncomputable def vLb:FN:={f:=259,cuts:=[⟨(3,3),[3,6,7,8],false,false,[],[],[]⟩],tab:=[SS vb],fm:=⟨true,[.val (.slice (.slice (.int .i32))) [.nw]]⟩}
noncomputable def qmj (a0:List (List Int)):Option (List (List Int)):=vLb.call [(.sl (.slice (.int .i32)) false a0)] []
noncomputable def qGf (v6:List (List Int)) (v7:Int) (v8:Int) (h8:List (List Int)):Option (List (List Int)):=vLb.sem ⟨[.code (cIn (cIn (qba (qGa (qba (qba (qha wg 259))))))), .inLoop (cIn (cIn (qba (qGa (qba (qba (qha wg 259))))))), .inBlock 0, .code (qba (qba (qba (qha wg 259))))],⟨[(3,(.one (.ref (.slice (.int .i32)) 8 0 (we h8) true))),(6,(.one (.sl (.slice (.int .i32)) false v6))),(7,(.one (.int .i64 v7))),(8,(.one (.int .i64 v8)))],[(8,some (.row (.slice (.int .i32)) true h8))],9⟩⟩
theorem qkx (a0:List (List Int)):qmj a0=(
qGf a0 (wi (we a0)) (0:Int) []):=CE
theorem qvl (v6:List (List Int)) (v7:Int) (v8:Int) (h8:List (List Int)):qGf v6 v7 v8 h8=(
if (decide (v8<v7))=true then
gd (0≤v8)<|
gd (v8<(wi (we v6)))<|
(qVa (wk v6 (wn v8) [])).bind fun r1=>
gd ((we (h8++[r1]))*24≤140737488355328)<|
qGf v6 v7 (wd .i64 (v8+(1:Int))) (h8++[r1])
else
some (h8)):=SE
noncomputable def vKb:FN:={f:=208,cuts:=[⟨(5,3),[1,2,26,27],false,false,[],[],[]⟩],tab:=[SS vd,SS vea,(SS vo).dropping,(SS vp).dropping,SS vh,SS vb,SS vLb],fm:=⟨false,[.val qla []]⟩}
noncomputable def qVo (a0:qja):Option (qja):=vKb.call [(.agg qla (inj false qla a0))] []
noncomputable def qFf (v26:Int) (v27:Int) (b8a:Int) (b8baa:Int) (b8babb:qxa) (b8bbbba:qAa) (b8bbbbba:qUa) (b8bbbbbbaa:Int) (b8bbbbbbabb:Unit) (b8bbbbbbb:(qia×(qxa×((List Int)×((List Int)×Unit))))) (b9a:Int) (b9baa:Int) (b9babb:qxa) (b9bbbbab:Unit) (b9bbbbbaab:Unit) (b9bbbbbabab:Unit) (b9bbbbbabb:Unit) (b9bbbbbbaa:Int) (b9bbbbbbabb:Unit) (b9bbbbbbb:(qia×(qxa×((List Int)×((List Int)×Unit))))) (h10:List Int) (h11:List qta) (h12:List qra) (h13:List Int) (h14:List Int) (h15:List qta) (h16:List qra) (h17:List (List Int)) (h18:List (List Int)) (h19:List (List Int)) (h20:List Int):Option (qja):=vKb.sem ⟨[.code (cIn (cIn (qba (qGa (qba (qba (qba (qba (qha wg 208))))))))), .inLoop (cIn (cIn (qba (qGa (qba (qba (qba (qba (qha wg 208))))))))), .inBlock 0, .code (qba (qba (qba (qba (qba (qha wg 208))))))],⟨[(1,(.one (.ptr qla 8 []))),(2,(.one (.ptr qla 9 []))),(26,(.one (.int .i64 v26))),(27,(.one (.int .i64 v27)))],[(8,some (.box qla (b8a,((b8baa,((SV.ref 10 0 (we h10) true),(inj false qLa b8babb))),((SV.ref 11 0 (we h11) true),((SV.ref 12 0 (we h12) true),((inj false qCa b8bbbba),((inj false qac b8bbbbba),((b8bbbbbbaa,((SV.ref 13 0 (we h13) true),b8bbbbbbabb)),(inj false (.pair qwa (.pair qLa (.pair (.arr 6 (.int .u32)) (.pair (.arr 6 (.int .i64)) .unit)))) b8bbbbbbb)))))))))),(9,some (.box qla (b9a,((b9baa,((SV.ref 14 0 (we h14) true),(inj false qLa b9babb))),((SV.ref 15 0 (we h15) true),((SV.ref 16 0 (we h16) true),(((SV.ref 17 0 (we h17) true),b9bbbbab),((((SV.ref 18 0 (we h18) true),b9bbbbbaab),(((SV.ref 19 0 (we h19) true),b9bbbbbabab),b9bbbbbabb)),((b9bbbbbbaa,((SV.ref 20 0 (we h20) true),b9bbbbbbabb)),(inj false (.pair qwa (.pair qLa (.pair (.arr 6 (.int .u32)) (.pair (.arr 6 (.int .i64)) .unit)))) b9bbbbbbb)))))))))),(10,some (.row (.int .u8) true h10)),(11,some (.row qEa false h11)),(12,some (.row qDa false h12)),(13,some (.row (.int .i64) true h13)),(14,some (.row (.int .u8) true h14)),(15,some (.row qEa true h15)),(16,some (.row qDa true h16)),(17,some (.row (.slice (.int .i32)) true h17)),(18,some (.row (.slice (.int .i32)) true h18)),(19,some (.row (.slice (.int .i32)) true h19)),(20,some (.row (.int .i64) true h20))],21⟩⟩
theorem qjx (a0:qja):qVo a0=(
(qub a0.2.1.2.1).bind fun r1=>
(qde a0.2.2.2.2.2.2.1.2.1).bind fun r2=>
(qBb a0.2.2.1).bind fun r3=>
(qCb a0.2.2.2.1).bind fun r4=>
letI c:=(wo 6 (0:Int))
qFf (wi (we r3)) (0:Int) a0.1 a0.2.1.1 a0.2.1.2.2 a0.2.2.2.2.1 a0.2.2.2.2.2.1 a0.2.2.2.2.2.2.1.1 a0.2.2.2.2.2.2.1.2.2 a0.2.2.2.2.2.2.2 (0:Int) (0:Int) ((0:Int),()) () () () () (0:Int) () (((0:Int),((0:Int),())),(((0:Int),()),(c,(c,())))) r1 r3 r4 r2 [] [] [] [] [] [] []):=CE
theorem qul (v26:Int) (v27:Int) (b8a:Int) (b8baa:Int) (b8babb:qxa) (b8bbbba:qAa) (b8bbbbba:qUa) (b8bbbbbbaa:Int) (b8bbbbbbabb:Unit) (b8bbbbbbb:(qia×(qxa×((List Int)×((List Int)×Unit))))) (b9a:Int) (b9baa:Int) (b9babb:qxa) (b9bbbbab:Unit) (b9bbbbbaab:Unit) (b9bbbbbabab:Unit) (b9bbbbbabb:Unit) (b9bbbbbbaa:Int) (b9bbbbbbabb:Unit) (b9bbbbbbb:(qia×(qxa×((List Int)×((List Int)×Unit))))) (h10:List Int) (h11:List qta) (h12:List qra) (h13:List Int) (h14:List Int) (h15:List qta) (h16:List qra) (h17:List (List Int)) (h18:List (List Int)) (h19:List (List Int)) (h20:List Int):qFf v26 v27 b8a b8baa b8babb b8bbbba b8bbbbba b8bbbbbbaa b8bbbbbbabb b8bbbbbbb b9a b9baa b9babb b9bbbbab b9bbbbbaab b9bbbbbabab b9bbbbbabb b9bbbbbbaa b9bbbbbbabb b9bbbbbbb h10 h11 h12 h13 h14 h15 h16 h17 h18 h19 h20=(
if (decide (v27<v26))=true then
gd (0≤v27)<|
letI j:=(wi (we h11))
gd (v27<j)<|
letI d:=(0+(wn v27))
letI g:=(wk h11 d (qqa qEa))
(qpb g.2.1).bind fun r5=>
gd (0≤v27)<|
gd (v27<j)<|
gd (0≤v27)<|
letI f:=(wi (we h12))
gd (v27<f)<|
letI k:=(qqa qDa)
letI c:=(wk h12 d k)
(qVa c.2.1).bind fun r6=>
gd (0≤v27)<|
gd (v27<f)<|
(qVa c.2.2.1).bind fun r7=>
gd (0≤v27)<|
gd (v27<f)<|
gd (0≤v27)<|
gd (v27<f)<|
letI i:=(wF h12 d (c.1,(r6,c.2.2)))
letI e:=(wk i d k)
qFf v26 (wd .i64 (v27+(1:Int))) b8a b8baa b8babb b8bbbba b8bbbbba b8bbbbbbaa b8bbbbbbabb b8bbbbbbb b9a b9baa b9babb b9bbbbab b9bbbbbaab b9bbbbbabab b9bbbbbabb b9bbbbbbaa b9bbbbbbabb b9bbbbbbb h10 (wF h11 d (g.1,(r5,g.2.2))) (wF i d (e.1,(e.2.1,(r7,e.2.2.2)))) h13 h14 h15 h16 h17 h18 h19 h20
else
(qmj b8bbbba.1).bind fun r8=>
(qmj b8bbbbba.1.1).bind fun r9=>
(qmj b8bbbbba.2.1.1).bind fun r10=>
some (b8a,((b8baa,(h10,b8babb)),(h11,(h12,((r8,b8bbbba.2),(((r9,b8bbbbba.1.2),((r10,b8bbbbba.2.1.2),b8bbbbba.2.2)),((b8bbbbbbaa,(h13,b8bbbbbbabb)),b8bbbbbbb)))))))):=SE
noncomputable def vae:FN:={f:=289,cuts:=[],tab:=[SS vb],fm:=⟨true,[.val qDa [.nw, .nw]]⟩}
noncomputable def qzu (a0:qra):Option (qra):=vae.call [(.agg qDa (inj false qDa a0))] []
theorem qYC (a0:qra):qzu a0=(
(qVa a0.2.1).bind fun r1=>
(qVa a0.2.2.1).bind fun r2=>
some (a0.1,(r1,(r2,a0.2.2.2)))):=CE
noncomputable def vte:FN:={f:=320,cuts:=[],tab:=[],fm:=⟨true,[.val (.int .i32) [], .val (.int .i64) []]⟩}
noncomputable def qAB (a0:Int):Option (Int×Int):=vte.call [(.int .i32 a0)] []
theorem qVF (a0:Int):qAB a0=(
if (decide (a0<(1:Int)))=true then
some ((0:Int),(2:Int))
else
if (decide (a0>(1024:Int)))=true then
some ((0:Int),(2:Int))
else
gd (a0≠0)<|
some ((wd .i32 (wFa (65536:Int) a0)),(0:Int))):=CE
noncomputable def vke:FN:={f:=313,cuts:=[],tab:=[SS vte],fm:=⟨true,[.val (.int .i32) [], .val (.int .i64) []]⟩}
noncomputable def qFD (a0:Int) (a1:Int):Option (Int×Int):=vke.call [(.int .i32 a0),(.int .i32 a1)] []
theorem qED (a0:Int) (a1:Int):qFD a0 a1=(
(qAB a1).bind fun r1=>
if (r1.2 != (0:Int))=true then
some ((0:Int),r1.2)
else
gd (0≤(16:Int))<|
some ((wd .i32 (wX (wd .i64 ((wd .i64 a0)*(wd .i64 r1.1))) (65536:Int))),(0:Int))):=CE
noncomputable def vce:FN:={f:=308,cuts:=[],tab:=[SS vke],fm:=⟨true,[.val (.int .i32) [], .val (.int .i64) []]⟩}
noncomputable def qHt (a0:Int) (a1:Int) (a2:Int):Option (Int×Int):=vce.call [(.int .i32 a0),(.int .i32 a1),(.int .i32 a2)] []
theorem qzB (a0:Int) (a1:Int) (a2:Int):qHt a0 a1 a2=(
if (decide ((if a1<a0 then a1 else a0)<(0:Int)))=true then
some ((0:Int),(2:Int))
else
if (decide ((if a1>a0 then a1 else a0)≥(65536:Int)))=true then
some ((0:Int),(2:Int))
else
(qFD (wd .i32 (a1 - a0)) a2).bind fun r1=>
if (r1.2 != (0:Int))=true then
some ((0:Int),r1.2)
else
some ((wd .i32 (a0+r1.1)),(0:Int))):=CE
noncomputable def vfd:FN:={f:=290,cuts:=[],tab:=[SS vce],fm:=⟨false,[.val (.int .i64) [], .row 0 (.int .i32), .row 1 (.int .i32)]⟩}
noncomputable def qWp (a0a:Int) (a0bbb:Unit) (a1:Int) (a2:Int) (h0:List Int) (h1:List Int):Option (Int×List Int×List Int):=vfd.call [(.agg qDa (a0a,((SV.ref 0 0 (we h0) true),((SV.ref 1 0 (we h1) true),a0bbb)))),(.int .u8 a1),(.int .u8 a2)] [(0,(.row (.int .i32) false h0)),(1,(.row (.int .i32) false h1))]
theorem qez (a0a:Int) (a0bbb:Unit) (a1:Int) (a2:Int) (h0:List Int) (h1:List Int):qWp a0a a0bbb a1 a2 h0 h1=(
gd (0≤a1)<|
letI e:=(wi (we h1))
gd (a1<e)<|
gd (0≤a1)<|
letI f:=(wi (we h0))
gd (a1<f)<|
gd (0≤a2)<|
gd (a2<(2:Int))<|
letI d:=(0+(wn a1))
letI c:=(wd .i32 ((wk h1 d (0:Int))+(1:Int)))
(qHt (wk h0 d (0:Int)) (wk G_targets (wn a2) (0:Int)) (wd .i32 ((if a0a<c then a0a else c)+(1:Int)))).bind fun r1=>
gd (0≤a1)<|
gd (a1<f)<|
gd (0≤a1)<|
gd (a1<e)<|
some (r1.2,((wF h0 d r1.1),(wF h1 d (if a0a<c then a0a else c))))):=CE
noncomputable def qwA (acc:List AV→Bool):Summ wg GT:=vfd.summ mixed acc true false
noncomputable def vdd:FN:={f:=260,cuts:=[],tab:=[SS vsd,SS vae,(qwA (fun _=>true)).dropping],fm:=⟨true,[.val qDa [], .val (.int .i64) []]⟩}
noncomputable def qXp (a0:qra) (a1:Int) (a2:Int):Option (qra×Int):=vdd.call [(.agg qDa (inj false qDa a0)),(.int .u8 a1),(.int .u8 a2)] []
theorem qfz (a0:qra) (a1:Int) (a2:Int):qXp a0 a1 a2=(
(qow a0 a1).bind fun r1=>
if (r1 != (0:Int))=true then
some (((0:Int),([],([],()))),r1)
else
if (decide (a2>(1:Int)))=true then
some (((0:Int),([],([],()))),(2:Int))
else
(qzu a0).bind fun r2=>
(qWp r2.1 r2.2.2.2 a1 a2 r2.2.1 r2.2.2.1).bind fun r3=>
if (r3.1 != (0:Int))=true then
some (((0:Int),([],([],()))),r3.1)
else
some ((r2.1,(r3.2.1,(r3.2.2,r2.2.2.2))),(0:Int))):=CE
noncomputable def vnd:FN:={f:=315,cuts:=[],tab:=[],fm:=⟨true,[.val .bool []]⟩}
noncomputable def qDu (a0:Int):Option (Bool):=vnd.call [(.int .u8 a0)] []
theorem qBw (a0:Int):qDu a0=(
some (decide (a0>(1:Int)))):=CE
noncomputable def vA:FN:={f:=33,cuts:=[⟨(2,3),[0,1,7,8],false,false,[],[],[]⟩],tab:=[SS vnd],fm:=⟨true,[.val (.int .i64) []]⟩}
noncomputable def qff (a0:List Int):Option (Int):=vA.call [(.sl (.int .u8) false a0),(.func 315 [])] []
noncomputable def qwc (v0:List Int) (v7:Int) (v8:Int):Option (Int):=vA.sem ⟨[.code (cIn (cIn (qba (qGa (qba (qha wg 33)))))), .inLoop (cIn (cIn (qba (qGa (qba (qha wg 33)))))), .inBlock 0, .code (qba (qba (qha wg 33)))],⟨[(0,(.one (.sl (.int .u8) false v0))),(1,(.one (.func 315 []))),(7,(.one (.int .i64 v7))),(8,(.one (.int .i64 v8)))],[],8⟩⟩
theorem qAi (a0:List Int):qff a0=(
qwc a0 (wi (we a0)) (0:Int)):=CE
theorem qCd (v0:List Int) (v7:Int) (v8:Int):qwc v0 v7 v8=(
if (decide (v8<v7))=true then
gd (0≤v8)<|
gd (v8<(wi (we v0)))<|
(qDu (wk v0 (wn v8) (0:Int))).bind fun r1=>
if r1=true then
some (v8)
else
qwc v0 v7 (wd .i64 (v8+(1:Int)))
else
some (-1:Int)):=SE
noncomputable def vU:FN:={f:=314,cuts:=[],tab:=[SS vA],fm:=⟨true,[.val .bool []]⟩}
noncomputable def qxc (a0:List Int):Option (Bool):=vU.call [(.sl (.int .u8) false a0),(.func 315 [])] []
theorem qsh (a0:List Int):qxc a0=(
(qff a0).bind fun r1=>
some (decide (r1≥(0:Int)))):=CE
noncomputable def vgd:FN:={f:=321,cuts:=[],tab:=[],fm:=⟨true,[.val (.int .i64) []]⟩}
noncomputable def qwp (a0:qhb):Option (Int):=vgd.call [(.agg qkb (inj false qkb a0))] []
theorem qNy (a0:qhb):qwp a0=(
if (peq qkb a0 ((0:Int),((0:Int),((0:Int),()))))=true then
some (0:Int)
else
if (decide (a0.2.2.1>(1:Int)))=true then
some (8:Int)
else
gd (0≤a0.2.2.1)<|
gd (a0.2.2.1<(2:Int))<|
letI d:=(wd .u8 ((1:Int) - a0.2.2.1))
gd (0≤d)<|
gd (d<(2:Int))<|
letI c:=(wF (wF (wo 2 (0:Int)) 0 a0.1) 1 a0.2.1)
letI e:=(wk c (wn a0.2.2.1) (0:Int))
if (decide (e<(1:Int)))=true then
some (8:Int)
else
if (decide (e>(12:Int)))=true then
some (8:Int)
else
letI f:=(wk c (wn d) (0:Int))
if (decide (f<(0:Int)))=true then
some (8:Int)
else
if (decide (f>(7:Int)))=true then
some (8:Int)
else
some (0:Int)):=CE
noncomputable def vAd:FN:={f:=322,cuts:=[],tab:=[],fm:=⟨true,[.val qkb []]⟩}
noncomputable def qPr (a0:qhb) (a1:Int):Option (qhb):=vAd.call [(.agg qkb (inj false qkb a0)),(.int .u8 a1)] []
theorem qnA (a0:qhb) (a1:Int):qPr a0 a1=(
gd (0≤a1)<|
gd (a1<(2:Int))<|
gd (0≤a1)<|
gd (a1<(2:Int))<|
letI f:=(wd .u8 ((1:Int) - a1))
gd (0≤f)<|
gd (f<(2:Int))<|
letI g:=(wF (wF (wo 2 (0:Int)) 0 a0.1) 1 a0.2.1)
letI e:=(wd .i32 ((wk g (wn a1) (0:Int))+(1:Int)))
letI c:=(wF g (wn a1) (if (12:Int)<e then (12:Int) else e))
letI i:=(wk c (wn f) (0:Int))
if (decide (i>(2:Int)))=true then
gd ((2:Int)≠0)<|
gd (0≤(0:Int))<|
gd ((0:Int)<(2:Int))<|
gd (0≤(1:Int))<|
gd ((1:Int)<(2:Int))<|
letI d:=(wF c (wn f) (wd .i32 ((wd .i32 (wFa i (2:Int)))+(1:Int))))
some ((wk d 0 (0:Int)),((wk d 1 (0:Int)),(a1,())))
else
gd (0≤(0:Int))<|
gd ((0:Int)<(2:Int))<|
gd (0≤(1:Int))<|
gd ((1:Int)<(2:Int))<|
some ((wk c 0 (0:Int)),((wk c 1 (0:Int)),(a1,())))):=CE
noncomputable def vvc:FN:={f:=316,cuts:=[⟨(9,3),[2,4,31,32,33],false,false,[],[],[]⟩],tab:=[SS vgd,SS vE,SS vAd],fm:=⟨true,[.val qkb [], .val (.int .i64) []]⟩}
noncomputable def qou (a0:qhb) (a1:List Int):Option (qhb×Int):=vvc.call [(.agg qkb (inj false qkb a0)),(.sl (.int .u8) false a1)] []
noncomputable def qek (v31:List Int) (v32:Int) (v33:Int) (b8:qhb) (b9:qhb):Option (qhb×Int):=vvc.sem ⟨[.code (cIn (cIn (qba (qGa (qba (qba (qba (qha wg 316)))))))), .inLoop (cIn (cIn (qba (qGa (qba (qba (qba (qha wg 316)))))))), .inBlock 1, .code (qba (qba (qba (qba (qha wg 316)))))],⟨[(2,(.one (.ptr qkb 8 []))),(4,(.one (.ptr qkb 9 []))),(31,(.one (.sl (.int .u8) false v31))),(32,(.one (.int .i64 v32))),(33,(.one (.int .i64 v33)))],[(8,some (.box qkb (inj false qkb b8))),(9,some (.box qkb (inj false qkb b9)))],10⟩⟩
theorem qKC (a0:qhb) (a1:List Int):qou a0 a1=(
(qwp a0).bind fun r1=>
if (r1 != (0:Int))=true then
some (((0:Int),((0:Int),((0:Int),()))),r1)
else
letI c:=(wi (we a1))
if (decide (c>(20000:Int)))=true then
some (((0:Int),((0:Int),((0:Int),()))),(4:Int))
else
if (decide (c>(0:Int)))=true then
(qsd a1).bind fun r2=>
if (decide (r2>(1:Int)))=true then
some (((0:Int),((0:Int),((0:Int),()))),(2:Int))
else
qek a1 c (0:Int) a0 ((0:Int),((0:Int),((0:Int),())))
else
qek a1 c (0:Int) a0 ((0:Int),((0:Int),((0:Int),())))):=CE
theorem qlo (v31:List Int) (v32:Int) (v33:Int) (b8:qhb) (b9:qhb):qek v31 v32 v33 b8 b9=(
if (decide (v33<v32))=true then
gd (0≤v33)<|
gd (v33<(wi (we v31)))<|
(qPr b8 (wk v31 (wn v33) (0:Int))).bind fun r3=>
qek v31 v32 (wd .i64 (v33+(1:Int))) r3 b9
else
some (b8,(0:Int))):=SE
noncomputable def vKc:FN:={f:=317,cuts:=[],tab:=[],fm:=⟨true,[.val (.int .u8) []]⟩}
noncomputable def qfn (a0:qhb):Option (Int):=vKc.call [(.agg qkb (inj false qkb a0))] []
theorem qhv (a0:qhb):qfn a0=(
if (peq qkb a0 ((0:Int),((0:Int),((0:Int),()))))=true then
some (0:Int)
else
gd (0≤a0.2.2.1)<|
gd (a0.2.2.1<(2:Int))<|
letI c:=(wd .u8 ((1:Int) - a0.2.2.1))
gd (0≤c)<|
gd (c<(2:Int))<|
letI d:=(wF (wF (wo 2 (0:Int)) 0 a0.1) 1 a0.2.1)
some (wd .u8 (wd .i32 ((wd .i32 ((wd .i32 ((wd .i32 ((wd .i32 ((wd .i32 ((12:Int)*(wd .i32 a0.2.2.1)))+(wk d (wn a0.2.2.1) (0:Int)))) - (1:Int)))*(8:Int)))+(wk d (wn c) (0:Int))))+(1:Int))))):=CE
noncomputable def vWd:FN:={f:=309,cuts:=[],tab:=[SS vJb,SS vU,SS vvc,SS vKc],fm:=⟨true,[.val (.int .u8) [], .val (.int .i64) []]⟩}
noncomputable def qBA (a0:Int) (a1:List Int):Option (Int×Int):=vWd.call [(.int .u8 a0),(.sl (.int .u8) false a1)] []
theorem qlB (a0:Int) (a1:List Int):qBA a0 a1=(
(qgl a0).bind fun r1=>
if (r1.2 != (0:Int))=true then
some ((0:Int),r1.2)
else
if (decide ((wi (we a1))>(20000:Int)))=true then
some ((0:Int),(4:Int))
else
(qxc a1).bind fun r2=>
if r2=true then
some ((0:Int),(2:Int))
else
(qou r1.1 a1).bind fun r3=>
if (r3.2 != (0:Int))=true then
some ((0:Int),r3.2)
else
(qfn r3.1).bind fun r4=>
some (r4,(0:Int))):=CE
noncomputable def vLd:FN:={f:=291,cuts:=[],tab:=[SS vWd],fm:=⟨true,[.val (.int .u8) [], .val (.int .i64) []]⟩}
noncomputable def qhr (a0:Int) (a1:Int):Option (Int×Int):=vLd.call [(.int .u8 a0),(.int .u8 a1)] []
theorem qpz (a0:Int) (a1:Int):qhr a0 a1=(
(qBA a0 [a1]).bind fun r1=>
some (r1)):=CE
noncomputable def vhe:FN:={f:=292,cuts:=[],tab:=[SS vtd,SS vh],fm:=⟨true,[.val qEa [], .val (.int .i64) []]⟩}
noncomputable def qIw (a0:qta) (a1:Int) (a2:Int) (a3:Int):Option (qta×Int):=vhe.call [(.agg qEa (inj false qEa a0)),(.int .i64 a1),(.int .i64 a2),(.int .u8 a3)] []
theorem qjD (a0:qta) (a1:Int) (a2:Int) (a3:Int):qIw a0 a1 a2 a3=(
(qbw a0 a1 a2).bind fun r1=>
if (r1 != (0:Int))=true then
some (((0:Int),([],())),r1)
else
if (decide (a3≥(193:Int)))=true then
some (((0:Int),([],())),(2:Int))
else
(qpb a0.2.1).bind fun r2=>
gd (0≤a1)<|
gd (a1<(wi (we r2)))<|
letI d:=(wd .i64 (a2 - (1:Int)))
gd (0≤d)<|
gd (d<(15:Int))<|
letI e:=(0+(wn a1))
letI c:=(wk r2 e (qqa qAc))
some ((a0.1,((wF r2 e (c.1,((wF c.2.1 (wn d) a3),c.2.2))),())),(0:Int))):=CE
noncomputable def vse:FN:={f:=261,cuts:=[],tab:=[SS vXc,SS vLd,SS vhe],fm:=⟨true,[.val qEa [], .val (.int .i64) []]⟩}
noncomputable def qKw (a0:qta) (a1:Int) (a2:Int) (a3:Int):Option (qta×Int):=vse.call [(.agg qEa (inj false qEa a0)),(.int .i64 a1),(.int .i64 a2),(.int .u8 a3)] []
theorem qnD (a0:qta) (a1:Int) (a2:Int) (a3:Int):qKw a0 a1 a2 a3=(
(qhs a0 a1 a2).bind fun r1=>
if (r1.2 != (0:Int))=true then
some (((0:Int),([],())),r1.2)
else
(qhr r1.1 a3).bind fun r2=>
if (r2.2 != (0:Int))=true then
some (((0:Int),([],())),r2.2)
else
(qIw a0 a1 a2 r2.1).bind fun r3=>
some (r3)):=CE
noncomputable def vJd:FN:={f:=293,cuts:=[],tab:=[],fm:=⟨true,[.val (.int .i32) []]⟩}
noncomputable def qEx (a0:Int) (a1:Bool):Option (Int):=vJd.call [(.int .i32 a0),(.bool a1)] []
theorem qEz (a0:Int) (a1:Bool):qEx a0 a1=(
if a1=true then
some (wd .i32 ((4095:Int) - a0))
else
some (wd .i32 ((0:Int) - a0))):=CE
noncomputable def vEd:FN:={f:=294,cuts:=[],tab:=[],fm:=⟨true,[.val (.int .i64) [], .val (.int .i64) []]⟩}
noncomputable def qHr (a0:Int) (a1:Int):Option (Int×Int):=vEd.call [(.int .i64 a0),(.int .i64 a1)] []
theorem qVz (a0:Int) (a1:Int):qHr a0 a1=(
if (decide (a1<(0:Int)))=true then
some ((0:Int),(2:Int))
else
if (decide (a1>(62:Int)))=true then
some ((0:Int),(2:Int))
else
if (a1==(0:Int))=true then
some (a0,(0:Int))
else
gd (0≤a1)<|
letI c:=(wd .i64 (a1 - (1:Int)))
gd (0≤c)<|
some ((wd .i64 ((qcl .i64 a0 a1)+(qeb .i64 (qcl .i64 a0 c) (1:Int)))),(0:Int))):=CE
noncomputable def vje:FN:={f:=295,cuts:=[],tab:=[SS vYc],fm:=⟨true,[.val (.int .i32) []]⟩}
noncomputable def qsy (a0:Int) (a1:Int):Option (Int):=vje.call [(.int .i32 a0),(.int .i32 a1)] []
theorem qzE (a0:Int) (a1:Int):qsy a0 a1=(
(qQs (wd .i64 ((wd .i64 a0)+(wd .i64 a1)))).bind fun r1=>
some (r1)):=CE
noncomputable def vWa:FN:={f:=262,cuts:=[⟨(8,3),[1,2,3,4,10,13,37,38,39],false,false,[10,11],[],[]⟩,⟨(14,3),[1,10,13,16,56,57,58],false,false,[10,11],[],[]⟩],tab:=[SS vjc,SS vb,SS vJd,SS vEd,SS vje],fm:=⟨true,[.val qCa [], .val (.int .i64) []]⟩}
noncomputable def qyr (a0:qAa) (a1:Int) (a2:List Int) (a3:Int) (a4:Bool):Option (qAa×Int):=vWa.call [(.agg qCa (inj false qCa a0)),(.int .i64 a1),(.sl (.int .i32) false a2),(.int .i32 a3),(.bool a4)] []
noncomputable def qtg (v1:Int) (v2:List Int) (v3:Int) (v4:Bool) (v37:List (List Int)) (v38:Int) (v39:Int) (b8b:Unit) (b9b:Unit) (h10:List (List Int)) (h11:List (List Int)):Option (qAa×Int):=vWa.sem ⟨[.code (cIn (cIn (qba (qGa (qba (qba (qba (qba (qha wg 262))))))))), .inLoop (cIn (cIn (qba (qGa (qba (qba (qba (qba (qha wg 262))))))))), .inBlock 0, .code (qba (qba (qba (qba (qba (qha wg 262))))))],⟨[(1,(.one (.int .i64 v1))),(2,(.one (.sl (.int .i32) false v2))),(3,(.one (.int .i32 v3))),(4,(.one (.bool v4))),(10,(.one (.ptr qCa 8 []))),(13,(.one (.ptr qCa 9 []))),(37,(.one (.sl (.slice (.int .i32)) false v37))),(38,(.one (.int .i64 v38))),(39,(.one (.int .i64 v39)))],[(8,some (.box qCa ((SV.ref 10 0 (we h10) true),b8b))),(9,some (.box qCa ((SV.ref 11 0 (we h11) true),b9b))),(10,some (.fam (.int .i32) h10)),(11,some (.fam (.int .i32) h11))],12⟩⟩
noncomputable def qsg (v1:Int) (v16:Int) (v56:List Int) (v57:Int) (v58:Int) (b8b:Unit) (b9b:Unit) (h10:List (List Int)) (h11:List (List Int)):Option (qAa×Int):=vWa.sem ⟨[.code (cIn (cIn (qba (qGa (qba (qba (qba (qba (qba (qba (qha wg 262))))))))))), .inLoop (cIn (cIn (qba (qGa (qba (qba (qba (qba (qba (qba (qha wg 262))))))))))), .inBlock 2, .code (qba (qba (qba (qba (qba (qba (qba (qha wg 262))))))))],⟨[(1,(.one (.int .i64 v1))),(10,(.one (.ptr qCa 8 []))),(13,(.one (.ptr qCa 9 []))),(16,(.one (.int .i64 v16))),(56,(.one (.sl (.int .i32) false v56))),(57,(.one (.int .i64 v57))),(58,(.one (.int .i64 v58)))],[(8,some (.box qCa ((SV.ref 10 0 (we h10) true),b8b))),(9,some (.box qCa ((SV.ref 11 0 (we h11) true),b9b))),(10,some (.fam (.int .i32) h10)),(11,some (.fam (.int .i32) h11))],12⟩⟩
theorem qHz (a0:qAa) (a1:Int) (a2:List Int) (a3:Int) (a4:Bool):qyr a0 a1 a2 a3 a4=(
(qwn a0 a1 a2).bind fun r1=>
if (r1 != (0:Int))=true then
some (([],()),r1)
else
if (decide (a3<(0:Int)))=true then
some (([],()),(2:Int))
else
if (decide (a3>(4095:Int)))=true then
some (([],()),(2:Int))
else
qtg a1 a2 a3 a4 a0.1 (wi (we a0.1)) (0:Int) () () [] []):=CE
theorem qKm (v1:Int) (v2:List Int) (v3:Int) (v4:Bool) (v37:List (List Int)) (v38:Int) (v39:Int) (b8b:Unit) (b9b:Unit) (h10:List (List Int)) (h11:List (List Int)):qtg v1 v2 v3 v4 v37 v38 v39 b8b b9b h10 h11=(
if (decide (v39<v38))=true then
gd (0≤v39)<|
gd (v39<(wi (we v37)))<|
(qVa (wk v37 (wn v39) [])).bind fun r2=>
gd ((we (h11++[r2]))*24≤140737488355328)<|
qtg v1 v2 v3 v4 v37 v38 (wd .i64 (v39+(1:Int))) b8b b9b h10 (h11++[r2])
else
(qEx v3 v4).bind fun r3=>
qsg v1 (wd .i64 ((wd .i64 r3)*(7:Int))) v2 (wi (we v2)) (0:Int) b8b b9b h10 h11):=SE
theorem qJm (v1:Int) (v16:Int) (v56:List Int) (v57:Int) (v58:Int) (b8b:Unit) (b9b:Unit) (h10:List (List Int)) (h11:List (List Int)):qsg v1 v16 v56 v57 v58 b8b b9b h10 h11=(
if (decide (v58<v57))=true then
gd (0≤v58)<|
gd (v58<(wi (we v56)))<|
letI e:=(wn v58)
(qHr (wd .i64 ((wd .i64 (wk v56 e (0:Int)))*v16)) (14:Int)).bind fun r4=>
gd (0≤v1)<|
letI d:=(wi (we h11))
gd (v1<d)<|
letI c:=(0+(wn v1))
gd (0<(we (wk h11 c [])))<|
gd (0≤v1)<|
gd (v1<d)<|
gd (0<(we (wk h11 c [])))<|
gd (0≤v58)<|
gd (v58<(wi (we (wk h11 c []))))<|
(qsy (wk (wk h11 c []) (0+e) (0:Int)) (wd .i32 r4.1)).bind fun r5=>
gd (0≤v58)<|
gd (v58<(wi (we (wk h11 c []))))<|
qsg v1 v16 v56 v57 (wd .i64 (v58+(1:Int))) b8b b9b h10 (wF h11 c (wF (wk h11 c []) (0+e) r5))
else
some ((h11,b9b),(0:Int))):=SE
noncomputable def vOb:FN:={f:=296,cuts:=[⟨(8,3),[1,2,3,8,11,31,32,33],false,false,[10,11],[],[]⟩],tab:=[SS vQb,SS vb],fm:=⟨true,[.val qCa [], .val (.int .i64) []]⟩}
noncomputable def qql (a0:qAa) (a1:Int) (a2:Int) (a3:Bool):Option (qAa×Int):=vOb.call [(.agg qCa (inj false qCa a0)),(.int .i64 a1),(.int .i64 a2),(.bool a3)] []
noncomputable def qDf (v1:Int) (v2:Int) (v3:Bool) (v31:List (List Int)) (v32:Int) (v33:Int) (b8b:Unit) (b9b:Unit) (h10:List (List Int)) (h11:List (List Int)):Option (qAa×Int):=vOb.sem ⟨[.code (cIn (cIn (qba (qGa (qba (qba (qba (qba (qha wg 296))))))))), .inLoop (cIn (cIn (qba (qGa (qba (qba (qba (qba (qha wg 296))))))))), .inBlock 0, .code (qba (qba (qba (qba (qba (qha wg 296))))))],⟨[(1,(.one (.int .i64 v1))),(2,(.one (.int .i64 v2))),(3,(.one (.bool v3))),(8,(.one (.ptr qCa 8 []))),(11,(.one (.ptr qCa 9 []))),(31,(.one (.sl (.slice (.int .i32)) false v31))),(32,(.one (.int .i64 v32))),(33,(.one (.int .i64 v33)))],[(8,some (.box qCa ((SV.ref 10 0 (we h10) true),b8b))),(9,some (.box qCa ((SV.ref 11 0 (we h11) true),b9b))),(10,some (.fam (.int .i32) h10)),(11,some (.fam (.int .i32) h11))],12⟩⟩
theorem qcx (a0:qAa) (a1:Int) (a2:Int) (a3:Bool):qql a0 a1 a2 a3=(
(qol a0 a1).bind fun r1=>
if (r1 != (0:Int))=true then
some (([],()),r1)
else
if (decide (a2<(0:Int)))=true then
some (([],()),(2:Int))
else
if (decide (a2≥(33:Int)))=true then
some (([],()),(2:Int))
else
qDf a1 a2 a3 a0.1 (wi (we a0.1)) (0:Int) () () [] []):=CE
theorem qpl (v1:Int) (v2:Int) (v3:Bool) (v31:List (List Int)) (v32:Int) (v33:Int) (b8b:Unit) (b9b:Unit) (h10:List (List Int)) (h11:List (List Int)):qDf v1 v2 v3 v31 v32 v33 b8b b9b h10 h11=(
if (decide (v33<v32))=true then
gd (0≤v33)<|
gd (v33<(wi (we v31)))<|
(qVa (wk v31 (wn v33) [])).bind fun r2=>
gd ((we (h11++[r2]))*24≤140737488355328)<|
qDf v1 v2 v3 v31 v32 (wd .i64 (v33+(1:Int))) b8b b9b h10 (h11++[r2])
else
letI e:=(wi (we h11))
letI d:=(0+(wn v2))
letI c:=(0+(wn v1))
if v3=true then
gd (0≤v1)<|
gd (v1<e)<|
gd (0<(we (wk h11 c [])))<|
gd (0≤v2)<|
gd (v2<(wi (we (wk h11 c []))))<|
gd ((64:Int)≠0)<|
some (((wF h11 c (wF (wk h11 c []) d (wd .i32 ((wk (wk h11 c []) d (0:Int))+(wd .i32 (wFa (wd .i32 ((65535:Int) - (wk (wk h11 c []) d (0:Int)))) (64:Int))))))),b9b),(0:Int))
else
gd (0≤v1)<|
gd (v1<e)<|
gd (0<(we (wk h11 c [])))<|
gd (0≤v2)<|
gd (v2<(wi (we (wk h11 c []))))<|
gd ((64:Int)≠0)<|
some (((wF h11 c (wF (wk h11 c []) d (wd .i32 ((wk (wk h11 c []) d (0:Int))+(wd .i32 (wFa (wd .i32 ((0:Int) - (wk (wk h11 c []) d (0:Int)))) (64:Int))))))),b9b),(0:Int))):=SE
noncomputable def vzd:FN:={f:=263,cuts:=[],tab:=[SS vta,SS vOb],fm:=⟨true,[.val qac [], .val (.int .i64) []]⟩}
noncomputable def qIr (a0:qUa) (a1:qrc) (a2:Bool):Option (qUa×Int):=vzd.call [(.agg qac (inj false qac a0)),(.agg qqh (inj false qqh a1)),(.bool a2)] []
theorem qYz (a0:qUa) (a1:qrc) (a2:Bool):qIr a0 a1 a2=(
(qQk a0).bind fun r1=>
if (r1 != (0:Int))=true then
some ((([],()),(([],()),())),r1)
else
gd (0≤(0:Int))<|
gd ((0:Int)<(2:Int))<|
gd (0≤(0:Int))<|
gd ((0:Int)<(2:Int))<|
(qql a0.1 (wk a1.1 0 (0:Int)) (wk a1.2.1 0 (0:Int)) a2).bind fun r2=>
gd (0≤(1:Int))<|
gd ((1:Int)<(2:Int))<|
gd (0≤(1:Int))<|
gd ((1:Int)<(2:Int))<|
(qql a0.2.1 (wk a1.1 1 (0:Int)) (wk a1.2.1 1 (0:Int)) a2).bind fun r3=>
if (r2.2 != (0:Int))=true then
some ((([],()),(([],()),())),(2:Int))
else
if (r3.2 != (0:Int))=true then
some ((([],()),(([],()),())),(2:Int))
else
some ((r2.1,(r3.1,())),(0:Int))):=CE
noncomputable def vPd:FN:={f:=297,cuts:=[],tab:=[],fm:=⟨true,[.val (.int .i64) []]⟩}
noncomputable def qzx (a0:Int) (a1:Bool):Option (Int):=vPd.call [(.int .i64 a0),(.bool a1)] []
theorem qzz (a0:Int) (a1:Bool):qzx a0 a1=(
letI c:=(wd .i64 ((2:Int)*a0))
if a1=true then
some (wd .i64 (c+(1:Int)))
else
some c):=CE
noncomputable def vBd:FN:={f:=264,cuts:=[],tab:=[SS vV,SS vPd,SS vDc],fm:=⟨true,[.val qLa [], .val .bool [], .val (.int .u8) [], .val (.int .i64) []]⟩}
noncomputable def qtr (a0:qxa) (a1:Bool):Option (qxa×Bool×Int×Int):=vBd.call [(.agg qLa (inj false qLa a0)),(.bool a1)] []
theorem qBz (a0:qxa) (a1:Bool):qtr a0 a1=(
(qIf a0).bind fun r1=>
if (r1 != (0:Int))=true then
some (((0:Int),()),(false,((0:Int),r1)))
else
(qzx a0.1 a1).bind fun r2=>
if (decide (r2>(255:Int)))=true then
(qRt).bind fun r3=>
some (r3,(true,((wd .u8 r2),(0:Int))))
else
some ((r2,()),(false,((0:Int),(0:Int))))):=CE
noncomputable def vvd:FN:={f:=298,cuts:=[⟨(9,3),[1,4,7],false,false,[],[],[]⟩],tab:=[SS vu,SS vXa],fm:=⟨true,[.val qna [], .val (.int .i64) []]⟩}
noncomputable def qsB (a0:qma) (a1:List Int):Option (qma×Int):=vvd.call [(.agg qna (inj false qna a0)),(.sl (.int .u8) false a1)] []
noncomputable def qpr (v1:List Int) (b8a:Int) (b8bb:qxa) (b9a:Int) (b9bb:qxa) (h10:List Int) (h11:List Int):Option (qma×Int):=vvd.sem ⟨[.code (cIn (cIn (qGa (qba (qba (qba (qba (qha wg 298)))))))), .inLoop (cIn (cIn (qGa (qba (qba (qba (qba (qha wg 298)))))))), .inBlock 1, .code (qba (qba (qba (qba (qba (qha wg 298))))))],⟨[(1,(.one (.sl (.int .u8) false v1))),(4,(.one (.ptr qna 8 []))),(7,(.one (.ptr qna 9 [])))],[(8,some (.box qna (b8a,((SV.ref 10 0 (we h10) true),(inj false qLa b8bb))))),(9,some (.box qna (b9a,((SV.ref 11 0 (we h11) true),(inj false qLa b9bb))))),(10,some (.row (.int .u8) true h10)),(11,some (.row (.int .u8) true h11))],12⟩⟩
theorem qQF (a0:qma) (a1:List Int):qsB a0 a1=(
(qne a0).bind fun r1=>
if (r1 != (0:Int))=true then
some (((0:Int),([],((0:Int),()))),r1)
else
letI c:=(wi (we a1))
if (decide (c>(20000:Int)))=true then
some (((0:Int),([],((0:Int),()))),(4:Int))
else
if (decide (c>(wd .i64 ((1073741824:Int) - a0.2.2.1))))=true then
some (((0:Int),([],((0:Int),()))),(16:Int))
else
(qLi a0.2.1).bind fun r2=>
qpr a1 (0:Int) ((0:Int),()) a0.1 (a0.2.2.1,()) [] r2):=CE
theorem qGq (v1:List Int) (b8a:Int) (b8bb:qxa) (b9a:Int) (b9bb:qxa) (h10:List Int) (h11:List Int):qpr v1 b8a b8bb b9a b9bb h10 h11=(
letI f:=(we v1)
if (decide ((wi f)>(0:Int)))=true then
letI g:=(we h11)
letI d:=(wi g)
gd (d≠0)<|
letI e:=(wob b9bb.1 d)
gd (0≤e)<|
gd (e≤d)<|
letI c:=(min f (g - (wn e)))
gd (0≤(wi c))<|
gd ((wi c)≤(wi f))<|
qpr (wW c v1) b8a b8bb b9a ((wd .i64 (b9bb.1+(wi c))),b9bb.2) h10 (qKb h11 (0+(wn e)) (wK c v1))
else
some ((b9a,(h11,b9bb)),(0:Int))):=SE
noncomputable def vTb:FN:={f:=299,cuts:=[⟨(3,3),[1,3,4],false,false,[],[],[]⟩],tab:=[SS vad,SS vWb],fm:=⟨true,[.val (.int .u32) []]⟩}
noncomputable def qZg (a0:qma):Option (Int):=vTb.call [(.agg qna (inj false qna a0))] []
noncomputable def qMh (v4:Int) (b8:qma) (h9:List Int):Option (Int):=vTb.sem ⟨[.code (cIn (cIn (qba (qGa (qba (qba (qha wg 299))))))), .inLoop (cIn (cIn (qba (qGa (qba (qba (qha wg 299))))))), .inBlock 0, .code (qba (qba (qba (qha wg 299))))],⟨[(1,(.one (.ptr qna 8 []))),(3,(.one (.ref (.int .u8) 9 0 (we h9) true))),(4,(.one (.int .i64 v4)))],[(8,some (.box qna (inj false qna b8))),(9,some (.row (.int .u8) true h9))],10⟩⟩
theorem qOx (a0:qma):qZg a0=(
qMh (4:Int) a0 []):=CE
theorem qCl (v4:Int) (b8:qma) (h9:List Int):qMh v4 b8 h9=(
if (decide (v4>(0:Int)))=true then
(qps b8 v4).bind fun r1=>
gd ((we (h9++[r1.1]))*1≤140737488355328)<|
qMh (wd .i64 (v4 - (1:Int))) b8 (h9++[r1.1])
else
(qTm (6:Int) h9).bind fun r2=>
some (r2.1)):=SE
noncomputable def vPb:FN:={f:=310,cuts:=[],tab:=[SS vMa,SS vKa],fm:=⟨true,[.val (.int .i64) [], .val (.int .i64) []]⟩}
noncomputable def qJl (a0:qIa) (a1:Int):Option (Int×Int):=vPb.call [(.agg qgb (inj false qgb a0)),(.int .u32 a1)] []
theorem qty (a0:qIa) (a1:Int):qJl a0 a1=(
(qwj a0).bind fun r1=>
if (r1 != (0:Int))=true then
some ((0:Int),r1)
else
(quj a1 (wi (we a0.2.1))).bind fun r2=>
some (r2)):=CE
noncomputable def vDd:FN:={f:=300,cuts:=[],tab:=[SS vPb],fm:=⟨true,[.val (.int .i64) [], .val (.int .i64) []]⟩}
noncomputable def qHi (a0:qIa) (a1:Int):Option (Int×Int):=vDd.call [(.agg qgb (inj false qgb a0)),(.int .u32 a1)] []
theorem qXz (a0:qIa) (a1:Int):qHi a0 a1=(
(qJl a0 a1).bind fun r1=>
if (r1.2 != (0:Int))=true then
some ((0:Int),r1.2)
else
gd (0≤r1.1)<|
gd (r1.1<(wi (we a0.2.1)))<|
some ((wk a0.2.1 (wn r1.1) (0:Int)),(0:Int))):=CE
noncomputable def vwa:FN:={f:=301,cuts:=[⟨(9,4),[1,2,3,9,10,11],false,false,[],[],[]⟩,⟨(11,7),[1,2,3,9,10,11,46],false,false,[],[],[]⟩],tab:=[SS vu],fm:=⟨true,[.val (.int .i64) [], .val (.int .i64) []]⟩}
noncomputable def qWf (a0:qma) (a1:Int) (a2:Int):Option (Int×Int):=vwa.call [(.agg qna (inj false qna a0)),(.int .i64 a1),(.int .i64 a2)] []
noncomputable def qKd (v1:Int) (v2:Int) (v9:Int) (v10:Int) (v11:Int) (b8:qma):Option (Int×Int):=vwa.sem ⟨[.code (cIn (cIn (qGa (qba (qba (qba (qba (qba (qba (cIn (qba (qha wg 301)))))))))))), .inLoop (cIn (cIn (qGa (qba (qba (qba (qba (qba (qba (cIn (qba (qha wg 301)))))))))))), .inBlock 0, .code (qba (qba (qba (qba (qba (qba (qba (cIn (qba (qha wg 301)))))))))), .inScope (cIn (qba (qha wg 301)))],⟨[(1,(.one (.int .i64 v1))),(2,(.one (.int .i64 v2))),(3,(.one (.ptr qna 8 []))),(9,(.one (.int .i64 v9))),(10,(.one (.int .i64 v10))),(11,(.one (.int .i64 v11)))],[(8,some (.box qna (inj false qna b8)))],9⟩⟩
noncomputable def qHg (v1:Int) (v2:Int) (v9:Int) (v10:Int) (v11:Int) (v46:Int) (b8:qma):Option (Int×Int):=vwa.sem ⟨[.code (cIn (cIn (qba (cIn (qba (cIn (cIn (qGa (qba (qba (qba (qba (qba (qba (cIn (qba (qha wg 301))))))))))))))))), .inLoop (cIn (cIn (qba (cIn (qba (cIn (cIn (qGa (qba (qba (qba (qba (qba (qba (cIn (qba (qha wg 301))))))))))))))))), .inBlock 2, .inBlock 1, .inLoop (cIn (cIn (qGa (qba (qba (qba (qba (qba (qba (cIn (qba (qha wg 301)))))))))))), .inBlock 0, .code (qba (qba (qba (qba (qba (qba (qba (cIn (qba (qha wg 301)))))))))), .inScope (cIn (qba (qha wg 301)))],⟨[(1,(.one (.int .i64 v1))),(2,(.one (.int .i64 v2))),(3,(.one (.ptr qna 8 []))),(9,(.one (.int .i64 v9))),(10,(.one (.int .i64 v10))),(11,(.one (.int .i64 v11))),(46,(.one (.int .i64 v46)))],[(8,some (.box qna (inj false qna b8)))],9⟩⟩
theorem qKv (a0:qma) (a1:Int) (a2:Int):qWf a0 a1 a2=(
(qne a0).bind fun r1=>
if (r1 != (0:Int))=true then
some ((0:Int),r1)
else
if (decide (a1<(0:Int)))=true then
some ((0:Int),(2:Int))
else
if (decide (a1>a0.2.2.1))=true then
some ((0:Int),(2:Int))
else
if (decide (a2<(0:Int)))=true then
some ((0:Int),(2:Int))
else
letI d:=(wi (we a0.2.1))
letI c:=(wd .i64 (a1 - (wd .i64 (a0.2.2.1 - d))))
qKd a1 a2 d (if c<a1 then c else a1) (0:Int) a0):=CE
theorem qOk (v1:Int) (v2:Int) (v9:Int) (v10:Int) (v11:Int) (b8:qma):qKd v1 v2 v9 v10 v11 b8=(
if (decide (v11<(if v2<v10 then v2 else v10)))=true then
qHg v1 v2 v9 v10 v11 (0:Int) b8
else
some (v11,(0:Int))):=SE
theorem qNk (v1:Int) (v2:Int) (v9:Int) (v10:Int) (v11:Int) (v46:Int) (b8:qma):qHg v1 v2 v9 v10 v11 v46 b8=(
if (decide (v46<(4:Int)))=true then
letI c:=(wd .i64 (v11+(1:Int)))
if (decide (c>(if v2<v10 then v2 else v10)))=true then
some (v11,(0:Int))
else
letI d:=(wd .i64 (v9 - (1:Int)))
letI f:=(qeb .i64 (wd .i64 (v1 - c)) d)
gd (0≤f)<|
letI g:=(wi (we b8.2.1))
gd (f<g)<|
letI e:=(qeb .i64 (wd .i64 (b8.2.2.1 - c)) d)
gd (0≤e)<|
gd (e<g)<|
if ((wk b8.2.1 (wn f) (0:Int)) != (wk b8.2.1 (wn e) (0:Int)))=true then
some (v11,(0:Int))
else
qHg v1 v2 v9 v10 c (wd .i64 (v46+(1:Int))) b8
else
qKd v1 v2 v9 v10 v11 b8):=SE
noncomputable def vYd:FN:={f:=302,cuts:=[],tab:=[SS vPb,SS vea],fm:=⟨true,[.val qgb [], .val (.int .i64) []]⟩}
noncomputable def qGi (a0:qIa) (a1:Int) (a2:Int):Option (qIa×Int):=vYd.call [(.agg qgb (inj false qgb a0)),(.int .u32 a1),(.int .i64 a2)] []
theorem qfC (a0:qIa) (a1:Int) (a2:Int):qGi a0 a1 a2=(
(qJl a0 a1).bind fun r1=>
if (r1.2 != (0:Int))=true then
some (((0:Int),([],())),r1.2)
else
if (decide (a2<(0:Int)))=true then
some (((0:Int),([],())),(2:Int))
else
if (decide (a2>(1073741824:Int)))=true then
some (((0:Int),([],())),(2:Int))
else
(qde a0.2.1).bind fun r2=>
gd (0≤r1.1)<|
gd (r1.1<(wi (we r2)))<|
some ((a0.1,((wF r2 (0+(wn r1.1)) a2),())),(0:Int))):=CE
noncomputable def vSd:FN:={f:=265,cuts:=[],tab:=[SS vbb,SS vu,SS vMa,SS vVb,SS vNb,SS vvd,SS vTb,SS vDd,SS vwa,SS vYd],fm:=⟨true,[.val qwa [], .val qna [], .val qgb [], .val (.int .i64) []]⟩}
noncomputable def qVt (a0:qia) (a1:qma) (a2:qIa) (a3:Int):Option (qia×qma×qIa×Int):=vSd.call [(.agg qwa (inj false qwa a0)),(.agg qna (inj false qna a1)),(.agg qgb (inj false qgb a2)),(.int .u8 a3)] []
theorem qQB (a0:qia) (a1:qma) (a2:qIa) (a3:Int):qVt a0 a1 a2 a3=(
(qIk a0).bind fun r1=>
if (r1 != (0:Int))=true then
some (((0:Int),((0:Int),())),(((0:Int),([],((0:Int),()))),(((0:Int),([],())),(8:Int))))
else
(qne a1).bind fun r2=>
if (r2 != (0:Int))=true then
some (((0:Int),((0:Int),())),(((0:Int),([],((0:Int),()))),(((0:Int),([],())),(8:Int))))
else
(qwj a2).bind fun r3=>
if (r3 != (0:Int))=true then
some (((0:Int),((0:Int),())),(((0:Int),([],((0:Int),()))),(((0:Int),([],())),(8:Int))))
else
(qKs).bind fun r4=>
(qDl a0 a1).bind fun r5=>
letI k:=(qsB a1 [a3])
letI j:=(decide (r4.1<(0:Int)))
if r5.2=true then
if (r5.1==a3)=true then
if (decide (a0.1<(1073741824:Int)))=true then
k.bind fun r6=>
if (r6.2 != (0:Int))=true then
some (((0:Int),((0:Int),())),(((0:Int),([],((0:Int),()))),(((0:Int),([],())),r6.2)))
else
(qZg r6.1).bind fun r7=>
(qHi a2 r7).bind fun r8=>
letI i:=(qGi a2 r7 r6.1.2.2.1)
letI d:=(wd .i64 (a0.1+(1:Int)))
letI c:=(wd .i64 (a0.2.1+(1:Int)))
if (decide (d<(0:Int)))=true then
if (decide (r8.1≥(0:Int)))=true then
if (decide (r8.1≤r6.1.2.2.1))=true then
(qWf r6.1 r8.1 (40:Int)).bind fun r9=>
if (decide (r9.1≥(3:Int)))=true then
i.bind fun r10=>
some ((r8.1,(r9.1,())),(r6.1,(r10.1,(0:Int))))
else
i.bind fun r11=>
some ((d,((if (40:Int)<c then (40:Int) else c),())),(r6.1,(r11.1,(0:Int))))
else
i.bind fun r12=>
some ((d,((if (40:Int)<c then (40:Int) else c),())),(r6.1,(r12.1,(0:Int))))
else
i.bind fun r13=>
some ((d,((if (40:Int)<c then (40:Int) else c),())),(r6.1,(r13.1,(0:Int))))
else
i.bind fun r14=>
some ((d,((if (40:Int)<c then (40:Int) else c),())),(r6.1,(r14.1,(0:Int))))
else
k.bind fun r15=>
if (r15.2 != (0:Int))=true then
some (((0:Int),((0:Int),())),(((0:Int),([],((0:Int),()))),(((0:Int),([],())),r15.2)))
else
(qZg r15.1).bind fun r16=>
(qHi a2 r16).bind fun r17=>
letI e:=(qGi a2 r16 r15.1.2.2.1)
if j=true then
if (decide (r17.1≥(0:Int)))=true then
if (decide (r17.1≤r15.1.2.2.1))=true then
(qWf r15.1 r17.1 (40:Int)).bind fun r18=>
if (decide (r18.1≥(3:Int)))=true then
e.bind fun r19=>
some ((r17.1,(r18.1,())),(r15.1,(r19.1,(0:Int))))
else
e.bind fun r20=>
some (r4,(r15.1,(r20.1,(0:Int))))
else
e.bind fun r21=>
some (r4,(r15.1,(r21.1,(0:Int))))
else
e.bind fun r22=>
some (r4,(r15.1,(r22.1,(0:Int))))
else
e.bind fun r23=>
some (r4,(r15.1,(r23.1,(0:Int))))
else
k.bind fun r24=>
if (r24.2 != (0:Int))=true then
some (((0:Int),((0:Int),())),(((0:Int),([],((0:Int),()))),(((0:Int),([],())),r24.2)))
else
(qZg r24.1).bind fun r25=>
(qHi a2 r25).bind fun r26=>
letI f:=(qGi a2 r25 r24.1.2.2.1)
if j=true then
if (decide (r26.1≥(0:Int)))=true then
if (decide (r26.1≤r24.1.2.2.1))=true then
(qWf r24.1 r26.1 (40:Int)).bind fun r27=>
if (decide (r27.1≥(3:Int)))=true then
f.bind fun r28=>
some ((r26.1,(r27.1,())),(r24.1,(r28.1,(0:Int))))
else
f.bind fun r29=>
some (r4,(r24.1,(r29.1,(0:Int))))
else
f.bind fun r30=>
some (r4,(r24.1,(r30.1,(0:Int))))
else
f.bind fun r31=>
some (r4,(r24.1,(r31.1,(0:Int))))
else
f.bind fun r32=>
some (r4,(r24.1,(r32.1,(0:Int))))
else
k.bind fun r33=>
if (r33.2 != (0:Int))=true then
some (((0:Int),((0:Int),())),(((0:Int),([],((0:Int),()))),(((0:Int),([],())),r33.2)))
else
(qZg r33.1).bind fun r34=>
(qHi a2 r34).bind fun r35=>
letI g:=(qGi a2 r34 r33.1.2.2.1)
if j=true then
if (decide (r35.1≥(0:Int)))=true then
if (decide (r35.1≤r33.1.2.2.1))=true then
(qWf r33.1 r35.1 (40:Int)).bind fun r36=>
if (decide (r36.1≥(3:Int)))=true then
g.bind fun r37=>
some ((r35.1,(r36.1,())),(r33.1,(r37.1,(0:Int))))
else
g.bind fun r38=>
some (r4,(r33.1,(r38.1,(0:Int))))
else
g.bind fun r39=>
some (r4,(r33.1,(r39.1,(0:Int))))
else
g.bind fun r40=>
some (r4,(r33.1,(r40.1,(0:Int))))
else
g.bind fun r41=>
some (r4,(r33.1,(r41.1,(0:Int))))):=CE
noncomputable def vHd:FN:={f:=303,cuts:=[],tab:=[SS vIa],fm:=⟨true,[.val (.int .u32) []]⟩}
noncomputable def qGr (a0:Int) (a1:Int):Option (Int):=vHd.call [(.int .u32 a0),(.int .u8 a1)] []
theorem qTz (a0:Int) (a1:Int):qGr a0 a1=(
(qHl a0 [a1]).bind fun r1=>
some (r1)):=CE
noncomputable def vkd:FN:={f:=266,cuts:=[],tab:=[SS vHd],fm:=⟨true,[.val (.int .u32) [], .val (.int .i64) []]⟩}
noncomputable def qzp (a0:Int) (a1:Int):Option (Int×Int):=vkd.call [(.int .u32 a0),(.int .i64 a1)] []
theorem qRy (a0:Int) (a1:Int):qzp a0 a1=(
if (decide (a1<(16:Int)))=true then
some ((0:Int),(2:Int))
else
if (decide (a1>(31:Int)))=true then
some ((0:Int),(2:Int))
else
(qGr a0 (wd .u8 a1)).bind fun r1=>
some (r1,(0:Int))):=CE
noncomputable def vra:FN:={f:=209,cuts:=[⟨(7,3),[2,3,4,6,8,9,31],false,false,[],[],[]⟩,⟨(28,3),[3,6,11,16,152,153],false,false,[],[],[]⟩],tab:=[(SS vo).dropping,(SS vp).dropping,SS vdd,SS vse,SS vWa,SS vzd,SS vBd,SS vSd,SS vAa,(qFm (fun _=>true)).dropping,SS vkd],fm:=⟨false,[.val qla [], .val (.int .i64) []]⟩}
noncomputable def qWi (a0:qja) (a1:qEc) (a2:Bool):Option (qja×Int):=vra.call [(.agg qla (inj false qla a0)),(.agg qmc (inj false qmc a1)),(.bool a2)] []
noncomputable def qkd (v2:Bool) (v8:Int) (v9:Int) (v31:Int) (b8a:Int) (b8ba:qma) (b8bbbb:(qAa×(qUa×(qIa×(qia×(qxa×((List Int)×((List Int)×Unit)))))))) (b9:qEc) (b10a:Int) (b10baa:Int) (b10babb:qxa) (b10bbbbab:Unit) (b10bbbbbaab:Unit) (b10bbbbbabab:Unit) (b10bbbbbabb:Unit) (b10bbbbbbaa:Int) (b10bbbbbbabb:Unit) (b10bbbbbbb:(qia×(qxa×((List Int)×((List Int)×Unit))))) (h11:List qta) (h12:List qra) (h13:List Int) (h14:List qta) (h15:List qra) (h16:List (List Int)) (h17:List (List Int)) (h18:List (List Int)) (h19:List Int):Option (qja×Int):=vra.sem ⟨[.code (cIn (cIn (qba (qGa (qba (qba (qba (qba (qba (qha wg 209)))))))))), .inLoop (cIn (cIn (qba (qGa (qba (qba (qba (qba (qba (qha wg 209)))))))))), .inBlock 0, .code (qba (qba (qba (qba (qba (qba (qha wg 209)))))))],⟨[(2,(.one (.bool v2))),(3,(.one (.ptr qla 8 []))),(4,(.one (.ptr qmc 9 []))),(6,(.one (.ptr qla 10 []))),(8,(.one (.int .u8 v8))),(9,(.one (.int .i64 v9))),(31,(.one (.int .i64 v31)))],[(8,some (.box qla (b8a,((inj false qna b8ba),((SV.ref 11 0 (we h11) true),((SV.ref 12 0 (we h12) true),(inj false (.pair qCa (.pair qac (.pair qgb (.pair qwa (.pair qLa (.pair (.arr 6 (.int .u32)) (.pair (.arr 6 (.int .i64)) .unit))))))) b8bbbb))))))),(9,some (.box qmc (inj false qmc b9))),(10,some (.box qla (b10a,((b10baa,((SV.ref 13 0 (we h13) true),(inj false qLa b10babb))),((SV.ref 14 0 (we h14) true),((SV.ref 15 0 (we h15) true),(((SV.ref 16 0 (we h16) true),b10bbbbab),((((SV.ref 17 0 (we h17) true),b10bbbbbaab),(((SV.ref 18 0 (we h18) true),b10bbbbbabab),b10bbbbbabb)),((b10bbbbbbaa,((SV.ref 19 0 (we h19) true),b10bbbbbbabb)),(inj false (.pair qwa (.pair qLa (.pair (.arr 6 (.int .u32)) (.pair (.arr 6 (.int .i64)) .unit)))) b10bbbbbbb)))))))))),(11,some (.row qEa false h11)),(12,some (.row qDa false h12)),(13,some (.row (.int .u8) true h13)),(14,some (.row qEa true h14)),(15,some (.row qDa true h15)),(16,some (.row (.slice (.int .i32)) true h16)),(17,some (.row (.slice (.int .i32)) true h17)),(18,some (.row (.slice (.int .i32)) true h18)),(19,some (.row (.int .i64) true h19))],20⟩⟩
noncomputable def qoe (v152:(List Int)) (v153:Int) (b8a:Int) (b8ba:qma) (b8bbbba:qAa) (b8bbbbba:qUa) (b8bbbbbb:(qIa×(qia×(qxa×((List Int)×((List Int)×Unit)))))) (b9a:Int) (b9baa:Int) (b9babb:qxa) (b9bbbbab:Unit) (b9bbbbbaab:Unit) (b9bbbbbabab:Unit) (b9bbbbbabb:Unit) (b9bbbbbbaa:Int) (b9bbbbbbabb:Unit) (b9bbbbbbb:(qia×(qxa×((List Int)×((List Int)×Unit))))) (b10:qxa) (b11:(List Int)) (h12:List qta) (h13:List qra) (h14:List Int) (h15:List qta) (h16:List qra) (h17:List (List Int)) (h18:List (List Int)) (h19:List (List Int)) (h20:List Int):Option (qja×Int):=vra.sem ⟨[.code (cIn (cIn (qba (qGa (qba (qba (qba (qba (qba (qba (qba (qba (qba (qba (qba (qba (qba (qha wg 209)))))))))))))))))), .inLoop (cIn (cIn (qba (qGa (qba (qba (qba (qba (qba (qba (qba (qba (qba (qba (qba (qba (qba (qha wg 209)))))))))))))))))), .inBlock 2, .code (qba (qba (qba (qba (qba (qba (qba (qba (qba (qba (qba (qba (qba (qba (qha wg 209)))))))))))))))],⟨[(3,(.one (.ptr qla 8 []))),(6,(.one (.ptr qla 9 []))),(11,(.one (.ptr qLa 10 []))),(16,(.one (.ptr (.arr 6 (.int .u32)) 11 []))),(152,(.one (.agg (.arr 6 (.int .u32)) v152))),(153,(.one (.int .i64 v153)))],[(8,some (.box qla (b8a,((inj false qna b8ba),((SV.ref 12 0 (we h12) true),((SV.ref 13 0 (we h13) true),((inj true qCa b8bbbba),((inj true qac b8bbbbba),(inj false (.pair qgb (.pair qwa (.pair qLa (.pair (.arr 6 (.int .u32)) (.pair (.arr 6 (.int .i64)) .unit))))) b8bbbbbb))))))))),(9,some (.box qla (b9a,((b9baa,((SV.ref 14 0 (we h14) true),(inj false qLa b9babb))),((SV.ref 15 0 (we h15) true),((SV.ref 16 0 (we h16) true),(((SV.ref 17 0 (we h17) true),b9bbbbab),((((SV.ref 18 0 (we h18) true),b9bbbbbaab),(((SV.ref 19 0 (we h19) true),b9bbbbbabab),b9bbbbbabb)),((b9bbbbbbaa,((SV.ref 20 0 (we h20) true),b9bbbbbbabb)),(inj false (.pair qwa (.pair qLa (.pair (.arr 6 (.int .u32)) (.pair (.arr 6 (.int .i64)) .unit)))) b9bbbbbbb)))))))))),(10,some (.box qLa (inj false qLa b10))),(11,some (.box (.arr 6 (.int .u32)) b11)),(12,some (.row qEa false h12)),(13,some (.row qDa false h13)),(14,some (.row (.int .u8) true h14)),(15,some (.row qEa true h15)),(16,some (.row qDa true h16)),(17,some (.row (.slice (.int .i32)) true h17)),(18,some (.row (.slice (.int .i32)) true h18)),(19,some (.row (.slice (.int .i32)) true h19)),(20,some (.row (.int .i64) true h20))],21⟩⟩
theorem qJt (a0:qja) (a1:qEc) (a2:Bool):qWi a0 a1 a2=(
letI e:=(qBb a0.2.2.1)
letI d:=(qCb a0.2.2.2.1)
letI c:=(wo 6 (0:Int))
if a2=true then
e.bind fun r1=>
d.bind fun r2=>
qkd a2 (1:Int) a0.2.2.2.2.2.2.2.2.1.1 (0:Int) a0.1 a0.2.1 a0.2.2.2.2 a1 (0:Int) (0:Int) ((0:Int),()) () () () () (0:Int) () (((0:Int),((0:Int),())),(((0:Int),()),(c,(c,())))) r1 r2 [] [] [] [] [] [] []
else
e.bind fun r3=>
d.bind fun r4=>
qkd a2 (0:Int) a0.2.2.2.2.2.2.2.2.1.1 (0:Int) a0.1 a0.2.1 a0.2.2.2.2 a1 (0:Int) (0:Int) ((0:Int),()) () () () () (0:Int) () (((0:Int),((0:Int),())),(((0:Int),()),(c,(c,())))) r3 r4 [] [] [] [] [] [] []):=CE
theorem qQj (v2:Bool) (v8:Int) (v9:Int) (v31:Int) (b8a:Int) (b8ba:qma) (b8bbbb:(qAa×(qUa×(qIa×(qia×(qxa×((List Int)×((List Int)×Unit)))))))) (b9:qEc) (b10a:Int) (b10baa:Int) (b10babb:qxa) (b10bbbbab:Unit) (b10bbbbbaab:Unit) (b10bbbbbabab:Unit) (b10bbbbbabb:Unit) (b10bbbbbbaa:Int) (b10bbbbbbabb:Unit) (b10bbbbbbb:(qia×(qxa×((List Int)×((List Int)×Unit))))) (h11:List qta) (h12:List qra) (h13:List Int) (h14:List qta) (h15:List qra) (h16:List (List Int)) (h17:List (List Int)) (h18:List (List Int)) (h19:List Int):qkd v2 v8 v9 v31 b8a b8ba b8bbbb b9 b10a b10baa b10babb b10bbbbab b10bbbbbaab b10bbbbbabab b10bbbbbabb b10bbbbbbaa b10bbbbbbabb b10bbbbbbb h11 h12 h13 h14 h15 h16 h17 h18 h19=(
if (decide (v31<(6:Int)))=true then
gd (0≤v31)<|
letI d:=(wi (we h12))
gd (v31<d)<|
gd (0≤v31)<|
gd (v31<(wi (we b9.2.1)))<|
letI c:=(wn v31)
(qXp (wk h12 (0+c) (qqa qDa)) (wk b9.2.1 c (0:Int)) v8).bind fun r5=>
gd (0≤v31)<|
gd (v31<d)<|
gd (0≤v31)<|
letI e:=(wi (we h11))
gd (v31<e)<|
gd (0≤v31)<|
gd (v31<(6:Int))<|
(qKw (wk h11 (0+c) (qqa qEa)) (wk b8bbbb.2.2.2.2.2.2.1 c (0:Int)) b9.1 v8).bind fun r6=>
gd (0≤v31)<|
gd (v31<e)<|
qkd v2 v8 v9 (wd .i64 (v31+(1:Int))) b8a b8ba b8bbbb b9 b10a b10baa b10babb b10bbbbab b10bbbbbaab b10bbbbbabab b10bbbbbabb b10bbbbbbaa b10bbbbbbabb b10bbbbbbb (wF h11 (0+c) r6.1) (wF h12 (0+c) r5.1) h13 h14 h15 h16 h17 h18 h19
else
(qyr b8bbbb.1 v9 b9.2.2.1 b9.2.2.2.1 v2).bind fun r7=>
(qIr b8bbbb.2.1 b9.2.2.2.2.2.1 v2).bind fun r8=>
(qtr b8bbbb.2.2.2.2.1 v2).bind fun r9=>
if r9.2.1=true then
(qVt b8bbbb.2.2.2.1 b8ba b8bbbb.2.2.1 r9.2.2.1).bind fun r10=>
if (r10.2.2.2 != (0:Int))=true then
letI f:=(wo 6 (0:Int))
some (((0:Int),(((0:Int),([],((0:Int),()))),([],([],(([],()),((([],()),(([],()),())),(((0:Int),([],())),(((0:Int),((0:Int),())),(((0:Int),()),(f,(f,()))))))))))),r10.2.2.2)
else
(qXf r10.2.1).bind fun r11=>
(qHf r11.1 b8a r10.2.1 (r7.1,(r8.1,(r10.2.2.1,(r10.1,(r9.1,(r11.1,b8bbbb.2.2.2.2.2.2)))))) h11 h12).bind fun r12=>
some ((r12.1.1,(r12.1.2.1,(r12.2.1,(r12.2.2,r12.1.2.2.2.2)))),(0:Int))
else
if (decide (r9.1.1<(16:Int)))=true then
some ((b8a,(b8ba,(h11,(h12,(r7.1,(r8.1,(b8bbbb.2.2.1,(b8bbbb.2.2.2.1,(r9.1,b8bbbb.2.2.2.2.2))))))))),(0:Int))
else
if (decide (r9.1.1>(31:Int)))=true then
some ((b8a,(b8ba,(h11,(h12,(r7.1,(r8.1,(b8bbbb.2.2.1,(b8bbbb.2.2.2.1,(r9.1,b8bbbb.2.2.2.2.2))))))))),(0:Int))
else
qoe b8bbbb.2.2.2.2.2.1 (0:Int) b8a b8ba r7.1 r8.1 (b8bbbb.2.2.1,(b8bbbb.2.2.2.1,(r9.1,b8bbbb.2.2.2.2.2))) b10a b10baa b10babb b10bbbbab b10bbbbbaab b10bbbbbabab b10bbbbbabb b10bbbbbbaa b10bbbbbbabb b10bbbbbbb r9.1 b8bbbb.2.2.2.2.2.1 h11 h12 h13 h14 h15 h16 h17 h18 h19):=SE
theorem qPj (v152:(List Int)) (v153:Int) (b8a:Int) (b8ba:qma) (b8bbbba:qAa) (b8bbbbba:qUa) (b8bbbbbb:(qIa×(qia×(qxa×((List Int)×((List Int)×Unit)))))) (b9a:Int) (b9baa:Int) (b9babb:qxa) (b9bbbbab:Unit) (b9bbbbbaab:Unit) (b9bbbbbabab:Unit) (b9bbbbbabb:Unit) (b9bbbbbbaa:Int) (b9bbbbbbabb:Unit) (b9bbbbbbb:(qia×(qxa×((List Int)×((List Int)×Unit))))) (b10:qxa) (b11:(List Int)) (h12:List qta) (h13:List qra) (h14:List Int) (h15:List qta) (h16:List qra) (h17:List (List Int)) (h18:List (List Int)) (h19:List (List Int)) (h20:List Int):qoe v152 v153 b8a b8ba b8bbbba b8bbbbba b8bbbbbb b9a b9baa b9babb b9bbbbab b9bbbbbaab b9bbbbbabab b9bbbbbabb b9bbbbbbaa b9bbbbbbabb b9bbbbbbb b10 b11 h12 h13 h14 h15 h16 h17 h18 h19 h20=(
if (decide (v153<(6:Int)))=true then
gd (0≤v153)<|
gd (v153<(6:Int))<|
letI c:=(wn v153)
(qzp (wk v152 c (0:Int)) b10.1).bind fun r13=>
gd (0≤v153)<|
gd (v153<(6:Int))<|
qoe v152 (wd .i64 (v153+(1:Int))) b8a b8ba b8bbbba b8bbbbba b8bbbbbb b9a b9baa b9babb b9bbbbab b9bbbbbaab b9bbbbbabab b9bbbbbabb b9bbbbbbaa b9bbbbbbabb b9bbbbbbb b10 (wF b11 c r13.1) h12 h13 h14 h15 h16 h17 h18 h19 h20
else
(qHf b11 b8a b8ba (b8bbbba,(b8bbbbba,b8bbbbbb)) h12 h13).bind fun r14=>
some ((r14.1.1,(r14.1.2.1,(r14.2.1,(r14.2.2,r14.1.2.2.2.2)))),(0:Int))):=SE
noncomputable def vYa:FN:={f:=159,cuts:=[⟨(9,3),[2,4,8,26,27,28],false,false,[],[],[]⟩],tab:=[SS vnb,(SS vKb).dropping,SS vab,(SS vra).dropping],fm:=⟨false,[.val qla [], .val (.slice (.int .i64)) [.nw], .val (.int .i64) []]⟩}
noncomputable def qCk (a0:qja) (a1:List Bool):Option (qja×List Int×Int):=vYa.call [(.agg qla (inj false qla a0)),(.sl .bool false a1)] []
noncomputable def qZd (v26:List Bool) (v27:Int) (v28:Int) (b8:qja) (b9a:Int) (b9baa:Int) (b9babb:qxa) (b9bbbbab:Unit) (b9bbbbbaab:Unit) (b9bbbbbabab:Unit) (b9bbbbbabb:Unit) (b9bbbbbbaa:Int) (b9bbbbbbabb:Unit) (b9bbbbbbb:(qia×(qxa×((List Int)×((List Int)×Unit))))) (h10:List Int) (h11:List Int) (h12:List qta) (h13:List qra) (h14:List (List Int)) (h15:List (List Int)) (h16:List (List Int)) (h17:List Int):Option (qja×List Int×Int):=vYa.sem ⟨[.code (cIn (cIn (qba (qGa (qba (qba (qba (qba (qba (qha wg 159)))))))))), .inLoop (cIn (cIn (qba (qGa (qba (qba (qba (qba (qba (qha wg 159)))))))))), .inBlock 0, .code (qba (qba (qba (qba (qba (qba (qha wg 159)))))))],⟨[(2,(.one (.ptr qla 8 []))),(4,(.one (.ptr qla 9 []))),(8,(.one (.ref (.int .i64) 10 0 (we h10) true))),(26,(.one (.sl .bool false v26))),(27,(.one (.int .i64 v27))),(28,(.one (.int .i64 v28)))],[(8,some (.box qla (inj false qla b8))),(9,some (.box qla (b9a,((b9baa,((SV.ref 11 0 (we h11) true),(inj false qLa b9babb))),((SV.ref 12 0 (we h12) true),((SV.ref 13 0 (we h13) true),(((SV.ref 14 0 (we h14) true),b9bbbbab),((((SV.ref 15 0 (we h15) true),b9bbbbbaab),(((SV.ref 16 0 (we h16) true),b9bbbbbabab),b9bbbbbabb)),((b9bbbbbbaa,((SV.ref 17 0 (we h17) true),b9bbbbbbabb)),(inj false (.pair qwa (.pair qLa (.pair (.arr 6 (.int .u32)) (.pair (.arr 6 (.int .i64)) .unit)))) b9bbbbbbb)))))))))),(10,some (.row (.int .i64) true h10)),(11,some (.row (.int .u8) true h11)),(12,some (.row qEa true h12)),(13,some (.row qDa true h13)),(14,some (.row (.slice (.int .i32)) true h14)),(15,some (.row (.slice (.int .i32)) true h15)),(16,some (.row (.slice (.int .i32)) true h16)),(17,some (.row (.int .i64) true h17))],18⟩⟩
theorem qKq (a0:qja) (a1:List Bool):qCk a0 a1=(
(qWj a0).bind fun r1=>
letI c:=(wo 6 (0:Int))
if (r1 != (0:Int))=true then
some (((0:Int),(((0:Int),([],((0:Int),()))),([],([],(([],()),((([],()),(([],()),())),(((0:Int),([],())),(((0:Int),((0:Int),())),(((0:Int),()),(c,(c,()))))))))))),([],r1))
else
letI d:=(wi (we a1))
if (decide (d>(2000:Int)))=true then
some (((0:Int),(((0:Int),([],((0:Int),()))),([],([],(([],()),((([],()),(([],()),())),(((0:Int),([],())),(((0:Int),((0:Int),())),(((0:Int),()),(c,(c,()))))))))))),([],(4:Int)))
else
(qVo a0).bind fun r2=>
qZd a1 d (0:Int) r2 (0:Int) (0:Int) ((0:Int),()) () () () () (0:Int) () (((0:Int),((0:Int),())),(((0:Int),()),(c,(c,())))) [] [] [] [] [] [] [] []):=CE
theorem qVf (v26:List Bool) (v27:Int) (v28:Int) (b8:qja) (b9a:Int) (b9baa:Int) (b9babb:qxa) (b9bbbbab:Unit) (b9bbbbbaab:Unit) (b9bbbbbabab:Unit) (b9bbbbbabb:Unit) (b9bbbbbbaa:Int) (b9bbbbbbabb:Unit) (b9bbbbbbb:(qia×(qxa×((List Int)×((List Int)×Unit))))) (h10:List Int) (h11:List Int) (h12:List qta) (h13:List qra) (h14:List (List Int)) (h15:List (List Int)) (h16:List (List Int)) (h17:List Int):qZd v26 v27 v28 b8 b9a b9baa b9babb b9bbbbab b9bbbbbaab b9bbbbbabab b9bbbbbabb b9bbbbbbaa b9bbbbbbabb b9bbbbbbb h10 h11 h12 h13 h14 h15 h16 h17=(
if (decide (v28<v27))=true then
gd (0≤v28)<|
gd (v28<(wi (we v26)))<|
(qCi b8).bind fun r3=>
(qWi b8 r3 (wk v26 (wn v28) false)).bind fun r4=>
if (r4.2 != (0:Int))=true then
letI d:=(wo 6 (0:Int))
some (((0:Int),(((0:Int),([],((0:Int),()))),([],([],(([],()),((([],()),(([],()),())),(((0:Int),([],())),(((0:Int),((0:Int),())),(((0:Int),()),(d,(d,()))))))))))),([],r4.2))
else
letI c:=(h10++[(wd .i64 r3.2.2.2.2.1)])
gd ((we c)*8≤140737488355328)<|
qZd v26 v27 (wd .i64 (v28+(1:Int))) r4.1 b9a b9baa b9babb b9bbbbab b9bbbbbaab b9bbbbbabab b9bbbbbabb b9bbbbbbaa b9bbbbbbabb b9bbbbbbb c h11 h12 h13 h14 h15 h16 h17
else
some (b8,(h10,(0:Int)))):=SE
noncomputable def vxc:FN:={f:=122,cuts:=[],tab:=[(SS vYa).dropping],fm:=⟨false,[.val qla [], .val (.int .i64) []]⟩}
noncomputable def qim (a0:qja) (a1:Bool):Option (qja×Int):=vxc.call [(.agg qla (inj false qla a0)),(.bool a1)] []
theorem qKt (a0:qja) (a1:Bool):qim a0 a1=(
(qCk a0 [a1]).bind fun r1=>
some (r1.1,r1.2.2)):=CE
noncomputable def vEa:FN:={f:=79,cuts:=[⟨(8,3),[2,8,10,11],false,false,[],[],[]⟩,⟨(11,7),[2,8,10,11,12,45],false,false,[],[],[]⟩],tab:=[(SS vmc).dropping,(SS vFd).dropping,SS vne,(SS vxd).dropping,(SS vxc).dropping],fm:=⟨true,[.val (.slice (.int .u8)) [.nw], .val (.int .i64) []]⟩}
noncomputable def qBp (a0:Int) (a1:List Int) (a2:Int):Option (List Int×Int):=vEa.call [(.int .i64 a0),(.sl (.int .u8) false a1),(.int .i64 a2)] []
noncomputable def qQf (v2:Int) (b8:qja) (b9:qNa) (h10:List Int):Option (List Int×Int):=vEa.sem ⟨[.code (cIn (cIn (qGa (qba (qba (qba (qba (qba (qba (qha wg 79)))))))))), .inLoop (cIn (cIn (qGa (qba (qba (qba (qba (qba (qba (qha wg 79)))))))))), .inBlock 0, .code (qba (qba (qba (qba (qba (qba (qba (qha wg 79))))))))],⟨[(2,(.one (.int .i64 v2))),(8,(.one (.ptr qla 8 []))),(10,(.one (.ptr qPa 9 []))),(11,(.one (.ref (.int .u8) 10 0 (we h10) true)))],[(8,some (.box qla (inj false qla b8))),(9,some (.box qPa (inj false qPa b9))),(10,some (.row (.int .u8) true h10))],11⟩⟩
noncomputable def qPf (v2:Int) (v12:Int) (v45:Int) (b8:qja) (b9:qNa) (h10:List Int):Option (List Int×Int):=vEa.sem ⟨[.code (cIn (cIn (qba (qGa (qba (cIn (qba (cIn (cIn (qGa (qba (qba (qba (qba (qba (qba (qha wg 79))))))))))))))))), .inLoop (cIn (cIn (qba (qGa (qba (cIn (qba (cIn (cIn (qGa (qba (qba (qba (qba (qba (qba (qha wg 79))))))))))))))))), .inBlock 2, .code (qba (qba (cIn (qba (cIn (cIn (qGa (qba (qba (qba (qba (qba (qba (qha wg 79)))))))))))))), .inBlock 1, .inLoop (cIn (cIn (qGa (qba (qba (qba (qba (qba (qba (qha wg 79)))))))))), .inBlock 0, .code (qba (qba (qba (qba (qba (qba (qba (qha wg 79))))))))],⟨[(2,(.one (.int .i64 v2))),(8,(.one (.ptr qla 8 []))),(10,(.one (.ptr qPa 9 []))),(11,(.one (.ref (.int .u8) 10 0 (we h10) true))),(12,(.one (.int .u8 v12))),(45,(.one (.int .i64 v45)))],[(8,some (.box qla (inj false qla b8))),(9,some (.box qPa (inj false qPa b9))),(10,some (.row (.int .u8) true h10))],11⟩⟩
theorem qUy (a0:Int) (a1:List Int) (a2:Int):qBp a0 a1 a2=(
(qQr a0 (0:Int)).bind fun r1=>
if (r1.2 != (0:Int))=true then
some ([],(2:Int))
else
if (decide (a2<(0:Int)))=true then
some ([],(2:Int))
else
if (decide (a2>(4096:Int)))=true then
some ([],(2:Int))
else
(qMr a1).bind fun r2=>
if (r2.2 != (0:Int))=true then
some ([],r2.2)
else
qQf a2 r1.1 r2.1 []):=CE
theorem qSl (v2:Int) (b8:qja) (b9:qNa) (h10:List Int):qQf v2 b8 b9 h10=(
if (decide ((wi (we h10))<v2))=true then
qPf v2 (0:Int) (0:Int) b8 b9 h10
else
some (h10,(0:Int))):=SE
theorem qRl (v2:Int) (v12:Int) (v45:Int) (b8:qja) (b9:qNa) (h10:List Int):qPf v2 v12 v45 b8 b9 h10=(
if (decide (v45<(8:Int)))=true then
(qlx b8).bind fun r3=>
(qNr b9 r3.1).bind fun r4=>
(qim b8 r4.2.1).bind fun r5=>
letI d:=(wd .u8 (v12*(2:Int)))
letI c:=(wd .i64 (v45+(1:Int)))
if r4.2.1=true then
qPf v2 (wd .u8 (d+(1:Int))) c r5.1 r4.1 h10
else
qPf v2 d c r5.1 r4.1 h10
else
gd ((we (h10++[v12]))*1≤140737488355328)<|
qQf v2 b8 b9 (h10++[v12])):=SE
noncomputable def vGd:FN:={f:=123,cuts:=[],tab:=[],fm:=⟨true,[.val qya []]⟩}
noncomputable def qBy:Option (qBa):=vGd.call [] []
theorem qfA:qBy=(
some ((0:Int),((4294967295:Int),([],())))):=CE
noncomputable def vbe:FN:={f:=161,cuts:=[],tab:=[],fm:=⟨false,[.clo 210 (.slice (.int .u8))]⟩}
noncomputable def qZA (a0:List Int):Option ((List Int)):=vbe.call [(.sl (.int .u8) false a0)] []
theorem qPC (a0:List Int):qZA a0=(
some (a0)):=CE
noncomputable def vrb:FN:={f:=162,cuts:=[],tab:=[],fm:=⟨true,[.val (.int .i64) []]⟩}
noncomputable def qdk (a0:qBa):Option (Int):=vrb.call [(.agg qya (inj false qya a0))] []
theorem qNv (a0:qBa):qdk a0=(
if (decide (a0.1≥a0.2.1))=true then
some (8:Int)
else
gd (0≤(24:Int))<|
gd (0≤(24:Int))<|
if ((wX a0.1 (16777216:Int))==(wX a0.2.1 (16777216:Int)))=true then
some (8:Int)
else
if (decide ((wi (we a0.2.2.1))>(20000:Int)))=true then
some (8:Int)
else
some (0:Int)):=CE
noncomputable def vdb:FN:={f:=164,cuts:=[⟨(4,1),[0],false,false,[],[],[]⟩],tab:=[SS vub],fm:=⟨true,[.box 0 qya [.pu]]⟩}
noncomputable def qpm (a1:Int) (a2:Bool) (b0a:Int) (b0ba:Int) (b0bbb:Unit) (h1:List Int):Option (qBa):=vdb.call [(.ptr qya 0 []),(.int .i64 a1),(.bool a2)] [(0,(.box qya (b0a,(b0ba,((SV.ref 1 0 (we h1) true),b0bbb))))),(1,(.row (.int .u8) false h1))]
noncomputable def qse (b0a:Int) (b0ba:Int) (b0bbb:Unit) (h8:List Int):Option (qBa):=vdb.sem ⟨[.code (qvS (cIn (qha wg 164)) 0), .inScope (cIn (qha wg 164))],⟨[(0,(.one (.ptr qya 0 [])))],[(0,some (.box qya (b0a,(b0ba,((SV.ref 8 0 (we h8) true),b0bbb))))),(8,some (.row (.int .u8) false h8))],10⟩⟩
theorem qku (a1:Int) (a2:Bool) (b0a:Int) (b0ba:Int) (b0bbb:Unit) (h1:List Int):qpm a1 a2 b0a b0ba b0bbb h1=(
(qTh b0a b0ba a1).bind fun r1=>
if a2=true then
gd (0≤(24:Int))<|
gd (0≤(24:Int))<|
letI f:=(wX r1 (16777216:Int))
if ((wX b0a (16777216:Int))==f)=true then
gd (0≤(24:Int))<|
letI e:=(h1++[(wd .u8 f)])
gd ((we e)*1≤140737488355328)<|
gd (0≤(8:Int))<|
gd (0≤(8:Int))<|
qse (wd .u32 (b0a*(256:Int))) (qlc .u32 (wd .u32 (r1*(256:Int))) (255:Int)) b0bbb e
else
some (b0a,(r1,(h1,b0bbb)))
else
gd (0≤(24:Int))<|
gd (0≤(24:Int))<|
letI d:=(wX b0ba (16777216:Int))
letI c:=(wd .u32 (r1+(1:Int)))
if ((wX c (16777216:Int))==d)=true then
gd (0≤(24:Int))<|
letI g:=(h1++[(wd .u8 d)])
gd ((we g)*1≤140737488355328)<|
gd (0≤(8:Int))<|
gd (0≤(8:Int))<|
qse (wd .u32 (c*(256:Int))) (qlc .u32 (wd .u32 (b0ba*(256:Int))) (255:Int)) b0bbb g
else
some (c,(b0ba,(h1,b0bbb)))):=CE
theorem qRj (b0a:Int) (b0ba:Int) (b0bbb:Unit) (h8:List Int):qse b0a b0ba b0bbb h8=(
gd (0≤(24:Int))<|
gd (0≤(24:Int))<|
letI c:=(wX b0ba (16777216:Int))
if ((wX b0a (16777216:Int))==c)=true then
gd (0≤(24:Int))<|
letI d:=(h8++[(wd .u8 c)])
gd ((we d)*1≤140737488355328)<|
gd (0≤(8:Int))<|
gd (0≤(8:Int))<|
qse (wd .u32 (b0a*(256:Int))) (qlc .u32 (wd .u32 (b0ba*(256:Int))) (255:Int)) b0bbb d
else
some (b0a,(b0ba,(h8,b0bbb)))):=SE
noncomputable def qLv (acc:List AV→Bool):Summ wg GT:=vdb.summ mixed acc true false
noncomputable def vId:FN:={f:=126,cuts:=[],tab:=[SS vrb,SS vMb,SS vd,qLv (fun _=>true)],fm:=⟨true,[.val qya [], .val (.int .i64) []]⟩}
noncomputable def qKr (a0:qBa) (a1:Int) (a2:Bool):Option (qBa×Int):=vId.call [(.agg qya (inj false qya a0)),(.int .i64 a1),(.bool a2)] []
theorem qeA (a0:qBa) (a1:Int) (a2:Bool):qKr a0 a1 a2=(
(qdk a0).bind fun r1=>
if (r1 != (0:Int))=true then
some (((0:Int),((0:Int),([],()))),r1)
else
(qzj a1).bind fun r2=>
if (not r2)=true then
some (((0:Int),((0:Int),([],()))),(2:Int))
else
(qub a0.2.2.1).bind fun r3=>
(qpm a1 a2 a0.1 a0.2.1 a0.2.2.2 r3).bind fun r4=>
if (decide ((wi (we r4.2.2.1))>(20000:Int)))=true then
some (((0:Int),((0:Int),([],()))),(4:Int))
else
some (r4,(0:Int))):=CE
noncomputable def vCc:FN:={f:=125,cuts:=[],tab:=[SS vId],fm:=⟨false,[.box 0 (.int .i64) [], .box 1 qya [.pu]]⟩}
noncomputable def qum (a0:Int) (a1:Bool) (b0:Int) (b1:qBa):Option (Int×qBa):=vCc.call [(.int .i64 a0),(.bool a1),(.ptr (.int .i64) 0 []),(.ptr qya 1 [])] [(0,(.box (.int .i64) b0)),(1,(.box qya (inj false qya b1)))]
theorem qru (a0:Int) (a1:Bool) (b0:Int) (b1:qBa):qum a0 a1 b0 b1=(
if (b0==(0:Int))=true then
(qKr b1 a0 a1).bind fun r1=>
some (r1.2,r1.1)
else
some (b0,b1)):=CE
noncomputable def vIb:FN:={f:=160,cuts:=[⟨(2,3),[0,1,2,3,4,15,16,17],false,true,[],[],[]⟩],tab:=[(SS vYa).dropping,(SS vCc).dropping],fm:=⟨false,[.box 0 qla [.pu, .pu, .pu, .pu, .pu, .pu, .pu], .box 1 (.slice .bool) [.nw], .cfn 2 125 [3,4], .box 3 (.int .i64) [], .box 4 qya [.pu]]⟩}
noncomputable def qeh (b0:qja) (b1:(List Bool)) (b3:Int) (b4:qBa):Option (qja×(List Bool)×Unit×Int×qBa):=vIb.call [(.ptr qla 0 []),(.ptr (.slice .bool) 1 []),(.cptr 2)] [(0,(.box qla (inj false qla b0))),(1,(.box (.slice .bool) (SV.pure false b1))),(2,(.cell (.func 125 [3,4]))),(3,(.box (.int .i64) b3)),(4,(.box qya (inj false qya b4)))]
noncomputable def qOf (v15:List Bool) (v16:Int) (v17:Int) (b0:qja) (b1:(List Bool)) (b3:Int) (b4:qBa) (b8:qja) (h9:List Int):Option (qja×(List Bool)×Unit×Int×qBa):=vIb.sem ⟨[.code (cIn (cIn (qba (qGa (qba (qha wg 160)))))), .inLoop (cIn (cIn (qba (qGa (qba (qha wg 160)))))), .inBlock 0, .code (qba (qba (qha wg 160)))],⟨[(0,(.one (.ptr qla 0 []))),(1,(.one (.ptr (.slice .bool) 1 []))),(2,(.one (.cptr 2))),(3,(.one (.ptr qla 8 []))),(4,(.one (.ref (.int .i64) 9 0 (we h9) true))),(15,(.one (.sl .bool false v15))),(16,(.one (.int .i64 v16))),(17,(.one (.int .i64 v17)))],[(0,some (.box qla (inj false qla b0))),(1,some (.box (.slice .bool) (SV.pure false b1))),(2,some (.cell (.func 125 [3,4]))),(3,some (.box (.int .i64) b3)),(4,some (.box qya (inj false qya b4))),(8,some (.box qla (inj false qla b8))),(9,some (.row (.int .i64) false h9))],15⟩⟩
theorem qSy (b0:qja) (b1:(List Bool)) (b3:Int) (b4:qBa):qeh b0 b1 b3 b4=(
(qCk b0 b1).bind fun r1=>
qOf b1 (wi (we b1)) (0:Int) b0 b1 b3 b4 r1.1 r1.2.1):=CE
theorem qQl (v15:List Bool) (v16:Int) (v17:Int) (b0:qja) (b1:(List Bool)) (b3:Int) (b4:qBa) (b8:qja) (h9:List Int):qOf v15 v16 v17 b0 b1 b3 b4 b8 h9=(
if (decide (v17<v16))=true then
gd (0≤v17)<|
gd (v17<(wi (we v15)))<|
gd (0≤v17)<|
gd (v17<(wi (we h9)))<|
letI c:=(wn v17)
(qum (wk h9 (0+c) (0:Int)) (wk v15 c false) b3 b4).bind fun r2=>
qOf v15 v16 (wd .i64 (v17+(1:Int))) b0 b1 r2.1 r2.2 b8 h9
else
some (b8,([],((),(b3,b4))))):=SE
end Go.Ab
