/-
  An abstract machine over the model's code and its soundness; what the functions compute, as plain functions (printed by a program of this repo's own, checked here by the kernel); plain laws of them: part 4. Helper text, no statement of the claim stands here.
-/
import Derived.Test.YtdgenbliehokjaaGreatDoorTxtPc
import Derived.Test.YtdgenbliehokjaaGreatDoorProg
import Derived.WalkKit
import Derived.LaidEql
import Derived.Stop.Asserts
import Derived.RowKitTokens
import Derived.Laws.Externs
import Derived.Shelf.Bytes.SlIndexWhole
open ByteArray renaming empty → wD, toList → wja
open Go.IntKind renaming wrap → wd
open Go.Lib renaming bytesOf → wqa
open Go.Proofs.Tryz renaming prog → wg
open Go.Sem renaming run_bind → ww
open Go.Value renaming int → wgb
open Int renaming fdiv → wR, ofNat → wi, tdiv → wFa, tmod → wnb, toNat → wo
open List renaming drop → wY, getD → wm, getElem?_eq_getElem → wx, length → we, length_map → wha, length_nil → wX, replicate → wl, set → wC, take → wL
open Option.some renaming injEq → wc
set_option linter.unusedVariables false
set_option linter.unusedSimpArgs false
namespace Go.Ab.As
open Go Go.Proofs Go.RowKit Go.Extern.Stop Go.Stop Go.Extern
theorem as_nil (t:Value) (w:World):
  Calls wg 58 #[.nilIface,t] w fun e w'=>e= .returned (.bool false)∧w'=w:=by
 go_enter Tryz.func58,Tryz.ntmps58
 go_wp2
 go_ret
 exact ⟨rfl,rfl⟩
theorem qgN (t:Addr) (w:World):(ReflectliteValue.unpack (.iface 132 (.pointer (some t)))).run wg w
  = .ok (.agg #[.pointer (some ⟨8,132,none⟩), .pointer (some ⟨w.heap.size,0,none⟩), .int .u64 150]) (w.alloc (.cells #[.pointer (some t)] 132)):=by kernel_rfl
theorem qbS (a:Addr) (w:World):(ReflectliteValue.methodAny (ReflectliteValue.valueError "reflectlite.Value.Type" 0) (fun t _ _ _=>ReflectliteType.toType t) #[.agg #[.pointer (some ⟨8,132,none⟩), .pointer (some a), .int .u64 150]]).run wg w
  = .ok (.iface 257 (.agg #[.pointer (some ⟨8,132,none⟩)])) w:=by kernel_rfl
theorem qoJ (h:Value) (w:World):(Go.method 614 257 (.agg #[h]) "Kind").run wg w= .ok (338,h) w:=by kernel_rfl
theorem qnS (w:World):((ReflectliteType.abiMethod fun t=>(fun a:Nat=>wgb IntKind.u8 (a:Int)) <$> Rtype.kind t) #[.pointer (some ⟨8,132,none⟩)]).run wg w= .ok (.int .u8 22) w:=by kernel_rfl
theorem qoS (w:World):((ReflectliteType.abiMethod fun t=>(fun a:Nat=>wgb IntKind.u8 (a:Int)) <$> Rtype.kind t) #[.pointer (some ⟨8,26,none⟩)]).run wg w= .ok (.int .u8 2) w:=by kernel_rfl
theorem rlm (z:Sem Value) (f:TypeId→Addr→Nat→Nat→Sem Value) (v:Value):
  ReflectliteValue.method z f #[v]=(do match ←ReflectliteValue.parts v with|none=>z|some (t,a,fl)=>f t a fl (fl%32)):=rfl
theorem qPO (a:Addr) (w:World):(ReflectliteValue.parts (.agg #[.pointer (some ⟨8,132,none⟩), .pointer (some a), .int .u64 150])).run wg w= .ok (some (132,a,150)) w:=by kernel_rfl
theorem qlR (a p:Addr) (W:World) (ha:W.cell? a=some (.pointer (some p))):
  (ReflectliteValue.method (ReflectliteValue.valueError "reflectlite.Value.IsNil" 0) ReflectliteValue.isNil #[.agg #[.pointer (some ⟨8,132,none⟩), .pointer (some a), .int .u64 150]]).run wg W= .ok (.bool false) W:=by
 rw [rlm]
 simp only [ww,qPO,Result.andThen]
 simp [ReflectliteValue.isNil,loadVar,isAgg,underlying,Tryz.underlying132,ha,Result.andThen]
theorem qpJ (h:Value) (w:World):(Go.method 614 257 (.agg #[h]) "Elem").run wg w= .ok (348, .agg #[h]) w:=by kernel_rfl
theorem qsv (h:Value) (w:World):(Go.method 614 257 (.agg #[h]) "Implements").run wg w= .ok (349, .agg #[h]) w:=by kernel_rfl
theorem qEs (h:Value) (w:World):(Go.method 614 257 (.agg #[h]) "AssignableTo").run wg w= .ok (346, .agg #[h]) w:=by kernel_rfl
theorem qxS (w:World):(ReflectliteType.method ReflectliteType.elem #[.agg #[.pointer (some ⟨8,132,none⟩)]]).run wg w= .ok (.iface 257 (.agg #[.pointer (some ⟨8,26,none⟩)])) w:=by kernel_rfl
theorem qhG (w:World):(ReflectliteType.relation "Implements" ReflectliteType.implements_ #[.agg #[.pointer (some ⟨8,26,none⟩)], .iface 257 (.agg #[.pointer (some ⟨8,128,none⟩)])]).run wg w= .ok (.bool true) w:=by kernel_rfl
theorem qwP (v:Value) (w:World):(ReflectliteType.typeOf #[.iface 26 v]).run wg w= .ok (.iface 257 (.agg #[.pointer (some ⟨8,26,none⟩)])) w:=by kernel_rfl
theorem qQG (w:World):(ReflectliteType.relation "AssignableTo" ReflectliteType.assignableTo #[.agg #[.pointer (some ⟨8,26,none⟩)], .iface 257 (.agg #[.pointer (some ⟨8,26,none⟩)])]).run wg w= .ok (.bool true) w:=by kernel_rfl
theorem qhN (n:Int) (w:World):(ReflectliteValue.unpack (.iface 26 (.int .i64 n))).run wg w
  = .ok (.agg #[.pointer (some ⟨8,26,none⟩), .pointer (some ⟨w.heap.size,0,none⟩), .int .u64 130]) (w.alloc (.cells #[.int .i64 n] 26)):=by kernel_rfl
theorem qjQ (w:World):(Rtype.elem? 132).run wg w= .ok (some 26) w:=by kernel_rfl
theorem mkE (p:Addr) (w:World):(ReflectliteValue.mk 26 p ReflectliteValue.flagAddr).run wg w= .ok (.agg #[.pointer (some ⟨8,26,none⟩), .pointer (some p), .int .u64 386]) w:=by kernel_rfl
theorem qwR (a p:Addr) (W:World) (ha:W.cell? a=some (.pointer (some p))):
  (ReflectliteValue.method (ReflectliteValue.valueError "reflectlite.Value.Elem" 0) ReflectliteValue.elem #[.agg #[.pointer (some ⟨8,132,none⟩), .pointer (some a), .int .u64 150]]).run wg W
   = .ok (.agg #[.pointer (some ⟨8,26,none⟩), .pointer (some p), .int .u64 386]) W:=by
 rw [rlm]
 simp only [ww,qPO,Result.andThen]
 simp [ReflectliteValue.elem,loadVar,isAgg,underlying,Tryz.underlying132,ha,Result.andThen,qjQ,mkE]
theorem rls (v x:Value):ReflectliteValue.set #[v,x]=(do
  let (some (dst,a,fl),some (src,b,_)):=(←ReflectliteValue.parts v,←ReflectliteValue.parts x)
   |unsupported (.noEntry "extern/(internal/reflectlite.Value).Set.zeroValue")
  if fl/ReflectliteValue.flagAddr%2==0 then unsupported (.noEntry "extern/(internal/reflectlite.Value).Set.unaddressable")
  let val ←loadVar src b
  if ←Rtype.directlyAssignable dst src then storeVar dst a val
  else if ←Rtype.implements dst src then
   if (←Rtype.kind src)==20 then
    match val with
    | .nilIface=>unsupported (.noEntry "extern/reflectlite: a nil value of one interface type handed on as a value of another")
    |_=>storeVar dst a val
   else storeVar dst a (.iface src val)
  else panicString ("reflectlite.Set: value of type " ++(←Rtype.spelt src)++ " is not assignable to type " ++(←Rtype.spelt dst))
  pure (.tuple #[])):=rfl
theorem qRP (a:Addr) (w:World):(ReflectliteValue.parts (.agg #[.pointer (some ⟨8,26,none⟩), .pointer (some a), .int .u64 386])).run wg w= .ok (some (26,a,386)) w:=by kernel_rfl
theorem qWQ (a:Addr) (w:World):(ReflectliteValue.parts (.agg #[.pointer (some ⟨8,26,none⟩), .pointer (some a), .int .u64 130])).run wg w= .ok (some (26,a,130)) w:=by kernel_rfl
theorem qnQ (w:World):(Rtype.directlyAssignable 26 26).run wg w= .ok true w:=by kernel_rfl
theorem qaT (ta b:Addr) (n:Int) (old:Value) (W:World) (hb:W.cell? b=some (.int .i64 n)) (ht:W.cell? ta=some old) (hf:W.frozen? ta=false):
  (ReflectliteValue.set #[.agg #[.pointer (some ⟨8,26,none⟩), .pointer (some ta), .int .u64 386], .agg #[.pointer (some ⟨8,26,none⟩), .pointer (some b), .int .u64 130]]).run wg W
   = .ok (.tuple #[]) (W.setCell ta (.int .i64 n)):=by
 rw [rls]
 simp only [ww,qRP,qWQ,Result.andThen]
 simp [ReflectliteValue.flagAddr,loadVar,isAgg,underlying,Tryz.underlying26,hb,Result.andThen,qnQ,storeVar,Value.cells,storeCells,Addr.add]
 rw [run_store wg W ta _ _ (by rfl)]
 simp [ht,hf]
set_option maxHeartbeats 4000000 in
set_option maxRecDepth 100000 in
theorem as_hit (n:Int) (t:Addr) (old:Value) (w:World) (hg:w.cell? ⟨0,0,none⟩=some (.iface 257 (.agg #[.pointer (some ⟨8,128,none⟩)]))) (ht0:w.cell? t=some old) (hf0:w.frozen? t=false):
  Calls wg 58 #[.iface 26 (.int .i64 n), .iface 132 (.pointer (some t))] w fun ev w'=>ev= .returned (.bool true)∧w'=((((w.alloc (.cells #[.pointer (some t)] 132)).alloc (.cells #[.pointer (some ⟨8,132,none⟩), .pointer (some ⟨w.heap.size,0,none⟩), .int .u64 150] 181)).alloc (.cells #[.pointer (some ⟨8,132,none⟩), .pointer (some ⟨w.heap.size,0,none⟩), .int .u64 150] 181)).alloc (.cells #[.int .i64 n] 26)).setCell t (.int .i64 n):=by
 have h6:=@run_callFunc_extern wg 99 _ (fun args=>ReflectliteValue.unpack (args.getD 0 (.tuple #[]))) Tryz.func99 (by kernel_rfl) (by kernel_rfl) (by kernel_rfl) (by kernel_rfl)
 have h7:=@run_callFunc_extern wg 100 _ (ReflectliteValue.methodAny (ReflectliteValue.valueError "reflectlite.Value.Type" 0) (fun t _ _ _=>ReflectliteType.toType t)) Tryz.func100 (by kernel_rfl) (by kernel_rfl) (by kernel_rfl) (by kernel_rfl)
 have h8:=@run_callFunc_extern wg 101 _ (ReflectliteValue.method (ReflectliteValue.valueError "reflectlite.Value.IsNil" 0) ReflectliteValue.isNil) Tryz.func101 (by kernel_rfl) (by kernel_rfl) (by kernel_rfl) (by kernel_rfl)
 have h27:=@run_callFunc_extern wg 338 _ (ReflectliteType.abiMethod fun t=>do pure (.int .u8 (←Rtype.kind t))) Tryz.func338 (by kernel_rfl) (by kernel_rfl) (by kernel_rfl) (by kernel_rfl)
 have h37:=@run_callFunc_extern wg 348 _ (ReflectliteType.method ReflectliteType.elem) Tryz.func348 (by kernel_rfl) (by kernel_rfl) (by kernel_rfl) (by kernel_rfl)
 have h38:=@run_callFunc_extern wg 349 _ (ReflectliteType.relation "Implements" ReflectliteType.implements_) Tryz.func349 (by kernel_rfl) (by kernel_rfl) (by kernel_rfl) (by kernel_rfl)
 have h10:=@run_callFunc_extern wg 138 _ ReflectliteType.typeOf Tryz.func138 (by kernel_rfl) (by kernel_rfl) (by kernel_rfl) (by kernel_rfl)
 have h35:=@run_callFunc_extern wg 346 _ (ReflectliteType.relation "AssignableTo" ReflectliteType.assignableTo) Tryz.func346 (by kernel_rfl) (by kernel_rfl) (by kernel_rfl) (by kernel_rfl)
 have h11:=@run_callFunc_extern wg 139 _ (ReflectliteValue.method (ReflectliteValue.valueError "reflectlite.Value.Elem" 0) ReflectliteValue.elem) Tryz.func139 (by kernel_rfl) (by kernel_rfl) (by kernel_rfl) (by kernel_rfl)
 have h12:=@run_callFunc_extern wg 140 _ ReflectliteValue.set Tryz.func140 (by kernel_rfl) (by kernel_rfl) (by kernel_rfl) (by kernel_rfl)
 have tO:=qwP
 have mA:=qEs
 have a25:=qQG
 have v25:=qhN
 have f6:=qgN
 have f7:=qbS
 have mK:=qoJ
 have mE:=qpJ
 have mI:=qsv
 have k27:=qnS
 have k25:=qoS
 have e27:=qxS
 have i25:=qhG
 have n8:=qlR ⟨w.heap.size,0,none⟩ t ((w.alloc (.cells #[.pointer (some t)] 132)).alloc (.cells #[.pointer (some ⟨8,132,none⟩), .pointer (some ⟨w.heap.size,0,none⟩), .int .u64 150] 181)) (by simp)
 have hlt:0<w.heap.size:=by
  rcases Nat.lt_or_ge 0 w.heap.size with h|h
  ·exact h
  ·simp [World.cell?,Array.getElem?_eq_none h] at hg
 have hg2:((w.alloc (.cells #[.pointer (some t)] 132)).alloc (.cells #[.pointer (some ⟨8,132,none⟩), .pointer (some ⟨w.heap.size,0,none⟩), .int .u64 150] 181)).cell? ⟨0,0,none⟩=some (.iface 257 (.agg #[.pointer (some ⟨8,128,none⟩)])):=by
  rw [World.cell?_alloc_lt _ _ ⟨0,0,none⟩ (by first|(simp;done)|(simp;omega)),World.cell?_alloc_lt _ _ ⟨0,0,none⟩ hlt];exact hg
 have htl:t.block<w.heap.size:=by
  rcases Nat.lt_or_ge t.block w.heap.size with h|h
  ·exact h
  ·simp [World.cell?,Array.getElem?_eq_none h] at ht0
 have el:=qwR ⟨w.heap.size,0,none⟩ t (((w.alloc (.cells #[.pointer (some t)] 132)).alloc (.cells #[.pointer (some ⟨8,132,none⟩), .pointer (some ⟨w.heap.size,0,none⟩), .int .u64 150] 181)).alloc (.cells #[.pointer (some ⟨8,132,none⟩), .pointer (some ⟨w.heap.size,0,none⟩), .int .u64 150] 181)) (by rw [World.cell?_alloc_lt _ _ ⟨w.heap.size,0,none⟩ (by first|(simp;done)|(simp;omega))];simp)
 have st:=qaT t ⟨w.heap.size+1+1+1,0,none⟩ n old ((((w.alloc (.cells #[.pointer (some t)] 132)).alloc (.cells #[.pointer (some ⟨8,132,none⟩), .pointer (some ⟨w.heap.size,0,none⟩), .int .u64 150] 181)).alloc (.cells #[.pointer (some ⟨8,132,none⟩), .pointer (some ⟨w.heap.size,0,none⟩), .int .u64 150] 181)).alloc (.cells #[.int .i64 n] 26))
  (by rw [World.cell?_alloc_at _ _ _ _ (by simp)];rfl)
  (by rw [World.cell?_alloc_lt _ _ t (by first|(simp;done)|(simp;omega)),World.cell?_alloc_lt _ _ t (by first|(simp;done)|(simp;omega)),World.cell?_alloc_lt _ _ t (by first|(simp;done)|(simp;omega)),World.cell?_alloc_lt _ _ t htl];exact ht0)
  (by rw [World.frozen?_alloc_old _ _ t (by first|(simp;done)|(simp;omega)),World.frozen?_alloc_old _ _ t (by first|(simp;done)|(simp;omega)),World.frozen?_alloc_old _ _ t (by first|(simp;done)|(simp;omega)),World.frozen?_alloc_old _ _ t (Nat.ne_of_lt htl)];exact hf0)
 go_enter Tryz.func58,Tryz.ntmps58
 go_wp2
 refine wp_loop_rounds 1 ?_
 rw [rounds_succ]
 go_wp2
 go_ret
 exact ⟨rfl,rfl⟩
end Go.Ab.As

set_option linter.unusedVariables false
set_option linter.unusedSimpArgs false
namespace Go.Ab
open Go Go.Proofs Go.RowKit
def qbn (a0:Option Int) (b0:Int):Option (Bool×Int):=some (match a0 with
 |some n=>(true,n)
 |none=>(false,b0))
theorem qPz (n b0:Int):qbn (some n) b0=some (true,n):=rfl
theorem qQz (b0:Int):qbn none b0=some (false,b0):=rfl
def qtp:List AV→List (Nat×Obj)→Option (Bool×Int)
 |[.eri T .i64 x, .ifp TP (.int .i64) 0 []],[(0, .box (.int .i64) v)]=>if T=26∧TP=132 then qbn x v else none
 |_,_=>none
theorem uG:((List.range Tryz.prog.types.size).filter fun t=>Tryz.prog.rowNamed t [101,114,114,111,114])=[128]:=by kernel_rfl
theorem As.rt:(Tryz.prog.cutTypes.find? (·.1== "internal/reflectlite.rtype")).map (·.2)=some 257:=by kernel_rfl
theorem uK {w:World} {g:Nat} (h:Hdl wg w g):w.cell? ⟨g,0,none⟩=some (.iface 257 (.agg #[.pointer (some ⟨8,128,none⟩)])):=by
 obtain ⟨u,ty,e1,e2,e3,e4⟩:=h
 obtain rfl:=Option.some.inj (As.rt.symm.trans e1)
 have hm:ty∈(List.range Tryz.prog.types.size).filter fun t=>Tryz.prog.rowNamed t [101,114,114,111,114]:=List.mem_filter.2 ⟨List.mem_range.2 e2,e3⟩
 rw [uG] at hm
 obtain rfl:=List.mem_singleton.1 hm
 have hh:typeHandle wg 128= .pointer (some ⟨8,128,none⟩):=by kernel_rfl
 rw [hh] at e4
 exact e4
set_option maxRecDepth 100000 in
theorem qyE {GT:qmi} (hGT:lookL GT 0=some ⟨.unit,()⟩) {avs:List AV} {pre:List (Nat×Obj)} {r:Bool×Int} (h:qtp avs pre=some r):CallOK wg GT 58 avs pre (.one (.bool r.1)) [(0, .box (.int .i64) r.2)]:=by
 unfold qtp at h
 split at h
 ·rename_i T x TP v
  split at h
  ·rename_i hT
   obtain ⟨rfl,rfl⟩:=hT
   intro w F G K vs hg hI hG hK hF hv
   obtain ⟨v1,r1,rfl,h1,h2⟩:=hv
   obtain ⟨v2,r2,rfl,h2,h3⟩:=h2
   simp only [VRdL] at h3;subst h3
   obtain ⟨sh,pl,po,k1,k2,rfl⟩:=h2
   obtain ⟨gh,g1,g2⟩:=hI.objs 0 (.box (.int .i64) v) rfl
   rw [k1] at g1;injection g1 with g1;subst g1
   obtain ⟨q1,p,cs,q2,q3,q4⟩:=g2
   rcases k2 with ⟨k3,k2⟩|⟨_,_,_,_,_,_,_,hp,_,_⟩|⟨_,_,_,_,_,_,_,_,hp,_,_⟩
   rotate_left
   ·cases hp
   ·cases hp
   rw [k3] at q2;injection q2 with q2;subst q2
   rw [q1] at k2
   obtain ⟨sh1,sh2⟩:=sh;simp only at q1 k3;subst q1;subst k3
   simp only [ARd] at q4;subst q4
   simp only [qDm,qLa,wc,Prod.mk.injEq] at k2
   obtain ⟨rfl,_⟩:=k2
   have hcell:w.cell? ⟨pl.blk,pl.ob+0,none⟩=some (.int .i64 v):=q3.cells 0 _ rfl
   have hlt:=q3.lt
   have hob:pl.ob+0<pl.bs:=by obtain ⟨_,_,_,_,_,_,h5,_⟩:=q3;simp only [List.length_cons,wX] at h5;omega
   have hfree:w.frozen? ⟨pl.blk,pl.ob+0,none⟩=false:=q3.free hob
   refine qSE (by kernel_rfl) (by kernel_rfl) ?_
   cases x with
   |none=>
    simp only [qbn,wc] at h;subst h
    simp only [VRd] at h1;subst h1
    refine (As.as_nil _ w).mono ?_
    rintro e w' ⟨rfl,rfl⟩
    exact ⟨_,rfl,K,fun _ _ h=>h,hI,rfl⟩
   |some n=>
    simp only [qbn,wc] at h;subst h
    simp only [VRd] at h1;subst h1
    have hc:=uK (hg.2.2.1 0 hGT)
    refine (As.as_hit n ⟨pl.blk,pl.ob+0,none⟩ _ w hc hcell hfree).mono ?_
    rintro e w' ⟨rfl,rfl⟩
    refine ⟨_,rfl,K,fun _ _ h=>h,?_,rfl⟩
    generalize hw4:(((w.alloc _).alloc _).alloc _).alloc _=w4
    have hm:=hI.more (w':=w4) (by subst hw4;rfl) (by subst hw4;rfl) (by subst hw4;rfl) (by subst hw4;simp;omega) (fun k hk=>by
     subst hw4
     simp only [World.alloc]
     rw [Array.getElem?_push_lt (by simp;omega),Array.getElem_push_lt (by simp;omega),Array.getElem_push_lt (by simp;omega),Array.getElem_push_lt hk]
     exact (Array.getElem?_eq_getElem hk).symm)
    have q5:InBlk w4 pl [.int .i64 v]:=q3.keep (by
     subst hw4
     simp only [World.alloc]
     rw [Array.getElem?_push_lt (by simp;omega),Array.getElem_push_lt (by simp;omega),Array.getElem_push_lt (by simp;omega),Array.getElem_push_lt hlt]
     exact (Array.getElem?_eq_getElem hlt).symm)
    have S:=Stp.write (w':=w4.setCells pl.blk (pl.ob+0) [.int .i64 n]) hm.1 0 0 (.box (.int .i64) v) (.box (.int .i64) n) _ pl rfl k1 (Or.inl rfl) (qzb pl.blk _ _ w4)
     (fun N' K' _ _=>⟨rfl,pl,[.int .i64 n],rfl,q5.write (o:=0) (s:=[.int .i64 n]) (by simp),rfl⟩)
    have hup:qJb (lookL [(0, .box (.int .i64) v)]) [(0,some (.box (.int .i64) n))]=lookL [(0, .box (.int .i64) n)]:=by
     funext l
     simp only [qJb,lookL]
     by_cases hl:0=l <;> simp [hl]
    have:=S.inv
    rw [hup] at this
    exact this
  ·cases h
 ·cases h
end Go.Ab

set_option linter.unusedVariables false
set_option linter.unusedSimpArgs false
namespace Go.Ab
open Go Go.Proofs
def qqq (x y c:Int):Option (Int×Int):=
 if 0≤x∧0≤y∧0≤c∧c≤1 then some ((x+y+c)%18446744073709551616,(x+y+c)/18446744073709551616) else none
def qWn:List AV→List (Nat×Obj)→Option (Int×Int)
 |[.int .u64 x, .int .u64 y, .int .u64 c],[]=>qqq x y c
 |_,_=>none
set_option maxRecDepth 100000 in
theorem qKC {GT:qmi} {avs:List AV} {pre:List (Nat×Obj)} {r:Int×Int} (h:qWn avs pre=some r):CallOK wg GT 286 avs pre (.tup [.int .u64 r.1, .int .u64 r.2]) []:=by
 unfold qWn at h
 split at h
 ·rename_i x y c
  unfold qqq at h
  split at h
  ·rename_i hc
   obtain ⟨c1,c2,c3,c4⟩:=hc
   injection h with h;subst h
   intro w F G K vs hg hI hG hK hF hv
   obtain ⟨v1,r1,rfl,h1,h2⟩:=hv
   obtain ⟨v2,r2,rfl,h2,h3⟩:=h2
   obtain ⟨v3,r3,rfl,h3,h4⟩:=h3
   simp only [VRdL] at h4;subst h4
   simp only [VRd] at h1 h2 h3;subst h1;subst h2;subst h3
   have hr:=run_callFunc_extern (w:=w) (args:=#[.int .u64 x, .int .u64 y, .int .u64 c]) Tryz.func286 (by kernel_rfl) (by kernel_rfl) (by kernel_rfl) (e:=add64Entry) (by kernel_rfl)
   rw [run_add64 x y c c1 c2 c3 c4] at hr
   unfold qer
   rw [hr]
   exact ⟨K,fun _ _ h=>h,hI,_,rfl,_,_,rfl,rfl,_,_,rfl,rfl,rfl⟩
  ·cases h
 ·cases h
end Go.Ab

/-
  bytes.Index, by the shelf's contract.
-/
set_option linter.unusedVariables false
set_option linter.unusedSimpArgs false
namespace Go.Ab
open Go Go.Proofs Go.Shelf
def qqS:Ren:=⟨fun|185=>145|187=>178|115=>56|253=>179|224=>180|254=>181|255=>217|291=>218|n=>n,fun|37=>22|3=>3|4=>4|0=>0|5=>5|46=>79|9=>9|146=>252|51=>167|n=>n,fun|1=>3|n=>n⟩
set_option maxRecDepth 100000 in
theorem qVO:Lays.n185 wg qqS:={
 mixed:=by kernel_rfl,
 f115:=Tryz.func56.trans (congrArg some (by kernel_rfl)),
 f185:=Tryz.func145.trans (congrArg some (by kernel_rfl)),
 f187:=Tryz.func178.trans (congrArg some (by kernel_rfl)),
 f224:=Tryz.func180.trans (congrArg some (by kernel_rfl)),
 f253:=Tryz.func179.trans (congrArg some (by kernel_rfl)),
 f254:=Tryz.func181.trans (congrArg some (by kernel_rfl)),
 f255:=Tryz.func217.trans (congrArg some (by kernel_rfl)),
 f291:=Tryz.func218.trans (congrArg some (by kernel_rfl)),
 t0:=Tryz.underlying0,
 a0:=Tryz.isAgg0,
 z0:=Tryz.sizeOf0,
 v0:=Tryz.zeroValue0,
 t3:=Tryz.underlying3,
 a3:=Tryz.isAgg3,
 z3:=Tryz.sizeOf3,
 v3:=Tryz.zeroValue3,
 t4:=Tryz.underlying4,
 a4:=Tryz.isAgg4,
 z4:=Tryz.sizeOf4,
 v4:=Tryz.zeroValue4,
 t5:=Tryz.underlying5,
 a5:=Tryz.isAgg5,
 z5:=Tryz.sizeOf5,
 v5:=Tryz.zeroValue5,
 t9:=Tryz.underlying9,
 a9:=Tryz.isAgg9,
 z9:=Tryz.sizeOf9,
 v9:=Tryz.zeroValue9,
 t37:=Tryz.underlying22,
 a37:=Tryz.isAgg22,
 z37:=Tryz.sizeOf22,
 v37:=Tryz.zeroValue22,
 t46:=Tryz.underlying79,
 a46:=Tryz.isAgg79,
 z46:=Tryz.sizeOf79,
 v46:=Tryz.zeroValue79,
 t51:=Tryz.underlying167,
 a51:=Tryz.isAgg167,
 z51:=Tryz.sizeOf167,
 v51:=Tryz.zeroValue167,
 t146:=Tryz.underlying252,
 a146:=Tryz.isAgg252,
 z146:=Tryz.sizeOf252,
 v146:=Tryz.zeroValue252,
 g1:=by kernel_rfl}
def ixB (s t:List Int):Int:=Lib.index (wqa s) (wqa t)
noncomputable def qTk (s t:List Int):Option Int:=
 gd (s.length<4294967281)<|
 gd (2≤t.length)<|
 gd (t.length≤9223372036854775807)<|
 gd ((∀x∈s,0≤x∧x<256)∧∀y∈t,0≤y∧y<256)<|
 some (ixB s t)
noncomputable def qzm:List AV→List (Nat×Obj)→Option Int
 |[.sl (.int .u8) _ s, .sl (.int .u8) _ t],[]=>qTk s t
 |_,_=>none
theorem qZH {w:World} {N:Nat→Prop} {xs:List Int} {A:Option Addr} (h1:xs≠[]) (h:xs=[]∨∃b o cl,A=some ⟨b,o,none⟩∧N b∧CellsAt w b o cl∧Cat (PRd w N (.int .u8)) xs cl):
  ∃a,A=some a∧∀i,i<xs.length→w.cell? (a.add i)=some (.int .u8 (xs.getD i 0)):=by
 rcases h with h|⟨b,o,cl,hA,hN,hc,hx⟩
 ·exact absurd h h1
 ·refine ⟨_,hA,fun i hi=>?_⟩
  have e:cl=xs.map (wgb .u8):=qYi (k:= .u8) hx
  rw [Lib.add_plain']
  refine hc i _ ?_
  rw [e,List.getElem?_map,wx hi,List.getD_eq_getElem?_getD,wx hi]
  rfl
set_option maxRecDepth 100000 in
theorem qiA {GT:qmi} (hGT:lookL GT 3=some ⟨.pair .unit .unit,((),())⟩) {avs:List AV} {pre:List (Nat×Obj)} {r:Int} (h:qzm avs pre=some r):CallOK wg GT 145 avs pre (.one (.int .i64 r)) []:=by
 unfold qzm at h
 split at h
 ·rename_i f1 s f2 t
  unfold qTk at h
  obtain ⟨hs,h⟩:=qAj h
  obtain ⟨ht,h⟩:=qAj h
  obtain ⟨ht2,h⟩:=qAj h
  obtain ⟨⟨hb1,hb2⟩,h⟩:=qAj h
  obtain rfl:=Option.some.inj h
  intro w F G K vs hg hI hG hK hF hv
  obtain ⟨v1,r1,rfl,h1,h2⟩:=hv
  obtain ⟨v2,r2,rfl,h2,h3⟩:=h2
  simp only [VRdL] at h3;subst h3
  obtain ⟨A1,c1,e1,l1,k1⟩:=h1
  obtain ⟨A2,c2,e2,l2,k2⟩:=h2
  obtain rfl:=(List.cons.inj e1).1
  obtain rfl:=(List.cons.inj e2).1
  obtain ⟨m,hm⟩:=hg.2.2.2 3 hGT
  have fin:∀(w':World) (q:Nat),w'=w.drewN q→∃K',(∀l gh,K l=some gh→K' l=some gh)∧Inv ⟨w,F,G,(ngOf GT),[]⟩ (lookL []) K' w'∧TVRd w' (NN ⟨w,F,G,(ngOf GT),[]⟩ (lookL []) K' w') K' (.one (.int .i64 (ixB s t))) (.int .i64 (ixB s t)):=by
   rintro w' q rfl
   exact ⟨K,fun _ _ h=>h,(hI.more (w':=w.drewN q) rfl rfl rfl (Nat.le_refl _) (fun k hk=>rfl)).1,rfl⟩
  refine qSE (by kernel_rfl) (by kernel_rfl) ?_
  by_cases hlt:s.length<t.length
  ·have hc:=Any.bytes_Index_longer qVO A1 A2 s.length c1 t.length c2 w ht hlt ht2
   have hi:ixB s t=-1:=by
    have hr:=Lib.index_room (wqa s) (wqa t)
    have hge:=Lib.index_ge (wqa s) (wqa t)
    unfold ixB
    have e1:(wqa s).length=s.length:=wha ..
    have e2:(wqa t).length=t.length:=wha ..
    rw [e1,e2] at hr
    by_cases h0:0≤Lib.index (wqa s) (wqa t)
    ·have:=hr h0;omega
    ·omega
   refine Calls.mono hc ?_
   rintro e w' ⟨rfl,rfl⟩
   refine ⟨_,rfl,?_⟩
   rw [←hi]
   exact fin _ 0 rfl
  ·obtain ⟨a1,rfl,hc1⟩:=qZH (xs:=s) (by intro h;rw [h] at hlt;simp only [wX] at hlt;omega) k1
   obtain ⟨a2,rfl,hc2⟩:=qZH (xs:=t) (by intro h;rw [h] at ht;simp at ht) k2
   have hc:=Any.bytes_Index_at qVO a1 a2 s.length c1 t.length c2 s t m w rfl rfl hb1 hb2 hc1 hc2 l1 hs ht2 hm
   refine Calls.mono hc ?_
   rintro e w' ⟨rfl,q,rfl⟩
   exact ⟨_,rfl,fin _ q rfl⟩
 ·cases h
end Go.Ab

set_option linter.unusedVariables false
set_option maxRecDepth 20000
namespace Go.Ab
open Go Go.Proofs
abbrev qwa:Ty:=(.pair .str (.pair (.slice (.int .u8)) .unit))
abbrev qxa:Type:=(ByteArray×((List Int)×Unit))
abbrev qsa:Ty:=(.pair (.int .i64) (.pair (.int .i64) .unit))
abbrev qha:Type:=(Int×(Int×Unit))
abbrev qcb:Ty:=(.pair qsa (.pair (.slice (.pair .str (.pair (.int .i64) (.pair (.arr 20 (.int .u8)) .unit)))) (.pair (.slice (.pair (.int .u8) (.pair (.int .i64) (.pair (.int .i64) (.pair (.int .i64) (.pair (.int .i64) (.pair (.arr 20 (.int .u8)) .unit))))))) .unit)))
abbrev qCa:Type:=(qha×((List (ByteArray×(Int×((List Int)×Unit))))×((List (Int×(Int×(Int×(Int×(Int×((List Int)×Unit)))))))×Unit)))
abbrev qva:Ty:=(.pair (.int .u8) (.pair (.int .i64) (.pair (.int .i64) (.pair (.int .i64) (.pair (.int .i64) (.pair (.arr 20 (.int .u8)) .unit))))))
abbrev qga:Type:=(Int×(Int×(Int×(Int×(Int×((List Int)×Unit))))))
abbrev qja:Ty:=(.pair (.int .i64) qsa)
abbrev qca:Type:=(Int×qha)
abbrev qJa:Ty:=(.pair qja (.pair (.slice (.int .u8)) .unit))
abbrev qoa:Type:=(qca×((List Int)×Unit))
abbrev qla:Ty:=(.pair .str (.pair (.int .i64) (.pair (.arr 20 (.int .u8)) .unit)))
abbrev qba:Type:=(ByteArray×(Int×((List Int)×Unit)))
abbrev qpa:Ty:=(.pair qva (.pair (.slice (.int .u8)) .unit))
abbrev qda:Type:=(qga×((List Int)×Unit))
abbrev qkd:Ty:=(.pair qsa (.pair (.slice qla) (.pair (.slice qja) (.pair (.slice (.int .u8)) .unit))))
abbrev qig:Type:=(qha×((List qba)×((List qca)×((List Int)×Unit))))
abbrev qna:Ty:=(.pair (.int .i64) (.pair (.slice (.int .u8)) (.pair (.int .i64) .unit)))
abbrev qma:Type:=(Int×((List Int)×(Int×Unit)))
abbrev qWk:Ty:=(.pair (.slice (.int .u8)) (.pair (.int .i64) .unit))
abbrev qZp:Type:=((List Int)×(Int×Unit))
abbrev qZb:Ty:=(.pair qWk .unit)
abbrev qQc:Type:=(qZp×Unit)
abbrev qeb:Type:=qma
abbrev qBa:Ty:=(.pair (.slice (.slice (.int .i32))) .unit)
abbrev qza:Type:=((List (List Int))×Unit)
abbrev qfc:Ty:=(.pair qBa (.pair qBa .unit))
abbrev qSa:Type:=(qza×(qza×Unit))
abbrev qgb:Ty:=(.pair (.int .i64) (.pair (.slice (.int .i64)) .unit))
abbrev qIa:Type:=(Int×((List Int)×Unit))
abbrev qgc:Type:=qha
abbrev qKa:Ty:=(.pair (.int .i64) .unit)
abbrev qua:Type:=(Int×Unit)
abbrev qka:Ty:=(.pair (.int .i64) (.pair qna (.pair (.slice (.pair (.int .i64) (.pair (.slice (.pair (.int .u8) (.pair (.arr 15 (.int .u8)) .unit))) .unit))) (.pair (.slice (.pair (.int .i32) (.pair (.slice (.int .i32)) (.pair (.slice (.int .i32)) .unit)))) (.pair qBa (.pair qfc (.pair qgb (.pair qsa (.pair qKa (.pair (.arr 6 (.int .u32)) (.pair (.arr 6 (.int .i64)) .unit)))))))))))
abbrev qia:Type:=(Int×(qma×((List (Int×((List (Int×((List Int)×Unit)))×Unit)))×((List (Int×((List Int)×((List Int)×Unit))))×(qza×(qSa×(qIa×(qha×(qua×((List Int)×((List Int)×Unit)))))))))))
abbrev qNa:Ty:=(.pair (.int .u32) (.pair (.int .u32) (.pair (.int .u32) qWk)))
abbrev qMa:Type:=(Int×(Int×(Int×qZp)))
abbrev qya:Ty:=(.pair (.int .u32) (.pair (.int .u32) (.pair (.slice (.int .u8)) .unit)))
abbrev qAa:Type:=(Int×(Int×((List Int)×Unit)))
abbrev qkh:Ty:=(.pair (.arr 2 (.int .i64)) (.pair (.arr 2 (.int .i64)) .unit))
abbrev qxc:Type:=((List Int)×((List Int)×Unit))
abbrev qsc:Ty:=(.pair (.int .i64) (.pair (.slice (.int .u8)) (.pair (.slice (.int .i32)) (.pair (.int .i32) (.pair (.int .i32) (.pair qkh .unit))))))
abbrev qMc:Type:=(Int×((List Int)×((List Int)×(Int×(Int×(qxc×Unit))))))
abbrev qEa:Ty:=(.pair (.int .i64) (.pair (.slice (.pair (.int .u8) (.pair (.arr 15 (.int .u8)) .unit))) .unit))
abbrev qta:Type:=(Int×((List (Int×((List Int)×Unit)))×Unit))
abbrev qDa:Ty:=(.pair (.int .i32) (.pair (.slice (.int .i32)) (.pair (.slice (.int .i32)) .unit)))
abbrev qqa:Type:=(Int×((List Int)×((List Int)×Unit)))
abbrev qHc:Ty:=(.pair (.int .u8) (.pair (.arr 15 (.int .u8)) .unit))
abbrev qCe:Type:=(Int×((List Int)×Unit))
abbrev qkb:Ty:=(.pair (.int .i32) (.pair (.int .i32) (.pair (.int .u8) .unit)))
abbrev qhb:Type:=(Int×(Int×(Int×Unit)))
def G_widths:List Int:=[1,1,2,2,2]
def G_targets:List Int:=[0,65535]
def G_row:List Int:=[1,2,3,6,10,16,27,45,73,120,194,310,488,747,1101,1546,2047,2549,2994,3348,3607,3785,3901,3975,4022,4050,4068,4079,4085,4089,4092,4093,4094]
def G_quarters:List Int:=[1518500249,1859775393,2400959708,3395469782]
def GT:qmi:=[(0,⟨.unit,()⟩),(1,⟨(.arr 5 (.int .i64)),G_widths⟩),(2,⟨(.arr 4 (.int .u32)),G_quarters⟩),(3,⟨(.pair .unit .unit),((),())⟩),(4,⟨(.arr 2 (.int .i32)),G_targets⟩),(5,⟨(.arr 33 (.int .i32)),G_row⟩)]
theorem mixed:Tryz.prog.follows .mixedOrders=true:=by kernel_rfl
abbrev FN:=FnI wg GT
noncomputable abbrev SS (I:FN):Summ wg GT:=I.summ mixed (fun _=>true) false false
theorem CE {I:FN} {a:List AV} {p:List (Nat×Obj)} {y:Option I.fm.R} (h:(qbQ wg I.f a.length&&p.all (fun p=>decide (p.1<8)))=true:=by kernel_rfl) (k:I.go (I.at a p) I.sem=y:=by kernel_rfl):I.call a p=y:=(uD h).trans k
theorem SE {I:FN} {s:Pos} {y:Option I.fm.R} (k:I.go s I.sem=y:=by kernel_rfl):I.sem s=y:=(uA s).trans k
noncomputable def quG (acc:List AV→Bool):Summ wg GT:={f:=58,acc:=acc,rows:=false,nils:=false,R:=Bool×Int,fn:=qtp,res:=fun r=> .one (.bool r.1),post:=fun r=>[(0, .box (.int .i64) r.2)],ok:=fun _ _ _ h=>qyE rfl h}
noncomputable def qXE (acc:List AV→Bool):Summ wg GT:={f:=286,acc:=acc,rows:=false,nils:=false,R:=Int×Int,fn:=qWn,res:=fun r=> .tup [.int .u64 r.1, .int .u64 r.2],post:=fun _=>[],ok:=fun _ _ _ h=>qKC h}
noncomputable def qGC (acc:List AV→Bool):Summ wg GT:={f:=145,acc:=acc,rows:=false,nils:=false,R:=Int,fn:=qzm,res:=fun r=> .one (.int .i64 r),post:=fun _=>[],ok:=fun _ _ _ h=>qiA rfl h}
noncomputable def vva:FN:={f:=107,cuts:=[⟨(4,3),[0,3],false,false,[],[],[]⟩],tab:=[],fm:=⟨true,[.val .bool []]⟩}
noncomputable def qFi (a0:ByteArray):Option (Bool):=vva.call [(.str a0)] []
noncomputable def qke (v0:ByteArray) (v3:Int):Option (Bool):=vva.sem ⟨[.code (cIn (cIn (qaa (qHa (qaa (qaa (qea wg 107))))))), .inLoop (cIn (cIn (qaa (qHa (qaa (qaa (qea wg 107))))))), .inBlock 0, .code (qaa (qaa (qaa (qea wg 107))))],⟨[(0,(.one (.str v0))),(3,(.one (.int .i64 v3)))],[],8⟩⟩
theorem qvq (a0:ByteArray):qFi a0=(
letI c:=(wi (ByteArray.size a0))
if (decide (c<(1:Int)))=true then
some (false)
else
if (decide (c>(40:Int)))=true then
some (false)
else
qke a0 (0:Int)):=CE
theorem qZh (v0:ByteArray) (v3:Int):qke v0 v3=(
if (decide (v3<(wi (ByteArray.size v0))))=true then
gd (0≤v3)<|
gd (v3<(v0.size:Int))<|
letI c:=(qbw v0 (wo v3))
if (decide (c<(33:Int)))=true then
some (false)
else
gd (0≤v3)<|
gd (v3<(v0.size:Int))<|
if (decide (c>(126:Int)))=true then
some (false)
else
qke v0 (wd .i64 (v3+(1:Int)))
else
some (true)):=SE
noncomputable def vm:FN:={f:=64,cuts:=[⟨(5,3),[0,3,4],false,false,[],[],[]⟩,⟨(11,3),[0,5],false,false,[],[],[]⟩,⟨(16,3),[0,6],false,false,[],[],[]⟩,⟨(19,7),[0,6,7],false,false,[],[],[]⟩],tab:=[SS vva],fm:=⟨true,[.val (.int .i64) []]⟩}
noncomputable def qai (a0:List qxa):Option (Int):=vm.call [(.sl qwa false a0)] []
noncomputable def qWd (v0:List qxa) (v3:Int) (v4:Int):Option (Int):=vm.sem ⟨[.code (cIn (cIn (qaa (qHa (qaa (qaa (qaa (qea wg 64)))))))), .inLoop (cIn (cIn (qaa (qHa (qaa (qaa (qaa (qea wg 64)))))))), .inBlock 0, .code (qaa (qaa (qaa (qaa (qea wg 64)))))],⟨[(0,(.one (.sl qwa false v0))),(3,(.one (.int .i64 v3))),(4,(.one (.int .i64 v4)))],[],8⟩⟩
noncomputable def qPc (v0:List qxa) (v5:Int):Option (Int):=vm.sem ⟨[.code (cIn (cIn (qaa (qHa (qaa (qaa (qaa (qaa (qaa (qea wg 64)))))))))), .inLoop (cIn (cIn (qaa (qHa (qaa (qaa (qaa (qaa (qaa (qea wg 64)))))))))), .inBlock 2, .code (qaa (qaa (qaa (qaa (qaa (qaa (qea wg 64)))))))],⟨[(0,(.one (.sl qwa false v0))),(5,(.one (.int .i64 v5)))],[],8⟩⟩
noncomputable def qmc (v0:List qxa) (v6:Int):Option (Int):=vm.sem ⟨[.code (cIn (cIn (qaa (qHa (qaa (qaa (qaa (qaa (qaa (qaa (qea wg 64))))))))))), .inLoop (cIn (cIn (qaa (qHa (qaa (qaa (qaa (qaa (qaa (qaa (qea wg 64))))))))))), .inBlock 4, .code (qaa (qaa (qaa (qaa (qaa (qaa (qaa (qea wg 64))))))))],⟨[(0,(.one (.sl qwa false v0))),(6,(.one (.int .i64 v6)))],[],8⟩⟩
noncomputable def qVd (v0:List qxa) (v6:Int) (v7:Int):Option (Int):=vm.sem ⟨[.code (cIn (cIn (qaa (cIn (qHa (qaa (cIn (cIn (qaa (qHa (qaa (qaa (qaa (qaa (qaa (qaa (qea wg 64))))))))))))))))), .inLoop (cIn (cIn (qaa (cIn (qHa (qaa (cIn (cIn (qaa (qHa (qaa (qaa (qaa (qaa (qaa (qaa (qea wg 64))))))))))))))))), .inBlock 6, .inBlock 5, .code (qaa (qaa (cIn (cIn (qaa (qHa (qaa (qaa (qaa (qaa (qaa (qaa (qea wg 64))))))))))))), .inLoop (cIn (cIn (qaa (qHa (qaa (qaa (qaa (qaa (qaa (qaa (qea wg 64))))))))))), .inBlock 4, .code (qaa (qaa (qaa (qaa (qaa (qaa (qaa (qea wg 64))))))))],⟨[(0,(.one (.sl qwa false v0))),(6,(.one (.int .i64 v6))),(7,(.one (.int .i64 v7)))],[],8⟩⟩
theorem qKp (a0:List qxa):qai a0=(
if (decide ((wi (we a0))>(16:Int)))=true then
some (4:Int)
else
qWd a0 (0:Int) (0:Int)):=CE
theorem qhh (v0:List qxa) (v3:Int) (v4:Int):qWd v0 v3 v4=(
letI c:=(wi (we v0))
if (decide (v4<c))=true then
gd (0≤v4)<|
gd (v4<c)<|
qWd v0 (wd .i64 (v3+(wi (we (wm v0 (wo v4) (qra qwa)).2.1)))) (wd .i64 (v4+(1:Int)))
else
if (decide (v3>(8192:Int)))=true then
some (4:Int)
else
qPc v0 (0:Int)):=SE
theorem qgh (v0:List qxa) (v5:Int):qPc v0 v5=(
letI c:=(wi (we v0))
if (decide (v5<c))=true then
gd (0≤v5)<|
gd (v5<c)<|
(qFi (wm v0 (wo v5) (qra qwa)).1).bind fun r1=>
if (not r1)=true then
some (8:Int)
else
qPc v0 (wd .i64 (v5+(1:Int)))
else
qmc v0 (0:Int)):=SE
theorem qfh (v0:List qxa) (v6:Int):qmc v0 v6=(
if (decide (v6<(wi (we v0))))=true then
qVd v0 v6 (0:Int)
else
some (0:Int)):=SE
theorem qeh (v0:List qxa) (v6:Int) (v7:Int):qVd v0 v6 v7=(
if (decide (v7<v6))=true then
gd (0≤v7)<|
letI c:=(wi (we v0))
gd (v7<c)<|
gd (0≤v6)<|
gd (v6<c)<|
letI d:=(qra qwa)
if ((wja (wm v0 (wo v7) d).1)==(wja (wm v0 (wo v6) d).1))=true then
some (14:Int)
else
qVd v0 v6 (wd .i64 (v7+(1:Int)))
else
qmc v0 (wd .i64 (v6+(1:Int)))):=SE
noncomputable def vK:FN:={f:=93,cuts:=[⟨(2,3),[0,3],false,false,[],[],[]⟩,⟨(5,3),[0,3,4],false,false,[],[],[]⟩],tab:=[],fm:=⟨true,[.val (.slice (.int .u8)) [.nw]]⟩}
noncomputable def qtg (a0:Int):Option (List Int):=vK.call [(.int .i64 a0)] []
noncomputable def qjd (v0:Int) (h8:List Int):Option (List Int):=vK.sem ⟨[.code (cIn (cIn (qHa (qaa (qaa (qea wg 93)))))), .inLoop (cIn (cIn (qHa (qaa (qaa (qea wg 93)))))), .inBlock 0, .code (qaa (qaa (qaa (qea wg 93))))],⟨[(0,(.one (.int .i64 v0))),(3,(.one (.ref (.int .u8) 8 0 (we h8) true)))],[(8,some (.row (.int .u8) true h8))],9⟩⟩
noncomputable def qid (v0:Int) (v4:Int) (h8:List Int):Option (List Int):=vK.sem ⟨[.code (cIn (cIn (qaa (qHa (qaa (qaa (qaa (qea wg 93)))))))), .inLoop (cIn (cIn (qaa (qHa (qaa (qaa (qaa (qea wg 93)))))))), .inBlock 2, .code (qaa (qaa (qaa (qaa (qea wg 93)))))],⟨[(0,(.one (.int .i64 v0))),(3,(.one (.ref (.int .u8) 8 0 (we h8) true))),(4,(.one (.int .i64 v4)))],[(8,some (.row (.int .u8) true h8))],9⟩⟩
theorem qXn (a0:Int):qtg a0=(
qjd a0 [(128:Int)]):=CE
theorem qmg (v0:Int) (h8:List Int):qjd v0 h8=(
gd ((64:Int)≠0)<|
if ((wnb (wd .i64 ((wd .i64 (v0+(wi (we h8))))+(8:Int))) (64:Int)) != (0:Int))=true then
letI c:=(h8++[(0:Int)])
gd ((we c)*1≤140737488355328)<|
qjd v0 c
else
qid v0 (7:Int) h8):=SE
theorem qlg (v0:Int) (v4:Int) (h8:List Int):qid v0 v4 h8=(
if (decide (v4≥(0:Int)))=true then
letI d:=(wd .i64 ((8:Int)*v4))
gd (0≤d)<|
letI c:=(h8++[(wd .u8 (qZk .u64 (wd .u64 ((8:Int)*(wd .u64 v0))) d))])
gd ((we c)*1≤140737488355328)<|
qid v0 (wd .i64 (v4 - (1:Int))) c
else
some (h8)):=SE
noncomputable def vmb:FN:={f:=94,cuts:=[],tab:=[],fm:=⟨true,[.val (.arr 5 (.int .u32)) []]⟩}
noncomputable def qYl:Option ((List Int)):=vmb.call [] []
theorem qSp:qYl=(
some (wC (wC (wC (wC (wC (wl 5 (0:Int)) 0 (1732584193:Int)) 1 (4023233417:Int)) 2 (2562383102:Int)) 3 (271733878:Int)) 4 (3285377520:Int))):=CE
noncomputable def vAb:FN:={f:=135,cuts:=[],tab:=[],fm:=⟨true,[.val (.int .u32) []]⟩}
noncomputable def qAe (a0:Int) (a1:Int):Option (Int):=vAb.call [(.int .u32 a0),(.int .i64 a1)] []
theorem qxq (a0:Int) (a1:Int):qAe a0 a1=(
gd (0≤a1)<|
letI c:=(wd .i64 ((32:Int) - a1))
gd (0≤c)<|
some (qrc .u32 (wd .u32 (qzw .u32 a0 a1)) (qZk .u32 a0 c))):=CE
noncomputable def vCb:FN:={f:=136,cuts:=[],tab:=[],fm:=⟨true,[.val (.int .u32) [], .val (.int .u32) []]⟩}
noncomputable def qHi (a0:Int) (a1:Int) (a2:Int) (a3:Int):Option (Int×Int):=vCb.call [(.int .i64 a0),(.int .u32 a1),(.int .u32 a2),(.int .u32 a3)] []
theorem qyq (a0:Int) (a1:Int) (a2:Int) (a3:Int):qHi a0 a1 a2 a3=(
letI d:=(qUa .u32 a1 a2)
if (decide (a0<(20:Int)))=true then
some ((qrc .u32 d (qUa .u32 (qDb .u32 (4294967295:Int) a1) a3)),(1518500249:Int))
else
letI c:=(qDb .u32 (qDb .u32 a1 a2) a3)
if (decide (a0<(40:Int)))=true then
some (c,(1859775393:Int))
else
if (decide (a0<(60:Int)))=true then
some ((qrc .u32 (qrc .u32 d (qUa .u32 a1 a3)) (qUa .u32 a2 a3)),(2400959708:Int))
else
some (c,(3395469782:Int))):=CE
noncomputable def vr:FN:={f:=95,cuts:=[⟨(3,3),[1,2,4,5,6],false,false,[],[],[]⟩,⟨(7,3),[2,4,5,7],false,false,[],[],[]⟩,⟨(12,3),[2,4,5,8,9],false,false,[],[],[]⟩,⟨(17,3),[2,4,8,12],false,false,[],[],[]⟩],tab:=[SS vAb,SS vCb],fm:=⟨true,[.val (.arr 5 (.int .u32)) []]⟩}
noncomputable def qIi (a0:(List Int)) (a1:List Int):Option ((List Int)):=vr.call [(.agg (.arr 5 (.int .u32)) a0),(.sl (.int .u8) false a1)] []
noncomputable def qle (v1:List Int) (v6:Int) (b8:(List Int)) (b9:(List Int)) (h10:List Int):Option ((List Int)):=vr.sem ⟨[.code (cIn (cIn (qaa (qHa (qaa (qaa (qea wg 95))))))), .inLoop (cIn (cIn (qaa (qHa (qaa (qaa (qea wg 95))))))), .inBlock 0, .code (qaa (qaa (qaa (qea wg 95))))],⟨[(1,(.one (.sl (.int .u8) false v1))),(2,(.one (.ptr (.arr 5 (.int .u32)) 8 []))),(4,(.one (.ptr (.arr 5 (.int .u32)) 9 []))),(5,(.one (.ref (.int .u32) 10 0 (we h10) true))),(6,(.one (.int .i64 v6)))],[(8,some (.box (.arr 5 (.int .u32)) b8)),(9,some (.box (.arr 5 (.int .u32)) b9)),(10,some (.row (.int .u32) true h10))],11⟩⟩
noncomputable def qhd (v7:Int) (b8:(List Int)) (b9:(List Int)) (h10:List Int):Option ((List Int)):=vr.sem ⟨[.code (cIn (cIn (qaa (qHa (qaa (qaa (qaa (qea wg 95)))))))), .inLoop (cIn (cIn (qaa (qHa (qaa (qaa (qaa (qea wg 95)))))))), .inBlock 2, .code (qaa (qaa (qaa (qaa (qea wg 95)))))],⟨[(2,(.one (.ptr (.arr 5 (.int .u32)) 8 []))),(4,(.one (.ptr (.arr 5 (.int .u32)) 9 []))),(5,(.one (.ref (.int .u32) 10 0 (we h10) true))),(7,(.one (.int .i64 v7)))],[(8,some (.box (.arr 5 (.int .u32)) b8)),(9,some (.box (.arr 5 (.int .u32)) b9)),(10,some (.row (.int .u32) true h10))],11⟩⟩
noncomputable def qgd (v9:Int) (b8:(List Int)) (b9:(List Int)) (h10:List Int) (b11:(List Int)):Option ((List Int)):=vr.sem ⟨[.code (cIn (cIn (qaa (qHa (qaa (qaa (qaa (qaa (qaa (qea wg 95)))))))))), .inLoop (cIn (cIn (qaa (qHa (qaa (qaa (qaa (qaa (qaa (qea wg 95)))))))))), .inBlock 4, .code (qaa (qaa (qaa (qaa (qaa (qaa (qea wg 95)))))))],⟨[(2,(.one (.ptr (.arr 5 (.int .u32)) 8 []))),(4,(.one (.ptr (.arr 5 (.int .u32)) 9 []))),(5,(.one (.ref (.int .u32) 10 0 (we h10) true))),(8,(.one (.ptr (.arr 5 (.int .u32)) 11 []))),(9,(.one (.int .i64 v9)))],[(8,some (.box (.arr 5 (.int .u32)) b8)),(9,some (.box (.arr 5 (.int .u32)) b9)),(10,some (.row (.int .u32) true h10)),(11,some (.box (.arr 5 (.int .u32)) b11))],12⟩⟩
noncomputable def qfd (v12:Int) (b8:(List Int)) (b9:(List Int)) (b10:(List Int)):Option ((List Int)):=vr.sem ⟨[.code (cIn (cIn (qaa (qHa (qaa (qaa (qaa (qaa (qaa (qaa (qea wg 95))))))))))), .inLoop (cIn (cIn (qaa (qHa (qaa (qaa (qaa (qaa (qaa (qaa (qea wg 95))))))))))), .inBlock 6, .code (qaa (qaa (qaa (qaa (qaa (qaa (qaa (qea wg 95))))))))],⟨[(2,(.one (.ptr (.arr 5 (.int .u32)) 8 []))),(4,(.one (.ptr (.arr 5 (.int .u32)) 9 []))),(8,(.one (.ptr (.arr 5 (.int .u32)) 10 []))),(12,(.one (.int .i64 v12)))],[(8,some (.box (.arr 5 (.int .u32)) b8)),(9,some (.box (.arr 5 (.int .u32)) b9)),(10,some (.box (.arr 5 (.int .u32)) b10))],11⟩⟩
theorem qzq (a0:(List Int)) (a1:List Int):qIi a0 a1=(
qle a1 (0:Int) a0 (wl 5 (0:Int)) []):=CE
theorem qji (v1:List Int) (v6:Int) (b8:(List Int)) (b9:(List Int)) (h10:List Int):qle v1 v6 b8 b9 h10=(
if (decide (v6<(16:Int)))=true then
letI d:=(wd .i64 ((4:Int)*v6))
gd (0≤d)<|
letI e:=(wi (we v1))
gd (d<e)<|
letI f:=(wd .i64 (d+(1:Int)))
gd (0≤f)<|
gd (f<e)<|
letI g:=(wd .i64 (d+(2:Int)))
gd (0≤g)<|
gd (g<e)<|
letI i:=(wd .i64 (d+(3:Int)))
gd (0≤i)<|
gd (i<e)<|
letI c:=(h10++[(wd .u32 ((wd .u32 ((wd .u32 ((wd .u32 ((wd .u32 ((wd .u32 ((wd .u32 (wm v1 (wo d) (0:Int)))*(256:Int)))+(wd .u32 (wm v1 (wo f) (0:Int)))))*(256:Int)))+(wd .u32 (wm v1 (wo g) (0:Int)))))*(256:Int)))+(wd .u32 (wm v1 (wo i) (0:Int)))))])
gd ((we c)*4≤140737488355328)<|
qle v1 (wd .i64 (v6+(1:Int))) b8 b9 c
else
qhd (16:Int) b8 b9 h10):=SE
theorem qii (v7:Int) (b8:(List Int)) (b9:(List Int)) (h10:List Int):qhd v7 b8 b9 h10=(
if (decide (v7<(80:Int)))=true then
letI f:=(wd .i64 (v7 - (3:Int)))
gd (0≤f)<|
letI c:=(wi (we h10))
gd (f<c)<|
letI g:=(wd .i64 (v7 - (8:Int)))
gd (0≤g)<|
gd (g<c)<|
letI d:=(wd .i64 (v7 - (14:Int)))
gd (0≤d)<|
gd (d<c)<|
letI e:=(wd .i64 (v7 - (16:Int)))
gd (0≤e)<|
gd (e<c)<|
(qAe (qDb .u32 (qDb .u32 (qDb .u32 (wm h10 (0+(wo f)) (0:Int)) (wm h10 (0+(wo g)) (0:Int))) (wm h10 (0+(wo d)) (0:Int))) (wm h10 (0+(wo e)) (0:Int))) (1:Int)).bind fun r1=>
gd ((we (h10++[r1]))*4≤140737488355328)<|
qhd (wd .i64 (v7+(1:Int))) b8 b9 (h10++[r1])
else
qgd (0:Int) b8 b9 h10 b8):=SE
theorem qhi (v9:Int) (b8:(List Int)) (b9:(List Int)) (h10:List Int) (b11:(List Int)):qgd v9 b8 b9 h10 b11=(
if (decide (v9<(80:Int)))=true then
gd (0≤(1:Int))<|
gd ((1:Int)<(5:Int))<|
gd (0≤(2:Int))<|
gd ((2:Int)<(5:Int))<|
gd (0≤(3:Int))<|
gd ((3:Int)<(5:Int))<|
letI e:=(wm b11 3 (0:Int))
letI d:=(wm b11 2 (0:Int))
letI c:=(wm b11 1 (0:Int))
(qHi v9 c d e).bind fun r2=>
gd (0≤(0:Int))<|
gd ((0:Int)<(5:Int))<|
letI f:=(wm b11 0 (0:Int))
(qAe f (5:Int)).bind fun r3=>
gd (0≤(4:Int))<|
gd ((4:Int)<(5:Int))<|
gd (0≤v9)<|
gd (v9<(wi (we h10)))<|
gd (0≤(0:Int))<|
gd ((0:Int)<(5:Int))<|
gd (0≤(1:Int))<|
gd ((1:Int)<(5:Int))<|
(qAe c (30:Int)).bind fun r4=>
gd (0≤(2:Int))<|
gd ((2:Int)<(5:Int))<|
gd (0≤(3:Int))<|
gd ((3:Int)<(5:Int))<|
qgd (wd .i64 (v9+(1:Int))) b8 b9 h10 (wC (wC (wC (wC (wC (wl 5 (0:Int)) 0 (wd .u32 ((wd .u32 ((wd .u32 ((wd .u32 (r3+r2.1))+(wm b11 4 (0:Int))))+r2.2))+(wm h10 (0+(wo v9)) (0:Int))))) 1 f) 2 r4) 3 d) 4 e)
else
qfd (0:Int) b8 b9 b11):=SE
theorem qNb (v12:Int) (b8:(List Int)) (b9:(List Int)) (b10:(List Int)):qfd v12 b8 b9 b10=(
if (decide (v12<(5:Int)))=true then
gd (0≤v12)<|
gd (v12<(5:Int))<|
gd (0≤v12)<|
gd (v12<(5:Int))<|
gd (0≤v12)<|
gd (v12<(5:Int))<|
letI c:=(wo v12)
qfd (wd .i64 (v12+(1:Int))) (wC b8 c (wd .u32 ((wm b8 c (0:Int))+(wm b10 c (0:Int))))) b9 b10
else
some (b8)):=SE
noncomputable def vF:FN:={f:=53,cuts:=[⟨(4,3),[2,3,4,5],false,false,[],[],[]⟩,⟨(9,3),[2,4,6,7],false,false,[],[],[]⟩],tab:=[SS vK,SS vmb,SS vr],fm:=⟨true,[.val (.arr 20 (.int .u8)) []]⟩}
noncomputable def qZf (a0:List Int):Option ((List Int)):=vF.call [(.sl (.int .u8) false a0)] []
noncomputable def qsf (v5:Int) (b8:(List Int)) (h9:List Int) (b10:(List Int)):Option ((List Int)):=vF.sem ⟨[.code (cIn (cIn (qaa (qHa (qaa (qaa (qaa (qea wg 53)))))))), .inLoop (cIn (cIn (qaa (qHa (qaa (qaa (qaa (qea wg 53)))))))), .inBlock 0, .code (qaa (qaa (qaa (qaa (qea wg 53)))))],⟨[(2,(.one (.ptr (.arr 20 (.int .u8)) 8 []))),(3,(.one (.ref (.int .u8) 9 0 (we h9) true))),(4,(.one (.ptr (.arr 5 (.int .u32)) 10 []))),(5,(.one (.int .i64 v5)))],[(8,some (.box (.arr 20 (.int .u8)) b8)),(9,some (.row (.int .u8) true h9)),(10,some (.box (.arr 5 (.int .u32)) b10))],11⟩⟩
noncomputable def qrf (v7:Int) (b8:(List Int)) (b9:(List Int)) (b10:(List Int)):Option ((List Int)):=vF.sem ⟨[.code (cIn (cIn (qaa (qHa (qaa (qaa (qaa (qaa (qaa (qea wg 53)))))))))), .inLoop (cIn (cIn (qaa (qHa (qaa (qaa (qaa (qaa (qaa (qea wg 53)))))))))), .inBlock 2, .code (qaa (qaa (qaa (qaa (qaa (qaa (qea wg 53)))))))],⟨[(2,(.one (.ptr (.arr 20 (.int .u8)) 8 []))),(4,(.one (.ptr (.arr 5 (.int .u32)) 9 []))),(6,(.one (.ptr (.arr 20 (.int .u8)) 10 []))),(7,(.one (.int .i64 v7)))],[(8,some (.box (.arr 20 (.int .u8)) b8)),(9,some (.box (.arr 5 (.int .u32)) b9)),(10,some (.box (.arr 20 (.int .u8)) b10))],11⟩⟩
theorem qgt (a0:List Int):qZf a0=(
gd ((we ([]++a0))*1≤140737488355328)<|
(qtg (wi (we a0))).bind fun r1=>
gd ((we (([]++a0)++r1))*1≤140737488355328)<|
(qYl).bind fun r2=>
qsf (0:Int) (wl 20 (0:Int)) (([]++a0)++r1) r2):=CE
theorem qvj (v5:Int) (b8:(List Int)) (h9:List Int) (b10:(List Int)):qsf v5 b8 h9 b10=(
letI d:=(wi (we h9))
if (decide (v5<d))=true then
gd (0≤v5)<|
letI c:=(wd .i64 (v5+(64:Int)))
gd (v5≤c)<|
gd (c≤d)<|
(qIi b10 (wL ((wo c) - (wo v5)) (wY (0+(wo v5)) h9))).bind fun r3=>
qsf c b8 h9 r3
else
qrf (0:Int) b8 b10 (wl 20 (0:Int))):=SE
theorem quj (v7:Int) (b8:(List Int)) (b9:(List Int)) (b10:(List Int)):qrf v7 b8 b9 b10=(
if (decide (v7<(20:Int)))=true then
gd ((4:Int)≠0)<|
letI d:=(wd .i64 (wFa v7 (4:Int)))
gd (0≤d)<|
gd (d<(5:Int))<|
gd ((4:Int)≠0)<|
letI c:=(wd .i64 ((24:Int) - (wd .i64 ((8:Int)*(wnb v7 (4:Int))))))
gd (0≤c)<|
gd (0≤v7)<|
gd (v7<(20:Int))<|
qrf (wd .i64 (v7+(1:Int))) b8 b9 (wC b10 (wo v7) (wd .u8 (qZk .u32 (wm b9 (wo d) (0:Int)) c)))
else
some (b10)):=SE
noncomputable def vhb:FN:={f:=65,cuts:=[],tab:=[SS vF],fm:=⟨true,[.val qla []]⟩}
noncomputable def qVg (a0:qxa):Option (qba):=vhb.call [(.agg qwa (inj false qwa a0))] []
theorem qAo (a0:qxa):qVg a0=(
(qZf a0.2.1).bind fun r1=>
some (a0.1,((wi (we a0.2.1)),(r1,())))):=CE
noncomputable def vVa:FN:={f:=35,cuts:=[⟨(5,3),[0,4,5],false,false,[],[],[]⟩],tab:=[SS vm,SS vhb],fm:=⟨true,[.val (.slice qla) [.nw], .val (.int .i64) []]⟩}
noncomputable def qYh (a0:List qxa):Option (List qba×Int):=vVa.call [(.sl qwa false a0)] []
noncomputable def qof (v0:List qxa) (v5:Int) (h8:List qba):Option (List qba×Int):=vVa.sem ⟨[.code (cIn (cIn (qaa (qHa (qaa (qaa (qaa (qea wg 35)))))))), .inLoop (cIn (cIn (qaa (qHa (qaa (qaa (qaa (qea wg 35)))))))), .inBlock 0, .code (qaa (qaa (qaa (qaa (qea wg 35)))))],⟨[(0,(.one (.sl qwa false v0))),(4,(.one (.ref qla 8 0 (we h8) true))),(5,(.one (.int .i64 v5)))],[(8,some (.row qla true h8))],9⟩⟩
theorem qet (a0:List qxa):qYh a0=(
letI c:=(qai a0)
c.bind fun r1=>
if (r1 != (0:Int))=true then
c.bind fun r2=>
some ([],r2)
else
qof a0 (0:Int) []):=CE
theorem qtj (v0:List qxa) (v5:Int) (h8:List qba):qof v0 v5 h8=(
letI c:=(wi (we v0))
if (decide (v5<c))=true then
gd (0≤v5)<|
gd (v5<c)<|
(qVg (wm v0 (wo v5) (qra qwa))).bind fun r3=>
gd ((we (h8++[r3]))*48≤140737488355328)<|
qof v0 (wd .i64 (v5+(1:Int))) (h8++[r3])
else
some (h8,(0:Int))):=SE
noncomputable def vsb:FN:={f:=51,cuts:=[],tab:=[],fm:=⟨true,[.val (.slice (.int .u8)) [.nw]]⟩}
noncomputable def qXl (a0:qha) (a1:Int):Option (List Int):=vsb.call [(.agg qsa (inj false qsa a0)),(.int .i64 a1)] []
theorem qIp (a0:qha) (a1:Int):qXl a0 a1=(
gd (0≤(8:Int))<|
some ([(66:Int),(76:Int),(70:Int),(1:Int),(wd .u8 a0.1),(wd .u8 (wR a0.2.1 (256:Int))),(wd .u8 a0.2.1),(wd .u8 a1)])):=CE
noncomputable def vna:FN:={f:=52,cuts:=[⟨(3,3),[0,3,4],false,false,[],[],[]⟩],tab:=[],fm:=⟨true,[.val (.slice (.int .u8)) [.nw]]⟩}
noncomputable def qbi (a0:List qba):Option (List Int):=vna.call [(.sl qla false a0)] []
noncomputable def qXd (v0:List qba) (v4:Int) (h8:List Int):Option (List Int):=vna.sem ⟨[.code (cIn (cIn (qaa (qHa (qaa (qaa (qea wg 52))))))), .inLoop (cIn (cIn (qaa (qHa (qaa (qaa (qea wg 52))))))), .inBlock 0, .code (qaa (qaa (qaa (qea wg 52))))],⟨[(0,(.one (.sl qla false v0))),(3,(.one (.ref (.int .u8) 8 0 (we h8) true))),(4,(.one (.int .i64 v4)))],[(8,some (.row (.int .u8) true h8))],9⟩⟩
theorem qLp (a0:List qba):qbi a0=(
qXd a0 (0:Int) []):=CE
theorem qih (v0:List qba) (v4:Int) (h8:List Int):qXd v0 v4 h8=(
letI g:=(wi (we v0))
if (decide (v4<g))=true then
gd (0≤v4)<|
gd (v4<g)<|
letI c:=(wm v0 (wo v4) (qra qla))
letI e:=(h8++[(wd .u8 (wi (ByteArray.size c.1)))])
gd ((we e)*1≤140737488355328)<|
letI i:=(e++(qpd c.1))
gd ((we i)*1≤140737488355328)<|
gd (0≤(8:Int))<|
letI d:=(i++[(wd .u8 (wR c.2.1 (256:Int))),(wd .u8 c.2.1)])
gd ((we d)*1≤140737488355328)<|
letI f:=(d++(wL 20 (wY 0 c.2.2.1)))
gd ((we f)*1≤140737488355328)<|
qXd v0 (wd .i64 (v4+(1:Int))) f
else
some (h8)):=SE
noncomputable def vpa:FN:={f:=24,cuts:=[],tab:=[SS vsb,SS vna,SS vF],fm:=⟨true,[.val (.slice (.int .u8)) [.nw]]⟩}
noncomputable def qUd (a0:qha) (a1:List qba):Option (List Int):=vpa.call [(.agg qsa (inj false qsa a0)),(.sl qla false a1)] []
theorem qJp (a0:qha) (a1:List qba):qUd a0 a1=(
(qXl a0 (wi (we a1))).bind fun r1=>
(qbi a1).bind fun r2=>
gd ((we (r1++r2))*1≤140737488355328)<|
(qZf (r1++r2)).bind fun r3=>
letI c:=((r1++r2)++(wL 20 (wY 0 r3)))
gd ((we c)*1≤140737488355328)<|
some c):=CE
noncomputable def vqa:FN:={f:=109,cuts:=[],tab:=[],fm:=⟨true,[.val (.slice (.int .u8)) [.nw]]⟩}
noncomputable def qqf:Option (List Int):=vqa.call [] []
theorem qRp:qqf=(
some ([(183:Int),(98:Int),(105:Int),(116:Int),(108:Int),(111:Int),(102:Int),(116:Int),(32:Int),(98:Int),(108:Int),(107:Int),(10:Int)])):=CE
noncomputable def vVb:FN:={f:=146,cuts:=[],tab:=[],fm:=⟨true,[.val (.slice (.int .u8)) [.nw]]⟩}
noncomputable def qLg (a0:Int):Option (List Int):=vVb.call [(.int .i64 a0)] []
theorem qUr (a0:Int):qLg a0=(
gd (0≤(8:Int))<|
some ([(wd .u8 (wR a0 (256:Int))),(wd .u8 a0)])):=CE
noncomputable def vma:FN:={f:=108,cuts:=[],tab:=[SS vVb],fm:=⟨true,[.val (.slice (.int .u8)) [.nw]]⟩}
noncomputable def qpf (a0:qga):Option (List Int):=vma.call [(.agg qva (inj false qva a0))] []
theorem qOp (a0:qga):qpf a0=(
(qLg a0.2.2.1).bind fun r1=>
letI c:=([a0.1,(wd .u8 a0.2.1)]++r1)
gd ((we c)*1≤140737488355328)<|
(qLg a0.2.2.2.1).bind fun r2=>
gd ((we (c++r2))*1≤140737488355328)<|
(qLg a0.2.2.2.2.1).bind fun r3=>
letI d:=((c++r2)++r3)
gd ((we d)*1≤140737488355328)<|
some d):=CE
noncomputable def vzb:FN:={f:=110,cuts:=[],tab:=[SS vma],fm:=⟨true,[.val (.slice (.int .u8)) [.nw]]⟩}
noncomputable def qgi (a0:qga):Option (List Int):=vzb.call [(.agg qva (inj false qva a0))] []
theorem qQp (a0:qga):qgi a0=(
(qpf a0).bind fun r1=>
letI c:=(r1++(wL 20 (wY 0 a0.2.2.2.2.2.1)))
gd ((we c)*1≤140737488355328)<|
some c):=CE
noncomputable def vvb:FN:={f:=67,cuts:=[],tab:=[SS vqa,SS vzb],fm:=⟨true,[.val (.slice (.int .u8)) [.nw]]⟩}
noncomputable def qci (a0:qda):Option (List Int):=vvb.call [(.agg qpa (inj false qpa a0))] []
theorem qMp (a0:qda):qci a0=(
(qqf).bind fun r1=>
(qgi a0.1).bind fun r2=>
gd ((we (r1++r2))*1≤140737488355328)<|
letI c:=((r1++r2)++a0.2.1)
gd ((we c)*1≤140737488355328)<|
some c):=CE
noncomputable def vwa:FN:={f:=37,cuts:=[⟨(3,3),[1,5,6],false,false,[],[],[]⟩],tab:=[SS vvb],fm:=⟨true,[.val (.slice (.int .u8)) [.nw]]⟩}
noncomputable def qEi (a0:List Int) (a1:List qda):Option (List Int):=vwa.call [(.sl (.int .u8) false a0),(.sl qpa false a1)] []
noncomputable def qje (v1:List qda) (v6:Int) (h8:List Int):Option (List Int):=vwa.sem ⟨[.code (cIn (cIn (qaa (qHa (qaa (qaa (qea wg 37))))))), .inLoop (cIn (cIn (qaa (qHa (qaa (qaa (qea wg 37))))))), .inBlock 0, .code (qaa (qaa (qaa (qea wg 37))))],⟨[(1,(.one (.sl qpa false v1))),(5,(.one (.ref (.int .u8) 8 0 (we h8) true))),(6,(.one (.int .i64 v6)))],[(8,some (.row (.int .u8) true h8))],9⟩⟩
theorem quq (a0:List Int) (a1:List qda):qEi a0 a1=(
gd ((we ([]++a0))*1≤140737488355328)<|
qje a1 (0:Int) ([]++a0)):=CE
theorem qXh (v1:List qda) (v6:Int) (h8:List Int):qje v1 v6 h8=(
letI c:=(wi (we v1))
if (decide (v6<c))=true then
gd (0≤v6)<|
gd (v6<c)<|
(qci (wm v1 (wo v6) (qra qpa))).bind fun r1=>
gd ((we (h8++r1))*1≤140737488355328)<|
qje v1 (wd .i64 (v6+(1:Int))) (h8++r1)
else
some (h8)):=SE
noncomputable def vpc:FN:={f:=66,cuts:=[],tab:=[SS vma,SS vF],fm:=⟨true,[.val (.arr 20 (.int .u8)) []]⟩}
noncomputable def qei (a0:qga) (a1:List Int):Option ((List Int)):=vpc.call [(.agg qva (inj false qva a0)),(.sl (.int .u8) false a1)] []
theorem qft (a0:qga) (a1:List Int):qei a0 a1=(
(qpf a0).bind fun r1=>
gd ((we (r1++a1))*1≤140737488355328)<|
(qZf (r1++a1)).bind fun r2=>
some (r2)):=CE
noncomputable def vBb:FN:={f:=36,cuts:=[],tab:=[SS vpc],fm:=⟨true,[.val qpa []]⟩}
noncomputable def qGi (a0:Int) (a1:Int) (a2:List Int) (a3:List Int):Option (qda):=vBb.call [(.int .i64 a0),(.int .i64 a1),(.sl (.int .u8) false a2),(.sl (.int .u8) false a3)] []
theorem qwq (a0:Int) (a1:Int) (a2:List Int) (a3:List Int):qGi a0 a1 a2 a3=(
gd ((we ([]++a2))*1≤140737488355328)<|
letI e:=(wl 20 (0:Int))
letI d:=(wi (we a3))
letI c:=(wi (we a2))
if (decide (d<c))=true then
gd ((we ([]++a3))*1≤140737488355328)<|
(qei ((2:Int),(a0,(a1,(c,(d,(e,())))))) a2).bind fun r1=>
some (((2:Int),(a0,(a1,(c,(d,(r1,())))))),(([]++a3),()))
else
(qei ((1:Int),(a0,(a1,(c,(c,(e,())))))) a2).bind fun r2=>
some (((1:Int),(a0,(a1,(c,(c,(r2,())))))),(([]++a2),()))):=CE
noncomputable def vZb:FN:={f:=56,cuts:=[],tab:=[],fm:=⟨true,[.val .bool []]⟩}
noncomputable def qSr (a0:List Int) (a1:List Int):Option (Bool):=vZb.call [(.sl (.int .u8) false a0),(.sl (.int .u8) false a1)] []
theorem qAm (a0:List Int) (a1:List Int):qSr a0 a1=(
some ((wja (qjn a0))==(wja (qjn a1)))):=CE
noncomputable def vRa:FN:={f:=28,cuts:=[],tab:=[SS vZb],fm:=⟨true,[.val .bool []]⟩}
noncomputable def qXf (a0:List Int) (a1:List Int):Option (Bool):=vRa.call [(.sl (.int .u8) false a0),(.sl (.int .u8) false a1)] []
theorem qWl (a0:List Int) (a1:List Int):qXf a0 a1=(
letI e:=(we a1)
letI d:=(wi (we a0))
letI c:=(wi e)
if (decide (d≥c))=true then
gd (0≤c)<|
gd (c≤d)<|
(qSr (wL e a0) a1).bind fun r1=>
some (r1)
else
some (false)):=CE
noncomputable def vub:FN:={f:=29,cuts:=[],tab:=[],fm:=⟨true,[.val (.int .i64) []]⟩}
noncomputable def qLm (a0:qha):Option (Int):=vub.call [(.agg qsa (inj false qsa a0))] []
theorem qpB (a0:qha):qLm a0=(
if (decide (a0.1<(0:Int)))=true then
some (2:Int)
else
if (decide (a0.1>(7:Int)))=true then
some (2:Int)
else
if (decide (a0.2.1<(16:Int)))=true then
some (2:Int)
else
if (decide (a0.2.1>(4096:Int)))=true then
some (2:Int)
else
some (0:Int)):=CE
noncomputable def vob:FN:={f:=98,cuts:=[],tab:=[],fm:=⟨false,[.val (.slice (.int .u8)) [.pu], .err 26 .i64, .box 0 qZb [.pu]]⟩}
noncomputable def qWc (a1:Int) (b0:qQc):Option (List Int×Option Int×qQc):=vob.call [(.ptr qWk 0 [.fst]),(.int .i64 a1)] [(0,(.box qZb (inj false qZb b0)))]
theorem qep (a1:Int) (b0:qQc):qWc a1 b0=(
letI e:=(wi (we b0.1.1))
if (decide ((wd .i64 (e - b0.1.2.1))<a1))=true then
some ([],((some (18:Int)),b0))
else
letI c:=(wd .i64 (b0.1.2.1+a1))
letI d:=(wd .i64 (c - a1))
gd (0≤d)<|
gd (d≤c)<|
gd (c≤e)<|
some ((wL ((wo c) - (wo d)) (wY (wo d) b0.1.1)),(none,((b0.1.1,(c,b0.1.2.2)),b0.2)))):=CE
noncomputable def vYa:FN:={f:=57,cuts:=[],tab:=[(SS vob).dropping],fm:=⟨false,[.val qla [], .err 26 .i64, .box 0 qZb [.pu]]⟩}
noncomputable def qie (b0:qQc):Option (qba×Option Int×qQc):=vYa.call [(.ptr qZb 0 [])] [(0,(.box qZb (inj false qZb b0)))]
theorem qEh (b0:qQc):qie b0=(
(qWc (1:Int) b0).bind fun r1=>
letI g:=(wl 20 (0:Int))
if (not (Option.isNone r1.2.1))=true then
some ((wD,((0:Int),(g,()))),r1.2)
else
gd (0≤(0:Int))<|
letI i:=(wi (we r1.1))
gd ((0:Int)<i)<|
letI c:=(wd .i64 (wm r1.1 0 (0:Int)))
(qWc (wd .i64 (c+(22:Int))) r1.2.2).bind fun r2=>
if (not (Option.isNone r2.2.1))=true then
some ((wD,((0:Int),(g,()))),r2.2)
else
gd (0≤(0:Int))<|
gd ((0:Int)<i)<|
gd (0≤c)<|
letI e:=(wi (we r2.1))
gd (c≤e)<|
gd (0≤c)<|
gd (c<e)<|
gd (0≤(8:Int))<|
letI f:=(wd .i64 (c+(1:Int)))
gd (0≤f)<|
gd (f<e)<|
letI d:=(wd .i64 (c+(2:Int)))
gd (0≤d)<|
gd (d≤e)<|
letI j:=(wY (wo d) r2.1)
some (((qjn (wL (wo c) r2.1)),((qrc .i64 (wd .i64 ((wd .i64 (wm r2.1 (wo c) (0:Int)))*(256:Int))) (wd .i64 (wm r2.1 (wo f) (0:Int)))),((qsb g 0 (wL (min (we j) 20) j)),()))),(none,r2.2.2))):=CE
noncomputable def vyb:FN:={f:=82,cuts:=[⟨(2,3),[0,5,6],false,false,[],[],[]⟩],tab:=[],fm:=⟨true,[.val .bool []]⟩}
noncomputable def qEn (a0:ByteArray):Option (Bool):=vyb.call [(.str a0)] []
noncomputable def qHg (v0:ByteArray) (v5:Int) (v6:Int):Option (Bool):=vyb.sem ⟨[.code (cIn (cIn (qaa (qHa (qaa (qea wg 82)))))), .inLoop (cIn (cIn (qaa (qHa (qaa (qea wg 82)))))), .inBlock 0, .code (qaa (qaa (qea wg 82)))],⟨[(0,(.one (.str v0))),(5,(.one (.int .i64 v5))),(6,(.one (.int .i64 v6)))],[],8⟩⟩
theorem qtv (a0:ByteArray):qEn a0=(
qHg a0 (wi (ByteArray.size a0)) (0:Int)):=CE
theorem qDk (v0:ByteArray) (v5:Int) (v6:Int):qHg v0 v5 v6=(
if (decide (v6<v5))=true then
gd (0≤v6)<|
gd (v6<(v0.size:Int))<|
letI d:=(qbw v0 (wo v6))
if (decide (d≤(32:Int)))=true then
some (false)
else
gd (0≤v6)<|
gd (v6<(v0.size:Int))<|
if (decide (d>(126:Int)))=true then
some (false)
else
qHg v0 v5 (wd .i64 (v6+(1:Int)))
else
letI c:=(wi (ByteArray.size v0))
if (decide (c>(0:Int)))=true then
some (decide (c≤(40:Int)))
else
some (false)):=SE
noncomputable def vie:FN:={f:=91,cuts:=[⟨(3,3),[0,3,4],false,false,[],[],[]⟩],tab:=[],fm:=⟨true,[.val (.slice (.int .u8)) [.nw]]⟩}
noncomputable def qBF (a0:Int):Option (List Int):=vie.call [(.int .i64 a0)] []
noncomputable def qbq (v0:Int) (v4:Int) (h8:List Int):Option (List Int):=vie.sem ⟨[.code (cIn (cIn (qaa (qHa (qaa (qaa (qea wg 91))))))), .inLoop (cIn (cIn (qaa (qHa (qaa (qaa (qea wg 91))))))), .inBlock 0, .code (qaa (qaa (qaa (qea wg 91))))],⟨[(0,(.one (.int .i64 v0))),(3,(.one (.ref (.int .u8) 8 0 (we h8) true))),(4,(.one (.int .i64 v4)))],[(8,some (.row (.int .u8) true h8))],9⟩⟩
theorem qVI (a0:Int):qBF a0=(
gd ((64:Int)≠0)<|
gd ((64:Int)≠0)<|
letI c:=(wnb (wd .i64 ((119:Int) - (wnb a0 (64:Int)))) (64:Int))
gd (0≤c)<|
gd (c*1≤140737488355328)<|
gd (c≤9223372036854775807)<|
letI d:=([(128:Int)]++(wl (wo c) (0:Int)))
gd ((we d)*1≤140737488355328)<|
qbq a0 (56:Int) d):=CE
theorem qgs (v0:Int) (v4:Int) (h8:List Int):qbq v0 v4 h8=(
if (decide (v4≥(0:Int)))=true then
gd (0≤v4)<|
letI c:=(h8++[(wd .u8 (qZk .u64 (wd .u64 ((wd .u64 v0)*(8:Int))) v4))])
gd ((we c)*1≤140737488355328)<|
qbq v0 (wd .i64 (v4 - (8:Int))) c
else
some (h8)):=SE
noncomputable def vPa:FN:={f:=132,cuts:=[],tab:=[],fm:=⟨true,[.part (.int .u8)]⟩}
noncomputable def qFf (a1:Int):Option (List Int×Nat×Nat):=vPa.call [.nil,(.int .i64 a1)] []
theorem qIm (a1:Int):qFf a1=(
if (decide (a1<(0:Int)))=true then
none
else
letI c:=(wd .i64 (a1 - (0:Int)))
if (decide (c>(0:Int)))=true then
gd (0≤(0:Int))<|
gd ((0:Int)≤(0:Int))<|
gd (0≤c)<|
gd (c*1≤140737488355328)<|
gd (c≤9223372036854775807)<|
letI d:=(wl (wo c) (0:Int))
letI e:=(we d)
gd (e*1≤140737488355328)<|
gd (0≤(0:Int))<|
gd ((0:Int)≤(wi e))<|
some (d,(0,0))
else
some ([],(0,0))):=CE
noncomputable def qqn (acc:List AV→Bool):Summ wg GT:=vPa.summ mixed acc false true
noncomputable def vk:FN:={f:=90,cuts:=[⟨(3,3),[0,3,9,10,11],false,false,[],[],[]⟩,⟨(11,3),[6,25,26,27],false,false,[],[],[]⟩],tab:=[qqn (fun _=>true)],fm:=⟨true,[.val (.slice (.int .u8)) [.pu]]⟩}
noncomputable def qJe (a0:List (List Int)):Option (List Int):=vk.call [(.sl (.slice (.int .u8)) false a0)] []
noncomputable def qId (v0:List (List Int)) (v3:Int) (v9:List (List Int)) (v10:Int) (v11:Int):Option (List Int):=vk.sem ⟨[.code (cIn (cIn (qaa (qHa (qaa (qaa (qea wg 90))))))), .inLoop (cIn (cIn (qaa (qHa (qaa (qaa (qea wg 90))))))), .inBlock 0, .code (qaa (qaa (qaa (qea wg 90))))],⟨[(0,(.one (.sl (.slice (.int .u8)) false v0))),(3,(.one (.int .i64 v3))),(9,(.one (.sl (.slice (.int .u8)) false v9))),(10,(.one (.int .i64 v10))),(11,(.one (.int .i64 v11)))],[],8⟩⟩
noncomputable def qkg (v6o:Nat) (v6n:Nat) (v25:List (List Int)) (v26:Int) (v27:Int) (h8:List Int):Option (List Int):=vk.sem ⟨[.code (cIn (cIn (qaa (qHa (qaa (qaa (qaa (qaa (qea wg 90))))))))), .inLoop (cIn (cIn (qaa (qHa (qaa (qaa (qaa (qaa (qea wg 90))))))))), .inBlock 2, .code (qaa (qaa (qaa (qaa (qaa (qea wg 90))))))],⟨[(6,(.one (.ref (.int .u8) 8 v6o v6n false))),(25,(.one (.sl (.slice (.int .u8)) false v25))),(26,(.one (.int .i64 v26))),(27,(.one (.int .i64 v27)))],[(8,some (.row (.int .u8) true h8))],9⟩⟩
noncomputable def qHd (v25:List (List Int)) (v26:Int) (v27:Int) (h8:List Int):Option (List Int):=vk.sem ⟨[.code (cIn (cIn (qaa (qHa (qaa (qaa (qaa (qaa (qea wg 90))))))))), .inLoop (cIn (cIn (qaa (qHa (qaa (qaa (qaa (qaa (qea wg 90))))))))), .inBlock 2, .code (qaa (qaa (qaa (qaa (qaa (qea wg 90))))))],⟨[(6,(.one (.ref (.int .u8) 8 0 (we h8) true))),(25,(.one (.sl (.slice (.int .u8)) false v25))),(26,(.one (.int .i64 v26))),(27,(.one (.int .i64 v27)))],[(8,some (.row (.int .u8) true h8))],9⟩⟩
theorem qYk (a0:List (List Int)):qJe a0=(
qId a0 (0:Int) a0 (wi (we a0)) (0:Int)):=CE
theorem qYc (v0:List (List Int)) (v3:Int) (v9:List (List Int)) (v10:Int) (v11:Int):qId v0 v3 v9 v10 v11=(
if (decide (v11<v10))=true then
gd (0≤v11)<|
gd (v11<(wi (we v9)))<|
letI c:=(wo v11)
if (decide ((wd .i64 (v3+(wi (we (wm v9 c [])))))<(0:Int)))=true then
none
else
qId v0 (wd .i64 (v3+(wi (we (wm v9 c []))))) v9 v10 (wd .i64 (v11+(1:Int)))
else
(qFf v3).bind fun r1=>
qkg r1.2.1 r1.2.2 v0 (wi (we v0)) (0:Int) r1.1):=SE
theorem qyj (v6o:Nat) (v6n:Nat) (v25:List (List Int)) (v26:Int) (v27:Int) (h8:List Int):qkg v6o v6n v25 v26 v27 h8=(
letI c:=(wL v6n (wY v6o h8))
if (decide (v27<v26))=true then
gd (0≤v27)<|
gd (v27<(wi (we v25)))<|
letI d:=(wo v27)
gd ((we (c++(wm v25 d [])))*1≤140737488355328)<|
qHd v25 v26 (wd .i64 (v27+(1:Int))) (c++(wm v25 d []))
else
some c):=SE
theorem qVe (v25:List (List Int)) (v26:Int) (v27:Int) (h8:List Int):qHd v25 v26 v27 h8=(
if (decide (v27<v26))=true then
gd (0≤v27)<|
gd (v27<(wi (we v25)))<|
letI c:=(wo v27)
gd ((we (h8++(wm v25 c [])))*1≤140737488355328)<|
qHd v25 v26 (wd .i64 (v27+(1:Int))) (h8++(wm v25 c []))
else
some (h8)):=SE
noncomputable def vDa:FN:={f:=133,cuts:=[],tab:=[],fm:=⟨true,[.val (.int .u32) []]⟩}
noncomputable def qyb (a0:Int) (a1:Int):Option (Int):=vDa.call [(.int .u32 a0),(.int .i64 a1)] []
theorem qom (a0:Int) (a1:Int):qyb a0 a1=(
letI c:=(qUa .u64 (wd .u64 a1) (31:Int))
gd (0≤c)<|
letI d:=(wd .u64 ((32:Int) - c))
gd (0≤d)<|
some (qrc .u32 (wd .u32 (qzw .u32 a0 c)) (qZk .u32 a0 d))):=CE
noncomputable def vwe:FN:={f:=134,cuts:=[],tab:=[],fm:=⟨true,[.val (.int .u32) []]⟩}
noncomputable def qCF (a0:Int) (a1:Int) (a2:Int) (a3:Int):Option (Int):=vwe.call [(.int .i64 a0),(.int .u32 a1),(.int .u32 a2),(.int .u32 a3)] []
theorem qWI (a0:Int) (a1:Int) (a2:Int) (a3:Int):qCF a0 a1 a2 a3=(
if (a0==(0:Int))=true then
some (qDb .u32 a3 (qUa .u32 a1 (qDb .u32 a2 a3)))
else
if (a0==(2:Int))=true then
some (qrc .u32 (qUa .u32 a1 a2) (qUa .u32 a3 (qrc .u32 a1 a2)))
else
some (qDb .u32 (qDb .u32 a1 a2) a3)):=CE
noncomputable def vvd:FN:={f:=92,cuts:=[⟨(3,3),[2,4,5,16,17,18],false,false,[],[],[]⟩,⟨(9,3),[2,4,5,8,9,10,11,12,45],false,false,[],[],[]⟩],tab:=[SS vDa,SS vwe],fm:=⟨true,[.val (.arr 5 (.int .u32)) []]⟩}
noncomputable def qFK (a0:(List Int)) (a1:List Int):Option ((List Int)):=vvd.call [(.agg (.arr 5 (.int .u32)) a0),(.sl (.int .u8) false a1)] []
noncomputable def quk (v16:List Int) (v17:Int) (v18:Int) (b8:(List Int)) (b9:(List Int)) (b10:(List Int)):Option ((List Int)):=vvd.sem ⟨[.code (cIn (cIn (qaa (qHa (qaa (qaa (qea wg 92))))))), .inLoop (cIn (cIn (qaa (qHa (qaa (qaa (qea wg 92))))))), .inBlock 0, .code (qaa (qaa (qaa (qea wg 92))))],⟨[(2,(.one (.ptr (.arr 5 (.int .u32)) 8 []))),(4,(.one (.ptr (.arr 5 (.int .u32)) 9 []))),(5,(.one (.ptr (.arr 16 (.int .u32)) 10 []))),(16,(.one (.sl (.int .u8) false v16))),(17,(.one (.int .i64 v17))),(18,(.one (.int .i64 v18)))],[(8,some (.box (.arr 5 (.int .u32)) b8)),(9,some (.box (.arr 5 (.int .u32)) b9)),(10,some (.box (.arr 16 (.int .u32)) b10))],11⟩⟩
noncomputable def qLo (v8:Int) (v9:Int) (v10:Int) (v11:Int) (v12:Int) (v45:Int) (b8:(List Int)) (b9:(List Int)) (b10:(List Int)):Option ((List Int)):=vvd.sem ⟨[.code (cIn (cIn (qaa (qHa (qaa (qaa (qaa (qaa (qea wg 92))))))))), .inLoop (cIn (cIn (qaa (qHa (qaa (qaa (qaa (qaa (qea wg 92))))))))), .inBlock 2, .code (qaa (qaa (qaa (qaa (qaa (qea wg 92))))))],⟨[(2,(.one (.ptr (.arr 5 (.int .u32)) 8 []))),(4,(.one (.ptr (.arr 5 (.int .u32)) 9 []))),(5,(.one (.ptr (.arr 16 (.int .u32)) 10 []))),(8,(.one (.int .u32 v8))),(9,(.one (.int .u32 v9))),(10,(.one (.int .u32 v10))),(11,(.one (.int .u32 v11))),(12,(.one (.int .u32 v12))),(45,(.one (.int .i64 v45)))],[(8,some (.box (.arr 5 (.int .u32)) b8)),(9,some (.box (.arr 5 (.int .u32)) b9)),(10,some (.box (.arr 16 (.int .u32)) b10))],11⟩⟩
theorem qEK (a0:(List Int)) (a1:List Int):qFK a0 a1=(
gd (0≤(64:Int))<|
gd ((64:Int)≤(wi (we a1)))<|
letI c:=(wL 64 a1)
quk c (wi (we c)) (0:Int) a0 (wl 5 (0:Int)) (wl 16 (0:Int))):=CE
theorem qBu (v16:List Int) (v17:Int) (v18:Int) (b8:(List Int)) (b9:(List Int)) (b10:(List Int)):quk v16 v17 v18 b8 b9 b10=(
if (decide (v18<v17))=true then
gd (0≤v18)<|
gd (v18<(wi (we v16)))<|
gd ((4:Int)≠0)<|
gd ((4:Int)≠0)<|
letI c:=(wd .i64 (wFa v18 (4:Int)))
gd (0≤c)<|
gd (c<(16:Int))<|
gd (0≤(8:Int))<|
gd (0≤c)<|
gd (c<(16:Int))<|
quk v16 v17 (wd .i64 (v18+(1:Int))) b8 b9 (wC b10 (wo c) (qrc .u32 (wd .u32 ((wm b10 (wo c) (0:Int))*(256:Int))) (wd .u32 (wm v16 (wo v18) (0:Int)))))
else
gd (0≤(0:Int))<|
gd ((0:Int)<(5:Int))<|
gd (0≤(1:Int))<|
gd ((1:Int)<(5:Int))<|
gd (0≤(2:Int))<|
gd ((2:Int)<(5:Int))<|
gd (0≤(3:Int))<|
gd ((3:Int)<(5:Int))<|
gd (0≤(4:Int))<|
gd ((4:Int)<(5:Int))<|
qLo (wm b8 0 (0:Int)) (wm b8 1 (0:Int)) (wm b8 2 (0:Int)) (wm b8 3 (0:Int)) (wm b8 4 (0:Int)) (0:Int) b8 b9 b10):=SE
theorem qAu (v8:Int) (v9:Int) (v10:Int) (v11:Int) (v12:Int) (v45:Int) (b8:(List Int)) (b9:(List Int)) (b10:(List Int)):qLo v8 v9 v10 v11 v12 v45 b8 b9 b10=(
if (decide (v45<(80:Int)))=true then
letI m:=(wd .i64 (v45+(1:Int)))
letI l:=(qyb v8 (5:Int))
letI k:=(qyb v9 (30:Int))
letI d:=(wnb v45 (16:Int))
letI j:=(wm b10 (wo d) (0:Int))
letI c:=(wd .i64 (wFa v45 (20:Int)))
letI o:=(qCF c v9 v10 v11)
letI i:=(wm G_quarters (wo c) (0:Int))
if (decide (v45≥(16:Int)))=true then
gd ((16:Int)≠0)<|
gd ((16:Int)≠0)<|
letI e:=(wnb (wd .i64 (v45+(13:Int))) (16:Int))
gd (0≤e)<|
gd (e<(16:Int))<|
gd ((16:Int)≠0)<|
letI f:=(wnb (wd .i64 (v45+(8:Int))) (16:Int))
gd (0≤f)<|
gd (f<(16:Int))<|
gd ((16:Int)≠0)<|
letI g:=(wnb (wd .i64 (v45+(2:Int))) (16:Int))
gd (0≤g)<|
gd (g<(16:Int))<|
gd ((16:Int)≠0)<|
gd (0≤d)<|
gd (d<(16:Int))<|
(qyb (qDb .u32 (qDb .u32 (qDb .u32 (wm b10 (wo e) (0:Int)) (wm b10 (wo f) (0:Int))) (wm b10 (wo g) (0:Int))) j) (1:Int)).bind fun r1=>
gd (0≤d)<|
gd (d<(16:Int))<|
l.bind fun r2=>
gd ((20:Int)≠0)<|
o.bind fun r3=>
gd ((20:Int)≠0)<|
gd (0≤c)<|
gd (c<(4:Int))<|
gd ((16:Int)≠0)<|
gd (0≤d)<|
gd (d<(16:Int))<|
k.bind fun r4=>
letI n:=(wC b10 (wo d) r1)
qLo (wd .u32 ((wd .u32 ((wd .u32 ((wd .u32 (r2+r3))+v12))+i))+(wm n (wo d) (0:Int)))) v8 r4 v10 v11 m b8 b9 n
else
l.bind fun r5=>
gd ((20:Int)≠0)<|
o.bind fun r6=>
gd ((20:Int)≠0)<|
gd (0≤c)<|
gd (c<(4:Int))<|
gd ((16:Int)≠0)<|
gd (0≤d)<|
gd (d<(16:Int))<|
k.bind fun r7=>
qLo (wd .u32 ((wd .u32 ((wd .u32 ((wd .u32 (r5+r6))+v12))+i))+j)) v8 r7 v10 v11 m b8 b9 b10
else
gd (0≤(0:Int))<|
gd ((0:Int)<(5:Int))<|
gd (0≤(1:Int))<|
gd ((1:Int)<(5:Int))<|
gd (0≤(2:Int))<|
gd ((2:Int)<(5:Int))<|
gd (0≤(3:Int))<|
gd ((3:Int)<(5:Int))<|
gd (0≤(4:Int))<|
gd ((4:Int)<(5:Int))<|
some (wC (wC (wC (wC (wC (wl 5 (0:Int)) 0 (wd .u32 ((wm b8 0 (0:Int))+v8))) 1 (wd .u32 ((wm b8 1 (0:Int))+v9))) 2 (wd .u32 ((wm b8 2 (0:Int))+v10))) 3 (wd .u32 ((wm b8 3 (0:Int))+v11))) 4 (wd .u32 ((wm b8 4 (0:Int))+v12)))):=SE
noncomputable def vEa:FN:={f:=47,cuts:=[⟨(5,3),[2,4,5],false,false,[],[],[]⟩,⟨(9,3),[2,27,28],false,false,[],[],[]⟩],tab:=[SS vie,SS vk,SS vvd],fm:=⟨true,[.val (.arr 20 (.int .u8)) [], .val (.int .i64) []]⟩}
noncomputable def qxt (a0:List Int):Option ((List Int)×Int):=vEa.call [(.sl (.int .u8) false a0)] []
noncomputable def qdq (v5:List Int) (b8:(List Int)) (b9:(List Int)):Option ((List Int)×Int):=vEa.sem ⟨[.code (cIn (cIn (qaa (qHa (qaa (qaa (qaa (qea wg 47)))))))), .inLoop (cIn (cIn (qaa (qHa (qaa (qaa (qaa (qea wg 47)))))))), .inBlock 0, .code (qaa (qaa (qaa (qaa (qea wg 47)))))],⟨[(2,(.one (.ptr (.arr 20 (.int .u8)) 8 []))),(4,(.one (.ptr (.arr 5 (.int .u32)) 9 []))),(5,(.one (.sl (.int .u8) true v5)))],[(8,some (.box (.arr 20 (.int .u8)) b8)),(9,some (.box (.arr 5 (.int .u32)) b9))],10⟩⟩
noncomputable def qcq (v27:(List Int)) (v28:Int) (b8:(List Int)):Option ((List Int)×Int):=vEa.sem ⟨[.code (cIn (cIn (qaa (qHa (qaa (qaa (qaa (qaa (qea wg 47))))))))), .inLoop (cIn (cIn (qaa (qHa (qaa (qaa (qaa (qaa (qea wg 47))))))))), .inBlock 2, .code (qaa (qaa (qaa (qaa (qaa (qea wg 47))))))],⟨[(2,(.one (.ptr (.arr 20 (.int .u8)) 8 []))),(27,(.one (.agg (.arr 5 (.int .u32)) v27))),(28,(.one (.int .i64 v28)))],[(8,some (.box (.arr 20 (.int .u8)) b8))],9⟩⟩
theorem qXI (a0:List Int):qxt a0=(
letI d:=(wi (we a0))
letI c:=(wl 20 (0:Int))
if (decide (d>(20000:Int)))=true then
some (c,(4:Int))
else
(qBF d).bind fun r1=>
(qJe [a0,r1]).bind fun r2=>
qdq r2 c (wC (wC (wC (wC (wC (wl 5 (0:Int)) 0 (1732584193:Int)) 1 (4023233417:Int)) 2 (2562383102:Int)) 3 (271733878:Int)) 4 (3285377520:Int))):=CE
theorem qis (v5:List Int) (b8:(List Int)) (b9:(List Int)):qdq v5 b8 b9=(
letI c:=(wi (we v5))
if (decide (c>(0:Int)))=true then
(qFK b9 v5).bind fun r3=>
gd (0≤(64:Int))<|
gd ((64:Int)≤c)<|
qdq (wY 64 v5) b8 r3
else
qcq b9 (0:Int) b8):=SE
theorem qhs (v27:(List Int)) (v28:Int) (b8:(List Int)):qcq v27 v28 b8=(
if (decide (v28<(5:Int)))=true then
gd (0≤v28)<|
gd (v28<(5:Int))<|
gd (0≤(24:Int))<|
gd (0≤(16:Int))<|
gd (0≤(8:Int))<|
letI c:=(wd .i64 ((4:Int)*v28))
gd (0≤c)<|
gd (c<(20:Int))<|
letI e:=(wd .i64 (c+(1:Int)))
gd (0≤e)<|
gd (e<(20:Int))<|
letI f:=(wd .i64 (c+(2:Int)))
gd (0≤f)<|
gd (f<(20:Int))<|
letI g:=(wd .i64 (c+(3:Int)))
gd (0≤g)<|
gd (g<(20:Int))<|
letI d:=(wm v27 (wo v28) (0:Int))
qcq v27 (wd .i64 (v28+(1:Int))) (wC (wC (wC (wC b8 (wo c) (wd .u8 (wR d (16777216:Int)))) (wo e) (wd .u8 (wR d (65536:Int)))) (wo f) (wd .u8 (wR d (256:Int)))) (wo g) (wd .u8 d))
else
some (b8,(0:Int))):=SE
noncomputable def vOc:FN:={f:=83,cuts:=[],tab:=[SS vEa],fm:=⟨true,[.val (.arr 20 (.int .u8)) []]⟩}
noncomputable def qFn (a0:List Int):Option ((List Int)):=vOc.call [(.sl (.int .u8) false a0)] []
theorem quv (a0:List Int):qFn a0=(
(qxt a0).bind fun r1=>
some (r1.1)):=CE
noncomputable def vGb:FN:={f:=84,cuts:=[⟨(3,3),[3,7,8,9],false,false,[],[],[]⟩],tab:=[],fm:=⟨true,[.val .bool []]⟩}
noncomputable def qdp (a0:List ByteArray):Option (Bool):=vGb.call [(.sl .str false a0)] []
noncomputable def qDh (v7:List ByteArray) (v8:Int) (v9:Int) (m8:List (ByteArray×Bool)):Option (Bool):=vGb.sem ⟨[.code (cIn (cIn (qaa (qHa (qaa (qaa (qea wg 84))))))), .inLoop (cIn (cIn (qaa (qHa (qaa (qaa (qea wg 84))))))), .inBlock 0, .code (qaa (qaa (qaa (qea wg 84))))],⟨[(3,(.one (.mapr 8))),(7,(.one (.sl .str false v7))),(8,(.one (.int .i64 v8))),(9,(.one (.int .i64 v9)))],[(8,some (.map .str .bool m8))],9⟩⟩
theorem qyx (a0:List ByteArray):qdp a0=(
qDh a0 (wi (we a0)) (0:Int) []):=CE
theorem qwl (v7:List ByteArray) (v8:Int) (v9:Int) (m8:List (ByteArray×Bool)):qDh v7 v8 v9 m8=(
if (decide (v9<v8))=true then
gd (0≤v9)<|
gd (v9<(wi (we v7)))<|
letI c:=(wm v7 (wo v9) wD)
if (Option.getD (qrv (peq .str) c m8) false)=true then
some (true)
else
qDh v7 v8 (wd .i64 (v9+(1:Int))) (qMD (peq .str) c true m8)
else
some (false)):=SE
noncomputable def vH:FN:={f:=43,cuts:=[⟨(6,3),[3,4,10,11,12],false,false,[],[],[]⟩],tab:=[SS vyb,SS vOc,SS vGb],fm:=⟨true,[.val (.int .i64) []]⟩}
noncomputable def qPf (a0:List qba):Option (Int):=vH.call [(.sl qla false a0)] []
noncomputable def qOf (v3:Int) (v10:List qba) (v11:Int) (v12:Int) (h8:List ByteArray):Option (Int):=vH.sem ⟨[.code (cIn (cIn (qaa (qHa (qaa (qaa (qaa (qaa (qea wg 43))))))))), .inLoop (cIn (cIn (qaa (qHa (qaa (qaa (qaa (qaa (qea wg 43))))))))), .inBlock 0, .code (qaa (qaa (qaa (qaa (qaa (qea wg 43))))))],⟨[(3,(.one (.int .i64 v3))),(4,(.one (.ref .str 8 0 (we h8) true))),(10,(.one (.sl qla false v10))),(11,(.one (.int .i64 v11))),(12,(.one (.int .i64 v12)))],[(8,some (.row .str true h8))],9⟩⟩
theorem qAx (a0:List qba):qPf a0=(
letI c:=(wi (we a0))
if (decide (c>(16:Int)))=true then
some (4:Int)
else
qOf (0:Int) a0 c (0:Int) []):=CE
theorem qyl (v3:Int) (v10:List qba) (v11:Int) (v12:Int) (h8:List ByteArray):qOf v3 v10 v11 v12 h8=(
if (decide (v12<v11))=true then
gd (0≤v12)<|
gd (v12<(wi (we v10)))<|
letI c:=(wm v10 (wo v12) (qra qla))
(qEn c.1).bind fun r1=>
if (not r1)=true then
some (8:Int)
else
if (decide (c.2.1<(0:Int)))=true then
some (8:Int)
else
if (decide (c.2.1>(8192:Int)))=true then
some (8:Int)
else
letI f:=(we (h8++[c.1]))
letI e:=(wd .i64 (v3+c.2.1))
letI d:=(wd .i64 (v12+(1:Int)))
if (c.2.1==(0:Int))=true then
(qFn []).bind fun r2=>
if (not (peq (.arr 20 (.int .u8)) c.2.2.1 r2))=true then
some (8:Int)
else
gd (f*16≤140737488355328)<|
qOf e v10 v11 d (h8++[c.1])
else
gd (f*16≤140737488355328)<|
qOf e v10 v11 d (h8++[c.1])
else
if (decide (v3>(8192:Int)))=true then
some (4:Int)
else
(qdp h8).bind fun r3=>
if r3=true then
some (14:Int)
else
some (0:Int)):=SE
noncomputable def vkc:FN:={f:=30,cuts:=[⟨(8,3),[7,8,27,28],false,false,[],[],[]⟩],tab:=[(SS vYa).dropping,quG (fun _=>true),SS vH],fm:=⟨true,[.val (.slice qla) [.nw], .val (.int .i64) [], .val (.int .i64) []]⟩}
noncomputable def qyr (a0:List Int) (a1:Int):Option (List qba×Int×Int):=vkc.call [(.sl (.int .u8) false a0),(.int .i64 a1)] []
noncomputable def qPi (v27:Int) (v28:Int) (b8:qQc) (h9:List qba):Option (List qba×Int×Int):=vkc.sem ⟨[.code (cIn (cIn (qaa (qHa (qaa (qaa (qaa (qaa (qea wg 30))))))))), .inLoop (cIn (cIn (qaa (qHa (qaa (qaa (qaa (qaa (qea wg 30))))))))), .inBlock 1, .code (qaa (qaa (qaa (qaa (qaa (qea wg 30))))))],⟨[(7,(.one (.ptr qZb 8 []))),(8,(.one (.ref qla 9 0 (we h9) true))),(27,(.one (.int .i64 v27))),(28,(.one (.int .i64 v28)))],[(8,some (.box qZb (inj false qZb b8))),(9,some (.row qla true h9))],10⟩⟩
theorem qxz (a0:List Int) (a1:Int):qyr a0 a1=(
if (decide (a1<(0:Int)))=true then
some ([],((0:Int),(2:Int)))
else
if (decide (a1>(16:Int)))=true then
some ([],((0:Int),(2:Int)))
else
if (decide ((wi (we a0))>(50000:Int)))=true then
some ([],((0:Int),(4:Int)))
else
qPi a1 (0:Int) ((a0,((0:Int),())),()) []):=CE
theorem qPm (v27:Int) (v28:Int) (b8:qQc) (h9:List qba):qPi v27 v28 b8 h9=(
if (decide (v28<v27))=true then
(qie b8).bind fun r1=>
(qbn r1.2.1 (0:Int)).bind fun r2=>
if r2.1=true then
some ([],((0:Int),r2.2))
else
gd ((we (h9++[r1.1]))*48≤140737488355328)<|
qPi v27 (wd .i64 (v28+(1:Int))) r1.2.2 (h9++[r1.1])
else
(qPf h9).bind fun r3=>
if (r3 != (0:Int))=true then
some ([],((0:Int),(12:Int)))
else
some (h9,(b8.1.2.1,(0:Int)))):=SE
noncomputable def vRb:FN:={f:=59,cuts:=[⟨(6,3),[5,13,14,15],false,false,[],[],[]⟩],tab:=[SS vH],fm:=⟨true,[.val (.slice (.int .u8)) [.nw], .val (.int .i64) []]⟩}
noncomputable def qfp (a0:List qba):Option (List Int×Int):=vRb.call [(.sl qla false a0)] []
noncomputable def qFh (v13:List qba) (v14:Int) (v15:Int) (h8:List Int):Option (List Int×Int):=vRb.sem ⟨[.code (cIn (cIn (qaa (qHa (qaa (qaa (qaa (qea wg 59)))))))), .inLoop (cIn (cIn (qaa (qHa (qaa (qaa (qaa (qea wg 59)))))))), .inBlock 0, .code (qaa (qaa (qaa (qaa (qea wg 59)))))],⟨[(5,(.one (.ref (.int .u8) 8 0 (we h8) true))),(13,(.one (.sl qla false v13))),(14,(.one (.int .i64 v14))),(15,(.one (.int .i64 v15)))],[(8,some (.row (.int .u8) true h8))],9⟩⟩
theorem qzx (a0:List qba):qfp a0=(
(qPf a0).bind fun r1=>
if (r1 != (0:Int))=true then
some ([],r1)
else
qFh a0 (wi (we a0)) (0:Int) []):=CE
theorem qxl (v13:List qba) (v14:Int) (v15:Int) (h8:List Int):qFh v13 v14 v15 h8=(
if (decide (v15<v14))=true then
gd (0≤v15)<|
gd (v15<(wi (we v13)))<|
letI c:=(wm v13 (wo v15) (qra qla))
letI e:=(h8++[(wd .u8 (wi (ByteArray.size c.1)))])
gd ((we e)*1≤140737488355328)<|
letI g:=(e++(qpd c.1))
gd ((we g)*1≤140737488355328)<|
gd (0≤(8:Int))<|
letI d:=(g++[(wd .u8 (wR c.2.1 (256:Int))),(wd .u8 c.2.1)])
gd ((we d)*1≤140737488355328)<|
letI f:=(d++(wL 20 (wY 0 c.2.2.1)))
gd ((we f)*1≤140737488355328)<|
qFh v13 v14 (wd .i64 (v15+(1:Int))) f
else
some (h8,(0:Int))):=SE
noncomputable def vcd:FN:={f:=31,cuts:=[],tab:=[SS vub,SS vRb,SS vEa],fm:=⟨true,[.val (.slice (.int .u8)) [.nw], .val (.int .i64) []]⟩}
noncomputable def qws (a0:qha) (a1:List qba):Option (List Int×Int):=vcd.call [(.agg qsa (inj false qsa a0)),(.sl qla false a1)] []
theorem qGD (a0:qha) (a1:List qba):qws a0 a1=(
(qLm a0).bind fun r1=>
if (r1 != (0:Int))=true then
some ([],r1)
else
(qfp a1).bind fun r2=>
if (r2.2 != (0:Int))=true then
some ([],r2.2)
else
gd (0≤(8:Int))<|
letI c:=([(66:Int),(76:Int),(70:Int),(1:Int),(wd .u8 a0.1),(wd .u8 (wR a0.2.1 (256:Int))),(wd .u8 a0.2.1),(wd .u8 (wi (we a1)))]++r2.1)
gd ((we c)*1≤140737488355328)<|
(qxt c).bind fun r3=>
letI d:=(c++(wL 20 (wY 0 r3.1)))
gd ((we d)*1≤140737488355328)<|
some (d,(0:Int))):=CE
noncomputable def vXa:FN:={f:=13,cuts:=[],tab:=[SS vRa,SS vub,SS vkc,SS vcd],fm:=⟨true,[.val qsa [], .val (.slice qla) [.nw], .val (.int .i64) [], .val (.int .i64) []]⟩}
noncomputable def qHk (a0:List Int):Option (qha×List qba×Int×Int):=vXa.call [(.sl (.int .u8) false a0)] []
theorem qWD (a0:List Int):qHk a0=(
letI d:=(wi (we a0))
if (decide (d>(50000:Int)))=true then
some (((0:Int),((0:Int),())),([],((0:Int),(4:Int))))
else
if (decide (d<(8:Int)))=true then
some (((0:Int),((0:Int),())),([],((0:Int),(18:Int))))
else
gd (0≤(4:Int))<|
gd ((4:Int)<d)<|
gd (0≤(5:Int))<|
gd ((5:Int)<d)<|
gd (0≤(8:Int))<|
gd (0≤(6:Int))<|
gd ((6:Int)<d)<|
(qXf a0 [(66:Int),(76:Int),(70:Int),(1:Int)]).bind fun r1=>
if (not r1)=true then
some (((0:Int),((0:Int),())),([],((0:Int),(12:Int))))
else
letI e:=(wd .i64 (wm a0 4 (0:Int)))
letI c:=(qrc .i64 (wd .i64 ((wd .i64 (wm a0 5 (0:Int)))*(256:Int))) (wd .i64 (wm a0 6 (0:Int))))
(qLm (e,(c,()))).bind fun r2=>
if (r2 != (0:Int))=true then
some (((0:Int),((0:Int),())),([],((0:Int),(12:Int))))
else
gd (0≤(7:Int))<|
gd ((7:Int)<d)<|
letI f:=(wm a0 7 (0:Int))
if (decide (f>(16:Int)))=true then
some (((0:Int),((0:Int),())),([],((0:Int),(12:Int))))
else
gd (0≤(8:Int))<|
gd ((8:Int)≤d)<|
gd (0≤(7:Int))<|
gd ((7:Int)<d)<|
(qyr (wY 8 a0) (wd .i64 f)).bind fun r3=>
if (r3.2.2 != (0:Int))=true then
some (((0:Int),((0:Int),())),([],((0:Int),r3.2.2)))
else
(qws (e,(c,())) r3.1).bind fun r4=>
if (decide ((wd .i64 ((wd .i64 (d - (8:Int))) - r3.2.1))<(20:Int)))=true then
some (((0:Int),((0:Int),())),([],((0:Int),(18:Int))))
else
(qXf a0 r4.1).bind fun r5=>
if (not r5)=true then
some (((0:Int),((0:Int),())),([],((0:Int),(22:Int))))
else
some ((e,(c,())),(r3.1,((wi (we r4.1)),(0:Int))))):=CE
noncomputable def vLc:FN:={f:=142,cuts:=[],tab:=[],fm:=⟨true,[.val .bool []]⟩}
noncomputable def qds (a0:Int):Option (Bool):=vLc.call [(.int .i64 a0)] []
theorem qev (a0:Int):qds a0=(
some (decide (a0<(0:Int)))):=CE
noncomputable def vP:FN:={f:=177,cuts:=[⟨(2,3),[0,1,7,8],false,false,[],[],[]⟩],tab:=[SS vLc],fm:=⟨true,[.val (.int .i64) []]⟩}
noncomputable def qoe (a0:List Int):Option (Int):=vP.call [(.sl (.int .i64) false a0),(.func 142 [])] []
noncomputable def qtc (v0:List Int) (v7:Int) (v8:Int):Option (Int):=vP.sem ⟨[.code (cIn (cIn (qaa (qHa (qaa (qea wg 177)))))), .inLoop (cIn (cIn (qaa (qHa (qaa (qea wg 177)))))), .inBlock 0, .code (qaa (qaa (qea wg 177)))],⟨[(0,(.one (.sl (.int .i64) false v0))),(1,(.one (.func 142 []))),(7,(.one (.int .i64 v7))),(8,(.one (.int .i64 v8)))],[],8⟩⟩
theorem qsk (a0:List Int):qoe a0=(
qtc a0 (wi (we a0)) (0:Int)):=CE
theorem qEe (v0:List Int) (v7:Int) (v8:Int):qtc v0 v7 v8=(
if (decide (v8<v7))=true then
gd (0≤v8)<|
gd (v8<(wi (we v0)))<|
(qds (wm v0 (wo v8) (0:Int))).bind fun r1=>
if r1=true then
some (v8)
else
qtc v0 v7 (wd .i64 (v8+(1:Int)))
else
some (-1:Int)):=SE
noncomputable def vga:FN:={f:=141,cuts:=[],tab:=[SS vP],fm:=⟨true,[.val .bool []]⟩}
noncomputable def qGf (a0:List Int):Option (Bool):=vga.call [(.sl (.int .i64) false a0),(.func 142 [])] []
theorem qcj (a0:List Int):qGf a0=(
(qoe a0).bind fun r1=>
some (decide (r1≥(0:Int)))):=CE
noncomputable def vhc:FN:={f:=103,cuts:=[⟨(7,3),[3,11,12,13],false,false,[],[],[]⟩],tab:=[SS vga],fm:=⟨true,[.val (.int .i64) []]⟩}
noncomputable def qir (a0:List Int):Option (Int):=vhc.call [(.sl (.int .i64) false a0)] []
noncomputable def qJi (v3:Int) (v11:List Int) (v12:Int) (v13:Int):Option (Int):=vhc.sem ⟨[.code (cIn (cIn (qaa (qHa (qaa (qaa (qaa (qaa (qea wg 103))))))))), .inLoop (cIn (cIn (qaa (qHa (qaa (qaa (qaa (qaa (qea wg 103))))))))), .inBlock 0, .code (qaa (qaa (qaa (qaa (qaa (qea wg 103))))))],⟨[(3,(.one (.int .i64 v3))),(11,(.one (.sl (.int .i64) false v11))),(12,(.one (.int .i64 v12))),(13,(.one (.int .i64 v13)))],[],8⟩⟩
theorem qdz (a0:List Int):qir a0=(
(qGf a0).bind fun r1=>
if r1=true then
some (8:Int)
else
letI c:=(wi (we a0))
if (decide (c>(16:Int)))=true then
some (4:Int)
else
qJi (0:Int) a0 c (0:Int)):=CE
theorem qEm (v3:Int) (v11:List Int) (v12:Int) (v13:Int):qJi v3 v11 v12 v13=(
if (decide (v13<v12))=true then
gd (0≤v13)<|
gd (v13<(wi (we v11)))<|
letI d:=(wm v11 (wo v13) (0:Int))
letI c:=(wd .i64 (v3+(if (8193:Int)<d then (8193:Int) else d)))
if (decide (c>(8192:Int)))=true then
some (4:Int)
else
qJi c v11 v12 (wd .i64 (v13+(1:Int)))
else
some (0:Int)):=SE
noncomputable def vka:FN:={f:=60,cuts:=[⟨(8,3),[1,7,22,23,24],false,false,[],[],[]⟩,⟨(11,7),[1,7,8,9,10,22,23,24],false,false,[],[],[]⟩],tab:=[SS vhc],fm:=⟨true,[.val (.slice qja) [.nw], .val (.int .i64) []]⟩}
noncomputable def qaj (a0:List Int) (a1:Int):Option (List qca×Int):=vka.call [(.sl (.int .i64) false a0),(.int .i64 a1)] []
noncomputable def qyf (v1:Int) (v22:List Int) (v23:Int) (v24:Int) (h8:List qca):Option (List qca×Int):=vka.sem ⟨[.code (cIn (cIn (qaa (qHa (qaa (qaa (qaa (qaa (qea wg 60))))))))), .inLoop (cIn (cIn (qaa (qHa (qaa (qaa (qaa (qaa (qea wg 60))))))))), .inBlock 0, .code (qaa (qaa (qaa (qaa (qaa (qea wg 60))))))],⟨[(1,(.one (.int .i64 v1))),(7,(.one (.ref qja 8 0 (we h8) true))),(22,(.one (.sl (.int .i64) false v22))),(23,(.one (.int .i64 v23))),(24,(.one (.int .i64 v24)))],[(8,some (.row qja true h8))],9⟩⟩
noncomputable def qth (v1:Int) (v8:Int) (v9:Int) (v10:Int) (v22:List Int) (v23:Int) (v24:Int) (h8:List qca):Option (List qca×Int):=vka.sem ⟨[.code (cIn (cIn (qaa (qaa (cIn (qHa (qaa (qaa (cIn (cIn (qaa (qHa (qaa (qaa (qaa (qaa (qea wg 60))))))))))))))))), .inLoop (cIn (cIn (qaa (qaa (cIn (qHa (qaa (qaa (cIn (cIn (qaa (qHa (qaa (qaa (qaa (qaa (qea wg 60))))))))))))))))), .inBlock 2, .inBlock 1, .code (qaa (qaa (qaa (cIn (cIn (qaa (qHa (qaa (qaa (qaa (qaa (qea wg 60)))))))))))), .inLoop (cIn (cIn (qaa (qHa (qaa (qaa (qaa (qaa (qea wg 60))))))))), .inBlock 0, .code (qaa (qaa (qaa (qaa (qaa (qea wg 60))))))],⟨[(1,(.one (.int .i64 v1))),(7,(.one (.ref qja 8 0 (we h8) true))),(8,(.one (.int .i64 v8))),(9,(.one (.int .i64 v9))),(10,(.one (.int .i64 v10))),(22,(.one (.sl (.int .i64) false v22))),(23,(.one (.int .i64 v23))),(24,(.one (.int .i64 v24)))],[(8,some (.row qja true h8))],9⟩⟩
theorem quw (a0:List Int) (a1:Int):qaj a0 a1=(
(qir a0).bind fun r1=>
if (r1 != (0:Int))=true then
some ([],r1)
else
if (decide (a1<(16:Int)))=true then
some ([],(2:Int))
else
if (decide (a1>(4096:Int)))=true then
some ([],(2:Int))
else
qyf a1 a0 (wi (we a0)) (0:Int) []):=CE
theorem qil (v1:Int) (v22:List Int) (v23:Int) (v24:Int) (h8:List qca):qyf v1 v22 v23 v24 h8=(
if (decide (v24<v23))=true then
gd (0≤v24)<|
gd (v24<(wi (we v22)))<|
qth v1 v24 (wm v22 (wo v24) (0:Int)) (0:Int) v22 v23 v24 h8
else
some (h8,(0:Int))):=SE
theorem qhl (v1:Int) (v8:Int) (v9:Int) (v10:Int) (v22:List Int) (v23:Int) (v24:Int) (h8:List qca):qth v1 v8 v9 v10 v22 v23 v24 h8=(
if (decide (v10<v9))=true then
letI c:=(wd .i64 (v9 - v10))
gd ((we (h8++[(v8,(v10,((if v1<c then v1 else c),())))]))*24≤140737488355328)<|
qth v1 v8 v9 (wd .i64 (v10+v1)) v22 v23 v24 (h8++[(v8,(v10,((if v1<c then v1 else c),())))])
else
qyf v1 v22 v23 (wd .i64 (v24+(1:Int))) h8):=SE
noncomputable def vbb:FN:={f:=114,cuts:=[⟨(3,3),[2,5,10,11,12],false,false,[],[],[]⟩],tab:=[SS vka],fm:=⟨true,[.val (.slice qja) [.nw]]⟩}
noncomputable def qHn (a0:qha) (a1:List qba):Option (List qca):=vbb.call [(.agg qsa (inj false qsa a0)),(.sl qla false a1)] []
noncomputable def qSi (v10:List qba) (v11:Int) (v12:Int) (b8:qha) (h9:List Int):Option (List qca):=vbb.sem ⟨[.code (cIn (cIn (qaa (qHa (qaa (qaa (qea wg 114))))))), .inLoop (cIn (cIn (qaa (qHa (qaa (qaa (qea wg 114))))))), .inBlock 0, .code (qaa (qaa (qaa (qea wg 114))))],⟨[(2,(.one (.ptr qsa 8 []))),(5,(.one (.ref (.int .i64) 9 0 (we h9) true))),(10,(.one (.sl qla false v10))),(11,(.one (.int .i64 v11))),(12,(.one (.int .i64 v12)))],[(8,some (.box qsa (inj false qsa b8))),(9,some (.row (.int .i64) true h9))],10⟩⟩
theorem qCz (a0:qha) (a1:List qba):qHn a0 a1=(
qSi a1 (wi (we a1)) (0:Int) a0 []):=CE
theorem qVm (v10:List qba) (v11:Int) (v12:Int) (b8:qha) (h9:List Int):qSi v10 v11 v12 b8 h9=(
if (decide (v12<v11))=true then
gd (0≤v12)<|
gd (v12<(wi (we v10)))<|
letI c:=(h9++[(wm v10 (wo v12) (qra qla)).2.1])
gd ((we c)*8≤140737488355328)<|
qSi v10 v11 (wd .i64 (v12+(1:Int))) b8 c
else
(qaj h9 b8.2.1).bind fun r1=>
some (r1.1)):=SE
noncomputable def vla:FN:={f:=116,cuts:=[],tab:=[],fm:=⟨true,[.val (.int .i64) []]⟩}
noncomputable def qch (a0:qga):Option (Int):=vla.call [(.agg qva (inj false qva a0))] []
theorem qUx (a0:qga):qch a0=(
if (decide (a0.2.1<(0:Int)))=true then
some (8:Int)
else
letI j:=(decide (a0.2.1≥(16:Int)))
letI g:=(a0.1==(1:Int))
letI f:=(a0.1==(2:Int))
letI e:=(a0.2.2.2.2.1==a0.2.2.2.1)
letI d:=(decide (a0.2.2.2.2.1>(0:Int)))
letI c:=(decide (a0.2.2.2.2.1<a0.2.2.2.1))
if j=true then
if j=true then
some (8:Int)
else
if g=true then
if e=true then
if e=true then
some (0:Int)
else
some (8:Int)
else
if f=true then
if d=true then
if c=true then
some (0:Int)
else
some (8:Int)
else
some (8:Int)
else
some (8:Int)
else
if f=true then
if d=true then
if c=true then
some (0:Int)
else
some (8:Int)
else
some (8:Int)
else
some (8:Int)
else
if (decide (a0.2.2.2.1<(1:Int)))=true then
some (8:Int)
else
letI i:=(decide (a0.2.2.2.1>(4096:Int)))
if i=true then
if i=true then
some (8:Int)
else
if g=true then
if e=true then
if e=true then
some (0:Int)
else
some (8:Int)
else
if f=true then
if d=true then
if c=true then
some (0:Int)
else
some (8:Int)
else
some (8:Int)
else
some (8:Int)
else
if f=true then
if d=true then
if c=true then
some (0:Int)
else
some (8:Int)
else
some (8:Int)
else
some (8:Int)
else
if (decide (a0.2.2.1<(0:Int)))=true then
some (8:Int)
else
if (decide (a0.2.2.1>(wd .i64 ((8192:Int) - a0.2.2.2.1))))=true then
some (8:Int)
else
if g=true then
if e=true then
if e=true then
some (0:Int)
else
some (8:Int)
else
if f=true then
if d=true then
if c=true then
some (0:Int)
else
some (8:Int)
else
some (8:Int)
else
some (8:Int)
else
if f=true then
if d=true then
if c=true then
some (0:Int)
else
some (8:Int)
else
some (8:Int)
else
some (8:Int)):=CE
noncomputable def vLa:FN:={f:=74,cuts:=[⟨(5,3),[0,2,4,12,13],false,false,[],[],[]⟩,⟨(8,7),[0,2,4,5,12,13,17,18],false,false,[],[],[]⟩],tab:=[SS vla],fm:=⟨true,[.val qva [], .val (.int .i64) []]⟩}
noncomputable def qnp (a0:List Int):Option (qga×Int):=vLa.call [(.sl (.int .u8) false a0)] []
noncomputable def qtd (v0:List Int) (v12:(List Int)) (v13:Int) (b8:qga) (b9:(List Int)):Option (qga×Int):=vLa.sem ⟨[.code (cIn (cIn (qaa (qHa (qaa (qaa (qaa (qea wg 74)))))))), .inLoop (cIn (cIn (qaa (qHa (qaa (qaa (qaa (qea wg 74)))))))), .inBlock 0, .code (qaa (qaa (qaa (qaa (qea wg 74)))))],⟨[(0,(.one (.sl (.int .u8) false v0))),(2,(.one (.ptr qva 8 []))),(4,(.one (.ptr (.arr 5 (.int .i64)) 9 []))),(12,(.one (.agg (.arr 5 (.int .i64)) v12))),(13,(.one (.int .i64 v13)))],[(8,some (.box qva (inj false qva b8))),(9,some (.box (.arr 5 (.int .i64)) b9))],10⟩⟩
noncomputable def qRf (v0:List Int) (v5:Int) (v12:(List Int)) (v13:Int) (v17:Int) (v18:Int) (b8:qga) (b9:(List Int)):Option (qga×Int):=vLa.sem ⟨[.code (cIn (cIn (qaa (qaa (cIn (qHa (qaa (qaa (cIn (cIn (qaa (qHa (qaa (qaa (qaa (qea wg 74)))))))))))))))), .inLoop (cIn (cIn (qaa (qaa (cIn (qHa (qaa (qaa (cIn (cIn (qaa (qHa (qaa (qaa (qaa (qea wg 74)))))))))))))))), .inBlock 2, .inBlock 1, .code (qaa (qaa (qaa (cIn (cIn (qaa (qHa (qaa (qaa (qaa (qea wg 74))))))))))), .inLoop (cIn (cIn (qaa (qHa (qaa (qaa (qaa (qea wg 74)))))))), .inBlock 0, .code (qaa (qaa (qaa (qaa (qea wg 74)))))],⟨[(0,(.one (.sl (.int .u8) false v0))),(2,(.one (.ptr qva 8 []))),(4,(.one (.ptr (.arr 5 (.int .i64)) 9 []))),(5,(.one (.int .i64 v5))),(12,(.one (.agg (.arr 5 (.int .i64)) v12))),(13,(.one (.int .i64 v13))),(17,(.one (.int .i64 v17))),(18,(.one (.int .i64 v18)))],[(8,some (.box qva (inj false qva b8))),(9,some (.box (.arr 5 (.int .i64)) b9))],10⟩⟩
theorem qTx (a0:List Int):qnp a0=(
letI c:=(wl 20 (0:Int))
if ((wi (we a0)) != (28:Int))=true then
some (((0:Int),((0:Int),((0:Int),((0:Int),((0:Int),(c,())))))),(12:Int))
else
qtd a0 G_widths (0:Int) ((0:Int),((0:Int),((0:Int),((0:Int),((0:Int),(c,())))))) (wl 5 (0:Int))):=CE
theorem qLh (v0:List Int) (v12:(List Int)) (v13:Int) (b8:qga) (b9:(List Int)):qtd v0 v12 v13 b8 b9=(
if (decide (v13<(5:Int)))=true then
gd (0≤v13)<|
gd (v13<(5:Int))<|
qRf v0 v13 v12 v13 (wm v12 (wo v13) (0:Int)) (0:Int) b8 b9
else
gd (0≤(0:Int))<|
gd ((0:Int)<(5:Int))<|
gd (0≤(1:Int))<|
gd ((1:Int)<(5:Int))<|
gd (0≤(2:Int))<|
gd ((2:Int)<(5:Int))<|
gd (0≤(3:Int))<|
gd ((3:Int)<(5:Int))<|
gd (0≤(4:Int))<|
gd ((4:Int)<(5:Int))<|
letI j:=(wm b9 4 (0:Int))
letI i:=(wm b9 3 (0:Int))
letI g:=(wm b9 2 (0:Int))
letI f:=(wm b9 1 (0:Int))
letI e:=(wl 20 (0:Int))
letI d:=(wd .u8 (wm b9 0 (0:Int)))
letI c:=(qsb e 0 (wL (min (we v0) 20) v0))
(qch (d,(f,(g,(i,(j,(c,()))))))).bind fun r1=>
if (r1 != (0:Int))=true then
some (((0:Int),((0:Int),((0:Int),((0:Int),((0:Int),(e,())))))),(12:Int))
else
some ((d,(f,(g,(i,(j,(c,())))))),(0:Int))):=SE
theorem qKh (v0:List Int) (v5:Int) (v12:(List Int)) (v13:Int) (v17:Int) (v18:Int) (b8:qga) (b9:(List Int)):qRf v0 v5 v12 v13 v17 v18 b8 b9=(
if (decide (v18<v17))=true then
gd (0≤v5)<|
gd (v5<(5:Int))<|
gd (0≤(8:Int))<|
gd (0≤(0:Int))<|
letI c:=(wi (we v0))
gd ((0:Int)<c)<|
gd (0≤v5)<|
gd (v5<(5:Int))<|
gd (0≤(1:Int))<|
gd ((1:Int)≤c)<|
qRf (wY 1 v0) v5 v12 v13 v17 (wd .i64 (v18+(1:Int))) b8 (wC b9 (wo v5) (qrc .i64 (wd .i64 ((wm b9 (wo v5) (0:Int))*(256:Int))) (wd .i64 (wm v0 0 (0:Int)))))
else
qtd v0 v12 (wd .i64 (v13+(1:Int))) b8 b9):=SE
noncomputable def vGa:FN:={f:=105,cuts:=[],tab:=[],fm:=⟨true,[.val (.int .i64) []]⟩}
noncomputable def qZg (a0:List Int) (a1:Int):Option (Int):=vGa.call [(.sl (.int .u8) false a0),(.int .i64 a1)] []
theorem qGk (a0:List Int) (a1:Int):qZg a0 a1=(
letI c:=(wi (we a0))
if (decide (c>(50000:Int)))=true then
some (4:Int)
else
if (decide (a1<(0:Int)))=true then
some (2:Int)
else
if (decide (a1>c))=true then
some (2:Int)
else
some (0:Int)):=CE
noncomputable def vFb:FN:={f:=117,cuts:=[],tab:=[],fm:=⟨true,[.val (.slice (.int .u8)) [.pu]]⟩}
noncomputable def qDl:Option (List Int):=vFb.call [] []
theorem qFx:qDl=(
gd (0<13)<|
some ([(183:Int),(98:Int),(105:Int),(116:Int),(108:Int),(111:Int),(102:Int),(116:Int),(32:Int),(98:Int),(108:Int),(107:Int),(10:Int)])):=CE
noncomputable def vre:FN:={f:=75,cuts:=[],tab:=[SS vGa,SS vFb,SS vRa],fm:=⟨true,[.val .bool [], .val (.int .i64) []]⟩}
noncomputable def qGx (a0:List Int) (a1:Int):Option (Bool×Int):=vre.call [(.sl (.int .u8) false a0),(.int .i64 a1)] []
theorem qRD (a0:List Int) (a1:Int):qGx a0 a1=(
(qZg a0 a1).bind fun r1=>
if (r1 != (0:Int))=true then
some (false,r1)
else
gd (0≤a1)<|
gd (a1≤(wi (we a0)))<|
(qDl).bind fun r2=>
(qXf (wY (wo a1) a0) r2).bind fun r3=>
some (r3,(0:Int))):=CE
noncomputable def vab:FN:={f:=76,cuts:=[],tab:=[],fm:=⟨true,[.val (.slice (.int .u8)) [.nw]]⟩}
noncomputable def qDi (a0:List Int):Option (List Int):=vab.call [(.sl (.int .u8) false a0)] []
theorem qcr (a0:List Int):qDi a0=(
qaF (fun (r1:Bool)=>r1=true→a0=[]) fun (r1:Bool)=>
if r1=true then
some ([])
else
gd ((we ([]++a0))*1≤140737488355328)<|
some ([]++a0)):=CE
noncomputable def vkb:FN:={f:=41,cuts:=[],tab:=[SS vLa,SS vre,SS vab],fm:=⟨true,[.val qpa [], .val (.int .i64) [], .val (.int .i64) []]⟩}
noncomputable def qfk (a0:List Int):Option (qda×Int×Int):=vkb.call [(.sl (.int .u8) false a0)] []
theorem qct (a0:List Int):qfk a0=(
letI e:=(wi (we a0))
letI d:=(wl 20 (0:Int))
if (decide (e>(50000:Int)))=true then
some ((((0:Int),((0:Int),((0:Int),((0:Int),((0:Int),(d,())))))),([],())),((0:Int),(4:Int)))
else
if (decide (e<(41:Int)))=true then
some ((((0:Int),((0:Int),((0:Int),((0:Int),((0:Int),(d,())))))),([],())),((0:Int),(18:Int)))
else
gd (0≤(13:Int))<|
gd ((13:Int)≤(41:Int))<|
gd ((41:Int)≤e)<|
(qnp (wL 28 (wY 13 a0))).bind fun r1=>
(qGx a0 (0:Int)).bind fun r2=>
if (not r2.1)=true then
some ((((0:Int),((0:Int),((0:Int),((0:Int),((0:Int),(d,())))))),([],())),((0:Int),(12:Int)))
else
if (r1.2 != (0:Int))=true then
some ((((0:Int),((0:Int),((0:Int),((0:Int),((0:Int),(d,())))))),([],())),((0:Int),(12:Int)))
else
letI c:=(wd .i64 ((41:Int)+r1.1.2.2.2.2.1))
if (decide (e<c))=true then
some ((((0:Int),((0:Int),((0:Int),((0:Int),((0:Int),(d,())))))),([],())),((0:Int),(18:Int)))
else
gd (0≤(41:Int))<|
gd ((41:Int)≤c)<|
gd (c≤e)<|
(qDi (wL ((wo c) - 41) (wY 41 a0))).bind fun r3=>
some ((r1.1,(r3,())),(c,(0:Int)))):=CE
noncomputable def vWd:FN:={f:=115,cuts:=[],tab:=[],fm:=⟨true,[.val .bool []]⟩}
noncomputable def qIB (a0:qga) (a1:qca):Option (Bool):=vWd.call [(.agg qva (inj false qva a0)),(.agg qja (inj false qja a1))] []
theorem qvJ (a0:qga) (a1:qca):qIB a0 a1=(
some (peq qja (a0.2.1,(a0.2.2.1,(a0.2.2.2.1,()))) a1)):=CE
noncomputable def vtd:FN:={f:=72,cuts:=[⟨(7,3),[0,2,7,9,10,32,33,34],false,false,[],[],[]⟩],tab:=[SS vXa,SS vbb,SS vkb,SS vWd],fm:=⟨true,[.val qcb [], .val (.slice qpa) [.nw], .val (.int .i64) []]⟩}
noncomputable def qKB (a0:List Int):Option (qCa×List qda×Int):=vtd.call [(.sl (.int .u8) false a0)] []
noncomputable def qIn (v0:List Int) (v7:Int) (v33:Int) (v34:Int) (b8a:qha) (b8bbb:Unit) (b9a:qha) (b9bbb:Unit) (h10:List qda) (h11:List qca) (h12:List qba) (h13:List qga) (h14:List qba) (h15:List qga):Option (qCa×List qda×Int):=vtd.sem ⟨[.code (cIn (cIn (qaa (qHa (qaa (qaa (qaa (qaa (qaa (qea wg 72)))))))))), .inLoop (cIn (cIn (qaa (qHa (qaa (qaa (qaa (qaa (qaa (qea wg 72)))))))))), .inBlock 0, .code (qaa (qaa (qaa (qaa (qaa (qaa (qea wg 72)))))))],⟨[(0,(.one (.sl (.int .u8) false v0))),(2,(.one (.ptr qcb 8 []))),(7,(.one (.int .i64 v7))),(9,(.one (.ptr qcb 9 []))),(10,(.one (.ref qpa 10 0 (we h10) true))),(32,(.one (.ref qja 11 0 (we h11) true))),(33,(.one (.int .i64 v33))),(34,(.one (.int .i64 v34)))],[(8,some (.box qcb ((inj false qsa b8a),((SV.ref 12 0 (we h12) true),((SV.ref 13 0 (we h13) true),b8bbb))))),(9,some (.box qcb ((inj false qsa b9a),((SV.ref 14 0 (we h14) true),((SV.ref 15 0 (we h15) true),b9bbb))))),(10,some (.row qpa true h10)),(11,some (.row qja true h11)),(12,some (.row qla true h12)),(13,some (.row qva true h13)),(14,some (.row qla true h14)),(15,some (.row qva true h15))],16⟩⟩
theorem qdG (a0:List Int):qKB a0=(
(qHk a0).bind fun r1=>
if (r1.2.2.2 != (0:Int))=true then
some ((((0:Int),((0:Int),())),([],([],()))),([],r1.2.2.2))
else
(qHn r1.1 r1.2.1).bind fun r2=>
qIn a0 r1.2.2.1 (wi (we r2)) (0:Int) ((0:Int),((0:Int),())) () r1.1 () [] r2 [] [] r1.2.1 []):=CE
theorem qSq (v0:List Int) (v7:Int) (v33:Int) (v34:Int) (b8a:qha) (b8bbb:Unit) (b9a:qha) (b9bbb:Unit) (h10:List qda) (h11:List qca) (h12:List qba) (h13:List qga) (h14:List qba) (h15:List qga):qIn v0 v7 v33 v34 b8a b8bbb b9a b9bbb h10 h11 h12 h13 h14 h15=(
letI c:=(wi (we v0))
if (decide (v34<v33))=true then
gd (0≤v34)<|
gd (v34<(wi (we h11)))<|
gd (0≤v7)<|
gd (v7≤c)<|
(qfk (wY (wo v7) v0)).bind fun r3=>
if (r3.2.2 != (0:Int))=true then
some ((((0:Int),((0:Int),())),([],([],()))),([],r3.2.2))
else
(qIB r3.1.1 (wm h11 (0+(wo v34)) (qra qja))).bind fun r4=>
if (not r4)=true then
some ((((0:Int),((0:Int),())),([],([],()))),([],(32:Int)))
else
letI d:=(h15++[r3.1.1])
gd ((we d)*64≤140737488355328)<|
letI e:=(h10++[r3.1])
gd ((we e)*88≤140737488355328)<|
qIn v0 (wd .i64 (v7+r3.2.1)) v33 (wd .i64 (v34+(1:Int))) b8a b8bbb b9a b9bbb e h11 h12 h13 h14 d
else
if (decide (v7<c))=true then
some ((((0:Int),((0:Int),())),([],([],()))),([],(12:Int)))
else
some ((b9a,(h14,(h15,b9bbb))),(h10,(0:Int)))):=SE
noncomputable def vte:FN:={f:=39,cuts:=[],tab:=[SS vtd],fm:=⟨true,[.val qcb [], .val (.int .i64) []]⟩}
noncomputable def qLx (a0:List Int):Option (qCa×Int):=vte.call [(.sl (.int .u8) false a0)] []
theorem qVD (a0:List Int):qLx a0=(
(qKB a0).bind fun r1=>
some (r1.1,r1.2.2)):=CE
noncomputable def vyc:FN:={f:=73,cuts:=[⟨(7,3),[3,28,29,30],false,false,[],[],[]⟩],tab:=[SS vub,SS vH,SS vbb,SS vla,SS vWd],fm:=⟨true,[.val (.int .i64) []]⟩}
noncomputable def qSt (a0:qCa):Option (Int):=vyc.call [(.agg qcb (inj false qcb a0))] []
noncomputable def qRj (v28:List qga) (v29:Int) (v30:Int) (h8:List qca):Option (Int):=vyc.sem ⟨[.code (cIn (cIn (qaa (qHa (qaa (qaa (qaa (qaa (qea wg 73))))))))), .inLoop (cIn (cIn (qaa (qHa (qaa (qaa (qaa (qaa (qea wg 73))))))))), .inBlock 0, .code (qaa (qaa (qaa (qaa (qaa (qea wg 73))))))],⟨[(3,(.one (.ref qja 8 0 (we h8) true))),(28,(.one (.sl qva false v28))),(29,(.one (.int .i64 v29))),(30,(.one (.int .i64 v30)))],[(8,some (.row qja true h8))],9⟩⟩
theorem qLB (a0:qCa):qSt a0=(
(qLm a0.1).bind fun r1=>
if (r1 != (0:Int))=true then
some (8:Int)
else
(qPf a0.2.1).bind fun r2=>
if (r2 != (0:Int))=true then
some (8:Int)
else
(qHn a0.1 a0.2.1).bind fun r3=>
letI c:=(wi (we a0.2.2.1))
if ((wi (we r3)) != c)=true then
some (8:Int)
else
qRj a0.2.2.1 c (0:Int) r3):=CE
theorem qro (v28:List qga) (v29:Int) (v30:Int) (h8:List qca):qRj v28 v29 v30 h8=(
if (decide (v30<v29))=true then
gd (0≤v30)<|
gd (v30<(wi (we v28)))<|
letI d:=(wo v30)
letI c:=(wm v28 d (qra qva))
(qch c).bind fun r4=>
if (r4 != (0:Int))=true then
some (8:Int)
else
gd (0≤v30)<|
gd (v30<(wi (we h8)))<|
(qIB c (wm h8 (0+d) (qra qja))).bind fun r5=>
if (not r5)=true then
some (8:Int)
else
qRj v28 v29 (wd .i64 (v30+(1:Int))) h8
else
some (0:Int)):=SE
noncomputable def vgc:FN:={f:=40,cuts:=[⟨(8,3),[7,8,27,28,29],false,false,[],[],[]⟩],tab:=[SS vyc,SS vcd],fm:=⟨true,[.val (.slice (.int .i64)) [.nw], .val (.int .i64) []]⟩}
noncomputable def qJn (a0:qCa):Option (List Int×Int):=vgc.call [(.agg qcb (inj false qcb a0))] []
noncomputable def qTi (v7:Int) (v27:List qga) (v28:Int) (v29:Int) (h8:List Int):Option (List Int×Int):=vgc.sem ⟨[.code (cIn (cIn (qaa (qHa (qaa (qaa (qaa (qaa (qaa (qea wg 40)))))))))), .inLoop (cIn (cIn (qaa (qHa (qaa (qaa (qaa (qaa (qaa (qea wg 40)))))))))), .inBlock 0, .code (qaa (qaa (qaa (qaa (qaa (qaa (qea wg 40)))))))],⟨[(7,(.one (.int .i64 v7))),(8,(.one (.ref (.int .i64) 8 0 (we h8) true))),(27,(.one (.sl qva false v27))),(28,(.one (.int .i64 v28))),(29,(.one (.int .i64 v29)))],[(8,some (.row (.int .i64) true h8))],9⟩⟩
theorem qDz (a0:qCa):qJn a0=(
(qSt a0).bind fun r1=>
if (r1 != (0:Int))=true then
some ([],r1)
else
(qws a0.1 a0.2.1).bind fun r2=>
qTi (wi (we r2.1)) a0.2.2.1 (wi (we a0.2.2.1)) (0:Int) []):=CE
theorem qWm (v7:Int) (v27:List qga) (v28:Int) (v29:Int) (h8:List Int):qTi v7 v27 v28 v29 h8=(
if (decide (v29<v28))=true then
gd (0≤v29)<|
gd (v29<(wi (we v27)))<|
gd ((we (h8++[v7]))*8≤140737488355328)<|
qTi (wd .i64 (v7+(wd .i64 ((41:Int)+(wm v27 (wo v29) (qra qva)).2.2.2.2.1)))) v27 v28 (wd .i64 (v29+(1:Int))) (h8++[v7])
else
some (h8,(0:Int))):=SE
noncomputable def vHa:FN:={f:=17,cuts:=[⟨(7,3),[0,2,5,9,29,30,31],false,false,[],[],[]⟩],tab:=[SS vte,SS vgc,SS vkb],fm:=⟨true,[.val qcb [], .val (.slice qpa) [.nw], .val (.int .i64) []]⟩}
noncomputable def qSd (a0:List Int):Option (qCa×List qda×Int):=vHa.call [(.sl (.int .u8) false a0)] []
noncomputable def qMh (v0:List Int) (v30:Int) (v31:Int) (b8a:qha) (b8bbb:Unit) (b9:qCa) (h10:List qda) (h11:List Int) (h12:List qba) (h13:List qga):Option (qCa×List qda×Int):=vHa.sem ⟨[.code (cIn (cIn (qaa (qHa (qaa (qaa (qaa (qaa (qaa (qea wg 17)))))))))), .inLoop (cIn (cIn (qaa (qHa (qaa (qaa (qaa (qaa (qaa (qea wg 17)))))))))), .inBlock 0, .code (qaa (qaa (qaa (qaa (qaa (qaa (qea wg 17)))))))],⟨[(0,(.one (.sl (.int .u8) false v0))),(2,(.one (.ptr qcb 8 []))),(5,(.one (.ptr qcb 9 []))),(9,(.one (.ref qpa 10 0 (we h10) true))),(29,(.one (.ref (.int .i64) 11 0 (we h11) true))),(30,(.one (.int .i64 v30))),(31,(.one (.int .i64 v31)))],[(8,some (.box qcb ((inj false qsa b8a),((SV.ref 12 0 (we h12) true),((SV.ref 13 0 (we h13) true),b8bbb))))),(9,some (.box qcb (inj true qcb b9))),(10,some (.row qpa true h10)),(11,some (.row (.int .i64) true h11)),(12,some (.row qla true h12)),(13,some (.row qva true h13))],14⟩⟩
theorem qsp (a0:List Int):qSd a0=(
(qLx a0).bind fun r1=>
if (r1.2 != (0:Int))=true then
some ((((0:Int),((0:Int),())),([],([],()))),([],r1.2))
else
(qJn r1.1).bind fun r2=>
qMh a0 (wi (we r2.1)) (0:Int) ((0:Int),((0:Int),())) () r1.1 [] r2.1 [] []):=CE
theorem qNl (v0:List Int) (v30:Int) (v31:Int) (b8a:qha) (b8bbb:Unit) (b9:qCa) (h10:List qda) (h11:List Int) (h12:List qba) (h13:List qga):qMh v0 v30 v31 b8a b8bbb b9 h10 h11 h12 h13=(
if (decide (v31<v30))=true then
gd (0≤v31)<|
gd (v31<(wi (we h11)))<|
letI c:=(wm h11 (0+(wo v31)) (0:Int))
gd (0≤c)<|
gd (c≤(wi (we v0)))<|
(qfk (wY (wo c) v0)).bind fun r3=>
letI d:=(h10++[r3.1])
gd ((we d)*88≤140737488355328)<|
qMh v0 v30 (wd .i64 (v31+(1:Int))) b8a b8bbb b9 d h11 h12 h13
else
some (b9,(h10,(0:Int)))):=SE
noncomputable def vcc:FN:={f:=48,cuts:=[⟨(5,3),[1,14,15,16],false,false,[],[],[]⟩],tab:=[SS vH],fm:=⟨true,[.val (.int .i64) [], .val (.int .i64) []]⟩}
noncomputable def qEk (a0:List qba) (a1:ByteArray):Option (Int×Int):=vcc.call [(.sl qla false a0),(.str a1)] []
noncomputable def qQi (v1:ByteArray) (v14:List qba) (v15:Int) (v16:Int):Option (Int×Int):=vcc.sem ⟨[.code (cIn (cIn (qaa (qHa (qaa (qaa (qea wg 48))))))), .inLoop (cIn (cIn (qaa (qHa (qaa (qaa (qea wg 48))))))), .inBlock 0, .code (qaa (qaa (qaa (qea wg 48))))],⟨[(1,(.one (.str v1))),(14,(.one (.sl qla false v14))),(15,(.one (.int .i64 v15))),(16,(.one (.int .i64 v16)))],[],8⟩⟩
theorem qyz (a0:List qba) (a1:ByteArray):qEk a0 a1=(
(qPf a0).bind fun r1=>
if (r1 != (0:Int))=true then
some ((0:Int),r1)
else
qQi a1 a0 (wi (we a0)) (0:Int)):=CE
theorem qQm (v1:ByteArray) (v14:List qba) (v15:Int) (v16:Int):qQi v1 v14 v15 v16=(
if (decide (v16<v15))=true then
gd (0≤v16)<|
gd (v16<(wi (we v14)))<|
if ((wja (wm v14 (wo v16) (qra qla)).1)==(wja v1))=true then
some (v16,(0:Int))
else
qQi v1 v14 v15 (wd .i64 (v16+(1:Int)))
else
some ((0:Int),(6:Int))):=SE
noncomputable def vgb:FN:={f:=49,cuts:=[],tab:=[],fm:=⟨true,[.val .bool [], .box 0 (.int .i64) []]⟩}
noncomputable def qUi (a0:qda) (b0:Int):Option (Bool×Int):=vgb.call [(.agg qpa (inj false qpa a0)),(.ptr (.int .i64) 0 [])] [(0,(.box (.int .i64) b0))]
theorem qcu (a0:qda) (b0:Int):qUi a0 b0=(
some ((a0.1.2.1 != b0),b0)):=CE
noncomputable def vi:FN:={f:=50,cuts:=[⟨(2,3),[0,1,7,8],false,false,[],[],[]⟩],tab:=[SS vgb],fm:=⟨true,[.val (.int .i64) [], .box 0 (.int .i64) []]⟩}
noncomputable def qXb (a0:List qda) (b0:Int):Option (Int×Int):=vi.call [(.sl qpa false a0),(.func 49 [0])] [(0,(.box (.int .i64) b0))]
noncomputable def qGa (v0:List qda) (v7:Int) (v8:Int) (b0:Int):Option (Int×Int):=vi.sem ⟨[.code (cIn (cIn (qaa (qHa (qaa (qea wg 50)))))), .inLoop (cIn (cIn (qaa (qHa (qaa (qea wg 50)))))), .inBlock 0, .code (qaa (qaa (qea wg 50)))],⟨[(0,(.one (.sl qpa false v0))),(1,(.one (.func 49 [0]))),(7,(.one (.int .i64 v7))),(8,(.one (.int .i64 v8)))],[(0,some (.box (.int .i64) b0))],9⟩⟩
theorem qDf (a0:List qda) (b0:Int):qXb a0 b0=(
qGa a0 (wi (we a0)) (0:Int) b0):=CE
theorem qvc (v0:List qda) (v7:Int) (v8:Int) (b0:Int):qGa v0 v7 v8 b0=(
if (decide (v8<v7))=true then
gd (0≤v8)<|
gd (v8<(wi (we v0)))<|
(qUi (wm v0 (wo v8) (qra qpa)) b0).bind fun r1=>
if r1.1=true then
some (v8,r1.2)
else
qGa v0 v7 (wd .i64 (v8+(1:Int))) r1.2
else
some ((-1:Int),b0)):=SE
noncomputable def vf:FN:={f:=21,cuts:=[⟨(5,3),[0,1,5,6],false,false,[],[],[]⟩],tab:=[SS vi,SS vgb],fm:=⟨false,[.sub 0 qpa, .row 0 qpa, .box 1 (.int .i64) []]⟩}
noncomputable def qCb (h0:List qda) (b1:Int):Option ((Nat×Nat)×List qda×Int):=vf.call [(.ref qpa 0 0 (we h0) true),(.func 49 [1])] [(0,(.row qpa false h0)),(1,(.box (.int .i64) b1))]
noncomputable def qRa (v5:Int) (v6:Int) (h0:List qda) (b1:Int):Option ((Nat×Nat)×List qda×Int):=vf.sem ⟨[.code (cIn (cIn (qaa (qHa (qaa (qaa (qaa (qea wg 21)))))))), .inLoop (cIn (cIn (qaa (qHa (qaa (qaa (qaa (qea wg 21)))))))), .inBlock 0, .code (qaa (qaa (qaa (qaa (qea wg 21)))))],⟨[(0,(.one (.ref qpa 0 0 (we h0) true))),(1,(.one (.func 49 [1]))),(5,(.one (.int .i64 v5))),(6,(.one (.int .i64 v6)))],[(0,some (.row qpa false h0)),(1,some (.box (.int .i64) b1))],10⟩⟩
theorem quc (h0:List qda) (b1:Int):qCb h0 b1=(
(qXb h0 b1).bind fun r1=>
if (r1.1==(-1:Int))=true then
some ((0,(we h0)),(h0,r1.2))
else
qRa r1.1 (wd .i64 (r1.1+(1:Int))) h0 r1.2):=CE
theorem qdc (v5:Int) (v6:Int) (h0:List qda) (b1:Int):qRa v5 v6 h0 b1=(
letI i:=(we h0)
letI g:=(qra qpa)
letI e:=(wo v5)
letI c:=(wi i)
if (decide (v6<c))=true then
gd (0≤v6)<|
gd (v6<c)<|
letI d:=(wm h0 (0+(wo v6)) g)
(qUi d b1).bind fun r2=>
letI f:=(wd .i64 (v6+(1:Int)))
if (not r2.1)=true then
gd (0≤v5)<|
gd (v5<c)<|
qRa (wd .i64 (v5+(1:Int))) f (wC h0 (0+e) d) r2.2
else
qRa v5 f h0 r2.2
else
gd (0≤v5)<|
gd (v5≤c)<|
gd (0≤v5)<|
gd (v5≤c)<|
some ((0,(e - 0)),((qsb h0 (0+e) (wl (i - e) g)),b1))):=SE
noncomputable def qTe (acc:List AV→Bool):Summ wg GT:=vf.summ mixed acc true false
noncomputable def vJb:FN:={f:=20,cuts:=[],tab:=[SS vHa,SS vcc,(qTe (fun _=>true)).dropping],fm:=⟨false,[.val qcb [], .val (.int .i64) [], .part qpa, .val (.int .i64) []]⟩}
noncomputable def qOl (a0:List Int) (a1:ByteArray):Option (qCa×Int×(List qda×Nat×Nat)×Int):=vJb.call [(.sl (.int .u8) false a0),(.str a1)] []
theorem qly (a0:List Int) (a1:ByteArray):qOl a0 a1=(
(qSd a0).bind fun r1=>
if (r1.2.2 != (0:Int))=true then
some ((((0:Int),((0:Int),())),([],([],()))),((0:Int),(([],(0,0)),r1.2.2)))
else
(qEk r1.1.2.1 a1).bind fun r2=>
if (r2.2 != (0:Int))=true then
some ((((0:Int),((0:Int),())),([],([],()))),((0:Int),(([],(0,0)),r2.2)))
else
(qCb r1.2.1 r2.1).bind fun r3=>
some (r1.1,(r3.2.2,((r3.2.1,r3.1),(0:Int))))):=CE
noncomputable def vUa:FN:={f:=22,cuts:=[],tab:=[],fm:=⟨true,[.val .bool [], .box 0 (.int .i64) [], .box 1 (.int .i64) []]⟩}
noncomputable def qNh (a0:qda) (b0:Int) (b1:Int):Option (Bool×Int×Int):=vUa.call [(.agg qpa (inj false qpa a0)),(.ptr (.int .i64) 0 []),(.ptr (.int .i64) 1 [])] [(0,(.box (.int .i64) b0)),(1,(.box (.int .i64) b1))]
theorem qQs (a0:qda) (b0:Int) (b1:Int):qNh a0 b0 b1=(
letI c:=(wd .i64 (a0.1.2.2.1+a0.1.2.2.2.1))
some ((decide ((if b0>a0.1.2.2.1 then b0 else a0.1.2.2.1)≥(if b1<c then b1 else c))),(b0,b1))):=CE
noncomputable def vg:FN:={f:=50,cuts:=[⟨(2,3),[0,1,7,8],false,false,[],[],[]⟩],tab:=[SS vUa],fm:=⟨true,[.val (.int .i64) [], .box 0 (.int .i64) [], .box 1 (.int .i64) []]⟩}
noncomputable def qGb (a0:List qda) (b0:Int) (b1:Int):Option (Int×Int×Int):=vg.call [(.sl qpa false a0),(.func 22 [0,1])] [(0,(.box (.int .i64) b0)),(1,(.box (.int .i64) b1))]
noncomputable def qFa (v0:List qda) (v7:Int) (v8:Int) (b0:Int) (b1:Int):Option (Int×Int×Int):=vg.sem ⟨[.code (cIn (cIn (qaa (qHa (qaa (qea wg 50)))))), .inLoop (cIn (cIn (qaa (qHa (qaa (qea wg 50)))))), .inBlock 0, .code (qaa (qaa (qea wg 50)))],⟨[(0,(.one (.sl qpa false v0))),(1,(.one (.func 22 [0,1]))),(7,(.one (.int .i64 v7))),(8,(.one (.int .i64 v8)))],[(0,some (.box (.int .i64) b0)),(1,some (.box (.int .i64) b1))],10⟩⟩
theorem qRe (a0:List qda) (b0:Int) (b1:Int):qGb a0 b0 b1=(
qFa a0 (wi (we a0)) (0:Int) b0 b1):=CE
theorem qhc (v0:List qda) (v7:Int) (v8:Int) (b0:Int) (b1:Int):qFa v0 v7 v8 b0 b1=(
if (decide (v8<v7))=true then
gd (0≤v8)<|
gd (v8<(wi (we v0)))<|
(qNh (wm v0 (wo v8) (qra qpa)) b0 b1).bind fun r1=>
if r1.1=true then
some (v8,r1.2)
else
qFa v0 v7 (wd .i64 (v8+(1:Int))) r1.2.1 r1.2.2
else
some ((-1:Int),(b0,b1))):=SE
noncomputable def vd:FN:={f:=21,cuts:=[⟨(5,3),[0,1,5,6],false,false,[],[],[]⟩],tab:=[SS vg,SS vUa],fm:=⟨false,[.sub 0 qpa, .row 0 qpa, .box 1 (.int .i64) [], .box 2 (.int .i64) []]⟩}
noncomputable def qBb (a0o:Nat) (a0n:Nat) (h0:List qda) (b1:Int) (b2:Int):Option ((Nat×Nat)×List qda×Int×Int):=vd.call [(.ref qpa 0 a0o a0n false),(.func 22 [1,2])] [(0,(.row qpa false h0)),(1,(.box (.int .i64) b1)),(2,(.box (.int .i64) b2))]
noncomputable def qQa (v0o:Nat) (v0n:Nat) (v5:Int) (v6:Int) (h0:List qda) (b1:Int) (b2:Int):Option ((Nat×Nat)×List qda×Int×Int):=vd.sem ⟨[.code (cIn (cIn (qaa (qHa (qaa (qaa (qaa (qea wg 21)))))))), .inLoop (cIn (cIn (qaa (qHa (qaa (qaa (qaa (qea wg 21)))))))), .inBlock 0, .code (qaa (qaa (qaa (qaa (qea wg 21)))))],⟨[(0,(.one (.ref qpa 0 v0o v0n false))),(1,(.one (.func 22 [1,2]))),(5,(.one (.int .i64 v5))),(6,(.one (.int .i64 v6)))],[(0,some (.row qpa false h0)),(1,some (.box (.int .i64) b1)),(2,some (.box (.int .i64) b2))],11⟩⟩
theorem qIe (a0o:Nat) (a0n:Nat) (h0:List qda) (b1:Int) (b2:Int):qBb a0o a0n h0 b1 b2=(
(qGb (wL a0n (wY a0o h0)) b1 b2).bind fun r1=>
if (r1.1==(-1:Int))=true then
some ((a0o,a0n),(h0,r1.2))
else
qQa a0o a0n r1.1 (wd .i64 (r1.1+(1:Int))) h0 r1.2.1 r1.2.2):=CE
theorem qcc (v0o:Nat) (v0n:Nat) (v5:Int) (v6:Int) (h0:List qda) (b1:Int) (b2:Int):qQa v0o v0n v5 v6 h0 b1 b2=(
letI g:=(qra qpa)
letI e:=(wo v5)
letI d:=(wi v0n)
if (decide (v6<d))=true then
gd (0≤v6)<|
gd (v6<d)<|
letI c:=(wm h0 (v0o+(wo v6)) g)
(qNh c b1 b2).bind fun r2=>
letI f:=(wd .i64 (v6+(1:Int)))
if (not r2.1)=true then
gd (0≤v5)<|
gd (v5<d)<|
qQa v0o v0n (wd .i64 (v5+(1:Int))) f (wC h0 (v0o+e) c) r2.2.1 r2.2.2
else
qQa v0o v0n v5 f h0 r2.2.1 r2.2.2
else
gd (0≤v5)<|
gd (v5≤d)<|
gd (0≤v5)<|
gd (v5≤d)<|
some (((v0o+0),(e - 0)),((qsb h0 (v0o+e) (wl (v0n - e) g)),(b1,b2)))):=SE
noncomputable def qSe (acc:List AV→Bool):Summ wg GT:=vd.summ mixed acc true false
noncomputable def vFd:FN:={f:=77,cuts:=[],tab:=[SS vla],fm:=⟨true,[.val (.int .i64) []]⟩}
noncomputable def qTr (a0:qda):Option (Int):=vFd.call [(.agg qpa (inj false qpa a0))] []
theorem qjA (a0:qda):qTr a0=(
(qch a0.1).bind fun r1=>
if (r1 != (0:Int))=true then
some (8:Int)
else
if ((wi (we a0.2.1)) != a0.1.2.2.2.2.1)=true then
some (8:Int)
else
some (0:Int)):=CE
noncomputable def vVc:FN:={f:=78,cuts:=[],tab:=[],fm:=⟨true,[.val .bool []]⟩}
noncomputable def qVn (a0:Int):Option (Bool):=vVc.call [(.int .i64 a0)] []
theorem qLv (a0:Int):qVn a0=(
if (decide (a0≥(0:Int)))=true then
some (decide (a0≤(7:Int)))
else
some (false)):=CE
noncomputable def vlc:FN:={f:=219,cuts:=[],tab:=[],fm:=⟨true,[.val (.int .i64) []]⟩}
noncomputable def qvn (a0:Int):Option (Int):=vlc.call [(.int .i64 a0)] []
theorem qhz (a0:Int):qvn a0=(
gd (0≤a0)<|
some (wd .i64 (qzw .i64 (64:Int) a0))):=CE
noncomputable def vve:FN:={f:=182,cuts:=[],tab:=[SS vlc],fm:=⟨true,[.val qna [], .val (.int .i64) []]⟩}
noncomputable def qgB (a0:Int):Option (qma×Int):=vve.call [(.int .i64 a0)] []
theorem qJw (a0:Int):qgB a0=(
if (decide (a0<(0:Int)))=true then
some (((0:Int),([],((0:Int),()))),(2:Int))
else
if (decide (a0>(7:Int)))=true then
some (((0:Int),([],((0:Int),()))),(2:Int))
else
(qvn a0).bind fun r1=>
gd (r1=r1)<|
gd (0≤r1)<|
gd (r1*1≤140737488355328)<|
gd (r1≤9223372036854775807)<|
some ((a0,((wl (wo r1) (0:Int)),((0:Int),()))),(0:Int))):=CE
noncomputable def vya:FN:={f:=244,cuts:=[],tab:=[],fm:=⟨true,[.val (.int .i32) []]⟩}
noncomputable def qsh (a0:Int):Option (Int):=vya.call [(.int .i32 a0)] []
theorem qbv (a0:Int):qsh a0=(
if (decide (a0>(2047:Int)))=true then
some (4095:Int)
else
if (decide (a0<(-2047:Int)))=true then
some (0:Int)
else
gd (0≤(7:Int))<|
letI c:=(wd .i32 ((wR a0 (128:Int))+(16:Int)))
gd (0≤c)<|
gd (c<(33:Int))<|
letI d:=(wd .i32 (c+(1:Int)))
gd (0≤d)<|
gd (d<(33:Int))<|
gd (0≤c)<|
gd (c<(33:Int))<|
gd (0≤(7:Int))<|
letI e:=(wm G_row (wo c) (0:Int))
some (wR (wd .i32 ((wd .i32 ((wd .i32 (e*(128:Int)))+(wd .i32 ((wd .i32 ((wm G_row (wo d) (0:Int)) - e))*(qUa .i32 a0 (127:Int))))))+(64:Int))) (128:Int))):=CE
noncomputable def vb:FN:={f:=258,cuts:=[],tab:=[],fm:=⟨true,[.val (.slice (.int .i32)) [.nw]]⟩}
noncomputable def qTa (a0:List Int):Option (List Int):=vb.call [(.sl (.int .i32) false a0)] []
theorem qtk (a0:List Int):qTa a0=(
qaF (fun (r1:Bool)=>r1=true→a0=[]) fun (r1:Bool)=>
if r1=true then
some ([])
else
gd ((we ([]++a0))*4≤140737488355328)<|
some ([]++a0)):=CE
noncomputable def vnb:FN:={f:=220,cuts:=[⟨(5,3),[0,2,4,14],false,false,[],[],[]⟩,⟨(11,3),[2,4,6,26,27],false,false,[],[],[]⟩],tab:=[SS vya,SS vb],fm:=⟨true,[.val qBa [], .val (.int .i64) []]⟩}
noncomputable def qAt (a0:Int):Option (qza×Int):=vnb.call [(.int .i64 a0)] []
noncomputable def qCh (v0:Int) (v14:Int) (b8b:Unit) (h9:List Int) (h10:List (List Int)):Option (qza×Int):=vnb.sem ⟨[.code (cIn (cIn (qaa (qHa (qaa (qaa (qaa (qea wg 220)))))))), .inLoop (cIn (cIn (qaa (qHa (qaa (qaa (qaa (qea wg 220)))))))), .inBlock 0, .code (qaa (qaa (qaa (qaa (qea wg 220)))))],⟨[(0,(.one (.int .i64 v0))),(2,(.one (.ptr qBa 8 []))),(4,(.one (.ref (.int .i32) 9 0 (we h9) true))),(14,(.one (.int .i32 v14)))],[(8,some (.box qBa ((SV.ref 10 0 (we h10) true),b8b))),(9,some (.row (.int .i32) true h9)),(10,some (.row (.slice (.int .i32)) true h10))],11⟩⟩
noncomputable def qBh (v26:Int) (v27:Int) (b8b:Unit) (h9:List Int) (b10b:Unit) (h11:List (List Int)) (h12:List (List Int)):Option (qza×Int):=vnb.sem ⟨[.code (cIn (cIn (qaa (qHa (qaa (qaa (qaa (qaa (qaa (qea wg 220)))))))))), .inLoop (cIn (cIn (qaa (qHa (qaa (qaa (qaa (qaa (qaa (qea wg 220)))))))))), .inBlock 2, .code (qaa (qaa (qaa (qaa (qaa (qaa (qea wg 220)))))))],⟨[(2,(.one (.ptr qBa 8 []))),(4,(.one (.ref (.int .i32) 9 0 (we h9) true))),(6,(.one (.ptr qBa 10 []))),(26,(.one (.int .i64 v26))),(27,(.one (.int .i64 v27)))],[(8,some (.box qBa ((SV.ref 11 0 (we h11) true),b8b))),(9,some (.row (.int .i32) true h9)),(10,some (.box qBa ((SV.ref 12 0 (we h12) true),b10b))),(11,some (.row (.slice (.int .i32)) true h11)),(12,some (.row (.slice (.int .i32)) true h12))],13⟩⟩
theorem qiB (a0:Int):qAt a0=(
if (decide (a0<(1:Int)))=true then
some (([],()),(2:Int))
else
if (decide (a0>(256:Int)))=true then
some (([],()),(2:Int))
else
qCh a0 (0:Int) () [] []):=CE
theorem qio (v0:Int) (v14:Int) (b8b:Unit) (h9:List Int) (h10:List (List Int)):qCh v0 v14 b8b h9 h10=(
if (decide (v14<(33:Int)))=true then
(qsh (wd .i32 ((128:Int)*(wd .i32 (v14 - (16:Int)))))).bind fun r1=>
letI c:=(h9++[(wd .i32 ((16:Int)*r1))])
gd ((we c)*4≤140737488355328)<|
qCh v0 (wd .i32 (v14+(1:Int))) b8b c h10
else
qBh v0 (0:Int) b8b h9 () h10 []):=SE
theorem qho (v26:Int) (v27:Int) (b8b:Unit) (h9:List Int) (b10b:Unit) (h11:List (List Int)) (h12:List (List Int)):qBh v26 v27 b8b h9 b10b h11 h12=(
if (decide (v27<v26))=true then
(qTa h9).bind fun r2=>
gd ((we (h12++[r2]))*24≤140737488355328)<|
qBh v26 (wd .i64 (v27+(1:Int))) b8b h9 b10b h11 (h12++[r2])
else
some ((h12,b10b),(0:Int))):=SE
noncomputable def vme:FN:={f:=183,cuts:=[],tab:=[SS vnb],fm:=⟨true,[.val qfc []]⟩}
noncomputable def qiy:Option (qSa):=vme.call [] []
theorem qrE:qiy=(
letI c:=(qAt (256:Int))
c.bind fun r1=>
c.bind fun r2=>
some (r1.1,(r2.1,()))):=CE
noncomputable def vTb:FN:={f:=184,cuts:=[],tab:=[],fm:=⟨true,[.val qsa []]⟩}
noncomputable def qGs:Option (qha):=vTb.call [] []
theorem qip:qGs=(
some ((-1:Int),((0:Int),()))):=CE
noncomputable def vGc:FN:={f:=185,cuts:=[],tab:=[],fm:=⟨true,[.val qKa []]⟩}
noncomputable def qLt:Option (qua):=vGc.call [] []
theorem qys:qLt=(
some ((1:Int),())):=CE
noncomputable def vib:FN:={f:=222,cuts:=[],tab:=[],fm:=⟨true,[.val (.int .i64) []]⟩}
noncomputable def qTj (a0:Int):Option (Int):=vib.call [(.int .i64 a0)] []
theorem qzv (a0:Int):qTj a0=(
gd (0≤a0)<|
some (wd .i64 (qzw .i64 (64:Int) a0))):=CE
noncomputable def vrc:FN:={f:=144,cuts:=[],tab:=[],fm:=⟨true,[.val (.int .u64) [], .val (.int .u64) []]⟩}
noncomputable def qgp (a0:Int) (a1:Int):Option (Int×Int):=vrc.call [(.int .u64 a0),(.int .u64 a1)] []
theorem qzl (a0:Int) (a1:Int):qgp a0 a1=(
gd (0≤(32:Int))<|
gd (0≤(32:Int))<|
gd (0≤(32:Int))<|
gd (0≤(32:Int))<|
gd (0≤(32:Int))<|
letI g:=(wR a1 (4294967296:Int))
letI f:=(wR a0 (4294967296:Int))
letI e:=(qUa .u64 a1 (4294967295:Int))
letI d:=(qUa .u64 a0 (4294967295:Int))
letI c:=(wd .u64 ((wd .u64 (f*e))+(wR (wd .u64 (d*e)) (4294967296:Int))))
some ((wd .u64 ((wd .u64 ((wd .u64 (f*g))+(wR c (4294967296:Int))))+(wR (wd .u64 ((qUa .u64 c (4294967295:Int))+(wd .u64 (d*g)))) (4294967296:Int)))),(wd .u64 (a0*a1)))):=CE
noncomputable def vAa:FN:={f:=104,cuts:=[],tab:=[SS vrc],fm:=⟨true,[.val (.int .u64) [], .val (.int .u64) []]⟩}
noncomputable def qeg (a0:Int) (a1:Int):Option (Int×Int):=vAa.call [(.int .u64 a0),(.int .u64 a1)] []
theorem qmo (a0:Int) (a1:Int):qeg a0 a1=(
(qgp a0 a1).bind fun r1=>
some (r1)):=CE
noncomputable def vaa:FN:={f:=221,cuts:=[⟨(8,3),[7,8],false,false,[],[],[]⟩],tab:=[SS vAa],fm:=⟨true,[.val (.slice (.int .i64)) [.nw]]⟩}
noncomputable def qBf (a0:List Int) (a1:Int):Option (List Int):=vaa.call [(.sl (.int .i64) false a0),(.int .i64 a1)] []
noncomputable def qUc (v8:Int) (h8:List Int):Option (List Int):=vaa.sem ⟨[.code (cIn (cIn (qHa (qaa (qaa (qaa (qaa (qaa (qaa (qea wg 221)))))))))), .inLoop (cIn (cIn (qHa (qaa (qaa (qaa (qaa (qaa (qaa (qea wg 221)))))))))), .inBlock 0, .code (qaa (qaa (qaa (qaa (qaa (qaa (qaa (qea wg 221))))))))],⟨[(7,(.one (.ref (.int .i64) 8 0 (we h8) true))),(8,(.one (.int .i64 v8)))],[(8,some (.row (.int .i64) true h8))],9⟩⟩
theorem qHm (a0:List Int) (a1:Int):qBf a0 a1=(
if (decide (a1<(0:Int)))=true then
none
else
letI f:=(we a0)
(qeg (wd .u64 (wi f)) (wd .u64 a1)).bind fun r1=>
if (decide (r1.1>(0:Int)))=true then
none
else
if (decide (r1.2>(9223372036854775807:Int)))=true then
none
else
letI c:=(wd .i64 r1.2)
gd (c=c)<|
gd (0≤c)<|
gd (c*8≤140737488355328)<|
gd (c≤9223372036854775807)<|
letI d:=(wl (wo c) (0:Int))
letI e:=(min f (we d))
qUc (wi e) (qsb d 0 (wL e a0))):=CE
theorem qAf (v8:Int) (h8:List Int):qUc v8 h8=(
letI g:=(we h8)
letI d:=(wi g)
if (decide (v8<d))=true then
gd (0≤v8)<|
gd (v8≤d)<|
gd (0≤v8)<|
gd (v8≤d)<|
letI f:=(wo v8)
letI e:=(wL (f - 0) (wY 0 h8))
letI c:=(min (we e) (g - f))
qUc (wd .i64 (v8+(wi c))) (qsb h8 (0+f) (wL c e))
else
some (h8)):=SE
noncomputable def vce:FN:={f:=186,cuts:=[],tab:=[SS vib,SS vaa],fm:=⟨true,[.val qgb [], .val (.int .i64) []]⟩}
noncomputable def qYt (a0:Int):Option (qIa×Int):=vce.call [(.int .i64 a0)] []
theorem qWB (a0:Int):qYt a0=(
if (decide (a0<(0:Int)))=true then
some (((0:Int),([],())),(2:Int))
else
if (decide (a0>(7:Int)))=true then
some (((0:Int),([],())),(2:Int))
else
(qTj a0).bind fun r1=>
(qBf [(-1:Int)] r1).bind fun r2=>
some ((a0,(r2,())),(0:Int))):=CE
noncomputable def vq:FN:={f:=225,cuts:=[⟨(8,3),[7,8],false,false,[],[],[]⟩],tab:=[SS vAa],fm:=⟨true,[.val (.slice (.int .i32)) [.nw]]⟩}
noncomputable def qJc (a0:List Int) (a1:Int):Option (List Int):=vq.call [(.sl (.int .i32) false a0),(.int .i64 a1)] []
noncomputable def qoc (v8:Int) (h8:List Int):Option (List Int):=vq.sem ⟨[.code (cIn (cIn (qHa (qaa (qaa (qaa (qaa (qaa (qaa (qea wg 225)))))))))), .inLoop (cIn (cIn (qHa (qaa (qaa (qaa (qaa (qaa (qaa (qea wg 225)))))))))), .inBlock 0, .code (qaa (qaa (qaa (qaa (qaa (qaa (qaa (qea wg 225))))))))],⟨[(7,(.one (.ref (.int .i32) 8 0 (we h8) true))),(8,(.one (.int .i64 v8)))],[(8,some (.row (.int .i32) true h8))],9⟩⟩
theorem qOj (a0:List Int) (a1:Int):qJc a0 a1=(
if (decide (a1<(0:Int)))=true then
none
else
letI f:=(we a0)
(qeg (wd .u64 (wi f)) (wd .u64 a1)).bind fun r1=>
if (decide (r1.1>(0:Int)))=true then
none
else
if (decide (r1.2>(9223372036854775807:Int)))=true then
none
else
letI c:=(wd .i64 r1.2)
gd (c=c)<|
gd (0≤c)<|
gd (c*4≤140737488355328)<|
gd (c≤9223372036854775807)<|
letI d:=(wl (wo c) (0:Int))
letI e:=(min f (we d))
qoc (wi e) (qsb d 0 (wL e a0))):=CE
theorem qme (v8:Int) (h8:List Int):qoc v8 h8=(
letI g:=(we h8)
letI d:=(wi g)
if (decide (v8<d))=true then
gd (0≤v8)<|
gd (v8≤d)<|
gd (0≤v8)<|
gd (v8≤d)<|
letI f:=(wo v8)
letI e:=(wL (f - 0) (wY 0 h8))
letI c:=(min (we e) (g - f))
qoc (wd .i64 (v8+(wi c))) (qsb h8 (0+f) (wL c e))
else
some (h8)):=SE
noncomputable def vUb:FN:={f:=223,cuts:=[],tab:=[SS vq],fm:=⟨true,[.val (.slice (.int .i32)) [.nw]]⟩}
noncomputable def qlo (a0:Int) (a1:Int):Option (List Int):=vUb.call [(.int .i64 a0),(.int .i32 a1)] []
theorem qwr (a0:Int) (a1:Int):qlo a0 a1=(
(qJc [a1] a0).bind fun r1=>
some (r1)):=CE
noncomputable def vYc:FN:={f:=187,cuts:=[⟨(5,3),[1,4,6,14,15],false,false,[],[],[]⟩],tab:=[SS vUb],fm:=⟨true,[.val qBa [], .val (.int .i64) []]⟩}
noncomputable def qux (a0:Int) (a1:Int):Option (qza×Int):=vYc.call [(.int .i64 a0),(.int .i32 a1)] []
noncomputable def qij (v1:Int) (v14:Int) (v15:Int) (b8b:Unit) (b9b:Unit) (h10:List (List Int)) (h11:List (List Int)):Option (qza×Int):=vYc.sem ⟨[.code (cIn (cIn (qaa (qHa (qaa (qaa (qaa (qea wg 187)))))))), .inLoop (cIn (cIn (qaa (qHa (qaa (qaa (qaa (qea wg 187)))))))), .inBlock 0, .code (qaa (qaa (qaa (qaa (qea wg 187)))))],⟨[(1,(.one (.int .i32 v1))),(4,(.one (.ptr qBa 8 []))),(6,(.one (.ptr qBa 9 []))),(14,(.one (.int .i64 v14))),(15,(.one (.int .i64 v15)))],[(8,some (.box qBa ((SV.ref 10 0 (we h10) true),b8b))),(9,some (.box qBa ((SV.ref 11 0 (we h11) true),b9b))),(10,some (.row (.slice (.int .i32)) true h10)),(11,some (.row (.slice (.int .i32)) true h11))],12⟩⟩
theorem qND (a0:Int) (a1:Int):qux a0 a1=(
if (decide (a0<(1:Int)))=true then
some (([],()),(2:Int))
else
if (decide (a0>(256:Int)))=true then
some (([],()),(2:Int))
else
qij a1 a0 (0:Int) () () [] []):=CE
theorem qcp (v1:Int) (v14:Int) (v15:Int) (b8b:Unit) (b9b:Unit) (h10:List (List Int)) (h11:List (List Int)):qij v1 v14 v15 b8b b9b h10 h11=(
if (decide (v15<v14))=true then
(qlo (8:Int) v1).bind fun r1=>
gd ((we (h11++[r1]))*24≤140737488355328)<|
qij v1 v14 (wd .i64 (v15+(1:Int))) b8b b9b h10 (h11++[r1])
else
some ((h11,b9b),(0:Int))):=SE
noncomputable def vAc:FN:={f:=224,cuts:=[],tab:=[],fm:=⟨true,[.val (.int .i64) []]⟩}
noncomputable def qaq (a0:Int):Option (Int):=vAc.call [(.int .i64 a0)] []
theorem qcB (a0:Int):qaq a0=(
gd (0≤a0)<|
some (wd .i64 (qzw .i64 (16:Int) a0))):=CE
noncomputable def vke:FN:={f:=188,cuts:=[],tab:=[SS vAc],fm:=⟨true,[.val qEa [], .val (.int .i64) []]⟩}
noncomputable def qxw (a0:Int):Option (qta×Int):=vke.call [(.int .i64 a0)] []
theorem qZC (a0:Int):qxw a0=(
if (decide (a0<(0:Int)))=true then
some (((0:Int),([],())),(2:Int))
else
if (decide (a0>(7:Int)))=true then
some (((0:Int),([],())),(2:Int))
else
(qaq a0).bind fun r1=>
gd (r1=r1)<|
gd (0≤r1)<|
gd (r1*16≤140737488355328)<|
gd (r1≤9223372036854775807)<|
some ((a0,((wl (wo r1) (qra qHc)),())),(0:Int))):=CE
noncomputable def vqe:FN:={f:=189,cuts:=[],tab:=[SS vq],fm:=⟨true,[.val qDa [], .val (.int .i64) []]⟩}
noncomputable def qSy (a0:Int):Option (qqa×Int):=vqe.call [(.int .i64 a0)] []
theorem qfF (a0:Int):qSy a0=(
if (decide (a0<(1:Int)))=true then
some (((0:Int),([],([],()))),(2:Int))
else
if (decide (a0>(1000:Int)))=true then
some (((0:Int),([],([],()))),(2:Int))
else
(qJc [(32768:Int)] (193:Int)).bind fun r1=>
gd ((193:Int)=(193:Int))<|
gd (0≤(193:Int))<|
gd ((193:Int)*4≤140737488355328)<|
gd ((193:Int)≤9223372036854775807)<|
some (((wd .i32 a0),(r1,((wl 193 (0:Int)),()))),(0:Int))):=CE
noncomputable def vfa:FN:={f:=323,cuts:=[],tab:=[],fm:=⟨true,[.val (.int .i32) [], .val (.int .i64) []]⟩}
noncomputable def qjk (a0:List Int):Option (Int×Int):=vfa.call [(.sl (.int .u8) false a0)] []
noncomputable def vT:FN:={f:=318,cuts:=[⟨(2,3),[0,6,7,8],false,false,[],[],[]⟩],tab:=[SS vfa],fm:=⟨true,[.val (.int .i32) [], .val (.int .i64) []]⟩}
noncomputable def qGe (a0:List Int):Option (Int×Int):=vT.call [(.sl (.int .u8) false a0)] []
noncomputable def qjg (v0:List Int) (v6:List Int) (v7:Int) (v8:Int):Option (Int×Int):=vT.sem ⟨[.code (cIn (cIn (qaa (qHa (qaa (qea wg 318)))))), .inLoop (cIn (cIn (qaa (qHa (qaa (qea wg 318)))))), .inBlock 0, .code (qaa (qaa (qea wg 318)))],⟨[(0,(.one (.sl (.int .u8) false v0))),(6,(.one (.sl (.int .u8) false v6))),(7,(.one (.int .i64 v7))),(8,(.one (.int .i64 v8)))],[],8⟩⟩
theorem qXk (a0:List Int):qGe a0=(
qjg a0 a0 (wi (we a0)) (0:Int)):=CE
theorem qxj (v0:List Int) (v6:List Int) (v7:Int) (v8:Int):qjg v0 v6 v7 v8=(
letI d:=(qjk v0)
if (decide (v8<v7))=true then
gd (0≤v8)<|
gd (v8<(wi (we v6)))<|
letI c:=(wm v6 (wo v8) (0:Int))
if (decide (c<(128:Int)))=true then
some ((wd .i32 c),(1:Int))
else
d.bind fun r1=>
some (r1)
else
d.bind fun r2=>
some (r2)):=SE
noncomputable def vfd:FN:={f:=269,cuts:=[],tab:=[],fm:=⟨true,[.val .bool []]⟩}
noncomputable def qGu (a0:Int):Option (Bool):=vfd.call [(.int .i32 a0)] []
theorem qKw (a0:Int):qGu a0=(
some (a0 != (0:Int))):=CE
noncomputable def vQa:FN:={f:=311,cuts:=[⟨(2,3),[0,1,2,7],false,false,[],[],[]⟩],tab:=[SS vT,SS vfd],fm:=⟨true,[.val (.int .i64) []]⟩}
noncomputable def qDp (a0:List Int) (a2:Bool):Option (Int):=vQa.call [(.sl (.int .u8) false a0),(.func 269 []),(.bool a2)] []
noncomputable def qTd (v0:List Int) (v2:Bool) (v7:Int):Option (Int):=vQa.sem ⟨[.code (cIn (cIn (qHa (qaa (qaa (qea wg 311)))))), .inLoop (cIn (cIn (qHa (qaa (qaa (qea wg 311)))))), .inBlock 0, .code (qaa (qaa (qaa (qea wg 311))))],⟨[(0,(.one (.sl (.int .u8) false v0))),(1,(.one (.func 269 []))),(2,(.one (.bool v2))),(7,(.one (.int .i64 v7)))],[],8⟩⟩
theorem qat (a0:List Int) (a2:Bool):qDp a0 a2=(
qTd a0 a2 (0:Int)):=CE
theorem qsj (v0:List Int) (v2:Bool) (v7:Int):qTd v0 v2 v7=(
letI c:=(wi (we v0))
if (decide (v7<c))=true then
gd (0≤v7)<|
gd (v7≤c)<|
(qGe (wY (wo v7) v0)).bind fun r1=>
(qGu r1.1).bind fun r2=>
if (r2==v2)=true then
some (v7)
else
qTd v0 v2 (wd .i64 (v7+r1.2))
else
some (-1:Int)):=SE
noncomputable def vmc:FN:={f:=304,cuts:=[],tab:=[SS vQa],fm:=⟨true,[.val (.int .i64) []]⟩}
noncomputable def qEp (a0:List Int):Option (Int):=vmc.call [(.sl (.int .u8) false a0),(.func 269 [])] []
theorem qbt (a0:List Int):qEp a0=(
(qDp a0 true).bind fun r1=>
some (r1)):=CE
noncomputable def vxb:FN:={f:=268,cuts:=[],tab:=[SS vmc],fm:=⟨true,[.val .bool []]⟩}
noncomputable def qUh (a0:List Int):Option (Bool):=vxb.call [(.sl (.int .u8) false a0),(.func 269 [])] []
theorem qFp (a0:List Int):qUh a0=(
(qEp a0).bind fun r1=>
some (decide (r1≥(0:Int)))):=CE
noncomputable def vv:FN:={f:=226,cuts:=[],tab:=[SS vlc,SS vxb],fm:=⟨true,[.val (.int .i64) []]⟩}
noncomputable def qqe (a0:qma):Option (Int):=vv.call [(.agg qna (inj false qna a0))] []
theorem qhB (a0:qma):qqe a0=(
if (decide (a0.1<(0:Int)))=true then
some (8:Int)
else
if (decide (a0.1>(7:Int)))=true then
some (8:Int)
else
(qvn a0.1).bind fun r1=>
letI c:=(wi (we a0.2.1))
if (c != r1)=true then
some (8:Int)
else
if (decide (a0.2.2.1<(0:Int)))=true then
some (8:Int)
else
if (decide (a0.2.2.1>(1073741824:Int)))=true then
some (8:Int)
else
if (decide (a0.2.2.1<c))=true then
gd (0≤a0.2.2.1)<|
gd (a0.2.2.1≤c)<|
(qUh (wY (wo a0.2.2.1) a0.2.1)).bind fun r2=>
if r2=true then
some (8:Int)
else
some (0:Int)
else
some (0:Int)):=CE
noncomputable def vud:FN:={f:=305,cuts:=[],tab:=[],fm:=⟨true,[.val (.int .u8) []]⟩}
noncomputable def qVv (a0:qma) (a1:Int):Option (Int):=vud.call [(.agg qna (inj false qna a0)),(.int .i64 a1)] []
theorem qHF (a0:qma) (a1:Int):qVv a0 a1=(
letI d:=(wi (we a0.2.1))
letI c:=(qUa .i64 (wd .i64 (a0.2.2.1 - a1)) (wd .i64 (d - (1:Int))))
gd (0≤c)<|
gd (c<d)<|
some (wm a0.2.1 (wo c) (0:Int))):=CE
noncomputable def vbd:FN:={f:=270,cuts:=[],tab:=[SS vv,SS vud],fm:=⟨true,[.val (.int .u8) [], .val (.int .i64) []]⟩}
noncomputable def qms (a0:qma) (a1:Int):Option (Int×Int):=vbd.call [(.agg qna (inj false qna a0)),(.int .i64 a1)] []
theorem qjD (a0:qma) (a1:Int):qms a0 a1=(
(qqe a0).bind fun r1=>
if (r1 != (0:Int))=true then
some ((0:Int),r1)
else
if (decide (a1<(1:Int)))=true then
some ((0:Int),(2:Int))
else
if (decide (a1>(wi (we a0.2.1))))=true then
some ((0:Int),(2:Int))
else
if (decide (a1>a0.2.2.1))=true then
some ((0:Int),(0:Int))
else
(qVv a0 a1).bind fun r2=>
some (r2,(0:Int))):=CE
noncomputable def vha:FN:={f:=227,cuts:=[⟨(3,3),[2,5,6],false,false,[],[],[]⟩],tab:=[SS vbd],fm:=⟨true,[.val (.slice (.int .u8)) [.nw]]⟩}
noncomputable def qrj (a0:qma) (a1:Int):Option (List Int):=vha.call [(.agg qna (inj false qna a0)),(.int .i64 a1)] []
noncomputable def qRh (v6:Int) (b8:qma) (h9:List Int):Option (List Int):=vha.sem ⟨[.code (cIn (cIn (qaa (qHa (qaa (qaa (qea wg 227))))))), .inLoop (cIn (cIn (qaa (qHa (qaa (qaa (qea wg 227))))))), .inBlock 0, .code (qaa (qaa (qaa (qea wg 227))))],⟨[(2,(.one (.ptr qna 8 []))),(5,(.one (.ref (.int .u8) 9 0 (we h9) true))),(6,(.one (.int .i64 v6)))],[(8,some (.box qna (inj false qna b8))),(9,some (.row (.int .u8) true h9))],10⟩⟩
theorem qCy (a0:qma) (a1:Int):qrj a0 a1=(
qRh a1 a0 []):=CE
theorem qSl (v6:Int) (b8:qma) (h9:List Int):qRh v6 b8 h9=(
if (decide (v6>(0:Int)))=true then
(qms b8 v6).bind fun r1=>
gd ((we (h9++[r1.1]))*1≤140737488355328)<|
qRh (wd .i64 (v6 - (1:Int))) b8 (h9++[r1.1])
else
some (h9)):=SE
noncomputable def vkd:FN:={f:=271,cuts:=[],tab:=[],fm:=⟨true,[.val (.int .u32) [], .val (.int .i64) []]⟩}
noncomputable def qPu (a0:Int):Option (Int×Int):=vkd.call [(.int .i64 a0)] []
theorem qWx (a0:Int):qPu a0=(
if (decide (a0<(0:Int)))=true then
some ((0:Int),(2:Int))
else
if (decide (a0≥(8:Int)))=true then
some ((0:Int),(2:Int))
else
some ((wd .u32 ((2654435769:Int)*(wd .u32 (wd .i64 (a0+(1:Int)))))),(0:Int))):=CE
noncomputable def vFa:FN:={f:=272,cuts:=[⟨(2,3),[0,7,8,9],false,false,[],[],[]⟩],tab:=[],fm:=⟨true,[.val (.int .u32) []]⟩}
noncomputable def qIl (a0:Int) (a1:List Int):Option (Int):=vFa.call [(.int .u32 a0),(.sl (.int .u8) false a1)] []
noncomputable def qSf (v0:Int) (v7:List Int) (v8:Int) (v9:Int):Option (Int):=vFa.sem ⟨[.code (cIn (cIn (qaa (qHa (qaa (qea wg 272)))))), .inLoop (cIn (cIn (qaa (qHa (qaa (qea wg 272)))))), .inBlock 0, .code (qaa (qaa (qea wg 272)))],⟨[(0,(.one (.int .u32 v0))),(7,(.one (.sl (.int .u8) false v7))),(8,(.one (.int .i64 v8))),(9,(.one (.int .i64 v9)))],[],8⟩⟩
theorem qVx (a0:Int) (a1:List Int):qIl a0 a1=(
qSf a0 a1 (wi (we a1)) (0:Int)):=CE
theorem qHl (v0:Int) (v7:List Int) (v8:Int) (v9:Int):qSf v0 v7 v8 v9=(
if (decide (v9<v8))=true then
gd (0≤v9)<|
gd (v9<(wi (we v7)))<|
gd (0≤(15:Int))<|
letI c:=(wd .u32 ((qDb .u32 v0 (wd .u32 (wm v7 (wo v9) (0:Int))))*(16777619:Int)))
qSf (qDb .u32 c (wR c (32768:Int))) v7 v8 (wd .i64 (v9+(1:Int)))
else
some (v0)):=SE
noncomputable def vSb:FN:={f:=228,cuts:=[],tab:=[SS vkd,SS vFa],fm:=⟨true,[.val (.int .u32) [], .val (.int .i64) []]⟩}
noncomputable def qYm (a0:Int) (a1:List Int):Option (Int×Int):=vSb.call [(.int .i64 a0),(.sl (.int .u8) false a1)] []
theorem qeE (a0:Int) (a1:List Int):qYm a0 a1=(
(qPu a0).bind fun r1=>
if (r1.2 != (0:Int))=true then
some ((0:Int),r1.2)
else
if (decide ((wi (we a1))>(20000:Int)))=true then
some ((0:Int),(4:Int))
else
(qIl r1.1 a1).bind fun r2=>
some (r2,(0:Int))):=CE
noncomputable def vMc:FN:={f:=273,cuts:=[],tab:=[],fm:=⟨true,[.val (.int .u8) []]⟩}
noncomputable def qYj (a0:Int):Option (Int):=vMc.call [(.int .u8 a0)] []
theorem qIv (a0:Int):qYj a0=(
letI e:=(decide (a0≤(90:Int)))
letI d:=(decide (a0≥(65:Int)))
letI c:=(wd .u8 (a0+(32:Int)))
if (decide (a0≥(97:Int)))=true then
if (decide (a0≤(122:Int)))=true then
some (a0)
else
if d=true then
if e=true then
some c
else
some (0:Int)
else
some (0:Int)
else
if d=true then
if e=true then
some c
else
some (0:Int)
else
some (0:Int)):=CE
noncomputable def vIa:FN:={f:=229,cuts:=[⟨(3,3),[3,4],false,false,[],[],[]⟩,⟨(7,3),[5,27,28,29],false,false,[],[],[]⟩],tab:=[SS vha,SS vMc],fm:=⟨true,[.val (.slice (.int .u8)) [.nw]]⟩}
noncomputable def qyp (a0:qma):Option (List Int):=vIa.call [(.agg qna (inj false qna a0))] []
noncomputable def qQh (v4:Int) (h8:List Int):Option (List Int):=vIa.sem ⟨[.code (cIn (cIn (qHa (qaa (qaa (qaa (qea wg 229))))))), .inLoop (cIn (cIn (qHa (qaa (qaa (qaa (qea wg 229))))))), .inBlock 0, .code (qaa (qaa (qaa (qaa (qea wg 229)))))],⟨[(3,(.one (.ref (.int .u8) 8 0 (we h8) true))),(4,(.one (.int .i64 v4)))],[(8,some (.row (.int .u8) true h8))],9⟩⟩
noncomputable def qxe (v27o:Nat) (v27n:Nat) (v28:Int) (v29:Int) (h8:List Int) (h9:List Int):Option (List Int):=vIa.sem ⟨[.code (cIn (cIn (qaa (qHa (qaa (qaa (qaa (qaa (qaa (qea wg 229)))))))))), .inLoop (cIn (cIn (qaa (qHa (qaa (qaa (qaa (qaa (qaa (qea wg 229)))))))))), .inBlock 2, .code (qaa (qaa (qaa (qaa (qaa (qaa (qea wg 229)))))))],⟨[(5,(.one (.ref (.int .u8) 8 0 (we h8) true))),(27,(.one (.ref (.int .u8) 9 v27o v27n false))),(28,(.one (.int .i64 v28))),(29,(.one (.int .i64 v29)))],[(8,some (.row (.int .u8) true h8)),(9,some (.row (.int .u8) true h9))],10⟩⟩
theorem qBy (a0:qma):qyp a0=(
(qrj a0 (16:Int)).bind fun r1=>
qQh (wi (we r1)) r1):=CE
theorem qRl (v4:Int) (h8:List Int):qQh v4 h8=(
letI g:=(we h8)
letI f:=(wo v4)
letI e:=(wi g)
letI d:=(g - f)
if (decide (v4>(0:Int)))=true then
letI c:=(wd .i64 (v4 - (1:Int)))
gd (0≤c)<|
gd (c<e)<|
(qYj (wm h8 (0+(wo c)) (0:Int))).bind fun r2=>
if (r2 != (0:Int))=true then
qQh c h8
else
gd (0≤v4)<|
gd (v4≤e)<|
qxe (0+f) d (wi d) (0:Int) [] h8
else
gd (0≤v4)<|
gd (v4≤e)<|
qxe (0+f) d (wi d) (0:Int) [] h8):=SE
theorem qQl (v27o:Nat) (v27n:Nat) (v28:Int) (v29:Int) (h8:List Int) (h9:List Int):qxe v27o v27n v28 v29 h8 h9=(
if (decide (v29<v28))=true then
gd (0≤v29)<|
gd (v29<(wi v27n))<|
(qYj (wm h9 (v27o+(wo v29)) (0:Int))).bind fun r3=>
gd ((we (h8++[r3]))*1≤140737488355328)<|
qxe v27o v27n v28 (wd .i64 (v29+(1:Int))) (h8++[r3]) h9
else
some (h8)):=SE
noncomputable def vCa:FN:={f:=190,cuts:=[⟨(7,3),[1,2,4,6,17,18],false,false,[],[],[]⟩],tab:=[SS vv,SS vha,SS vSb,SS vIa],fm:=⟨true,[.val (.arr 6 (.int .u32)) [], .val (.int .i64) []]⟩}
noncomputable def qgg (a0:qma):Option ((List Int)×Int):=vCa.call [(.agg qna (inj false qna a0))] []
noncomputable def qSh (v17:(List Int)) (v18:Int) (b8:qma) (b9:(List Int)) (b10:(List Int)) (h11:List Int):Option ((List Int)×Int):=vCa.sem ⟨[.code (cIn (cIn (qaa (qHa (qaa (qaa (qaa (qaa (qea wg 190))))))))), .inLoop (cIn (cIn (qaa (qHa (qaa (qaa (qaa (qaa (qea wg 190))))))))), .inBlock 0, .code (qaa (qaa (qaa (qaa (qaa (qea wg 190))))))],⟨[(1,(.one (.ptr qna 8 []))),(2,(.one (.ptr (.arr 6 (.int .u32)) 9 []))),(4,(.one (.ptr (.arr 6 (.int .u32)) 10 []))),(6,(.one (.ref (.int .u8) 11 0 (we h11) true))),(17,(.one (.agg (.arr 5 (.int .i64)) v17))),(18,(.one (.int .i64 v18)))],[(8,some (.box qna (inj false qna b8))),(9,some (.box (.arr 6 (.int .u32)) b9)),(10,some (.box (.arr 6 (.int .u32)) b10)),(11,some (.row (.int .u8) true h11))],12⟩⟩
theorem qAC (a0:qma):qgg a0=(
(qqe a0).bind fun r1=>
letI c:=(wl 6 (0:Int))
if (r1 != (0:Int))=true then
some (c,r1)
else
(qrj a0 (6:Int)).bind fun r2=>
qSh (wC (wC (wC (wC (wC (wl 5 (0:Int)) 0 (1:Int)) 1 (2:Int)) 2 (3:Int)) 3 (4:Int)) 4 (6:Int)) (0:Int) a0 c c r2):=CE
theorem qyo (v17:(List Int)) (v18:Int) (b8:qma) (b9:(List Int)) (b10:(List Int)) (h11:List Int):qSh v17 v18 b8 b9 b10 h11=(
if (decide (v18<(5:Int)))=true then
gd (0≤v18)<|
gd (v18<(5:Int))<|
letI e:=(wo v18)
letI c:=(wd .i64 ((6:Int) - (wm v17 e (0:Int))))
gd (0≤c)<|
letI d:=(we h11)
gd (c≤(wi d))<|
(qYm v18 (wL (d - (wo c)) (wY (0+(wo c)) h11))).bind fun r3=>
gd (0≤v18)<|
gd (v18<(6:Int))<|
qSh v17 (wd .i64 (v18+(1:Int))) b8 b9 (wC b10 e r3.1) h11
else
(qyp b8).bind fun r4=>
(qYm (5:Int) r4).bind fun r5=>
gd (0≤(5:Int))<|
gd ((5:Int)<(6:Int))<|
some ((wC b10 5 r5.1),(0:Int))):=SE
noncomputable def vz:FN:={f:=277,cuts:=[⟨(5,3),[0,3,4],false,false,[],[],[]⟩],tab:=[],fm:=⟨true,[.val (.int .u8) []]⟩}
noncomputable def qyd (a0:List Int):Option (Int):=vz.call [(.sl (.int .u8) false a0)] []
noncomputable def qVb (v0:List Int) (v3:Int) (v4:Int):Option (Int):=vz.sem ⟨[.code (cIn (cIn (qaa (qHa (qaa (qaa (qaa (qea wg 277)))))))), .inLoop (cIn (cIn (qaa (qHa (qaa (qaa (qaa (qea wg 277)))))))), .inBlock 0, .code (qaa (qaa (qaa (qaa (qea wg 277)))))],⟨[(0,(.one (.sl (.int .u8) false v0))),(3,(.one (.int .u8 v3))),(4,(.one (.int .i64 v4)))],[],8⟩⟩
theorem qim (a0:List Int):qyd a0=(
letI c:=(wi (we a0))
if (decide (c<(1:Int)))=true then
none
else
gd (0≤(0:Int))<|
gd ((0:Int)<c)<|
qVb a0 (wm a0 0 (0:Int)) (1:Int)):=CE
theorem qif (v0:List Int) (v3:Int) (v4:Int):qVb v0 v3 v4=(
letI d:=(wi (we v0))
if (decide (v4<d))=true then
gd (0≤v4)<|
gd (v4<d)<|
letI c:=(wm v0 (wo v4) (0:Int))
qVb v0 (if c>v3 then c else v3) (wd .i64 (v4+(1:Int)))
else
some (v3)):=SE
noncomputable def vta:FN:={f:=232,cuts:=[⟨(4,3),[23,24,25],false,false,[],[],[]⟩],tab:=[SS vAc,SS vz],fm:=⟨true,[.val (.int .i64) []]⟩}
noncomputable def qrk (a0:qta):Option (Int):=vta.call [(.agg qEa (inj false qEa a0))] []
noncomputable def qwg (v23:List qCe) (v24:Int) (v25:Int):Option (Int):=vta.sem ⟨[.code (cIn (cIn (qaa (qHa (qaa (qaa (qea wg 232))))))), .inLoop (cIn (cIn (qaa (qHa (qaa (qaa (qea wg 232))))))), .inBlock 0, .code (qaa (qaa (qaa (qea wg 232))))],⟨[(23,(.one (.sl qHc false v23))),(24,(.one (.int .i64 v24))),(25,(.one (.int .i64 v25)))],[],8⟩⟩
theorem qfz (a0:qta):qrk a0=(
if (decide (a0.1<(0:Int)))=true then
some (8:Int)
else
if (decide (a0.1>(7:Int)))=true then
some (8:Int)
else
(qaq a0.1).bind fun r1=>
letI c:=(wi (we a0.2.1))
if (c != r1)=true then
some (8:Int)
else
qwg a0.2.1 c (0:Int)):=CE
theorem qGm (v23:List qCe) (v24:Int) (v25:Int):qwg v23 v24 v25=(
if (decide (v25<v24))=true then
gd (0≤v25)<|
gd (v25<(wi (we v23)))<|
(qyd (wL 15 (wY 0 (wm v23 (wo v25) (qra qHc)).2.1))).bind fun r2=>
if (decide (r2≥(193:Int)))=true then
some (8:Int)
else
qwg v23 v24 (wd .i64 (v25+(1:Int)))
else
some (0:Int)):=SE
noncomputable def vJa:FN:={f:=250,cuts:=[],tab:=[],fm:=⟨true,[.val (.int .i64) [], .val (.int .i64) []]⟩}
noncomputable def qmj (a0:Int) (a1:Int):Option (Int×Int):=vJa.call [(.int .u32 a0),(.int .i64 a1)] []
theorem qXx (a0:Int) (a1:Int):qmj a0 a1=(
if (decide (a1<(1:Int)))=true then
some ((0:Int),(2:Int))
else
if (decide (a1>(1048576:Int)))=true then
some ((0:Int),(2:Int))
else
letI c:=(wd .i64 (a1 - (1:Int)))
if ((qUa .i64 a1 c) != (0:Int))=true then
some ((0:Int),(2:Int))
else
some ((qUa .i64 (wd .i64 a0) c),(0:Int))):=CE
noncomputable def vhd:FN:={f:=274,cuts:=[],tab:=[],fm:=⟨true,[.val (.int .u8) []]⟩}
noncomputable def qop (a0:Int):Option (Int):=vhd.call [(.int .u32 a0)] []
theorem qYx (a0:Int):qop a0=(
gd (0≤(24:Int))<|
some (wd .u8 (wR a0 (16777216:Int)))):=CE
noncomputable def vh:FN:={f:=257,cuts:=[],tab:=[],fm:=⟨true,[.val (.slice qHc) [.nw]]⟩}
noncomputable def qpb (a0:List qCe):Option (List qCe):=vh.call [(.sl qHc false a0)] []
theorem qyh (a0:List qCe):qpb a0=(
qaF (fun (r1:Bool)=>r1=true→a0=[]) fun (r1:Bool)=>
if r1=true then
some ([])
else
gd ((we ([]++a0))*16≤140737488355328)<|
some ([]++a0)):=CE
noncomputable def vCd:FN:={f:=319,cuts:=[],tab:=[],fm:=⟨true,[.val (.int .i64) []]⟩}
noncomputable def qow:Option (Int):=vCd.call [] []
theorem qbz:qow=(
some (193:Int)):=CE
noncomputable def vLb:FN:={f:=312,cuts:=[],tab:=[SS vCd],fm:=⟨true,[.val qkb [], .val (.int .i64) []]⟩}
noncomputable def qfl (a0:Int):Option (qhb×Int):=vLb.call [(.int .u8 a0)] []
theorem qqw (a0:Int):qfl a0=(
(qow).bind fun r1=>
if (decide ((wd .i64 a0)≥r1))=true then
some (((0:Int),((0:Int),((0:Int),()))),(2:Int))
else
if (a0==(0:Int))=true then
some (((0:Int),((0:Int),((0:Int),()))),(0:Int))
else
gd ((8:Int)≠0)<|
gd ((12:Int)≠0)<|
gd ((8:Int)≠0)<|
gd ((12:Int)≠0)<|
gd ((8:Int)≠0)<|
letI e:=(wd .i32 (wd .u8 (a0 - (1:Int))))
letI g:=(wd .i32 (wFa e (8:Int)))
letI c:=(wd .i32 (wFa g (12:Int)))
gd (0≤c)<|
gd (c<(2:Int))<|
letI f:=(wd .i32 ((1:Int) - c))
gd (0≤f)<|
gd (f<(2:Int))<|
gd (0≤(0:Int))<|
gd ((0:Int)<(2:Int))<|
gd (0≤(1:Int))<|
gd ((1:Int)<(2:Int))<|
letI d:=(wC (wC (wl 2 (0:Int)) (wo c) (wd .i32 ((wnb g (12:Int))+(1:Int)))) (wo f) (wnb e (8:Int)))
some (((wm d 0 (0:Int)),((wm d 1 (0:Int)),((wd .u8 c),()))),(0:Int))):=CE
noncomputable def vdd:FN:={f:=306,cuts:=[],tab:=[SS vLb],fm:=⟨true,[.val (.int .i32) [], .val (.int .i64) []]⟩}
noncomputable def qFo (a0:Int):Option (Int×Int):=vdd.call [(.int .u8 a0)] []
theorem qnw (a0:Int):qFo a0=(
(qfl a0).bind fun r1=>
some ((wd .i32 (r1.1.1+r1.1.2.1)),r1.2)):=CE
noncomputable def vsc:FN:={f:=275,cuts:=[],tab:=[SS vdd],fm:=⟨true,[.val (.int .i32) []]⟩}
noncomputable def qKi (a0:qCe):Option (Int):=vsc.call [(.agg qHc (inj false qHc a0))] []
theorem qvt (a0:qCe):qKi a0=(
gd (0≤(0:Int))<|
gd ((0:Int)<(15:Int))<|
(qFo (wm a0.2.1 0 (0:Int))).bind fun r1=>
some (r1.1)):=CE
noncomputable def vfe:FN:={f:=230,cuts:=[],tab:=[SS vta,SS vJa,SS vhd,SS vh,SS vsc],fm:=⟨true,[.val qEa [], .val (.int .i64) [], .val (.int .i64) []]⟩}
noncomputable def qwt (a0:qta) (a1:Int):Option (qta×Int×Int):=vfe.call [(.agg qEa (inj false qEa a0)),(.int .u32 a1)] []
theorem qdB (a0:qta) (a1:Int):qwt a0 a1=(
(qrk a0).bind fun r1=>
if (r1 != (0:Int))=true then
some (((0:Int),([],())),((0:Int),r1))
else
letI d:=(wi (we a0.2.1))
(qmj a1 d).bind fun r2=>
if (r2.2 != (0:Int))=true then
some (((0:Int),([],())),((0:Int),r2.2))
else
(qop a1).bind fun r3=>
(qpb a0.2.1).bind fun r4=>
gd (0≤r2.1)<|
gd (r2.1<d)<|
letI k:=(wo r2.1)
letI j:=(qra qHc)
letI e:=(wm a0.2.1 k j)
if (e.1==r3)=true then
some ((a0.1,(r4,())),(r2.1,(0:Int)))
else
letI c:=(qDb .i64 r2.1 (1:Int))
gd (0≤c)<|
gd (c<d)<|
letI f:=(wm a0.2.1 (wo c) j)
if (f.1==r3)=true then
some ((a0.1,(r4,())),(c,(0:Int)))
else
gd (0≤c)<|
gd (c<d)<|
(qKi f).bind fun r5=>
gd (0≤r2.1)<|
gd (r2.1<d)<|
(qKi e).bind fun r6=>
letI i:=(wi (we r4))
letI g:=(wl 15 (0:Int))
if (decide (r5<r6))=true then
gd (0≤c)<|
gd (c<i)<|
some ((a0.1,((wC r4 (0+(wo c)) (r3,(g,()))),())),(c,(0:Int)))
else
gd (0≤r2.1)<|
gd (r2.1<i)<|
some ((a0.1,((wC r4 (0+k) (r3,(g,()))),())),(r2.1,(0:Int)))):=CE
noncomputable def vTa:FN:={f:=191,cuts:=[⟨(2,2),[0,6,7],false,false,[],[],[]⟩],tab:=[SS vfe],fm:=⟨false,[.box 0 qka [.pu,(.kp 1),(.kp 2), .pu, .pu, .pu, .pu], .row 1 qEa, .row 2 qDa]⟩}
noncomputable def qMf (a1:(List Int)) (b0a:Int) (b0ba:qma) (b0bbbb:(qza×(qSa×(qIa×(qha×(qua×((List Int)×((List Int)×Unit)))))))) (h1:List qta) (h2:List qqa):Option (qia×List qta×List qqa):=vTa.call [(.ptr qka 0 []),(.agg (.arr 6 (.int .u32)) a1)] [(0,(.box qka (b0a,((inj false qna b0ba),((SV.ref 1 0 (we h1) true),((SV.ref 2 0 (we h2) true),(inj false (.pair qBa (.pair qfc (.pair qgb (.pair qsa (.pair qKa (.pair (.arr 6 (.int .u32)) (.pair (.arr 6 (.int .i64)) .unit))))))) b0bbbb))))))),(1,(.row qEa false h1)),(2,(.row qDa false h2))]
noncomputable def qQd (v6:(List Int)) (v7:Int) (b0a:Int) (b0ba:qma) (b0bbbb:(qza×(qSa×(qIa×(qha×(qua×((List Int)×((List Int)×Unit)))))))) (h1:List qta) (h2:List qqa):Option (qia×List qta×List qqa):=vTa.sem ⟨[.code (cIn (cIn (qaa (qaa (qea wg 191))))), .inLoop (cIn (cIn (qaa (qaa (qea wg 191))))), .inBlock 0],⟨[(0,(.one (.ptr qka 0 []))),(6,(.one (.agg (.arr 6 (.int .u32)) v6))),(7,(.one (.int .i64 v7)))],[(0,some (.box qka (b0a,((inj false qna b0ba),((SV.ref 1 0 (we h1) true),((SV.ref 2 0 (we h2) true),(inj false (.pair qBa (.pair qfc (.pair qgb (.pair qsa (.pair qKa (.pair (.arr 6 (.int .u32)) (.pair (.arr 6 (.int .i64)) .unit))))))) b0bbbb))))))),(1,some (.row qEa false h1)),(2,some (.row qDa false h2))],11⟩⟩
theorem qrs (a1:(List Int)) (b0a:Int) (b0ba:qma) (b0bbbb:(qza×(qSa×(qIa×(qha×(qua×((List Int)×((List Int)×Unit)))))))) (h1:List qta) (h2:List qqa):qMf a1 b0a b0ba b0bbbb h1 h2=(
qQd a1 (0:Int) b0a b0ba b0bbbb h1 h2):=CE
theorem qfj (v6:(List Int)) (v7:Int) (b0a:Int) (b0ba:qma) (b0bbbb:(qza×(qSa×(qIa×(qha×(qua×((List Int)×((List Int)×Unit)))))))) (h1:List qta) (h2:List qqa):qQd v6 v7 b0a b0ba b0bbbb h1 h2=(
if (decide (v7<(6:Int)))=true then
gd (0≤v7)<|
gd (v7<(6:Int))<|
gd (0≤v7)<|
letI d:=(wi (we h1))
gd (v7<d)<|
letI c:=(wo v7)
(qwt (wm h1 (0+c) (qra qEa)) (wm v6 c (0:Int))).bind fun r1=>
gd (0≤v7)<|
gd (v7<d)<|
gd (0≤v7)<|
gd (v7<(6:Int))<|
qQd v6 (wd .i64 (v7+(1:Int))) b0a b0ba (b0bbbb.1,(b0bbbb.2.1,(b0bbbb.2.2.1,(b0bbbb.2.2.2.1,(b0bbbb.2.2.2.2.1,(b0bbbb.2.2.2.2.2.1,((wC b0bbbb.2.2.2.2.2.2.1 c r1.2.1),b0bbbb.2.2.2.2.2.2.2))))))) (wC h1 (0+c) r1.1) h2
else
some ((b0a,(b0ba,(h1,(h2,b0bbbb)))),(h1,h2))):=SE
noncomputable def qJm (acc:List AV→Bool):Summ wg GT:=vTa.summ mixed acc true false
end Go.Ab

set_option linter.unusedVariables false
set_option maxRecDepth 20000
namespace Go.Ab
open Go Go.Proofs
def t45Tab1:ByteArray:=(ByteArray.mk #[0,1,2,2,3,3,3,3,4,4,4,4,4,4,4,4,5,5,5,5,5,5,5,5,5,5,5,5,5,5,5,5,6,6,6,6,6,6,6,6,6,6,6,6,6,6,6,6,6,6,6,6,6,6,6,6,6,6,6,6,6,6,6,6,7,7,7,7,7,7,7,7,7,7,7,7,7,7,7,7,7,7,7,7,7,7,7,7,7,7,7,7,7,7,7,7,7,7,7,7,7,7,7,7,7,7,7,7,7,7,7,7,7,7,7,7,7,7,7,7,7,7,7,7,7,7,7,7,8,8,8,8,8,8,8,8,8,8,8,8,8,8,8,8,8,8,8,8,8,8,8,8,8,8,8,8,8,8,8,8,8,8,8,8,8,8,8,8,8,8,8,8,8,8,8,8,8,8,8,8,8,8,8,8,8,8,8,8,8,8,8,8,8,8,8,8,8,8,8,8,8,8,8,8,8,8,8,8,8,8,8,8,8,8,8,8,8,8,8,8,8,8,8,8,8,8,8,8,8,8,8,8,8,8,8,8,8,8,8,8,8,8,8,8,8,8,8,8,8,8,8,8,8,8,8,8])
noncomputable def vac:FN:={f:=151,cuts:=[⟨(8,3),[0,2,4,6,36],false,false,[],[],[]⟩],tab:=[SS vve,SS vme,SS vTb,SS vGc,SS vce,SS vYc,SS vke,SS vqe,SS vCa,(qJm (fun _=>true)).dropping],fm:=⟨false,[.val qka [], .val (.int .i64) []]⟩}
noncomputable def qqr (a0:Int):Option (qia×Int):=vac.call [(.int .i64 a0)] []
noncomputable def qxg (v0:Int) (v36:Int) (b8a:Int) (b8baa:Int) (b8babb:qua) (b8bbbbab:Unit) (b8bbbbbaab:Unit) (b8bbbbbabab:Unit) (b8bbbbbabb:Unit) (b8bbbbbbaa:Int) (b8bbbbbbabb:Unit) (b8bbbbbbb:(qha×(qua×((List Int)×((List Int)×Unit))))) (b9:qma) (b10a:Int) (b10ba:qma) (b10bbbb:(qza×(qSa×(qIa×(qha×(qua×((List Int)×((List Int)×Unit)))))))) (h11:List Int) (h12:List qta) (h13:List qqa) (h14:List (List Int)) (h15:List (List Int)) (h16:List (List Int)) (h17:List Int) (h18:List qta) (h19:List qqa):Option (qia×Int):=vac.sem ⟨[.code (cIn (cIn (qaa (qHa (qaa (qaa (qaa (qaa (qaa (qaa (qea wg 151))))))))))), .inLoop (cIn (cIn (qaa (qHa (qaa (qaa (qaa (qaa (qaa (qaa (qea wg 151))))))))))), .inBlock 0, .code (qaa (qaa (qaa (qaa (qaa (qaa (qaa (qea wg 151))))))))],⟨[(0,(.one (.int .i64 v0))),(2,(.one (.ptr qka 8 []))),(4,(.one (.ptr qna 9 []))),(6,(.one (.ptr qka 10 []))),(36,(.one (.int .i64 v36)))],[(8,some (.box qka (b8a,((b8baa,((SV.ref 11 0 (we h11) true),(inj false qKa b8babb))),((SV.ref 12 0 (we h12) true),((SV.ref 13 0 (we h13) true),(((SV.ref 14 0 (we h14) true),b8bbbbab),((((SV.ref 15 0 (we h15) true),b8bbbbbaab),(((SV.ref 16 0 (we h16) true),b8bbbbbabab),b8bbbbbabb)),((b8bbbbbbaa,((SV.ref 17 0 (we h17) true),b8bbbbbbabb)),(inj false (.pair qsa (.pair qKa (.pair (.arr 6 (.int .u32)) (.pair (.arr 6 (.int .i64)) .unit)))) b8bbbbbbb)))))))))),(9,some (.box qna (inj true qna b9))),(10,some (.box qka (b10a,((inj true qna b10ba),((SV.ref 18 0 (we h18) true),((SV.ref 19 0 (we h19) true),(inj true (.pair qBa (.pair qfc (.pair qgb (.pair qsa (.pair qKa (.pair (.arr 6 (.int .u32)) (.pair (.arr 6 (.int .i64)) .unit))))))) b10bbbb))))))),(11,some (.row (.int .u8) true h11)),(12,some (.row qEa true h12)),(13,some (.row qDa true h13)),(14,some (.row (.slice (.int .i32)) true h14)),(15,some (.row (.slice (.int .i32)) true h15)),(16,some (.row (.slice (.int .i32)) true h16)),(17,some (.row (.int .i64) true h17)),(18,some (.row qEa true h18)),(19,some (.row qDa true h19))],20⟩⟩
theorem qlz (a0:Int):qqr a0=(
(qgB a0).bind fun r1=>
letI c:=(wl 6 (0:Int))
if (r1.2 != (0:Int))=true then
some (((0:Int),(((0:Int),([],((0:Int),()))),([],([],(([],()),((([],()),(([],()),())),(((0:Int),([],())),(((0:Int),((0:Int),())),(((0:Int),()),(c,(c,()))))))))))),(2:Int))
else
(qiy).bind fun r2=>
(qGs).bind fun r3=>
(qLt).bind fun r4=>
(qYt a0).bind fun r5=>
(qux (256:Int) (16384:Int)).bind fun r6=>
qxg a0 (0:Int) (0:Int) (0:Int) ((0:Int),()) () () () () (0:Int) () (((0:Int),((0:Int),())),(((0:Int),()),(c,(c,())))) r1.1 a0 r1.1 (r6.1,(r2,(r5.1,(r3,(r4,(c,(c,()))))))) [] [] [] [] [] [] [] [] []):=CE
theorem qKm (v0:Int) (v36:Int) (b8a:Int) (b8baa:Int) (b8babb:qua) (b8bbbbab:Unit) (b8bbbbbaab:Unit) (b8bbbbbabab:Unit) (b8bbbbbabb:Unit) (b8bbbbbbaa:Int) (b8bbbbbbabb:Unit) (b8bbbbbbb:(qha×(qua×((List Int)×((List Int)×Unit))))) (b9:qma) (b10a:Int) (b10ba:qma) (b10bbbb:(qza×(qSa×(qIa×(qha×(qua×((List Int)×((List Int)×Unit)))))))) (h11:List Int) (h12:List qta) (h13:List qqa) (h14:List (List Int)) (h15:List (List Int)) (h16:List (List Int)) (h17:List Int) (h18:List qta) (h19:List qqa):qxg v0 v36 b8a b8baa b8babb b8bbbbab b8bbbbbaab b8bbbbbabab b8bbbbbabb b8bbbbbbaa b8bbbbbbabb b8bbbbbbb b9 b10a b10ba b10bbbb h11 h12 h13 h14 h15 h16 h17 h18 h19=(
if (decide (v36<(6:Int)))=true then
(qxw v0).bind fun r7=>
(qSy (255:Int)).bind fun r8=>
letI c:=(h18++[r7.1])
gd ((we c)*32≤140737488355328)<|
letI d:=(h19++[r8.1])
gd ((we d)*56≤140737488355328)<|
qxg v0 (wd .i64 (v36+(1:Int))) b8a b8baa b8babb b8bbbbab b8bbbbbaab b8bbbbbabab b8bbbbbabb b8bbbbbbaa b8bbbbbbabb b8bbbbbbb b9 b10a b10ba b10bbbb h11 h12 h13 h14 h15 h16 h17 c d
else
(qgg b9).bind fun r9=>
(qMf r9.1 b10a b10ba (b10bbbb.1,(b10bbbb.2.1,(b10bbbb.2.2.1,(b10bbbb.2.2.2.1,(b10bbbb.2.2.2.2.1,(r9.1,b10bbbb.2.2.2.2.2.2)))))) h18 h19).bind fun r10=>
some ((r10.1.1,(r10.1.2.1,(r10.2.1,(r10.2.2,r10.1.2.2.2.2)))),(0:Int))):=SE
noncomputable def vec:FN:={f:=118,cuts:=[],tab:=[(SS vac).dropping],fm:=⟨false,[.val qka [], .val (.int .i64) []]⟩}
noncomputable def qQr (a0:Int) (a1:Int):Option (qia×Int):=vec.call [(.int .i64 a0),(.int .i64 a1)] []
theorem qbr (a0:Int) (a1:Int):qQr a0 a1=(
(qqr a0).bind fun r1=>
if (r1.2==(0:Int))=true then
if (decide (a1>(4096:Int)))=true then
some (r1.1,(4:Int))
else
some (r1)
else
some (r1)):=CE
noncomputable def ve:FN:={f:=153,cuts:=[],tab:=[],fm:=⟨true,[.val (.slice (.int .u8)) [.nw]]⟩}
noncomputable def qxb (a0:List Int):Option (List Int):=ve.call [(.sl (.int .u8) false a0)] []
theorem qkm (a0:List Int):qxb a0=(
qaF (fun (r1:Bool)=>r1=true→a0=[]) fun (r1:Bool)=>
if r1=true then
some ([])
else
gd ((we ([]++a0))*1≤140737488355328)<|
some ([]++a0)):=CE
noncomputable def vvc:FN:={f:=192,cuts:=[],tab:=[],fm:=⟨true,[.val (.int .u8) []]⟩}
noncomputable def qnq (a0:List Int) (a1:Int):Option (Int):=vvc.call [(.sl (.int .u8) false a0),(.int .i64 a1)] []
theorem qtC (a0:List Int) (a1:Int):qnq a0 a1=(
letI c:=(wi (we a0))
if (decide (a1<c))=true then
gd (0≤a1)<|
gd (a1<c)<|
some (wm a0 (wo a1) (0:Int))
else
some (0:Int)):=CE
noncomputable def vlb:FN:={f:=152,cuts:=[⟨(2,3),[0,2,3],false,false,[],[],[]⟩],tab:=[SS vvc],fm:=⟨false,[.val qNa []]⟩}
noncomputable def qUs (a0:List Int):Option (qMa):=vlb.call [(.sl (.int .u8) false a0)] []
noncomputable def qaf (v0:List Int) (b8a:Int) (b8ba:Int) (b8bba:Int) (b8bbbb:qua) (b9:qMa) (h10:List Int):Option (qMa):=vlb.sem ⟨[.code (cIn (cIn (qHa (qaa (qaa (qea wg 152)))))), .inLoop (cIn (cIn (qHa (qaa (qaa (qea wg 152)))))), .inBlock 0, .code (qaa (qaa (qaa (qea wg 152))))],⟨[(0,(.one (.sl (.int .u8) false v0))),(2,(.one (.ptr qNa 8 []))),(3,(.one (.ptr qNa 9 [])))],[(8,some (.box qNa (b8a,(b8ba,(b8bba,((SV.ref 10 0 (we h10) true),(inj false qKa b8bbbb))))))),(9,some (.box qNa (inj false qNa b9))),(10,some (.row (.int .u8) true h10))],11⟩⟩
theorem qGv (a0:List Int):qUs a0=(
qaf a0 (0:Int) (0:Int) (0:Int) ((0:Int),()) ((0:Int),((4294967295:Int),((0:Int),(a0,((0:Int),()))))) []):=CE
theorem qRk (v0:List Int) (b8a:Int) (b8ba:Int) (b8bba:Int) (b8bbbb:qua) (b9:qMa) (h10:List Int):qaf v0 b8a b8ba b8bba b8bbbb b9 h10=(
if (decide (b9.2.2.2.2.1<(4:Int)))=true then
gd (0≤(8:Int))<|
(qnq v0 b9.2.2.2.2.1).bind fun r1=>
qaf v0 b8a b8ba b8bba b8bbbb (b9.1,(b9.2.1,((qrc .u32 (wd .u32 (b9.2.2.1*(256:Int))) (wd .u32 r1)),(b9.2.2.2.1,((wd .i64 (b9.2.2.2.2.1+(1:Int))),b9.2.2.2.2.2))))) h10
else
some (b9)):=SE
noncomputable def vMd:FN:={f:=119,cuts:=[],tab:=[SS ve,(SS vlb).dropping],fm:=⟨false,[.val qNa [], .val (.int .i64) []]⟩}
noncomputable def qMr (a0:List Int):Option (qMa×Int):=vMd.call [(.sl (.int .u8) false a0)] []
theorem qar (a0:List Int):qMr a0=(
if (decide ((wi (we a0))>(20000:Int)))=true then
some (((0:Int),((0:Int),((0:Int),([],((0:Int),()))))),(4:Int))
else
(qxb a0).bind fun r1=>
(qUs r1).bind fun r2=>
some (r2,(0:Int))):=CE
noncomputable def vEc:FN:={f:=276,cuts:=[],tab:=[],fm:=⟨true,[.val .bool []]⟩}
noncomputable def qYq (a0:Int):Option (Bool):=vEc.call [(.int .i64 a0)] []
theorem qZt (a0:Int):qYq a0=(
if (decide (a0<(-1:Int)))=true then
some (true)
else
some (decide (a0>(1073741824:Int)))):=CE
noncomputable def vG:FN:={f:=177,cuts:=[⟨(2,3),[0,1,7,8],false,false,[],[],[]⟩],tab:=[SS vEc],fm:=⟨true,[.val (.int .i64) []]⟩}
noncomputable def qCf (a0:List Int):Option (Int):=vG.call [(.sl (.int .i64) false a0),(.func 276 [])] []
noncomputable def qob (v0:List Int) (v7:Int) (v8:Int):Option (Int):=vG.sem ⟨[.code (cIn (cIn (qaa (qHa (qaa (qea wg 177)))))), .inLoop (cIn (cIn (qaa (qHa (qaa (qea wg 177)))))), .inBlock 0, .code (qaa (qaa (qea wg 177)))],⟨[(0,(.one (.sl (.int .i64) false v0))),(1,(.one (.func 276 []))),(7,(.one (.int .i64 v7))),(8,(.one (.int .i64 v8)))],[],8⟩⟩
theorem qbj (a0:List Int):qCf a0=(
qob a0 (wi (we a0)) (0:Int)):=CE
theorem qOd (v0:List Int) (v7:Int) (v8:Int):qob v0 v7 v8=(
if (decide (v8<v7))=true then
gd (0≤v8)<|
gd (v8<(wi (we v0)))<|
(qYq (wm v0 (wo v8) (0:Int))).bind fun r1=>
if r1=true then
some (v8)
else
qob v0 v7 (wd .i64 (v8+(1:Int)))
else
some (-1:Int)):=SE
noncomputable def vY:FN:={f:=141,cuts:=[],tab:=[SS vG],fm:=⟨true,[.val .bool []]⟩}
noncomputable def qNc (a0:List Int):Option (Bool):=vY.call [(.sl (.int .i64) false a0),(.func 276 [])] []
theorem qxh (a0:List Int):qNc a0=(
(qCf a0).bind fun r1=>
some (decide (r1≥(0:Int)))):=CE
noncomputable def vKa:FN:={f:=231,cuts:=[],tab:=[SS vib,SS vY],fm:=⟨true,[.val (.int .i64) []]⟩}
noncomputable def qoj (a0:qIa):Option (Int):=vKa.call [(.agg qgb (inj false qgb a0))] []
theorem qhy (a0:qIa):qoj a0=(
if (decide (a0.1<(0:Int)))=true then
some (8:Int)
else
if (decide (a0.1>(7:Int)))=true then
some (8:Int)
else
(qTj a0.1).bind fun r1=>
if ((wi (we a0.2.1)) != r1)=true then
some (8:Int)
else
(qNc a0.2.1).bind fun r2=>
if r2=true then
some (8:Int)
else
some (0:Int)):=CE
noncomputable def vC:FN:={f:=281,cuts:=[⟨(5,3),[0,3,4],false,false,[],[],[]⟩],tab:=[],fm:=⟨true,[.val (.int .i32) []]⟩}
noncomputable def qxd (a0:List Int):Option (Int):=vC.call [(.sl (.int .i32) false a0)] []
noncomputable def qUb (v0:List Int) (v3:Int) (v4:Int):Option (Int):=vC.sem ⟨[.code (cIn (cIn (qaa (qHa (qaa (qaa (qaa (qea wg 281)))))))), .inLoop (cIn (cIn (qaa (qHa (qaa (qaa (qaa (qea wg 281)))))))), .inBlock 0, .code (qaa (qaa (qaa (qaa (qea wg 281)))))],⟨[(0,(.one (.sl (.int .i32) false v0))),(3,(.one (.int .i32 v3))),(4,(.one (.int .i64 v4)))],[],8⟩⟩
theorem qhm (a0:List Int):qxd a0=(
letI c:=(wi (we a0))
if (decide (c<(1:Int)))=true then
none
else
gd (0≤(0:Int))<|
gd ((0:Int)<c)<|
qUb a0 (wm a0 0 (0:Int)) (1:Int)):=CE
theorem qhf (v0:List Int) (v3:Int) (v4:Int):qUb v0 v3 v4=(
letI d:=(wi (we v0))
if (decide (v4<d))=true then
gd (0≤v4)<|
gd (v4<d)<|
letI c:=(wm v0 (wo v4) (0:Int))
qUb v0 (if c<v3 then c else v3) (wd .i64 (v4+(1:Int)))
else
some (v3)):=SE
noncomputable def vE:FN:={f:=282,cuts:=[⟨(5,3),[0,3,4],false,false,[],[],[]⟩],tab:=[],fm:=⟨true,[.val (.int .i32) []]⟩}
noncomputable def qzd (a0:List Int):Option (Int):=vE.call [(.sl (.int .i32) false a0)] []
noncomputable def qWb (v0:List Int) (v3:Int) (v4:Int):Option (Int):=vE.sem ⟨[.code (cIn (cIn (qaa (qHa (qaa (qaa (qaa (qea wg 282)))))))), .inLoop (cIn (cIn (qaa (qHa (qaa (qaa (qaa (qea wg 282)))))))), .inBlock 0, .code (qaa (qaa (qaa (qaa (qea wg 282)))))],⟨[(0,(.one (.sl (.int .i32) false v0))),(3,(.one (.int .i32 v3))),(4,(.one (.int .i64 v4)))],[],8⟩⟩
theorem qjm (a0:List Int):qzd a0=(
letI c:=(wi (we a0))
if (decide (c<(1:Int)))=true then
none
else
gd (0≤(0:Int))<|
gd ((0:Int)<c)<|
qWb a0 (wm a0 0 (0:Int)) (1:Int)):=CE
theorem qjf (v0:List Int) (v3:Int) (v4:Int):qWb v0 v3 v4=(
letI d:=(wi (we v0))
if (decide (v4<d))=true then
gd (0≤v4)<|
gd (v4<d)<|
letI c:=(wm v0 (wo v4) (0:Int))
qWb v0 (if c>v3 then c else v3) (wd .i64 (v4+(1:Int)))
else
some (v3)):=SE
noncomputable def vPc:FN:={f:=278,cuts:=[],tab:=[SS vC,SS vE],fm:=⟨true,[.val .bool []]⟩}
noncomputable def qck (a0:List Int) (a1:Int):Option (Bool):=vPc.call [(.sl (.int .i32) false a0),(.int .i32 a1)] []
theorem qNv (a0:List Int) (a1:Int):qck a0 a1=(
if ((wi (we a0)) != (193:Int))=true then
some (true)
else
(qxd a0).bind fun r1=>
if (decide (r1<(0:Int)))=true then
some (true)
else
(qzd a0).bind fun r2=>
some (decide (r2>a1))):=CE
noncomputable def vfc:FN:={f:=234,cuts:=[],tab:=[SS vPc],fm:=⟨true,[.val (.int .i64) []]⟩}
noncomputable def qZn (a0:qqa):Option (Int):=vfc.call [(.agg qDa (inj false qDa a0))] []
theorem qoA (a0:qqa):qZn a0=(
if (decide (a0.1<(1:Int)))=true then
some (8:Int)
else
if (decide (a0.1>(1000:Int)))=true then
some (8:Int)
else
gd (0≤(1:Int))<|
gd ((1:Int)<(2:Int))<|
(qck a0.2.1 (wm G_targets 1 (0:Int))).bind fun r1=>
if r1=true then
some (8:Int)
else
(qck a0.2.2.1 a0.1).bind fun r2=>
if r2=true then
some (8:Int)
else
some (0:Int)):=CE
noncomputable def vnc:FN:={f:=233,cuts:=[],tab:=[SS vfc],fm:=⟨true,[.val .bool []]⟩}
noncomputable def qap (a0:qqa):Option (Bool):=vnc.call [(.agg qDa (inj false qDa a0))] []
theorem qqs (a0:qqa):qap a0=(
(qZn a0).bind fun r1=>
if (r1 != (0:Int))=true then
some (true)
else
some (a0.1 != (255:Int))):=CE
noncomputable def vj:FN:={f:=279,cuts:=[⟨(2,3),[0,1,7,8],false,false,[],[],[]⟩],tab:=[SS vnc],fm:=⟨true,[.val (.int .i64) []]⟩}
noncomputable def qmd (a0:List qqa):Option (Int):=vj.call [(.sl qDa false a0),(.func 233 [])] []
noncomputable def qZa (v0:List qqa) (v7:Int) (v8:Int):Option (Int):=vj.sem ⟨[.code (cIn (cIn (qaa (qHa (qaa (qea wg 279)))))), .inLoop (cIn (cIn (qaa (qHa (qaa (qea wg 279)))))), .inBlock 0, .code (qaa (qaa (qea wg 279)))],⟨[(0,(.one (.sl qDa false v0))),(1,(.one (.func 233 []))),(7,(.one (.int .i64 v7))),(8,(.one (.int .i64 v8)))],[],8⟩⟩
theorem qEf (a0:List qqa):qmd a0=(
qZa a0 (wi (we a0)) (0:Int)):=CE
theorem qwc (v0:List qqa) (v7:Int) (v8:Int):qZa v0 v7 v8=(
if (decide (v8<v7))=true then
gd (0≤v8)<|
gd (v8<(wi (we v0)))<|
(qap (wm v0 (wo v8) (qra qDa))).bind fun r1=>
if r1=true then
some (v8)
else
qZa v0 v7 (wd .i64 (v8+(1:Int)))
else
some (-1:Int)):=SE
noncomputable def vy:FN:={f:=235,cuts:=[],tab:=[SS vj],fm:=⟨true,[.val .bool []]⟩}
noncomputable def qHb (a0:List qqa):Option (Bool):=vy.call [(.sl qDa false a0),(.func 233 [])] []
theorem qUe (a0:List qqa):qHb a0=(
(qmd a0).bind fun r1=>
some (decide (r1≥(0:Int)))):=CE
noncomputable def vpb:FN:={f:=193,cuts:=[⟨(6,3),[1,53,54,55],false,false,[],[],[]⟩],tab:=[SS vv,SS vKa,SS vta,SS vy],fm:=⟨true,[.val .bool []]⟩}
noncomputable def qyn (a0:qia):Option (Bool):=vpb.call [(.agg qka (inj false qka a0))] []
noncomputable def qWe (v53:List qta) (v54:Int) (v55:Int) (b8:qia):Option (Bool):=vpb.sem ⟨[.code (cIn (cIn (qaa (qHa (qaa (qaa (qaa (qea wg 193)))))))), .inLoop (cIn (cIn (qaa (qHa (qaa (qaa (qaa (qea wg 193)))))))), .inBlock 0, .code (qaa (qaa (qaa (qaa (qea wg 193)))))],⟨[(1,(.one (.ptr qka 8 []))),(53,(.one (.sl qEa false v53))),(54,(.one (.int .i64 v54))),(55,(.one (.int .i64 v55)))],[(8,some (.box qka (inj false qka b8)))],9⟩⟩
theorem qkv (a0:qia):qyn a0=(
if (decide (a0.1<(0:Int)))=true then
some (false)
else
if (decide (a0.1>(7:Int)))=true then
some (false)
else
letI c:=(wi (we a0.2.2.1))
if (c != (6:Int))=true then
some (false)
else
if ((wi (we a0.2.2.2.1)) != (6:Int))=true then
some (false)
else
(qqe a0.2.1).bind fun r1=>
if (r1 != (0:Int))=true then
some (false)
else
if (a0.2.1.1 != a0.1)=true then
some (false)
else
(qoj a0.2.2.2.2.2.2.1).bind fun r2=>
if (r2 != (0:Int))=true then
some (false)
else
if (a0.2.2.2.2.2.2.1.1 != a0.1)=true then
some (false)
else
qWe a0.2.2.1 c (0:Int) a0):=CE
theorem qxk (v53:List qta) (v54:Int) (v55:Int) (b8:qia):qWe v53 v54 v55 b8=(
if (decide (v55<v54))=true then
gd (0≤v55)<|
gd (v55<(wi (we v53)))<|
letI e:=(wo v55)
letI c:=(wm v53 e (qra qEa))
(qrk c).bind fun r3=>
if (r3 != (0:Int))=true then
some (false)
else
if (c.1 != b8.1)=true then
some (false)
else
gd (0≤v55)<|
gd (v55<(6:Int))<|
letI d:=(wm b8.2.2.2.2.2.2.2.2.2.2.1 e (0:Int))
if (decide (d<(0:Int)))=true then
some (false)
else
gd (0≤v55)<|
gd (v55<(6:Int))<|
if (decide (d≥(wi (we c.2.1))))=true then
some (false)
else
qWe v53 v54 (wd .i64 (v55+(1:Int))) b8
else
(qHb b8.2.2.2.1).bind fun r4=>
some (not r4)):=SE
noncomputable def vTc:FN:={f:=236,cuts:=[],tab:=[],fm:=⟨true,[.val .bool []]⟩}
noncomputable def qCs (a0:List Int):Option (Bool):=vTc.call [(.sl (.int .i32) false a0)] []
theorem qpv (a0:List Int):qCs a0=(
some ((wi (we a0)) != (8:Int))):=CE
noncomputable def vB:FN:={f:=280,cuts:=[⟨(2,3),[0,1,7,8],false,false,[],[],[]⟩],tab:=[SS vTc],fm:=⟨true,[.val (.int .i64) []]⟩}
noncomputable def qlf (a0:List (List Int)):Option (Int):=vB.call [(.sl (.slice (.int .i32)) false a0),(.func 236 [])] []
noncomputable def qjb (v0:List (List Int)) (v7:Int) (v8:Int):Option (Int):=vB.sem ⟨[.code (cIn (cIn (qaa (qHa (qaa (qea wg 280)))))), .inLoop (cIn (cIn (qaa (qHa (qaa (qea wg 280)))))), .inBlock 0, .code (qaa (qaa (qea wg 280)))],⟨[(0,(.one (.sl (.slice (.int .i32)) false v0))),(1,(.one (.func 236 []))),(7,(.one (.int .i64 v7))),(8,(.one (.int .i64 v8)))],[],8⟩⟩
theorem qui (a0:List (List Int)):qlf a0=(
qjb a0 (wi (we a0)) (0:Int)):=CE
theorem qFd (v0:List (List Int)) (v7:Int) (v8:Int):qjb v0 v7 v8=(
if (decide (v8<v7))=true then
gd (0≤v8)<|
gd (v8<(wi (we v0)))<|
(qCs (wm v0 (wo v8) [])).bind fun r1=>
if r1=true then
some (v8)
else
qjb v0 v7 (wd .i64 (v8+(1:Int)))
else
some (-1:Int)):=SE
noncomputable def vV:FN:={f:=237,cuts:=[],tab:=[SS vB],fm:=⟨true,[.val .bool []]⟩}
noncomputable def qFc (a0:List (List Int)):Option (Bool):=vV.call [(.sl (.slice (.int .i32)) false a0),(.func 236 [])] []
theorem qoh (a0:List (List Int)):qFc a0=(
(qlf a0).bind fun r1=>
some (decide (r1≥(0:Int)))):=CE
noncomputable def vXb:FN:={f:=194,cuts:=[],tab:=[SS vV],fm:=⟨true,[.val (.int .i64) []]⟩}
noncomputable def qDn (a0:qza):Option (Int):=vXb.call [(.agg qBa (inj false qBa a0))] []
theorem qwz (a0:qza):qDn a0=(
letI c:=(wi (we a0.1))
if (decide (c<(1:Int)))=true then
some (8:Int)
else
if (decide (c>(256:Int)))=true then
some (8:Int)
else
(qFc a0.1).bind fun r1=>
if r1=true then
some (8:Int)
else
some (0:Int)):=CE
noncomputable def vNa:FN:={f:=238,cuts:=[⟨(4,3),[16,17,18],false,false,[],[],[]⟩],tab:=[SS vC,SS vE],fm:=⟨true,[.val (.int .i64) []]⟩}
noncomputable def qrl (a0:qza):Option (Int):=vNa.call [(.agg qBa (inj false qBa a0))] []
noncomputable def qJf (v16:List (List Int)) (v17:Int) (v18:Int):Option (Int):=vNa.sem ⟨[.code (cIn (cIn (qaa (qHa (qaa (qaa (qea wg 238))))))), .inLoop (cIn (cIn (qaa (qHa (qaa (qaa (qea wg 238))))))), .inBlock 0, .code (qaa (qaa (qaa (qea wg 238))))],⟨[(16,(.one (.sl (.slice (.int .i32)) false v16))),(17,(.one (.int .i64 v17))),(18,(.one (.int .i64 v18)))],[],8⟩⟩
theorem qRw (a0:qza):qrl a0=(
letI c:=(wi (we a0.1))
if (decide (c<(1:Int)))=true then
some (8:Int)
else
if (decide (c>(256:Int)))=true then
some (8:Int)
else
qJf a0.1 c (0:Int)):=CE
theorem qql (v16:List (List Int)) (v17:Int) (v18:Int):qJf v16 v17 v18=(
if (decide (v18<v17))=true then
gd (0≤v18)<|
gd (v18<(wi (we v16)))<|
letI c:=(wo v18)
if ((wi (we (wm v16 c []))) != (33:Int))=true then
some (8:Int)
else
(qxd (wm v16 c [])).bind fun r1=>
if (decide (r1<(0:Int)))=true then
some (8:Int)
else
(qzd (wm v16 c [])).bind fun r2=>
if (decide (r2>(65535:Int)))=true then
some (8:Int)
else
qJf v16 v17 (wd .i64 (v18+(1:Int)))
else
some (0:Int)):=SE
noncomputable def vsa:FN:={f:=195,cuts:=[⟨(2,3),[9,10,11],false,false,[],[],[]⟩],tab:=[SS vNa],fm:=⟨true,[.val (.int .i64) []]⟩}
noncomputable def qPk (a0:qSa):Option (Int):=vsa.call [(.agg qfc (inj false qfc a0))] []
noncomputable def qsm (v10:Int) (v11:Int) (h8:List qza):Option (Int):=vsa.sem ⟨[.code (cIn (cIn (qaa (qHa (qaa (qea wg 195)))))), .inLoop (cIn (cIn (qaa (qHa (qaa (qea wg 195)))))), .inBlock 0, .code (qaa (qaa (qea wg 195)))],⟨[(9,(.one (.ref qBa 8 0 (we h8) true))),(10,(.one (.int .i64 v10))),(11,(.one (.int .i64 v11)))],[(8,some (.row qBa false h8))],9⟩⟩
theorem qNz (a0:qSa):qPk a0=(
qsm (2:Int) (0:Int) [a0.1,a0.2.1]):=CE
theorem qzi (v10:Int) (v11:Int) (h8:List qza):qsm v10 v11 h8=(
if (decide (v11<v10))=true then
gd (0≤v11)<|
gd (v11<(wi (we h8)))<|
letI c:=(wm h8 (0+(wo v11)) (qra qBa))
(qrl c).bind fun r1=>
if (r1 != (0:Int))=true then
some (8:Int)
else
if ((wi (we c.1)) != (256:Int))=true then
some (8:Int)
else
qsm v10 (wd .i64 (v11+(1:Int))) h8
else
some (0:Int)):=SE
noncomputable def vcb:FN:={f:=196,cuts:=[],tab:=[SS vTb],fm:=⟨true,[.val (.int .i64) []]⟩}
noncomputable def qFk (a0:qha):Option (Int):=vcb.call [(.agg qsa (inj false qsa a0))] []
theorem qAz (a0:qha):qFk a0=(
(qGs).bind fun r1=>
if (peq qsa a0 r1)=true then
some (0:Int)
else
if (decide (a0.1≥(0:Int)))=true then
if (decide (a0.1≤(1073741824:Int)))=true then
if (decide (a0.2.1≥(1:Int)))=true then
if (decide (a0.2.1≤(40:Int)))=true then
some (0:Int)
else
some (8:Int)
else
some (8:Int)
else
some (8:Int)
else
some (8:Int)):=CE
noncomputable def vW:FN:={f:=197,cuts:=[],tab:=[],fm:=⟨true,[.val (.int .i64) []]⟩}
noncomputable def qNf (a0:qua):Option (Int):=vW.call [(.agg qKa (inj false qKa a0))] []
theorem qqx (a0:qua):qNf a0=(
if (decide (a0.1<(1:Int)))=true then
some (8:Int)
else
if (decide (a0.1>(255:Int)))=true then
some (8:Int)
else
some (0:Int)):=CE
noncomputable def vwb:FN:={f:=154,cuts:=[],tab:=[SS vpb,SS vXb,SS vsa,SS vcb,SS vW,SS vCa],fm:=⟨true,[.val (.int .i64) []]⟩}
noncomputable def qQj (a0:qia):Option (Int):=vwb.call [(.agg qka (inj false qka a0))] []
theorem qlv (a0:qia):qQj a0=(
(qyn a0).bind fun r1=>
if (not r1)=true then
some (8:Int)
else
(qDn a0.2.2.2.2.1).bind fun r2=>
if (r2 != (0:Int))=true then
some (8:Int)
else
if ((wi (we a0.2.2.2.2.1.1)) != (256:Int))=true then
some (8:Int)
else
(qPk a0.2.2.2.2.2.1).bind fun r3=>
if (r3 != (0:Int))=true then
some (8:Int)
else
(qFk a0.2.2.2.2.2.2.2.1).bind fun r4=>
if (r4 != (0:Int))=true then
some (8:Int)
else
(qNf a0.2.2.2.2.2.2.2.2.1).bind fun r5=>
if (r5 != (0:Int))=true then
some (8:Int)
else
(qgg a0.2.1).bind fun r6=>
if (not (peq (.arr 6 (.int .u32)) r6.1 a0.2.2.2.2.2.2.2.2.2.1))=true then
some (8:Int)
else
some (0:Int)):=CE
noncomputable def vqc:FN:={f:=176,cuts:=[],tab:=[],fm:=⟨true,[.val (.int .i64) []]⟩}
noncomputable def qhp (a0:Int):Option (Int):=vqc.call [(.int .u64 a0)] []
theorem qAl (a0:Int):qhp a0=(
if (decide (a0≥(4294967296:Int)))=true then
gd (0≤(32:Int))<|
letI c:=(wR a0 (4294967296:Int))
if (decide (c≥(65536:Int)))=true then
gd (0≤(16:Int))<|
letI e:=(wR c (65536:Int))
if (decide (e≥(256:Int)))=true then
gd (0≤(8:Int))<|
letI g:=(wd .u8 (wR e (256:Int)))
gd (0≤g)<|
gd (g<(t45Tab1.size:Int))<|
some (wd .i64 ((56:Int)+(wd .i64 (qbw t45Tab1 (wo g)))))
else
letI l:=(wd .u8 e)
gd (0≤l)<|
gd (l<(t45Tab1.size:Int))<|
some (wd .i64 ((48:Int)+(wd .i64 (qbw t45Tab1 (wo l)))))
else
if (decide (c≥(256:Int)))=true then
gd (0≤(8:Int))<|
letI i:=(wd .u8 (wR c (256:Int)))
gd (0≤i)<|
gd (i<(t45Tab1.size:Int))<|
some (wd .i64 ((40:Int)+(wd .i64 (qbw t45Tab1 (wo i)))))
else
letI m:=(wd .u8 c)
gd (0≤m)<|
gd (m<(t45Tab1.size:Int))<|
some (wd .i64 ((32:Int)+(wd .i64 (qbw t45Tab1 (wo m)))))
else
if (decide (a0≥(65536:Int)))=true then
gd (0≤(16:Int))<|
letI d:=(wR a0 (65536:Int))
if (decide (d≥(256:Int)))=true then
gd (0≤(8:Int))<|
letI j:=(wd .u8 (wR d (256:Int)))
gd (0≤j)<|
gd (j<(t45Tab1.size:Int))<|
some (wd .i64 ((24:Int)+(wd .i64 (qbw t45Tab1 (wo j)))))
else
letI n:=(wd .u8 d)
gd (0≤n)<|
gd (n<(t45Tab1.size:Int))<|
some (wd .i64 ((16:Int)+(wd .i64 (qbw t45Tab1 (wo n)))))
else
if (decide (a0≥(256:Int)))=true then
gd (0≤(8:Int))<|
letI f:=(wd .u8 (wR a0 (256:Int)))
gd (0≤f)<|
gd (f<(t45Tab1.size:Int))<|
some (wd .i64 ((8:Int)+(wd .i64 (qbw t45Tab1 (wo f)))))
else
letI k:=(wd .u8 a0)
gd (0≤k)<|
gd (k<(t45Tab1.size:Int))<|
some (wd .i64 ((0:Int)+(wd .i64 (qbw t45Tab1 (wo k)))))):=CE
noncomputable def vxa:FN:={f:=130,cuts:=[],tab:=[SS vqc],fm:=⟨true,[.val (.int .i64) []]⟩}
noncomputable def qLe (a0:Int):Option (Int):=vxa.call [(.int .u64 a0)] []
theorem qno (a0:Int):qLe a0=(
(qhp a0).bind fun r1=>
some (r1)):=CE
noncomputable def vxd:FN:={f:=239,cuts:=[],tab:=[SS vxa],fm:=⟨true,[.val (.int .i64) []]⟩}
noncomputable def qpx (a0:Int):Option (Int):=vxd.call [(.int .i64 a0)] []
theorem qnz (a0:Int):qpx a0=(
(qLe (wd .u64 a0)).bind fun r1=>
letI d:=(wd .i64 (r1 - (1:Int)))
if (decide (d<(4:Int)))=true then
some (a0)
else
letI e:=(wd .i64 (d - (4:Int)))
gd (0≤e)<|
letI c:=(wd .i64 (qzw .i64 (1:Int) e))
gd (c≠0)<|
some (wd .i64 (c+(wnb a0 c)))):=CE
noncomputable def vQd:FN:={f:=198,cuts:=[],tab:=[SS vW,SS vxd],fm:=⟨true,[.val (.int .i64) [], .val (.int .i64) []]⟩}
noncomputable def qtr (a0:qua):Option (Int×Int):=vQd.call [(.agg qKa (inj false qKa a0))] []
theorem qpz (a0:qua):qtr a0=(
(qNf a0).bind fun r1=>
if (r1 != (0:Int))=true then
some ((0:Int),r1)
else
(qpx a0.1).bind fun r2=>
some (r2,(0:Int))):=CE
noncomputable def vsd:FN:={f:=240,cuts:=[],tab:=[SS vta],fm:=⟨true,[.val (.int .i64) []]⟩}
noncomputable def qSv (a0:qta) (a1:Int) (a2:Int):Option (Int):=vsd.call [(.agg qEa (inj false qEa a0)),(.int .i64 a1),(.int .i64 a2)] []
theorem qxF (a0:qta) (a1:Int) (a2:Int):qSv a0 a1 a2=(
(qrk a0).bind fun r1=>
if (r1 != (0:Int))=true then
some (r1)
else
if (decide (a1<(0:Int)))=true then
some (2:Int)
else
if (decide (a1≥(wi (we a0.2.1))))=true then
some (2:Int)
else
if (decide (a2<(1:Int)))=true then
some (2:Int)
else
if (decide (a2>(15:Int)))=true then
some (2:Int)
else
some (0:Int)):=CE
noncomputable def vZc:FN:={f:=199,cuts:=[],tab:=[SS vsd],fm:=⟨true,[.val (.int .u8) [], .val (.int .i64) []]⟩}
noncomputable def qes (a0:qta) (a1:Int) (a2:Int):Option (Int×Int):=vZc.call [(.agg qEa (inj false qEa a0)),(.int .i64 a1),(.int .i64 a2)] []
theorem qaD (a0:qta) (a1:Int) (a2:Int):qes a0 a1 a2=(
(qSv a0 a1 a2).bind fun r1=>
if (r1 != (0:Int))=true then
some ((0:Int),r1)
else
gd (0≤a1)<|
gd (a1<(wi (we a0.2.1)))<|
letI c:=(wd .i64 (a2 - (1:Int)))
gd (0≤c)<|
gd (c<(15:Int))<|
some ((wm (wm a0.2.1 (wo a1) (qra qHc)).2.1 (wo c) (0:Int)),(0:Int))):=CE
noncomputable def vrd:FN:={f:=241,cuts:=[],tab:=[SS vfc],fm:=⟨true,[.val (.int .i64) []]⟩}
noncomputable def qdw (a0:qqa) (a1:Int):Option (Int):=vrd.call [(.agg qDa (inj false qDa a0)),(.int .u8 a1)] []
theorem qRG (a0:qqa) (a1:Int):qdw a0 a1=(
(qZn a0).bind fun r1=>
if (r1 != (0:Int))=true then
some (r1)
else
if (decide (a1≥(193:Int)))=true then
some (2:Int)
else
some (0:Int)):=CE
noncomputable def vxe:FN:={f:=200,cuts:=[],tab:=[SS vrd],fm:=⟨true,[.val (.int .i32) [], .val (.int .i64) []]⟩}
noncomputable def qSG (a0:qqa) (a1:Int):Option (Int×Int):=vxe.call [(.agg qDa (inj false qDa a0)),(.int .u8 a1)] []
theorem qbK (a0:qqa) (a1:Int):qSG a0 a1=(
(qdw a0 a1).bind fun r1=>
if (r1 != (0:Int))=true then
some ((0:Int),r1)
else
gd (0≤a1)<|
gd (a1<(wi (we a0.2.1)))<|
some ((wm a0.2.1 (wo a1) (0:Int)),(0:Int))):=CE
noncomputable def vWb:FN:={f:=243,cuts:=[],tab:=[SS vya],fm:=⟨true,[.val .bool [], .box 0 (.int .i32) []]⟩}
noncomputable def qfo (a0:Int) (b0:Int):Option (Bool×Int):=vWb.call [(.int .i64 a0),(.ptr (.int .i32) 0 [])] [(0,(.box (.int .i32) b0))]
theorem qhr (a0:Int) (b0:Int):qfo a0 b0=(
(qsh (wd .i32 ((wd .i32 a0) - (2047:Int)))).bind fun r1=>
some ((decide (r1≥b0)),b0)):=CE
noncomputable def vjc:FN:={f:=242,cuts:=[⟨(2,3),[1,5,6],false,false,[],[],[]⟩],tab:=[SS vWb],fm:=⟨true,[.val (.int .i64) [], .box 0 (.int .i32) []]⟩}
noncomputable def qvw (a0:Int) (b0:Int):Option (Int×Int):=vjc.call [(.int .i64 a0),(.func 243 [0])] [(0,(.box (.int .i32) b0))]
noncomputable def qvg (v5:Int) (v6:Int) (b0:Int):Option (Int×Int):=vjc.sem ⟨[.code (cIn (cIn (qHa (qaa (qaa (qea wg 242)))))), .inLoop (cIn (cIn (qHa (qaa (qaa (qea wg 242)))))), .inBlock 0, .code (qaa (qaa (qaa (qea wg 242))))],⟨[(1,(.one (.func 243 [0]))),(5,(.one (.int .i64 v5))),(6,(.one (.int .i64 v6)))],[(0,some (.box (.int .i32) b0))],9⟩⟩
theorem qez (a0:Int) (b0:Int):qvw a0 b0=(
qvg (0:Int) a0 b0):=CE
theorem qFm (v5:Int) (v6:Int) (b0:Int):qvg v5 v6 b0=(
if (decide (v5<v6))=true then
gd (0≤(1:Int))<|
letI c:=(wd .i64 (wR (wd .u64 (wd .i64 (v5+v6))) (2:Int)))
(qfo c b0).bind fun r1=>
if (not r1.1)=true then
qvg (wd .i64 (c+(1:Int))) v6 r1.2
else
qvg v5 c r1.2
else
some (v5,b0)):=SE
noncomputable def vtc:FN:={f:=201,cuts:=[],tab:=[SS vjc],fm:=⟨true,[.val (.int .i32) []]⟩}
noncomputable def qgm (a0:Int):Option (Int):=vtc.call [(.int .i32 a0)] []
theorem qtt (a0:Int):qgm a0=(
(qvw (4094:Int) a0).bind fun r1=>
some (wd .i32 ((wd .i32 r1.1) - (2047:Int)))):=CE
noncomputable def vye:FN:={f:=283,cuts:=[],tab:=[SS vv,SS vud],fm:=⟨true,[.val (.int .u8) [], .val .bool [], .val (.int .i64) []]⟩}
noncomputable def qJF (a0:qma) (a1:Int):Option (Int×Bool×Int):=vye.call [(.agg qna (inj false qna a0)),(.int .i64 a1)] []
theorem qdJ (a0:qma) (a1:Int):qJF a0 a1=(
(qqe a0).bind fun r1=>
if (r1 != (0:Int))=true then
some ((0:Int),(false,r1))
else
if (decide (a1<(0:Int)))=true then
some ((0:Int),(false,(2:Int)))
else
if (decide (a1≥a0.2.2.1))=true then
some ((0:Int),(false,(0:Int)))
else
letI c:=(wd .i64 (a0.2.2.1 - a1))
if (decide (c>(wi (we a0.2.1))))=true then
some ((0:Int),(false,(0:Int)))
else
(qVv a0 c).bind fun r2=>
some (r2,(true,(0:Int)))):=CE
noncomputable def vQb:FN:={f:=245,cuts:=[],tab:=[SS vye],fm:=⟨true,[.val (.int .u8) [], .val .bool []]⟩}
noncomputable def qCl (a0:qha) (a1:qma):Option (Int×Bool):=vQb.call [(.agg qsa (inj false qsa a0)),(.agg qna (inj false qna a1))] []
theorem qEx (a0:qha) (a1:qma):qCl a0 a1=(
if (decide (a0.1<(0:Int)))=true then
some ((0:Int),false)
else
(qJF a1 a0.1).bind fun r1=>
some (r1.1,r1.2.1)):=CE
noncomputable def vdc:FN:={f:=246,cuts:=[⟨(6,3),[1,5,6],false,false,[],[],[]⟩],tab:=[SS vW,SS vxa],fm:=⟨true,[.val (.slice .bool) [.nw], .val (.int .i64) []]⟩}
noncomputable def qur (a0:qua):Option (List Bool×Int):=vdc.call [(.agg qKa (inj false qKa a0))] []
noncomputable def qOi (v6:Int) (b8:qua) (h9:List Bool):Option (List Bool×Int):=vdc.sem ⟨[.code (cIn (cIn (qaa (qHa (qaa (qaa (qaa (qea wg 246)))))))), .inLoop (cIn (cIn (qaa (qHa (qaa (qaa (qaa (qea wg 246)))))))), .inBlock 0, .code (qaa (qaa (qaa (qaa (qea wg 246)))))],⟨[(1,(.one (.ptr qKa 8 []))),(5,(.one (.ref .bool 9 0 (we h9) true))),(6,(.one (.int .i64 v6)))],[(8,some (.box qKa (inj false qKa b8))),(9,some (.row .bool true h9))],10⟩⟩
theorem qqz (a0:qua):qur a0=(
(qNf a0).bind fun r1=>
if (r1 != (0:Int))=true then
some ([],r1)
else
(qLe (wd .u64 a0.1)).bind fun r2=>
qOi (wd .i64 (r2 - (2:Int))) a0 []):=CE
theorem qMm (v6:Int) (b8:qua) (h9:List Bool):qOi v6 b8 h9=(
if (decide (v6≥(0:Int)))=true then
gd (0≤v6)<|
letI c:=(h9++[((qUa .i64 (qZk .i64 b8.1 v6) (1:Int))==(1:Int))])
gd ((we c)*1≤140737488355328)<|
qOi (wd .i64 (v6 - (1:Int))) b8 c
else
some (h9,(0:Int))):=SE
noncomputable def vGd:FN:={f:=202,cuts:=[],tab:=[SS vcb,SS vv,SS vW,SS vQb,SS vdc],fm:=⟨true,[.val (.int .i32) [], .val (.int .i64) []]⟩}
noncomputable def qzr (a0:qha) (a1:qma) (a2:qua):Option (Int×Int):=vGd.call [(.agg qsa (inj false qsa a0)),(.agg qna (inj false qna a1)),(.agg qKa (inj false qKa a2))] []
theorem qzz (a0:qha) (a1:qma) (a2:qua):qzr a0 a1 a2=(
(qFk a0).bind fun r1=>
if (r1 != (0:Int))=true then
some ((0:Int),(8:Int))
else
(qqe a1).bind fun r2=>
if (r2 != (0:Int))=true then
some ((0:Int),(8:Int))
else
(qNf a2).bind fun r3=>
if (r3 != (0:Int))=true then
some ((0:Int),(8:Int))
else
(qCl a0 a1).bind fun r4=>
(qur a2).bind fun r5=>
if (not r4.2)=true then
some ((0:Int),(0:Int))
else
letI c:=(wi (we r5.1))
letI d:=(wd .i64 ((8:Int) - c))
gd (0≤d)<|
if ((qZk .i64 (wd .i64 ((256:Int)+(wd .i64 r4.1))) d) != a2.1)=true then
some ((0:Int),(0:Int))
else
letI e:=(wd .i64 ((7:Int) - c))
gd (0≤e)<|
if ((qUa .u8 (qZk .u8 r4.1 e) (1:Int))==(1:Int))=true then
some ((wd .i32 (wd .i64 ((50:Int)*a0.2.1))),(0:Int))
else
some ((wd .i32 (wd .i64 ((-50:Int)*a0.2.1))),(0:Int))):=CE
noncomputable def vDc:FN:={f:=249,cuts:=[],tab:=[],fm:=⟨true,[.val (.int .i32) []]⟩}
noncomputable def qhq (a0:Int):Option (Int):=vDc.call [(.int .i32 a0)] []
theorem qxB (a0:Int):qhq a0=(
some (if (if a0<(2047:Int) then a0 else (2047:Int))>(-2047:Int) then (if a0<(2047:Int) then a0 else (2047:Int)) else (-2047:Int))):=CE
noncomputable def vRc:FN:={f:=284,cuts:=[],tab:=[SS vDc],fm:=⟨true,[.val .bool []]⟩}
noncomputable def qAs (a0:Int):Option (Bool):=vRc.call [(.int .i32 a0)] []
theorem qmv (a0:Int):qAs a0=(
(qhq a0).bind fun r1=>
some (r1 != a0)):=CE
noncomputable def vu:FN:={f:=307,cuts:=[⟨(2,3),[0,1,7,8],false,false,[],[],[]⟩],tab:=[SS vRc],fm:=⟨true,[.val (.int .i64) []]⟩}
noncomputable def qpe (a0:List Int):Option (Int):=vu.call [(.sl (.int .i32) false a0),(.func 284 [])] []
noncomputable def qfb (v0:List Int) (v7:Int) (v8:Int):Option (Int):=vu.sem ⟨[.code (cIn (cIn (qaa (qHa (qaa (qea wg 307)))))), .inLoop (cIn (cIn (qaa (qHa (qaa (qea wg 307)))))), .inBlock 0, .code (qaa (qaa (qea wg 307)))],⟨[(0,(.one (.sl (.int .i32) false v0))),(1,(.one (.func 284 []))),(7,(.one (.int .i64 v7))),(8,(.one (.int .i64 v8)))],[],8⟩⟩
theorem qmh (a0:List Int):qpe a0=(
qfb a0 (wi (we a0)) (0:Int)):=CE
theorem qed (v0:List Int) (v7:Int) (v8:Int):qfb v0 v7 v8=(
if (decide (v8<v7))=true then
gd (0≤v8)<|
gd (v8<(wi (we v0)))<|
(qAs (wm v0 (wo v8) (0:Int))).bind fun r1=>
if r1=true then
some (v8)
else
qfb v0 v7 (wd .i64 (v8+(1:Int)))
else
some (-1:Int)):=SE
noncomputable def vL:FN:={f:=285,cuts:=[],tab:=[SS vu],fm:=⟨true,[.val .bool []]⟩}
noncomputable def qpc (a0:List Int):Option (Bool):=vL.call [(.sl (.int .i32) false a0),(.func 284 [])] []
theorem qqg (a0:List Int):qpc a0=(
(qpe a0).bind fun r1=>
some (decide (r1≥(0:Int)))):=CE
noncomputable def vYb:FN:={f:=247,cuts:=[],tab:=[SS vXb,SS vL],fm:=⟨true,[.val (.int .i64) []]⟩}
noncomputable def qCn (a0:qza) (a1:Int) (a2:List Int):Option (Int):=vYb.call [(.agg qBa (inj false qBa a0)),(.int .i64 a1),(.sl (.int .i32) false a2)] []
theorem qtz (a0:qza) (a1:Int) (a2:List Int):qCn a0 a1 a2=(
(qDn a0).bind fun r1=>
if (r1 != (0:Int))=true then
some (r1)
else
if (decide (a1<(0:Int)))=true then
some (2:Int)
else
if (decide (a1≥(wi (we a0.1))))=true then
some (2:Int)
else
if ((wi (we a2)) != (8:Int))=true then
some (2:Int)
else
(qpc a2).bind fun r2=>
if r2=true then
some (2:Int)
else
some (0:Int)):=CE
noncomputable def vad:FN:={f:=287,cuts:=[],tab:=[],fm:=⟨true,[.val (.int .i32) []]⟩}
noncomputable def qMs (a0:Int):Option (Int):=vad.call [(.int .i64 a0)] []
theorem qkE (a0:Int):qMs a0=(
some (wd .i32 (if (2147483647:Int)<(if (-2147483648:Int)>a0 then (-2147483648:Int) else a0) then (2147483647:Int) else (if (-2147483648:Int)>a0 then (-2147483648:Int) else a0)))):=CE
noncomputable def vXc:FN:={f:=248,cuts:=[⟨(7,3),[1,6,7,24,25,26],false,false,[],[],[]⟩],tab:=[qXE (fun _=>true),SS vad],fm:=⟨true,[.val (.int .i32) [], .val (.int .i64) []]⟩}
noncomputable def qey (a0:List Int) (a1:List Int):Option (Int×Int):=vXc.call [(.sl (.int .i32) false a0),(.sl (.int .i32) false a1)] []
noncomputable def qnj (v1:List Int) (v6:Int) (v7:Int) (v24:List Int) (v25:Int) (v26:Int):Option (Int×Int):=vXc.sem ⟨[.code (cIn (cIn (qaa (qHa (qaa (qaa (qaa (qaa (qea wg 248))))))))), .inLoop (cIn (cIn (qaa (qHa (qaa (qaa (qaa (qaa (qea wg 248))))))))), .inBlock 0, .code (qaa (qaa (qaa (qaa (qaa (qea wg 248))))))],⟨[(1,(.one (.sl (.int .i32) false v1))),(6,(.one (.int .i64 v6))),(7,(.one (.int .u64 v7))),(24,(.one (.sl (.int .i32) false v24))),(25,(.one (.int .i64 v25))),(26,(.one (.int .i64 v26)))],[],8⟩⟩
theorem qlE (a0:List Int) (a1:List Int):qey a0 a1=(
letI d:=(wi (we a1))
letI c:=(wi (we a0))
if (decide ((if d>c then d else c)>(16:Int)))=true then
some ((0:Int),(4:Int))
else
if (c != d)=true then
some ((0:Int),(2:Int))
else
qnj a1 (0:Int) (0:Int) a0 c (0:Int)):=CE
theorem qqp (v1:List Int) (v6:Int) (v7:Int) (v24:List Int) (v25:Int) (v26:Int):qnj v1 v6 v7 v24 v25 v26=(
if (decide (v26<v25))=true then
gd (0≤v26)<|
gd (v26<(wi (we v24)))<|
gd (0≤v26)<|
gd (v26<(wi (we v1)))<|
letI i:=(wo v26)
letI c:=(wd .i64 ((wd .i64 (wm v24 i (0:Int)))*(wd .i64 (wm v1 i (0:Int)))))
(qqq v7 (wd .u64 c) (0:Int)).bind fun r1=>
gd (0≤(63:Int))<|
qnj v1 (wd .i64 ((wd .i64 (v6+(wR c (9223372036854775808:Int))))+(wd .i64 r1.2))) r1.1 v24 v25 (wd .i64 (v26+(1:Int)))
else
if (decide (v6>(0:Int)))=true then
some ((2147483647:Int),(0:Int))
else
letI g:=(v6==(-1:Int))
letI f:=(decide (v6<(-1:Int)))
letI e:=(decide (v7≤(9223372036854775807:Int)))
letI d:=(qMs (wd .i64 v7))
if (v6==(0:Int))=true then
if (decide (v7>(9223372036854775807:Int)))=true then
some ((2147483647:Int),(0:Int))
else
if f=true then
some ((-2147483648:Int),(0:Int))
else
if g=true then
if e=true then
some ((-2147483648:Int),(0:Int))
else
d.bind fun r2=>
some (r2,(0:Int))
else
d.bind fun r3=>
some (r3,(0:Int))
else
if f=true then
some ((-2147483648:Int),(0:Int))
else
if g=true then
if e=true then
some ((-2147483648:Int),(0:Int))
else
d.bind fun r4=>
some (r4,(0:Int))
else
d.bind fun r5=>
some (r5,(0:Int))):=SE
noncomputable def vpe:FN:={f:=203,cuts:=[],tab:=[SS vYb,SS vXc,SS vDc,SS vya],fm:=⟨true,[.val (.int .i32) [], .val (.int .i32) [], .val (.int .i64) []]⟩}
noncomputable def qwx (a0:qza) (a1:Int) (a2:List Int):Option (Int×Int×Int):=vpe.call [(.agg qBa (inj false qBa a0)),(.int .i64 a1),(.sl (.int .i32) false a2)] []
theorem qOD (a0:qza) (a1:Int) (a2:List Int):qwx a0 a1 a2=(
(qCn a0 a1 a2).bind fun r1=>
if (r1 != (0:Int))=true then
some ((0:Int),((0:Int),r1))
else
gd (0≤a1)<|
gd (a1<(wi (we a0.1)))<|
(qey (wm a0.1 (wo a1) []) a2).bind fun r2=>
gd (0≤(16:Int))<|
(qhq (wR r2.1 (65536:Int))).bind fun r3=>
(qsh r3).bind fun r4=>
some (r3,(r4,(0:Int)))):=CE
noncomputable def vwc:FN:={f:=204,cuts:=[],tab:=[SS vv,SS vha],fm:=⟨true,[.val (.int .u8) [], .val (.int .u8) [], .val (.int .i64) []]⟩}
noncomputable def qxm (a0:qma):Option (Int×Int×Int):=vwc.call [(.agg qna (inj false qna a0))] []
theorem qju (a0:qma):qxm a0=(
(qqe a0).bind fun r1=>
if (r1 != (0:Int))=true then
some ((0:Int),((0:Int),r1))
else
(qrj a0 (2:Int)).bind fun r2=>
gd (0≤(1:Int))<|
letI c:=(wi (we r2))
gd ((1:Int)<c)<|
gd (0≤(0:Int))<|
gd ((0:Int)<c)<|
some ((wm r2 1 (0:Int)),((wm r2 0 (0:Int)),(0:Int)))):=CE
noncomputable def vee:FN:={f:=205,cuts:=[],tab:=[SS vSb,SS vJa],fm:=⟨true,[.val (.arr 2 (.int .i64)) [], .val (.int .i64) []]⟩}
noncomputable def qbu (a0:Int) (a1:Int) (a2:Int):Option ((List Int)×Int):=vee.call [(.int .u8 a0),(.int .u8 a1),(.int .i64 a2)] []
theorem qZB (a0:Int) (a1:Int) (a2:Int):qbu a0 a1 a2=(
letI c:=(wl 2 (0:Int))
if (decide (a2<(1:Int)))=true then
some (c,(2:Int))
else
if (decide (a2>(255:Int)))=true then
some (c,(2:Int))
else
(qYm (7:Int) [a1,a0,(wd .u8 a2)]).bind fun r1=>
(qmj r1.1 (256:Int)).bind fun r2=>
some ((wC (wC c 0 a2) 1 r2.1),(0:Int))):=CE
noncomputable def vMb:FN:={f:=288,cuts:=[],tab:=[SS vNa],fm:=⟨true,[.val (.int .i64) []]⟩}
noncomputable def qnl (a0:qza) (a1:Int):Option (Int):=vMb.call [(.agg qBa (inj false qBa a0)),(.int .i64 a1)] []
theorem qNw (a0:qza) (a1:Int):qnl a0 a1=(
(qrl a0).bind fun r1=>
if (r1 != (0:Int))=true then
some (r1)
else
if (decide (a1<(0:Int)))=true then
some (2:Int)
else
if (decide (a1≥(wi (we a0.1))))=true then
some (2:Int)
else
some (0:Int)):=CE
noncomputable def vPd:FN:={f:=251,cuts:=[],tab:=[SS vMb],fm:=⟨true,[.val (.int .i32) [], .val (.int .i64) [], .val (.int .i64) []]⟩}
noncomputable def qwn (a0:qza) (a1:Int) (a2:Int):Option (Int×Int×Int):=vPd.call [(.agg qBa (inj false qBa a0)),(.int .i64 a1),(.int .i32 a2)] []
theorem qjz (a0:qza) (a1:Int) (a2:Int):qwn a0 a1 a2=(
(qnl a0 a1).bind fun r1=>
if (r1 != (0:Int))=true then
some ((0:Int),((0:Int),r1))
else
if (decide (a2<(-2047:Int)))=true then
some ((0:Int),((0:Int),(2:Int)))
else
if (decide (a2>(2047:Int)))=true then
some ((0:Int),((0:Int),(2:Int)))
else
gd ((128:Int)≠0)<|
gd ((128:Int)≠0)<|
gd (0≤a1)<|
gd (a1<(wi (we a0.1)))<|
letI f:=(wd .i32 (a2+(2048:Int)))
letI c:=(wd .i64 (wFa (wd .i64 f) (128:Int)))
gd (0≤c)<|
letI g:=(wo a1)
gd (c<(wi (we (wm a0.1 g []))))<|
letI e:=(wd .i64 (c+(1:Int)))
gd (0≤e)<|
gd (e<(wi (we (wm a0.1 g []))))<|
gd ((2048:Int)≠0)<|
gd ((64:Int)≠0)<|
letI d:=(wnb f (128:Int))
some ((wd .i32 (wFa (wd .i32 ((wd .i32 ((wd .i32 ((128:Int) - d))*(wm (wm a0.1 g []) (wo c) (0:Int))))+(wd .i32 (d*(wm (wm a0.1 g []) (wo e) (0:Int)))))) (2048:Int))),((wd .i64 (c+(wd .i64 (wd .i32 (wFa d (64:Int)))))),(0:Int)))):=CE
noncomputable def vZd:FN:={f:=252,cuts:=[],tab:=[],fm:=⟨true,[.val .bool []]⟩}
noncomputable def qau (a0:Int):Option (Bool):=vZd.call [(.int .i32 a0)] []
theorem qYB (a0:Int):qau a0=(
if (decide (a0≥(0:Int)))=true then
some (decide (a0≤(4095:Int)))
else
some (false)):=CE
noncomputable def vXd:FN:={f:=253,cuts:=[],tab:=[],fm:=⟨true,[.val (.int .i32) []]⟩}
noncomputable def qIA (a0:Int) (a1:Int) (a2:Int):Option (Int):=vXd.call [(.int .i32 a0),(.int .i32 a1),(.int .i32 a2)] []
theorem qOs (a0:Int) (a1:Int) (a2:Int):qIA a0 a1 a2=(
gd ((4:Int)≠0)<|
gd ((2:Int)≠0)<|
gd ((2:Int)≠0)<|
letI c:=(wd .i32 (wFa (wd .i32 ((wd .i32 ((wd .i32 (wFa (wd .i32 (a0+(wd .i32 ((3:Int)*a1)))) (4:Int)))+(wd .i32 (wFa (wd .i32 (a0+a2)) (2:Int)))))+(1:Int))) (2:Int)))
some (if (if c<(4095:Int) then c else (4095:Int))>(1:Int) then (if c<(4095:Int) then c else (4095:Int)) else (1:Int))):=CE
noncomputable def vVd:FN:={f:=206,cuts:=[],tab:=[SS vsa,SS vPd,SS vZd,SS vXd],fm:=⟨true,[.val (.int .i32) [], .val qkh [], .val (.int .i64) []]⟩}
noncomputable def qkq (a0:qSa) (a1:(List Int)) (a2:Int) (a3:Int):Option (Int×qxc×Int):=vVd.call [(.agg qfc (inj false qfc a0)),(.agg (.arr 2 (.int .i64)) a1),(.int .i32 a2),(.int .i32 a3)] []
theorem qPs (a0:qSa) (a1:(List Int)) (a2:Int) (a3:Int):qkq a0 a1 a2 a3=(
(qPk a0).bind fun r1=>
letI c:=(wl 2 (0:Int))
if (r1 != (0:Int))=true then
some ((0:Int),((c,(c,())),r1))
else
gd (0≤(0:Int))<|
gd ((0:Int)<(2:Int))<|
(qwn a0.1 (wm a1 0 (0:Int)) a2).bind fun r2=>
gd (0≤(1:Int))<|
gd ((1:Int)<(2:Int))<|
(qwn a0.2.1 (wm a1 1 (0:Int)) a2).bind fun r3=>
if (r2.2.2 != (0:Int))=true then
some ((0:Int),((c,(c,())),(2:Int)))
else
if (r3.2.2 != (0:Int))=true then
some ((0:Int),((c,(c,())),(2:Int)))
else
(qau a3).bind fun r4=>
if (not r4)=true then
some ((0:Int),((c,(c,())),(2:Int)))
else
(qIA a3 r2.1 r3.1).bind fun r5=>
some (r5,((a1,((wC (wC c 0 r2.2.1) 1 r3.2.1),())),(0:Int)))):=CE
noncomputable def vdb:FN:={f:=155,cuts:=[⟨(4,3),[1,2,3,28,29,30],false,false,[],[],[]⟩],tab:=[SS vQd,SS vZc,SS vxe,SS vtc,SS vGd,SS vpe,SS vwc,SS vee,SS vVd],fm:=⟨true,[.val qsc []]⟩}
noncomputable def qvi (a0:qia):Option (qMc):=vdb.call [(.agg qka (inj false qka a0))] []
noncomputable def qbe (v28:List qta) (v29:Int) (v30:Int) (b8:qia) (b9a:Int) (b9bbb:(Int×(Int×(qxc×Unit)))) (b10a:Int) (b10bbb:(Int×(Int×(qxc×Unit)))) (h11:List Int) (h12:List Int) (h13:List Int) (h14:List Int):Option (qMc):=vdb.sem ⟨[.code (cIn (cIn (qaa (qHa (qaa (qaa (qaa (qea wg 155)))))))), .inLoop (cIn (cIn (qaa (qHa (qaa (qaa (qaa (qea wg 155)))))))), .inBlock 0, .code (qaa (qaa (qaa (qaa (qea wg 155)))))],⟨[(1,(.one (.ptr qka 8 []))),(2,(.one (.ptr qsc 9 []))),(3,(.one (.ptr qsc 10 []))),(28,(.one (.sl qEa false v28))),(29,(.one (.int .i64 v29))),(30,(.one (.int .i64 v30)))],[(8,some (.box qka (inj false qka b8))),(9,some (.box qsc (b9a,((SV.ref 11 0 (we h11) true),((SV.ref 12 0 (we h12) true),(inj false (.pair (.int .i32) (.pair (.int .i32) (.pair qkh .unit))) b9bbb)))))),(10,some (.box qsc (b10a,((SV.ref 13 0 (we h13) true),((SV.ref 14 0 (we h14) true),(inj false (.pair (.int .i32) (.pair (.int .i32) (.pair qkh .unit))) b10bbb)))))),(11,some (.row (.int .u8) true h11)),(12,some (.row (.int .i32) true h12)),(13,some (.row (.int .u8) true h13)),(14,some (.row (.int .i32) true h14))],15⟩⟩
theorem qJq (a0:qia):qvi a0=(
(qtr a0.2.2.2.2.2.2.2.2.1).bind fun r1=>
letI c:=(wl 2 (0:Int))
qbe a0.2.2.1 (wi (we a0.2.2.1)) (0:Int) a0 (0:Int) ((0:Int),((0:Int),((c,(c,())),()))) r1.1 ((0:Int),((0:Int),((c,(c,())),()))) [] [] [] []):=CE
theorem qcg (v28:List qta) (v29:Int) (v30:Int) (b8:qia) (b9a:Int) (b9bbb:(Int×(Int×(qxc×Unit)))) (b10a:Int) (b10bbb:(Int×(Int×(qxc×Unit)))) (h11:List Int) (h12:List Int) (h13:List Int) (h14:List Int):qbe v28 v29 v30 b8 b9a b9bbb b10a b10bbb h11 h12 h13 h14=(
if (decide (v30<v29))=true then
gd (0≤v30)<|
gd (v30<(wi (we v28)))<|
gd (0≤v30)<|
gd (v30<(6:Int))<|
letI d:=(wo v30)
(qes (wm v28 d (qra qEa)) (wm b8.2.2.2.2.2.2.2.2.2.2.1 d (0:Int)) b10a).bind fun r2=>
gd (0≤v30)<|
gd (v30<(wi (we b8.2.2.2.1)))<|
(qSG (wm b8.2.2.2.1 d (qra qDa)) r2.1).bind fun r3=>
letI e:=(h13++[r2.1])
gd ((we e)*1≤140737488355328)<|
gd ((16:Int)≠0)<|
(qgm (wd .i32 (wFa r3.1 (16:Int)))).bind fun r4=>
gd ((we (h14++[r4]))*4≤140737488355328)<|
qbe v28 v29 (wd .i64 (v30+(1:Int))) b8 b9a b9bbb b10a b10bbb h11 h12 e (h14++[r4])
else
(qzr b8.2.2.2.2.2.2.2.1 b8.2.1 b8.2.2.2.2.2.2.2.2.1).bind fun r5=>
letI c:=(h14++[r5.1,(256:Int)])
gd ((we c)*4≤140737488355328)<|
(qwx b8.2.2.2.2.1 b8.2.2.2.2.2.2.2.2.1.1 c).bind fun r6=>
(qxm b8.2.1).bind fun r7=>
(qbu r7.1 r7.2.1 b8.2.2.2.2.2.2.2.2.1.1).bind fun r8=>
(qkq b8.2.2.2.2.2.1 r8.1 r6.1 r6.2.1).bind fun r9=>
some (b10a,(h13,(c,(r6.2.1,(r9.1,(r9.2.1,b10bbb.2.2.2))))))):=SE
noncomputable def voe:FN:={f:=120,cuts:=[],tab:=[SS vwb,SS vdb],fm:=⟨true,[.val (.int .i64) [], .val (.int .i64) []]⟩}
noncomputable def qax (a0:qia):Option (Int×Int):=voe.call [(.agg qka (inj false qka a0))] []
theorem qxD (a0:qia):qax a0=(
(qQj a0).bind fun r1=>
if (r1 != (0:Int))=true then
some ((0:Int),r1)
else
(qvi a0).bind fun r2=>
some ((wd .i64 r2.2.2.2.2.1),(0:Int))):=CE
noncomputable def vKc:FN:={f:=156,cuts:=[],tab:=[],fm:=⟨true,[.val (.int .i64) []]⟩}
noncomputable def qVs (a0:qMa):Option (Int):=vKc.call [(.agg qNa (inj false qNa a0))] []
theorem qHv (a0:qMa):qVs a0=(
if (decide (a0.1≥a0.2.1))=true then
some (8:Int)
else
gd (0≤(24:Int))<|
gd (0≤(24:Int))<|
if ((wR a0.1 (16777216:Int))==(wR a0.2.1 (16777216:Int)))=true then
some (8:Int)
else
if (decide (a0.2.2.1<a0.1))=true then
some (8:Int)
else
if (decide (a0.2.2.1>a0.2.1))=true then
some (8:Int)
else
if (decide ((wi (we a0.2.2.2.1))>(20000:Int)))=true then
some (8:Int)
else
if (decide (a0.2.2.2.2.1<(4:Int)))=true then
some (8:Int)
else
if (decide (a0.2.2.2.2.1>(1000000:Int)))=true then
some (8:Int)
else
some (0:Int)):=CE
noncomputable def vHc:FN:={f:=157,cuts:=[],tab:=[],fm:=⟨true,[.val .bool []]⟩}
noncomputable def qTs (a0:Int):Option (Bool):=vHc.call [(.int .i64 a0)] []
theorem qFv (a0:Int):qTs a0=(
if (decide (a0<(0:Int)))=true then
some (true)
else
some (decide (a0>(4095:Int)))):=CE
noncomputable def vPb:FN:={f:=163,cuts:=[],tab:=[],fm:=⟨true,[.val .bool []]⟩}
noncomputable def qqj (a0:Int):Option (Bool):=vPb.call [(.int .i64 a0)] []
theorem qup (a0:Int):qqj a0=(
if (decide (a0≥(0:Int)))=true then
some (decide (a0≤(4095:Int)))
else
some (false)):=CE
noncomputable def vrb:FN:={f:=211,cuts:=[],tab:=[],fm:=⟨true,[.val (.int .u32) []]⟩}
noncomputable def qOh (a0:Int) (a1:Int) (a2:Int):Option (Int):=vrb.call [(.int .u32 a0),(.int .u32 a1),(.int .i64 a2)] []
theorem qto (a0:Int) (a1:Int) (a2:Int):qOh a0 a1 a2=(
gd (0≤(12:Int))<|
gd (0≤(12:Int))<|
letI d:=(wd .u32 a2)
letI c:=(wd .u32 (a1 - a0))
some (wd .u32 ((wd .u32 (a0+(wd .u32 ((wR c (4096:Int))*d))))+(wR (wd .u32 ((qUa .u32 c (4095:Int))*d)) (4096:Int))))):=CE
noncomputable def vIc:FN:={f:=207,cuts:=[],tab:=[SS vPb,SS vrb],fm:=⟨true,[.val (.int .u32) [], .val (.int .i64) []]⟩}
noncomputable def qPn (a0:Int) (a1:Int) (a2:Int):Option (Int×Int):=vIc.call [(.int .u32 a0),(.int .u32 a1),(.int .i64 a2)] []
theorem qDv (a0:Int) (a1:Int) (a2:Int):qPn a0 a1 a2=(
if (decide (a0≥a1))=true then
some ((0:Int),(2:Int))
else
(qqj a2).bind fun r1=>
if (not r1)=true then
some ((0:Int),(2:Int))
else
(qOh a0 a1 a2).bind fun r2=>
some (r2,(0:Int))):=CE
noncomputable def vbc:FN:={f:=158,cuts:=[⟨(6,3),[0,7],false,false,[],[],[]⟩],tab:=[SS vIc,SS vvc],fm:=⟨false,[.val .bool [], .box 0 qNa [.pu]]⟩}
noncomputable def quy (a1:Int) (b0:qMa):Option (Bool×qMa):=vbc.call [(.ptr qNa 0 []),(.int .i64 a1)] [(0,(.box qNa (inj false qNa b0)))]
noncomputable def qCg (v7:Bool) (b0:qMa):Option (Bool×qMa):=vbc.sem ⟨[.code (cIn (cIn (qHa (qaa (qaa (qaa (qaa (qea wg 158)))))))), .inLoop (cIn (cIn (qHa (qaa (qaa (qaa (qaa (qea wg 158)))))))), .inBlock 0, .code (qaa (qaa (qaa (qaa (qaa (qea wg 158))))))],⟨[(0,(.one (.ptr qNa 0 []))),(7,(.one (.bool v7)))],[(0,some (.box qNa (inj false qNa b0)))],9⟩⟩
theorem qaA (a1:Int) (b0:qMa):quy a1 b0=(
(qPn b0.1 b0.2.1 a1).bind fun r1=>
letI c:=(decide (b0.2.2.1≤r1.1))
if c=true then
qCg c (b0.1,(r1.1,b0.2.2))
else
qCg c ((wd .u32 (r1.1+(1:Int))),b0.2)):=CE
theorem qcn (v7:Bool) (b0:qMa):qCg v7 b0=(
gd (0≤(24:Int))<|
gd (0≤(24:Int))<|
if ((wR b0.1 (16777216:Int))==(wR b0.2.1 (16777216:Int)))=true then
gd (0≤(8:Int))<|
gd (0≤(8:Int))<|
gd (0≤(8:Int))<|
(qnq b0.2.2.2.1 b0.2.2.2.2.1).bind fun r2=>
qCg v7 ((wd .u32 (b0.1*(256:Int))),((qrc .u32 (wd .u32 (b0.2.1*(256:Int))) (255:Int)),((qrc .u32 (wd .u32 (b0.2.2.1*(256:Int))) (wd .u32 r2)),(b0.2.2.2.1,((wd .i64 (b0.2.2.2.2.1+(1:Int))),b0.2.2.2.2.2)))))
else
some (v7,b0)):=SE
noncomputable def vNd:FN:={f:=121,cuts:=[],tab:=[SS vKc,SS vHc,SS ve,(SS vbc).dropping],fm:=⟨false,[.val qNa [], .val .bool [], .val (.int .i64) []]⟩}
noncomputable def qNr (a0:qMa) (a1:Int):Option (qMa×Bool×Int):=vNd.call [(.agg qNa (inj false qNa a0)),(.int .i64 a1)] []
theorem qbA (a0:qMa) (a1:Int):qNr a0 a1=(
(qVs a0).bind fun r1=>
if (r1 != (0:Int))=true then
some (((0:Int),((0:Int),((0:Int),([],((0:Int),()))))),(false,r1))
else
(qTs a1).bind fun r2=>
if r2=true then
some (((0:Int),((0:Int),((0:Int),([],((0:Int),()))))),(false,(2:Int)))
else
(qxb a0.2.2.2.1).bind fun r3=>
(quy a1 (a0.1,(a0.2.1,(a0.2.2.1,(r3,a0.2.2.2.2))))).bind fun r4=>
if (decide (r4.2.2.2.2.2.1>(1000000:Int)))=true then
some (((0:Int),((0:Int),((0:Int),([],((0:Int),()))))),(false,(4:Int)))
else
some (r4.2,(r4.1,(0:Int)))):=CE
noncomputable def vea:FN:={f:=254,cuts:=[],tab:=[],fm:=⟨true,[.val (.slice (.int .i64)) [.nw]]⟩}
noncomputable def qge (a0:List Int):Option (List Int):=vea.call [(.sl (.int .i64) false a0)] []
theorem qrn (a0:List Int):qge a0=(
qaF (fun (r1:Bool)=>r1=true→a0=[]) fun (r1:Bool)=>
if r1=true then
some ([])
else
gd ((we ([]++a0))*8≤140737488355328)<|
some ([]++a0)):=CE
noncomputable def vo:FN:={f:=255,cuts:=[],tab:=[],fm:=⟨false,[.val (.slice qEa) [.nw]]⟩}
noncomputable def qEb (a0:List qta):Option (List qta):=vo.call [(.sl qEa false a0)] []
theorem qNg (a0:List qta):qEb a0=(
qaF (fun (r1:Bool)=>r1=true→a0=[]) fun (r1:Bool)=>
if r1=true then
some ([])
else
gd ((we ([]++a0))*32≤140737488355328)<|
some ([]++a0)):=CE
noncomputable def vp:FN:={f:=256,cuts:=[],tab:=[],fm:=⟨false,[.val (.slice qDa) [.nw]]⟩}
noncomputable def qFb (a0:List qqa):Option (List qqa):=vp.call [(.sl qDa false a0)] []
theorem qPg (a0:List qqa):qFb a0=(
qaF (fun (r1:Bool)=>r1=true→a0=[]) fun (r1:Bool)=>
if r1=true then
some ([])
else
gd ((we ([]++a0))*56≤140737488355328)<|
some ([]++a0)):=CE
noncomputable def vOb:FN:={f:=259,cuts:=[⟨(3,3),[3,6,7,8],false,false,[],[],[]⟩],tab:=[SS vb],fm:=⟨true,[.val (.slice (.slice (.int .i32))) [.nw]]⟩}
noncomputable def qej (a0:List (List Int)):Option (List (List Int)):=vOb.call [(.sl (.slice (.int .i32)) false a0)] []
noncomputable def qLf (v6:List (List Int)) (v7:Int) (v8:Int) (h8:List (List Int)):Option (List (List Int)):=vOb.sem ⟨[.code (cIn (cIn (qaa (qHa (qaa (qaa (qea wg 259))))))), .inLoop (cIn (cIn (qaa (qHa (qaa (qaa (qea wg 259))))))), .inBlock 0, .code (qaa (qaa (qaa (qea wg 259))))],⟨[(3,(.one (.ref (.slice (.int .i32)) 8 0 (we h8) true))),(6,(.one (.sl (.slice (.int .i32)) false v6))),(7,(.one (.int .i64 v7))),(8,(.one (.int .i64 v8)))],[(8,some (.row (.slice (.int .i32)) true h8))],9⟩⟩
theorem qZw (a0:List (List Int)):qej a0=(
qLf a0 (wi (we a0)) (0:Int) []):=CE
theorem qtl (v6:List (List Int)) (v7:Int) (v8:Int) (h8:List (List Int)):qLf v6 v7 v8 h8=(
if (decide (v8<v7))=true then
gd (0≤v8)<|
gd (v8<(wi (we v6)))<|
(qTa (wm v6 (wo v8) [])).bind fun r1=>
gd ((we (h8++[r1]))*24≤140737488355328)<|
qLf v6 v7 (wd .i64 (v8+(1:Int))) (h8++[r1])
else
some (h8)):=SE
noncomputable def vKb:FN:={f:=208,cuts:=[⟨(5,3),[1,2,26,27],false,false,[],[],[]⟩],tab:=[SS ve,SS vea,(SS vo).dropping,(SS vp).dropping,SS vh,SS vb,SS vOb],fm:=⟨false,[.val qka []]⟩}
noncomputable def qZo (a0:qia):Option (qia):=vKb.call [(.agg qka (inj false qka a0))] []
noncomputable def qKf (v26:Int) (v27:Int) (b8a:Int) (b8baa:Int) (b8babb:qua) (b8bbbba:qza) (b8bbbbba:qSa) (b8bbbbbbaa:Int) (b8bbbbbbabb:Unit) (b8bbbbbbb:(qha×(qua×((List Int)×((List Int)×Unit))))) (b9a:Int) (b9baa:Int) (b9babb:qua) (b9bbbbab:Unit) (b9bbbbbaab:Unit) (b9bbbbbabab:Unit) (b9bbbbbabb:Unit) (b9bbbbbbaa:Int) (b9bbbbbbabb:Unit) (b9bbbbbbb:(qha×(qua×((List Int)×((List Int)×Unit))))) (h10:List Int) (h11:List qta) (h12:List qqa) (h13:List Int) (h14:List Int) (h15:List qta) (h16:List qqa) (h17:List (List Int)) (h18:List (List Int)) (h19:List (List Int)) (h20:List Int):Option (qia):=vKb.sem ⟨[.code (cIn (cIn (qaa (qHa (qaa (qaa (qaa (qaa (qea wg 208))))))))), .inLoop (cIn (cIn (qaa (qHa (qaa (qaa (qaa (qaa (qea wg 208))))))))), .inBlock 0, .code (qaa (qaa (qaa (qaa (qaa (qea wg 208))))))],⟨[(1,(.one (.ptr qka 8 []))),(2,(.one (.ptr qka 9 []))),(26,(.one (.int .i64 v26))),(27,(.one (.int .i64 v27)))],[(8,some (.box qka (b8a,((b8baa,((SV.ref 10 0 (we h10) true),(inj false qKa b8babb))),((SV.ref 11 0 (we h11) true),((SV.ref 12 0 (we h12) true),((inj false qBa b8bbbba),((inj false qfc b8bbbbba),((b8bbbbbbaa,((SV.ref 13 0 (we h13) true),b8bbbbbbabb)),(inj false (.pair qsa (.pair qKa (.pair (.arr 6 (.int .u32)) (.pair (.arr 6 (.int .i64)) .unit)))) b8bbbbbbb)))))))))),(9,some (.box qka (b9a,((b9baa,((SV.ref 14 0 (we h14) true),(inj false qKa b9babb))),((SV.ref 15 0 (we h15) true),((SV.ref 16 0 (we h16) true),(((SV.ref 17 0 (we h17) true),b9bbbbab),((((SV.ref 18 0 (we h18) true),b9bbbbbaab),(((SV.ref 19 0 (we h19) true),b9bbbbbabab),b9bbbbbabb)),((b9bbbbbbaa,((SV.ref 20 0 (we h20) true),b9bbbbbbabb)),(inj false (.pair qsa (.pair qKa (.pair (.arr 6 (.int .u32)) (.pair (.arr 6 (.int .i64)) .unit)))) b9bbbbbbb)))))))))),(10,some (.row (.int .u8) true h10)),(11,some (.row qEa false h11)),(12,some (.row qDa false h12)),(13,some (.row (.int .i64) true h13)),(14,some (.row (.int .u8) true h14)),(15,some (.row qEa true h15)),(16,some (.row qDa true h16)),(17,some (.row (.slice (.int .i32)) true h17)),(18,some (.row (.slice (.int .i32)) true h18)),(19,some (.row (.slice (.int .i32)) true h19)),(20,some (.row (.int .i64) true h20))],21⟩⟩
theorem qYw (a0:qia):qZo a0=(
(qxb a0.2.1.2.1).bind fun r1=>
(qge a0.2.2.2.2.2.2.1.2.1).bind fun r2=>
(qEb a0.2.2.1).bind fun r3=>
(qFb a0.2.2.2.1).bind fun r4=>
letI c:=(wl 6 (0:Int))
qKf (wi (we r3)) (0:Int) a0.1 a0.2.1.1 a0.2.1.2.2 a0.2.2.2.2.1 a0.2.2.2.2.2.1 a0.2.2.2.2.2.2.1.1 a0.2.2.2.2.2.2.1.2.2 a0.2.2.2.2.2.2.2 (0:Int) (0:Int) ((0:Int),()) () () () () (0:Int) () (((0:Int),((0:Int),())),(((0:Int),()),(c,(c,())))) r1 r3 r4 r2 [] [] [] [] [] [] []):=CE
theorem qsl (v26:Int) (v27:Int) (b8a:Int) (b8baa:Int) (b8babb:qua) (b8bbbba:qza) (b8bbbbba:qSa) (b8bbbbbbaa:Int) (b8bbbbbbabb:Unit) (b8bbbbbbb:(qha×(qua×((List Int)×((List Int)×Unit))))) (b9a:Int) (b9baa:Int) (b9babb:qua) (b9bbbbab:Unit) (b9bbbbbaab:Unit) (b9bbbbbabab:Unit) (b9bbbbbabb:Unit) (b9bbbbbbaa:Int) (b9bbbbbbabb:Unit) (b9bbbbbbb:(qha×(qua×((List Int)×((List Int)×Unit))))) (h10:List Int) (h11:List qta) (h12:List qqa) (h13:List Int) (h14:List Int) (h15:List qta) (h16:List qqa) (h17:List (List Int)) (h18:List (List Int)) (h19:List (List Int)) (h20:List Int):qKf v26 v27 b8a b8baa b8babb b8bbbba b8bbbbba b8bbbbbbaa b8bbbbbbabb b8bbbbbbb b9a b9baa b9babb b9bbbbab b9bbbbbaab b9bbbbbabab b9bbbbbabb b9bbbbbbaa b9bbbbbbabb b9bbbbbbb h10 h11 h12 h13 h14 h15 h16 h17 h18 h19 h20=(
if (decide (v27<v26))=true then
gd (0≤v27)<|
letI j:=(wi (we h11))
gd (v27<j)<|
letI d:=(0+(wo v27))
letI g:=(wm h11 d (qra qEa))
(qpb g.2.1).bind fun r5=>
gd (0≤v27)<|
gd (v27<j)<|
gd (0≤v27)<|
letI f:=(wi (we h12))
gd (v27<f)<|
letI k:=(qra qDa)
letI c:=(wm h12 d k)
(qTa c.2.1).bind fun r6=>
gd (0≤v27)<|
gd (v27<f)<|
(qTa c.2.2.1).bind fun r7=>
gd (0≤v27)<|
gd (v27<f)<|
gd (0≤v27)<|
gd (v27<f)<|
letI i:=(wC h12 d (c.1,(r6,c.2.2)))
letI e:=(wm i d k)
qKf v26 (wd .i64 (v27+(1:Int))) b8a b8baa b8babb b8bbbba b8bbbbba b8bbbbbbaa b8bbbbbbabb b8bbbbbbb b9a b9baa b9babb b9bbbbab b9bbbbbaab b9bbbbbabab b9bbbbbabb b9bbbbbbaa b9bbbbbbabb b9bbbbbbb h10 (wC h11 d (g.1,(r5,g.2.2))) (wC i d (e.1,(e.2.1,(r7,e.2.2.2)))) h13 h14 h15 h16 h17 h18 h19 h20
else
(qej b8bbbba.1).bind fun r8=>
(qej b8bbbbba.1.1).bind fun r9=>
(qej b8bbbbba.2.1.1).bind fun r10=>
some (b8a,((b8baa,(h10,b8babb)),(h11,(h12,((r8,b8bbbba.2),(((r9,b8bbbbba.1.2),((r10,b8bbbbba.2.1.2),b8bbbbba.2.2)),((b8bbbbbbaa,(h13,b8bbbbbbabb)),b8bbbbbbb)))))))):=SE
noncomputable def vae:FN:={f:=289,cuts:=[],tab:=[SS vb],fm:=⟨true,[.val qDa [.nw, .nw]]⟩}
noncomputable def qtu (a0:qqa):Option (qqa):=vae.call [(.agg qDa (inj false qDa a0))] []
theorem qPC (a0:qqa):qtu a0=(
(qTa a0.2.1).bind fun r1=>
(qTa a0.2.2.1).bind fun r2=>
some (a0.1,(r1,(r2,a0.2.2.2)))):=CE
noncomputable def vue:FN:={f:=320,cuts:=[],tab:=[],fm:=⟨true,[.val (.int .i32) [], .val (.int .i64) []]⟩}
noncomputable def qlB (a0:Int):Option (Int×Int):=vue.call [(.int .i32 a0)] []
theorem qNF (a0:Int):qlB a0=(
if (decide (a0<(1:Int)))=true then
some ((0:Int),(2:Int))
else
if (decide (a0>(1024:Int)))=true then
some ((0:Int),(2:Int))
else
gd (a0≠0)<|
some ((wd .i32 (wFa (65536:Int) a0)),(0:Int))):=CE
noncomputable def vse:FN:={f:=313,cuts:=[],tab:=[SS vue],fm:=⟨true,[.val (.int .i32) [], .val (.int .i64) []]⟩}
noncomputable def quD (a0:Int) (a1:Int):Option (Int×Int):=vse.call [(.int .i32 a0),(.int .i32 a1)] []
theorem qtD (a0:Int) (a1:Int):quD a0 a1=(
(qlB a1).bind fun r1=>
if (r1.2 != (0:Int))=true then
some ((0:Int),r1.2)
else
gd (0≤(16:Int))<|
some ((wd .i32 (wR (wd .i64 ((wd .i64 a0)*(wd .i64 r1.1))) (65536:Int))),(0:Int))):=CE
noncomputable def vhe:FN:={f:=308,cuts:=[],tab:=[SS vse],fm:=⟨true,[.val (.int .i32) [], .val (.int .i64) []]⟩}
noncomputable def qDt (a0:Int) (a1:Int) (a2:Int):Option (Int×Int):=vhe.call [(.int .i32 a0),(.int .i32 a1),(.int .i32 a2)] []
theorem qkB (a0:Int) (a1:Int) (a2:Int):qDt a0 a1 a2=(
if (decide ((if a1<a0 then a1 else a0)<(0:Int)))=true then
some ((0:Int),(2:Int))
else
if (decide ((if a1>a0 then a1 else a0)≥(65536:Int)))=true then
some ((0:Int),(2:Int))
else
(quD (wd .i32 (a1 - a0)) a2).bind fun r1=>
if (r1.2 != (0:Int))=true then
some ((0:Int),r1.2)
else
some ((wd .i32 (a0+r1.1)),(0:Int))):=CE
noncomputable def vgd:FN:={f:=290,cuts:=[],tab:=[SS vhe],fm:=⟨false,[.val (.int .i64) [], .row 0 (.int .i32), .row 1 (.int .i32)]⟩}
noncomputable def qVp (a0a:Int) (a0bbb:Unit) (a1:Int) (a2:Int) (h0:List Int) (h1:List Int):Option (Int×List Int×List Int):=vgd.call [(.agg qDa (a0a,((SV.ref 0 0 (we h0) true),((SV.ref 1 0 (we h1) true),a0bbb)))),(.int .u8 a1),(.int .u8 a2)] [(0,(.row (.int .i32) false h0)),(1,(.row (.int .i32) false h1))]
theorem qQy (a0a:Int) (a0bbb:Unit) (a1:Int) (a2:Int) (h0:List Int) (h1:List Int):qVp a0a a0bbb a1 a2 h0 h1=(
gd (0≤a1)<|
letI e:=(wi (we h1))
gd (a1<e)<|
gd (0≤a1)<|
letI f:=(wi (we h0))
gd (a1<f)<|
gd (0≤a2)<|
gd (a2<(2:Int))<|
letI d:=(0+(wo a1))
letI c:=(wd .i32 ((wm h1 d (0:Int))+(1:Int)))
(qDt (wm h0 d (0:Int)) (wm G_targets (wo a2) (0:Int)) (wd .i32 ((if a0a<c then a0a else c)+(1:Int)))).bind fun r1=>
gd (0≤a1)<|
gd (a1<f)<|
gd (0≤a1)<|
gd (a1<e)<|
some (r1.2,((wC h0 d r1.1),(wC h1 d (if a0a<c then a0a else c))))):=CE
noncomputable def qmA (acc:List AV→Bool):Summ wg GT:=vgd.summ mixed acc true false
noncomputable def vnd:FN:={f:=260,cuts:=[],tab:=[SS vrd,SS vae,(qmA (fun _=>true)).dropping],fm:=⟨true,[.val qDa [], .val (.int .i64) []]⟩}
noncomputable def qWp (a0:qqa) (a1:Int) (a2:Int):Option (qqa×Int):=vnd.call [(.agg qDa (inj false qDa a0)),(.int .u8 a1),(.int .u8 a2)] []
theorem qRy (a0:qqa) (a1:Int) (a2:Int):qWp a0 a1 a2=(
(qdw a0 a1).bind fun r1=>
if (r1 != (0:Int))=true then
some (((0:Int),([],([],()))),r1)
else
if (decide (a2>(1:Int)))=true then
some (((0:Int),([],([],()))),(2:Int))
else
(qtu a0).bind fun r2=>
(qVp r2.1 r2.2.2.2 a1 a2 r2.2.1 r2.2.2.1).bind fun r3=>
if (r3.1 != (0:Int))=true then
some (((0:Int),([],([],()))),r3.1)
else
some ((r2.1,(r3.2.1,(r3.2.2,r2.2.2.2))),(0:Int))):=CE
noncomputable def vqd:FN:={f:=315,cuts:=[],tab:=[],fm:=⟨true,[.val .bool []]⟩}
noncomputable def qxu (a0:Int):Option (Bool):=vqd.call [(.int .u8 a0)] []
theorem qpw (a0:Int):qxu a0=(
some (decide (a0>(1:Int)))):=CE
noncomputable def vA:FN:={f:=33,cuts:=[⟨(2,3),[0,1,7,8],false,false,[],[],[]⟩],tab:=[SS vqd],fm:=⟨true,[.val (.int .i64) []]⟩}
noncomputable def qkf (a0:List Int):Option (Int):=vA.call [(.sl (.int .u8) false a0),(.func 315 [])] []
noncomputable def qDc (v0:List Int) (v7:Int) (v8:Int):Option (Int):=vA.sem ⟨[.code (cIn (cIn (qaa (qHa (qaa (qea wg 33)))))), .inLoop (cIn (cIn (qaa (qHa (qaa (qea wg 33)))))), .inBlock 0, .code (qaa (qaa (qea wg 33)))],⟨[(0,(.one (.sl (.int .u8) false v0))),(1,(.one (.func 315 []))),(7,(.one (.int .i64 v7))),(8,(.one (.int .i64 v8)))],[],8⟩⟩
theorem qti (a0:List Int):qkf a0=(
qDc a0 (wi (we a0)) (0:Int)):=CE
theorem qEd (v0:List Int) (v7:Int) (v8:Int):qDc v0 v7 v8=(
if (decide (v8<v7))=true then
gd (0≤v8)<|
gd (v8<(wi (we v0)))<|
(qxu (wm v0 (wo v8) (0:Int))).bind fun r1=>
if r1=true then
some (v8)
else
qDc v0 v7 (wd .i64 (v8+(1:Int)))
else
some (-1:Int)):=SE
noncomputable def vU:FN:={f:=314,cuts:=[],tab:=[SS vA],fm:=⟨true,[.val .bool []]⟩}
noncomputable def qEc (a0:List Int):Option (Bool):=vU.call [(.sl (.int .u8) false a0),(.func 315 [])] []
theorem qnh (a0:List Int):qEc a0=(
(qkf a0).bind fun r1=>
some (decide (r1≥(0:Int)))):=CE
noncomputable def vod:FN:={f:=321,cuts:=[],tab:=[],fm:=⟨true,[.val (.int .i64) []]⟩}
noncomputable def qxp (a0:qhb):Option (Int):=vod.call [(.agg qkb (inj false qkb a0))] []
theorem qAy (a0:qhb):qxp a0=(
if (peq qkb a0 ((0:Int),((0:Int),((0:Int),()))))=true then
some (0:Int)
else
if (decide (a0.2.2.1>(1:Int)))=true then
some (8:Int)
else
gd (0≤a0.2.2.1)<|
gd (a0.2.2.1<(2:Int))<|
letI d:=(wd .u8 ((1:Int) - a0.2.2.1))
gd (0≤d)<|
gd (d<(2:Int))<|
letI c:=(wC (wC (wl 2 (0:Int)) 0 a0.1) 1 a0.2.1)
letI e:=(wm c (wo a0.2.2.1) (0:Int))
if (decide (e<(1:Int)))=true then
some (8:Int)
else
if (decide (e>(12:Int)))=true then
some (8:Int)
else
letI f:=(wm c (wo d) (0:Int))
if (decide (f<(0:Int)))=true then
some (8:Int)
else
if (decide (f>(7:Int)))=true then
some (8:Int)
else
some (0:Int)):=CE
noncomputable def vEd:FN:={f:=322,cuts:=[],tab:=[],fm:=⟨true,[.val qkb []]⟩}
noncomputable def qPr (a0:qhb) (a1:Int):Option (qhb):=vEd.call [(.agg qkb (inj false qkb a0)),(.int .u8 a1)] []
theorem qcA (a0:qhb) (a1:Int):qPr a0 a1=(
gd (0≤a1)<|
gd (a1<(2:Int))<|
gd (0≤a1)<|
gd (a1<(2:Int))<|
letI f:=(wd .u8 ((1:Int) - a1))
gd (0≤f)<|
gd (f<(2:Int))<|
letI g:=(wC (wC (wl 2 (0:Int)) 0 a0.1) 1 a0.2.1)
letI e:=(wd .i32 ((wm g (wo a1) (0:Int))+(1:Int)))
letI c:=(wC g (wo a1) (if (12:Int)<e then (12:Int) else e))
letI i:=(wm c (wo f) (0:Int))
if (decide (i>(2:Int)))=true then
gd ((2:Int)≠0)<|
gd (0≤(0:Int))<|
gd ((0:Int)<(2:Int))<|
gd (0≤(1:Int))<|
gd ((1:Int)<(2:Int))<|
letI d:=(wC c (wo f) (wd .i32 ((wd .i32 (wFa i (2:Int)))+(1:Int))))
some ((wm d 0 (0:Int)),((wm d 1 (0:Int)),(a1,())))
else
gd (0≤(0:Int))<|
gd ((0:Int)<(2:Int))<|
gd (0≤(1:Int))<|
gd ((1:Int)<(2:Int))<|
some ((wm c 0 (0:Int)),((wm c 1 (0:Int)),(a1,())))):=CE
noncomputable def vxc:FN:={f:=316,cuts:=[⟨(9,3),[2,4,31,32,33],false,false,[],[],[]⟩],tab:=[SS vod,SS vz,SS vEd],fm:=⟨true,[.val qkb [], .val (.int .i64) []]⟩}
noncomputable def qiu (a0:qhb) (a1:List Int):Option (qhb×Int):=vxc.call [(.agg qkb (inj false qkb a0)),(.sl (.int .u8) false a1)] []
noncomputable def qXj (v31:List Int) (v32:Int) (v33:Int) (b8:qhb) (b9:qhb):Option (qhb×Int):=vxc.sem ⟨[.code (cIn (cIn (qaa (qHa (qaa (qaa (qaa (qea wg 316)))))))), .inLoop (cIn (cIn (qaa (qHa (qaa (qaa (qaa (qea wg 316)))))))), .inBlock 1, .code (qaa (qaa (qaa (qaa (qea wg 316)))))],⟨[(2,(.one (.ptr qkb 8 []))),(4,(.one (.ptr qkb 9 []))),(31,(.one (.sl (.int .u8) false v31))),(32,(.one (.int .i64 v32))),(33,(.one (.int .i64 v33)))],[(8,some (.box qkb (inj false qkb b8))),(9,some (.box qkb (inj false qkb b9)))],10⟩⟩
theorem qzC (a0:qhb) (a1:List Int):qiu a0 a1=(
(qxp a0).bind fun r1=>
if (r1 != (0:Int))=true then
some (((0:Int),((0:Int),((0:Int),()))),r1)
else
letI c:=(wi (we a1))
if (decide (c>(20000:Int)))=true then
some (((0:Int),((0:Int),((0:Int),()))),(4:Int))
else
if (decide (c>(0:Int)))=true then
(qyd a1).bind fun r2=>
if (decide (r2>(1:Int)))=true then
some (((0:Int),((0:Int),((0:Int),()))),(2:Int))
else
qXj a1 c (0:Int) a0 ((0:Int),((0:Int),((0:Int),())))
else
qXj a1 c (0:Int) a0 ((0:Int),((0:Int),((0:Int),())))):=CE
theorem qwo (v31:List Int) (v32:Int) (v33:Int) (b8:qhb) (b9:qhb):qXj v31 v32 v33 b8 b9=(
if (decide (v33<v32))=true then
gd (0≤v33)<|
gd (v33<(wi (we v31)))<|
(qPr b8 (wm v31 (wo v33) (0:Int))).bind fun r3=>
qXj v31 v32 (wd .i64 (v33+(1:Int))) r3 b9
else
some (b8,(0:Int))):=SE
noncomputable def vSc:FN:={f:=317,cuts:=[],tab:=[],fm:=⟨true,[.val (.int .u8) []]⟩}
noncomputable def qln (a0:qhb):Option (Int):=vSc.call [(.agg qkb (inj false qkb a0))] []
theorem qav (a0:qhb):qln a0=(
if (peq qkb a0 ((0:Int),((0:Int),((0:Int),()))))=true then
some (0:Int)
else
gd (0≤a0.2.2.1)<|
gd (a0.2.2.1<(2:Int))<|
letI c:=(wd .u8 ((1:Int) - a0.2.2.1))
gd (0≤c)<|
gd (c<(2:Int))<|
letI d:=(wC (wC (wl 2 (0:Int)) 0 a0.1) 1 a0.2.1)
some (wd .u8 (wd .i32 ((wd .i32 ((wd .i32 ((wd .i32 ((wd .i32 ((wd .i32 ((12:Int)*(wd .i32 a0.2.2.1)))+(wm d (wo a0.2.2.1) (0:Int)))) - (1:Int)))*(8:Int)))+(wm d (wo c) (0:Int))))+(1:Int))))):=CE
noncomputable def vYd:FN:={f:=309,cuts:=[],tab:=[SS vLb,SS vU,SS vxc,SS vSc],fm:=⟨true,[.val (.int .u8) [], .val (.int .i64) []]⟩}
noncomputable def qrA (a0:Int) (a1:List Int):Option (Int×Int):=vYd.call [(.int .u8 a0),(.sl (.int .u8) false a1)] []
theorem qZA (a0:Int) (a1:List Int):qrA a0 a1=(
(qfl a0).bind fun r1=>
if (r1.2 != (0:Int))=true then
some ((0:Int),r1.2)
else
if (decide ((wi (we a1))>(20000:Int)))=true then
some ((0:Int),(4:Int))
else
(qEc a1).bind fun r2=>
if r2=true then
some ((0:Int),(2:Int))
else
(qiu r1.1 a1).bind fun r3=>
if (r3.2 != (0:Int))=true then
some ((0:Int),r3.2)
else
(qln r3.1).bind fun r4=>
some (r4,(0:Int))):=CE
noncomputable def vyd:FN:={f:=291,cuts:=[],tab:=[SS vYd],fm:=⟨true,[.val (.int .u8) [], .val (.int .i64) []]⟩}
noncomputable def qgr (a0:Int) (a1:Int):Option (Int×Int):=vyd.call [(.int .u8 a0),(.int .u8 a1)] []
theorem qcz (a0:Int) (a1:Int):qgr a0 a1=(
(qrA a0 [a1]).bind fun r1=>
some (r1)):=CE
noncomputable def vle:FN:={f:=292,cuts:=[],tab:=[SS vsd,SS vh],fm:=⟨true,[.val qEa [], .val (.int .i64) []]⟩}
noncomputable def qww (a0:qta) (a1:Int) (a2:Int) (a3:Int):Option (qta×Int):=vle.call [(.agg qEa (inj false qEa a0)),(.int .i64 a1),(.int .i64 a2),(.int .u8 a3)] []
theorem qYC (a0:qta) (a1:Int) (a2:Int) (a3:Int):qww a0 a1 a2 a3=(
(qSv a0 a1 a2).bind fun r1=>
if (r1 != (0:Int))=true then
some (((0:Int),([],())),r1)
else
if (decide (a3≥(193:Int)))=true then
some (((0:Int),([],())),(2:Int))
else
(qpb a0.2.1).bind fun r2=>
gd (0≤a1)<|
gd (a1<(wi (we r2)))<|
letI d:=(wd .i64 (a2 - (1:Int)))
gd (0≤d)<|
gd (d<(15:Int))<|
letI e:=(0+(wo a1))
letI c:=(wm r2 e (qra qHc))
some ((a0.1,((wC r2 e (c.1,((wC c.2.1 (wo d) a3),c.2.2))),())),(0:Int))):=CE
noncomputable def vje:FN:={f:=261,cuts:=[],tab:=[SS vZc,SS vyd,SS vle],fm:=⟨true,[.val qEa [], .val (.int .i64) []]⟩}
noncomputable def qyw (a0:qta) (a1:Int) (a2:Int) (a3:Int):Option (qta×Int):=vje.call [(.agg qEa (inj false qEa a0)),(.int .i64 a1),(.int .i64 a2),(.int .u8 a3)] []
theorem qcD (a0:qta) (a1:Int) (a2:Int) (a3:Int):qyw a0 a1 a2 a3=(
(qes a0 a1 a2).bind fun r1=>
if (r1.2 != (0:Int))=true then
some (((0:Int),([],())),r1.2)
else
(qgr r1.1 a3).bind fun r2=>
if (r2.2 != (0:Int))=true then
some (((0:Int),([],())),r2.2)
else
(qww a0 a1 a2 r2.1).bind fun r3=>
some (r3)):=CE
noncomputable def vRd:FN:={f:=293,cuts:=[],tab:=[],fm:=⟨true,[.val (.int .i32) []]⟩}
noncomputable def qtx (a0:Int) (a1:Bool):Option (Int):=vRd.call [(.int .i32 a0),(.bool a1)] []
theorem qsz (a0:Int) (a1:Bool):qtx a0 a1=(
if a1=true then
some (wd .i32 ((4095:Int) - a0))
else
some (wd .i32 ((0:Int) - a0))):=CE
noncomputable def vHd:FN:={f:=294,cuts:=[],tab:=[],fm:=⟨true,[.val (.int .i64) [], .val (.int .i64) []]⟩}
noncomputable def qGr (a0:Int) (a1:Int):Option (Int×Int):=vHd.call [(.int .i64 a0),(.int .i64 a1)] []
theorem qJz (a0:Int) (a1:Int):qGr a0 a1=(
if (decide (a1<(0:Int)))=true then
some ((0:Int),(2:Int))
else
if (decide (a1>(62:Int)))=true then
some ((0:Int),(2:Int))
else
if (a1==(0:Int))=true then
some (a0,(0:Int))
else
gd (0≤a1)<|
letI c:=(wd .i64 (a1 - (1:Int)))
gd (0≤c)<|
some ((wd .i64 ((qZk .i64 a0 a1)+(qUa .i64 (qZk .i64 a0 c) (1:Int)))),(0:Int))):=CE
noncomputable def vne:FN:={f:=295,cuts:=[],tab:=[SS vad],fm:=⟨true,[.val (.int .i32) []]⟩}
noncomputable def qfy (a0:Int) (a1:Int):Option (Int):=vne.call [(.int .i32 a0),(.int .i32 a1)] []
theorem qmE (a0:Int) (a1:Int):qfy a0 a1=(
(qMs (wd .i64 ((wd .i64 a0)+(wd .i64 a1)))).bind fun r1=>
some (r1)):=CE
noncomputable def vZa:FN:={f:=262,cuts:=[⟨(8,3),[1,2,3,4,10,13,37,38,39],false,false,[10,11],[],[]⟩,⟨(14,3),[1,10,13,16,56,57,58],false,false,[10,11],[],[]⟩],tab:=[SS vYb,SS vb,SS vRd,SS vHd,SS vne],fm:=⟨true,[.val qBa [], .val (.int .i64) []]⟩}
noncomputable def qxr (a0:qza) (a1:Int) (a2:List Int) (a3:Int) (a4:Bool):Option (qza×Int):=vZa.call [(.agg qBa (inj false qBa a0)),(.int .i64 a1),(.sl (.int .i32) false a2),(.int .i32 a3),(.bool a4)] []
noncomputable def qAg (v1:Int) (v2:List Int) (v3:Int) (v4:Bool) (v37:List (List Int)) (v38:Int) (v39:Int) (b8b:Unit) (b9b:Unit) (h10:List (List Int)) (h11:List (List Int)):Option (qza×Int):=vZa.sem ⟨[.code (cIn (cIn (qaa (qHa (qaa (qaa (qaa (qaa (qea wg 262))))))))), .inLoop (cIn (cIn (qaa (qHa (qaa (qaa (qaa (qaa (qea wg 262))))))))), .inBlock 0, .code (qaa (qaa (qaa (qaa (qaa (qea wg 262))))))],⟨[(1,(.one (.int .i64 v1))),(2,(.one (.sl (.int .i32) false v2))),(3,(.one (.int .i32 v3))),(4,(.one (.bool v4))),(10,(.one (.ptr qBa 8 []))),(13,(.one (.ptr qBa 9 []))),(37,(.one (.sl (.slice (.int .i32)) false v37))),(38,(.one (.int .i64 v38))),(39,(.one (.int .i64 v39)))],[(8,some (.box qBa ((SV.ref 10 0 (we h10) true),b8b))),(9,some (.box qBa ((SV.ref 11 0 (we h11) true),b9b))),(10,some (.fam (.int .i32) h10)),(11,some (.fam (.int .i32) h11))],12⟩⟩
noncomputable def qzg (v1:Int) (v16:Int) (v56:List Int) (v57:Int) (v58:Int) (b8b:Unit) (b9b:Unit) (h10:List (List Int)) (h11:List (List Int)):Option (qza×Int):=vZa.sem ⟨[.code (cIn (cIn (qaa (qHa (qaa (qaa (qaa (qaa (qaa (qaa (qea wg 262))))))))))), .inLoop (cIn (cIn (qaa (qHa (qaa (qaa (qaa (qaa (qaa (qaa (qea wg 262))))))))))), .inBlock 2, .code (qaa (qaa (qaa (qaa (qaa (qaa (qaa (qea wg 262))))))))],⟨[(1,(.one (.int .i64 v1))),(10,(.one (.ptr qBa 8 []))),(13,(.one (.ptr qBa 9 []))),(16,(.one (.int .i64 v16))),(56,(.one (.sl (.int .i32) false v56))),(57,(.one (.int .i64 v57))),(58,(.one (.int .i64 v58)))],[(8,some (.box qBa ((SV.ref 10 0 (we h10) true),b8b))),(9,some (.box qBa ((SV.ref 11 0 (we h11) true),b9b))),(10,some (.fam (.int .i32) h10)),(11,some (.fam (.int .i32) h11))],12⟩⟩
theorem qvz (a0:qza) (a1:Int) (a2:List Int) (a3:Int) (a4:Bool):qxr a0 a1 a2 a3 a4=(
(qCn a0 a1 a2).bind fun r1=>
if (r1 != (0:Int))=true then
some (([],()),r1)
else
if (decide (a3<(0:Int)))=true then
some (([],()),(2:Int))
else
if (decide (a3>(4095:Int)))=true then
some (([],()),(2:Int))
else
qAg a1 a2 a3 a4 a0.1 (wi (we a0.1)) (0:Int) () () [] []):=CE
theorem qOm (v1:Int) (v2:List Int) (v3:Int) (v4:Bool) (v37:List (List Int)) (v38:Int) (v39:Int) (b8b:Unit) (b9b:Unit) (h10:List (List Int)) (h11:List (List Int)):qAg v1 v2 v3 v4 v37 v38 v39 b8b b9b h10 h11=(
if (decide (v39<v38))=true then
gd (0≤v39)<|
gd (v39<(wi (we v37)))<|
(qTa (wm v37 (wo v39) [])).bind fun r2=>
gd ((we (h11++[r2]))*24≤140737488355328)<|
qAg v1 v2 v3 v4 v37 v38 (wd .i64 (v39+(1:Int))) b8b b9b h10 (h11++[r2])
else
(qtx v3 v4).bind fun r3=>
qzg v1 (wd .i64 ((wd .i64 r3)*(7:Int))) v2 (wi (we v2)) (0:Int) b8b b9b h10 h11):=SE
theorem qNm (v1:Int) (v16:Int) (v56:List Int) (v57:Int) (v58:Int) (b8b:Unit) (b9b:Unit) (h10:List (List Int)) (h11:List (List Int)):qzg v1 v16 v56 v57 v58 b8b b9b h10 h11=(
if (decide (v58<v57))=true then
gd (0≤v58)<|
gd (v58<(wi (we v56)))<|
letI e:=(wo v58)
(qGr (wd .i64 ((wd .i64 (wm v56 e (0:Int)))*v16)) (14:Int)).bind fun r4=>
gd (0≤v1)<|
letI d:=(wi (we h11))
gd (v1<d)<|
letI c:=(0+(wo v1))
gd (0<(we (wm h11 c [])))<|
gd (0≤v1)<|
gd (v1<d)<|
gd (0<(we (wm h11 c [])))<|
gd (0≤v58)<|
gd (v58<(wi (we (wm h11 c []))))<|
(qfy (wm (wm h11 c []) (0+e) (0:Int)) (wd .i32 r4.1)).bind fun r5=>
gd (0≤v58)<|
gd (v58<(wi (we (wm h11 c []))))<|
qzg v1 v16 v56 v57 (wd .i64 (v58+(1:Int))) b8b b9b h10 (wC h11 c (wC (wm h11 c []) (0+e) r5))
else
some ((h11,b9b),(0:Int))):=SE
noncomputable def vNb:FN:={f:=296,cuts:=[⟨(8,3),[1,2,3,8,11,31,32,33],false,false,[10,11],[],[]⟩],tab:=[SS vMb,SS vb],fm:=⟨true,[.val qBa [], .val (.int .i64) []]⟩}
noncomputable def qpl (a0:qza) (a1:Int) (a2:Int) (a3:Bool):Option (qza×Int):=vNb.call [(.agg qBa (inj false qBa a0)),(.int .i64 a1),(.int .i64 a2),(.bool a3)] []
noncomputable def qIf (v1:Int) (v2:Int) (v3:Bool) (v31:List (List Int)) (v32:Int) (v33:Int) (b8b:Unit) (b9b:Unit) (h10:List (List Int)) (h11:List (List Int)):Option (qza×Int):=vNb.sem ⟨[.code (cIn (cIn (qaa (qHa (qaa (qaa (qaa (qaa (qea wg 296))))))))), .inLoop (cIn (cIn (qaa (qHa (qaa (qaa (qaa (qaa (qea wg 296))))))))), .inBlock 0, .code (qaa (qaa (qaa (qaa (qaa (qea wg 296))))))],⟨[(1,(.one (.int .i64 v1))),(2,(.one (.int .i64 v2))),(3,(.one (.bool v3))),(8,(.one (.ptr qBa 8 []))),(11,(.one (.ptr qBa 9 []))),(31,(.one (.sl (.slice (.int .i32)) false v31))),(32,(.one (.int .i64 v32))),(33,(.one (.int .i64 v33)))],[(8,some (.box qBa ((SV.ref 10 0 (we h10) true),b8b))),(9,some (.box qBa ((SV.ref 11 0 (we h11) true),b9b))),(10,some (.fam (.int .i32) h10)),(11,some (.fam (.int .i32) h11))],12⟩⟩
theorem qQw (a0:qza) (a1:Int) (a2:Int) (a3:Bool):qpl a0 a1 a2 a3=(
(qnl a0 a1).bind fun r1=>
if (r1 != (0:Int))=true then
some (([],()),r1)
else
if (decide (a2<(0:Int)))=true then
some (([],()),(2:Int))
else
if (decide (a2≥(33:Int)))=true then
some (([],()),(2:Int))
else
qIf a1 a2 a3 a0.1 (wi (we a0.1)) (0:Int) () () [] []):=CE
theorem qol (v1:Int) (v2:Int) (v3:Bool) (v31:List (List Int)) (v32:Int) (v33:Int) (b8b:Unit) (b9b:Unit) (h10:List (List Int)) (h11:List (List Int)):qIf v1 v2 v3 v31 v32 v33 b8b b9b h10 h11=(
if (decide (v33<v32))=true then
gd (0≤v33)<|
gd (v33<(wi (we v31)))<|
(qTa (wm v31 (wo v33) [])).bind fun r2=>
gd ((we (h11++[r2]))*24≤140737488355328)<|
qIf v1 v2 v3 v31 v32 (wd .i64 (v33+(1:Int))) b8b b9b h10 (h11++[r2])
else
letI e:=(wi (we h11))
letI d:=(0+(wo v2))
letI c:=(0+(wo v1))
if v3=true then
gd (0≤v1)<|
gd (v1<e)<|
gd (0<(we (wm h11 c [])))<|
gd (0≤v2)<|
gd (v2<(wi (we (wm h11 c []))))<|
gd ((64:Int)≠0)<|
some (((wC h11 c (wC (wm h11 c []) d (wd .i32 ((wm (wm h11 c []) d (0:Int))+(wd .i32 (wFa (wd .i32 ((65535:Int) - (wm (wm h11 c []) d (0:Int)))) (64:Int))))))),b9b),(0:Int))
else
gd (0≤v1)<|
gd (v1<e)<|
gd (0<(we (wm h11 c [])))<|
gd (0≤v2)<|
gd (v2<(wi (we (wm h11 c []))))<|
gd ((64:Int)≠0)<|
some (((wC h11 c (wC (wm h11 c []) d (wd .i32 ((wm (wm h11 c []) d (0:Int))+(wd .i32 (wFa (wd .i32 ((0:Int) - (wm (wm h11 c []) d (0:Int)))) (64:Int))))))),b9b),(0:Int))):=SE
noncomputable def vAd:FN:={f:=263,cuts:=[],tab:=[SS vsa,SS vNb],fm:=⟨true,[.val qfc [], .val (.int .i64) []]⟩}
noncomputable def qHr (a0:qSa) (a1:qxc) (a2:Bool):Option (qSa×Int):=vAd.call [(.agg qfc (inj false qfc a0)),(.agg qkh (inj false qkh a1)),(.bool a2)] []
theorem qMz (a0:qSa) (a1:qxc) (a2:Bool):qHr a0 a1 a2=(
(qPk a0).bind fun r1=>
if (r1 != (0:Int))=true then
some ((([],()),(([],()),())),r1)
else
gd (0≤(0:Int))<|
gd ((0:Int)<(2:Int))<|
gd (0≤(0:Int))<|
gd ((0:Int)<(2:Int))<|
(qpl a0.1 (wm a1.1 0 (0:Int)) (wm a1.2.1 0 (0:Int)) a2).bind fun r2=>
gd (0≤(1:Int))<|
gd ((1:Int)<(2:Int))<|
gd (0≤(1:Int))<|
gd ((1:Int)<(2:Int))<|
(qpl a0.2.1 (wm a1.1 1 (0:Int)) (wm a1.2.1 1 (0:Int)) a2).bind fun r3=>
if (r2.2 != (0:Int))=true then
some ((([],()),(([],()),())),(2:Int))
else
if (r3.2 != (0:Int))=true then
some ((([],()),(([],()),())),(2:Int))
else
some ((r2.1,(r3.1,())),(0:Int))):=CE
noncomputable def vKd:FN:={f:=297,cuts:=[],tab:=[],fm:=⟨true,[.val (.int .i64) []]⟩}
noncomputable def qox (a0:Int) (a1:Bool):Option (Int):=vKd.call [(.int .i64 a0),(.bool a1)] []
theorem qmz (a0:Int) (a1:Bool):qox a0 a1=(
letI c:=(wd .i64 ((2:Int)*a0))
if a1=true then
some (wd .i64 (c+(1:Int)))
else
some c):=CE
noncomputable def vLd:FN:={f:=264,cuts:=[],tab:=[SS vW,SS vKd,SS vGc],fm:=⟨true,[.val qKa [], .val .bool [], .val (.int .u8) [], .val (.int .i64) []]⟩}
noncomputable def qsr (a0:qua) (a1:Bool):Option (qua×Bool×Int×Int):=vLd.call [(.agg qKa (inj false qKa a0)),(.bool a1)] []
theorem qoz (a0:qua) (a1:Bool):qsr a0 a1=(
(qNf a0).bind fun r1=>
if (r1 != (0:Int))=true then
some (((0:Int),()),(false,((0:Int),r1)))
else
(qox a0.1 a1).bind fun r2=>
if (decide (r2>(255:Int)))=true then
(qLt).bind fun r3=>
some (r3,(true,((wd .u8 r2),(0:Int))))
else
some ((r2,()),(false,((0:Int),(0:Int))))):=CE
noncomputable def vwd:FN:={f:=298,cuts:=[⟨(9,3),[1,4,7],false,false,[],[],[]⟩],tab:=[SS vv,SS vab],fm:=⟨true,[.val qna [], .val (.int .i64) []]⟩}
noncomputable def qfB (a0:qma) (a1:List Int):Option (qma×Int):=vwd.call [(.agg qna (inj false qna a0)),(.sl (.int .u8) false a1)] []
noncomputable def qor (v1:List Int) (b8a:Int) (b8bb:qua) (b9a:Int) (b9bb:qua) (h10:List Int) (h11:List Int):Option (qma×Int):=vwd.sem ⟨[.code (cIn (cIn (qHa (qaa (qaa (qaa (qaa (qea wg 298)))))))), .inLoop (cIn (cIn (qHa (qaa (qaa (qaa (qaa (qea wg 298)))))))), .inBlock 1, .code (qaa (qaa (qaa (qaa (qaa (qea wg 298))))))],⟨[(1,(.one (.sl (.int .u8) false v1))),(4,(.one (.ptr qna 8 []))),(7,(.one (.ptr qna 9 [])))],[(8,some (.box qna (b8a,((SV.ref 10 0 (we h10) true),(inj false qKa b8bb))))),(9,some (.box qna (b9a,((SV.ref 11 0 (we h11) true),(inj false qKa b9bb))))),(10,some (.row (.int .u8) true h10)),(11,some (.row (.int .u8) true h11))],12⟩⟩
theorem qIF (a0:qma) (a1:List Int):qfB a0 a1=(
(qqe a0).bind fun r1=>
if (r1 != (0:Int))=true then
some (((0:Int),([],((0:Int),()))),r1)
else
letI c:=(wi (we a1))
if (decide (c>(20000:Int)))=true then
some (((0:Int),([],((0:Int),()))),(4:Int))
else
if (decide (c>(wd .i64 ((1073741824:Int) - a0.2.2.1))))=true then
some (((0:Int),([],((0:Int),()))),(16:Int))
else
(qDi a0.2.1).bind fun r2=>
qor a1 (0:Int) ((0:Int),()) a0.1 (a0.2.2.1,()) [] r2):=CE
theorem qGq (v1:List Int) (b8a:Int) (b8bb:qua) (b9a:Int) (b9bb:qua) (h10:List Int) (h11:List Int):qor v1 b8a b8bb b9a b9bb h10 h11=(
letI f:=(we v1)
if (decide ((wi f)>(0:Int)))=true then
letI g:=(we h11)
letI d:=(wi g)
gd (d≠0)<|
letI e:=(wnb b9bb.1 d)
gd (0≤e)<|
gd (e≤d)<|
letI c:=(min f (g - (wo e)))
gd (0≤(wi c))<|
gd ((wi c)≤(wi f))<|
qor (wY c v1) b8a b8bb b9a ((wd .i64 (b9bb.1+(wi c))),b9bb.2) h10 (qsb h11 (0+(wo e)) (wL c v1))
else
some ((b9a,(h11,b9bb)),(0:Int))):=SE
noncomputable def vHb:FN:={f:=299,cuts:=[⟨(3,3),[1,3,4],false,false,[],[],[]⟩],tab:=[SS vbd,SS vSb],fm:=⟨true,[.val (.int .u32) []]⟩}
noncomputable def qYg (a0:qma):Option (Int):=vHb.call [(.agg qna (inj false qna a0))] []
noncomputable def qGh (v4:Int) (b8:qma) (h9:List Int):Option (Int):=vHb.sem ⟨[.code (cIn (cIn (qaa (qHa (qaa (qaa (qea wg 299))))))), .inLoop (cIn (cIn (qaa (qHa (qaa (qaa (qea wg 299))))))), .inBlock 0, .code (qaa (qaa (qaa (qea wg 299))))],⟨[(1,(.one (.ptr qna 8 []))),(3,(.one (.ref (.int .u8) 9 0 (we h9) true))),(4,(.one (.int .i64 v4)))],[(8,some (.box qna (inj false qna b8))),(9,some (.row (.int .u8) true h9))],10⟩⟩
theorem qDx (a0:qma):qYg a0=(
qGh (4:Int) a0 []):=CE
theorem qBl (v4:Int) (b8:qma) (h9:List Int):qGh v4 b8 h9=(
if (decide (v4>(0:Int)))=true then
(qms b8 v4).bind fun r1=>
gd ((we (h9++[r1.1]))*1≤140737488355328)<|
qGh (wd .i64 (v4 - (1:Int))) b8 (h9++[r1.1])
else
(qYm (6:Int) h9).bind fun r2=>
some (r2.1)):=SE
noncomputable def vIb:FN:={f:=310,cuts:=[],tab:=[SS vKa,SS vJa],fm:=⟨true,[.val (.int .i64) [], .val (.int .i64) []]⟩}
noncomputable def qKl (a0:qIa) (a1:Int):Option (Int×Int):=vIb.call [(.agg qgb (inj false qgb a0)),(.int .u32 a1)] []
theorem qgy (a0:qIa) (a1:Int):qKl a0 a1=(
(qoj a0).bind fun r1=>
if (r1 != (0:Int))=true then
some ((0:Int),r1)
else
(qmj a1 (wi (we a0.2.1))).bind fun r2=>
some (r2)):=CE
noncomputable def vSd:FN:={f:=300,cuts:=[],tab:=[SS vIb],fm:=⟨true,[.val (.int .i64) [], .val (.int .i64) []]⟩}
noncomputable def qyi (a0:qIa) (a1:Int):Option (Int×Int):=vSd.call [(.agg qgb (inj false qgb a0)),(.int .u32 a1)] []
theorem qLz (a0:qIa) (a1:Int):qyi a0 a1=(
(qKl a0 a1).bind fun r1=>
if (r1.2 != (0:Int))=true then
some ((0:Int),r1.2)
else
gd (0≤r1.1)<|
gd (r1.1<(wi (we a0.2.1)))<|
some ((wm a0.2.1 (wo r1.1) (0:Int)),(0:Int))):=CE
noncomputable def vza:FN:={f:=301,cuts:=[⟨(9,4),[1,2,3,9,10,11],false,false,[],[],[]⟩,⟨(11,7),[1,2,3,9,10,11,46],false,false,[],[],[]⟩],tab:=[SS vv],fm:=⟨true,[.val (.int .i64) [], .val (.int .i64) []]⟩}
noncomputable def qfg (a0:qma) (a1:Int) (a2:Int):Option (Int×Int):=vza.call [(.agg qna (inj false qna a0)),(.int .i64 a1),(.int .i64 a2)] []
noncomputable def qMd (v1:Int) (v2:Int) (v9:Int) (v10:Int) (v11:Int) (b8:qma):Option (Int×Int):=vza.sem ⟨[.code (cIn (cIn (qHa (qaa (qaa (qaa (qaa (qaa (qaa (cIn (qaa (qea wg 301)))))))))))), .inLoop (cIn (cIn (qHa (qaa (qaa (qaa (qaa (qaa (qaa (cIn (qaa (qea wg 301)))))))))))), .inBlock 0, .code (qaa (qaa (qaa (qaa (qaa (qaa (qaa (cIn (qaa (qea wg 301)))))))))), .inScope (cIn (qaa (qea wg 301)))],⟨[(1,(.one (.int .i64 v1))),(2,(.one (.int .i64 v2))),(3,(.one (.ptr qna 8 []))),(9,(.one (.int .i64 v9))),(10,(.one (.int .i64 v10))),(11,(.one (.int .i64 v11)))],[(8,some (.box qna (inj false qna b8)))],9⟩⟩
noncomputable def qIg (v1:Int) (v2:Int) (v9:Int) (v10:Int) (v11:Int) (v46:Int) (b8:qma):Option (Int×Int):=vza.sem ⟨[.code (cIn (cIn (qaa (cIn (qaa (cIn (cIn (qHa (qaa (qaa (qaa (qaa (qaa (qaa (cIn (qaa (qea wg 301))))))))))))))))), .inLoop (cIn (cIn (qaa (cIn (qaa (cIn (cIn (qHa (qaa (qaa (qaa (qaa (qaa (qaa (cIn (qaa (qea wg 301))))))))))))))))), .inBlock 2, .inBlock 1, .inLoop (cIn (cIn (qHa (qaa (qaa (qaa (qaa (qaa (qaa (cIn (qaa (qea wg 301)))))))))))), .inBlock 0, .code (qaa (qaa (qaa (qaa (qaa (qaa (qaa (cIn (qaa (qea wg 301)))))))))), .inScope (cIn (qaa (qea wg 301)))],⟨[(1,(.one (.int .i64 v1))),(2,(.one (.int .i64 v2))),(3,(.one (.ptr qna 8 []))),(9,(.one (.int .i64 v9))),(10,(.one (.int .i64 v10))),(11,(.one (.int .i64 v11))),(46,(.one (.int .i64 v46)))],[(8,some (.box qna (inj false qna b8)))],9⟩⟩
theorem qAv (a0:qma) (a1:Int) (a2:Int):qfg a0 a1 a2=(
(qqe a0).bind fun r1=>
if (r1 != (0:Int))=true then
some ((0:Int),r1)
else
if (decide (a1<(0:Int)))=true then
some ((0:Int),(2:Int))
else
if (decide (a1>a0.2.2.1))=true then
some ((0:Int),(2:Int))
else
if (decide (a2<(0:Int)))=true then
some ((0:Int),(2:Int))
else
letI d:=(wi (we a0.2.1))
letI c:=(wd .i64 (a1 - (wd .i64 (a0.2.2.1 - d))))
qMd a1 a2 d (if c<a1 then c else a1) (0:Int) a0):=CE
theorem qNk (v1:Int) (v2:Int) (v9:Int) (v10:Int) (v11:Int) (b8:qma):qMd v1 v2 v9 v10 v11 b8=(
if (decide (v11<(if v2<v10 then v2 else v10)))=true then
qIg v1 v2 v9 v10 v11 (0:Int) b8
else
some (v11,(0:Int))):=SE
theorem qMk (v1:Int) (v2:Int) (v9:Int) (v10:Int) (v11:Int) (v46:Int) (b8:qma):qIg v1 v2 v9 v10 v11 v46 b8=(
if (decide (v46<(4:Int)))=true then
letI c:=(wd .i64 (v11+(1:Int)))
if (decide (c>(if v2<v10 then v2 else v10)))=true then
some (v11,(0:Int))
else
letI d:=(wd .i64 (v9 - (1:Int)))
letI f:=(qUa .i64 (wd .i64 (v1 - c)) d)
gd (0≤f)<|
letI g:=(wi (we b8.2.1))
gd (f<g)<|
letI e:=(qUa .i64 (wd .i64 (b8.2.2.1 - c)) d)
gd (0≤e)<|
gd (e<g)<|
if ((wm b8.2.1 (wo f) (0:Int)) != (wm b8.2.1 (wo e) (0:Int)))=true then
some (v11,(0:Int))
else
qIg v1 v2 v9 v10 c (wd .i64 (v46+(1:Int))) b8
else
qMd v1 v2 v9 v10 v11 b8):=SE
noncomputable def vde:FN:={f:=302,cuts:=[],tab:=[SS vIb,SS vea],fm:=⟨true,[.val qgb [], .val (.int .i64) []]⟩}
noncomputable def qxi (a0:qIa) (a1:Int) (a2:Int):Option (qIa×Int):=vde.call [(.agg qgb (inj false qgb a0)),(.int .u32 a1),(.int .i64 a2)] []
theorem qVB (a0:qIa) (a1:Int) (a2:Int):qxi a0 a1 a2=(
(qKl a0 a1).bind fun r1=>
if (r1.2 != (0:Int))=true then
some (((0:Int),([],())),r1.2)
else
if (decide (a2<(0:Int)))=true then
some (((0:Int),([],())),(2:Int))
else
if (decide (a2>(1073741824:Int)))=true then
some (((0:Int),([],())),(2:Int))
else
(qge a0.2.1).bind fun r2=>
gd (0≤r1.1)<|
gd (r1.1<(wi (we r2)))<|
some ((a0.1,((wC r2 (0+(wo r1.1)) a2),())),(0:Int))):=CE
noncomputable def vge:FN:={f:=265,cuts:=[],tab:=[SS vcb,SS vv,SS vKa,SS vTb,SS vQb,SS vwd,SS vHb,SS vSd,SS vza,SS vde],fm:=⟨true,[.val qsa [], .val qna [], .val qgb [], .val (.int .i64) []]⟩}
noncomputable def qPt (a0:qha) (a1:qma) (a2:qIa) (a3:Int):Option (qha×qma×qIa×Int):=vge.call [(.agg qsa (inj false qsa a0)),(.agg qna (inj false qna a1)),(.agg qgb (inj false qgb a2)),(.int .u8 a3)] []
theorem qDB (a0:qha) (a1:qma) (a2:qIa) (a3:Int):qPt a0 a1 a2 a3=(
(qFk a0).bind fun r1=>
if (r1 != (0:Int))=true then
some (((0:Int),((0:Int),())),(((0:Int),([],((0:Int),()))),(((0:Int),([],())),(8:Int))))
else
(qqe a1).bind fun r2=>
if (r2 != (0:Int))=true then
some (((0:Int),((0:Int),())),(((0:Int),([],((0:Int),()))),(((0:Int),([],())),(8:Int))))
else
(qoj a2).bind fun r3=>
if (r3 != (0:Int))=true then
some (((0:Int),((0:Int),())),(((0:Int),([],((0:Int),()))),(((0:Int),([],())),(8:Int))))
else
(qGs).bind fun r4=>
(qCl a0 a1).bind fun r5=>
letI k:=(qfB a1 [a3])
letI j:=(decide (r4.1<(0:Int)))
if r5.2=true then
if (r5.1==a3)=true then
if (decide (a0.1<(1073741824:Int)))=true then
k.bind fun r6=>
if (r6.2 != (0:Int))=true then
some (((0:Int),((0:Int),())),(((0:Int),([],((0:Int),()))),(((0:Int),([],())),r6.2)))
else
(qYg r6.1).bind fun r7=>
(qyi a2 r7).bind fun r8=>
letI i:=(qxi a2 r7 r6.1.2.2.1)
letI d:=(wd .i64 (a0.1+(1:Int)))
letI c:=(wd .i64 (a0.2.1+(1:Int)))
if (decide (d<(0:Int)))=true then
if (decide (r8.1≥(0:Int)))=true then
if (decide (r8.1≤r6.1.2.2.1))=true then
(qfg r6.1 r8.1 (40:Int)).bind fun r9=>
if (decide (r9.1≥(3:Int)))=true then
i.bind fun r10=>
some ((r8.1,(r9.1,())),(r6.1,(r10.1,(0:Int))))
else
i.bind fun r11=>
some ((d,((if (40:Int)<c then (40:Int) else c),())),(r6.1,(r11.1,(0:Int))))
else
i.bind fun r12=>
some ((d,((if (40:Int)<c then (40:Int) else c),())),(r6.1,(r12.1,(0:Int))))
else
i.bind fun r13=>
some ((d,((if (40:Int)<c then (40:Int) else c),())),(r6.1,(r13.1,(0:Int))))
else
i.bind fun r14=>
some ((d,((if (40:Int)<c then (40:Int) else c),())),(r6.1,(r14.1,(0:Int))))
else
k.bind fun r15=>
if (r15.2 != (0:Int))=true then
some (((0:Int),((0:Int),())),(((0:Int),([],((0:Int),()))),(((0:Int),([],())),r15.2)))
else
(qYg r15.1).bind fun r16=>
(qyi a2 r16).bind fun r17=>
letI e:=(qxi a2 r16 r15.1.2.2.1)
if j=true then
if (decide (r17.1≥(0:Int)))=true then
if (decide (r17.1≤r15.1.2.2.1))=true then
(qfg r15.1 r17.1 (40:Int)).bind fun r18=>
if (decide (r18.1≥(3:Int)))=true then
e.bind fun r19=>
some ((r17.1,(r18.1,())),(r15.1,(r19.1,(0:Int))))
else
e.bind fun r20=>
some (r4,(r15.1,(r20.1,(0:Int))))
else
e.bind fun r21=>
some (r4,(r15.1,(r21.1,(0:Int))))
else
e.bind fun r22=>
some (r4,(r15.1,(r22.1,(0:Int))))
else
e.bind fun r23=>
some (r4,(r15.1,(r23.1,(0:Int))))
else
k.bind fun r24=>
if (r24.2 != (0:Int))=true then
some (((0:Int),((0:Int),())),(((0:Int),([],((0:Int),()))),(((0:Int),([],())),r24.2)))
else
(qYg r24.1).bind fun r25=>
(qyi a2 r25).bind fun r26=>
letI f:=(qxi a2 r25 r24.1.2.2.1)
if j=true then
if (decide (r26.1≥(0:Int)))=true then
if (decide (r26.1≤r24.1.2.2.1))=true then
(qfg r24.1 r26.1 (40:Int)).bind fun r27=>
if (decide (r27.1≥(3:Int)))=true then
f.bind fun r28=>
some ((r26.1,(r27.1,())),(r24.1,(r28.1,(0:Int))))
else
f.bind fun r29=>
some (r4,(r24.1,(r29.1,(0:Int))))
else
f.bind fun r30=>
some (r4,(r24.1,(r30.1,(0:Int))))
else
f.bind fun r31=>
some (r4,(r24.1,(r31.1,(0:Int))))
else
f.bind fun r32=>
some (r4,(r24.1,(r32.1,(0:Int))))
else
k.bind fun r33=>
if (r33.2 != (0:Int))=true then
some (((0:Int),((0:Int),())),(((0:Int),([],((0:Int),()))),(((0:Int),([],())),r33.2)))
else
(qYg r33.1).bind fun r34=>
(qyi a2 r34).bind fun r35=>
letI g:=(qxi a2 r34 r33.1.2.2.1)
if j=true then
if (decide (r35.1≥(0:Int)))=true then
if (decide (r35.1≤r33.1.2.2.1))=true then
(qfg r33.1 r35.1 (40:Int)).bind fun r36=>
if (decide (r36.1≥(3:Int)))=true then
g.bind fun r37=>
some ((r35.1,(r36.1,())),(r33.1,(r37.1,(0:Int))))
else
g.bind fun r38=>
some (r4,(r33.1,(r38.1,(0:Int))))
else
g.bind fun r39=>
some (r4,(r33.1,(r39.1,(0:Int))))
else
g.bind fun r40=>
some (r4,(r33.1,(r40.1,(0:Int))))
else
g.bind fun r41=>
some (r4,(r33.1,(r41.1,(0:Int))))):=CE
noncomputable def vBd:FN:={f:=303,cuts:=[],tab:=[SS vFa],fm:=⟨true,[.val (.int .u32) []]⟩}
noncomputable def qFr (a0:Int) (a1:Int):Option (Int):=vBd.call [(.int .u32 a0),(.int .u8 a1)] []
theorem qHz (a0:Int) (a1:Int):qFr a0 a1=(
(qIl a0 [a1]).bind fun r1=>
some (r1)):=CE
noncomputable def vid:FN:={f:=266,cuts:=[],tab:=[SS vBd],fm:=⟨true,[.val (.int .u32) [], .val (.int .i64) []]⟩}
noncomputable def qAp (a0:Int) (a1:Int):Option (Int×Int):=vid.call [(.int .u32 a0),(.int .i64 a1)] []
theorem qEy (a0:Int) (a1:Int):qAp a0 a1=(
if (decide (a1<(16:Int)))=true then
some ((0:Int),(2:Int))
else
if (decide (a1>(31:Int)))=true then
some ((0:Int),(2:Int))
else
(qFr a0 (wd .u8 a1)).bind fun r1=>
some (r1,(0:Int))):=CE
noncomputable def vra:FN:={f:=209,cuts:=[⟨(7,3),[2,3,4,6,8,9,31],false,false,[],[],[]⟩,⟨(28,3),[3,6,11,16,152,153],false,false,[],[],[]⟩],tab:=[(SS vo).dropping,(SS vp).dropping,SS vnd,SS vje,SS vZa,SS vAd,SS vLd,SS vge,SS vCa,(qJm (fun _=>true)).dropping,SS vid],fm:=⟨false,[.val qka [], .val (.int .i64) []]⟩}
noncomputable def qNi (a0:qia) (a1:qMc) (a2:Bool):Option (qia×Int):=vra.call [(.agg qka (inj false qka a0)),(.agg qsc (inj false qsc a1)),(.bool a2)] []
noncomputable def qod (v2:Bool) (v8:Int) (v9:Int) (v31:Int) (b8a:Int) (b8ba:qma) (b8bbbb:(qza×(qSa×(qIa×(qha×(qua×((List Int)×((List Int)×Unit)))))))) (b9:qMc) (b10a:Int) (b10baa:Int) (b10babb:qua) (b10bbbbab:Unit) (b10bbbbbaab:Unit) (b10bbbbbabab:Unit) (b10bbbbbabb:Unit) (b10bbbbbbaa:Int) (b10bbbbbbabb:Unit) (b10bbbbbbb:(qha×(qua×((List Int)×((List Int)×Unit))))) (h11:List qta) (h12:List qqa) (h13:List Int) (h14:List qta) (h15:List qqa) (h16:List (List Int)) (h17:List (List Int)) (h18:List (List Int)) (h19:List Int):Option (qia×Int):=vra.sem ⟨[.code (cIn (cIn (qaa (qHa (qaa (qaa (qaa (qaa (qaa (qea wg 209)))))))))), .inLoop (cIn (cIn (qaa (qHa (qaa (qaa (qaa (qaa (qaa (qea wg 209)))))))))), .inBlock 0, .code (qaa (qaa (qaa (qaa (qaa (qaa (qea wg 209)))))))],⟨[(2,(.one (.bool v2))),(3,(.one (.ptr qka 8 []))),(4,(.one (.ptr qsc 9 []))),(6,(.one (.ptr qka 10 []))),(8,(.one (.int .u8 v8))),(9,(.one (.int .i64 v9))),(31,(.one (.int .i64 v31)))],[(8,some (.box qka (b8a,((inj false qna b8ba),((SV.ref 11 0 (we h11) true),((SV.ref 12 0 (we h12) true),(inj false (.pair qBa (.pair qfc (.pair qgb (.pair qsa (.pair qKa (.pair (.arr 6 (.int .u32)) (.pair (.arr 6 (.int .i64)) .unit))))))) b8bbbb))))))),(9,some (.box qsc (inj false qsc b9))),(10,some (.box qka (b10a,((b10baa,((SV.ref 13 0 (we h13) true),(inj false qKa b10babb))),((SV.ref 14 0 (we h14) true),((SV.ref 15 0 (we h15) true),(((SV.ref 16 0 (we h16) true),b10bbbbab),((((SV.ref 17 0 (we h17) true),b10bbbbbaab),(((SV.ref 18 0 (we h18) true),b10bbbbbabab),b10bbbbbabb)),((b10bbbbbbaa,((SV.ref 19 0 (we h19) true),b10bbbbbbabb)),(inj false (.pair qsa (.pair qKa (.pair (.arr 6 (.int .u32)) (.pair (.arr 6 (.int .i64)) .unit)))) b10bbbbbbb)))))))))),(11,some (.row qEa false h11)),(12,some (.row qDa false h12)),(13,some (.row (.int .u8) true h13)),(14,some (.row qEa true h14)),(15,some (.row qDa true h15)),(16,some (.row (.slice (.int .i32)) true h16)),(17,some (.row (.slice (.int .i32)) true h17)),(18,some (.row (.slice (.int .i32)) true h18)),(19,some (.row (.int .i64) true h19))],20⟩⟩
noncomputable def qre (v152:(List Int)) (v153:Int) (b8a:Int) (b8ba:qma) (b8bbbba:qza) (b8bbbbba:qSa) (b8bbbbbb:(qIa×(qha×(qua×((List Int)×((List Int)×Unit)))))) (b9a:Int) (b9baa:Int) (b9babb:qua) (b9bbbbab:Unit) (b9bbbbbaab:Unit) (b9bbbbbabab:Unit) (b9bbbbbabb:Unit) (b9bbbbbbaa:Int) (b9bbbbbbabb:Unit) (b9bbbbbbb:(qha×(qua×((List Int)×((List Int)×Unit))))) (b10:qua) (b11:(List Int)) (h12:List qta) (h13:List qqa) (h14:List Int) (h15:List qta) (h16:List qqa) (h17:List (List Int)) (h18:List (List Int)) (h19:List (List Int)) (h20:List Int):Option (qia×Int):=vra.sem ⟨[.code (cIn (cIn (qaa (qHa (qaa (qaa (qaa (qaa (qaa (qaa (qaa (qaa (qaa (qaa (qaa (qaa (qaa (qea wg 209)))))))))))))))))), .inLoop (cIn (cIn (qaa (qHa (qaa (qaa (qaa (qaa (qaa (qaa (qaa (qaa (qaa (qaa (qaa (qaa (qaa (qea wg 209)))))))))))))))))), .inBlock 2, .code (qaa (qaa (qaa (qaa (qaa (qaa (qaa (qaa (qaa (qaa (qaa (qaa (qaa (qaa (qea wg 209)))))))))))))))],⟨[(3,(.one (.ptr qka 8 []))),(6,(.one (.ptr qka 9 []))),(11,(.one (.ptr qKa 10 []))),(16,(.one (.ptr (.arr 6 (.int .u32)) 11 []))),(152,(.one (.agg (.arr 6 (.int .u32)) v152))),(153,(.one (.int .i64 v153)))],[(8,some (.box qka (b8a,((inj false qna b8ba),((SV.ref 12 0 (we h12) true),((SV.ref 13 0 (we h13) true),((inj true qBa b8bbbba),((inj true qfc b8bbbbba),(inj false (.pair qgb (.pair qsa (.pair qKa (.pair (.arr 6 (.int .u32)) (.pair (.arr 6 (.int .i64)) .unit))))) b8bbbbbb))))))))),(9,some (.box qka (b9a,((b9baa,((SV.ref 14 0 (we h14) true),(inj false qKa b9babb))),((SV.ref 15 0 (we h15) true),((SV.ref 16 0 (we h16) true),(((SV.ref 17 0 (we h17) true),b9bbbbab),((((SV.ref 18 0 (we h18) true),b9bbbbbaab),(((SV.ref 19 0 (we h19) true),b9bbbbbabab),b9bbbbbabb)),((b9bbbbbbaa,((SV.ref 20 0 (we h20) true),b9bbbbbbabb)),(inj false (.pair qsa (.pair qKa (.pair (.arr 6 (.int .u32)) (.pair (.arr 6 (.int .i64)) .unit)))) b9bbbbbbb)))))))))),(10,some (.box qKa (inj false qKa b10))),(11,some (.box (.arr 6 (.int .u32)) b11)),(12,some (.row qEa false h12)),(13,some (.row qDa false h13)),(14,some (.row (.int .u8) true h14)),(15,some (.row qEa true h15)),(16,some (.row qDa true h16)),(17,some (.row (.slice (.int .i32)) true h17)),(18,some (.row (.slice (.int .i32)) true h18)),(19,some (.row (.slice (.int .i32)) true h19)),(20,some (.row (.int .i64) true h20))],21⟩⟩
theorem qEt (a0:qia) (a1:qMc) (a2:Bool):qNi a0 a1 a2=(
letI e:=(qEb a0.2.2.1)
letI d:=(qFb a0.2.2.2.1)
letI c:=(wl 6 (0:Int))
if a2=true then
e.bind fun r1=>
d.bind fun r2=>
qod a2 (1:Int) a0.2.2.2.2.2.2.2.2.1.1 (0:Int) a0.1 a0.2.1 a0.2.2.2.2 a1 (0:Int) (0:Int) ((0:Int),()) () () () () (0:Int) () (((0:Int),((0:Int),())),(((0:Int),()),(c,(c,())))) r1 r2 [] [] [] [] [] [] []
else
e.bind fun r3=>
d.bind fun r4=>
qod a2 (0:Int) a0.2.2.2.2.2.2.2.2.1.1 (0:Int) a0.1 a0.2.1 a0.2.2.2.2 a1 (0:Int) (0:Int) ((0:Int),()) () () () () (0:Int) () (((0:Int),((0:Int),())),(((0:Int),()),(c,(c,())))) r3 r4 [] [] [] [] [] [] []):=CE
theorem qIj (v2:Bool) (v8:Int) (v9:Int) (v31:Int) (b8a:Int) (b8ba:qma) (b8bbbb:(qza×(qSa×(qIa×(qha×(qua×((List Int)×((List Int)×Unit)))))))) (b9:qMc) (b10a:Int) (b10baa:Int) (b10babb:qua) (b10bbbbab:Unit) (b10bbbbbaab:Unit) (b10bbbbbabab:Unit) (b10bbbbbabb:Unit) (b10bbbbbbaa:Int) (b10bbbbbbabb:Unit) (b10bbbbbbb:(qha×(qua×((List Int)×((List Int)×Unit))))) (h11:List qta) (h12:List qqa) (h13:List Int) (h14:List qta) (h15:List qqa) (h16:List (List Int)) (h17:List (List Int)) (h18:List (List Int)) (h19:List Int):qod v2 v8 v9 v31 b8a b8ba b8bbbb b9 b10a b10baa b10babb b10bbbbab b10bbbbbaab b10bbbbbabab b10bbbbbabb b10bbbbbbaa b10bbbbbbabb b10bbbbbbb h11 h12 h13 h14 h15 h16 h17 h18 h19=(
if (decide (v31<(6:Int)))=true then
gd (0≤v31)<|
letI d:=(wi (we h12))
gd (v31<d)<|
gd (0≤v31)<|
gd (v31<(wi (we b9.2.1)))<|
letI c:=(wo v31)
(qWp (wm h12 (0+c) (qra qDa)) (wm b9.2.1 c (0:Int)) v8).bind fun r5=>
gd (0≤v31)<|
gd (v31<d)<|
gd (0≤v31)<|
letI e:=(wi (we h11))
gd (v31<e)<|
gd (0≤v31)<|
gd (v31<(6:Int))<|
(qyw (wm h11 (0+c) (qra qEa)) (wm b8bbbb.2.2.2.2.2.2.1 c (0:Int)) b9.1 v8).bind fun r6=>
gd (0≤v31)<|
gd (v31<e)<|
qod v2 v8 v9 (wd .i64 (v31+(1:Int))) b8a b8ba b8bbbb b9 b10a b10baa b10babb b10bbbbab b10bbbbbaab b10bbbbbabab b10bbbbbabb b10bbbbbbaa b10bbbbbbabb b10bbbbbbb (wC h11 (0+c) r6.1) (wC h12 (0+c) r5.1) h13 h14 h15 h16 h17 h18 h19
else
(qxr b8bbbb.1 v9 b9.2.2.1 b9.2.2.2.1 v2).bind fun r7=>
(qHr b8bbbb.2.1 b9.2.2.2.2.2.1 v2).bind fun r8=>
(qsr b8bbbb.2.2.2.2.1 v2).bind fun r9=>
if r9.2.1=true then
(qPt b8bbbb.2.2.2.1 b8ba b8bbbb.2.2.1 r9.2.2.1).bind fun r10=>
if (r10.2.2.2 != (0:Int))=true then
letI f:=(wl 6 (0:Int))
some (((0:Int),(((0:Int),([],((0:Int),()))),([],([],(([],()),((([],()),(([],()),())),(((0:Int),([],())),(((0:Int),((0:Int),())),(((0:Int),()),(f,(f,()))))))))))),r10.2.2.2)
else
(qgg r10.2.1).bind fun r11=>
(qMf r11.1 b8a r10.2.1 (r7.1,(r8.1,(r10.2.2.1,(r10.1,(r9.1,(r11.1,b8bbbb.2.2.2.2.2.2)))))) h11 h12).bind fun r12=>
some ((r12.1.1,(r12.1.2.1,(r12.2.1,(r12.2.2,r12.1.2.2.2.2)))),(0:Int))
else
if (decide (r9.1.1<(16:Int)))=true then
some ((b8a,(b8ba,(h11,(h12,(r7.1,(r8.1,(b8bbbb.2.2.1,(b8bbbb.2.2.2.1,(r9.1,b8bbbb.2.2.2.2.2))))))))),(0:Int))
else
if (decide (r9.1.1>(31:Int)))=true then
some ((b8a,(b8ba,(h11,(h12,(r7.1,(r8.1,(b8bbbb.2.2.1,(b8bbbb.2.2.2.1,(r9.1,b8bbbb.2.2.2.2.2))))))))),(0:Int))
else
qre b8bbbb.2.2.2.2.2.1 (0:Int) b8a b8ba r7.1 r8.1 (b8bbbb.2.2.1,(b8bbbb.2.2.2.1,(r9.1,b8bbbb.2.2.2.2.2))) b10a b10baa b10babb b10bbbbab b10bbbbbaab b10bbbbbabab b10bbbbbabb b10bbbbbbaa b10bbbbbbabb b10bbbbbbb r9.1 b8bbbb.2.2.2.2.2.1 h11 h12 h13 h14 h15 h16 h17 h18 h19):=SE
theorem qHj (v152:(List Int)) (v153:Int) (b8a:Int) (b8ba:qma) (b8bbbba:qza) (b8bbbbba:qSa) (b8bbbbbb:(qIa×(qha×(qua×((List Int)×((List Int)×Unit)))))) (b9a:Int) (b9baa:Int) (b9babb:qua) (b9bbbbab:Unit) (b9bbbbbaab:Unit) (b9bbbbbabab:Unit) (b9bbbbbabb:Unit) (b9bbbbbbaa:Int) (b9bbbbbbabb:Unit) (b9bbbbbbb:(qha×(qua×((List Int)×((List Int)×Unit))))) (b10:qua) (b11:(List Int)) (h12:List qta) (h13:List qqa) (h14:List Int) (h15:List qta) (h16:List qqa) (h17:List (List Int)) (h18:List (List Int)) (h19:List (List Int)) (h20:List Int):qre v152 v153 b8a b8ba b8bbbba b8bbbbba b8bbbbbb b9a b9baa b9babb b9bbbbab b9bbbbbaab b9bbbbbabab b9bbbbbabb b9bbbbbbaa b9bbbbbbabb b9bbbbbbb b10 b11 h12 h13 h14 h15 h16 h17 h18 h19 h20=(
if (decide (v153<(6:Int)))=true then
gd (0≤v153)<|
gd (v153<(6:Int))<|
letI c:=(wo v153)
(qAp (wm v152 c (0:Int)) b10.1).bind fun r13=>
gd (0≤v153)<|
gd (v153<(6:Int))<|
qre v152 (wd .i64 (v153+(1:Int))) b8a b8ba b8bbbba b8bbbbba b8bbbbbb b9a b9baa b9babb b9bbbbab b9bbbbbaab b9bbbbbabab b9bbbbbabb b9bbbbbbaa b9bbbbbbabb b9bbbbbbb b10 (wC b11 c r13.1) h12 h13 h14 h15 h16 h17 h18 h19 h20
else
(qMf b11 b8a b8ba (b8bbbba,(b8bbbbba,b8bbbbbb)) h12 h13).bind fun r14=>
some ((r14.1.1,(r14.1.2.1,(r14.2.1,(r14.2.2,r14.1.2.2.2.2)))),(0:Int))):=SE
noncomputable def veb:FN:={f:=159,cuts:=[⟨(9,3),[2,4,8,26,27,28],false,false,[],[],[]⟩],tab:=[SS vwb,(SS vKb).dropping,SS vdb,(SS vra).dropping],fm:=⟨false,[.val qka [], .val (.slice (.int .i64)) [.nw], .val (.int .i64) []]⟩}
noncomputable def qyk (a0:qia) (a1:List Bool):Option (qia×List Int×Int):=veb.call [(.agg qka (inj false qka a0)),(.sl .bool false a1)] []
noncomputable def qce (v26:List Bool) (v27:Int) (v28:Int) (b8:qia) (b9a:Int) (b9baa:Int) (b9babb:qua) (b9bbbbab:Unit) (b9bbbbbaab:Unit) (b9bbbbbabab:Unit) (b9bbbbbabb:Unit) (b9bbbbbbaa:Int) (b9bbbbbbabb:Unit) (b9bbbbbbb:(qha×(qua×((List Int)×((List Int)×Unit))))) (h10:List Int) (h11:List Int) (h12:List qta) (h13:List qqa) (h14:List (List Int)) (h15:List (List Int)) (h16:List (List Int)) (h17:List Int):Option (qia×List Int×Int):=veb.sem ⟨[.code (cIn (cIn (qaa (qHa (qaa (qaa (qaa (qaa (qaa (qea wg 159)))))))))), .inLoop (cIn (cIn (qaa (qHa (qaa (qaa (qaa (qaa (qaa (qea wg 159)))))))))), .inBlock 0, .code (qaa (qaa (qaa (qaa (qaa (qaa (qea wg 159)))))))],⟨[(2,(.one (.ptr qka 8 []))),(4,(.one (.ptr qka 9 []))),(8,(.one (.ref (.int .i64) 10 0 (we h10) true))),(26,(.one (.sl .bool false v26))),(27,(.one (.int .i64 v27))),(28,(.one (.int .i64 v28)))],[(8,some (.box qka (inj false qka b8))),(9,some (.box qka (b9a,((b9baa,((SV.ref 11 0 (we h11) true),(inj false qKa b9babb))),((SV.ref 12 0 (we h12) true),((SV.ref 13 0 (we h13) true),(((SV.ref 14 0 (we h14) true),b9bbbbab),((((SV.ref 15 0 (we h15) true),b9bbbbbaab),(((SV.ref 16 0 (we h16) true),b9bbbbbabab),b9bbbbbabb)),((b9bbbbbbaa,((SV.ref 17 0 (we h17) true),b9bbbbbbabb)),(inj false (.pair qsa (.pair qKa (.pair (.arr 6 (.int .u32)) (.pair (.arr 6 (.int .i64)) .unit)))) b9bbbbbbb)))))))))),(10,some (.row (.int .i64) true h10)),(11,some (.row (.int .u8) true h11)),(12,some (.row qEa true h12)),(13,some (.row qDa true h13)),(14,some (.row (.slice (.int .i32)) true h14)),(15,some (.row (.slice (.int .i32)) true h15)),(16,some (.row (.slice (.int .i32)) true h16)),(17,some (.row (.int .i64) true h17))],18⟩⟩
theorem qKq (a0:qia) (a1:List Bool):qyk a0 a1=(
(qQj a0).bind fun r1=>
letI c:=(wl 6 (0:Int))
if (r1 != (0:Int))=true then
some (((0:Int),(((0:Int),([],((0:Int),()))),([],([],(([],()),((([],()),(([],()),())),(((0:Int),([],())),(((0:Int),((0:Int),())),(((0:Int),()),(c,(c,()))))))))))),([],r1))
else
letI d:=(wi (we a1))
if (decide (d>(2000:Int)))=true then
some (((0:Int),(((0:Int),([],((0:Int),()))),([],([],(([],()),((([],()),(([],()),())),(((0:Int),([],())),(((0:Int),((0:Int),())),(((0:Int),()),(c,(c,()))))))))))),([],(4:Int)))
else
(qZo a0).bind fun r2=>
qce a1 d (0:Int) r2 (0:Int) (0:Int) ((0:Int),()) () () () () (0:Int) () (((0:Int),((0:Int),())),(((0:Int),()),(c,(c,())))) [] [] [] [] [] [] [] []):=CE
theorem qdg (v26:List Bool) (v27:Int) (v28:Int) (b8:qia) (b9a:Int) (b9baa:Int) (b9babb:qua) (b9bbbbab:Unit) (b9bbbbbaab:Unit) (b9bbbbbabab:Unit) (b9bbbbbabb:Unit) (b9bbbbbbaa:Int) (b9bbbbbbabb:Unit) (b9bbbbbbb:(qha×(qua×((List Int)×((List Int)×Unit))))) (h10:List Int) (h11:List Int) (h12:List qta) (h13:List qqa) (h14:List (List Int)) (h15:List (List Int)) (h16:List (List Int)) (h17:List Int):qce v26 v27 v28 b8 b9a b9baa b9babb b9bbbbab b9bbbbbaab b9bbbbbabab b9bbbbbabb b9bbbbbbaa b9bbbbbbabb b9bbbbbbb h10 h11 h12 h13 h14 h15 h16 h17=(
if (decide (v28<v27))=true then
gd (0≤v28)<|
gd (v28<(wi (we v26)))<|
(qvi b8).bind fun r3=>
(qNi b8 r3 (wm v26 (wo v28) false)).bind fun r4=>
if (r4.2 != (0:Int))=true then
letI d:=(wl 6 (0:Int))
some (((0:Int),(((0:Int),([],((0:Int),()))),([],([],(([],()),((([],()),(([],()),())),(((0:Int),([],())),(((0:Int),((0:Int),())),(((0:Int),()),(d,(d,()))))))))))),([],r4.2))
else
letI c:=(h10++[(wd .i64 r3.2.2.2.2.1)])
gd ((we c)*8≤140737488355328)<|
qce v26 v27 (wd .i64 (v28+(1:Int))) r4.1 b9a b9baa b9babb b9bbbbab b9bbbbbaab b9bbbbbabab b9bbbbbabb b9bbbbbbaa b9bbbbbbabb b9bbbbbbb c h11 h12 h13 h14 h15 h16 h17
else
some (b8,(h10,(0:Int)))):=SE
noncomputable def vuc:FN:={f:=122,cuts:=[],tab:=[(SS veb).dropping],fm:=⟨false,[.val qka [], .val (.int .i64) []]⟩}
noncomputable def qmm (a0:qia) (a1:Bool):Option (qia×Int):=vuc.call [(.agg qka (inj false qka a0)),(.bool a1)] []
theorem qFt (a0:qia) (a1:Bool):qmm a0 a1=(
(qyk a0 [a1]).bind fun r1=>
some (r1.1,r1.2.2)):=CE
noncomputable def vOa:FN:={f:=79,cuts:=[⟨(8,3),[2,8,10,11],false,false,[],[],[]⟩,⟨(11,7),[2,8,10,11,12,45],false,false,[],[],[]⟩],tab:=[(SS vec).dropping,(SS vMd).dropping,SS voe,(SS vNd).dropping,(SS vuc).dropping],fm:=⟨true,[.val (.slice (.int .u8)) [.nw], .val (.int .i64) []]⟩}
noncomputable def qCp (a0:Int) (a1:List Int) (a2:Int):Option (List Int×Int):=vOa.call [(.int .i64 a0),(.sl (.int .u8) false a1),(.int .i64 a2)] []
noncomputable def qWf (v2:Int) (b8:qia) (b9:qMa) (h10:List Int):Option (List Int×Int):=vOa.sem ⟨[.code (cIn (cIn (qHa (qaa (qaa (qaa (qaa (qaa (qaa (qea wg 79)))))))))), .inLoop (cIn (cIn (qHa (qaa (qaa (qaa (qaa (qaa (qaa (qea wg 79)))))))))), .inBlock 0, .code (qaa (qaa (qaa (qaa (qaa (qaa (qaa (qea wg 79))))))))],⟨[(2,(.one (.int .i64 v2))),(8,(.one (.ptr qka 8 []))),(10,(.one (.ptr qNa 9 []))),(11,(.one (.ref (.int .u8) 10 0 (we h10) true)))],[(8,some (.box qka (inj false qka b8))),(9,some (.box qNa (inj false qNa b9))),(10,some (.row (.int .u8) true h10))],11⟩⟩
noncomputable def qVf (v2:Int) (v12:Int) (v45:Int) (b8:qia) (b9:qMa) (h10:List Int):Option (List Int×Int):=vOa.sem ⟨[.code (cIn (cIn (qaa (qHa (qaa (cIn (qaa (cIn (cIn (qHa (qaa (qaa (qaa (qaa (qaa (qaa (qea wg 79))))))))))))))))), .inLoop (cIn (cIn (qaa (qHa (qaa (cIn (qaa (cIn (cIn (qHa (qaa (qaa (qaa (qaa (qaa (qaa (qea wg 79))))))))))))))))), .inBlock 2, .code (qaa (qaa (cIn (qaa (cIn (cIn (qHa (qaa (qaa (qaa (qaa (qaa (qaa (qea wg 79)))))))))))))), .inBlock 1, .inLoop (cIn (cIn (qHa (qaa (qaa (qaa (qaa (qaa (qaa (qea wg 79)))))))))), .inBlock 0, .code (qaa (qaa (qaa (qaa (qaa (qaa (qaa (qea wg 79))))))))],⟨[(2,(.one (.int .i64 v2))),(8,(.one (.ptr qka 8 []))),(10,(.one (.ptr qNa 9 []))),(11,(.one (.ref (.int .u8) 10 0 (we h10) true))),(12,(.one (.int .u8 v12))),(45,(.one (.int .i64 v45)))],[(8,some (.box qka (inj false qka b8))),(9,some (.box qNa (inj false qNa b9))),(10,some (.row (.int .u8) true h10))],11⟩⟩
theorem qHy (a0:Int) (a1:List Int) (a2:Int):qCp a0 a1 a2=(
(qQr a0 (0:Int)).bind fun r1=>
if (r1.2 != (0:Int))=true then
some ([],(2:Int))
else
if (decide (a2<(0:Int)))=true then
some ([],(2:Int))
else
if (decide (a2>(4096:Int)))=true then
some ([],(2:Int))
else
(qMr a1).bind fun r2=>
if (r2.2 != (0:Int))=true then
some ([],r2.2)
else
qWf a2 r1.1 r2.1 []):=CE
theorem qVl (v2:Int) (b8:qia) (b9:qMa) (h10:List Int):qWf v2 b8 b9 h10=(
if (decide ((wi (we h10))<v2))=true then
qVf v2 (0:Int) (0:Int) b8 b9 h10
else
some (h10,(0:Int))):=SE
theorem qUl (v2:Int) (v12:Int) (v45:Int) (b8:qia) (b9:qMa) (h10:List Int):qVf v2 v12 v45 b8 b9 h10=(
if (decide (v45<(8:Int)))=true then
(qax b8).bind fun r3=>
(qNr b9 r3.1).bind fun r4=>
(qmm b8 r4.2.1).bind fun r5=>
letI d:=(wd .u8 (v12*(2:Int)))
letI c:=(wd .i64 (v45+(1:Int)))
if r4.2.1=true then
qVf v2 (wd .u8 (d+(1:Int))) c r5.1 r4.1 h10
else
qVf v2 d c r5.1 r4.1 h10
else
gd ((we (h10++[v12]))*1≤140737488355328)<|
qWf v2 b8 b9 (h10++[v12])):=SE
noncomputable def vzd:FN:={f:=123,cuts:=[],tab:=[],fm:=⟨true,[.val qya []]⟩}
noncomputable def qoy:Option (qAa):=vzd.call [] []
theorem qUz:qoy=(
some ((0:Int),((4294967295:Int),([],())))):=CE
noncomputable def vbe:FN:={f:=161,cuts:=[],tab:=[],fm:=⟨false,[.clo 210 (.slice (.int .u8))]⟩}
noncomputable def qNA (a0:List Int):Option ((List Int)):=vbe.call [(.sl (.int .u8) false a0)] []
theorem qEC (a0:List Int):qNA a0=(
some (a0)):=CE
noncomputable def vjb:FN:={f:=162,cuts:=[],tab:=[],fm:=⟨true,[.val (.int .i64) []]⟩}
noncomputable def qWj (a0:qAa):Option (Int):=vjb.call [(.agg qya (inj false qya a0))] []
theorem qEv (a0:qAa):qWj a0=(
if (decide (a0.1≥a0.2.1))=true then
some (8:Int)
else
gd (0≤(24:Int))<|
gd (0≤(24:Int))<|
if ((wR a0.1 (16777216:Int))==(wR a0.2.1 (16777216:Int)))=true then
some (8:Int)
else
if (decide ((wi (we a0.2.2.1))>(20000:Int)))=true then
some (8:Int)
else
some (0:Int)):=CE
noncomputable def vfb:FN:={f:=164,cuts:=[⟨(4,1),[0],false,false,[],[],[]⟩],tab:=[SS vrb],fm:=⟨true,[.box 0 qya [.pu]]⟩}
noncomputable def qtm (a1:Int) (a2:Bool) (b0a:Int) (b0ba:Int) (b0bbb:Unit) (h1:List Int):Option (qAa):=vfb.call [(.ptr qya 0 []),(.int .i64 a1),(.bool a2)] [(0,(.box qya (b0a,(b0ba,((SV.ref 1 0 (we h1) true),b0bbb))))),(1,(.row (.int .u8) false h1))]
noncomputable def qve (b0a:Int) (b0ba:Int) (b0bbb:Unit) (h8:List Int):Option (qAa):=vfb.sem ⟨[.code (qiT (cIn (qea wg 164)) 0), .inScope (cIn (qea wg 164))],⟨[(0,(.one (.ptr qya 0 [])))],[(0,some (.box qya (b0a,(b0ba,((SV.ref 8 0 (we h8) true),b0bbb))))),(8,some (.row (.int .u8) false h8))],10⟩⟩
theorem qeu (a1:Int) (a2:Bool) (b0a:Int) (b0ba:Int) (b0bbb:Unit) (h1:List Int):qtm a1 a2 b0a b0ba b0bbb h1=(
(qOh b0a b0ba a1).bind fun r1=>
if a2=true then
gd (0≤(24:Int))<|
gd (0≤(24:Int))<|
letI f:=(wR r1 (16777216:Int))
if ((wR b0a (16777216:Int))==f)=true then
gd (0≤(24:Int))<|
letI e:=(h1++[(wd .u8 f)])
gd ((we e)*1≤140737488355328)<|
gd (0≤(8:Int))<|
gd (0≤(8:Int))<|
qve (wd .u32 (b0a*(256:Int))) (qrc .u32 (wd .u32 (r1*(256:Int))) (255:Int)) b0bbb e
else
some (b0a,(r1,(h1,b0bbb)))
else
gd (0≤(24:Int))<|
gd (0≤(24:Int))<|
letI d:=(wR b0ba (16777216:Int))
letI c:=(wd .u32 (r1+(1:Int)))
if ((wR c (16777216:Int))==d)=true then
gd (0≤(24:Int))<|
letI g:=(h1++[(wd .u8 d)])
gd ((we g)*1≤140737488355328)<|
gd (0≤(8:Int))<|
gd (0≤(8:Int))<|
qve (wd .u32 (c*(256:Int))) (qrc .u32 (wd .u32 (b0ba*(256:Int))) (255:Int)) b0bbb g
else
some (c,(b0ba,(h1,b0bbb)))):=CE
theorem qJj (b0a:Int) (b0ba:Int) (b0bbb:Unit) (h8:List Int):qve b0a b0ba b0bbb h8=(
gd (0≤(24:Int))<|
gd (0≤(24:Int))<|
letI c:=(wR b0ba (16777216:Int))
if ((wR b0a (16777216:Int))==c)=true then
gd (0≤(24:Int))<|
letI d:=(h8++[(wd .u8 c)])
gd ((we d)*1≤140737488355328)<|
gd (0≤(8:Int))<|
gd (0≤(8:Int))<|
qve (wd .u32 (b0a*(256:Int))) (qrc .u32 (wd .u32 (b0ba*(256:Int))) (255:Int)) b0bbb d
else
some (b0a,(b0ba,(h8,b0bbb)))):=SE
noncomputable def qCv (acc:List AV→Bool):Summ wg GT:=vfb.summ mixed acc true false
noncomputable def vOd:FN:={f:=126,cuts:=[],tab:=[SS vjb,SS vPb,SS ve,qCv (fun _=>true)],fm:=⟨true,[.val qya [], .val (.int .i64) []]⟩}
noncomputable def qKr (a0:qAa) (a1:Int) (a2:Bool):Option (qAa×Int):=vOd.call [(.agg qya (inj false qya a0)),(.int .i64 a1),(.bool a2)] []
theorem qTz (a0:qAa) (a1:Int) (a2:Bool):qKr a0 a1 a2=(
(qWj a0).bind fun r1=>
if (r1 != (0:Int))=true then
some (((0:Int),((0:Int),([],()))),r1)
else
(qqj a1).bind fun r2=>
if (not r2)=true then
some (((0:Int),((0:Int),([],()))),(2:Int))
else
(qxb a0.2.2.1).bind fun r3=>
(qtm a1 a2 a0.1 a0.2.1 a0.2.2.2 r3).bind fun r4=>
if (decide ((wi (we r4.2.2.1))>(20000:Int)))=true then
some (((0:Int),((0:Int),([],()))),(4:Int))
else
some (r4,(0:Int))):=CE
noncomputable def vzc:FN:={f:=125,cuts:=[],tab:=[SS vOd],fm:=⟨false,[.box 0 (.int .i64) [], .box 1 qya [.pu]]⟩}
noncomputable def qym (a0:Int) (a1:Bool) (b0:Int) (b1:qAa):Option (Int×qAa):=vzc.call [(.int .i64 a0),(.bool a1),(.ptr (.int .i64) 0 []),(.ptr qya 1 [])] [(0,(.box (.int .i64) b0)),(1,(.box qya (inj false qya b1)))]
theorem qlu (a0:Int) (a1:Bool) (b0:Int) (b1:qAa):qym a0 a1 b0 b1=(
if (b0==(0:Int))=true then
(qKr b1 a0 a1).bind fun r1=>
some (r1.2,r1.1)
else
some (b0,b1)):=CE
noncomputable def vEb:FN:={f:=160,cuts:=[⟨(2,3),[0,1,2,3,4,15,16,17],false,true,[],[],[]⟩],tab:=[(SS veb).dropping,(SS vzc).dropping],fm:=⟨false,[.box 0 qka [.pu, .pu, .pu, .pu, .pu, .pu, .pu], .box 1 (.slice .bool) [.nw], .cfn 2 125 [3,4], .box 3 (.int .i64) [], .box 4 qya [.pu]]⟩}
noncomputable def qdh (b0:qia) (b1:(List Bool)) (b3:Int) (b4:qAa):Option (qia×(List Bool)×Unit×Int×qAa):=vEb.call [(.ptr qka 0 []),(.ptr (.slice .bool) 1 []),(.cptr 2)] [(0,(.box qka (inj false qka b0))),(1,(.box (.slice .bool) (SV.pure false b1))),(2,(.cell (.func 125 [3,4]))),(3,(.box (.int .i64) b3)),(4,(.box qya (inj false qya b4)))]
noncomputable def qUf (v15:List Bool) (v16:Int) (v17:Int) (b0:qia) (b1:(List Bool)) (b3:Int) (b4:qAa) (b8:qia) (h9:List Int):Option (qia×(List Bool)×Unit×Int×qAa):=vEb.sem ⟨[.code (cIn (cIn (qaa (qHa (qaa (qea wg 160)))))), .inLoop (cIn (cIn (qaa (qHa (qaa (qea wg 160)))))), .inBlock 0, .code (qaa (qaa (qea wg 160)))],⟨[(0,(.one (.ptr qka 0 []))),(1,(.one (.ptr (.slice .bool) 1 []))),(2,(.one (.cptr 2))),(3,(.one (.ptr qka 8 []))),(4,(.one (.ref (.int .i64) 9 0 (we h9) true))),(15,(.one (.sl .bool false v15))),(16,(.one (.int .i64 v16))),(17,(.one (.int .i64 v17)))],[(0,some (.box qka (inj false qka b0))),(1,some (.box (.slice .bool) (SV.pure false b1))),(2,some (.cell (.func 125 [3,4]))),(3,some (.box (.int .i64) b3)),(4,some (.box qya (inj false qya b4))),(8,some (.box qka (inj false qka b8))),(9,some (.row (.int .i64) false h9))],15⟩⟩
theorem qFy (b0:qia) (b1:(List Bool)) (b3:Int) (b4:qAa):qdh b0 b1 b3 b4=(
(qyk b0 b1).bind fun r1=>
qUf b1 (wi (we b1)) (0:Int) b0 b1 b3 b4 r1.1 r1.2.1):=CE
theorem qTl (v15:List Bool) (v16:Int) (v17:Int) (b0:qia) (b1:(List Bool)) (b3:Int) (b4:qAa) (b8:qia) (h9:List Int):qUf v15 v16 v17 b0 b1 b3 b4 b8 h9=(
if (decide (v17<v16))=true then
gd (0≤v17)<|
gd (v17<(wi (we v15)))<|
gd (0≤v17)<|
gd (v17<(wi (we h9)))<|
letI c:=(wo v17)
(qym (wm h9 (0+c) (0:Int)) (wm v15 c false) b3 b4).bind fun r2=>
qUf v15 v16 (wd .i64 (v17+(1:Int))) b0 b1 r2.1 r2.2 b8 h9
else
some (b8,([],((),(b3,b4))))):=SE
end Go.Ab
