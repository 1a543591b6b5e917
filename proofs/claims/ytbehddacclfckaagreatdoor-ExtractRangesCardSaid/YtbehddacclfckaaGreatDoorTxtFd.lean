/-
  An abstract machine over the model's code and its soundness; what the functions compute, as plain functions (printed by a program of this repo's own, checked here by the kernel); plain laws of them: part 4. Helper text, no statement of the claim stands here.
-/
import Derived.Test.YtbehddacclfckaaGreatDoorTxtFc
import Derived.Test.YtbehddacclfckaaGreatDoorProg
import Derived.WalkKit
import Derived.LaidEql
import Derived.Stop.Asserts
import Derived.RowKitTokens
set_option linter.unusedVariables false
set_option linter.unusedSimpArgs false
namespace Go.Ab.As
open Go Go.Proofs Go.RowKit Go.Extern.Stop Go.Stop Go.Extern
theorem as_nil (t:Value) (w:World):
  Calls Tryz.prog 128 #[.nilIface,t] w fun e w'=>e= .returned (.bool false)∧w'=w:=by
 go_enter Tryz.func128,Tryz.ntmps128
 go_wp2
 go_ret
 exact ⟨rfl,rfl⟩
theorem qRB (t:Addr) (w:World):(ReflectliteValue.unpack (.iface 243 (.pointer (some t)))).run Tryz.prog w
  = .ok (.agg #[.pointer (some ⟨7,243,none⟩), .pointer (some ⟨w.heap.size,0,none⟩), .int .u64 150]) (w.alloc (.cells #[.pointer (some t)] 243)):=by kernel_rfl
theorem qGF (a:Addr) (w:World):(ReflectliteValue.methodAny (ReflectliteValue.valueError "reflectlite.Value.Type" 0) (fun t _ _ _=>ReflectliteType.toType t) #[.agg #[.pointer (some ⟨7,243,none⟩), .pointer (some a), .int .u64 150]]).run Tryz.prog w
  = .ok (.iface 410 (.agg #[.pointer (some ⟨7,243,none⟩)])) w:=by kernel_rfl
theorem qvy (h:Value) (w:World):(Go.method 673 410 (.agg #[h]) "Kind").run Tryz.prog w= .ok (402,h) w:=by kernel_rfl
theorem qMF (w:World):((ReflectliteType.abiMethod fun t=>(fun a:Nat=>Value.int IntKind.u8 (a:Int)) <$> Rtype.kind t) #[.pointer (some ⟨7,243,none⟩)]).run Tryz.prog w= .ok (.int .u8 22) w:=by kernel_rfl
theorem qNF (w:World):((ReflectliteType.abiMethod fun t=>(fun a:Nat=>Value.int IntKind.u8 (a:Int)) <$> Rtype.kind t) #[.pointer (some ⟨7,24,none⟩)]).run Tryz.prog w= .ok (.int .u8 2) w:=by kernel_rfl
theorem rlm (z:Sem Value) (f:TypeId→Addr→Nat→Nat→Sem Value) (v:Value):
  ReflectliteValue.method z f #[v]=(do match ←ReflectliteValue.parts v with|none=>z|some (t,a,fl)=>f t a fl (fl%32)):=rfl
theorem qbD (a:Addr) (w:World):(ReflectliteValue.parts (.agg #[.pointer (some ⟨7,243,none⟩), .pointer (some a), .int .u64 150])).run Tryz.prog w= .ok (some (243,a,150)) w:=by kernel_rfl
theorem qSE (a p:Addr) (W:World) (ha:W.cell? a=some (.pointer (some p))):
  (ReflectliteValue.method (ReflectliteValue.valueError "reflectlite.Value.IsNil" 0) ReflectliteValue.isNil #[.agg #[.pointer (some ⟨7,243,none⟩), .pointer (some a), .int .u64 150]]).run Tryz.prog W= .ok (.bool false) W:=by
 rw [rlm]
 simp only [Sem.run_bind,qbD,Result.andThen]
 simp [ReflectliteValue.isNil,loadVar,isAgg,underlying,Tryz.underlying243,ha,Result.andThen]
theorem qwy (h:Value) (w:World):(Go.method 673 410 (.agg #[h]) "Elem").run Tryz.prog w= .ok (412, .agg #[h]) w:=by kernel_rfl
theorem qmp (h:Value) (w:World):(Go.method 673 410 (.agg #[h]) "Implements").run Tryz.prog w= .ok (413, .agg #[h]) w:=by kernel_rfl
theorem qhn (h:Value) (w:World):(Go.method 673 410 (.agg #[h]) "AssignableTo").run Tryz.prog w= .ok (410, .agg #[h]) w:=by kernel_rfl
theorem qSF (w:World):(ReflectliteType.method ReflectliteType.elem #[.agg #[.pointer (some ⟨7,243,none⟩)]]).run Tryz.prog w= .ok (.iface 410 (.agg #[.pointer (some ⟨7,24,none⟩)])) w:=by kernel_rfl
theorem qjw (w:World):(ReflectliteType.relation "Implements" ReflectliteType.implements_ #[.agg #[.pointer (some ⟨7,24,none⟩)], .iface 410 (.agg #[.pointer (some ⟨7,239,none⟩)])]).run Tryz.prog w= .ok (.bool true) w:=by kernel_rfl
theorem qxD (v:Value) (w:World):(ReflectliteType.typeOf #[.iface 24 v]).run Tryz.prog w= .ok (.iface 410 (.agg #[.pointer (some ⟨7,24,none⟩)])) w:=by kernel_rfl
theorem qJw (w:World):(ReflectliteType.relation "AssignableTo" ReflectliteType.assignableTo #[.agg #[.pointer (some ⟨7,24,none⟩)], .iface 410 (.agg #[.pointer (some ⟨7,24,none⟩)])]).run Tryz.prog w= .ok (.bool true) w:=by kernel_rfl
theorem qSB (n:Int) (w:World):(ReflectliteValue.unpack (.iface 24 (.int .i64 n))).run Tryz.prog w
  = .ok (.agg #[.pointer (some ⟨7,24,none⟩), .pointer (some ⟨w.heap.size,0,none⟩), .int .u64 130]) (w.alloc (.cells #[.int .i64 n] 24)):=by kernel_rfl
theorem qdE (w:World):(Rtype.elem? 243).run Tryz.prog w= .ok (some 24) w:=by kernel_rfl
theorem mkE (p:Addr) (w:World):(ReflectliteValue.mk 24 p ReflectliteValue.flagAddr).run Tryz.prog w= .ok (.agg #[.pointer (some ⟨7,24,none⟩), .pointer (some p), .int .u64 386]) w:=by kernel_rfl
theorem qdF (a p:Addr) (W:World) (ha:W.cell? a=some (.pointer (some p))):
  (ReflectliteValue.method (ReflectliteValue.valueError "reflectlite.Value.Elem" 0) ReflectliteValue.elem #[.agg #[.pointer (some ⟨7,243,none⟩), .pointer (some a), .int .u64 150]]).run Tryz.prog W
   = .ok (.agg #[.pointer (some ⟨7,24,none⟩), .pointer (some p), .int .u64 386]) W:=by
 rw [rlm]
 simp only [Sem.run_bind,qbD,Result.andThen]
 simp [ReflectliteValue.elem,loadVar,isAgg,underlying,Tryz.underlying243,ha,Result.andThen,qdE,mkE]
theorem rls (v x:Value):ReflectliteValue.set #[v,x]=(do
  let (some (dst,a,fl),some (src,b,_)):=(←ReflectliteValue.parts v,←ReflectliteValue.parts x)
   |unsupported (.noEntry "extern/(internal/reflectlite.Value).Set.zeroValue")
  if fl/ReflectliteValue.flagAddr%2==0 then unsupported (.noEntry "extern/(internal/reflectlite.Value).Set.unaddressable")
  let val ←loadVar src b
  if ←Rtype.directlyAssignable dst src then storeVar dst a val
  else if ←Rtype.implements dst src then
   if (←Rtype.kind src)==20 then
    match val with
    | .nilIface=>unsupported (.noEntry "extern/reflectlite: a nil value of one interface type handed on as a value of another")
    |_=>storeVar dst a val
   else storeVar dst a (.iface src val)
  else panicString ("reflectlite.Set: value of type " ++(←Rtype.spelt src)++ " is not assignable to type " ++(←Rtype.spelt dst))
  pure (.tuple #[])):=rfl
theorem qPD (a:Addr) (w:World):(ReflectliteValue.parts (.agg #[.pointer (some ⟨7,24,none⟩), .pointer (some a), .int .u64 386])).run Tryz.prog w= .ok (some (24,a,386)) w:=by kernel_rfl
theorem qIE (a:Addr) (w:World):(ReflectliteValue.parts (.agg #[.pointer (some ⟨7,24,none⟩), .pointer (some a), .int .u64 130])).run Tryz.prog w= .ok (some (24,a,130)) w:=by kernel_rfl
theorem qhE (w:World):(Rtype.directlyAssignable 24 24).run Tryz.prog w= .ok true w:=by kernel_rfl
theorem qqG (ta b:Addr) (n:Int) (old:Value) (W:World) (hb:W.cell? b=some (.int .i64 n)) (ht:W.cell? ta=some old) (hf:W.frozen? ta=false):
  (ReflectliteValue.set #[.agg #[.pointer (some ⟨7,24,none⟩), .pointer (some ta), .int .u64 386], .agg #[.pointer (some ⟨7,24,none⟩), .pointer (some b), .int .u64 130]]).run Tryz.prog W
   = .ok (.tuple #[]) (W.setCell ta (.int .i64 n)):=by
 rw [rls]
 simp only [Sem.run_bind,qPD,qIE,Result.andThen]
 simp [ReflectliteValue.flagAddr,loadVar,isAgg,underlying,Tryz.underlying24,hb,Result.andThen,qhE,storeVar,Value.cells,storeCells,Addr.add]
 rw [run_store Tryz.prog W ta _ _ (by rfl)]
 simp [ht,hf]
set_option maxHeartbeats 4000000 in
set_option maxRecDepth 100000 in
theorem as_hit (n:Int) (t:Addr) (old:Value) (w:World) (hg:w.cell? ⟨2,0,none⟩=some (.iface 410 (.agg #[.pointer (some ⟨7,239,none⟩)]))) (ht0:w.cell? t=some old) (hf0:w.frozen? t=false):
  Calls Tryz.prog 128 #[.iface 24 (.int .i64 n), .iface 243 (.pointer (some t))] w fun ev w'=>ev= .returned (.bool true)∧w'=((((w.alloc (.cells #[.pointer (some t)] 243)).alloc (.cells #[.pointer (some ⟨7,243,none⟩), .pointer (some ⟨w.heap.size,0,none⟩), .int .u64 150] 322)).alloc (.cells #[.pointer (some ⟨7,243,none⟩), .pointer (some ⟨w.heap.size,0,none⟩), .int .u64 150] 322)).alloc (.cells #[.int .i64 n] 24)).setCell t (.int .i64 n):=by
 have h6:=@run_callFunc_extern Tryz.prog 187 _ (fun args=>ReflectliteValue.unpack (args.getD 0 (.tuple #[]))) Tryz.func187 (by kernel_rfl) (by kernel_rfl) (by kernel_rfl) (by kernel_rfl)
 have h7:=@run_callFunc_extern Tryz.prog 188 _ (ReflectliteValue.methodAny (ReflectliteValue.valueError "reflectlite.Value.Type" 0) (fun t _ _ _=>ReflectliteType.toType t)) Tryz.func188 (by kernel_rfl) (by kernel_rfl) (by kernel_rfl) (by kernel_rfl)
 have h8:=@run_callFunc_extern Tryz.prog 189 _ (ReflectliteValue.method (ReflectliteValue.valueError "reflectlite.Value.IsNil" 0) ReflectliteValue.isNil) Tryz.func189 (by kernel_rfl) (by kernel_rfl) (by kernel_rfl) (by kernel_rfl)
 have h27:=@run_callFunc_extern Tryz.prog 402 _ (ReflectliteType.abiMethod fun t=>do pure (.int .u8 (←Rtype.kind t))) Tryz.func402 (by kernel_rfl) (by kernel_rfl) (by kernel_rfl) (by kernel_rfl)
 have h37:=@run_callFunc_extern Tryz.prog 412 _ (ReflectliteType.method ReflectliteType.elem) Tryz.func412 (by kernel_rfl) (by kernel_rfl) (by kernel_rfl) (by kernel_rfl)
 have h38:=@run_callFunc_extern Tryz.prog 413 _ (ReflectliteType.relation "Implements" ReflectliteType.implements_) Tryz.func413 (by kernel_rfl) (by kernel_rfl) (by kernel_rfl) (by kernel_rfl)
 have h10:=@run_callFunc_extern Tryz.prog 258 _ ReflectliteType.typeOf Tryz.func258 (by kernel_rfl) (by kernel_rfl) (by kernel_rfl) (by kernel_rfl)
 have h35:=@run_callFunc_extern Tryz.prog 410 _ (ReflectliteType.relation "AssignableTo" ReflectliteType.assignableTo) Tryz.func410 (by kernel_rfl) (by kernel_rfl) (by kernel_rfl) (by kernel_rfl)
 have h11:=@run_callFunc_extern Tryz.prog 259 _ (ReflectliteValue.method (ReflectliteValue.valueError "reflectlite.Value.Elem" 0) ReflectliteValue.elem) Tryz.func259 (by kernel_rfl) (by kernel_rfl) (by kernel_rfl) (by kernel_rfl)
 have h12:=@run_callFunc_extern Tryz.prog 260 _ ReflectliteValue.set Tryz.func260 (by kernel_rfl) (by kernel_rfl) (by kernel_rfl) (by kernel_rfl)
 have tO:=qxD
 have mA:=qhn
 have a25:=qJw
 have v25:=qSB
 have f6:=qRB
 have f7:=qGF
 have mK:=qvy
 have mE:=qwy
 have mI:=qmp
 have k27:=qMF
 have k25:=qNF
 have e27:=qSF
 have i25:=qjw
 have n8:=qSE ⟨w.heap.size,0,none⟩ t ((w.alloc (.cells #[.pointer (some t)] 243)).alloc (.cells #[.pointer (some ⟨7,243,none⟩), .pointer (some ⟨w.heap.size,0,none⟩), .int .u64 150] 322)) (by simp)
 have hlt:2<w.heap.size:=by
  rcases Nat.lt_or_ge 2 w.heap.size with h|h
  ·exact h
  ·simp [World.cell?,Array.getElem?_eq_none h] at hg
 have hg2:((w.alloc (.cells #[.pointer (some t)] 243)).alloc (.cells #[.pointer (some ⟨7,243,none⟩), .pointer (some ⟨w.heap.size,0,none⟩), .int .u64 150] 322)).cell? ⟨2,0,none⟩=some (.iface 410 (.agg #[.pointer (some ⟨7,239,none⟩)])):=by
  rw [World.cell?_alloc_lt _ _ ⟨2,0,none⟩ (by first|(simp;done)|(simp;omega)),World.cell?_alloc_lt _ _ ⟨2,0,none⟩ hlt];exact hg
 have htl:t.block<w.heap.size:=by
  rcases Nat.lt_or_ge t.block w.heap.size with h|h
  ·exact h
  ·simp [World.cell?,Array.getElem?_eq_none h] at ht0
 have el:=qdF ⟨w.heap.size,0,none⟩ t (((w.alloc (.cells #[.pointer (some t)] 243)).alloc (.cells #[.pointer (some ⟨7,243,none⟩), .pointer (some ⟨w.heap.size,0,none⟩), .int .u64 150] 322)).alloc (.cells #[.pointer (some ⟨7,243,none⟩), .pointer (some ⟨w.heap.size,0,none⟩), .int .u64 150] 322)) (by rw [World.cell?_alloc_lt _ _ ⟨w.heap.size,0,none⟩ (by first|(simp;done)|(simp;omega))];simp)
 have st:=qqG t ⟨w.heap.size+1+1+1,0,none⟩ n old ((((w.alloc (.cells #[.pointer (some t)] 243)).alloc (.cells #[.pointer (some ⟨7,243,none⟩), .pointer (some ⟨w.heap.size,0,none⟩), .int .u64 150] 322)).alloc (.cells #[.pointer (some ⟨7,243,none⟩), .pointer (some ⟨w.heap.size,0,none⟩), .int .u64 150] 322)).alloc (.cells #[.int .i64 n] 24))
  (by rw [World.cell?_alloc_at _ _ _ _ (by simp)];rfl)
  (by rw [World.cell?_alloc_lt _ _ t (by first|(simp;done)|(simp;omega)),World.cell?_alloc_lt _ _ t (by first|(simp;done)|(simp;omega)),World.cell?_alloc_lt _ _ t (by first|(simp;done)|(simp;omega)),World.cell?_alloc_lt _ _ t htl];exact ht0)
  (by rw [World.frozen?_alloc_old _ _ t (by first|(simp;done)|(simp;omega)),World.frozen?_alloc_old _ _ t (by first|(simp;done)|(simp;omega)),World.frozen?_alloc_old _ _ t (by first|(simp;done)|(simp;omega)),World.frozen?_alloc_old _ _ t (Nat.ne_of_lt htl)];exact hf0)
 go_enter Tryz.func128,Tryz.ntmps128
 go_wp2
 refine wp_loop_rounds 1 ?_
 rw [rounds_succ]
 go_wp2
 go_ret
 exact ⟨rfl,rfl⟩
end Go.Ab.As

set_option linter.unusedVariables false
set_option linter.unusedSimpArgs false
namespace Go.Ab
open Go Go.Proofs Go.RowKit
def qIi (a0:Option Int) (b0:Int):Option (Bool×Int):=some (match a0 with
 |some n=>(true,n)
 |none=>(false,b0))
theorem qis (n b0:Int):qIi (some n) b0=some (true,n):=rfl
theorem qjs (b0:Int):qIi none b0=some (false,b0):=rfl
def qsk:List AV→List (Nat×Obj)→Option (Bool×Int)
 |[.eri T .i64 x, .ifp TP (.int .i64) 0 []],[(0, .box (.int .i64) v)]=>if T=24∧TP=243 then qIi x v else none
 |_,_=>none
theorem As.oneRow:((List.range Tryz.prog.types.size).filter fun t=>Tryz.prog.rowNamed t [101,114,114,111,114])=[239]:=by kernel_rfl
theorem As.rt:(Tryz.prog.cutTypes.find? (·.1== "internal/reflectlite.rtype")).map (·.2)=some 410:=by kernel_rfl
theorem As.hdl {w:World} {g:Nat} (h:Hdl Tryz.prog w g):w.cell? ⟨g,0,none⟩=some (.iface 410 (.agg #[.pointer (some ⟨7,239,none⟩)])):=by
 obtain ⟨u,ty,e1,e2,e3,e4⟩:=h
 obtain rfl:=Option.some.inj (As.rt.symm.trans e1)
 have hm:ty∈(List.range Tryz.prog.types.size).filter fun t=>Tryz.prog.rowNamed t [101,114,114,111,114]:=List.mem_filter.2 ⟨List.mem_range.2 e2,e3⟩
 rw [As.oneRow] at hm
 obtain rfl:=List.mem_singleton.1 hm
 have hh:typeHandle Tryz.prog 239= .pointer (some ⟨7,239,none⟩):=by kernel_rfl
 rw [hh] at e4
 exact e4
set_option maxRecDepth 100000 in
theorem qhv {GT:qtg} (hGT:lookL GT 2=some ⟨.unit,()⟩) {avs:List AV} {pre:List (Nat×Obj)} {r:Bool×Int} (h:qsk avs pre=some r):CallOK Tryz.prog GT 128 avs pre (.one (.bool r.1)) [(0, .box (.int .i64) r.2)]:=by
 unfold qsk at h
 split at h
 ·rename_i T x TP v
  split at h
  ·rename_i hT
   obtain ⟨rfl,rfl⟩:=hT
   intro w F G K vs hg hI hG hK hF hv
   obtain ⟨v1,r1,rfl,h1,h2⟩:=hv
   obtain ⟨v2,r2,rfl,h2,h3⟩:=h2
   simp only [VRdL] at h3;subst h3
   obtain ⟨sh,pl,po,k1,k2,rfl⟩:=h2
   obtain ⟨gh,g1,g2⟩:=hI.objs 0 (.box (.int .i64) v) rfl
   rw [k1] at g1;injection g1 with g1;subst g1
   obtain ⟨q1,p,cs,q2,q3,q4⟩:=g2
   rcases k2 with ⟨k3,k2⟩|⟨_,_,_,_,_,_,_,hp,_,_⟩|⟨_,_,_,_,_,_,_,_,hp,_,_⟩
   rotate_left
   ·cases hp
   ·cases hp
   rw [k3] at q2;injection q2 with q2;subst q2
   rw [q1] at k2
   obtain ⟨sh1,sh2⟩:=sh;simp only at q1 k3;subst q1;subst k3
   simp only [ARd] at q4;subst q4
   simp only [qti,qza,Option.some.injEq,Prod.mk.injEq] at k2
   obtain ⟨rfl,_⟩:=k2
   have hcell:w.cell? ⟨pl.blk,pl.ob+0,none⟩=some (.int .i64 v):=q3.cells 0 _ rfl
   have hlt:=q3.lt
   have hob:pl.ob+0<pl.bs:=by obtain ⟨_,_,_,_,_,_,h5,_⟩:=q3;simp only [List.length_cons,List.length_nil] at h5;omega
   have hfree:w.frozen? ⟨pl.blk,pl.ob+0,none⟩=false:=q3.free hob
   refine qsB (by kernel_rfl) (by kernel_rfl) ?_
   cases x with
   |none=>
    simp only [qIi,Option.some.injEq] at h;subst h
    simp only [VRd] at h1;subst h1
    refine (As.as_nil _ w).mono ?_
    rintro e w' ⟨rfl,rfl⟩
    exact ⟨_,rfl,K,fun _ _ h=>h,hI,rfl⟩
   |some n=>
    simp only [qIi,Option.some.injEq] at h;subst h
    simp only [VRd] at h1;subst h1
    have hc:=As.hdl (hg.2.2.1 2 hGT)
    refine (As.as_hit n ⟨pl.blk,pl.ob+0,none⟩ _ w hc hcell hfree).mono ?_
    rintro e w' ⟨rfl,rfl⟩
    refine ⟨_,rfl,K,fun _ _ h=>h,?_,rfl⟩
    generalize hw4:(((w.alloc _).alloc _).alloc _).alloc _=w4
    have hm:=hI.more (w':=w4) (by subst hw4;rfl) (by subst hw4;rfl) (by subst hw4;rfl) (by subst hw4;simp;omega) (fun k hk=>by
     subst hw4
     simp only [World.alloc]
     rw [Array.getElem?_push_lt (by simp;omega),Array.getElem_push_lt (by simp;omega),Array.getElem_push_lt (by simp;omega),Array.getElem_push_lt hk]
     exact (Array.getElem?_eq_getElem hk).symm)
    have q5:InBlk w4 pl [.int .i64 v]:=q3.keep (by
     subst hw4
     simp only [World.alloc]
     rw [Array.getElem?_push_lt (by simp;omega),Array.getElem_push_lt (by simp;omega),Array.getElem_push_lt (by simp;omega),Array.getElem_push_lt hlt]
     exact (Array.getElem?_eq_getElem hlt).symm)
    have S:=Stp.write (w':=w4.setCells pl.blk (pl.ob+0) [.int .i64 n]) hm.1 0 0 (.box (.int .i64) v) (.box (.int .i64) n) _ pl rfl k1 (Or.inl rfl) (qQa pl.blk _ _ w4)
     (fun N' K' _ _=>⟨rfl,pl,[.int .i64 n],rfl,q5.write (o:=0) (s:=[.int .i64 n]) (by simp),rfl⟩)
    have hup:qab (lookL [(0, .box (.int .i64) v)]) [(0,some (.box (.int .i64) n))]=lookL [(0, .box (.int .i64) n)]:=by
     funext l
     simp only [qab,lookL]
     by_cases hl:0=l <;> simp [hl]
    have:=S.inv
    rw [hup] at this
    exact this
  ·cases h
 ·cases h
end Go.Ab

set_option linter.unusedVariables false
set_option maxRecDepth 20000
namespace Go.Ab
open Go Go.Proofs
def t42Tab1:ByteArray:=(ByteArray.mk #[0,1,2,2,3,3,3,3,4,4,4,4,4,4,4,4,5,5,5,5,5,5,5,5,5,5,5,5,5,5,5,5,6,6,6,6,6,6,6,6,6,6,6,6,6,6,6,6,6,6,6,6,6,6,6,6,6,6,6,6,6,6,6,6,7,7,7,7,7,7,7,7,7,7,7,7,7,7,7,7,7,7,7,7,7,7,7,7,7,7,7,7,7,7,7,7,7,7,7,7,7,7,7,7,7,7,7,7,7,7,7,7,7,7,7,7,7,7,7,7,7,7,7,7,7,7,7,7,8,8,8,8,8,8,8,8,8,8,8,8,8,8,8,8,8,8,8,8,8,8,8,8,8,8,8,8,8,8,8,8,8,8,8,8,8,8,8,8,8,8,8,8,8,8,8,8,8,8,8,8,8,8,8,8,8,8,8,8,8,8,8,8,8,8,8,8,8,8,8,8,8,8,8,8,8,8,8,8,8,8,8,8,8,8,8,8,8,8,8,8,8,8,8,8,8,8,8,8,8,8,8,8,8,8,8,8,8,8,8,8,8,8,8,8,8,8,8,8,8,8,8,8,8,8,8,8])
abbrev T_api_Member:Ty:=(.pair .str (.pair (.slice (.int .u8)) .unit))
abbrev qna:Type:=(ByteArray×((List Int)×Unit))
abbrev qba:Ty:=(.pair .str (.pair (.int .i64) (.pair (.arr 20 (.int .u8)) .unit)))
abbrev qaa:Type:=(ByteArray×(Int×((List Int)×Unit)))
abbrev qka:Ty:=(.pair (.int .u8) (.pair (.int .i64) (.pair (.int .i64) (.pair (.int .i64) (.pair (.int .i64) (.pair (.arr 20 (.int .u8)) .unit))))))
abbrev qha:Type:=(Int×(Int×(Int×(Int×(Int×((List Int)×Unit))))))
abbrev qfa:Ty:=(.pair qka (.pair (.slice (.int .u8)) .unit))
abbrev qda:Type:=(qha×((List Int)×Unit))
abbrev qxa:Ty:=(.pair (.int .i64) (.pair (.int .i64) .unit))
abbrev qoa:Type:=(Int×(Int×Unit))
abbrev qwa:Ty:=(.pair qxa (.pair (.slice qba) (.pair (.slice qka) .unit)))
abbrev qua:Type:=(qoa×((List qaa)×((List qha)×Unit)))
abbrev qca:Ty:=(.pair (.int .i64) qxa)
abbrev qia:Type:=(Int×qoa)
abbrev qta:Ty:=(.pair qca (.pair (.slice (.int .u8)) .unit))
abbrev qpa:Type:=(qia×((List Int)×Unit))
abbrev qLa:Ty:=(.pair (.int .i64) (.pair (.slice (.int .u8)) (.pair (.int .i64) .unit)))
abbrev qtc:Type:=(Int×((List Int)×(Int×Unit)))
abbrev qbz:Ty:=(.pair (.int .i64) .unit)
abbrev qfz:Type:=(Int×Unit)
abbrev qYk:Ty:=(.pair (.slice (.int .u8)) qbz)
abbrev qKr:Type:=((List Int)×qfz)
abbrev qfb:Ty:=(.pair qYk .unit)
abbrev qJb:Type:=(qKr×Unit)
def G_widths:List Int:=[1,1,2,2,2]
def G_quarters:List Int:=[1518500249,1859775393,2400959708,3395469782]
def GT:qtg:=[(0,⟨(.arr 5 (.int .i64)),G_widths⟩),(1,⟨(.arr 4 (.int .u32)),G_quarters⟩),(2,⟨.unit,()⟩)]
theorem mixed:Tryz.prog.follows .mixedOrders=true:=by kernel_rfl
noncomputable def qtw (acc:List AV→Bool):Summ Tryz.prog GT:={f:=128,acc:=acc,rows:=false,nils:=false,R:=Bool×Int,fn:=qsk,res:=fun r=> .one (.bool r.1),post:=fun r=>[(0, .box (.int .i64) r.2)],ok:=fun _ _ _ h=>qhv rfl h}
noncomputable def bytes_Equal_I:FnI Tryz.prog GT:={f:=73,cuts:=[],tab:=[],fm:=⟨true,[.val .bool []]⟩}
noncomputable def qzr (a0:List Int) (a1:List Int):Option (Bool):=bytes_Equal_I.call [(.sl (.int .u8) false a0),(.sl (.int .u8) false a1)] []
theorem qem (a0:List Int) (a1:List Int):qzr a0 a1=(
some ((ByteArray.toList (qPb a0))==(ByteArray.toList (qPb a1)))):=(FnI.call_eq (by kernel_rfl)).trans (by kernel_rfl)
noncomputable def qPt (acc:List AV→Bool):Summ Tryz.prog GT:=bytes_Equal_I.summ mixed acc false false
noncomputable def bytes_HasPrefix_I:FnI Tryz.prog GT:={f:=89,cuts:=[],tab:=[qPt (fun _=>true)],fm:=⟨true,[.val .bool []]⟩}
noncomputable def qTd (a0:List Int) (a1:List Int):Option (Bool):=bytes_HasPrefix_I.call [(.sl (.int .u8) false a0),(.sl (.int .u8) false a1)] []
theorem qfi (a0:List Int) (a1:List Int):qTd a0 a1=(
if (decide ((Int.ofNat (List.length a0))≥(Int.ofNat (List.length a1))))=true then
gd (0≤(Int.ofNat (List.length a1)))<|
gd ((Int.ofNat (List.length a1))≤(Int.ofNat (List.length a0)))<|
(qzr (List.take (List.length a1) a0) a1).bind fun r1=>
some (r1)
else
some (false)):=(FnI.call_eq (by kernel_rfl)).trans (by kernel_rfl)
noncomputable def qJi (acc:List AV→Bool):Summ Tryz.prog GT:=bytes_HasPrefix_I.summ mixed acc false false
noncomputable def pack_Check_I:FnI Tryz.prog GT:={f:=58,cuts:=[],tab:=[],fm:=⟨true,[.val (.int .i64) []]⟩}
noncomputable def qxi (a0:qoa):Option (Int):=pack_Check_I.call [(.agg qxa (inj false qxa a0))] []
theorem qct (a0:qoa):qxi a0=(
if (decide (a0.1<(0:Int)))=true then
some (2:Int)
else
if (decide (a0.1>(7:Int)))=true then
some (2:Int)
else
if (decide (a0.2.1<(16:Int)))=true then
some (2:Int)
else
if (decide (a0.2.1>(4096:Int)))=true then
some (2:Int)
else
some (0:Int)):=(FnI.call_eq (by kernel_rfl)).trans (by kernel_rfl)
noncomputable def qck (acc:List AV→Bool):Summ Tryz.prog GT:=pack_Check_I.summ mixed acc false false
noncomputable def member_source_take_I:FnI Tryz.prog GT:={f:=186,cuts:=[],tab:=[],fm:=⟨false,[.val (.slice (.int .u8)) [.pu], .err 24 .i64, .box 0 qfb [.pu]]⟩}
noncomputable def qLb (a1:Int) (b0:qJb):Option (List Int×Option Int×qJb):=member_source_take_I.call [(.ptr qYk 0 [.fst]),(.int .i64 a1)] [(0,(.box qfb (inj false qfb b0)))]
theorem qfk (a1:Int) (b0:qJb):qLb a1 b0=(
if (decide ((IntKind.wrap .i64 ((Int.ofNat (List.length b0.1.1)) - b0.1.2.1))<a1))=true then
some ([],((some (18:Int)),b0))
else
gd (0≤(IntKind.wrap .i64 ((IntKind.wrap .i64 (b0.1.2.1+a1)) - a1)))<|
gd ((IntKind.wrap .i64 ((IntKind.wrap .i64 (b0.1.2.1+a1)) - a1))≤(IntKind.wrap .i64 (b0.1.2.1+a1)))<|
gd ((IntKind.wrap .i64 (b0.1.2.1+a1))≤(Int.ofNat (List.length b0.1.1)))<|
some ((List.take ((Int.toNat (IntKind.wrap .i64 (b0.1.2.1+a1))) - (Int.toNat (IntKind.wrap .i64 ((IntKind.wrap .i64 (b0.1.2.1+a1)) - a1)))) (List.drop (Int.toNat (IntKind.wrap .i64 ((IntKind.wrap .i64 (b0.1.2.1+a1)) - a1))) b0.1.1)),(none,((b0.1.1,((IntKind.wrap .i64 (b0.1.2.1+a1)),b0.1.2.2)),b0.2)))):=(FnI.call_eq (by kernel_rfl)).trans (by kernel_rfl)
noncomputable def qnl (acc:List AV→Bool):Summ Tryz.prog GT:=member_source_take_I.summ mixed acc false false
noncomputable def member_reader_record_I:FnI Tryz.prog GT:={f:=127,cuts:=[],tab:=[(qnl (fun _=>true)).dropping],fm:=⟨false,[.val qba [], .err 24 .i64, .box 0 qfb [.pu]]⟩}
noncomputable def qLc (b0:qJb):Option (qaa×Option Int×qJb):=member_reader_record_I.call [(.ptr qfb 0 [])] [(0,(.box qfb (inj false qfb b0)))]
theorem qsf (b0:qJb):qLc b0=(
(qLb (1:Int) b0).bind fun r1=>
if (not (Option.isNone r1.2.1))=true then
some ((ByteArray.empty,((0:Int),((List.replicate 20 (0:Int)),()))),r1.2)
else
gd (0≤(0:Int))<|
gd ((0:Int)<(Int.ofNat (List.length r1.1)))<|
(qLb (IntKind.wrap .i64 ((IntKind.wrap .i64 (List.getD r1.1 0 (0:Int)))+(22:Int))) r1.2.2).bind fun r2=>
if (not (Option.isNone r2.2.1))=true then
some ((ByteArray.empty,((0:Int),((List.replicate 20 (0:Int)),()))),r2.2)
else
gd (0≤(0:Int))<|
gd ((0:Int)<(Int.ofNat (List.length r1.1)))<|
gd (0≤(IntKind.wrap .i64 (List.getD r1.1 0 (0:Int))))<|
gd ((IntKind.wrap .i64 (List.getD r1.1 0 (0:Int)))≤(Int.ofNat (List.length r2.1)))<|
gd (0≤(IntKind.wrap .i64 (List.getD r1.1 0 (0:Int))))<|
gd ((IntKind.wrap .i64 (List.getD r1.1 0 (0:Int)))<(Int.ofNat (List.length r2.1)))<|
gd (0≤(8:Int))<|
gd (0≤(IntKind.wrap .i64 ((IntKind.wrap .i64 (List.getD r1.1 0 (0:Int)))+(1:Int))))<|
gd ((IntKind.wrap .i64 ((IntKind.wrap .i64 (List.getD r1.1 0 (0:Int)))+(1:Int)))<(Int.ofNat (List.length r2.1)))<|
gd (0≤(IntKind.wrap .i64 ((IntKind.wrap .i64 (List.getD r1.1 0 (0:Int)))+(2:Int))))<|
gd ((IntKind.wrap .i64 ((IntKind.wrap .i64 (List.getD r1.1 0 (0:Int)))+(2:Int)))≤(Int.ofNat (List.length r2.1)))<|
some (((qPb (List.take (Int.toNat (IntKind.wrap .i64 (List.getD r1.1 0 (0:Int)))) r2.1)),((qHc .i64 (IntKind.wrap .i64 ((IntKind.wrap .i64 (List.getD r2.1 (Int.toNat (IntKind.wrap .i64 (List.getD r1.1 0 (0:Int)))) (0:Int)))*(256:Int))) (IntKind.wrap .i64 (List.getD r2.1 (Int.toNat (IntKind.wrap .i64 ((IntKind.wrap .i64 (List.getD r1.1 0 (0:Int)))+(1:Int)))) (0:Int)))),((qbc (List.replicate 20 (0:Int)) 0 (List.take (min (List.length (List.drop (Int.toNat (IntKind.wrap .i64 ((IntKind.wrap .i64 (List.getD r1.1 0 (0:Int)))+(2:Int)))) r2.1)) 20) (List.drop (Int.toNat (IntKind.wrap .i64 ((IntKind.wrap .i64 (List.getD r1.1 0 (0:Int)))+(2:Int)))) r2.1))),()))),(none,r2.2.2))):=(FnI.call_eq (by kernel_rfl)).trans (by kernel_rfl)
noncomputable def qAj (acc:List AV→Bool):Summ Tryz.prog GT:=member_reader_record_I.summ mixed acc false false
noncomputable def member_isName_I:FnI Tryz.prog GT:={f:=75,cuts:=[⟨(2,3),[0,5,6],false,false,[],[],[]⟩],tab:=[],fm:=⟨true,[.val .bool []]⟩}
noncomputable def qcj (a0:ByteArray):Option (Bool):=member_isName_I.call [(.str a0)] []
noncomputable def qBe (v0:ByteArray) (v5:Int) (v6:Int):Option (Bool):=member_isName_I.sem ⟨[.code (cIn (cIn (qga (qHa (qga (qma Tryz.prog 75)))))), .inLoop (cIn (cIn (qga (qHa (qga (qma Tryz.prog 75)))))), .inBlock 0, .code (qga (qga (qma Tryz.prog 75)))],⟨[(0,(.one (.str v0))),(5,(.one (.int .i64 v5))),(6,(.one (.int .i64 v6)))],[],8⟩⟩
theorem qnp (a0:ByteArray):qcj a0=(
qBe a0 (Int.ofNat (ByteArray.size a0)) (0:Int)):=(FnI.call_eq (by kernel_rfl)).trans (by kernel_rfl)
theorem qth (v0:ByteArray) (v5:Int) (v6:Int):qBe v0 v5 v6=(
if (decide (v6<v5))=true then
gd (0≤v6)<|
gd (v6<(v0.size:Int))<|
if (decide ((qXo v0 (Int.toNat v6))≤(32:Int)))=true then
some (false)
else
gd (0≤v6)<|
gd (v6<(v0.size:Int))<|
if (decide ((qXo v0 (Int.toNat v6))>(126:Int)))=true then
some (false)
else
qBe v0 v5 (IntKind.wrap .i64 (v6+(1:Int)))
else
if (decide ((Int.ofNat (ByteArray.size v0))>(0:Int)))=true then
some (decide ((Int.ofNat (ByteArray.size v0))≤(40:Int)))
else
some (false)):=(FnI.sem_eq _).trans (by kernel_rfl)
noncomputable def qIq (acc:List AV→Bool):Summ Tryz.prog GT:=member_isName_I.summ mixed acc false false
noncomputable def sha_pad_I:FnI Tryz.prog GT:={f:=84,cuts:=[⟨(3,3),[0,3,4],false,false,[],[],[]⟩],tab:=[],fm:=⟨true,[.val (.slice (.int .u8)) [.nw]]⟩}
noncomputable def qLv (a0:Int):Option (List Int):=sha_pad_I.call [(.int .i64 a0)] []
noncomputable def qbl (v0:Int) (v4:Int) (h8:List Int):Option (List Int):=sha_pad_I.sem ⟨[.code (cIn (cIn (qga (qHa (qga (qga (qma Tryz.prog 84))))))), .inLoop (cIn (cIn (qga (qHa (qga (qga (qma Tryz.prog 84))))))), .inBlock 0, .code (qga (qga (qga (qma Tryz.prog 84))))],⟨[(0,(.one (.int .i64 v0))),(3,(.one (.ref (.int .u8) 8 0 (List.length h8) true))),(4,(.one (.int .i64 v4)))],[(8,some (.row (.int .u8) true h8))],9⟩⟩
theorem qfy (a0:Int):qLv a0=(
gd ((64:Int)≠0)<|
gd ((64:Int)≠0)<|
gd (0≤(Int.tmod (IntKind.wrap .i64 ((119:Int) - (Int.tmod a0 (64:Int)))) (64:Int)))<|
gd ((Int.tmod (IntKind.wrap .i64 ((119:Int) - (Int.tmod a0 (64:Int)))) (64:Int))*1≤140737488355328)<|
gd ((Int.tmod (IntKind.wrap .i64 ((119:Int) - (Int.tmod a0 (64:Int)))) (64:Int))≤9223372036854775807)<|
gd ((List.length ([(128:Int)]++(List.replicate (Int.toNat (Int.tmod (IntKind.wrap .i64 ((119:Int) - (Int.tmod a0 (64:Int)))) (64:Int))) (0:Int))))*1≤140737488355328)<|
qbl a0 (56:Int) ([(128:Int)]++(List.replicate (Int.toNat (Int.tmod (IntKind.wrap .i64 ((119:Int) - (Int.tmod a0 (64:Int)))) (64:Int))) (0:Int)))):=(FnI.call_eq (by kernel_rfl)).trans (by kernel_rfl)
theorem qTm (v0:Int) (v4:Int) (h8:List Int):qbl v0 v4 h8=(
if (decide (v4≥(0:Int)))=true then
gd (0≤v4)<|
gd ((List.length (h8++[(IntKind.wrap .u8 (qwi .u64 (IntKind.wrap .u64 ((IntKind.wrap .u64 v0)*(8:Int))) v4))]))*1≤140737488355328)<|
qbl v0 (IntKind.wrap .i64 (v4 - (8:Int))) (h8++[(IntKind.wrap .u8 (qwi .u64 (IntKind.wrap .u64 ((IntKind.wrap .u64 v0)*(8:Int))) v4))])
else
some (h8)):=(FnI.sem_eq _).trans (by kernel_rfl)
noncomputable def qwz (acc:List AV→Bool):Summ Tryz.prog GT:=sha_pad_I.summ mixed acc false false
noncomputable def slices_Grow_byte_byte_I:FnI Tryz.prog GT:={f:=124,cuts:=[],tab:=[],fm:=⟨true,[.part (.int .u8)]⟩}
noncomputable def qMd (a1:Int):Option (List Int×Nat×Nat):=slices_Grow_byte_byte_I.call [.nil,(.int .i64 a1)] []
theorem qvi (a1:Int):qMd a1=(
if (decide (a1<(0:Int)))=true then
none
else
if (decide ((IntKind.wrap .i64 (a1 - (0:Int)))>(0:Int)))=true then
gd (0≤(0:Int))<|
gd ((0:Int)≤(0:Int))<|
gd (0≤(IntKind.wrap .i64 (a1 - (0:Int))))<|
gd ((IntKind.wrap .i64 (a1 - (0:Int)))*1≤140737488355328)<|
gd ((IntKind.wrap .i64 (a1 - (0:Int)))≤9223372036854775807)<|
gd ((List.length (List.replicate (Int.toNat (IntKind.wrap .i64 (a1 - (0:Int)))) (0:Int)))*1≤140737488355328)<|
gd (0≤(0:Int))<|
gd ((0:Int)≤(Int.ofNat (List.length (List.replicate (Int.toNat (IntKind.wrap .i64 (a1 - (0:Int)))) (0:Int)))))<|
some ((List.replicate (Int.toNat (IntKind.wrap .i64 (a1 - (0:Int)))) (0:Int)),(0,0))
else
some ([],(0,0))):=(FnI.call_eq (by kernel_rfl)).trans (by kernel_rfl)
noncomputable def qUi (acc:List AV→Bool):Summ Tryz.prog GT:=slices_Grow_byte_byte_I.summ mixed acc false true
noncomputable def slices_Concat_byte_byte_I:FnI Tryz.prog GT:={f:=83,cuts:=[⟨(3,3),[0,3,9,10,11],false,false,[],[],[]⟩,⟨(11,3),[6,25,26,27],false,false,[],[],[]⟩],tab:=[qUi (fun _=>true)],fm:=⟨true,[.val (.slice (.int .u8)) [.pu]]⟩}
noncomputable def qcd (a0:List (List Int)):Option (List Int):=slices_Concat_byte_byte_I.call [(.sl (.slice (.int .u8)) false a0)] []
noncomputable def qmc (v0:List (List Int)) (v3:Int) (v9:List (List Int)) (v10:Int) (v11:Int):Option (List Int):=slices_Concat_byte_byte_I.sem ⟨[.code (cIn (cIn (qga (qHa (qga (qga (qma Tryz.prog 83))))))), .inLoop (cIn (cIn (qga (qHa (qga (qga (qma Tryz.prog 83))))))), .inBlock 0, .code (qga (qga (qga (qma Tryz.prog 83))))],⟨[(0,(.one (.sl (.slice (.int .u8)) false v0))),(3,(.one (.int .i64 v3))),(9,(.one (.sl (.slice (.int .u8)) false v9))),(10,(.one (.int .i64 v10))),(11,(.one (.int .i64 v11)))],[],8⟩⟩
noncomputable def qde (v6o:Nat) (v6n:Nat) (v25:List (List Int)) (v26:Int) (v27:Int) (h8:List Int):Option (List Int):=slices_Concat_byte_byte_I.sem ⟨[.code (cIn (cIn (qga (qHa (qga (qga (qga (qga (qma Tryz.prog 83))))))))), .inLoop (cIn (cIn (qga (qHa (qga (qga (qga (qga (qma Tryz.prog 83))))))))), .inBlock 2, .code (qga (qga (qga (qga (qga (qma Tryz.prog 83))))))],⟨[(6,(.one (.ref (.int .u8) 8 v6o v6n false))),(25,(.one (.sl (.slice (.int .u8)) false v25))),(26,(.one (.int .i64 v26))),(27,(.one (.int .i64 v27)))],[(8,some (.row (.int .u8) true h8))],9⟩⟩
noncomputable def qlc (v25:List (List Int)) (v26:Int) (v27:Int) (h8:List Int):Option (List Int):=slices_Concat_byte_byte_I.sem ⟨[.code (cIn (cIn (qga (qHa (qga (qga (qga (qga (qma Tryz.prog 83))))))))), .inLoop (cIn (cIn (qga (qHa (qga (qga (qga (qga (qma Tryz.prog 83))))))))), .inBlock 2, .code (qga (qga (qga (qga (qga (qma Tryz.prog 83))))))],⟨[(6,(.one (.ref (.int .u8) 8 0 (List.length h8) true))),(25,(.one (.sl (.slice (.int .u8)) false v25))),(26,(.one (.int .i64 v26))),(27,(.one (.int .i64 v27)))],[(8,some (.row (.int .u8) true h8))],9⟩⟩
theorem qLh (a0:List (List Int)):qcd a0=(
qmc a0 (0:Int) a0 (Int.ofNat (List.length a0)) (0:Int)):=(FnI.call_eq (by kernel_rfl)).trans (by kernel_rfl)
theorem qOb (v0:List (List Int)) (v3:Int) (v9:List (List Int)) (v10:Int) (v11:Int):qmc v0 v3 v9 v10 v11=(
if (decide (v11<v10))=true then
gd (0≤v11)<|
gd (v11<(Int.ofNat (List.length v9)))<|
if (decide ((IntKind.wrap .i64 (v3+(Int.ofNat (List.length (List.getD v9 (Int.toNat v11) [])))))<(0:Int)))=true then
none
else
qmc v0 (IntKind.wrap .i64 (v3+(Int.ofNat (List.length (List.getD v9 (Int.toNat v11) []))))) v9 v10 (IntKind.wrap .i64 (v11+(1:Int)))
else
(qMd v3).bind fun r1=>
qde r1.2.1 r1.2.2 v0 (Int.ofNat (List.length v0)) (0:Int) r1.1):=(FnI.sem_eq _).trans (by kernel_rfl)
theorem qKg (v6o:Nat) (v6n:Nat) (v25:List (List Int)) (v26:Int) (v27:Int) (h8:List Int):qde v6o v6n v25 v26 v27 h8=(
if (decide (v27<v26))=true then
gd (0≤v27)<|
gd (v27<(Int.ofNat (List.length v25)))<|
gd ((List.length ((List.take v6n (List.drop v6o h8))++(List.getD v25 (Int.toNat v27) [])))*1≤140737488355328)<|
qlc v25 v26 (IntKind.wrap .i64 (v27+(1:Int))) ((List.take v6n (List.drop v6o h8))++(List.getD v25 (Int.toNat v27) []))
else
some (List.take v6n (List.drop v6o h8))):=(FnI.sem_eq _).trans (by kernel_rfl)
theorem qjd (v25:List (List Int)) (v26:Int) (v27:Int) (h8:List Int):qlc v25 v26 v27 h8=(
if (decide (v27<v26))=true then
gd (0≤v27)<|
gd (v27<(Int.ofNat (List.length v25)))<|
gd ((List.length (h8++(List.getD v25 (Int.toNat v27) [])))*1≤140737488355328)<|
qlc v25 v26 (IntKind.wrap .i64 (v27+(1:Int))) (h8++(List.getD v25 (Int.toNat v27) []))
else
some (h8)):=(FnI.sem_eq _).trans (by kernel_rfl)
noncomputable def qni (acc:List AV→Bool):Summ Tryz.prog GT:=slices_Concat_byte_byte_I.summ mixed acc false false
noncomputable def math_bits_RotateLeft32_I:FnI Tryz.prog GT:={f:=125,cuts:=[],tab:=[],fm:=⟨true,[.val (.int .u32) []]⟩}
noncomputable def qKa (a0:Int) (a1:Int):Option (Int):=math_bits_RotateLeft32_I.call [(.int .u32 a0),(.int .i64 a1)] []
theorem qpi (a0:Int) (a1:Int):qKa a0 a1=(
gd (0≤(qqb .u64 (IntKind.wrap .u64 a1) (31:Int)))<|
gd (0≤(IntKind.wrap .u64 ((32:Int) - (qqb .u64 (IntKind.wrap .u64 a1) (31:Int)))))<|
some (qHc .u32 (IntKind.wrap .u32 (qAD .u32 a0 (qqb .u64 (IntKind.wrap .u64 a1) (31:Int)))) (qwi .u32 a0 (IntKind.wrap .u64 ((32:Int) - (qqb .u64 (IntKind.wrap .u64 a1) (31:Int))))))):=(FnI.call_eq (by kernel_rfl)).trans (by kernel_rfl)
noncomputable def qAi (acc:List AV→Bool):Summ Tryz.prog GT:=math_bits_RotateLeft32_I.summ mixed acc false false
noncomputable def sha_mix_I:FnI Tryz.prog GT:={f:=126,cuts:=[],tab:=[],fm:=⟨true,[.val (.int .u32) []]⟩}
noncomputable def qTs (a0:Int) (a1:Int) (a2:Int) (a3:Int):Option (Int):=sha_mix_I.call [(.int .i64 a0),(.int .u32 a1),(.int .u32 a2),(.int .u32 a3)] []
theorem qgy (a0:Int) (a1:Int) (a2:Int) (a3:Int):qTs a0 a1 a2 a3=(
if (a0==(0:Int))=true then
some (qVa .u32 a3 (qqb .u32 a1 (qVa .u32 a2 a3)))
else
if (a0==(2:Int))=true then
some (qHc .u32 (qqb .u32 a1 a2) (qqb .u32 a3 (qHc .u32 a1 a2)))
else
some (qVa .u32 (qVa .u32 a1 a2) a3)):=(FnI.call_eq (by kernel_rfl)).trans (by kernel_rfl)
noncomputable def qxz (acc:List AV→Bool):Summ Tryz.prog GT:=sha_mix_I.summ mixed acc false false
noncomputable def sha_do_I:FnI Tryz.prog GT:={f:=85,cuts:=[⟨(3,3),[2,4,5,16,17,18],false,false,[],[],[]⟩,⟨(9,3),[2,4,5,8,9,10,11,12,45],false,false,[],[],[]⟩],tab:=[qAi (fun _=>true),qxz (fun _=>true)],fm:=⟨true,[.val (.arr 5 (.int .u32)) []]⟩}
noncomputable def qzz (a0:(List Int)) (a1:List Int):Option ((List Int)):=sha_do_I.call [(.agg (.arr 5 (.int .u32)) a0),(.sl (.int .u8) false a1)] []
noncomputable def qmh (v16:List Int) (v17:Int) (v18:Int) (b8:(List Int)) (b9:(List Int)) (b10:(List Int)):Option ((List Int)):=sha_do_I.sem ⟨[.code (cIn (cIn (qga (qHa (qga (qga (qma Tryz.prog 85))))))), .inLoop (cIn (cIn (qga (qHa (qga (qga (qma Tryz.prog 85))))))), .inBlock 0, .code (qga (qga (qga (qma Tryz.prog 85))))],⟨[(2,(.one (.ptr (.arr 5 (.int .u32)) 8 []))),(4,(.one (.ptr (.arr 5 (.int .u32)) 9 []))),(5,(.one (.ptr (.arr 16 (.int .u32)) 10 []))),(16,(.one (.sl (.int .u8) false v16))),(17,(.one (.int .i64 v17))),(18,(.one (.int .i64 v18)))],[(8,some (.box (.arr 5 (.int .u32)) b8)),(9,some (.box (.arr 5 (.int .u32)) b9)),(10,some (.box (.arr 16 (.int .u32)) b10))],11⟩⟩
noncomputable def qQj (v8:Int) (v9:Int) (v10:Int) (v11:Int) (v12:Int) (v45:Int) (b8:(List Int)) (b9:(List Int)) (b10:(List Int)):Option ((List Int)):=sha_do_I.sem ⟨[.code (cIn (cIn (qga (qHa (qga (qga (qga (qga (qma Tryz.prog 85))))))))), .inLoop (cIn (cIn (qga (qHa (qga (qga (qga (qga (qma Tryz.prog 85))))))))), .inBlock 2, .code (qga (qga (qga (qga (qga (qma Tryz.prog 85))))))],⟨[(2,(.one (.ptr (.arr 5 (.int .u32)) 8 []))),(4,(.one (.ptr (.arr 5 (.int .u32)) 9 []))),(5,(.one (.ptr (.arr 16 (.int .u32)) 10 []))),(8,(.one (.int .u32 v8))),(9,(.one (.int .u32 v9))),(10,(.one (.int .u32 v10))),(11,(.one (.int .u32 v11))),(12,(.one (.int .u32 v12))),(45,(.one (.int .i64 v45)))],[(8,some (.box (.arr 5 (.int .u32)) b8)),(9,some (.box (.arr 5 (.int .u32)) b9)),(10,some (.box (.arr 16 (.int .u32)) b10))],11⟩⟩
theorem qyz (a0:(List Int)) (a1:List Int):qzz a0 a1=(
gd (0≤(64:Int))<|
gd ((64:Int)≤(Int.ofNat (List.length a1)))<|
qmh (List.take 64 a1) (Int.ofNat (List.length (List.take 64 a1))) (0:Int) a0 (List.replicate 5 (0:Int)) (List.replicate 16 (0:Int))):=(FnI.call_eq (by kernel_rfl)).trans (by kernel_rfl)
theorem qIo (v16:List Int) (v17:Int) (v18:Int) (b8:(List Int)) (b9:(List Int)) (b10:(List Int)):qmh v16 v17 v18 b8 b9 b10=(
if (decide (v18<v17))=true then
gd (0≤v18)<|
gd (v18<(Int.ofNat (List.length v16)))<|
gd ((4:Int)≠0)<|
gd ((4:Int)≠0)<|
gd (0≤(IntKind.wrap .i64 (Int.tdiv v18 (4:Int))))<|
gd ((IntKind.wrap .i64 (Int.tdiv v18 (4:Int)))<(16:Int))<|
gd (0≤(8:Int))<|
gd (0≤(IntKind.wrap .i64 (Int.tdiv v18 (4:Int))))<|
gd ((IntKind.wrap .i64 (Int.tdiv v18 (4:Int)))<(16:Int))<|
qmh v16 v17 (IntKind.wrap .i64 (v18+(1:Int))) b8 b9 (List.set b10 (Int.toNat (IntKind.wrap .i64 (Int.tdiv v18 (4:Int)))) (qHc .u32 (IntKind.wrap .u32 ((List.getD b10 (Int.toNat (IntKind.wrap .i64 (Int.tdiv v18 (4:Int)))) (0:Int))*(256:Int))) (IntKind.wrap .u32 (List.getD v16 (Int.toNat v18) (0:Int)))))
else
gd (0≤(0:Int))<|
gd ((0:Int)<(5:Int))<|
gd (0≤(1:Int))<|
gd ((1:Int)<(5:Int))<|
gd (0≤(2:Int))<|
gd ((2:Int)<(5:Int))<|
gd (0≤(3:Int))<|
gd ((3:Int)<(5:Int))<|
gd (0≤(4:Int))<|
gd ((4:Int)<(5:Int))<|
qQj (List.getD b8 0 (0:Int)) (List.getD b8 1 (0:Int)) (List.getD b8 2 (0:Int)) (List.getD b8 3 (0:Int)) (List.getD b8 4 (0:Int)) (0:Int) b8 b9 b10):=(FnI.sem_eq _).trans (by kernel_rfl)
theorem qHo (v8:Int) (v9:Int) (v10:Int) (v11:Int) (v12:Int) (v45:Int) (b8:(List Int)) (b9:(List Int)) (b10:(List Int)):qQj v8 v9 v10 v11 v12 v45 b8 b9 b10=(
if (decide (v45<(80:Int)))=true then
if (decide (v45≥(16:Int)))=true then
gd ((16:Int)≠0)<|
gd ((16:Int)≠0)<|
gd (0≤(Int.tmod (IntKind.wrap .i64 (v45+(13:Int))) (16:Int)))<|
gd ((Int.tmod (IntKind.wrap .i64 (v45+(13:Int))) (16:Int))<(16:Int))<|
gd ((16:Int)≠0)<|
gd (0≤(Int.tmod (IntKind.wrap .i64 (v45+(8:Int))) (16:Int)))<|
gd ((Int.tmod (IntKind.wrap .i64 (v45+(8:Int))) (16:Int))<(16:Int))<|
gd ((16:Int)≠0)<|
gd (0≤(Int.tmod (IntKind.wrap .i64 (v45+(2:Int))) (16:Int)))<|
gd ((Int.tmod (IntKind.wrap .i64 (v45+(2:Int))) (16:Int))<(16:Int))<|
gd ((16:Int)≠0)<|
gd (0≤(Int.tmod v45 (16:Int)))<|
gd ((Int.tmod v45 (16:Int))<(16:Int))<|
(qKa (qVa .u32 (qVa .u32 (qVa .u32 (List.getD b10 (Int.toNat (Int.tmod (IntKind.wrap .i64 (v45+(13:Int))) (16:Int))) (0:Int)) (List.getD b10 (Int.toNat (Int.tmod (IntKind.wrap .i64 (v45+(8:Int))) (16:Int))) (0:Int))) (List.getD b10 (Int.toNat (Int.tmod (IntKind.wrap .i64 (v45+(2:Int))) (16:Int))) (0:Int))) (List.getD b10 (Int.toNat (Int.tmod v45 (16:Int))) (0:Int))) (1:Int)).bind fun r1=>
gd (0≤(Int.tmod v45 (16:Int)))<|
gd ((Int.tmod v45 (16:Int))<(16:Int))<|
(qKa v8 (5:Int)).bind fun r2=>
gd ((20:Int)≠0)<|
(qTs (IntKind.wrap .i64 (Int.tdiv v45 (20:Int))) v9 v10 v11).bind fun r3=>
gd ((20:Int)≠0)<|
gd (0≤(IntKind.wrap .i64 (Int.tdiv v45 (20:Int))))<|
gd ((IntKind.wrap .i64 (Int.tdiv v45 (20:Int)))<(4:Int))<|
gd ((16:Int)≠0)<|
gd (0≤(Int.tmod v45 (16:Int)))<|
gd ((Int.tmod v45 (16:Int))<(16:Int))<|
(qKa v9 (30:Int)).bind fun r4=>
qQj (IntKind.wrap .u32 ((IntKind.wrap .u32 ((IntKind.wrap .u32 ((IntKind.wrap .u32 (r2+r3))+v12))+(List.getD G_quarters (Int.toNat (IntKind.wrap .i64 (Int.tdiv v45 (20:Int)))) (0:Int))))+(List.getD (List.set b10 (Int.toNat (Int.tmod v45 (16:Int))) r1) (Int.toNat (Int.tmod v45 (16:Int))) (0:Int)))) v8 r4 v10 v11 (IntKind.wrap .i64 (v45+(1:Int))) b8 b9 (List.set b10 (Int.toNat (Int.tmod v45 (16:Int))) r1)
else
(qKa v8 (5:Int)).bind fun r5=>
gd ((20:Int)≠0)<|
(qTs (IntKind.wrap .i64 (Int.tdiv v45 (20:Int))) v9 v10 v11).bind fun r6=>
gd ((20:Int)≠0)<|
gd (0≤(IntKind.wrap .i64 (Int.tdiv v45 (20:Int))))<|
gd ((IntKind.wrap .i64 (Int.tdiv v45 (20:Int)))<(4:Int))<|
gd ((16:Int)≠0)<|
gd (0≤(Int.tmod v45 (16:Int)))<|
gd ((Int.tmod v45 (16:Int))<(16:Int))<|
(qKa v9 (30:Int)).bind fun r7=>
qQj (IntKind.wrap .u32 ((IntKind.wrap .u32 ((IntKind.wrap .u32 ((IntKind.wrap .u32 (r5+r6))+v12))+(List.getD G_quarters (Int.toNat (IntKind.wrap .i64 (Int.tdiv v45 (20:Int)))) (0:Int))))+(List.getD b10 (Int.toNat (Int.tmod v45 (16:Int))) (0:Int)))) v8 r7 v10 v11 (IntKind.wrap .i64 (v45+(1:Int))) b8 b9 b10
else
gd (0≤(0:Int))<|
gd ((0:Int)<(5:Int))<|
gd (0≤(1:Int))<|
gd ((1:Int)<(5:Int))<|
gd (0≤(2:Int))<|
gd ((2:Int)<(5:Int))<|
gd (0≤(3:Int))<|
gd ((3:Int)<(5:Int))<|
gd (0≤(4:Int))<|
gd ((4:Int)<(5:Int))<|
some (List.set (List.set (List.set (List.set (List.set (List.replicate 5 (0:Int)) 0 (IntKind.wrap .u32 ((List.getD b8 0 (0:Int))+v8))) 1 (IntKind.wrap .u32 ((List.getD b8 1 (0:Int))+v9))) 2 (IntKind.wrap .u32 ((List.getD b8 2 (0:Int))+v10))) 3 (IntKind.wrap .u32 ((List.getD b8 3 (0:Int))+v11))) 4 (IntKind.wrap .u32 ((List.getD b8 4 (0:Int))+v12)))):=(FnI.sem_eq _).trans (by kernel_rfl)
noncomputable def qWB (acc:List AV→Bool):Summ Tryz.prog GT:=sha_do_I.summ mixed acc false false
noncomputable def sha_Sum_I:FnI Tryz.prog GT:={f:=45,cuts:=[⟨(5,3),[2,4,5],false,false,[],[],[]⟩,⟨(9,3),[2,27,28],false,false,[],[],[]⟩],tab:=[qwz (fun _=>true),qni (fun _=>true),qWB (fun _=>true)],fm:=⟨true,[.val (.arr 20 (.int .u8)) [], .val (.int .i64) []]⟩}
noncomputable def qSn (a0:List Int):Option ((List Int)×Int):=sha_Sum_I.call [(.sl (.int .u8) false a0)] []
noncomputable def qdl (v5:List Int) (b8:(List Int)) (b9:(List Int)):Option ((List Int)×Int):=sha_Sum_I.sem ⟨[.code (cIn (cIn (qga (qHa (qga (qga (qga (qma Tryz.prog 45)))))))), .inLoop (cIn (cIn (qga (qHa (qga (qga (qga (qma Tryz.prog 45)))))))), .inBlock 0, .code (qga (qga (qga (qga (qma Tryz.prog 45)))))],⟨[(2,(.one (.ptr (.arr 20 (.int .u8)) 8 []))),(4,(.one (.ptr (.arr 5 (.int .u32)) 9 []))),(5,(.one (.sl (.int .u8) true v5)))],[(8,some (.box (.arr 20 (.int .u8)) b8)),(9,some (.box (.arr 5 (.int .u32)) b9))],10⟩⟩
noncomputable def qcl (v27:(List Int)) (v28:Int) (b8:(List Int)):Option ((List Int)×Int):=sha_Sum_I.sem ⟨[.code (cIn (cIn (qga (qHa (qga (qga (qga (qga (qma Tryz.prog 45))))))))), .inLoop (cIn (cIn (qga (qHa (qga (qga (qga (qga (qma Tryz.prog 45))))))))), .inBlock 2, .code (qga (qga (qga (qga (qga (qma Tryz.prog 45))))))],⟨[(2,(.one (.ptr (.arr 20 (.int .u8)) 8 []))),(27,(.one (.agg (.arr 5 (.int .u32)) v27))),(28,(.one (.int .i64 v28)))],[(8,some (.box (.arr 20 (.int .u8)) b8))],9⟩⟩
theorem qhy (a0:List Int):qSn a0=(
if (decide ((Int.ofNat (List.length a0))>(20000:Int)))=true then
some ((List.replicate 20 (0:Int)),(4:Int))
else
(qLv (Int.ofNat (List.length a0))).bind fun r1=>
(qcd [a0,r1]).bind fun r2=>
qdl r2 (List.replicate 20 (0:Int)) (List.set (List.set (List.set (List.set (List.set (List.replicate 5 (0:Int)) 0 (1732584193:Int)) 1 (4023233417:Int)) 2 (2562383102:Int)) 3 (271733878:Int)) 4 (3285377520:Int))):=(FnI.call_eq (by kernel_rfl)).trans (by kernel_rfl)
theorem qVm (v5:List Int) (b8:(List Int)) (b9:(List Int)):qdl v5 b8 b9=(
if (decide ((Int.ofNat (List.length v5))>(0:Int)))=true then
(qzz b9 v5).bind fun r3=>
gd (0≤(64:Int))<|
gd ((64:Int)≤(Int.ofNat (List.length v5)))<|
qdl (List.drop 64 v5) b8 r3
else
qcl b9 (0:Int) b8):=(FnI.sem_eq _).trans (by kernel_rfl)
theorem qUm (v27:(List Int)) (v28:Int) (b8:(List Int)):qcl v27 v28 b8=(
if (decide (v28<(5:Int)))=true then
gd (0≤v28)<|
gd (v28<(5:Int))<|
gd (0≤(24:Int))<|
gd (0≤(16:Int))<|
gd (0≤(8:Int))<|
gd (0≤(IntKind.wrap .i64 ((4:Int)*v28)))<|
gd ((IntKind.wrap .i64 ((4:Int)*v28))<(20:Int))<|
gd (0≤(IntKind.wrap .i64 ((IntKind.wrap .i64 ((4:Int)*v28))+(1:Int))))<|
gd ((IntKind.wrap .i64 ((IntKind.wrap .i64 ((4:Int)*v28))+(1:Int)))<(20:Int))<|
gd (0≤(IntKind.wrap .i64 ((IntKind.wrap .i64 ((4:Int)*v28))+(2:Int))))<|
gd ((IntKind.wrap .i64 ((IntKind.wrap .i64 ((4:Int)*v28))+(2:Int)))<(20:Int))<|
gd (0≤(IntKind.wrap .i64 ((IntKind.wrap .i64 ((4:Int)*v28))+(3:Int))))<|
gd ((IntKind.wrap .i64 ((IntKind.wrap .i64 ((4:Int)*v28))+(3:Int)))<(20:Int))<|
qcl v27 (IntKind.wrap .i64 (v28+(1:Int))) (List.set (List.set (List.set (List.set b8 (Int.toNat (IntKind.wrap .i64 ((4:Int)*v28))) (IntKind.wrap .u8 (Int.fdiv (List.getD v27 (Int.toNat v28) (0:Int)) (16777216:Int)))) (Int.toNat (IntKind.wrap .i64 ((IntKind.wrap .i64 ((4:Int)*v28))+(1:Int)))) (IntKind.wrap .u8 (Int.fdiv (List.getD v27 (Int.toNat v28) (0:Int)) (65536:Int)))) (Int.toNat (IntKind.wrap .i64 ((IntKind.wrap .i64 ((4:Int)*v28))+(2:Int)))) (IntKind.wrap .u8 (Int.fdiv (List.getD v27 (Int.toNat v28) (0:Int)) (256:Int)))) (Int.toNat (IntKind.wrap .i64 ((IntKind.wrap .i64 ((4:Int)*v28))+(3:Int)))) (IntKind.wrap .u8 (List.getD v27 (Int.toNat v28) (0:Int))))
else
some (b8,(0:Int))):=(FnI.sem_eq _).trans (by kernel_rfl)
noncomputable def qWm (acc:List AV→Bool):Summ Tryz.prog GT:=sha_Sum_I.summ mixed acc false false
noncomputable def member_digest_I:FnI Tryz.prog GT:={f:=76,cuts:=[],tab:=[qWm (fun _=>true)],fm:=⟨true,[.val (.arr 20 (.int .u8)) []]⟩}
noncomputable def qdj (a0:List Int):Option ((List Int)):=member_digest_I.call [(.sl (.int .u8) false a0)] []
theorem qop (a0:List Int):qdj a0=(
(qSn a0).bind fun r1=>
some (r1.1)):=(FnI.call_eq (by kernel_rfl)).trans (by kernel_rfl)
noncomputable def qJq (acc:List AV→Bool):Summ Tryz.prog GT:=member_digest_I.summ mixed acc false false
noncomputable def member_twice_I:FnI Tryz.prog GT:={f:=77,cuts:=[⟨(3,3),[3,7,8,9],false,false,[],[],[]⟩],tab:=[],fm:=⟨true,[.val .bool []]⟩}
noncomputable def qek (a0:List ByteArray):Option (Bool):=member_twice_I.call [(.sl .str false a0)] []
noncomputable def qrf (v7:List ByteArray) (v8:Int) (v9:Int) (m8:List (ByteArray×Bool)):Option (Bool):=member_twice_I.sem ⟨[.code (cIn (cIn (qga (qHa (qga (qga (qma Tryz.prog 77))))))), .inLoop (cIn (cIn (qga (qHa (qga (qga (qma Tryz.prog 77))))))), .inBlock 0, .code (qga (qga (qga (qma Tryz.prog 77))))],⟨[(3,(.one (.mapr 8))),(7,(.one (.sl .str false v7))),(8,(.one (.int .i64 v8))),(9,(.one (.int .i64 v9)))],[(8,some (.map .str .bool m8))],9⟩⟩
theorem qHq (a0:List ByteArray):qek a0=(
qrf a0 (Int.ofNat (List.length a0)) (0:Int) []):=(FnI.call_eq (by kernel_rfl)).trans (by kernel_rfl)
theorem qWh (v7:List ByteArray) (v8:Int) (v9:Int) (m8:List (ByteArray×Bool)):qrf v7 v8 v9 m8=(
if (decide (v9<v8))=true then
gd (0≤v9)<|
gd (v9<(Int.ofNat (List.length v7)))<|
if (Option.getD (qlp (peq .str) (List.getD v7 (Int.toNat v9) ByteArray.empty) m8) false)=true then
some (true)
else
qrf v7 v8 (IntKind.wrap .i64 (v9+(1:Int))) (qEu (peq .str) (List.getD v7 (Int.toNat v9) ByteArray.empty) true m8)
else
some (false)):=(FnI.sem_eq _).trans (by kernel_rfl)
noncomputable def qTr (acc:List AV→Bool):Summ Tryz.prog GT:=member_twice_I.summ mixed acc false false
noncomputable def member_Valid_I:FnI Tryz.prog GT:={f:=41,cuts:=[⟨(6,3),[3,4,10,11,12],false,false,[],[],[]⟩],tab:=[qIq (fun _=>true),qJq (fun _=>true),qTr (fun _=>true)],fm:=⟨true,[.val (.int .i64) []]⟩}
noncomputable def qPd (a0:List qaa):Option (Int):=member_Valid_I.call [(.sl qba false a0)] []
noncomputable def qOd (v3:Int) (v10:List qaa) (v11:Int) (v12:Int) (h8:List ByteArray):Option (Int):=member_Valid_I.sem ⟨[.code (cIn (cIn (qga (qHa (qga (qga (qga (qga (qma Tryz.prog 41))))))))), .inLoop (cIn (cIn (qga (qHa (qga (qga (qga (qga (qma Tryz.prog 41))))))))), .inBlock 0, .code (qga (qga (qga (qga (qga (qma Tryz.prog 41))))))],⟨[(3,(.one (.int .i64 v3))),(4,(.one (.ref .str 8 0 (List.length h8) true))),(10,(.one (.sl qba false v10))),(11,(.one (.int .i64 v11))),(12,(.one (.int .i64 v12)))],[(8,some (.row .str true h8))],9⟩⟩
theorem qLq (a0:List qaa):qPd a0=(
if (decide ((Int.ofNat (List.length a0))>(16:Int)))=true then
some (4:Int)
else
qOd (0:Int) a0 (Int.ofNat (List.length a0)) (0:Int) []):=(FnI.call_eq (by kernel_rfl)).trans (by kernel_rfl)
theorem qYh (v3:Int) (v10:List qaa) (v11:Int) (v12:Int) (h8:List ByteArray):qOd v3 v10 v11 v12 h8=(
if (decide (v12<v11))=true then
gd (0≤v12)<|
gd (v12<(Int.ofNat (List.length v10)))<|
(qcj (List.getD v10 (Int.toNat v12) (qja qba)).1).bind fun r1=>
if (not r1)=true then
some (8:Int)
else
if (decide ((List.getD v10 (Int.toNat v12) (qja qba)).2.1<(0:Int)))=true then
some (8:Int)
else
if (decide ((List.getD v10 (Int.toNat v12) (qja qba)).2.1>(8192:Int)))=true then
some (8:Int)
else
if ((List.getD v10 (Int.toNat v12) (qja qba)).2.1==(0:Int))=true then
(qdj []).bind fun r2=>
if (not (peq (.arr 20 (.int .u8)) (List.getD v10 (Int.toNat v12) (qja qba)).2.2.1 r2))=true then
some (8:Int)
else
gd ((List.length (h8++[(List.getD v10 (Int.toNat v12) (qja qba)).1]))*16≤140737488355328)<|
qOd (IntKind.wrap .i64 (v3+(List.getD v10 (Int.toNat v12) (qja qba)).2.1)) v10 v11 (IntKind.wrap .i64 (v12+(1:Int))) (h8++[(List.getD v10 (Int.toNat v12) (qja qba)).1])
else
gd ((List.length (h8++[(List.getD v10 (Int.toNat v12) (qja qba)).1]))*16≤140737488355328)<|
qOd (IntKind.wrap .i64 (v3+(List.getD v10 (Int.toNat v12) (qja qba)).2.1)) v10 v11 (IntKind.wrap .i64 (v12+(1:Int))) (h8++[(List.getD v10 (Int.toNat v12) (qja qba)).1])
else
if (decide (v3>(8192:Int)))=true then
some (4:Int)
else
(qek h8).bind fun r3=>
if r3=true then
some (14:Int)
else
some (0:Int)):=(FnI.sem_eq _).trans (by kernel_rfl)
noncomputable def qqe (acc:List AV→Bool):Summ Tryz.prog GT:=member_Valid_I.summ mixed acc false false
noncomputable def member_Read_I:FnI Tryz.prog GT:={f:=90,cuts:=[⟨(8,3),[7,8,27,28],false,false,[],[],[]⟩],tab:=[(qAj (fun _=>true)).dropping,qtw (fun _=>true),qqe (fun _=>true)],fm:=⟨true,[.val (.slice qba) [.nw], .val (.int .i64) [], .val (.int .i64) []]⟩}
noncomputable def qpm (a0:List Int) (a1:Int):Option (List qaa×Int×Int):=member_Read_I.call [(.sl (.int .u8) false a0),(.int .i64 a1)] []
noncomputable def qmg (v27:Int) (v28:Int) (b8:qJb) (h9:List qaa):Option (List qaa×Int×Int):=member_Read_I.sem ⟨[.code (cIn (cIn (qga (qHa (qga (qga (qga (qga (qma Tryz.prog 90))))))))), .inLoop (cIn (cIn (qga (qHa (qga (qga (qga (qga (qma Tryz.prog 90))))))))), .inBlock 1, .code (qga (qga (qga (qga (qga (qma Tryz.prog 90))))))],⟨[(7,(.one (.ptr qfb 8 []))),(8,(.one (.ref qba 9 0 (List.length h9) true))),(27,(.one (.int .i64 v27))),(28,(.one (.int .i64 v28)))],[(8,some (.box qfb (inj false qfb b8))),(9,some (.row qba true h9))],10⟩⟩
theorem qVr (a0:List Int) (a1:Int):qpm a0 a1=(
if (decide (a1<(0:Int)))=true then
some ([],((0:Int),(2:Int)))
else
if (decide (a1>(16:Int)))=true then
some ([],((0:Int),(2:Int)))
else
if (decide ((Int.ofNat (List.length a0))>(50000:Int)))=true then
some ([],((0:Int),(4:Int)))
else
qmg a1 (0:Int) ((a0,((0:Int),())),()) []):=(FnI.call_eq (by kernel_rfl)).trans (by kernel_rfl)
theorem qyi (v27:Int) (v28:Int) (b8:qJb) (h9:List qaa):qmg v27 v28 b8 h9=(
if (decide (v28<v27))=true then
(qLc b8).bind fun r1=>
(qIi r1.2.1 (0:Int)).bind fun r2=>
if r2.1=true then
some ([],((0:Int),r2.2))
else
gd ((List.length (h9++[r1.1]))*48≤140737488355328)<|
qmg v27 (IntKind.wrap .i64 (v28+(1:Int))) r1.2.2 (h9++[r1.1])
else
(qPd h9).bind fun r3=>
if (r3 != (0:Int))=true then
some ([],((0:Int),(12:Int)))
else
some (h9,(b8.1.2.1,(0:Int)))):=(FnI.sem_eq _).trans (by kernel_rfl)
noncomputable def qht (acc:List AV→Bool):Summ Tryz.prog GT:=member_Read_I.summ mixed acc false false
noncomputable def member_Write_I:FnI Tryz.prog GT:={f:=60,cuts:=[⟨(6,3),[5,13,14,15],false,false,[],[],[]⟩],tab:=[qqe (fun _=>true)],fm:=⟨true,[.val (.slice (.int .u8)) [.nw], .val (.int .i64) []]⟩}
noncomputable def qgk (a0:List qaa):Option (List Int×Int):=member_Write_I.call [(.sl qba false a0)] []
noncomputable def qtf (v13:List qaa) (v14:Int) (v15:Int) (h8:List Int):Option (List Int×Int):=member_Write_I.sem ⟨[.code (cIn (cIn (qga (qHa (qga (qga (qga (qma Tryz.prog 60)))))))), .inLoop (cIn (cIn (qga (qHa (qga (qga (qga (qma Tryz.prog 60)))))))), .inBlock 0, .code (qga (qga (qga (qga (qma Tryz.prog 60)))))],⟨[(5,(.one (.ref (.int .u8) 8 0 (List.length h8) true))),(13,(.one (.sl qba false v13))),(14,(.one (.int .i64 v14))),(15,(.one (.int .i64 v15)))],[(8,some (.row (.int .u8) true h8))],9⟩⟩
theorem qKq (a0:List qaa):qgk a0=(
(qPd a0).bind fun r1=>
if (r1 != (0:Int))=true then
some ([],r1)
else
qtf a0 (Int.ofNat (List.length a0)) (0:Int) []):=(FnI.call_eq (by kernel_rfl)).trans (by kernel_rfl)
theorem qXh (v13:List qaa) (v14:Int) (v15:Int) (h8:List Int):qtf v13 v14 v15 h8=(
if (decide (v15<v14))=true then
gd (0≤v15)<|
gd (v15<(Int.ofNat (List.length v13)))<|
gd ((List.length (h8++[(IntKind.wrap .u8 (Int.ofNat (ByteArray.size (List.getD v13 (Int.toNat v15) (qja qba)).1)))]))*1≤140737488355328)<|
gd ((List.length ((h8++[(IntKind.wrap .u8 (Int.ofNat (ByteArray.size (List.getD v13 (Int.toNat v15) (qja qba)).1)))])++(qCb (List.getD v13 (Int.toNat v15) (qja qba)).1)))*1≤140737488355328)<|
gd (0≤(8:Int))<|
gd ((List.length (((h8++[(IntKind.wrap .u8 (Int.ofNat (ByteArray.size (List.getD v13 (Int.toNat v15) (qja qba)).1)))])++(qCb (List.getD v13 (Int.toNat v15) (qja qba)).1))++[(IntKind.wrap .u8 (Int.fdiv (List.getD v13 (Int.toNat v15) (qja qba)).2.1 (256:Int))),(IntKind.wrap .u8 (List.getD v13 (Int.toNat v15) (qja qba)).2.1)]))*1≤140737488355328)<|
gd ((List.length ((((h8++[(IntKind.wrap .u8 (Int.ofNat (ByteArray.size (List.getD v13 (Int.toNat v15) (qja qba)).1)))])++(qCb (List.getD v13 (Int.toNat v15) (qja qba)).1))++[(IntKind.wrap .u8 (Int.fdiv (List.getD v13 (Int.toNat v15) (qja qba)).2.1 (256:Int))),(IntKind.wrap .u8 (List.getD v13 (Int.toNat v15) (qja qba)).2.1)])++(List.take 20 (List.drop 0 (List.getD v13 (Int.toNat v15) (qja qba)).2.2.1))))*1≤140737488355328)<|
qtf v13 v14 (IntKind.wrap .i64 (v15+(1:Int))) ((((h8++[(IntKind.wrap .u8 (Int.ofNat (ByteArray.size (List.getD v13 (Int.toNat v15) (qja qba)).1)))])++(qCb (List.getD v13 (Int.toNat v15) (qja qba)).1))++[(IntKind.wrap .u8 (Int.fdiv (List.getD v13 (Int.toNat v15) (qja qba)).2.1 (256:Int))),(IntKind.wrap .u8 (List.getD v13 (Int.toNat v15) (qja qba)).2.1)])++(List.take 20 (List.drop 0 (List.getD v13 (Int.toNat v15) (qja qba)).2.2.1)))
else
some (h8,(0:Int))):=(FnI.sem_eq _).trans (by kernel_rfl)
noncomputable def qUr (acc:List AV→Bool):Summ Tryz.prog GT:=member_Write_I.summ mixed acc false false
noncomputable def pack_Head_I:FnI Tryz.prog GT:={f:=36,cuts:=[],tab:=[qck (fun _=>true),qUr (fun _=>true),qWm (fun _=>true)],fm:=⟨true,[.val (.slice (.int .u8)) [.nw], .val (.int .i64) []]⟩}
noncomputable def qfn (a0:qoa) (a1:List qaa):Option (List Int×Int):=pack_Head_I.call [(.agg qxa (inj false qxa a0)),(.sl qba false a1)] []
theorem qxu (a0:qoa) (a1:List qaa):qfn a0 a1=(
(qxi a0).bind fun r1=>
if (r1 != (0:Int))=true then
some ([],r1)
else
(qgk a1).bind fun r2=>
if (r2.2 != (0:Int))=true then
some ([],r2.2)
else
gd (0≤(8:Int))<|
gd ((List.length ([(66:Int),(76:Int),(70:Int),(1:Int),(IntKind.wrap .u8 a0.1),(IntKind.wrap .u8 (Int.fdiv a0.2.1 (256:Int))),(IntKind.wrap .u8 a0.2.1),(IntKind.wrap .u8 (Int.ofNat (List.length a1)))]++r2.1))*1≤140737488355328)<|
(qSn ([(66:Int),(76:Int),(70:Int),(1:Int),(IntKind.wrap .u8 a0.1),(IntKind.wrap .u8 (Int.fdiv a0.2.1 (256:Int))),(IntKind.wrap .u8 a0.2.1),(IntKind.wrap .u8 (Int.ofNat (List.length a1)))]++r2.1)).bind fun r3=>
gd ((List.length (([(66:Int),(76:Int),(70:Int),(1:Int),(IntKind.wrap .u8 a0.1),(IntKind.wrap .u8 (Int.fdiv a0.2.1 (256:Int))),(IntKind.wrap .u8 a0.2.1),(IntKind.wrap .u8 (Int.ofNat (List.length a1)))]++r2.1)++(List.take 20 (List.drop 0 r3.1))))*1≤140737488355328)<|
some ((([(66:Int),(76:Int),(70:Int),(1:Int),(IntKind.wrap .u8 a0.1),(IntKind.wrap .u8 (Int.fdiv a0.2.1 (256:Int))),(IntKind.wrap .u8 a0.2.1),(IntKind.wrap .u8 (Int.ofNat (List.length a1)))]++r2.1)++(List.take 20 (List.drop 0 r3.1))),(0:Int))):=(FnI.call_eq (by kernel_rfl)).trans (by kernel_rfl)
noncomputable def qxq (acc:List AV→Bool):Summ Tryz.prog GT:=pack_Head_I.summ mixed acc false false
noncomputable def list_Head_I:FnI Tryz.prog GT:={f:=55,cuts:=[],tab:=[qJi (fun _=>true),qck (fun _=>true),qht (fun _=>true),qxq (fun _=>true)],fm:=⟨true,[.val qxa [], .val (.slice qba) [.nw], .val (.int .i64) [], .val (.int .i64) []]⟩}
noncomputable def qWq (a0:List Int):Option (qoa×List qaa×Int×Int):=list_Head_I.call [(.sl (.int .u8) false a0)] []
theorem qNu (a0:List Int):qWq a0=(
if (decide ((Int.ofNat (List.length a0))>(50000:Int)))=true then
some (((0:Int),((0:Int),())),([],((0:Int),(4:Int))))
else
if (decide ((Int.ofNat (List.length a0))<(8:Int)))=true then
some (((0:Int),((0:Int),())),([],((0:Int),(18:Int))))
else
gd (0≤(4:Int))<|
gd ((4:Int)<(Int.ofNat (List.length a0)))<|
gd (0≤(5:Int))<|
gd ((5:Int)<(Int.ofNat (List.length a0)))<|
gd (0≤(8:Int))<|
gd (0≤(6:Int))<|
gd ((6:Int)<(Int.ofNat (List.length a0)))<|
(qTd a0 [(66:Int),(76:Int),(70:Int),(1:Int)]).bind fun r1=>
if (not r1)=true then
some (((0:Int),((0:Int),())),([],((0:Int),(12:Int))))
else
(qxi ((IntKind.wrap .i64 (List.getD a0 4 (0:Int))),((qHc .i64 (IntKind.wrap .i64 ((IntKind.wrap .i64 (List.getD a0 5 (0:Int)))*(256:Int))) (IntKind.wrap .i64 (List.getD a0 6 (0:Int)))),()))).bind fun r2=>
if (r2 != (0:Int))=true then
some (((0:Int),((0:Int),())),([],((0:Int),(12:Int))))
else
gd (0≤(7:Int))<|
gd ((7:Int)<(Int.ofNat (List.length a0)))<|
if (decide ((List.getD a0 7 (0:Int))>(16:Int)))=true then
some (((0:Int),((0:Int),())),([],((0:Int),(12:Int))))
else
gd (0≤(8:Int))<|
gd ((8:Int)≤(Int.ofNat (List.length a0)))<|
gd (0≤(7:Int))<|
gd ((7:Int)<(Int.ofNat (List.length a0)))<|
(qpm (List.drop 8 a0) (IntKind.wrap .i64 (List.getD a0 7 (0:Int)))).bind fun r3=>
if (r3.2.2 != (0:Int))=true then
some (((0:Int),((0:Int),())),([],((0:Int),r3.2.2)))
else
(qfn ((IntKind.wrap .i64 (List.getD a0 4 (0:Int))),((qHc .i64 (IntKind.wrap .i64 ((IntKind.wrap .i64 (List.getD a0 5 (0:Int)))*(256:Int))) (IntKind.wrap .i64 (List.getD a0 6 (0:Int)))),())) r3.1).bind fun r4=>
if (decide ((IntKind.wrap .i64 ((IntKind.wrap .i64 ((Int.ofNat (List.length a0)) - (8:Int))) - r3.2.1))<(20:Int)))=true then
some (((0:Int),((0:Int),())),([],((0:Int),(18:Int))))
else
(qTd a0 r4.1).bind fun r5=>
if (not r5)=true then
some (((0:Int),((0:Int),())),([],((0:Int),(22:Int))))
else
some (((IntKind.wrap .i64 (List.getD a0 4 (0:Int))),((qHc .i64 (IntKind.wrap .i64 ((IntKind.wrap .i64 (List.getD a0 5 (0:Int)))*(256:Int))) (IntKind.wrap .i64 (List.getD a0 6 (0:Int)))),())),(r3.1,((Int.ofNat (List.length r4.1)),(0:Int))))):=(FnI.call_eq (by kernel_rfl)).trans (by kernel_rfl)
noncomputable def qew (acc:List AV→Bool):Summ Tryz.prog GT:=list_Head_I.summ mixed acc false false
noncomputable def split_check_1_I:FnI Tryz.prog GT:={f:=192,cuts:=[],tab:=[],fm:=⟨true,[.val .bool []]⟩}
noncomputable def qRm (a0:Int):Option (Bool):=split_check_1_I.call [(.int .i64 a0)] []
theorem qep (a0:Int):qRm a0=(
some (decide (a0<(0:Int)))):=(FnI.call_eq (by kernel_rfl)).trans (by kernel_rfl)
noncomputable def qaq (acc:List AV→Bool):Summ Tryz.prog GT:=split_check_1_I.summ mixed acc false false
noncomputable def slices_IndexFunc_int_int_I:FnI Tryz.prog GT:={f:=261,cuts:=[⟨(2,3),[0,1,7,8],false,false,[],[],[]⟩],tab:=[qaq (fun _=>true)],fm:=⟨true,[.val (.int .i64) []]⟩}
noncomputable def qQc (a0:List Int):Option (Int):=slices_IndexFunc_int_int_I.call [(.sl (.int .i64) false a0),(.func 192 [])] []
noncomputable def qob (v0:List Int) (v7:Int) (v8:Int):Option (Int):=slices_IndexFunc_int_int_I.sem ⟨[.code (cIn (cIn (qga (qHa (qga (qma Tryz.prog 261)))))), .inLoop (cIn (cIn (qga (qHa (qga (qma Tryz.prog 261)))))), .inBlock 0, .code (qga (qga (qma Tryz.prog 261)))],⟨[(0,(.one (.sl (.int .i64) false v0))),(1,(.one (.func 192 []))),(7,(.one (.int .i64 v7))),(8,(.one (.int .i64 v8)))],[],8⟩⟩
theorem qlh (a0:List Int):qQc a0=(
qob a0 (Int.ofNat (List.length a0)) (0:Int)):=(FnI.call_eq (by kernel_rfl)).trans (by kernel_rfl)
theorem qXc (v0:List Int) (v7:Int) (v8:Int):qob v0 v7 v8=(
if (decide (v8<v7))=true then
gd (0≤v8)<|
gd (v8<(Int.ofNat (List.length v0)))<|
(qRm (List.getD v0 (Int.toNat v8) (0:Int))).bind fun r1=>
if r1=true then
some (v8)
else
qob v0 v7 (IntKind.wrap .i64 (v8+(1:Int)))
else
some (-1:Int)):=(FnI.sem_eq _).trans (by kernel_rfl)
noncomputable def qKh (acc:List AV→Bool):Summ Tryz.prog GT:=slices_IndexFunc_int_int_I.summ mixed acc false false
noncomputable def slices_ContainsFunc_int_int_I:FnI Tryz.prog GT:={f:=191,cuts:=[],tab:=[qKh (fun _=>true)],fm:=⟨true,[.val .bool []]⟩}
noncomputable def qNd (a0:List Int):Option (Bool):=slices_ContainsFunc_int_int_I.call [(.sl (.int .i64) false a0),(.func 192 [])] []
theorem qvg (a0:List Int):qNd a0=(
(qQc a0).bind fun r1=>
some (decide (r1≥(0:Int)))):=(FnI.call_eq (by kernel_rfl)).trans (by kernel_rfl)
noncomputable def qJg (acc:List AV→Bool):Summ Tryz.prog GT:=slices_ContainsFunc_int_int_I.summ mixed acc false false
noncomputable def split_check_I:FnI Tryz.prog GT:={f:=129,cuts:=[⟨(7,3),[3,11,12,13],false,false,[],[],[]⟩],tab:=[qJg (fun _=>true)],fm:=⟨true,[.val (.int .i64) []]⟩}
noncomputable def qhm (a0:List Int):Option (Int):=split_check_I.call [(.sl (.int .i64) false a0)] []
noncomputable def qkg (v3:Int) (v11:List Int) (v12:Int) (v13:Int):Option (Int):=split_check_I.sem ⟨[.code (cIn (cIn (qga (qHa (qga (qga (qga (qga (qma Tryz.prog 129))))))))), .inLoop (cIn (cIn (qga (qHa (qga (qga (qga (qga (qma Tryz.prog 129))))))))), .inBlock 0, .code (qga (qga (qga (qga (qga (qma Tryz.prog 129))))))],⟨[(3,(.one (.int .i64 v3))),(11,(.one (.sl (.int .i64) false v11))),(12,(.one (.int .i64 v12))),(13,(.one (.int .i64 v13)))],[],8⟩⟩
theorem qOr (a0:List Int):qhm a0=(
(qNd a0).bind fun r1=>
if r1=true then
some (8:Int)
else
if (decide ((Int.ofNat (List.length a0))>(16:Int)))=true then
some (4:Int)
else
qkg (0:Int) a0 (Int.ofNat (List.length a0)) (0:Int)):=(FnI.call_eq (by kernel_rfl)).trans (by kernel_rfl)
theorem qui (v3:Int) (v11:List Int) (v12:Int) (v13:Int):qkg v3 v11 v12 v13=(
if (decide (v13<v12))=true then
gd (0≤v13)<|
gd (v13<(Int.ofNat (List.length v11)))<|
if (decide ((IntKind.wrap .i64 (v3+(if (8193:Int)<(List.getD v11 (Int.toNat v13) (0:Int)) then (8193:Int) else (List.getD v11 (Int.toNat v13) (0:Int)))))>(8192:Int)))=true then
some (4:Int)
else
qkg (IntKind.wrap .i64 (v3+(if (8193:Int)<(List.getD v11 (Int.toNat v13) (0:Int)) then (8193:Int) else (List.getD v11 (Int.toNat v13) (0:Int))))) v11 v12 (IntKind.wrap .i64 (v13+(1:Int)))
else
some (0:Int)):=(FnI.sem_eq _).trans (by kernel_rfl)
noncomputable def qSs (acc:List AV→Bool):Summ Tryz.prog GT:=split_check_I.summ mixed acc false false
noncomputable def split_Pieces_I:FnI Tryz.prog GT:={f:=91,cuts:=[⟨(8,3),[1,7,22,23,24],false,false,[],[],[]⟩,⟨(11,7),[1,7,8,9,10,22,23,24],false,false,[],[],[]⟩],tab:=[qSs (fun _=>true)],fm:=⟨true,[.val (.slice qca) [.nw], .val (.int .i64) []]⟩}
noncomputable def qOj (a0:List Int) (a1:Int):Option (List qia×Int):=split_Pieces_I.call [(.sl (.int .i64) false a0),(.int .i64 a1)] []
noncomputable def qId (v1:Int) (v22:List Int) (v23:Int) (v24:Int) (h8:List qia):Option (List qia×Int):=split_Pieces_I.sem ⟨[.code (cIn (cIn (qga (qHa (qga (qga (qga (qga (qma Tryz.prog 91))))))))), .inLoop (cIn (cIn (qga (qHa (qga (qga (qga (qga (qma Tryz.prog 91))))))))), .inBlock 0, .code (qga (qga (qga (qga (qga (qma Tryz.prog 91))))))],⟨[(1,(.one (.int .i64 v1))),(7,(.one (.ref qca 8 0 (List.length h8) true))),(22,(.one (.sl (.int .i64) false v22))),(23,(.one (.int .i64 v23))),(24,(.one (.int .i64 v24)))],[(8,some (.row qca true h8))],9⟩⟩
noncomputable def qmf (v1:Int) (v8:Int) (v9:Int) (v10:Int) (v22:List Int) (v23:Int) (v24:Int) (h8:List qia):Option (List qia×Int):=split_Pieces_I.sem ⟨[.code (cIn (cIn (qga (qga (cIn (qHa (qga (qga (cIn (cIn (qga (qHa (qga (qga (qga (qga (qma Tryz.prog 91))))))))))))))))), .inLoop (cIn (cIn (qga (qga (cIn (qHa (qga (qga (cIn (cIn (qga (qHa (qga (qga (qga (qga (qma Tryz.prog 91))))))))))))))))), .inBlock 2, .inBlock 1, .code (qga (qga (qga (cIn (cIn (qga (qHa (qga (qga (qga (qga (qma Tryz.prog 91)))))))))))), .inLoop (cIn (cIn (qga (qHa (qga (qga (qga (qga (qma Tryz.prog 91))))))))), .inBlock 0, .code (qga (qga (qga (qga (qga (qma Tryz.prog 91))))))],⟨[(1,(.one (.int .i64 v1))),(7,(.one (.ref qca 8 0 (List.length h8) true))),(8,(.one (.int .i64 v8))),(9,(.one (.int .i64 v9))),(10,(.one (.int .i64 v10))),(22,(.one (.sl (.int .i64) false v22))),(23,(.one (.int .i64 v23))),(24,(.one (.int .i64 v24)))],[(8,some (.row qca true h8))],9⟩⟩
theorem qcq (a0:List Int) (a1:Int):qOj a0 a1=(
(qhm a0).bind fun r1=>
if (r1 != (0:Int))=true then
some ([],r1)
else
if (decide (a1<(16:Int)))=true then
some ([],(2:Int))
else
if (decide (a1>(4096:Int)))=true then
some ([],(2:Int))
else
qId a1 a0 (Int.ofNat (List.length a0)) (0:Int) []):=(FnI.call_eq (by kernel_rfl)).trans (by kernel_rfl)
theorem qQh (v1:Int) (v22:List Int) (v23:Int) (v24:Int) (h8:List qia):qId v1 v22 v23 v24 h8=(
if (decide (v24<v23))=true then
gd (0≤v24)<|
gd (v24<(Int.ofNat (List.length v22)))<|
qmf v1 v24 (List.getD v22 (Int.toNat v24) (0:Int)) (0:Int) v22 v23 v24 h8
else
some (h8,(0:Int))):=(FnI.sem_eq _).trans (by kernel_rfl)
theorem qPh (v1:Int) (v8:Int) (v9:Int) (v10:Int) (v22:List Int) (v23:Int) (v24:Int) (h8:List qia):qmf v1 v8 v9 v10 v22 v23 v24 h8=(
if (decide (v10<v9))=true then
gd ((List.length (h8++[(v8,(v10,((if v1<(IntKind.wrap .i64 (v9 - v10)) then v1 else (IntKind.wrap .i64 (v9 - v10))),())))]))*24≤140737488355328)<|
qmf v1 v8 v9 (IntKind.wrap .i64 (v10+v1)) v22 v23 v24 (h8++[(v8,(v10,((if v1<(IntKind.wrap .i64 (v9 - v10)) then v1 else (IntKind.wrap .i64 (v9 - v10))),())))])
else
qId v1 v22 v23 (IntKind.wrap .i64 (v24+(1:Int))) h8):=(FnI.sem_eq _).trans (by kernel_rfl)
noncomputable def qPr (acc:List AV→Bool):Summ Tryz.prog GT:=split_Pieces_I.summ mixed acc false false
noncomputable def list_pieces_I:FnI Tryz.prog GT:={f:=56,cuts:=[⟨(3,3),[2,5,10,11,12],false,false,[],[],[]⟩],tab:=[qPr (fun _=>true)],fm:=⟨true,[.val (.slice qca) [.nw]]⟩}
noncomputable def qfj (a0:qoa) (a1:List qaa):Option (List qia):=list_pieces_I.call [(.agg qxa (inj false qxa a0)),(.sl qba false a1)] []
noncomputable def qog (v10:List qaa) (v11:Int) (v12:Int) (b8:qoa) (h9:List Int):Option (List qia):=list_pieces_I.sem ⟨[.code (cIn (cIn (qga (qHa (qga (qga (qma Tryz.prog 56))))))), .inLoop (cIn (cIn (qga (qHa (qga (qga (qma Tryz.prog 56))))))), .inBlock 0, .code (qga (qga (qga (qma Tryz.prog 56))))],⟨[(2,(.one (.ptr qxa 8 []))),(5,(.one (.ref (.int .i64) 9 0 (List.length h9) true))),(10,(.one (.sl qba false v10))),(11,(.one (.int .i64 v11))),(12,(.one (.int .i64 v12)))],[(8,some (.box qxa (inj false qxa b8))),(9,some (.row (.int .i64) true h9))],10⟩⟩
theorem qZr (a0:qoa) (a1:List qaa):qfj a0 a1=(
qog a1 (Int.ofNat (List.length a1)) (0:Int) a0 []):=(FnI.call_eq (by kernel_rfl)).trans (by kernel_rfl)
theorem qCi (v10:List qaa) (v11:Int) (v12:Int) (b8:qoa) (h9:List Int):qog v10 v11 v12 b8 h9=(
if (decide (v12<v11))=true then
gd (0≤v12)<|
gd (v12<(Int.ofNat (List.length v10)))<|
gd ((List.length (h9++[(List.getD v10 (Int.toNat v12) (qja qba)).2.1]))*8≤140737488355328)<|
qog v10 v11 (IntKind.wrap .i64 (v12+(1:Int))) b8 (h9++[(List.getD v10 (Int.toNat v12) (qja qba)).2.1])
else
(qOj h9 b8.2.1).bind fun r1=>
some (r1.1)):=(FnI.sem_eq _).trans (by kernel_rfl)
noncomputable def qln (acc:List AV→Bool):Summ Tryz.prog GT:=list_pieces_I.summ mixed acc false false
noncomputable def header_Check_I:FnI Tryz.prog GT:={f:=59,cuts:=[],tab:=[],fm:=⟨true,[.val (.int .i64) []]⟩}
noncomputable def qTe (a0:qha):Option (Int):=header_Check_I.call [(.agg qka (inj false qka a0))] []
theorem qgr (a0:qha):qTe a0=(
if (decide (a0.2.1<(0:Int)))=true then
some (8:Int)
else
if (decide (a0.2.1≥(16:Int)))=true then
if (decide (a0.2.1≥(16:Int)))=true then
some (8:Int)
else
if (a0.1==(1:Int))=true then
if (a0.2.2.2.2.1==a0.2.2.2.1)=true then
if (a0.2.2.2.2.1==a0.2.2.2.1)=true then
some (0:Int)
else
some (8:Int)
else
if (a0.1==(2:Int))=true then
if (decide (a0.2.2.2.2.1>(0:Int)))=true then
if (decide (a0.2.2.2.2.1<a0.2.2.2.1))=true then
some (0:Int)
else
some (8:Int)
else
some (8:Int)
else
some (8:Int)
else
if (a0.1==(2:Int))=true then
if (decide (a0.2.2.2.2.1>(0:Int)))=true then
if (decide (a0.2.2.2.2.1<a0.2.2.2.1))=true then
some (0:Int)
else
some (8:Int)
else
some (8:Int)
else
some (8:Int)
else
if (decide (a0.2.2.2.1<(1:Int)))=true then
some (8:Int)
else
if (decide (a0.2.2.2.1>(4096:Int)))=true then
if (decide (a0.2.2.2.1>(4096:Int)))=true then
some (8:Int)
else
if (a0.1==(1:Int))=true then
if (a0.2.2.2.2.1==a0.2.2.2.1)=true then
if (a0.2.2.2.2.1==a0.2.2.2.1)=true then
some (0:Int)
else
some (8:Int)
else
if (a0.1==(2:Int))=true then
if (decide (a0.2.2.2.2.1>(0:Int)))=true then
if (decide (a0.2.2.2.2.1<a0.2.2.2.1))=true then
some (0:Int)
else
some (8:Int)
else
some (8:Int)
else
some (8:Int)
else
if (a0.1==(2:Int))=true then
if (decide (a0.2.2.2.2.1>(0:Int)))=true then
if (decide (a0.2.2.2.2.1<a0.2.2.2.1))=true then
some (0:Int)
else
some (8:Int)
else
some (8:Int)
else
some (8:Int)
else
if (decide (a0.2.2.1<(0:Int)))=true then
some (8:Int)
else
if (decide (a0.2.2.1>(IntKind.wrap .i64 ((8192:Int) - a0.2.2.2.1))))=true then
some (8:Int)
else
if (a0.1==(1:Int))=true then
if (a0.2.2.2.2.1==a0.2.2.2.1)=true then
if (a0.2.2.2.2.1==a0.2.2.2.1)=true then
some (0:Int)
else
some (8:Int)
else
if (a0.1==(2:Int))=true then
if (decide (a0.2.2.2.2.1>(0:Int)))=true then
if (decide (a0.2.2.2.2.1<a0.2.2.2.1))=true then
some (0:Int)
else
some (8:Int)
else
some (8:Int)
else
some (8:Int)
else
if (a0.1==(2:Int))=true then
if (decide (a0.2.2.2.2.1>(0:Int)))=true then
if (decide (a0.2.2.2.2.1<a0.2.2.2.1))=true then
some (0:Int)
else
some (8:Int)
else
some (8:Int)
else
some (8:Int)):=(FnI.call_eq (by kernel_rfl)).trans (by kernel_rfl)
noncomputable def qqg (acc:List AV→Bool):Summ Tryz.prog GT:=header_Check_I.summ mixed acc false false
noncomputable def header_Parse_I:FnI Tryz.prog GT:={f:=66,cuts:=[⟨(5,3),[0,2,4,12,13],false,false,[],[],[]⟩,⟨(8,7),[0,2,4,5,12,13,17,18],false,false,[],[],[]⟩],tab:=[qqg (fun _=>true)],fm:=⟨true,[.val qka [], .val (.int .i64) []]⟩}
noncomputable def qok (a0:List Int):Option (qha×Int):=header_Parse_I.call [(.sl (.int .u8) false a0)] []
noncomputable def qec (v0:List Int) (v12:(List Int)) (v13:Int) (b8:qha) (b9:(List Int)):Option (qha×Int):=header_Parse_I.sem ⟨[.code (cIn (cIn (qga (qHa (qga (qga (qga (qma Tryz.prog 66)))))))), .inLoop (cIn (cIn (qga (qHa (qga (qga (qga (qma Tryz.prog 66)))))))), .inBlock 0, .code (qga (qga (qga (qga (qma Tryz.prog 66)))))],⟨[(0,(.one (.sl (.int .u8) false v0))),(2,(.one (.ptr qka 8 []))),(4,(.one (.ptr (.arr 5 (.int .i64)) 9 []))),(12,(.one (.agg (.arr 5 (.int .i64)) v12))),(13,(.one (.int .i64 v13)))],[(8,some (.box qka (inj false qka b8))),(9,some (.box (.arr 5 (.int .i64)) b9))],10⟩⟩
noncomputable def qQd (v0:List Int) (v5:Int) (v12:(List Int)) (v13:Int) (v17:Int) (v18:Int) (b8:qha) (b9:(List Int)):Option (qha×Int):=header_Parse_I.sem ⟨[.code (cIn (cIn (qga (qga (cIn (qHa (qga (qga (cIn (cIn (qga (qHa (qga (qga (qga (qma Tryz.prog 66)))))))))))))))), .inLoop (cIn (cIn (qga (qga (cIn (qHa (qga (qga (cIn (cIn (qga (qHa (qga (qga (qga (qma Tryz.prog 66)))))))))))))))), .inBlock 2, .inBlock 1, .code (qga (qga (qga (cIn (cIn (qga (qHa (qga (qga (qga (qma Tryz.prog 66))))))))))), .inLoop (cIn (cIn (qga (qHa (qga (qga (qga (qma Tryz.prog 66)))))))), .inBlock 0, .code (qga (qga (qga (qga (qma Tryz.prog 66)))))],⟨[(0,(.one (.sl (.int .u8) false v0))),(2,(.one (.ptr qka 8 []))),(4,(.one (.ptr (.arr 5 (.int .i64)) 9 []))),(5,(.one (.int .i64 v5))),(12,(.one (.agg (.arr 5 (.int .i64)) v12))),(13,(.one (.int .i64 v13))),(17,(.one (.int .i64 v17))),(18,(.one (.int .i64 v18)))],[(8,some (.box qka (inj false qka b8))),(9,some (.box (.arr 5 (.int .i64)) b9))],10⟩⟩
theorem qfr (a0:List Int):qok a0=(
if ((Int.ofNat (List.length a0)) != (28:Int))=true then
some (((0:Int),((0:Int),((0:Int),((0:Int),((0:Int),((List.replicate 20 (0:Int)),())))))),(12:Int))
else
qec a0 G_widths (0:Int) ((0:Int),((0:Int),((0:Int),((0:Int),((0:Int),((List.replicate 20 (0:Int)),())))))) (List.replicate 5 (0:Int))):=(FnI.call_eq (by kernel_rfl)).trans (by kernel_rfl)
theorem qzf (v0:List Int) (v12:(List Int)) (v13:Int) (b8:qha) (b9:(List Int)):qec v0 v12 v13 b8 b9=(
if (decide (v13<(5:Int)))=true then
gd (0≤v13)<|
gd (v13<(5:Int))<|
qQd v0 v13 v12 v13 (List.getD v12 (Int.toNat v13) (0:Int)) (0:Int) b8 b9
else
gd (0≤(0:Int))<|
gd ((0:Int)<(5:Int))<|
gd (0≤(1:Int))<|
gd ((1:Int)<(5:Int))<|
gd (0≤(2:Int))<|
gd ((2:Int)<(5:Int))<|
gd (0≤(3:Int))<|
gd ((3:Int)<(5:Int))<|
gd (0≤(4:Int))<|
gd ((4:Int)<(5:Int))<|
(qTe ((IntKind.wrap .u8 (List.getD b9 0 (0:Int))),((List.getD b9 1 (0:Int)),((List.getD b9 2 (0:Int)),((List.getD b9 3 (0:Int)),((List.getD b9 4 (0:Int)),((qbc (List.replicate 20 (0:Int)) 0 (List.take (min (List.length v0) 20) v0)),()))))))).bind fun r1=>
if (r1 != (0:Int))=true then
some (((0:Int),((0:Int),((0:Int),((0:Int),((0:Int),((List.replicate 20 (0:Int)),())))))),(12:Int))
else
some (((IntKind.wrap .u8 (List.getD b9 0 (0:Int))),((List.getD b9 1 (0:Int)),((List.getD b9 2 (0:Int)),((List.getD b9 3 (0:Int)),((List.getD b9 4 (0:Int)),((qbc (List.replicate 20 (0:Int)) 0 (List.take (min (List.length v0) 20) v0)),())))))),(0:Int))):=(FnI.sem_eq _).trans (by kernel_rfl)
theorem qyf (v0:List Int) (v5:Int) (v12:(List Int)) (v13:Int) (v17:Int) (v18:Int) (b8:qha) (b9:(List Int)):qQd v0 v5 v12 v13 v17 v18 b8 b9=(
if (decide (v18<v17))=true then
gd (0≤v5)<|
gd (v5<(5:Int))<|
gd (0≤(8:Int))<|
gd (0≤(0:Int))<|
gd ((0:Int)<(Int.ofNat (List.length v0)))<|
gd (0≤v5)<|
gd (v5<(5:Int))<|
gd (0≤(1:Int))<|
gd ((1:Int)≤(Int.ofNat (List.length v0)))<|
qQd (List.drop 1 v0) v5 v12 v13 v17 (IntKind.wrap .i64 (v18+(1:Int))) b8 (List.set b9 (Int.toNat v5) (qHc .i64 (IntKind.wrap .i64 ((List.getD b9 (Int.toNat v5) (0:Int))*(256:Int))) (IntKind.wrap .i64 (List.getD v0 0 (0:Int)))))
else
qec v0 v12 (IntKind.wrap .i64 (v13+(1:Int))) b8 b9):=(FnI.sem_eq _).trans (by kernel_rfl)
noncomputable def qgs (acc:List AV→Bool):Summ Tryz.prog GT:=header_Parse_I.summ mixed acc false false
noncomputable def marker_check_I:FnI Tryz.prog GT:={f:=108,cuts:=[],tab:=[],fm:=⟨true,[.val (.int .i64) []]⟩}
noncomputable def qSo (a0:List Int) (a1:Int):Option (Int):=marker_check_I.call [(.sl (.int .u8) false a0),(.int .i64 a1)] []
theorem qOq (a0:List Int) (a1:Int):qSo a0 a1=(
if (decide ((Int.ofNat (List.length a0))>(50000:Int)))=true then
some (4:Int)
else
if (decide (a1<(0:Int)))=true then
some (2:Int)
else
if (decide (a1>(Int.ofNat (List.length a0))))=true then
some (2:Int)
else
some (0:Int)):=(FnI.call_eq (by kernel_rfl)).trans (by kernel_rfl)
noncomputable def qXr (acc:List AV→Bool):Summ Tryz.prog GT:=marker_check_I.summ mixed acc false false
noncomputable def marker_Bytes_I:FnI Tryz.prog GT:={f:=109,cuts:=[],tab:=[],fm:=⟨true,[.val (.slice (.int .u8)) [.pu]]⟩}
noncomputable def qjk:Option (List Int):=marker_Bytes_I.call [] []
theorem qPq:qjk=(
gd (0<13)<|
some ([(183:Int),(98:Int),(105:Int),(116:Int),(108:Int),(111:Int),(102:Int),(116:Int),(32:Int),(98:Int),(108:Int),(107:Int),(10:Int)])):=(FnI.call_eq (by kernel_rfl)).trans (by kernel_rfl)
noncomputable def qYr (acc:List AV→Bool):Summ Tryz.prog GT:=marker_Bytes_I.summ mixed acc false false
noncomputable def marker_At_I:FnI Tryz.prog GT:={f:=67,cuts:=[],tab:=[qXr (fun _=>true),qYr (fun _=>true),qJi (fun _=>true)],fm:=⟨true,[.val .bool [], .val (.int .i64) []]⟩}
noncomputable def qQq (a0:List Int) (a1:Int):Option (Bool×Int):=marker_At_I.call [(.sl (.int .u8) false a0),(.int .i64 a1)] []
theorem qIu (a0:List Int) (a1:Int):qQq a0 a1=(
(qSo a0 a1).bind fun r1=>
if (r1 != (0:Int))=true then
some (false,r1)
else
gd (0≤a1)<|
gd (a1≤(Int.ofNat (List.length a0)))<|
(qjk).bind fun r2=>
(qTd (List.drop (Int.toNat a1) a0) r2).bind fun r3=>
some (r3,(0:Int))):=(FnI.call_eq (by kernel_rfl)).trans (by kernel_rfl)
noncomputable def qcw (acc:List AV→Bool):Summ Tryz.prog GT:=marker_At_I.summ mixed acc false false
noncomputable def bytes_Clone_I:FnI Tryz.prog GT:={f:=68,cuts:=[],tab:=[],fm:=⟨true,[.val (.slice (.int .u8)) [.nw]]⟩}
noncomputable def qCh (a0:List Int):Option (List Int):=bytes_Clone_I.call [(.sl (.int .u8) false a0)] []
theorem qfm (a0:List Int):qCh a0=(
qzB (fun (r1:Bool)=>r1=true→a0=[]) fun (r1:Bool)=>
if r1=true then
some ([])
else
gd ((List.length ([]++a0))*1≤140737488355328)<|
some ([]++a0)):=(FnI.call_eq (by kernel_rfl)).trans (by kernel_rfl)
noncomputable def qDn (acc:List AV→Bool):Summ Tryz.prog GT:=bytes_Clone_I.summ mixed acc false false
noncomputable def block_Read_I:FnI Tryz.prog GT:={f:=39,cuts:=[],tab:=[qgs (fun _=>true),qcw (fun _=>true),qDn (fun _=>true)],fm:=⟨true,[.val qfa [], .val (.int .i64) [], .val (.int .i64) []]⟩}
noncomputable def qMi (a0:List Int):Option (qda×Int×Int):=block_Read_I.call [(.sl (.int .u8) false a0)] []
theorem qEn (a0:List Int):qMi a0=(
if (decide ((Int.ofNat (List.length a0))>(50000:Int)))=true then
some ((((0:Int),((0:Int),((0:Int),((0:Int),((0:Int),((List.replicate 20 (0:Int)),())))))),([],())),((0:Int),(4:Int)))
else
if (decide ((Int.ofNat (List.length a0))<(41:Int)))=true then
some ((((0:Int),((0:Int),((0:Int),((0:Int),((0:Int),((List.replicate 20 (0:Int)),())))))),([],())),((0:Int),(18:Int)))
else
gd (0≤(13:Int))<|
gd ((13:Int)≤(41:Int))<|
gd ((41:Int)≤(Int.ofNat (List.length a0)))<|
(qok (List.take 28 (List.drop 13 a0))).bind fun r1=>
(qQq a0 (0:Int)).bind fun r2=>
if (not r2.1)=true then
some ((((0:Int),((0:Int),((0:Int),((0:Int),((0:Int),((List.replicate 20 (0:Int)),())))))),([],())),((0:Int),(12:Int)))
else
if (r1.2 != (0:Int))=true then
some ((((0:Int),((0:Int),((0:Int),((0:Int),((0:Int),((List.replicate 20 (0:Int)),())))))),([],())),((0:Int),(12:Int)))
else
if (decide ((Int.ofNat (List.length a0))<(IntKind.wrap .i64 ((41:Int)+r1.1.2.2.2.2.1))))=true then
some ((((0:Int),((0:Int),((0:Int),((0:Int),((0:Int),((List.replicate 20 (0:Int)),())))))),([],())),((0:Int),(18:Int)))
else
gd (0≤(41:Int))<|
gd ((41:Int)≤(IntKind.wrap .i64 ((41:Int)+r1.1.2.2.2.2.1)))<|
gd ((IntKind.wrap .i64 ((41:Int)+r1.1.2.2.2.2.1))≤(Int.ofNat (List.length a0)))<|
(qCh (List.take ((Int.toNat (IntKind.wrap .i64 ((41:Int)+r1.1.2.2.2.2.1))) - 41) (List.drop 41 a0))).bind fun r3=>
some ((r1.1,(r3,())),((IntKind.wrap .i64 ((41:Int)+r1.1.2.2.2.2.1)),(0:Int)))):=(FnI.call_eq (by kernel_rfl)).trans (by kernel_rfl)
noncomputable def qYo (acc:List AV→Bool):Summ Tryz.prog GT:=block_Read_I.summ mixed acc false false
noncomputable def list_is_I:FnI Tryz.prog GT:={f:=57,cuts:=[],tab:=[],fm:=⟨true,[.val .bool []]⟩}
noncomputable def qmt (a0:qha) (a1:qia):Option (Bool):=list_is_I.call [(.agg qka (inj false qka a0)),(.agg qca (inj false qca a1))] []
theorem qzy (a0:qha) (a1:qia):qmt a0 a1=(
some (peq qca (a0.2.1,(a0.2.2.1,(a0.2.2.2.1,()))) a1)):=(FnI.call_eq (by kernel_rfl)).trans (by kernel_rfl)
noncomputable def qLu (acc:List AV→Bool):Summ Tryz.prog GT:=list_is_I.summ mixed acc false false
noncomputable def list_all_I:FnI Tryz.prog GT:={f:=34,cuts:=[⟨(7,3),[0,2,7,9,10,32,33,34],false,false,[],[],[]⟩],tab:=[qew (fun _=>true),qln (fun _=>true),qYo (fun _=>true),qLu (fun _=>true)],fm:=⟨true,[.val qwa [], .val (.slice qfa) [.nw], .val (.int .i64) []]⟩}
noncomputable def qot (a0:List Int):Option (qua×List qda×Int):=list_all_I.call [(.sl (.int .u8) false a0)] []
noncomputable def qgj (v0:List Int) (v7:Int) (v33:Int) (v34:Int) (b8a:qoa) (b8bbb:Unit) (b9a:qoa) (b9bbb:Unit) (h10:List qda) (h11:List qia) (h12:List qaa) (h13:List qha) (h14:List qaa) (h15:List qha):Option (qua×List qda×Int):=list_all_I.sem ⟨[.code (cIn (cIn (qga (qHa (qga (qga (qga (qga (qga (qma Tryz.prog 34)))))))))), .inLoop (cIn (cIn (qga (qHa (qga (qga (qga (qga (qga (qma Tryz.prog 34)))))))))), .inBlock 0, .code (qga (qga (qga (qga (qga (qga (qma Tryz.prog 34)))))))],⟨[(0,(.one (.sl (.int .u8) false v0))),(2,(.one (.ptr qwa 8 []))),(7,(.one (.int .i64 v7))),(9,(.one (.ptr qwa 9 []))),(10,(.one (.ref qfa 10 0 (List.length h10) true))),(32,(.one (.ref qca 11 0 (List.length h11) true))),(33,(.one (.int .i64 v33))),(34,(.one (.int .i64 v34)))],[(8,some (.box qwa ((inj false qxa b8a),((SV.ref 12 0 (List.length h12) true),((SV.ref 13 0 (List.length h13) true),b8bbb))))),(9,some (.box qwa ((inj false qxa b9a),((SV.ref 14 0 (List.length h14) true),((SV.ref 15 0 (List.length h15) true),b9bbb))))),(10,some (.row qfa true h10)),(11,some (.row qca true h11)),(12,some (.row qba true h12)),(13,some (.row qka true h13)),(14,some (.row qba true h14)),(15,some (.row qka true h15))],16⟩⟩
theorem qdw (a0:List Int):qot a0=(
(qWq a0).bind fun r1=>
if (r1.2.2.2 != (0:Int))=true then
some ((((0:Int),((0:Int),())),([],([],()))),([],r1.2.2.2))
else
(qfj r1.1 r1.2.1).bind fun r2=>
qgj a0 r1.2.2.1 (Int.ofNat (List.length r2)) (0:Int) ((0:Int),((0:Int),())) () r1.1 () [] r2 [] [] r1.2.1 []):=(FnI.call_eq (by kernel_rfl)).trans (by kernel_rfl)
theorem qWl (v0:List Int) (v7:Int) (v33:Int) (v34:Int) (b8a:qoa) (b8bbb:Unit) (b9a:qoa) (b9bbb:Unit) (h10:List qda) (h11:List qia) (h12:List qaa) (h13:List qha) (h14:List qaa) (h15:List qha):qgj v0 v7 v33 v34 b8a b8bbb b9a b9bbb h10 h11 h12 h13 h14 h15=(
if (decide (v34<v33))=true then
gd (0≤v34)<|
gd (v34<(Int.ofNat (List.length h11)))<|
gd (0≤v7)<|
gd (v7≤(Int.ofNat (List.length v0)))<|
(qMi (List.drop (Int.toNat v7) v0)).bind fun r3=>
if (r3.2.2 != (0:Int))=true then
some ((((0:Int),((0:Int),())),([],([],()))),([],r3.2.2))
else
(qmt r3.1.1 (List.getD h11 (0+(Int.toNat v34)) (qja qca))).bind fun r4=>
if (not r4)=true then
some ((((0:Int),((0:Int),())),([],([],()))),([],(32:Int)))
else
gd ((List.length (h15++[r3.1.1]))*64≤140737488355328)<|
gd ((List.length (h10++[r3.1]))*88≤140737488355328)<|
qgj v0 (IntKind.wrap .i64 (v7+r3.2.1)) v33 (IntKind.wrap .i64 (v34+(1:Int))) b8a b8bbb b9a b9bbb (h10++[r3.1]) h11 h12 h13 h14 (h15++[r3.1.1])
else
if (decide (v7<(Int.ofNat (List.length v0))))=true then
some ((((0:Int),((0:Int),())),([],([],()))),([],(12:Int)))
else
some ((b9a,(h14,(h15,b9bbb))),(h10,(0:Int)))):=(FnI.sem_eq _).trans (by kernel_rfl)
noncomputable def qAy (acc:List AV→Bool):Summ Tryz.prog GT:=list_all_I.summ mixed acc false false
noncomputable def list_List_I:FnI Tryz.prog GT:={f:=17,cuts:=[],tab:=[qAy (fun _=>true)],fm:=⟨true,[.val qwa [], .val (.int .i64) []]⟩}
noncomputable def qnn (a0:List Int):Option (qua×Int):=list_List_I.call [(.sl (.int .u8) false a0)] []
theorem qMu (a0:List Int):qnn a0=(
(qot a0).bind fun r1=>
some (r1.1,r1.2.2)):=(FnI.call_eq (by kernel_rfl)).trans (by kernel_rfl)
noncomputable def qVq (acc:List AV→Bool):Summ Tryz.prog GT:=list_List_I.summ mixed acc false false
noncomputable def list_Check_I:FnI Tryz.prog GT:={f:=35,cuts:=[⟨(7,3),[3,28,29,30],false,false,[],[],[]⟩],tab:=[qck (fun _=>true),qqe (fun _=>true),qln (fun _=>true),qqg (fun _=>true),qLu (fun _=>true)],fm:=⟨true,[.val (.int .i64) []]⟩}
noncomputable def qko (a0:qua):Option (Int):=list_Check_I.call [(.agg qwa (inj false qwa a0))] []
noncomputable def qYg (v28:List qha) (v29:Int) (v30:Int) (h8:List qia):Option (Int):=list_Check_I.sem ⟨[.code (cIn (cIn (qga (qHa (qga (qga (qga (qga (qma Tryz.prog 35))))))))), .inLoop (cIn (cIn (qga (qHa (qga (qga (qga (qga (qma Tryz.prog 35))))))))), .inBlock 0, .code (qga (qga (qga (qga (qga (qma Tryz.prog 35))))))],⟨[(3,(.one (.ref qca 8 0 (List.length h8) true))),(28,(.one (.sl qka false v28))),(29,(.one (.int .i64 v29))),(30,(.one (.int .i64 v30)))],[(8,some (.row qca true h8))],9⟩⟩
theorem qpt (a0:qua):qko a0=(
(qxi a0.1).bind fun r1=>
if (r1 != (0:Int))=true then
some (8:Int)
else
(qPd a0.2.1).bind fun r2=>
if (r2 != (0:Int))=true then
some (8:Int)
else
(qfj a0.1 a0.2.1).bind fun r3=>
if ((Int.ofNat (List.length r3)) != (Int.ofNat (List.length a0.2.2.1)))=true then
some (8:Int)
else
qYg a0.2.2.1 (Int.ofNat (List.length a0.2.2.1)) (0:Int) r3):=(FnI.call_eq (by kernel_rfl)).trans (by kernel_rfl)
theorem qvj (v28:List qha) (v29:Int) (v30:Int) (h8:List qia):qYg v28 v29 v30 h8=(
if (decide (v30<v29))=true then
gd (0≤v30)<|
gd (v30<(Int.ofNat (List.length v28)))<|
(qTe (List.getD v28 (Int.toNat v30) (qja qka))).bind fun r4=>
if (r4 != (0:Int))=true then
some (8:Int)
else
gd (0≤v30)<|
gd (v30<(Int.ofNat (List.length h8)))<|
(qmt (List.getD v28 (Int.toNat v30) (qja qka)) (List.getD h8 (0+(Int.toNat v30)) (qja qca))).bind fun r5=>
if (not r5)=true then
some (8:Int)
else
qYg v28 v29 (IntKind.wrap .i64 (v30+(1:Int))) h8
else
some (0:Int)):=(FnI.sem_eq _).trans (by kernel_rfl)
noncomputable def qOu (acc:List AV→Bool):Summ Tryz.prog GT:=list_Check_I.summ mixed acc false false
noncomputable def list_Places_I:FnI Tryz.prog GT:={f:=18,cuts:=[⟨(8,3),[7,8,27,28,29],false,false,[],[],[]⟩],tab:=[qOu (fun _=>true),qxq (fun _=>true)],fm:=⟨true,[.val (.slice (.int .i64)) [.nw], .val (.int .i64) []]⟩}
noncomputable def quh (a0:qua):Option (List Int×Int):=list_Places_I.call [(.agg qwa (inj false qwa a0))] []
noncomputable def qpg (v7:Int) (v27:List qha) (v28:Int) (v29:Int) (h8:List Int):Option (List Int×Int):=list_Places_I.sem ⟨[.code (cIn (cIn (qga (qHa (qga (qga (qga (qga (qga (qma Tryz.prog 18)))))))))), .inLoop (cIn (cIn (qga (qHa (qga (qga (qga (qga (qga (qma Tryz.prog 18)))))))))), .inBlock 0, .code (qga (qga (qga (qga (qga (qga (qma Tryz.prog 18)))))))],⟨[(7,(.one (.int .i64 v7))),(8,(.one (.ref (.int .i64) 8 0 (List.length h8) true))),(27,(.one (.sl qka false v27))),(28,(.one (.int .i64 v28))),(29,(.one (.int .i64 v29)))],[(8,some (.row (.int .i64) true h8))],9⟩⟩
theorem qas (a0:qua):quh a0=(
(qko a0).bind fun r1=>
if (r1 != (0:Int))=true then
some ([],r1)
else
(qfn a0.1 a0.2.1).bind fun r2=>
qpg (Int.ofNat (List.length r2.1)) a0.2.2.1 (Int.ofNat (List.length a0.2.2.1)) (0:Int) []):=(FnI.call_eq (by kernel_rfl)).trans (by kernel_rfl)
theorem qDi (v7:Int) (v27:List qha) (v28:Int) (v29:Int) (h8:List Int):qpg v7 v27 v28 v29 h8=(
if (decide (v29<v28))=true then
gd (0≤v29)<|
gd (v29<(Int.ofNat (List.length v27)))<|
gd ((List.length (h8++[v7]))*8≤140737488355328)<|
qpg (IntKind.wrap .i64 (v7+(IntKind.wrap .i64 ((41:Int)+(List.getD v27 (Int.toNat v29) (qja qka)).2.2.2.2.1)))) v27 v28 (IntKind.wrap .i64 (v29+(1:Int))) (h8++[v7])
else
some (h8,(0:Int))):=(FnI.sem_eq _).trans (by kernel_rfl)
noncomputable def qmn (acc:List AV→Bool):Summ Tryz.prog GT:=list_Places_I.summ mixed acc false false
noncomputable def extract_open_I:FnI Tryz.prog GT:={f:=20,cuts:=[⟨(7,3),[0,2,5,9,29,30,31],false,false,[],[],[]⟩],tab:=[qVq (fun _=>true),qmn (fun _=>true),qYo (fun _=>true)],fm:=⟨true,[.val qwa [], .val (.slice qfa) [.nw], .val (.int .i64) []]⟩}
noncomputable def qYc (a0:List Int):Option (qua×List qda×Int):=extract_open_I.call [(.sl (.int .u8) false a0)] []
noncomputable def qBf (v0:List Int) (v30:Int) (v31:Int) (b8a:qoa) (b8bbb:Unit) (b9:qua) (h10:List qda) (h11:List Int) (h12:List qaa) (h13:List qha):Option (qua×List qda×Int):=extract_open_I.sem ⟨[.code (cIn (cIn (qga (qHa (qga (qga (qga (qga (qga (qma Tryz.prog 20)))))))))), .inLoop (cIn (cIn (qga (qHa (qga (qga (qga (qga (qga (qma Tryz.prog 20)))))))))), .inBlock 0, .code (qga (qga (qga (qga (qga (qga (qma Tryz.prog 20)))))))],⟨[(0,(.one (.sl (.int .u8) false v0))),(2,(.one (.ptr qwa 8 []))),(5,(.one (.ptr qwa 9 []))),(9,(.one (.ref qfa 10 0 (List.length h10) true))),(29,(.one (.ref (.int .i64) 11 0 (List.length h11) true))),(30,(.one (.int .i64 v30))),(31,(.one (.int .i64 v31)))],[(8,some (.box qwa ((inj false qxa b8a),((SV.ref 12 0 (List.length h12) true),((SV.ref 13 0 (List.length h13) true),b8bbb))))),(9,some (.box qwa (inj true qwa b9))),(10,some (.row qfa true h10)),(11,some (.row (.int .i64) true h11)),(12,some (.row qba true h12)),(13,some (.row qka true h13))],14⟩⟩
theorem qpr (a0:List Int):qYc a0=(
(qnn a0).bind fun r1=>
if (r1.2 != (0:Int))=true then
some ((((0:Int),((0:Int),())),([],([],()))),([],r1.2))
else
(quh r1.1).bind fun r2=>
qBf a0 (Int.ofNat (List.length r2.1)) (0:Int) ((0:Int),((0:Int),())) () r1.1 [] r2.1 [] []):=(FnI.call_eq (by kernel_rfl)).trans (by kernel_rfl)
theorem qdi (v0:List Int) (v30:Int) (v31:Int) (b8a:qoa) (b8bbb:Unit) (b9:qua) (h10:List qda) (h11:List Int) (h12:List qaa) (h13:List qha):qBf v0 v30 v31 b8a b8bbb b9 h10 h11 h12 h13=(
if (decide (v31<v30))=true then
gd (0≤v31)<|
gd (v31<(Int.ofNat (List.length h11)))<|
gd (0≤(List.getD h11 (0+(Int.toNat v31)) (0:Int)))<|
gd ((List.getD h11 (0+(Int.toNat v31)) (0:Int))≤(Int.ofNat (List.length v0)))<|
(qMi (List.drop (Int.toNat (List.getD h11 (0+(Int.toNat v31)) (0:Int))) v0)).bind fun r3=>
gd ((List.length (h10++[r3.1]))*88≤140737488355328)<|
qBf v0 v30 (IntKind.wrap .i64 (v31+(1:Int))) b8a b8bbb b9 (h10++[r3.1]) h11 h12 h13
else
some (b9,(h10,(0:Int)))):=(FnI.sem_eq _).trans (by kernel_rfl)
noncomputable def qam (acc:List AV→Bool):Summ Tryz.prog GT:=extract_open_I.summ mixed acc false false
noncomputable def block_Check_I:FnI Tryz.prog GT:={f:=69,cuts:=[],tab:=[qqg (fun _=>true)],fm:=⟨true,[.val (.int .i64) []]⟩}
noncomputable def qzm (a0:qda):Option (Int):=block_Check_I.call [(.agg qfa (inj false qfa a0))] []
theorem qos (a0:qda):qzm a0=(
(qTe a0.1).bind fun r1=>
if (r1 != (0:Int))=true then
some (8:Int)
else
if ((Int.ofNat (List.length a0.2.1)) != a0.1.2.2.2.2.1)=true then
some (8:Int)
else
some (0:Int)):=(FnI.call_eq (by kernel_rfl)).trans (by kernel_rfl)
noncomputable def qTt (acc:List AV→Bool):Summ Tryz.prog GT:=block_Check_I.summ mixed acc false false
noncomputable def block_isLevel_I:FnI Tryz.prog GT:={f:=70,cuts:=[],tab:=[],fm:=⟨true,[.val .bool []]⟩}
noncomputable def qmj (a0:Int):Option (Bool):=block_isLevel_I.call [(.int .i64 a0)] []
theorem qwp (a0:Int):qmj a0=(
if (decide (a0≥(0:Int)))=true then
some (decide (a0≤(7:Int)))
else
some (false)):=(FnI.call_eq (by kernel_rfl)).trans (by kernel_rfl)
noncomputable def qBr (acc:List AV→Bool):Summ Tryz.prog GT:=block_isLevel_I.summ mixed acc false false
noncomputable def header_front_I:FnI Tryz.prog GT:={f:=175,cuts:=[⟨(3,3),[3,18,19],false,false,[],[],[]⟩,⟨(6,7),[3,4,5,18,19,25,26],false,false,[],[],[]⟩],tab:=[],fm:=⟨true,[.val (.slice (.int .u8)) [.nw]]⟩}
noncomputable def qmk (a0:qha):Option (List Int):=header_front_I.call [(.agg qka (inj false qka a0))] []
noncomputable def qdc (v18:(List Int)) (v19:Int) (h8:List Int):Option (List Int):=header_front_I.sem ⟨[.code (cIn (cIn (qga (qHa (qga (qga (qma Tryz.prog 175))))))), .inLoop (cIn (cIn (qga (qHa (qga (qga (qma Tryz.prog 175))))))), .inBlock 0, .code (qga (qga (qga (qma Tryz.prog 175))))],⟨[(3,(.one (.ref (.int .u8) 8 0 (List.length h8) true))),(18,(.one (.agg (.arr 5 (.int .i64)) v18))),(19,(.one (.int .i64 v19)))],[(8,some (.row (.int .u8) true h8))],9⟩⟩
noncomputable def qwh (v4:Int) (v5:Int) (v18:(List Int)) (v19:Int) (v25:Int) (v26:Int) (h8:List Int):Option (List Int):=header_front_I.sem ⟨[.code (cIn (cIn (qga (qga (cIn (qHa (qga (qga (cIn (cIn (qga (qHa (qga (qga (qma Tryz.prog 175))))))))))))))), .inLoop (cIn (cIn (qga (qga (cIn (qHa (qga (qga (cIn (cIn (qga (qHa (qga (qga (qma Tryz.prog 175))))))))))))))), .inBlock 2, .inBlock 1, .code (qga (qga (qga (cIn (cIn (qga (qHa (qga (qga (qma Tryz.prog 175)))))))))), .inLoop (cIn (cIn (qga (qHa (qga (qga (qma Tryz.prog 175))))))), .inBlock 0, .code (qga (qga (qga (qma Tryz.prog 175))))],⟨[(3,(.one (.ref (.int .u8) 8 0 (List.length h8) true))),(4,(.one (.int .i64 v4))),(5,(.one (.int .i64 v5))),(18,(.one (.agg (.arr 5 (.int .i64)) v18))),(19,(.one (.int .i64 v19))),(25,(.one (.int .i64 v25))),(26,(.one (.int .i64 v26)))],[(8,some (.row (.int .u8) true h8))],9⟩⟩
theorem qcr (a0:qha):qmk a0=(
qdc (List.set (List.set (List.set (List.set (List.set (List.replicate 5 (0:Int)) 0 (IntKind.wrap .i64 a0.1)) 1 a0.2.1) 2 a0.2.2.1) 3 a0.2.2.2.1) 4 a0.2.2.2.2.1) (0:Int) []):=(FnI.call_eq (by kernel_rfl)).trans (by kernel_rfl)
theorem qxf (v18:(List Int)) (v19:Int) (h8:List Int):qdc v18 v19 h8=(
if (decide (v19<(5:Int)))=true then
gd (0≤v19)<|
gd (v19<(5:Int))<|
gd (0≤v19)<|
gd (v19<(5:Int))<|
qwh v19 (List.getD v18 (Int.toNat v19) (0:Int)) v18 v19 (List.getD G_widths (Int.toNat v19) (0:Int)) (0:Int) h8
else
some (h8)):=(FnI.sem_eq _).trans (by kernel_rfl)
theorem qvc (v4:Int) (v5:Int) (v18:(List Int)) (v19:Int) (v25:Int) (v26:Int) (h8:List Int):qwh v4 v5 v18 v19 v25 v26 h8=(
if (decide (v26<v25))=true then
gd (0≤v4)<|
gd (v4<(5:Int))<|
gd (0≤(IntKind.wrap .i64 ((8:Int)*(IntKind.wrap .i64 ((IntKind.wrap .i64 ((List.getD G_widths (Int.toNat v4) (0:Int)) - (1:Int))) - v26)))))<|
gd ((List.length (h8++[(IntKind.wrap .u8 (qwi .i64 v5 (IntKind.wrap .i64 ((8:Int)*(IntKind.wrap .i64 ((IntKind.wrap .i64 ((List.getD G_widths (Int.toNat v4) (0:Int)) - (1:Int))) - v26))))))]))*1≤140737488355328)<|
qwh v4 v5 v18 v19 v25 (IntKind.wrap .i64 (v26+(1:Int))) (h8++[(IntKind.wrap .u8 (qwi .i64 v5 (IntKind.wrap .i64 ((8:Int)*(IntKind.wrap .i64 ((IntKind.wrap .i64 ((List.getD G_widths (Int.toNat v4) (0:Int)) - (1:Int))) - v26))))))])
else
qdc v18 (IntKind.wrap .i64 (v19+(1:Int))) h8):=(FnI.sem_eq _).trans (by kernel_rfl)
noncomputable def qds (acc:List AV→Bool):Summ Tryz.prog GT:=header_front_I.summ mixed acc false false
noncomputable def header_digest_I:FnI Tryz.prog GT:={f:=120,cuts:=[],tab:=[qds (fun _=>true),qWm (fun _=>true)],fm:=⟨true,[.val (.arr 20 (.int .u8)) []]⟩}
noncomputable def qij (a0:qha) (a1:List Int):Option ((List Int)):=header_digest_I.call [(.agg qka (inj false qka a0)),(.sl (.int .u8) false a1)] []
theorem qsp (a0:qha) (a1:List Int):qij a0 a1=(
(qmk a0).bind fun r1=>
gd ((List.length (r1++a1))*1≤140737488355328)<|
(qSn (r1++a1)).bind fun r2=>
some (r2.1)):=(FnI.call_eq (by kernel_rfl)).trans (by kernel_rfl)
noncomputable def qdr (acc:List AV→Bool):Summ Tryz.prog GT:=header_digest_I.summ mixed acc false false
noncomputable def header_Right_I:FnI Tryz.prog GT:={f:=74,cuts:=[],tab:=[qqg (fun _=>true),qdr (fun _=>true)],fm:=⟨true,[.val .bool [], .val (.int .i64) []]⟩}
noncomputable def qnk (a0:qha) (a1:List Int):Option (Bool×Int):=header_Right_I.call [(.agg qka (inj false qka a0)),(.sl (.int .u8) false a1)] []
theorem qer (a0:qha) (a1:List Int):qnk a0 a1=(
(qTe a0).bind fun r1=>
if (r1 != (0:Int))=true then
some (false,r1)
else
if ((Int.ofNat (List.length a1))==a0.2.2.2.1)=true then
(qij a0 a1).bind fun r2=>
some ((peq (.arr 20 (.int .u8)) r2 a0.2.2.2.2.2.1),(0:Int))
else
some (false,(0:Int))):=(FnI.call_eq (by kernel_rfl)).trans (by kernel_rfl)
noncomputable def qfs (acc:List AV→Bool):Summ Tryz.prog GT:=header_Right_I.summ mixed acc false false
noncomputable def block_Raw_I:FnI Tryz.prog GT:={f:=40,cuts:=[],tab:=[qTt (fun _=>true),qBr (fun _=>true),qDn (fun _=>true),qfs (fun _=>true)],fm:=⟨true,[.val (.slice (.int .u8)) [.nw], .val (.int .i64) []]⟩}
noncomputable def qFn (a0:Int) (a1:qda):Option (List Int×Int):=block_Raw_I.call [(.int .i64 a0),(.agg qfa (inj false qfa a1))] []
theorem qwv (a0:Int) (a1:qda):qFn a0 a1=(
(qzm a1).bind fun r1=>
if (r1 != (0:Int))=true then
some ([],r1)
else
(qmj a0).bind fun r2=>
if (not r2)=true then
some ([],(2:Int))
else
(qCh a1.2.1).bind fun r3=>
if (a1.1.1==(2:Int))=true then
none
else
(qnk a1.1 r3).bind fun r4=>
if (not r4.1)=true then
some ([],(22:Int))
else
some (r3,(0:Int))):=(FnI.call_eq (by kernel_rfl)).trans (by kernel_rfl)
noncomputable def qHw (acc:List AV→Bool):Summ Tryz.prog GT:=block_Raw_I.summ mixed acc false false
noncomputable def extract_parts_I:FnI Tryz.prog GT:={f:=21,cuts:=[⟨(3,3),[0,1,6,17,18,19],false,false,[],[],[]⟩,⟨(11,3),[1,6,11,41,42],false,false,[],[],[]⟩],tab:=[qHw (fun _=>true)],fm:=⟨true,[.val (.slice qta) [.nw], .val (.int .i64) []]⟩}
noncomputable def qVb (a0:Int) (a1:List qda):Option (List qpa×Int):=extract_parts_I.call [(.int .i64 a0),(.sl qfa false a1)] []
noncomputable def qCe (v0:Int) (v1:List qda) (v17:List qda) (v18:Int) (v19:Int) (n8:Nat) (h8:List qtc):Option (List qpa×Int):=extract_parts_I.sem ⟨[.code (cIn (cIn (qga (qHa (qga (qga (qma Tryz.prog 21))))))), .inLoop (cIn (cIn (qga (qHa (qga (qga (qma Tryz.prog 21))))))), .inBlock 0, .code (qga (qga (qga (qma Tryz.prog 21))))],⟨[(0,(.one (.int .i64 v0))),(1,(.one (.sl qfa false v1))),(6,(.one (.chan 8))),(17,(.one (.sl qfa false v17))),(18,(.one (.int .i64 v18))),(19,(.one (.int .i64 v19)))],[(8,some (.chan qLa true n8 h8 false))],9⟩⟩
noncomputable def qld (v1:List qda) (v41:Int) (v42:Int) (n8:Nat) (h8:List qtc) (h9:List qpa):Option (List qpa×Int):=extract_parts_I.sem ⟨[.code (cIn (cIn (qga (qHa (qga (qga (qga (qga (qga (qma Tryz.prog 21)))))))))), .inLoop (cIn (cIn (qga (qHa (qga (qga (qga (qga (qga (qma Tryz.prog 21)))))))))), .inBlock 2, .code (qga (qga (qga (qga (qga (qga (qma Tryz.prog 21)))))))],⟨[(1,(.one (.sl qfa false v1))),(6,(.one (.chan 8))),(11,(.one (.ref qta 9 0 (List.length h9) true))),(41,(.one (.int .i64 v41))),(42,(.one (.int .i64 v42)))],[(8,some (.chan qLa true n8 h8 true)),(9,some (.row qta true h9))],10⟩⟩
theorem qtp (a0:Int) (a1:List qda):qVb a0 a1=(
gd (0≤(Int.ofNat (List.length a1)))<|
gd ((Int.ofNat (List.length a1))≤9223372036854775807)<|
gd (40*(Int.ofNat (List.length a1))≤281474976710544)<|
qCe a0 a1 a1 (Int.ofNat (List.length a1)) (0:Int) (List.length a1) []):=(FnI.call_eq (by kernel_rfl)).trans (by kernel_rfl)
theorem qzh (v0:Int) (v1:List qda) (v17:List qda) (v18:Int) (v19:Int) (n8:Nat) (h8:List qtc):qCe v0 v1 v17 v18 v19 n8 h8=(
if (decide (v19<v18))=true then
gd (0≤v19)<|
gd (v19<(Int.ofNat (List.length v17)))<|
(qFn v0 (List.getD v17 (Int.toNat v19) (qja qfa))).bind fun r1=>
gd ((List.length h8)<n8)<|
qCe v0 v1 v17 v18 (IntKind.wrap .i64 (v19+(1:Int))) n8 (h8++[(v19,(r1.1,(r1.2,())))])
else
gd ((Int.ofNat (List.length v1))=(Int.ofNat (List.length v1)))<|
gd (0≤(Int.ofNat (List.length v1)))<|
gd ((Int.ofNat (List.length v1))*48≤140737488355328)<|
gd ((Int.ofNat (List.length v1))≤9223372036854775807)<|
qld v1 (Int.ofNat (List.length v1)) (0:Int) n8 h8 (List.replicate (List.length v1) (qja qta))):=(FnI.sem_eq _).trans (by kernel_rfl)
theorem qyh (v1:List qda) (v41:Int) (v42:Int) (n8:Nat) (h8:List qtc) (h9:List qpa):qld v1 v41 v42 n8 h8 h9=(
if (decide (v42<v41))=true then
gd (0<(List.length h8))<|
if ((List.getD h8 0 (qja qLa)).2.2.1 != (0:Int))=true then
some ([],(List.getD h8 0 (qja qLa)).2.2.1)
else
gd (0≤(List.getD h8 0 (qja qLa)).1)<|
gd ((List.getD h8 0 (qja qLa)).1<(Int.ofNat (List.length v1)))<|
gd (0≤(List.getD h8 0 (qja qLa)).1)<|
gd ((List.getD h8 0 (qja qLa)).1<(Int.ofNat (List.length h9)))<|
qld v1 v41 (IntKind.wrap .i64 (v42+(1:Int))) n8 (List.drop 1 h8) (List.set h9 (0+(Int.toNat (List.getD h8 0 (qja qLa)).1)) (((List.getD v1 (Int.toNat (List.getD h8 0 (qja qLa)).1) (qja qfa)).1.2.1,((List.getD v1 (Int.toNat (List.getD h8 0 (qja qLa)).1) (qja qfa)).1.2.2.1,((List.getD v1 (Int.toNat (List.getD h8 0 (qja qLa)).1) (qja qfa)).1.2.2.2.1,()))),((List.getD h8 0 (qja qLa)).2.1,())))
else
some (h9,(0:Int))):=(FnI.sem_eq _).trans (by kernel_rfl)
noncomputable def qAh (acc:List AV→Bool):Summ Tryz.prog GT:=extract_parts_I.summ mixed acc false false
noncomputable def split_within_I:FnI Tryz.prog GT:={f:=42,cuts:=[],tab:=[],fm:=⟨true,[.val .bool []]⟩}
noncomputable def qKj (a0:List Int) (a1:qia):Option (Bool):=split_within_I.call [(.sl (.int .i64) false a0),(.agg qca (inj false qca a1))] []
theorem qXp (a0:List Int) (a1:qia):qKj a0 a1=(
if (decide (a1.1≥(0:Int)))=true then
if (decide (a1.1<(Int.ofNat (List.length a0))))=true then
if (decide (a1.2.1≥(0:Int)))=true then
if (decide (a1.2.2.1>(0:Int)))=true then
gd (0≤a1.1)<|
gd (a1.1<(Int.ofNat (List.length a0)))<|
if (decide (a1.2.1≤(List.getD a0 (Int.toNat a1.1) (0:Int))))=true then
gd (0≤a1.1)<|
gd (a1.1<(Int.ofNat (List.length a0)))<|
some (decide (a1.2.2.1≤(IntKind.wrap .i64 ((List.getD a0 (Int.toNat a1.1) (0:Int)) - a1.2.1))))
else
some (false)
else
some (false)
else
some (false)
else
some (false)
else
some (false)):=(FnI.call_eq (by kernel_rfl)).trans (by kernel_rfl)
noncomputable def qNr (acc:List AV→Bool):Summ Tryz.prog GT:=split_within_I.summ mixed acc false false
noncomputable def split_fill_v2_I:FnI Tryz.prog GT:={f:=43,cuts:=[⟨(3,3),[0,1,5,17,18,19],false,false,[8],[],[]⟩,⟨(8,3),[0,5,32,33,34],false,false,[8],[],[]⟩,⟨(12,7),[0,5,10,32,33,34,41,42,43],false,false,[8],[],[]⟩],tab:=[],fm:=⟨true,[.val .bool [], .fams 0 .str (.int .u8)]⟩}
noncomputable def qRi (a1:List qpa) (h0:List (ByteArray×List Int)):Option (Bool×List (ByteArray×List Int)):=split_fill_v2_I.call [(.ref T_api_Member 0 0 (List.length (qRg (a:= .str) (e:=(.int .u8)) h0)) true),(.sl qta false a1)] [(0,(.famS .str (.int .u8) h0))]
noncomputable def qAe (v1:List qpa) (v18:Int) (v19:Int) (h0:List (ByteArray×List Int)) (h8:List (List Bool)):Option (Bool×List (ByteArray×List Int)):=split_fill_v2_I.sem ⟨[.code (cIn (cIn (qga (qHa (qga (qga (qma Tryz.prog 43))))))), .inLoop (cIn (cIn (qga (qHa (qga (qga (qma Tryz.prog 43))))))), .inBlock 0, .code (qga (qga (qga (qma Tryz.prog 43))))],⟨[(0,(.one (.ref T_api_Member 0 0 (List.length (qRg (a:= .str) (e:=(.int .u8)) h0)) true))),(1,(.one (.sl qta false v1))),(5,(.one (.ref (.slice .bool) 8 0 (List.length h8) true))),(17,(.one (.ref T_api_Member 0 0 (List.length (qRg (a:= .str) (e:=(.int .u8)) h0)) true))),(18,(.one (.int .i64 v18))),(19,(.one (.int .i64 v19)))],[(0,some (.famS .str (.int .u8) h0)),(8,some (.fam .bool h8))],10⟩⟩
noncomputable def qrc (v32:List qpa) (v33:Int) (v34:Int) (h0:List (ByteArray×List Int)) (h8:List (List Bool)):Option (Bool×List (ByteArray×List Int)):=split_fill_v2_I.sem ⟨[.code (cIn (cIn (qga (qHa (qga (qga (qga (qma Tryz.prog 43)))))))), .inLoop (cIn (cIn (qga (qHa (qga (qga (qga (qma Tryz.prog 43)))))))), .inBlock 2, .code (qga (qga (qga (qga (qma Tryz.prog 43)))))],⟨[(0,(.one (.ref T_api_Member 0 0 (List.length (qRg (a:= .str) (e:=(.int .u8)) h0)) true))),(5,(.one (.ref (.slice .bool) 8 0 (List.length h8) true))),(32,(.one (.sl qta false v32))),(33,(.one (.int .i64 v33))),(34,(.one (.int .i64 v34)))],[(0,some (.famS .str (.int .u8) h0)),(8,some (.fam .bool h8))],10⟩⟩
noncomputable def qfd (v32:List qpa) (v33:Int) (v34:Int) (v41:List Int) (v42:Int) (v43:Int) (h0:List (ByteArray×List Int)) (h8:List (List Bool)) (b9:qia):Option (Bool×List (ByteArray×List Int)):=split_fill_v2_I.sem ⟨[.code (cIn (cIn (qga (qga (qga (cIn (qHa (qga (qga (cIn (cIn (qga (qHa (qga (qga (qga (qma Tryz.prog 43))))))))))))))))), .inLoop (cIn (cIn (qga (qga (qga (cIn (qHa (qga (qga (cIn (cIn (qga (qHa (qga (qga (qga (qma Tryz.prog 43))))))))))))))))), .inBlock 4, .inBlock 3, .code (qga (qga (qga (cIn (cIn (qga (qHa (qga (qga (qga (qma Tryz.prog 43))))))))))), .inLoop (cIn (cIn (qga (qHa (qga (qga (qga (qma Tryz.prog 43)))))))), .inBlock 2, .code (qga (qga (qga (qga (qma Tryz.prog 43)))))],⟨[(0,(.one (.ref T_api_Member 0 0 (List.length (qRg (a:= .str) (e:=(.int .u8)) h0)) true))),(5,(.one (.ref (.slice .bool) 8 0 (List.length h8) true))),(10,(.one (.ptr qca 9 []))),(32,(.one (.sl qta false v32))),(33,(.one (.int .i64 v33))),(34,(.one (.int .i64 v34))),(41,(.one (.sl (.int .u8) false v41))),(42,(.one (.int .i64 v42))),(43,(.one (.int .i64 v43)))],[(0,some (.famS .str (.int .u8) h0)),(8,some (.fam .bool h8)),(9,some (.box qca (inj false qca b9)))],11⟩⟩
theorem qdp (a1:List qpa) (h0:List (ByteArray×List Int)):qRi a1 h0=(
gd ((Int.ofNat (List.length (qRg (a:= .str) (e:=(.int .u8)) h0)))=(Int.ofNat (List.length (qRg (a:= .str) (e:=(.int .u8)) h0))))<|
gd (0≤(Int.ofNat (List.length (qRg (a:= .str) (e:=(.int .u8)) h0))))<|
gd ((Int.ofNat (List.length (qRg (a:= .str) (e:=(.int .u8)) h0)))*24≤140737488355328)<|
gd ((Int.ofNat (List.length (qRg (a:= .str) (e:=(.int .u8)) h0)))≤9223372036854775807)<|
qAe a1 (Int.ofNat (List.length (qRg (a:= .str) (e:=(.int .u8)) h0))) (0:Int) h0 (List.replicate (List.length (qRg (a:= .str) (e:=(.int .u8)) h0)) [])):=(FnI.call_eq (by kernel_rfl)).trans (by kernel_rfl)
theorem qkh (v1:List qpa) (v18:Int) (v19:Int) (h0:List (ByteArray×List Int)) (h8:List (List Bool)):qAe v1 v18 v19 h0 h8=(
if (decide (v19<v18))=true then
gd (0≤v19)<|
gd (v19<(Int.ofNat (List.length (qRg (a:= .str) (e:=(.int .u8)) h0))))<|
gd ((Int.ofNat (List.length (List.getD h0 (0+(Int.toNat v19)) (ByteArray.empty,[])).2))=(Int.ofNat (List.length (List.getD h0 (0+(Int.toNat v19)) (ByteArray.empty,[])).2)))<|
gd (0≤(Int.ofNat (List.length (List.getD h0 (0+(Int.toNat v19)) (ByteArray.empty,[])).2)))<|
gd ((Int.ofNat (List.length (List.getD h0 (0+(Int.toNat v19)) (ByteArray.empty,[])).2))*1≤140737488355328)<|
gd ((Int.ofNat (List.length (List.getD h0 (0+(Int.toNat v19)) (ByteArray.empty,[])).2))≤9223372036854775807)<|
gd (0≤v19)<|
gd (v19<(Int.ofNat (List.length h8)))<|
qAe v1 v18 (IntKind.wrap .i64 (v19+(1:Int))) h0 (List.set h8 (0+(Int.toNat v19)) (List.replicate (List.length (List.getD h0 (0+(Int.toNat v19)) (ByteArray.empty,[])).2) false))
else
qrc v1 (Int.ofNat (List.length v1)) (0:Int) h0 h8):=(FnI.sem_eq _).trans (by kernel_rfl)
theorem qjh (v32:List qpa) (v33:Int) (v34:Int) (h0:List (ByteArray×List Int)) (h8:List (List Bool)):qrc v32 v33 v34 h0 h8=(
if (decide (v34<v33))=true then
gd (0≤v34)<|
gd (v34<(Int.ofNat (List.length v32)))<|
qfd v32 v33 v34 (List.getD v32 (Int.toNat v34) (qja qta)).2.1 (Int.ofNat (List.length (List.getD v32 (Int.toNat v34) (qja qta)).2.1)) (0:Int) h0 h8 (List.getD v32 (Int.toNat v34) (qja qta)).1
else
some (true,h0)):=(FnI.sem_eq _).trans (by kernel_rfl)
theorem qih (v32:List qpa) (v33:Int) (v34:Int) (v41:List Int) (v42:Int) (v43:Int) (h0:List (ByteArray×List Int)) (h8:List (List Bool)) (b9:qia):qfd v32 v33 v34 v41 v42 v43 h0 h8 b9=(
if (decide (v43<v42))=true then
gd (0≤v43)<|
gd (v43<(Int.ofNat (List.length v41)))<|
gd (0≤b9.1)<|
gd (b9.1<(Int.ofNat (List.length h8)))<|
gd (0<(List.length (List.getD h8 (0+(Int.toNat b9.1)) [])))<|
gd (0≤(IntKind.wrap .i64 (b9.2.1+v43)))<|
gd ((IntKind.wrap .i64 (b9.2.1+v43))<(Int.ofNat (List.length (List.getD h8 (0+(Int.toNat b9.1)) []))))<|
if (List.getD (List.getD h8 (0+(Int.toNat b9.1)) []) (0+(Int.toNat (IntKind.wrap .i64 (b9.2.1+v43)))) false)=true then
gd (0≤b9.1)<|
gd (b9.1<(Int.ofNat (List.length (qRg (a:= .str) (e:=(.int .u8)) h0))))<|
gd (0<(List.length (List.getD h0 (0+(Int.toNat b9.1)) (ByteArray.empty,[])).2))<|
gd (0≤(IntKind.wrap .i64 (b9.2.1+v43)))<|
gd ((IntKind.wrap .i64 (b9.2.1+v43))<(Int.ofNat (List.length (List.getD h0 (0+(Int.toNat b9.1)) (ByteArray.empty,[])).2)))<|
if ((List.getD (List.getD h0 (0+(Int.toNat b9.1)) (ByteArray.empty,[])).2 (0+(Int.toNat (IntKind.wrap .i64 (b9.2.1+v43)))) (0:Int)) != (List.getD v41 (Int.toNat v43) (0:Int)))=true then
some (false,h0)
else
gd (0≤b9.1)<|
gd (b9.1<(Int.ofNat (List.length h8)))<|
gd (0<(List.length (List.getD h8 (0+(Int.toNat b9.1)) [])))<|
gd (0≤b9.1)<|
gd (b9.1<(Int.ofNat (List.length (qRg (a:= .str) (e:=(.int .u8)) h0))))<|
gd (0<(List.length (List.getD h0 (0+(Int.toNat b9.1)) (ByteArray.empty,[])).2))<|
gd (0≤(IntKind.wrap .i64 (b9.2.1+v43)))<|
gd ((IntKind.wrap .i64 (b9.2.1+v43))<(Int.ofNat (List.length (List.getD h8 (0+(Int.toNat b9.1)) []))))<|
gd (0≤(IntKind.wrap .i64 (b9.2.1+v43)))<|
gd ((IntKind.wrap .i64 (b9.2.1+v43))<(Int.ofNat (List.length (List.getD h0 (0+(Int.toNat b9.1)) (ByteArray.empty,[])).2)))<|
qfd v32 v33 v34 v41 v42 (IntKind.wrap .i64 (v43+(1:Int))) (List.set h0 (0+(Int.toNat b9.1)) ((List.getD h0 (0+(Int.toNat b9.1)) (ByteArray.empty,[])).1,(List.set (List.getD h0 (0+(Int.toNat b9.1)) (ByteArray.empty,[])).2 (0+(Int.toNat (IntKind.wrap .i64 (b9.2.1+v43)))) (List.getD v41 (Int.toNat v43) (0:Int))))) (List.set h8 (0+(Int.toNat b9.1)) (List.set (List.getD h8 (0+(Int.toNat b9.1)) []) (0+(Int.toNat (IntKind.wrap .i64 (b9.2.1+v43)))) true)) b9
else
gd (0≤b9.1)<|
gd (b9.1<(Int.ofNat (List.length h8)))<|
gd (0<(List.length (List.getD h8 (0+(Int.toNat b9.1)) [])))<|
gd (0≤b9.1)<|
gd (b9.1<(Int.ofNat (List.length (qRg (a:= .str) (e:=(.int .u8)) h0))))<|
gd (0<(List.length (List.getD h0 (0+(Int.toNat b9.1)) (ByteArray.empty,[])).2))<|
gd (0≤(IntKind.wrap .i64 (b9.2.1+v43)))<|
gd ((IntKind.wrap .i64 (b9.2.1+v43))<(Int.ofNat (List.length (List.getD h8 (0+(Int.toNat b9.1)) []))))<|
gd (0≤(IntKind.wrap .i64 (b9.2.1+v43)))<|
gd ((IntKind.wrap .i64 (b9.2.1+v43))<(Int.ofNat (List.length (List.getD h0 (0+(Int.toNat b9.1)) (ByteArray.empty,[])).2)))<|
qfd v32 v33 v34 v41 v42 (IntKind.wrap .i64 (v43+(1:Int))) (List.set h0 (0+(Int.toNat b9.1)) ((List.getD h0 (0+(Int.toNat b9.1)) (ByteArray.empty,[])).1,(List.set (List.getD h0 (0+(Int.toNat b9.1)) (ByteArray.empty,[])).2 (0+(Int.toNat (IntKind.wrap .i64 (b9.2.1+v43)))) (List.getD v41 (Int.toNat v43) (0:Int))))) (List.set h8 (0+(Int.toNat b9.1)) (List.set (List.getD h8 (0+(Int.toNat b9.1)) []) (0+(Int.toNat (IntKind.wrap .i64 (b9.2.1+v43)))) true)) b9
else
qrc v32 v33 (IntKind.wrap .i64 (v34+(1:Int))) h0 h8):=(FnI.sem_eq _).trans (by kernel_rfl)
noncomputable def qZp (acc:List AV→Bool):Summ Tryz.prog GT:=split_fill_v2_I.summ mixed acc true false
noncomputable def slices_Clone_api_Piece_api_Piece_I:FnI Tryz.prog GT:={f:=78,cuts:=[],tab:=[],fm:=⟨true,[.val (.slice qca) [.nw]]⟩}
noncomputable def qsb (a0:List qia):Option (List qia):=slices_Clone_api_Piece_api_Piece_I.call [(.sl qca false a0)] []
theorem qGe (a0:List qia):qsb a0=(
qzB (fun (r1:Bool)=>r1=true→a0=[]) fun (r1:Bool)=>
if r1=true then
some ([])
else
gd ((List.length ([]++a0))*24≤140737488355328)<|
some ([]++a0)):=(FnI.call_eq (by kernel_rfl)).trans (by kernel_rfl)
noncomputable def qkf (acc:List AV→Bool):Summ Tryz.prog GT:=slices_Clone_api_Piece_api_Piece_I.summ mixed acc false false
noncomputable def math_bits_Len64_I:FnI Tryz.prog GT:={f:=185,cuts:=[],tab:=[],fm:=⟨true,[.val (.int .i64) []]⟩}
noncomputable def qik (a0:Int):Option (Int):=math_bits_Len64_I.call [(.int .u64 a0)] []
theorem qZh (a0:Int):qik a0=(
if (decide (a0≥(4294967296:Int)))=true then
gd (0≤(32:Int))<|
if (decide ((Int.fdiv a0 (4294967296:Int))≥(65536:Int)))=true then
gd (0≤(16:Int))<|
if (decide ((Int.fdiv (Int.fdiv a0 (4294967296:Int)) (65536:Int))≥(256:Int)))=true then
gd (0≤(8:Int))<|
gd (0≤(IntKind.wrap .u8 (Int.fdiv (Int.fdiv (Int.fdiv a0 (4294967296:Int)) (65536:Int)) (256:Int))))<|
gd ((IntKind.wrap .u8 (Int.fdiv (Int.fdiv (Int.fdiv a0 (4294967296:Int)) (65536:Int)) (256:Int)))<(t42Tab1.size:Int))<|
some (IntKind.wrap .i64 ((56:Int)+(IntKind.wrap .i64 (qXo t42Tab1 (Int.toNat (IntKind.wrap .u8 (Int.fdiv (Int.fdiv (Int.fdiv a0 (4294967296:Int)) (65536:Int)) (256:Int))))))))
else
gd (0≤(IntKind.wrap .u8 (Int.fdiv (Int.fdiv a0 (4294967296:Int)) (65536:Int))))<|
gd ((IntKind.wrap .u8 (Int.fdiv (Int.fdiv a0 (4294967296:Int)) (65536:Int)))<(t42Tab1.size:Int))<|
some (IntKind.wrap .i64 ((48:Int)+(IntKind.wrap .i64 (qXo t42Tab1 (Int.toNat (IntKind.wrap .u8 (Int.fdiv (Int.fdiv a0 (4294967296:Int)) (65536:Int))))))))
else
if (decide ((Int.fdiv a0 (4294967296:Int))≥(256:Int)))=true then
gd (0≤(8:Int))<|
gd (0≤(IntKind.wrap .u8 (Int.fdiv (Int.fdiv a0 (4294967296:Int)) (256:Int))))<|
gd ((IntKind.wrap .u8 (Int.fdiv (Int.fdiv a0 (4294967296:Int)) (256:Int)))<(t42Tab1.size:Int))<|
some (IntKind.wrap .i64 ((40:Int)+(IntKind.wrap .i64 (qXo t42Tab1 (Int.toNat (IntKind.wrap .u8 (Int.fdiv (Int.fdiv a0 (4294967296:Int)) (256:Int))))))))
else
gd (0≤(IntKind.wrap .u8 (Int.fdiv a0 (4294967296:Int))))<|
gd ((IntKind.wrap .u8 (Int.fdiv a0 (4294967296:Int)))<(t42Tab1.size:Int))<|
some (IntKind.wrap .i64 ((32:Int)+(IntKind.wrap .i64 (qXo t42Tab1 (Int.toNat (IntKind.wrap .u8 (Int.fdiv a0 (4294967296:Int))))))))
else
if (decide (a0≥(65536:Int)))=true then
gd (0≤(16:Int))<|
if (decide ((Int.fdiv a0 (65536:Int))≥(256:Int)))=true then
gd (0≤(8:Int))<|
gd (0≤(IntKind.wrap .u8 (Int.fdiv (Int.fdiv a0 (65536:Int)) (256:Int))))<|
gd ((IntKind.wrap .u8 (Int.fdiv (Int.fdiv a0 (65536:Int)) (256:Int)))<(t42Tab1.size:Int))<|
some (IntKind.wrap .i64 ((24:Int)+(IntKind.wrap .i64 (qXo t42Tab1 (Int.toNat (IntKind.wrap .u8 (Int.fdiv (Int.fdiv a0 (65536:Int)) (256:Int))))))))
else
gd (0≤(IntKind.wrap .u8 (Int.fdiv a0 (65536:Int))))<|
gd ((IntKind.wrap .u8 (Int.fdiv a0 (65536:Int)))<(t42Tab1.size:Int))<|
some (IntKind.wrap .i64 ((16:Int)+(IntKind.wrap .i64 (qXo t42Tab1 (Int.toNat (IntKind.wrap .u8 (Int.fdiv a0 (65536:Int))))))))
else
if (decide (a0≥(256:Int)))=true then
gd (0≤(8:Int))<|
gd (0≤(IntKind.wrap .u8 (Int.fdiv a0 (256:Int))))<|
gd ((IntKind.wrap .u8 (Int.fdiv a0 (256:Int)))<(t42Tab1.size:Int))<|
some (IntKind.wrap .i64 ((8:Int)+(IntKind.wrap .i64 (qXo t42Tab1 (Int.toNat (IntKind.wrap .u8 (Int.fdiv a0 (256:Int))))))))
else
gd (0≤(IntKind.wrap .u8 a0))<|
gd ((IntKind.wrap .u8 a0)<(t42Tab1.size:Int))<|
some (IntKind.wrap .i64 ((0:Int)+(IntKind.wrap .i64 (qXo t42Tab1 (Int.toNat (IntKind.wrap .u8 a0))))))):=(FnI.call_eq (by kernel_rfl)).trans (by kernel_rfl)
noncomputable def qfo (acc:List AV→Bool):Summ Tryz.prog GT:=math_bits_Len64_I.summ mixed acc false false
noncomputable def math_bits_Len_I:FnI Tryz.prog GT:={f:=122,cuts:=[],tab:=[qfo (fun _=>true)],fm:=⟨true,[.val (.int .i64) []]⟩}
noncomputable def quf (a0:Int):Option (Int):=math_bits_Len_I.call [(.int .u64 a0)] []
theorem qsj (a0:Int):quf a0=(
(qik a0).bind fun r1=>
some (r1)):=(FnI.call_eq (by kernel_rfl)).trans (by kernel_rfl)
noncomputable def qhk (acc:List AV→Bool):Summ Tryz.prog GT:=math_bits_Len_I.summ mixed acc false false
noncomputable def cmp_isNaN_int_I:FnI Tryz.prog GT:={f:=123,cuts:=[],tab:=[],fm:=⟨true,[.val .bool []]⟩}
noncomputable def qah (a0:Int):Option (Bool):=cmp_isNaN_int_I.call [(.int .i64 a0)] []
theorem qup (a0:Int):qah a0=(
some (a0 != a0)):=(FnI.call_eq (by kernel_rfl)).trans (by kernel_rfl)
noncomputable def qvr (acc:List AV→Bool):Summ Tryz.prog GT:=cmp_isNaN_int_I.summ mixed acc false false
noncomputable def cmp_Compare_int_I:FnI Tryz.prog GT:={f:=82,cuts:=[],tab:=[qvr (fun _=>true)],fm:=⟨true,[.val (.int .i64) []]⟩}
noncomputable def qDf (a0:Int) (a1:Int):Option (Int):=cmp_Compare_int_I.call [(.int .i64 a0),(.int .i64 a1)] []
theorem qzn (a0:Int) (a1:Int):qDf a0 a1=(
(qah a0).bind fun r1=>
(qah a1).bind fun r2=>
if r1=true then
if r2=true then
some (0:Int)
else
some (-1:Int)
else
if r2=true then
some (1:Int)
else
if (decide (a0<a1))=true then
some (-1:Int)
else
if (decide (a0>a1))=true then
some (1:Int)
else
some (0:Int)):=(FnI.call_eq (by kernel_rfl)).trans (by kernel_rfl)
noncomputable def qvo (acc:List AV→Bool):Summ Tryz.prog GT:=cmp_Compare_int_I.summ mixed acc false false
noncomputable def cmp_Or_int_I:FnI Tryz.prog GT:={f:=81,cuts:=[⟨(3,3),[3,6,7,8],false,false,[],[],[]⟩],tab:=[],fm:=⟨true,[.val (.int .i64) []]⟩}
noncomputable def qto (a0:List Int):Option (Int):=cmp_Or_int_I.call [(.sl (.int .i64) false a0)] []
noncomputable def qae (v3:Int) (v6:List Int) (v7:Int) (v8:Int):Option (Int):=cmp_Or_int_I.sem ⟨[.code (cIn (cIn (qga (qHa (qga (qga (qma Tryz.prog 81))))))), .inLoop (cIn (cIn (qga (qHa (qga (qga (qma Tryz.prog 81))))))), .inBlock 0, .code (qga (qga (qga (qma Tryz.prog 81))))],⟨[(3,(.one (.int .i64 v3))),(6,(.one (.sl (.int .i64) false v6))),(7,(.one (.int .i64 v7))),(8,(.one (.int .i64 v8)))],[],8⟩⟩
theorem qOt (a0:List Int):qto a0=(
qae (0:Int) a0 (Int.ofNat (List.length a0)) (0:Int)):=(FnI.call_eq (by kernel_rfl)).trans (by kernel_rfl)
theorem qMg (v3:Int) (v6:List Int) (v7:Int) (v8:Int):qae v3 v6 v7 v8=(
if (decide (v8<v7))=true then
gd (0≤v8)<|
gd (v8<(Int.ofNat (List.length v6)))<|
if ((List.getD v6 (Int.toNat v8) (0:Int)) != v3)=true then
some (List.getD v6 (Int.toNat v8) (0:Int))
else
qae v3 v6 v7 (IntKind.wrap .i64 (v8+(1:Int)))
else
some (v3)):=(FnI.sem_eq _).trans (by kernel_rfl)
noncomputable def qrv (acc:List AV→Bool):Summ Tryz.prog GT:=cmp_Or_int_I.summ mixed acc false false
noncomputable def split_missing_1_I:FnI Tryz.prog GT:={f:=80,cuts:=[],tab:=[qvo (fun _=>true),qrv (fun _=>true)],fm:=⟨true,[.val (.int .i64) []]⟩}
noncomputable def qGa (a0:qia) (a1:qia):Option (Int):=split_missing_1_I.call [(.agg qca (inj false qca a0)),(.agg qca (inj false qca a1))] []
theorem qQm (a0:qia) (a1:qia):qGa a0 a1=(
(qDf a0.1 a1.1).bind fun r1=>
(qDf a0.2.1 a1.2.1).bind fun r2=>
(qto [r1,r2]).bind fun r3=>
some (r3)):=(FnI.call_eq (by kernel_rfl)).trans (by kernel_rfl)
noncomputable def qwb (acc:List AV→Bool):Summ Tryz.prog GT:=split_missing_1_I.summ mixed acc false false
noncomputable def slices_insertionSortCmpFunc_api_Piece_I:FnI Tryz.prog GT:={f:=176,cuts:=[⟨(1,2),[0,1,2,3,8],false,false,[],[],[]⟩,⟨(4,6),[0,1,2,3,8,9],false,false,[],[],[]⟩],tab:=[qwb (fun _=>true)],fm:=⟨false,[.row 0 qca]⟩}
noncomputable def qZa (a1:Int) (a2:Int) (h0:List qia):Option (List qia):=slices_insertionSortCmpFunc_api_Piece_I.call [(.ref qca 0 0 (List.length h0) true),(.int .i64 a1),(.int .i64 a2),(.func 80 [])] [(0,(.row qca false h0))]
noncomputable def qFa (v1:Int) (v2:Int) (v8:Int) (h0:List qia):Option (List qia):=slices_insertionSortCmpFunc_api_Piece_I.sem ⟨[.code (cIn (cIn (qga (qma Tryz.prog 176)))), .inLoop (cIn (cIn (qga (qma Tryz.prog 176)))), .inBlock 0],⟨[(0,(.one (.ref qca 0 0 (List.length h0) true))),(1,(.one (.int .i64 v1))),(2,(.one (.int .i64 v2))),(3,(.one (.func 80 []))),(8,(.one (.int .i64 v8)))],[(0,some (.row qca false h0))],9⟩⟩
noncomputable def qSa (v1:Int) (v2:Int) (v8:Int) (v9:Int) (h0:List qia):Option (List qia):=slices_insertionSortCmpFunc_api_Piece_I.sem ⟨[.code (cIn (cIn (qga (cIn (qHa (qga (cIn (cIn (qga (qma Tryz.prog 176)))))))))), .inLoop (cIn (cIn (qga (cIn (qHa (qga (cIn (cIn (qga (qma Tryz.prog 176)))))))))), .inBlock 2, .inBlock 1, .code (qga (qga (cIn (cIn (qga (qma Tryz.prog 176)))))), .inLoop (cIn (cIn (qga (qma Tryz.prog 176)))), .inBlock 0],⟨[(0,(.one (.ref qca 0 0 (List.length h0) true))),(1,(.one (.int .i64 v1))),(2,(.one (.int .i64 v2))),(3,(.one (.func 80 []))),(8,(.one (.int .i64 v8))),(9,(.one (.int .i64 v9)))],[(0,some (.row qca false h0))],9⟩⟩
theorem qEd (a1:Int) (a2:Int) (h0:List qia):qZa a1 a2 h0=(
qFa a1 a2 (IntKind.wrap .i64 (a1+(1:Int))) h0):=(FnI.call_eq (by kernel_rfl)).trans (by kernel_rfl)
theorem qNa (v1:Int) (v2:Int) (v8:Int) (h0:List qia):qFa v1 v2 v8 h0=(
if (decide (v8<v2))=true then
qSa v1 v2 v8 v8 h0
else
some (h0)):=(FnI.sem_eq _).trans (by kernel_rfl)
theorem qad (v1:Int) (v2:Int) (v8:Int) (v9:Int) (h0:List qia):qSa v1 v2 v8 v9 h0=(
if (decide (v9>v1))=true then
gd (0≤v9)<|
gd (v9<(Int.ofNat (List.length h0)))<|
gd (0≤(IntKind.wrap .i64 (v9 - (1:Int))))<|
gd ((IntKind.wrap .i64 (v9 - (1:Int)))<(Int.ofNat (List.length h0)))<|
(qGa (List.getD h0 (0+(Int.toNat v9)) (qja qca)) (List.getD h0 (0+(Int.toNat (IntKind.wrap .i64 (v9 - (1:Int))))) (qja qca))).bind fun r1=>
if (decide (r1<(0:Int)))=true then
gd (0≤(IntKind.wrap .i64 (v9 - (1:Int))))<|
gd ((IntKind.wrap .i64 (v9 - (1:Int)))<(Int.ofNat (List.length h0)))<|
gd (0≤v9)<|
gd (v9<(Int.ofNat (List.length h0)))<|
gd (0≤v9)<|
gd (v9<(Int.ofNat (List.length h0)))<|
gd (0≤(IntKind.wrap .i64 (v9 - (1:Int))))<|
gd ((IntKind.wrap .i64 (v9 - (1:Int)))<(Int.ofNat (List.length h0)))<|
qSa v1 v2 v8 (IntKind.wrap .i64 (v9 - (1:Int))) (List.set (List.set h0 (0+(Int.toNat v9)) (List.getD h0 (0+(Int.toNat (IntKind.wrap .i64 (v9 - (1:Int))))) (qja qca))) (0+(Int.toNat (IntKind.wrap .i64 (v9 - (1:Int))))) (List.getD h0 (0+(Int.toNat v9)) (qja qca)))
else
qFa v1 v2 (IntKind.wrap .i64 (v8+(1:Int))) h0
else
qFa v1 v2 (IntKind.wrap .i64 (v8+(1:Int))) h0):=(FnI.sem_eq _).trans (by kernel_rfl)
noncomputable def qJd (acc:List AV→Bool):Summ Tryz.prog GT:=slices_insertionSortCmpFunc_api_Piece_I.summ mixed acc true false
noncomputable def slices_siftDownCmpFunc_api_Piece_I:FnI Tryz.prog GT:={f:=253,cuts:=[⟨(1,2),[0,2,3,4,10],false,false,[],[],[]⟩],tab:=[qwb (fun _=>true)],fm:=⟨false,[.row 0 qca]⟩}
noncomputable def qhf (acc:List AV→Bool):Summ Tryz.prog GT:=slices_siftDownCmpFunc_api_Piece_I.summ mixed acc true false
noncomputable def slices_heapSortCmpFunc_api_Piece_I:FnI Tryz.prog GT:={f:=177,cuts:=[⟨(4,3),[0,3,8,9,10,11],false,false,[],[],[]⟩,⟨(8,2),[0,3,8,9,12],false,false,[],[],[]⟩],tab:=[(qhf (fun _=>true)).dropping],fm:=⟨false,[.row 0 qca]⟩}
noncomputable def qXf (a1:Int) (a2:Int) (h0:List qia):Option (List qia):=slices_heapSortCmpFunc_api_Piece_I.call [(.ref qca 0 0 (List.length h0) true),(.int .i64 a1),(.int .i64 a2),(.func 80 [])] [(0,(.row qca false h0))]
noncomputable def qjf (acc:List AV→Bool):Summ Tryz.prog GT:=slices_heapSortCmpFunc_api_Piece_I.summ mixed acc true false
noncomputable def slices_nextPowerOfTwo_I:FnI Tryz.prog GT:={f:=254,cuts:=[],tab:=[qhk (fun _=>true)],fm:=⟨true,[.val (.int .u64) []]⟩}
noncomputable def qTi (acc:List AV→Bool):Summ Tryz.prog GT:=slices_nextPowerOfTwo_I.summ mixed acc false false
noncomputable def slices_xorshift_Next_I:FnI Tryz.prog GT:={f:=255,cuts:=[],tab:=[],fm:=⟨true,[.val (.int .u64) [], .box 0 (.int .u64) []]⟩}
noncomputable def qzj (acc:List AV→Bool):Summ Tryz.prog GT:=slices_xorshift_Next_I.summ mixed acc false false
noncomputable def slices_breakPatternsCmpFunc_api_Piece_I:FnI Tryz.prog GT:={f:=178,cuts:=[⟨(5,2),[0,1,8,9,10,11],false,false,[],[],[]⟩],tab:=[qTi (fun _=>true),qzj (fun _=>true)],fm:=⟨false,[.row 0 qca]⟩}
noncomputable def qje (a1:Int) (a2:Int) (h0:List qia):Option (List qia):=slices_breakPatternsCmpFunc_api_Piece_I.call [(.ref qca 0 0 (List.length h0) true),(.int .i64 a1),(.int .i64 a2),(.func 80 [])] [(0,(.row qca false h0))]
noncomputable def qKd (acc:List AV→Bool):Summ Tryz.prog GT:=slices_breakPatternsCmpFunc_api_Piece_I.summ mixed acc true false
noncomputable def slices_order2CmpFunc_api_Piece_I:FnI Tryz.prog GT:={f:=324,cuts:=[],tab:=[qwb (fun _=>true)],fm:=⟨false,[.val (.int .i64) [], .val (.int .i64) [], .row 0 qca, .box 1 (.int .i64) []]⟩}
noncomputable def qWf (acc:List AV→Bool):Summ Tryz.prog GT:=slices_order2CmpFunc_api_Piece_I.summ mixed acc true false
noncomputable def slices_medianCmpFunc_api_Piece_I:FnI Tryz.prog GT:={f:=257,cuts:=[],tab:=[(qWf (fun _=>true)).dropping],fm:=⟨false,[.val (.int .i64) [], .row 0 qca, .box 1 (.int .i64) []]⟩}
noncomputable def qGc (acc:List AV→Bool):Summ Tryz.prog GT:=slices_medianCmpFunc_api_Piece_I.summ mixed acc true false
noncomputable def slices_medianAdjacentCmpFunc_api_Piece_I:FnI Tryz.prog GT:={f:=256,cuts:=[],tab:=[(qGc (fun _=>true)).dropping],fm:=⟨false,[.val (.int .i64) [], .row 0 qca, .box 1 (.int .i64) []]⟩}
noncomputable def qDd (acc:List AV→Bool):Summ Tryz.prog GT:=slices_medianAdjacentCmpFunc_api_Piece_I.summ mixed acc true false
noncomputable def slices_choosePivotCmpFunc_api_Piece_I:FnI Tryz.prog GT:={f:=179,cuts:=[],tab:=[(qDd (fun _=>true)).dropping,(qGc (fun _=>true)).dropping],fm:=⟨false,[.val (.int .i64) [], .val (.int .i64) [], .row 0 qca]⟩}
noncomputable def qcc (a1:Int) (a2:Int) (h0:List qia):Option (Int×Int×List qia):=slices_choosePivotCmpFunc_api_Piece_I.call [(.ref qca 0 0 (List.length h0) true),(.int .i64 a1),(.int .i64 a2),(.func 80 [])] [(0,(.row qca false h0))]
noncomputable def qie (acc:List AV→Bool):Summ Tryz.prog GT:=slices_choosePivotCmpFunc_api_Piece_I.summ mixed acc true false
noncomputable def slices_reverseRangeCmpFunc_api_Piece_I:FnI Tryz.prog GT:={f:=180,cuts:=[⟨(2,2),[0,8,9],false,false,[],[],[]⟩],tab:=[],fm:=⟨false,[.row 0 qca]⟩}
noncomputable def qYb (a1:Int) (a2:Int) (h0:List qia):Option (List qia):=slices_reverseRangeCmpFunc_api_Piece_I.call [(.ref qca 0 0 (List.length h0) true),(.int .i64 a1),(.int .i64 a2),(.func 80 [])] [(0,(.row qca false h0))]
noncomputable def qVd (acc:List AV→Bool):Summ Tryz.prog GT:=slices_reverseRangeCmpFunc_api_Piece_I.summ mixed acc true false
noncomputable def slices_partialInsertionSortCmpFunc_api_Piece_I:FnI Tryz.prog GT:={f:=181,cuts:=[⟨(3,3),[0,1,2,3,9,10],false,false,[],[],[]⟩,⟨(5,8),[0,1,2,3,9,10],false,false,[],[],[]⟩,⟨(14,8),[0,1,2,3,9,10,11],false,false,[],[],[]⟩,⟨(20,7),[0,1,2,3,9,10,12],false,false,[],[],[]⟩],tab:=[qwb (fun _=>true)],fm:=⟨false,[.val .bool [], .row 0 qca]⟩}
noncomputable def qJa (a1:Int) (a2:Int) (h0:List qia):Option (Bool×List qia):=slices_partialInsertionSortCmpFunc_api_Piece_I.call [(.ref qca 0 0 (List.length h0) true),(.int .i64 a1),(.int .i64 a2),(.func 80 [])] [(0,(.row qca false h0))]
noncomputable def qKc (acc:List AV→Bool):Summ Tryz.prog GT:=slices_partialInsertionSortCmpFunc_api_Piece_I.summ mixed acc true false
noncomputable def slices_partitionEqualCmpFunc_api_Piece_I:FnI Tryz.prog GT:={f:=182,cuts:=[⟨(3,3),[0,1,4,11,12],false,false,[],[],[]⟩,⟨(3,7),[0,1,4,11,12],false,false,[],[],[]⟩,⟨(5,7),[0,1,4,11,12],false,false,[],[],[]⟩],tab:=[qwb (fun _=>true)],fm:=⟨false,[.val (.int .i64) [], .row 0 qca]⟩}
noncomputable def qsa (a1:Int) (a2:Int) (a3:Int) (h0:List qia):Option (Int×List qia):=slices_partitionEqualCmpFunc_api_Piece_I.call [(.ref qca 0 0 (List.length h0) true),(.int .i64 a1),(.int .i64 a2),(.int .i64 a3),(.func 80 [])] [(0,(.row qca false h0))]
noncomputable def qCd (acc:List AV→Bool):Summ Tryz.prog GT:=slices_partitionEqualCmpFunc_api_Piece_I.summ mixed acc true false
noncomputable def slices_partitionCmpFunc_api_Piece_I:FnI Tryz.prog GT:={f:=183,cuts:=[⟨(3,3),[0,1,4,12,13],false,false,[],[],[]⟩,⟨(5,3),[0,1,4,12,13],false,false,[],[],[]⟩,⟨(13,3),[0,1,4,12,13],false,false,[],[],[]⟩,⟨(13,7),[0,1,4,12,13],false,false,[],[],[]⟩,⟨(15,7),[0,1,4,12,13],false,false,[],[],[]⟩],tab:=[qwb (fun _=>true)],fm:=⟨false,[.val (.int .i64) [], .val .bool [], .row 0 qca]⟩}
noncomputable def qla (a1:Int) (a2:Int) (a3:Int) (h0:List qia):Option (Int×Bool×List qia):=slices_partitionCmpFunc_api_Piece_I.call [(.ref qca 0 0 (List.length h0) true),(.int .i64 a1),(.int .i64 a2),(.int .i64 a3),(.func 80 [])] [(0,(.row qca false h0))]
noncomputable def qFe (acc:List AV→Bool):Summ Tryz.prog GT:=slices_partitionCmpFunc_api_Piece_I.summ mixed acc true false
end Go.Ab

set_option linter.unusedVariables false
set_option maxRecDepth 20000
namespace Go.Ab
open Go Go.Proofs
noncomputable def slices_pdqsortCmpFunc_api_Piece_I:FnI Tryz.prog GT:={f:=121,cuts:=[⟨(2,2),[0,1,2,3,4,10,11],false,false,[],[],[]⟩],tab:=[(qJd (fun _=>true)).dropping,(qjf (fun _=>true)).dropping,(qKd (fun _=>true)).dropping,(qie (fun _=>true)).dropping,(qVd (fun _=>true)).dropping,(qKc (fun _=>true)).dropping,qwb (fun _=>true),(qCd (fun _=>true)).dropping,(qFe (fun _=>true)).dropping],fm:=⟨false,[.row 0 qca]⟩}
noncomputable def qxb (a1:Int) (a2:Int) (a3:Int) (h0:List qia):Option (List qia):=slices_pdqsortCmpFunc_api_Piece_I.call [(.ref qca 0 0 (List.length h0) true),(.int .i64 a1),(.int .i64 a2),(.int .i64 a3),(.func 80 [])] [(0,(.row qca false h0))]
noncomputable def qra (v1:Int) (v2:Int) (v3:Int) (v10:Bool) (v11:Bool) (h0:List qia):Option (List qia):=slices_pdqsortCmpFunc_api_Piece_I.sem ⟨[.code (cIn (cIn (qga (qga (qma Tryz.prog 121))))), .inLoop (cIn (cIn (qga (qga (qma Tryz.prog 121))))), .inBlock 0],⟨[(0,(.one (.ref qca 0 0 (List.length h0) true))),(1,(.one (.int .i64 v1))),(2,(.one (.int .i64 v2))),(3,(.one (.int .i64 v3))),(4,(.one (.func 80 []))),(10,(.one (.bool v10))),(11,(.one (.bool v11)))],[(0,some (.row qca false h0))],9⟩⟩
theorem qif (a1:Int) (a2:Int) (a3:Int) (h0:List qia):qxb a1 a2 a3 h0=(
qra a1 a2 a3 true true h0):=(FnI.call_eq (by kernel_rfl)).trans (by kernel_rfl)
theorem qhe (v1:Int) (v2:Int) (v3:Int) (v10:Bool) (v11:Bool) (h0:List qia):qra v1 v2 v3 v10 v11 h0=(
if (decide ((IntKind.wrap .i64 (v2 - v1))≤(12:Int)))=true then
(qZa v1 v2 h0).bind fun r1=>
some (r1)
else
if (v3==(0:Int))=true then
(qXf v1 v2 h0).bind fun r2=>
some (r2)
else
if (not v10)=true then
(qje v1 v2 h0).bind fun r3=>
(qcc v1 v2 r3).bind fun r4=>
if (r4.2.1==(2:Int))=true then
(qYb v1 v2 r4.2.2).bind fun r5=>
if v10=true then
if v11=true then
(qJa v1 v2 r5).bind fun r6=>
if r6.1=true then
some (r6.2)
else
if (decide (v1>(0:Int)))=true then
gd (0≤(IntKind.wrap .i64 (v1 - (1:Int))))<|
gd ((IntKind.wrap .i64 (v1 - (1:Int)))<(Int.ofNat (List.length h0)))<|
gd (0≤(IntKind.wrap .i64 ((IntKind.wrap .i64 (v2 - (1:Int))) - (IntKind.wrap .i64 (r4.1 - v1)))))<|
gd ((IntKind.wrap .i64 ((IntKind.wrap .i64 (v2 - (1:Int))) - (IntKind.wrap .i64 (r4.1 - v1))))<(Int.ofNat (List.length h0)))<|
(qGa (List.getD r6.2 (0+(Int.toNat (IntKind.wrap .i64 (v1 - (1:Int))))) (qja qca)) (List.getD r6.2 (0+(Int.toNat (IntKind.wrap .i64 ((IntKind.wrap .i64 (v2 - (1:Int))) - (IntKind.wrap .i64 (r4.1 - v1)))))) (qja qca))).bind fun r7=>
if (not (decide (r7<(0:Int))))=true then
(qsa v1 v2 (IntKind.wrap .i64 ((IntKind.wrap .i64 (v2 - (1:Int))) - (IntKind.wrap .i64 (r4.1 - v1)))) r6.2).bind fun r8=>
qra r8.1 v2 (IntKind.wrap .i64 (v3 - (1:Int))) v10 v11 r8.2
else
(qla v1 v2 (IntKind.wrap .i64 ((IntKind.wrap .i64 (v2 - (1:Int))) - (IntKind.wrap .i64 (r4.1 - v1)))) r6.2).bind fun r9=>
gd ((8:Int)≠0)<|
if (decide ((IntKind.wrap .i64 (r9.1 - v1))<(IntKind.wrap .i64 (v2 - r9.1))))=true then
none
else
none
else
(qla v1 v2 (IntKind.wrap .i64 ((IntKind.wrap .i64 (v2 - (1:Int))) - (IntKind.wrap .i64 (r4.1 - v1)))) r6.2).bind fun r10=>
gd ((8:Int)≠0)<|
if (decide ((IntKind.wrap .i64 (r10.1 - v1))<(IntKind.wrap .i64 (v2 - r10.1))))=true then
none
else
none
else
if (decide (v1>(0:Int)))=true then
gd (0≤(IntKind.wrap .i64 (v1 - (1:Int))))<|
gd ((IntKind.wrap .i64 (v1 - (1:Int)))<(Int.ofNat (List.length h0)))<|
gd (0≤(IntKind.wrap .i64 ((IntKind.wrap .i64 (v2 - (1:Int))) - (IntKind.wrap .i64 (r4.1 - v1)))))<|
gd ((IntKind.wrap .i64 ((IntKind.wrap .i64 (v2 - (1:Int))) - (IntKind.wrap .i64 (r4.1 - v1))))<(Int.ofNat (List.length h0)))<|
(qGa (List.getD r5 (0+(Int.toNat (IntKind.wrap .i64 (v1 - (1:Int))))) (qja qca)) (List.getD r5 (0+(Int.toNat (IntKind.wrap .i64 ((IntKind.wrap .i64 (v2 - (1:Int))) - (IntKind.wrap .i64 (r4.1 - v1)))))) (qja qca))).bind fun r11=>
if (not (decide (r11<(0:Int))))=true then
(qsa v1 v2 (IntKind.wrap .i64 ((IntKind.wrap .i64 (v2 - (1:Int))) - (IntKind.wrap .i64 (r4.1 - v1)))) r5).bind fun r12=>
qra r12.1 v2 (IntKind.wrap .i64 (v3 - (1:Int))) v10 v11 r12.2
else
(qla v1 v2 (IntKind.wrap .i64 ((IntKind.wrap .i64 (v2 - (1:Int))) - (IntKind.wrap .i64 (r4.1 - v1)))) r5).bind fun r13=>
gd ((8:Int)≠0)<|
if (decide ((IntKind.wrap .i64 (r13.1 - v1))<(IntKind.wrap .i64 (v2 - r13.1))))=true then
none
else
none
else
(qla v1 v2 (IntKind.wrap .i64 ((IntKind.wrap .i64 (v2 - (1:Int))) - (IntKind.wrap .i64 (r4.1 - v1)))) r5).bind fun r14=>
gd ((8:Int)≠0)<|
if (decide ((IntKind.wrap .i64 (r14.1 - v1))<(IntKind.wrap .i64 (v2 - r14.1))))=true then
none
else
none
else
if (decide (v1>(0:Int)))=true then
gd (0≤(IntKind.wrap .i64 (v1 - (1:Int))))<|
gd ((IntKind.wrap .i64 (v1 - (1:Int)))<(Int.ofNat (List.length h0)))<|
gd (0≤(IntKind.wrap .i64 ((IntKind.wrap .i64 (v2 - (1:Int))) - (IntKind.wrap .i64 (r4.1 - v1)))))<|
gd ((IntKind.wrap .i64 ((IntKind.wrap .i64 (v2 - (1:Int))) - (IntKind.wrap .i64 (r4.1 - v1))))<(Int.ofNat (List.length h0)))<|
(qGa (List.getD r5 (0+(Int.toNat (IntKind.wrap .i64 (v1 - (1:Int))))) (qja qca)) (List.getD r5 (0+(Int.toNat (IntKind.wrap .i64 ((IntKind.wrap .i64 (v2 - (1:Int))) - (IntKind.wrap .i64 (r4.1 - v1)))))) (qja qca))).bind fun r15=>
if (not (decide (r15<(0:Int))))=true then
(qsa v1 v2 (IntKind.wrap .i64 ((IntKind.wrap .i64 (v2 - (1:Int))) - (IntKind.wrap .i64 (r4.1 - v1)))) r5).bind fun r16=>
qra r16.1 v2 (IntKind.wrap .i64 (v3 - (1:Int))) v10 v11 r16.2
else
(qla v1 v2 (IntKind.wrap .i64 ((IntKind.wrap .i64 (v2 - (1:Int))) - (IntKind.wrap .i64 (r4.1 - v1)))) r5).bind fun r17=>
gd ((8:Int)≠0)<|
if (decide ((IntKind.wrap .i64 (r17.1 - v1))<(IntKind.wrap .i64 (v2 - r17.1))))=true then
none
else
none
else
(qla v1 v2 (IntKind.wrap .i64 ((IntKind.wrap .i64 (v2 - (1:Int))) - (IntKind.wrap .i64 (r4.1 - v1)))) r5).bind fun r18=>
gd ((8:Int)≠0)<|
if (decide ((IntKind.wrap .i64 (r18.1 - v1))<(IntKind.wrap .i64 (v2 - r18.1))))=true then
none
else
none
else
if v10=true then
if v11=true then
if (r4.2.1==(1:Int))=true then
(qJa v1 v2 r4.2.2).bind fun r19=>
if r19.1=true then
some (r19.2)
else
if (decide (v1>(0:Int)))=true then
gd (0≤(IntKind.wrap .i64 (v1 - (1:Int))))<|
gd ((IntKind.wrap .i64 (v1 - (1:Int)))<(Int.ofNat (List.length h0)))<|
gd (0≤r4.1)<|
gd (r4.1<(Int.ofNat (List.length h0)))<|
(qGa (List.getD r19.2 (0+(Int.toNat (IntKind.wrap .i64 (v1 - (1:Int))))) (qja qca)) (List.getD r19.2 (0+(Int.toNat r4.1)) (qja qca))).bind fun r20=>
if (not (decide (r20<(0:Int))))=true then
(qsa v1 v2 r4.1 r19.2).bind fun r21=>
qra r21.1 v2 (IntKind.wrap .i64 (v3 - (1:Int))) v10 v11 r21.2
else
(qla v1 v2 r4.1 r19.2).bind fun r22=>
gd ((8:Int)≠0)<|
if (decide ((IntKind.wrap .i64 (r22.1 - v1))<(IntKind.wrap .i64 (v2 - r22.1))))=true then
none
else
none
else
(qla v1 v2 r4.1 r19.2).bind fun r23=>
gd ((8:Int)≠0)<|
if (decide ((IntKind.wrap .i64 (r23.1 - v1))<(IntKind.wrap .i64 (v2 - r23.1))))=true then
none
else
none
else
if (decide (v1>(0:Int)))=true then
gd (0≤(IntKind.wrap .i64 (v1 - (1:Int))))<|
gd ((IntKind.wrap .i64 (v1 - (1:Int)))<(Int.ofNat (List.length h0)))<|
gd (0≤r4.1)<|
gd (r4.1<(Int.ofNat (List.length h0)))<|
(qGa (List.getD r4.2.2 (0+(Int.toNat (IntKind.wrap .i64 (v1 - (1:Int))))) (qja qca)) (List.getD r4.2.2 (0+(Int.toNat r4.1)) (qja qca))).bind fun r24=>
if (not (decide (r24<(0:Int))))=true then
(qsa v1 v2 r4.1 r4.2.2).bind fun r25=>
qra r25.1 v2 (IntKind.wrap .i64 (v3 - (1:Int))) v10 v11 r25.2
else
(qla v1 v2 r4.1 r4.2.2).bind fun r26=>
gd ((8:Int)≠0)<|
if (decide ((IntKind.wrap .i64 (r26.1 - v1))<(IntKind.wrap .i64 (v2 - r26.1))))=true then
none
else
none
else
(qla v1 v2 r4.1 r4.2.2).bind fun r27=>
gd ((8:Int)≠0)<|
if (decide ((IntKind.wrap .i64 (r27.1 - v1))<(IntKind.wrap .i64 (v2 - r27.1))))=true then
none
else
none
else
if (decide (v1>(0:Int)))=true then
gd (0≤(IntKind.wrap .i64 (v1 - (1:Int))))<|
gd ((IntKind.wrap .i64 (v1 - (1:Int)))<(Int.ofNat (List.length h0)))<|
gd (0≤r4.1)<|
gd (r4.1<(Int.ofNat (List.length h0)))<|
(qGa (List.getD r4.2.2 (0+(Int.toNat (IntKind.wrap .i64 (v1 - (1:Int))))) (qja qca)) (List.getD r4.2.2 (0+(Int.toNat r4.1)) (qja qca))).bind fun r28=>
if (not (decide (r28<(0:Int))))=true then
(qsa v1 v2 r4.1 r4.2.2).bind fun r29=>
qra r29.1 v2 (IntKind.wrap .i64 (v3 - (1:Int))) v10 v11 r29.2
else
(qla v1 v2 r4.1 r4.2.2).bind fun r30=>
gd ((8:Int)≠0)<|
if (decide ((IntKind.wrap .i64 (r30.1 - v1))<(IntKind.wrap .i64 (v2 - r30.1))))=true then
none
else
none
else
(qla v1 v2 r4.1 r4.2.2).bind fun r31=>
gd ((8:Int)≠0)<|
if (decide ((IntKind.wrap .i64 (r31.1 - v1))<(IntKind.wrap .i64 (v2 - r31.1))))=true then
none
else
none
else
if (decide (v1>(0:Int)))=true then
gd (0≤(IntKind.wrap .i64 (v1 - (1:Int))))<|
gd ((IntKind.wrap .i64 (v1 - (1:Int)))<(Int.ofNat (List.length h0)))<|
gd (0≤r4.1)<|
gd (r4.1<(Int.ofNat (List.length h0)))<|
(qGa (List.getD r4.2.2 (0+(Int.toNat (IntKind.wrap .i64 (v1 - (1:Int))))) (qja qca)) (List.getD r4.2.2 (0+(Int.toNat r4.1)) (qja qca))).bind fun r32=>
if (not (decide (r32<(0:Int))))=true then
(qsa v1 v2 r4.1 r4.2.2).bind fun r33=>
qra r33.1 v2 (IntKind.wrap .i64 (v3 - (1:Int))) v10 v11 r33.2
else
(qla v1 v2 r4.1 r4.2.2).bind fun r34=>
gd ((8:Int)≠0)<|
if (decide ((IntKind.wrap .i64 (r34.1 - v1))<(IntKind.wrap .i64 (v2 - r34.1))))=true then
none
else
none
else
(qla v1 v2 r4.1 r4.2.2).bind fun r35=>
gd ((8:Int)≠0)<|
if (decide ((IntKind.wrap .i64 (r35.1 - v1))<(IntKind.wrap .i64 (v2 - r35.1))))=true then
none
else
none
else
(qcc v1 v2 h0).bind fun r36=>
if (r36.2.1==(2:Int))=true then
(qYb v1 v2 r36.2.2).bind fun r37=>
if v10=true then
if v11=true then
(qJa v1 v2 r37).bind fun r38=>
if r38.1=true then
some (r38.2)
else
if (decide (v1>(0:Int)))=true then
gd (0≤(IntKind.wrap .i64 (v1 - (1:Int))))<|
gd ((IntKind.wrap .i64 (v1 - (1:Int)))<(Int.ofNat (List.length h0)))<|
gd (0≤(IntKind.wrap .i64 ((IntKind.wrap .i64 (v2 - (1:Int))) - (IntKind.wrap .i64 (r36.1 - v1)))))<|
gd ((IntKind.wrap .i64 ((IntKind.wrap .i64 (v2 - (1:Int))) - (IntKind.wrap .i64 (r36.1 - v1))))<(Int.ofNat (List.length h0)))<|
(qGa (List.getD r38.2 (0+(Int.toNat (IntKind.wrap .i64 (v1 - (1:Int))))) (qja qca)) (List.getD r38.2 (0+(Int.toNat (IntKind.wrap .i64 ((IntKind.wrap .i64 (v2 - (1:Int))) - (IntKind.wrap .i64 (r36.1 - v1)))))) (qja qca))).bind fun r39=>
if (not (decide (r39<(0:Int))))=true then
(qsa v1 v2 (IntKind.wrap .i64 ((IntKind.wrap .i64 (v2 - (1:Int))) - (IntKind.wrap .i64 (r36.1 - v1)))) r38.2).bind fun r40=>
qra r40.1 v2 v3 v10 v11 r40.2
else
(qla v1 v2 (IntKind.wrap .i64 ((IntKind.wrap .i64 (v2 - (1:Int))) - (IntKind.wrap .i64 (r36.1 - v1)))) r38.2).bind fun r41=>
gd ((8:Int)≠0)<|
if (decide ((IntKind.wrap .i64 (r41.1 - v1))<(IntKind.wrap .i64 (v2 - r41.1))))=true then
none
else
none
else
(qla v1 v2 (IntKind.wrap .i64 ((IntKind.wrap .i64 (v2 - (1:Int))) - (IntKind.wrap .i64 (r36.1 - v1)))) r38.2).bind fun r42=>
gd ((8:Int)≠0)<|
if (decide ((IntKind.wrap .i64 (r42.1 - v1))<(IntKind.wrap .i64 (v2 - r42.1))))=true then
none
else
none
else
if (decide (v1>(0:Int)))=true then
gd (0≤(IntKind.wrap .i64 (v1 - (1:Int))))<|
gd ((IntKind.wrap .i64 (v1 - (1:Int)))<(Int.ofNat (List.length h0)))<|
gd (0≤(IntKind.wrap .i64 ((IntKind.wrap .i64 (v2 - (1:Int))) - (IntKind.wrap .i64 (r36.1 - v1)))))<|
gd ((IntKind.wrap .i64 ((IntKind.wrap .i64 (v2 - (1:Int))) - (IntKind.wrap .i64 (r36.1 - v1))))<(Int.ofNat (List.length h0)))<|
(qGa (List.getD r37 (0+(Int.toNat (IntKind.wrap .i64 (v1 - (1:Int))))) (qja qca)) (List.getD r37 (0+(Int.toNat (IntKind.wrap .i64 ((IntKind.wrap .i64 (v2 - (1:Int))) - (IntKind.wrap .i64 (r36.1 - v1)))))) (qja qca))).bind fun r43=>
if (not (decide (r43<(0:Int))))=true then
(qsa v1 v2 (IntKind.wrap .i64 ((IntKind.wrap .i64 (v2 - (1:Int))) - (IntKind.wrap .i64 (r36.1 - v1)))) r37).bind fun r44=>
qra r44.1 v2 v3 v10 v11 r44.2
else
(qla v1 v2 (IntKind.wrap .i64 ((IntKind.wrap .i64 (v2 - (1:Int))) - (IntKind.wrap .i64 (r36.1 - v1)))) r37).bind fun r45=>
gd ((8:Int)≠0)<|
if (decide ((IntKind.wrap .i64 (r45.1 - v1))<(IntKind.wrap .i64 (v2 - r45.1))))=true then
none
else
none
else
(qla v1 v2 (IntKind.wrap .i64 ((IntKind.wrap .i64 (v2 - (1:Int))) - (IntKind.wrap .i64 (r36.1 - v1)))) r37).bind fun r46=>
gd ((8:Int)≠0)<|
if (decide ((IntKind.wrap .i64 (r46.1 - v1))<(IntKind.wrap .i64 (v2 - r46.1))))=true then
none
else
none
else
if (decide (v1>(0:Int)))=true then
gd (0≤(IntKind.wrap .i64 (v1 - (1:Int))))<|
gd ((IntKind.wrap .i64 (v1 - (1:Int)))<(Int.ofNat (List.length h0)))<|
gd (0≤(IntKind.wrap .i64 ((IntKind.wrap .i64 (v2 - (1:Int))) - (IntKind.wrap .i64 (r36.1 - v1)))))<|
gd ((IntKind.wrap .i64 ((IntKind.wrap .i64 (v2 - (1:Int))) - (IntKind.wrap .i64 (r36.1 - v1))))<(Int.ofNat (List.length h0)))<|
(qGa (List.getD r37 (0+(Int.toNat (IntKind.wrap .i64 (v1 - (1:Int))))) (qja qca)) (List.getD r37 (0+(Int.toNat (IntKind.wrap .i64 ((IntKind.wrap .i64 (v2 - (1:Int))) - (IntKind.wrap .i64 (r36.1 - v1)))))) (qja qca))).bind fun r47=>
if (not (decide (r47<(0:Int))))=true then
(qsa v1 v2 (IntKind.wrap .i64 ((IntKind.wrap .i64 (v2 - (1:Int))) - (IntKind.wrap .i64 (r36.1 - v1)))) r37).bind fun r48=>
qra r48.1 v2 v3 v10 v11 r48.2
else
(qla v1 v2 (IntKind.wrap .i64 ((IntKind.wrap .i64 (v2 - (1:Int))) - (IntKind.wrap .i64 (r36.1 - v1)))) r37).bind fun r49=>
gd ((8:Int)≠0)<|
if (decide ((IntKind.wrap .i64 (r49.1 - v1))<(IntKind.wrap .i64 (v2 - r49.1))))=true then
none
else
none
else
(qla v1 v2 (IntKind.wrap .i64 ((IntKind.wrap .i64 (v2 - (1:Int))) - (IntKind.wrap .i64 (r36.1 - v1)))) r37).bind fun r50=>
gd ((8:Int)≠0)<|
if (decide ((IntKind.wrap .i64 (r50.1 - v1))<(IntKind.wrap .i64 (v2 - r50.1))))=true then
none
else
none
else
if v10=true then
if v11=true then
if (r36.2.1==(1:Int))=true then
(qJa v1 v2 r36.2.2).bind fun r51=>
if r51.1=true then
some (r51.2)
else
if (decide (v1>(0:Int)))=true then
gd (0≤(IntKind.wrap .i64 (v1 - (1:Int))))<|
gd ((IntKind.wrap .i64 (v1 - (1:Int)))<(Int.ofNat (List.length h0)))<|
gd (0≤r36.1)<|
gd (r36.1<(Int.ofNat (List.length h0)))<|
(qGa (List.getD r51.2 (0+(Int.toNat (IntKind.wrap .i64 (v1 - (1:Int))))) (qja qca)) (List.getD r51.2 (0+(Int.toNat r36.1)) (qja qca))).bind fun r52=>
if (not (decide (r52<(0:Int))))=true then
(qsa v1 v2 r36.1 r51.2).bind fun r53=>
qra r53.1 v2 v3 v10 v11 r53.2
else
(qla v1 v2 r36.1 r51.2).bind fun r54=>
gd ((8:Int)≠0)<|
if (decide ((IntKind.wrap .i64 (r54.1 - v1))<(IntKind.wrap .i64 (v2 - r54.1))))=true then
none
else
none
else
(qla v1 v2 r36.1 r51.2).bind fun r55=>
gd ((8:Int)≠0)<|
if (decide ((IntKind.wrap .i64 (r55.1 - v1))<(IntKind.wrap .i64 (v2 - r55.1))))=true then
none
else
none
else
if (decide (v1>(0:Int)))=true then
gd (0≤(IntKind.wrap .i64 (v1 - (1:Int))))<|
gd ((IntKind.wrap .i64 (v1 - (1:Int)))<(Int.ofNat (List.length h0)))<|
gd (0≤r36.1)<|
gd (r36.1<(Int.ofNat (List.length h0)))<|
(qGa (List.getD r36.2.2 (0+(Int.toNat (IntKind.wrap .i64 (v1 - (1:Int))))) (qja qca)) (List.getD r36.2.2 (0+(Int.toNat r36.1)) (qja qca))).bind fun r56=>
if (not (decide (r56<(0:Int))))=true then
(qsa v1 v2 r36.1 r36.2.2).bind fun r57=>
qra r57.1 v2 v3 v10 v11 r57.2
else
(qla v1 v2 r36.1 r36.2.2).bind fun r58=>
gd ((8:Int)≠0)<|
if (decide ((IntKind.wrap .i64 (r58.1 - v1))<(IntKind.wrap .i64 (v2 - r58.1))))=true then
none
else
none
else
(qla v1 v2 r36.1 r36.2.2).bind fun r59=>
gd ((8:Int)≠0)<|
if (decide ((IntKind.wrap .i64 (r59.1 - v1))<(IntKind.wrap .i64 (v2 - r59.1))))=true then
none
else
none
else
if (decide (v1>(0:Int)))=true then
gd (0≤(IntKind.wrap .i64 (v1 - (1:Int))))<|
gd ((IntKind.wrap .i64 (v1 - (1:Int)))<(Int.ofNat (List.length h0)))<|
gd (0≤r36.1)<|
gd (r36.1<(Int.ofNat (List.length h0)))<|
(qGa (List.getD r36.2.2 (0+(Int.toNat (IntKind.wrap .i64 (v1 - (1:Int))))) (qja qca)) (List.getD r36.2.2 (0+(Int.toNat r36.1)) (qja qca))).bind fun r60=>
if (not (decide (r60<(0:Int))))=true then
(qsa v1 v2 r36.1 r36.2.2).bind fun r61=>
qra r61.1 v2 v3 v10 v11 r61.2
else
(qla v1 v2 r36.1 r36.2.2).bind fun r62=>
gd ((8:Int)≠0)<|
if (decide ((IntKind.wrap .i64 (r62.1 - v1))<(IntKind.wrap .i64 (v2 - r62.1))))=true then
none
else
none
else
(qla v1 v2 r36.1 r36.2.2).bind fun r63=>
gd ((8:Int)≠0)<|
if (decide ((IntKind.wrap .i64 (r63.1 - v1))<(IntKind.wrap .i64 (v2 - r63.1))))=true then
none
else
none
else
if (decide (v1>(0:Int)))=true then
gd (0≤(IntKind.wrap .i64 (v1 - (1:Int))))<|
gd ((IntKind.wrap .i64 (v1 - (1:Int)))<(Int.ofNat (List.length h0)))<|
gd (0≤r36.1)<|
gd (r36.1<(Int.ofNat (List.length h0)))<|
(qGa (List.getD r36.2.2 (0+(Int.toNat (IntKind.wrap .i64 (v1 - (1:Int))))) (qja qca)) (List.getD r36.2.2 (0+(Int.toNat r36.1)) (qja qca))).bind fun r64=>
if (not (decide (r64<(0:Int))))=true then
(qsa v1 v2 r36.1 r36.2.2).bind fun r65=>
qra r65.1 v2 v3 v10 v11 r65.2
else
(qla v1 v2 r36.1 r36.2.2).bind fun r66=>
gd ((8:Int)≠0)<|
if (decide ((IntKind.wrap .i64 (r66.1 - v1))<(IntKind.wrap .i64 (v2 - r66.1))))=true then
none
else
none
else
(qla v1 v2 r36.1 r36.2.2).bind fun r67=>
gd ((8:Int)≠0)<|
if (decide ((IntKind.wrap .i64 (r67.1 - v1))<(IntKind.wrap .i64 (v2 - r67.1))))=true then
none
else
none):=(FnI.sem_eq _).trans (by kernel_rfl)
noncomputable def qnf (acc:List AV→Bool):Summ Tryz.prog GT:=slices_pdqsortCmpFunc_api_Piece_I.summ mixed acc true false
noncomputable def slices_SortFunc_api_Piece_api_Piece_I:FnI Tryz.prog GT:={f:=79,cuts:=[],tab:=[qhk (fun _=>true),(qnf (fun _=>true)).dropping],fm:=⟨false,[.row 0 qca]⟩}
noncomputable def qEa (h0:List qia):Option (List qia):=slices_SortFunc_api_Piece_api_Piece_I.call [(.ref qca 0 0 (List.length h0) true),(.func 80 [])] [(0,(.row qca false h0))]
theorem qWd (h0:List qia):qEa h0=(
(quf (IntKind.wrap .u64 (Int.ofNat (List.length h0)))).bind fun r1=>
(qxb (0:Int) (Int.ofNat (List.length h0)) r1 h0).bind fun r2=>
some (r2)):=(FnI.call_eq (by kernel_rfl)).trans (by kernel_rfl)
noncomputable def qke (acc:List AV→Bool):Summ Tryz.prog GT:=slices_SortFunc_api_Piece_api_Piece_I.summ mixed acc true false
noncomputable def split_missing_I:FnI Tryz.prog GT:={f:=44,cuts:=[⟨(5,3),[1,5,15,16,17],false,false,[],[],[1]⟩,⟨(9,7),[1,5,6,8,15,16,17,27,28,29],false,false,[],[],[]⟩],tab:=[qkf (fun _=>true),(qke (fun _=>true)).dropping],fm:=⟨true,[.val (.slice qca) [.nw]]⟩}
noncomputable def qQi (a0:List Int) (a1:List qia):Option (List qia):=split_missing_I.call [(.sl (.int .i64) false a0),(.sl qca false a1)] []
noncomputable def qNb (v1n:Nat) (v15:List Int) (v16:Int) (v17:Int) (h8:List qia) (h9:List qia):Option (List qia):=split_missing_I.sem ⟨[.code (cIn (cIn (qga (qHa (qga (qga (qga (qga (qma Tryz.prog 44))))))))), .inLoop (cIn (cIn (qga (qHa (qga (qga (qga (qga (qma Tryz.prog 44))))))))), .inBlock 0, .code (qga (qga (qga (qga (qga (qma Tryz.prog 44))))))],⟨[(1,(.one (.ref qca 8 0 v1n false))),(5,(.one (.ref qca 9 0 (List.length h9) true))),(15,(.one (.sl (.int .i64) false v15))),(16,(.one (.int .i64 v16))),(17,(.one (.int .i64 v17)))],[(8,some (.row qca false h8)),(9,some (.row qca true h9))],10⟩⟩
noncomputable def qqc (v1n:Nat) (v6:Int) (v8:Int) (v15:List Int) (v16:Int) (v17:Int) (v28:Int) (v29:Int) (h8:List qia) (h9:List qia):Option (List qia):=split_missing_I.sem ⟨[.code (cIn (cIn (qga (qga (qga (cIn (qHa (qga (qga (cIn (cIn (qga (qHa (qga (qga (qga (qga (qma Tryz.prog 44)))))))))))))))))), .inLoop (cIn (cIn (qga (qga (qga (cIn (qHa (qga (qga (cIn (cIn (qga (qHa (qga (qga (qga (qga (qma Tryz.prog 44)))))))))))))))))), .inBlock 2, .inBlock 1, .code (qga (qga (qga (cIn (cIn (qga (qHa (qga (qga (qga (qga (qma Tryz.prog 44)))))))))))), .inLoop (cIn (cIn (qga (qHa (qga (qga (qga (qga (qma Tryz.prog 44))))))))), .inBlock 0, .code (qga (qga (qga (qga (qga (qma Tryz.prog 44))))))],⟨[(1,(.one (.ref qca 8 0 v1n false))),(5,(.one (.ref qca 9 0 (List.length h9) true))),(6,(.one (.int .i64 v6))),(8,(.one (.int .i64 v8))),(15,(.one (.sl (.int .i64) false v15))),(16,(.one (.int .i64 v16))),(17,(.one (.int .i64 v17))),(27,(.one (.ref qca 8 0 (List.length h8) true))),(28,(.one (.int .i64 v28))),(29,(.one (.int .i64 v29)))],[(8,some (.row qca false h8)),(9,some (.row qca true h9))],10⟩⟩
noncomputable def qpc (v1n:Nat) (v6:Int) (v8:Int) (v15:List Int) (v16:Int) (v17:Int) (v28:Int) (v29:Int) (h8:List qia) (h9:List qia) (h10:List qia):Option (List qia):=split_missing_I.sem ⟨[.code (cIn (cIn (qga (qga (qga (cIn (qHa (qga (qga (cIn (cIn (qga (qHa (qga (qga (qga (qga (qma Tryz.prog 44)))))))))))))))))), .inLoop (cIn (cIn (qga (qga (qga (cIn (qHa (qga (qga (cIn (cIn (qga (qHa (qga (qga (qga (qga (qma Tryz.prog 44)))))))))))))))))), .inBlock 2, .inBlock 1, .code (qga (qga (qga (cIn (cIn (qga (qHa (qga (qga (qga (qga (qma Tryz.prog 44)))))))))))), .inLoop (cIn (cIn (qga (qHa (qga (qga (qga (qga (qma Tryz.prog 44))))))))), .inBlock 0, .code (qga (qga (qga (qga (qga (qma Tryz.prog 44))))))],⟨[(1,(.one (.ref qca 8 0 v1n false))),(5,(.one (.ref qca 9 0 (List.length h9) true))),(6,(.one (.int .i64 v6))),(8,(.one (.int .i64 v8))),(15,(.one (.sl (.int .i64) false v15))),(16,(.one (.int .i64 v16))),(17,(.one (.int .i64 v17))),(27,(.one (.ref qca 10 0 (List.length h10) true))),(28,(.one (.int .i64 v28))),(29,(.one (.int .i64 v29)))],[(8,some (.row qca false h8)),(9,some (.row qca true h9)),(10,some (.row qca false h10))],11⟩⟩
theorem qcp (a0:List Int) (a1:List qia):qQi a0 a1=(
(qsb a1).bind fun r1=>
(qEa r1).bind fun r2=>
qNb (List.length r2) a0 (Int.ofNat (List.length a0)) (0:Int) r2 []):=(FnI.call_eq (by kernel_rfl)).trans (by kernel_rfl)
theorem qhh (v1n:Nat) (v15:List Int) (v16:Int) (v17:Int) (h8:List qia) (h9:List qia):qNb v1n v15 v16 v17 h8 h9=(
if (decide (v17<v16))=true then
gd (0≤v17)<|
gd (v17<(Int.ofNat (List.length v15)))<|
qzB (fun (r3:Bool)=>True) fun (r3:Bool)=>
if r3=true then
gd (v1n≤(List.length ((List.take v1n h8)++[(v17,((List.getD v15 (Int.toNat v17) (0:Int)),((0:Int),())))])))<|
gd (v1n≤(List.length ((List.take v1n h8)++[(v17,((List.getD v15 (Int.toNat v17) (0:Int)),((0:Int),())))])))<|
qqc v1n v17 (0:Int) v15 v16 v17 (Int.ofNat (List.length ((List.take v1n h8)++[(v17,((List.getD v15 (Int.toNat v17) (0:Int)),((0:Int),())))]))) (0:Int) ((List.take v1n h8)++[(v17,((List.getD v15 (Int.toNat v17) (0:Int)),((0:Int),())))]) h9
else
gd ((List.length ((List.take v1n h8)++[(v17,((List.getD v15 (Int.toNat v17) (0:Int)),((0:Int),())))]))*24≤140737488355328)<|
qpc v1n v17 (0:Int) v15 v16 v17 (Int.ofNat (List.length ((List.take v1n h8)++[(v17,((List.getD v15 (Int.toNat v17) (0:Int)),((0:Int),())))]))) (0:Int) h8 h9 ((List.take v1n h8)++[(v17,((List.getD v15 (Int.toNat v17) (0:Int)),((0:Int),())))])
else
some (h9)):=(FnI.sem_eq _).trans (by kernel_rfl)
theorem qgh (v1n:Nat) (v6:Int) (v8:Int) (v15:List Int) (v16:Int) (v17:Int) (v28:Int) (v29:Int) (h8:List qia) (h9:List qia):qqc v1n v6 v8 v15 v16 v17 v28 v29 h8 h9=(
if (decide (v29<v28))=true then
gd (0≤v29)<|
gd (v29<(Int.ofNat (List.length h8)))<|
if ((List.getD h8 (0+(Int.toNat v29)) (qja qca)).1 != v6)=true then
qqc v1n v6 v8 v15 v16 v17 v28 (IntKind.wrap .i64 (v29+(1:Int))) h8 h9
else
if (decide ((List.getD h8 (0+(Int.toNat v29)) (qja qca)).2.1>v8))=true then
gd ((List.length (h9++[(v6,(v8,((IntKind.wrap .i64 ((List.getD h8 (0+(Int.toNat v29)) (qja qca)).2.1 - v8)),())))]))*24≤140737488355328)<|
qqc v1n v6 (if (IntKind.wrap .i64 ((List.getD h8 (0+(Int.toNat v29)) (qja qca)).2.1+(List.getD h8 (0+(Int.toNat v29)) (qja qca)).2.2.1))>v8 then (IntKind.wrap .i64 ((List.getD h8 (0+(Int.toNat v29)) (qja qca)).2.1+(List.getD h8 (0+(Int.toNat v29)) (qja qca)).2.2.1)) else v8) v15 v16 v17 v28 (IntKind.wrap .i64 (v29+(1:Int))) h8 (h9++[(v6,(v8,((IntKind.wrap .i64 ((List.getD h8 (0+(Int.toNat v29)) (qja qca)).2.1 - v8)),())))])
else
qqc v1n v6 (if (IntKind.wrap .i64 ((List.getD h8 (0+(Int.toNat v29)) (qja qca)).2.1+(List.getD h8 (0+(Int.toNat v29)) (qja qca)).2.2.1))>v8 then (IntKind.wrap .i64 ((List.getD h8 (0+(Int.toNat v29)) (qja qca)).2.1+(List.getD h8 (0+(Int.toNat v29)) (qja qca)).2.2.1)) else v8) v15 v16 v17 v28 (IntKind.wrap .i64 (v29+(1:Int))) h8 h9
else
qNb v1n v15 v16 (IntKind.wrap .i64 (v17+(1:Int))) h8 h9):=(FnI.sem_eq _).trans (by kernel_rfl)
theorem qfh (v1n:Nat) (v6:Int) (v8:Int) (v15:List Int) (v16:Int) (v17:Int) (v28:Int) (v29:Int) (h8:List qia) (h9:List qia) (h10:List qia):qpc v1n v6 v8 v15 v16 v17 v28 v29 h8 h9 h10=(
if (decide (v29<v28))=true then
gd (0≤v29)<|
gd (v29<(Int.ofNat (List.length h10)))<|
if ((List.getD h10 (0+(Int.toNat v29)) (qja qca)).1 != v6)=true then
qpc v1n v6 v8 v15 v16 v17 v28 (IntKind.wrap .i64 (v29+(1:Int))) h8 h9 h10
else
if (decide ((List.getD h10 (0+(Int.toNat v29)) (qja qca)).2.1>v8))=true then
gd ((List.length (h9++[(v6,(v8,((IntKind.wrap .i64 ((List.getD h10 (0+(Int.toNat v29)) (qja qca)).2.1 - v8)),())))]))*24≤140737488355328)<|
qpc v1n v6 (if (IntKind.wrap .i64 ((List.getD h10 (0+(Int.toNat v29)) (qja qca)).2.1+(List.getD h10 (0+(Int.toNat v29)) (qja qca)).2.2.1))>v8 then (IntKind.wrap .i64 ((List.getD h10 (0+(Int.toNat v29)) (qja qca)).2.1+(List.getD h10 (0+(Int.toNat v29)) (qja qca)).2.2.1)) else v8) v15 v16 v17 v28 (IntKind.wrap .i64 (v29+(1:Int))) h8 (h9++[(v6,(v8,((IntKind.wrap .i64 ((List.getD h10 (0+(Int.toNat v29)) (qja qca)).2.1 - v8)),())))]) h10
else
qpc v1n v6 (if (IntKind.wrap .i64 ((List.getD h10 (0+(Int.toNat v29)) (qja qca)).2.1+(List.getD h10 (0+(Int.toNat v29)) (qja qca)).2.2.1))>v8 then (IntKind.wrap .i64 ((List.getD h10 (0+(Int.toNat v29)) (qja qca)).2.1+(List.getD h10 (0+(Int.toNat v29)) (qja qca)).2.2.1)) else v8) v15 v16 v17 v28 (IntKind.wrap .i64 (v29+(1:Int))) h8 h9 h10
else
qNb v1n v15 v16 (IntKind.wrap .i64 (v17+(1:Int))) h8 h9):=(FnI.sem_eq _).trans (by kernel_rfl)
noncomputable def qYp (acc:List AV→Bool):Summ Tryz.prog GT:=split_missing_I.summ mixed acc false false
noncomputable def split_Put_I:FnI Tryz.prog GT:={f:=22,cuts:=[⟨(9,3),[0,1,7,8,26,27,28],false,false,[9],[],[]⟩,⟨(16,3),[0,1,7,8,11,47,48,49],false,false,[9],[],[]⟩,⟨(27,3),[0,8,82,83,84],false,false,[],[8],[]⟩],tab:=[qqe (fun _=>true),qNr (fun _=>true),qZp (fun _=>true),qYp (fun _=>true),qWm (fun _=>true)],fm:=⟨true,[.val (.slice T_api_Member) [.nw], .val (.int .i64) []]⟩}
noncomputable def quc (a0:List qaa) (a1:List qpa):Option (List qna×Int):=split_Put_I.call [(.sl qba false a0),(.sl qta false a1)] []
noncomputable def qOh (v0:List qaa) (v1:List qpa) (v26:List qaa) (v27:Int) (v28:Int) (h8:List Int) (h9:List (ByteArray×List Int)):Option (List qna×Int):=split_Put_I.sem ⟨[.code (cIn (cIn (qga (qHa (qga (qga (qga (qga (qga (qma Tryz.prog 22)))))))))), .inLoop (cIn (cIn (qga (qHa (qga (qga (qga (qga (qga (qma Tryz.prog 22)))))))))), .inBlock 0, .code (qga (qga (qga (qga (qga (qga (qma Tryz.prog 22)))))))],⟨[(0,(.one (.sl qba false v0))),(1,(.one (.sl qta false v1))),(7,(.one (.ref (.int .i64) 8 0 (List.length h8) true))),(8,(.one (.ref T_api_Member 9 0 (List.length (qRg (a:= .str) (e:=(.int .u8)) h9)) true))),(26,(.one (.sl qba false v26))),(27,(.one (.int .i64 v27))),(28,(.one (.int .i64 v28)))],[(8,some (.row (.int .i64) true h8)),(9,some (.famS .str (.int .u8) h9))],10⟩⟩
noncomputable def qHd (v0:List qaa) (v1:List qpa) (v47:List qpa) (v48:Int) (v49:Int) (h8:List Int) (h9:List (ByteArray×List Int)) (h10:List qia):Option (List qna×Int):=split_Put_I.sem ⟨[.code (cIn (cIn (qga (qHa (qga (qga (qga (qga (qga (qga (qga (qma Tryz.prog 22)))))))))))), .inLoop (cIn (cIn (qga (qHa (qga (qga (qga (qga (qga (qga (qga (qma Tryz.prog 22)))))))))))), .inBlock 2, .code (qga (qga (qga (qga (qga (qga (qga (qga (qma Tryz.prog 22)))))))))],⟨[(0,(.one (.sl qba false v0))),(1,(.one (.sl qta false v1))),(7,(.one (.ref (.int .i64) 8 0 (List.length h8) true))),(8,(.one (.ref T_api_Member 9 0 (List.length (qRg (a:= .str) (e:=(.int .u8)) h9)) true))),(11,(.one (.ref qca 10 0 (List.length h10) true))),(47,(.one (.sl qta false v47))),(48,(.one (.int .i64 v48))),(49,(.one (.int .i64 v49)))],[(8,some (.row (.int .i64) true h8)),(9,some (.famS .str (.int .u8) h9)),(10,some (.row qca true h10))],11⟩⟩
noncomputable def qug (v0:List qaa) (v83:Int) (v84:Int) (h8:List qna):Option (List qna×Int):=split_Put_I.sem ⟨[.code (cIn (cIn (qga (qHa (qga (qga (qga (qga (qga (qga (qga (qga (qga (qga (qma Tryz.prog 22))))))))))))))), .inLoop (cIn (cIn (qga (qHa (qga (qga (qga (qga (qga (qga (qga (qga (qga (qga (qma Tryz.prog 22))))))))))))))), .inBlock 4, .code (qga (qga (qga (qga (qga (qga (qga (qga (qga (qga (qga (qma Tryz.prog 22))))))))))))],⟨[(0,(.one (.sl qba false v0))),(8,(.one (.ref T_api_Member 8 0 (List.length h8) true))),(82,(.one (.ref T_api_Member 8 0 (List.length h8) true))),(83,(.one (.int .i64 v83))),(84,(.one (.int .i64 v84)))],[(8,some (.row T_api_Member true h8))],9⟩⟩
theorem qdu (a0:List qaa) (a1:List qpa):quc a0 a1=(
(qPd a0).bind fun r1=>
if (r1 != (0:Int))=true then
some ([],r1)
else
if (decide ((Int.ofNat (List.length a1))>(600:Int)))=true then
some ([],(4:Int))
else
qOh a0 a1 a0 (Int.ofNat (List.length a0)) (0:Int) [] []):=(FnI.call_eq (by kernel_rfl)).trans (by kernel_rfl)
theorem qNj (v0:List qaa) (v1:List qpa) (v26:List qaa) (v27:Int) (v28:Int) (h8:List Int) (h9:List (ByteArray×List Int)):qOh v0 v1 v26 v27 v28 h8 h9=(
if (decide (v28<v27))=true then
gd (0≤v28)<|
gd (v28<(Int.ofNat (List.length v26)))<|
gd ((List.length (h8++[(List.getD v26 (Int.toNat v28) (qja qba)).2.1]))*8≤140737488355328)<|
gd ((List.getD v26 (Int.toNat v28) (qja qba)).2.1=(List.getD v26 (Int.toNat v28) (qja qba)).2.1)<|
gd (0≤(List.getD v26 (Int.toNat v28) (qja qba)).2.1)<|
gd ((List.getD v26 (Int.toNat v28) (qja qba)).2.1*1≤140737488355328)<|
gd ((List.getD v26 (Int.toNat v28) (qja qba)).2.1≤9223372036854775807)<|
gd ((List.length (h9++[((List.getD v26 (Int.toNat v28) (qja qba)).1,(List.replicate (Int.toNat (List.getD v26 (Int.toNat v28) (qja qba)).2.1) (0:Int)))]))*40≤140737488355328)<|
qOh v0 v1 v26 v27 (IntKind.wrap .i64 (v28+(1:Int))) (h8++[(List.getD v26 (Int.toNat v28) (qja qba)).2.1]) (h9++[((List.getD v26 (Int.toNat v28) (qja qba)).1,(List.replicate (Int.toNat (List.getD v26 (Int.toNat v28) (qja qba)).2.1) (0:Int)))])
else
qHd v0 v1 v1 (Int.ofNat (List.length v1)) (0:Int) h8 h9 []):=(FnI.sem_eq _).trans (by kernel_rfl)
theorem qMj (v0:List qaa) (v1:List qpa) (v47:List qpa) (v48:Int) (v49:Int) (h8:List Int) (h9:List (ByteArray×List Int)) (h10:List qia):qHd v0 v1 v47 v48 v49 h8 h9 h10=(
if (decide (v49<v48))=true then
gd (0≤v49)<|
gd (v49<(Int.ofNat (List.length v47)))<|
(qKj h8 (List.getD v47 (Int.toNat v49) (qja qta)).1).bind fun r2=>
if (not r2)=true then
some ([],(8:Int))
else
if ((Int.ofNat (List.length (List.getD v47 (Int.toNat v49) (qja qta)).2.1)) != (List.getD v47 (Int.toNat v49) (qja qta)).1.2.2.1)=true then
some ([],(8:Int))
else
gd ((List.length (h10++[(List.getD v47 (Int.toNat v49) (qja qta)).1]))*24≤140737488355328)<|
qHd v0 v1 v47 v48 (IntKind.wrap .i64 (v49+(1:Int))) h8 h9 (h10++[(List.getD v47 (Int.toNat v49) (qja qta)).1])
else
(qRi v1 h9).bind fun r3=>
if (not r3.1)=true then
some ([],(14:Int))
else
(qQi h8 h10).bind fun r4=>
if (decide ((Int.ofNat (List.length r4))>(0:Int)))=true then
some ([],(40:Int))
else
qug v0 (Int.ofNat (List.length (qRg (a:= .str) (e:=(.int .u8)) h9))) (0:Int) (qRg (a:= .str) (e:=(.int .u8)) r3.2)):=(FnI.sem_eq _).trans (by kernel_rfl)
theorem qLj (v0:List qaa) (v83:Int) (v84:Int) (h8:List qna):qug v0 v83 v84 h8=(
if (decide (v84<v83))=true then
gd (0≤v84)<|
gd (v84<(Int.ofNat (List.length h8)))<|
(qSn (List.getD h8 (0+(Int.toNat v84)) (qja T_api_Member)).2.1).bind fun r5=>
gd (0≤v84)<|
gd (v84<(Int.ofNat (List.length v0)))<|
if (not (peq (.arr 20 (.int .u8)) r5.1 (List.getD v0 (Int.toNat v84) (qja qba)).2.2.1))=true then
some ([],(22:Int))
else
qug v0 v83 (IntKind.wrap .i64 (v84+(1:Int))) h8
else
some (h8,(0:Int))):=(FnI.sem_eq _).trans (by kernel_rfl)
noncomputable def qbq (acc:List AV→Bool):Summ Tryz.prog GT:=split_Put_I.summ mixed acc false false
noncomputable def extract_Extract_I:FnI Tryz.prog GT:={f:=5,cuts:=[],tab:=[qam (fun _=>true),qAh (fun _=>true),qbq (fun _=>true)],fm:=⟨true,[.val (.slice T_api_Member) [.nw], .val (.int .i64) []]⟩}
noncomputable def qRd (a0:List Int):Option (List qna×Int):=extract_Extract_I.call [(.sl (.int .u8) false a0)] []
theorem qei (a0:List Int):qRd a0=(
(qYc a0).bind fun r1=>
if (r1.2.2 != (0:Int))=true then
some ([],r1.2.2)
else
(qVb r1.1.1.1 r1.2.1).bind fun r2=>
if (r2.2 != (0:Int))=true then
some ([],r2.2)
else
(quc r1.1.2.1 r2.1).bind fun r3=>
some (r3)):=(FnI.call_eq (by kernel_rfl)).trans (by kernel_rfl)
noncomputable def qoo (acc:List AV→Bool):Summ Tryz.prog GT:=extract_Extract_I.summ mixed acc false false
noncomputable def member_Find_I:FnI Tryz.prog GT:={f:=46,cuts:=[⟨(5,3),[1,14,15,16],false,false,[],[],[]⟩],tab:=[qqe (fun _=>true)],fm:=⟨true,[.val (.int .i64) [], .val (.int .i64) []]⟩}
noncomputable def qag (a0:List qaa) (a1:ByteArray):Option (Int×Int):=member_Find_I.call [(.sl qba false a0),(.str a1)] []
noncomputable def qng (v1:ByteArray) (v14:List qaa) (v15:Int) (v16:Int):Option (Int×Int):=member_Find_I.sem ⟨[.code (cIn (cIn (qga (qHa (qga (qga (qma Tryz.prog 46))))))), .inLoop (cIn (cIn (qga (qHa (qga (qga (qma Tryz.prog 46))))))), .inBlock 0, .code (qga (qga (qga (qma Tryz.prog 46))))],⟨[(1,(.one (.str v1))),(14,(.one (.sl qba false v14))),(15,(.one (.int .i64 v15))),(16,(.one (.int .i64 v16)))],[],8⟩⟩
theorem qWr (a0:List qaa) (a1:ByteArray):qag a0 a1=(
(qPd a0).bind fun r1=>
if (r1 != (0:Int))=true then
some ((0:Int),r1)
else
qng a1 a0 (Int.ofNat (List.length a0)) (0:Int)):=(FnI.call_eq (by kernel_rfl)).trans (by kernel_rfl)
theorem qzi (v1:ByteArray) (v14:List qaa) (v15:Int) (v16:Int):qng v1 v14 v15 v16=(
if (decide (v16<v15))=true then
gd (0≤v16)<|
gd (v16<(Int.ofNat (List.length v14)))<|
if ((ByteArray.toList (List.getD v14 (Int.toNat v16) (qja qba)).1)==(ByteArray.toList v1))=true then
some (v16,(0:Int))
else
qng v1 v14 v15 (IntKind.wrap .i64 (v16+(1:Int)))
else
some ((0:Int),(6:Int))):=(FnI.sem_eq _).trans (by kernel_rfl)
noncomputable def qit (acc:List AV→Bool):Summ Tryz.prog GT:=member_Find_I.summ mixed acc false false
noncomputable def extract_find_1_I:FnI Tryz.prog GT:={f:=47,cuts:=[],tab:=[],fm:=⟨true,[.val .bool [], .box 0 (.int .i64) []]⟩}
noncomputable def qrg (a0:qda) (b0:Int):Option (Bool×Int):=extract_find_1_I.call [(.agg qfa (inj false qfa a0)),(.ptr (.int .i64) 0 [])] [(0,(.box (.int .i64) b0))]
theorem qno (a0:qda) (b0:Int):qrg a0 b0=(
some ((a0.1.2.1 != b0),b0)):=(FnI.call_eq (by kernel_rfl)).trans (by kernel_rfl)
noncomputable def qwj (acc:List AV→Bool):Summ Tryz.prog GT:=extract_find_1_I.summ mixed acc false false
noncomputable def slices_IndexFunc_api_Block_api_Block_I:FnI Tryz.prog GT:={f:=48,cuts:=[⟨(2,3),[0,1,7,8],false,false,[],[],[]⟩],tab:=[qwj (fun _=>true)],fm:=⟨true,[.val (.int .i64) [], .box 0 (.int .i64) []]⟩}
noncomputable def qdb (a0:List qda) (b0:Int):Option (Int×Int):=slices_IndexFunc_api_Block_api_Block_I.call [(.sl qfa false a0),(.func 47 [0])] [(0,(.box (.int .i64) b0))]
noncomputable def qya (v0:List qda) (v7:Int) (v8:Int) (b0:Int):Option (Int×Int):=slices_IndexFunc_api_Block_api_Block_I.sem ⟨[.code (cIn (cIn (qga (qHa (qga (qma Tryz.prog 48)))))), .inLoop (cIn (cIn (qga (qHa (qga (qma Tryz.prog 48)))))), .inBlock 0, .code (qga (qga (qma Tryz.prog 48)))],⟨[(0,(.one (.sl qfa false v0))),(1,(.one (.func 47 [0]))),(7,(.one (.int .i64 v7))),(8,(.one (.int .i64 v8)))],[(0,some (.box (.int .i64) b0))],9⟩⟩
theorem qLd (a0:List qda) (b0:Int):qdb a0 b0=(
qya a0 (Int.ofNat (List.length a0)) (0:Int) b0):=(FnI.call_eq (by kernel_rfl)).trans (by kernel_rfl)
theorem qrb (v0:List qda) (v7:Int) (v8:Int) (b0:Int):qya v0 v7 v8 b0=(
if (decide (v8<v7))=true then
gd (0≤v8)<|
gd (v8<(Int.ofNat (List.length v0)))<|
(qrg (List.getD v0 (Int.toNat v8) (qja qfa)) b0).bind fun r1=>
if r1.1=true then
some (v8,r1.2)
else
qya v0 v7 (IntKind.wrap .i64 (v8+(1:Int))) r1.2
else
some ((-1:Int),b0)):=(FnI.sem_eq _).trans (by kernel_rfl)
noncomputable def qXd (acc:List AV→Bool):Summ Tryz.prog GT:=slices_IndexFunc_api_Block_api_Block_I.summ mixed acc false false
noncomputable def slices_DeleteFunc_api_Block_api_Block_v2_I:FnI Tryz.prog GT:={f:=24,cuts:=[⟨(5,3),[0,1,5,6],false,false,[],[],[]⟩],tab:=[qXd (fun _=>true),qwj (fun _=>true)],fm:=⟨false,[.sub 0 qfa, .row 0 qfa, .box 1 (.int .i64) []]⟩}
noncomputable def qUa (h0:List qda) (b1:Int):Option ((Nat×Nat)×List qda×Int):=slices_DeleteFunc_api_Block_api_Block_v2_I.call [(.ref qfa 0 0 (List.length h0) true),(.func 47 [1])] [(0,(.row qfa false h0)),(1,(.box (.int .i64) b1))]
noncomputable def qDa (v5:Int) (v6:Int) (h0:List qda) (b1:Int):Option ((Nat×Nat)×List qda×Int):=slices_DeleteFunc_api_Block_api_Block_v2_I.sem ⟨[.code (cIn (cIn (qga (qHa (qga (qga (qga (qma Tryz.prog 24)))))))), .inLoop (cIn (cIn (qga (qHa (qga (qga (qga (qma Tryz.prog 24)))))))), .inBlock 0, .code (qga (qga (qga (qga (qma Tryz.prog 24)))))],⟨[(0,(.one (.ref qfa 0 0 (List.length h0) true))),(1,(.one (.func 47 [1]))),(5,(.one (.int .i64 v5))),(6,(.one (.int .i64 v6)))],[(0,some (.row qfa false h0)),(1,some (.box (.int .i64) b1))],10⟩⟩
theorem qpb (h0:List qda) (b1:Int):qUa h0 b1=(
(qdb h0 b1).bind fun r1=>
if (r1.1==(-1:Int))=true then
some ((0,(List.length h0)),(h0,r1.2))
else
qDa r1.1 (IntKind.wrap .i64 (r1.1+(1:Int))) h0 r1.2):=(FnI.call_eq (by kernel_rfl)).trans (by kernel_rfl)
theorem qhb (v5:Int) (v6:Int) (h0:List qda) (b1:Int):qDa v5 v6 h0 b1=(
if (decide (v6<(Int.ofNat (List.length h0))))=true then
gd (0≤v6)<|
gd (v6<(Int.ofNat (List.length h0)))<|
(qrg (List.getD h0 (0+(Int.toNat v6)) (qja qfa)) b1).bind fun r2=>
if (not r2.1)=true then
gd (0≤v5)<|
gd (v5<(Int.ofNat (List.length h0)))<|
qDa (IntKind.wrap .i64 (v5+(1:Int))) (IntKind.wrap .i64 (v6+(1:Int))) (List.set h0 (0+(Int.toNat v5)) (List.getD h0 (0+(Int.toNat v6)) (qja qfa))) r2.2
else
qDa v5 (IntKind.wrap .i64 (v6+(1:Int))) h0 r2.2
else
gd (0≤v5)<|
gd (v5≤(Int.ofNat (List.length h0)))<|
gd (0≤v5)<|
gd (v5≤(Int.ofNat (List.length h0)))<|
some ((0,((Int.toNat v5) - 0)),((qbc h0 (0+(Int.toNat v5)) (List.replicate ((List.length h0) - (Int.toNat v5)) (qja qfa))),b1))):=(FnI.sem_eq _).trans (by kernel_rfl)
noncomputable def qid (acc:List AV→Bool):Summ Tryz.prog GT:=slices_DeleteFunc_api_Block_api_Block_v2_I.summ mixed acc true false
noncomputable def extract_find_I:FnI Tryz.prog GT:={f:=23,cuts:=[],tab:=[qam (fun _=>true),qit (fun _=>true),(qid (fun _=>true)).dropping],fm:=⟨false,[.val qwa [], .val (.int .i64) [], .part qfa, .val (.int .i64) []]⟩}
noncomputable def qBg (a0:List Int) (a1:ByteArray):Option (qua×Int×(List qda×Nat×Nat)×Int):=extract_find_I.call [(.sl (.int .u8) false a0),(.str a1)] []
theorem qqk (a0:List Int) (a1:ByteArray):qBg a0 a1=(
(qYc a0).bind fun r1=>
if (r1.2.2 != (0:Int))=true then
some ((((0:Int),((0:Int),())),([],([],()))),((0:Int),(([],(0,0)),r1.2.2)))
else
(qag r1.1.2.1 a1).bind fun r2=>
if (r2.2 != (0:Int))=true then
some ((((0:Int),((0:Int),())),([],([],()))),((0:Int),(([],(0,0)),r2.2)))
else
(qUa r1.2.1 r2.1).bind fun r3=>
some (r1.1,(r3.2.2,((r3.2.1,r3.1),(0:Int))))):=(FnI.call_eq (by kernel_rfl)).trans (by kernel_rfl)
noncomputable def qbm (acc:List AV→Bool):Summ Tryz.prog GT:=extract_find_I.summ mixed acc false false
noncomputable def extract_One_I:FnI Tryz.prog GT:={f:=6,cuts:=[⟨(8,3),[4,6,7,10,38,39],false,false,[],[],[]⟩],tab:=[(qbm (fun _=>true)).dropping,qAh (fun _=>true),qbq (fun _=>true)],fm:=⟨true,[.val T_api_Member [], .val (.int .i64) []]⟩}
noncomputable def qFc (a0:List Int) (a1:ByteArray):Option (qna×Int):=extract_One_I.call [(.sl (.int .u8) false a0),(.str a1)] []
noncomputable def qre (v7:Int) (v38:Int) (v39:Int) (b8a:ByteArray) (b8bb:Unit) (b9:qua) (h10:List qpa) (h11:List Int):Option (qna×Int):=extract_One_I.sem ⟨[.code (cIn (cIn (qga (qHa (qga (qga (qga (qga (qga (qma Tryz.prog 6)))))))))), .inLoop (cIn (cIn (qga (qHa (qga (qga (qga (qga (qga (qma Tryz.prog 6)))))))))), .inBlock 0, .code (qga (qga (qga (qga (qga (qga (qma Tryz.prog 6)))))))],⟨[(4,(.one (.ptr T_api_Member 8 []))),(6,(.one (.ptr qwa 9 []))),(7,(.one (.int .i64 v7))),(10,(.one (.ref qta 10 0 (List.length h10) true))),(38,(.one (.int .i64 v38))),(39,(.one (.int .i64 v39)))],[(8,some (.box T_api_Member (b8a,((SV.ref 11 0 (List.length h11) true),b8bb)))),(9,some (.box qwa (inj false qwa b9))),(10,some (.row qta true h10)),(11,some (.row (.int .u8) true h11))],12⟩⟩
theorem qcm (a0:List Int) (a1:ByteArray):qFc a0 a1=(
(qBg a0 a1).bind fun r1=>
if (r1.2.2.2 != (0:Int))=true then
some ((ByteArray.empty,([],())),r1.2.2.2)
else
(qVb r1.1.1.1 (List.take r1.2.2.1.2.2 (List.drop r1.2.2.1.2.1 r1.2.2.1.1))).bind fun r2=>
if (r2.2 != (0:Int))=true then
some ((ByteArray.empty,([],())),r2.2)
else
qre r1.2.1 (Int.ofNat (List.length r2.1)) (0:Int) ByteArray.empty () r1.1 r2.1 []):=(FnI.call_eq (by kernel_rfl)).trans (by kernel_rfl)
theorem qHi (v7:Int) (v38:Int) (v39:Int) (b8a:ByteArray) (b8bb:Unit) (b9:qua) (h10:List qpa) (h11:List Int):qre v7 v38 v39 b8a b8bb b9 h10 h11=(
if (decide (v39<v38))=true then
gd (0≤v39)<|
gd (v39<(Int.ofNat (List.length h10)))<|
qre v7 v38 (IntKind.wrap .i64 (v39+(1:Int))) b8a b8bb b9 (List.set h10 (0+(Int.toNat v39)) (((0:Int),(List.getD h10 (0+(Int.toNat v39)) (qja qta)).1.2),(List.getD h10 (0+(Int.toNat v39)) (qja qta)).2)) h11
else
gd (0≤v7)<|
gd (v7≤(IntKind.wrap .i64 (v7+(1:Int))))<|
gd ((IntKind.wrap .i64 (v7+(1:Int)))≤(Int.ofNat (List.length b9.2.1)))<|
(quc (List.take ((Int.toNat (IntKind.wrap .i64 (v7+(1:Int)))) - (Int.toNat v7)) (List.drop (Int.toNat v7) b9.2.1)) h10).bind fun r3=>
if (r3.2 != (0:Int))=true then
some ((ByteArray.empty,([],())),r3.2)
else
gd (0≤(0:Int))<|
gd ((0:Int)<(Int.ofNat (List.length r3.1)))<|
some ((List.getD r3.1 0 (qja T_api_Member)),(0:Int))):=(FnI.sem_eq _).trans (by kernel_rfl)
noncomputable def qvn (acc:List AV→Bool):Summ Tryz.prog GT:=extract_One_I.summ mixed acc false false
noncomputable def extract_Range_1_I:FnI Tryz.prog GT:={f:=25,cuts:=[],tab:=[],fm:=⟨true,[.val .bool [], .box 0 (.int .i64) [], .box 1 (.int .i64) []]⟩}
noncomputable def qCf (a0:qda) (b0:Int) (b1:Int):Option (Bool×Int×Int):=extract_Range_1_I.call [(.agg qfa (inj false qfa a0)),(.ptr (.int .i64) 0 []),(.ptr (.int .i64) 1 [])] [(0,(.box (.int .i64) b0)),(1,(.box (.int .i64) b1))]
theorem qun (a0:qda) (b0:Int) (b1:Int):qCf a0 b0 b1=(
some ((decide ((if b0>a0.1.2.2.1 then b0 else a0.1.2.2.1)≥(if b1<(IntKind.wrap .i64 (a0.1.2.2.1+a0.1.2.2.2.1)) then b1 else (IntKind.wrap .i64 (a0.1.2.2.1+a0.1.2.2.2.1))))),(b0,b1))):=(FnI.call_eq (by kernel_rfl)).trans (by kernel_rfl)
noncomputable def qGi (acc:List AV→Bool):Summ Tryz.prog GT:=extract_Range_1_I.summ mixed acc false false
noncomputable def slices_IndexFunc_api_Block_api_Block_v2_I:FnI Tryz.prog GT:={f:=48,cuts:=[⟨(2,3),[0,1,7,8],false,false,[],[],[]⟩],tab:=[qGi (fun _=>true)],fm:=⟨true,[.val (.int .i64) [], .box 0 (.int .i64) [], .box 1 (.int .i64) []]⟩}
noncomputable def qWa (a0:List qda) (b0:Int) (b1:Int):Option (Int×Int×Int):=slices_IndexFunc_api_Block_api_Block_v2_I.call [(.sl qfa false a0),(.func 25 [0,1])] [(0,(.box (.int .i64) b0)),(1,(.box (.int .i64) b1))]
noncomputable def qva (v0:List qda) (v7:Int) (v8:Int) (b0:Int) (b1:Int):Option (Int×Int×Int):=slices_IndexFunc_api_Block_api_Block_v2_I.sem ⟨[.code (cIn (cIn (qga (qHa (qga (qma Tryz.prog 48)))))), .inLoop (cIn (cIn (qga (qHa (qga (qma Tryz.prog 48)))))), .inBlock 0, .code (qga (qga (qma Tryz.prog 48)))],⟨[(0,(.one (.sl qfa false v0))),(1,(.one (.func 25 [0,1]))),(7,(.one (.int .i64 v7))),(8,(.one (.int .i64 v8)))],[(0,some (.box (.int .i64) b0)),(1,some (.box (.int .i64) b1))],10⟩⟩
theorem qgd (a0:List qda) (b0:Int) (b1:Int):qWa a0 b0 b1=(
qva a0 (Int.ofNat (List.length a0)) (0:Int) b0 b1):=(FnI.call_eq (by kernel_rfl)).trans (by kernel_rfl)
theorem qib (v0:List qda) (v7:Int) (v8:Int) (b0:Int) (b1:Int):qva v0 v7 v8 b0 b1=(
if (decide (v8<v7))=true then
gd (0≤v8)<|
gd (v8<(Int.ofNat (List.length v0)))<|
(qCf (List.getD v0 (Int.toNat v8) (qja qfa)) b0 b1).bind fun r1=>
if r1.1=true then
some (v8,r1.2)
else
qva v0 v7 (IntKind.wrap .i64 (v8+(1:Int))) r1.2.1 r1.2.2
else
some ((-1:Int),(b0,b1))):=(FnI.sem_eq _).trans (by kernel_rfl)
noncomputable def qnd (acc:List AV→Bool):Summ Tryz.prog GT:=slices_IndexFunc_api_Block_api_Block_v2_I.summ mixed acc false false
noncomputable def slices_DeleteFunc_api_Block_api_Block_v4_I:FnI Tryz.prog GT:={f:=24,cuts:=[⟨(5,3),[0,1,5,6],false,false,[],[],[]⟩],tab:=[qnd (fun _=>true),qGi (fun _=>true)],fm:=⟨false,[.sub 0 qfa, .row 0 qfa, .box 1 (.int .i64) [], .box 2 (.int .i64) []]⟩}
noncomputable def qTa (a0o:Nat) (a0n:Nat) (h0:List qda) (b1:Int) (b2:Int):Option ((Nat×Nat)×List qda×Int×Int):=slices_DeleteFunc_api_Block_api_Block_v4_I.call [(.ref qfa 0 a0o a0n false),(.func 25 [1,2])] [(0,(.row qfa false h0)),(1,(.box (.int .i64) b1)),(2,(.box (.int .i64) b2))]
noncomputable def qCa (v0o:Nat) (v0n:Nat) (v5:Int) (v6:Int) (h0:List qda) (b1:Int) (b2:Int):Option ((Nat×Nat)×List qda×Int×Int):=slices_DeleteFunc_api_Block_api_Block_v4_I.sem ⟨[.code (cIn (cIn (qga (qHa (qga (qga (qga (qma Tryz.prog 24)))))))), .inLoop (cIn (cIn (qga (qHa (qga (qga (qga (qma Tryz.prog 24)))))))), .inBlock 0, .code (qga (qga (qga (qga (qma Tryz.prog 24)))))],⟨[(0,(.one (.ref qfa 0 v0o v0n false))),(1,(.one (.func 25 [1,2]))),(5,(.one (.int .i64 v5))),(6,(.one (.int .i64 v6)))],[(0,some (.row qfa false h0)),(1,some (.box (.int .i64) b1)),(2,some (.box (.int .i64) b2))],11⟩⟩
theorem qbd (a0o:Nat) (a0n:Nat) (h0:List qda) (b1:Int) (b2:Int):qTa a0o a0n h0 b1 b2=(
(qWa (List.take a0n (List.drop a0o h0)) b1 b2).bind fun r1=>
if (r1.1==(-1:Int))=true then
some ((a0o,a0n),(h0,r1.2))
else
qCa a0o a0n r1.1 (IntKind.wrap .i64 (r1.1+(1:Int))) h0 r1.2.1 r1.2.2):=(FnI.call_eq (by kernel_rfl)).trans (by kernel_rfl)
theorem qgb (v0o:Nat) (v0n:Nat) (v5:Int) (v6:Int) (h0:List qda) (b1:Int) (b2:Int):qCa v0o v0n v5 v6 h0 b1 b2=(
if (decide (v6<(Int.ofNat v0n)))=true then
gd (0≤v6)<|
gd (v6<(Int.ofNat v0n))<|
(qCf (List.getD h0 (v0o+(Int.toNat v6)) (qja qfa)) b1 b2).bind fun r2=>
if (not r2.1)=true then
gd (0≤v5)<|
gd (v5<(Int.ofNat v0n))<|
qCa v0o v0n (IntKind.wrap .i64 (v5+(1:Int))) (IntKind.wrap .i64 (v6+(1:Int))) (List.set h0 (v0o+(Int.toNat v5)) (List.getD h0 (v0o+(Int.toNat v6)) (qja qfa))) r2.2.1 r2.2.2
else
qCa v0o v0n v5 (IntKind.wrap .i64 (v6+(1:Int))) h0 r2.2.1 r2.2.2
else
gd (0≤v5)<|
gd (v5≤(Int.ofNat v0n))<|
gd (0≤v5)<|
gd (v5≤(Int.ofNat v0n))<|
some (((v0o+0),((Int.toNat v5) - 0)),((qbc h0 (v0o+(Int.toNat v5)) (List.replicate (v0n - (Int.toNat v5)) (qja qfa))),(b1,b2)))):=(FnI.sem_eq _).trans (by kernel_rfl)
noncomputable def qhd (acc:List AV→Bool):Summ Tryz.prog GT:=slices_DeleteFunc_api_Block_api_Block_v4_I.summ mixed acc true false
noncomputable def extract_Range_I:FnI Tryz.prog GT:={f:=7,cuts:=[⟨(12,3),[6,7,15,61,62,63],false,false,[],[],[]⟩],tab:=[(qbm (fun _=>true)).dropping,(qhd (fun _=>true)).dropping,qAh (fun _=>true)],fm:=⟨true,[.val (.slice (.int .u8)) [.nw], .val (.int .i64) []]⟩}
noncomputable def qRa (a0:List Int) (a1:ByteArray) (a2:Int) (a3:Int):Option (List Int×Int):=extract_Range_I.call [(.sl (.int .u8) false a0),(.str a1),(.int .i64 a2),(.int .i64 a3)] []
noncomputable def qsc (v62:Int) (v63:Int) (b8:Int) (b9:Int) (h10:List Int) (h11:List qpa):Option (List Int×Int):=extract_Range_I.sem ⟨[.code (cIn (cIn (qga (qHa (qga (qga (qga (qga (qga (qga (qga (qga (qma Tryz.prog 7))))))))))))), .inLoop (cIn (cIn (qga (qHa (qga (qga (qga (qga (qga (qga (qga (qga (qma Tryz.prog 7))))))))))))), .inBlock 0, .code (qga (qga (qga (qga (qga (qga (qga (qga (qga (qma Tryz.prog 7))))))))))],⟨[(6,(.one (.ptr (.int .i64) 8 []))),(7,(.one (.ptr (.int .i64) 9 []))),(15,(.one (.ref (.int .u8) 10 0 (List.length h10) true))),(61,(.one (.ref qta 11 0 (List.length h11) true))),(62,(.one (.int .i64 v62))),(63,(.one (.int .i64 v63)))],[(8,some (.box (.int .i64) b8)),(9,some (.box (.int .i64) b9)),(10,some (.row (.int .u8) true h10)),(11,some (.row qta true h11))],12⟩⟩
theorem qxj (a0:List Int) (a1:ByteArray) (a2:Int) (a3:Int):qRa a0 a1 a2 a3=(
(qBg a0 a1).bind fun r1=>
if (r1.2.2.2 != (0:Int))=true then
some ([],r1.2.2.2)
else
if (decide (a2<(0:Int)))=true then
some ([],(2:Int))
else
if (decide (a3<a2))=true then
some ([],(2:Int))
else
gd (0≤r1.2.1)<|
gd (r1.2.1<(Int.ofNat (List.length r1.1.2.1)))<|
if (decide (a3>(List.getD r1.1.2.1 (Int.toNat r1.2.1) (qja qba)).2.1))=true then
some ([],(2:Int))
else
(qTa r1.2.2.1.2.1 r1.2.2.1.2.2 r1.2.2.1.1 a2 a3).bind fun r2=>
(qVb r1.1.1.1 (List.take r2.1.2 (List.drop r2.1.1 r2.2.1))).bind fun r3=>
if (r3.2 != (0:Int))=true then
some ([],r3.2)
else
qsc (Int.ofNat (List.length r3.1)) (0:Int) r2.2.2.1 r2.2.2.2 [] r3.1):=(FnI.call_eq (by kernel_rfl)).trans (by kernel_rfl)
theorem qBh (v62:Int) (v63:Int) (b8:Int) (b9:Int) (h10:List Int) (h11:List qpa):qsc v62 v63 b8 b9 h10 h11=(
if (decide (v63<v62))=true then
gd (0≤v63)<|
gd (v63<(Int.ofNat (List.length h11)))<|
gd (0≤(if (0:Int)>(IntKind.wrap .i64 (b8 - (List.getD h11 (0+(Int.toNat v63)) (qja qta)).1.2.1)) then (0:Int) else (IntKind.wrap .i64 (b8 - (List.getD h11 (0+(Int.toNat v63)) (qja qta)).1.2.1))))<|
gd ((if (0:Int)>(IntKind.wrap .i64 (b8 - (List.getD h11 (0+(Int.toNat v63)) (qja qta)).1.2.1)) then (0:Int) else (IntKind.wrap .i64 (b8 - (List.getD h11 (0+(Int.toNat v63)) (qja qta)).1.2.1)))≤(if (Int.ofNat (List.length (List.getD h11 (0+(Int.toNat v63)) (qja qta)).2.1))<(IntKind.wrap .i64 (b9 - (List.getD h11 (0+(Int.toNat v63)) (qja qta)).1.2.1)) then (Int.ofNat (List.length (List.getD h11 (0+(Int.toNat v63)) (qja qta)).2.1)) else (IntKind.wrap .i64 (b9 - (List.getD h11 (0+(Int.toNat v63)) (qja qta)).1.2.1))))<|
gd ((if (Int.ofNat (List.length (List.getD h11 (0+(Int.toNat v63)) (qja qta)).2.1))<(IntKind.wrap .i64 (b9 - (List.getD h11 (0+(Int.toNat v63)) (qja qta)).1.2.1)) then (Int.ofNat (List.length (List.getD h11 (0+(Int.toNat v63)) (qja qta)).2.1)) else (IntKind.wrap .i64 (b9 - (List.getD h11 (0+(Int.toNat v63)) (qja qta)).1.2.1)))≤(Int.ofNat (List.length (List.getD h11 (0+(Int.toNat v63)) (qja qta)).2.1)))<|
gd ((List.length (h10++(List.take ((Int.toNat (if (Int.ofNat (List.length (List.getD h11 (0+(Int.toNat v63)) (qja qta)).2.1))<(IntKind.wrap .i64 (b9 - (List.getD h11 (0+(Int.toNat v63)) (qja qta)).1.2.1)) then (Int.ofNat (List.length (List.getD h11 (0+(Int.toNat v63)) (qja qta)).2.1)) else (IntKind.wrap .i64 (b9 - (List.getD h11 (0+(Int.toNat v63)) (qja qta)).1.2.1)))) - (Int.toNat (if (0:Int)>(IntKind.wrap .i64 (b8 - (List.getD h11 (0+(Int.toNat v63)) (qja qta)).1.2.1)) then (0:Int) else (IntKind.wrap .i64 (b8 - (List.getD h11 (0+(Int.toNat v63)) (qja qta)).1.2.1))))) (List.drop (Int.toNat (if (0:Int)>(IntKind.wrap .i64 (b8 - (List.getD h11 (0+(Int.toNat v63)) (qja qta)).1.2.1)) then (0:Int) else (IntKind.wrap .i64 (b8 - (List.getD h11 (0+(Int.toNat v63)) (qja qta)).1.2.1)))) (List.getD h11 (0+(Int.toNat v63)) (qja qta)).2.1))))*1≤140737488355328)<|
qsc v62 (IntKind.wrap .i64 (v63+(1:Int))) b8 b9 (h10++(List.take ((Int.toNat (if (Int.ofNat (List.length (List.getD h11 (0+(Int.toNat v63)) (qja qta)).2.1))<(IntKind.wrap .i64 (b9 - (List.getD h11 (0+(Int.toNat v63)) (qja qta)).1.2.1)) then (Int.ofNat (List.length (List.getD h11 (0+(Int.toNat v63)) (qja qta)).2.1)) else (IntKind.wrap .i64 (b9 - (List.getD h11 (0+(Int.toNat v63)) (qja qta)).1.2.1)))) - (Int.toNat (if (0:Int)>(IntKind.wrap .i64 (b8 - (List.getD h11 (0+(Int.toNat v63)) (qja qta)).1.2.1)) then (0:Int) else (IntKind.wrap .i64 (b8 - (List.getD h11 (0+(Int.toNat v63)) (qja qta)).1.2.1))))) (List.drop (Int.toNat (if (0:Int)>(IntKind.wrap .i64 (b8 - (List.getD h11 (0+(Int.toNat v63)) (qja qta)).1.2.1)) then (0:Int) else (IntKind.wrap .i64 (b8 - (List.getD h11 (0+(Int.toNat v63)) (qja qta)).1.2.1)))) (List.getD h11 (0+(Int.toNat v63)) (qja qta)).2.1))) h11
else
some (h10,(0:Int))):=(FnI.sem_eq _).trans (by kernel_rfl)
noncomputable def qrk (acc:List AV→Bool):Summ Tryz.prog GT:=extract_Range_I.summ mixed acc false false
noncomputable def bitloftref28_Name_I:FnI Tryz.prog GT:={f:=33,cuts:=[⟨(4,3),[0,3],false,false,[],[],[]⟩],tab:=[],fm:=⟨true,[.val .bool []]⟩}
noncomputable def qce (a0:ByteArray):Option (Bool):=bitloftref28_Name_I.call [(.str a0)] []
noncomputable def qOc (v0:ByteArray) (v3:Int):Option (Bool):=bitloftref28_Name_I.sem ⟨[.code (cIn (cIn (qga (qHa (qga (qga (qma Tryz.prog 33))))))), .inLoop (cIn (cIn (qga (qHa (qga (qga (qma Tryz.prog 33))))))), .inBlock 0, .code (qga (qga (qga (qma Tryz.prog 33))))],⟨[(0,(.one (.str v0))),(3,(.one (.int .i64 v3)))],[],8⟩⟩
theorem qyl (a0:ByteArray):qce a0=(
if (decide ((Int.ofNat (ByteArray.size a0))<(1:Int)))=true then
some (false)
else
if (decide ((Int.ofNat (ByteArray.size a0))>(40:Int)))=true then
some (false)
else
qOc a0 (0:Int)):=(FnI.call_eq (by kernel_rfl)).trans (by kernel_rfl)
theorem qLf (v0:ByteArray) (v3:Int):qOc v0 v3=(
if (decide (v3<(Int.ofNat (ByteArray.size v0))))=true then
gd (0≤v3)<|
gd (v3<(v0.size:Int))<|
if (decide ((qXo v0 (Int.toNat v3))<(33:Int)))=true then
some (false)
else
gd (0≤v3)<|
gd (v3<(v0.size:Int))<|
if (decide ((qXo v0 (Int.toNat v3))>(126:Int)))=true then
some (false)
else
qOc v0 (IntKind.wrap .i64 (v3+(1:Int)))
else
some (true)):=(FnI.sem_eq _).trans (by kernel_rfl)
noncomputable def qFh (acc:List AV→Bool):Summ Tryz.prog GT:=bitloftref28_Name_I.summ mixed acc false false
noncomputable def bitloftref28_Check_I:FnI Tryz.prog GT:={f:=16,cuts:=[⟨(5,3),[0,3,4],false,false,[],[],[]⟩,⟨(11,3),[0,5],false,false,[],[],[]⟩,⟨(16,3),[0,6],false,false,[],[],[]⟩,⟨(19,7),[0,6,7],false,false,[],[],[]⟩],tab:=[qFh (fun _=>true)],fm:=⟨true,[.val (.int .i64) []]⟩}
noncomputable def qbb (a0:List qna):Option (Int):=bitloftref28_Check_I.call [(.sl T_api_Member false a0)] []
noncomputable def qBc (v0:List qna) (v3:Int) (v4:Int):Option (Int):=bitloftref28_Check_I.sem ⟨[.code (cIn (cIn (qga (qHa (qga (qga (qga (qma Tryz.prog 16)))))))), .inLoop (cIn (cIn (qga (qHa (qga (qga (qga (qma Tryz.prog 16)))))))), .inBlock 0, .code (qga (qga (qga (qga (qma Tryz.prog 16)))))],⟨[(0,(.one (.sl T_api_Member false v0))),(3,(.one (.int .i64 v3))),(4,(.one (.int .i64 v4)))],[],8⟩⟩
noncomputable def qHb (v0:List qna) (v5:Int):Option (Int):=bitloftref28_Check_I.sem ⟨[.code (cIn (cIn (qga (qHa (qga (qga (qga (qga (qga (qma Tryz.prog 16)))))))))), .inLoop (cIn (cIn (qga (qHa (qga (qga (qga (qga (qga (qma Tryz.prog 16)))))))))), .inBlock 2, .code (qga (qga (qga (qga (qga (qga (qma Tryz.prog 16)))))))],⟨[(0,(.one (.sl T_api_Member false v0))),(5,(.one (.int .i64 v5)))],[],8⟩⟩
noncomputable def qmb (v0:List qna) (v6:Int):Option (Int):=bitloftref28_Check_I.sem ⟨[.code (cIn (cIn (qga (qHa (qga (qga (qga (qga (qga (qga (qma Tryz.prog 16))))))))))), .inLoop (cIn (cIn (qga (qHa (qga (qga (qga (qga (qga (qga (qma Tryz.prog 16))))))))))), .inBlock 4, .code (qga (qga (qga (qga (qga (qga (qga (qma Tryz.prog 16))))))))],⟨[(0,(.one (.sl T_api_Member false v0))),(6,(.one (.int .i64 v6)))],[],8⟩⟩
noncomputable def qAc (v0:List qna) (v6:Int) (v7:Int):Option (Int):=bitloftref28_Check_I.sem ⟨[.code (cIn (cIn (qga (cIn (qHa (qga (cIn (cIn (qga (qHa (qga (qga (qga (qga (qga (qga (qma Tryz.prog 16))))))))))))))))), .inLoop (cIn (cIn (qga (cIn (qHa (qga (cIn (cIn (qga (qHa (qga (qga (qga (qga (qga (qga (qma Tryz.prog 16))))))))))))))))), .inBlock 6, .inBlock 5, .code (qga (qga (cIn (cIn (qga (qHa (qga (qga (qga (qga (qga (qga (qma Tryz.prog 16))))))))))))), .inLoop (cIn (cIn (qga (qHa (qga (qga (qga (qga (qga (qga (qma Tryz.prog 16))))))))))), .inBlock 4, .code (qga (qga (qga (qga (qga (qga (qga (qma Tryz.prog 16))))))))],⟨[(0,(.one (.sl T_api_Member false v0))),(6,(.one (.int .i64 v6))),(7,(.one (.int .i64 v7)))],[],8⟩⟩
theorem qHk (a0:List qna):qbb a0=(
if (decide ((Int.ofNat (List.length a0))>(16:Int)))=true then
some (4:Int)
else
qBc a0 (0:Int) (0:Int)):=(FnI.call_eq (by kernel_rfl)).trans (by kernel_rfl)
theorem qef (v0:List qna) (v3:Int) (v4:Int):qBc v0 v3 v4=(
if (decide (v4<(Int.ofNat (List.length v0))))=true then
gd (0≤v4)<|
gd (v4<(Int.ofNat (List.length v0)))<|
qBc v0 (IntKind.wrap .i64 (v3+(Int.ofNat (List.length (List.getD v0 (Int.toNat v4) (qja T_api_Member)).2.1)))) (IntKind.wrap .i64 (v4+(1:Int)))
else
if (decide (v3>(8192:Int)))=true then
some (4:Int)
else
qHb v0 (0:Int)):=(FnI.sem_eq _).trans (by kernel_rfl)
theorem qdf (v0:List qna) (v5:Int):qHb v0 v5=(
if (decide (v5<(Int.ofNat (List.length v0))))=true then
gd (0≤v5)<|
gd (v5<(Int.ofNat (List.length v0)))<|
(qce (List.getD v0 (Int.toNat v5) (qja T_api_Member)).1).bind fun r1=>
if (not r1)=true then
some (8:Int)
else
qHb v0 (IntKind.wrap .i64 (v5+(1:Int)))
else
qmb v0 (0:Int)):=(FnI.sem_eq _).trans (by kernel_rfl)
theorem qcf (v0:List qna) (v6:Int):qmb v0 v6=(
if (decide (v6<(Int.ofNat (List.length v0))))=true then
qAc v0 v6 (0:Int)
else
some (0:Int)):=(FnI.sem_eq _).trans (by kernel_rfl)
theorem qbf (v0:List qna) (v6:Int) (v7:Int):qAc v0 v6 v7=(
if (decide (v7<v6))=true then
gd (0≤v7)<|
gd (v7<(Int.ofNat (List.length v0)))<|
gd (0≤v6)<|
gd (v6<(Int.ofNat (List.length v0)))<|
if ((ByteArray.toList (List.getD v0 (Int.toNat v7) (qja T_api_Member)).1)==(ByteArray.toList (List.getD v0 (Int.toNat v6) (qja T_api_Member)).1))=true then
some (14:Int)
else
qAc v0 v6 (IntKind.wrap .i64 (v7+(1:Int)))
else
qmb v0 (IntKind.wrap .i64 (v6+(1:Int)))):=(FnI.sem_eq _).trans (by kernel_rfl)
noncomputable def qne (acc:List AV→Bool):Summ Tryz.prog GT:=bitloftref28_Check_I.summ mixed acc false false
noncomputable def bitloftref01_Padding_I:FnI Tryz.prog GT:={f:=52,cuts:=[⟨(2,3),[0,3],false,false,[],[],[]⟩,⟨(5,3),[0,3,4],false,false,[],[],[]⟩],tab:=[],fm:=⟨true,[.val (.slice (.int .u8)) [.nw]]⟩}
noncomputable def qoe (a0:Int):Option (List Int):=bitloftref01_Padding_I.call [(.int .i64 a0)] []
noncomputable def qXb (v0:Int) (h8:List Int):Option (List Int):=bitloftref01_Padding_I.sem ⟨[.code (cIn (cIn (qHa (qga (qga (qma Tryz.prog 52)))))), .inLoop (cIn (cIn (qHa (qga (qga (qma Tryz.prog 52)))))), .inBlock 0, .code (qga (qga (qga (qma Tryz.prog 52))))],⟨[(0,(.one (.int .i64 v0))),(3,(.one (.ref (.int .u8) 8 0 (List.length h8) true)))],[(8,some (.row (.int .u8) true h8))],9⟩⟩
noncomputable def qWb (v0:Int) (v4:Int) (h8:List Int):Option (List Int):=bitloftref01_Padding_I.sem ⟨[.code (cIn (cIn (qga (qHa (qga (qga (qga (qma Tryz.prog 52)))))))), .inLoop (cIn (cIn (qga (qHa (qga (qga (qga (qma Tryz.prog 52)))))))), .inBlock 2, .code (qga (qga (qga (qga (qma Tryz.prog 52)))))],⟨[(0,(.one (.int .i64 v0))),(3,(.one (.ref (.int .u8) 8 0 (List.length h8) true))),(4,(.one (.int .i64 v4)))],[(8,some (.row (.int .u8) true h8))],9⟩⟩
theorem qnj (a0:Int):qoe a0=(
qXb a0 [(128:Int)]):=(FnI.call_eq (by kernel_rfl)).trans (by kernel_rfl)
theorem qfe (v0:Int) (h8:List Int):qXb v0 h8=(
gd ((64:Int)≠0)<|
if ((Int.tmod (IntKind.wrap .i64 ((IntKind.wrap .i64 (v0+(Int.ofNat (List.length h8))))+(8:Int))) (64:Int)) != (0:Int))=true then
gd ((List.length (h8++[(0:Int)]))*1≤140737488355328)<|
qXb v0 (h8++[(0:Int)])
else
qWb v0 (7:Int) h8):=(FnI.sem_eq _).trans (by kernel_rfl)
theorem qee (v0:Int) (v4:Int) (h8:List Int):qWb v0 v4 h8=(
if (decide (v4≥(0:Int)))=true then
gd (0≤(IntKind.wrap .i64 ((8:Int)*v4)))<|
gd ((List.length (h8++[(IntKind.wrap .u8 (qwi .u64 (IntKind.wrap .u64 ((8:Int)*(IntKind.wrap .u64 v0))) (IntKind.wrap .i64 ((8:Int)*v4))))]))*1≤140737488355328)<|
qWb v0 (IntKind.wrap .i64 (v4 - (1:Int))) (h8++[(IntKind.wrap .u8 (qwi .u64 (IntKind.wrap .u64 ((8:Int)*(IntKind.wrap .u64 v0))) (IntKind.wrap .i64 ((8:Int)*v4))))])
else
some (h8)):=(FnI.sem_eq _).trans (by kernel_rfl)
noncomputable def qIj (acc:List AV→Bool):Summ Tryz.prog GT:=bitloftref01_Padding_I.summ mixed acc false false
noncomputable def bitloftref01_First_I:FnI Tryz.prog GT:={f:=53,cuts:=[],tab:=[],fm:=⟨true,[.val (.arr 5 (.int .u32)) []]⟩}
noncomputable def qhi:Option ((List Int)):=bitloftref01_First_I.call [] []
theorem qTk:qhi=(
some (List.set (List.set (List.set (List.set (List.set (List.replicate 5 (0:Int)) 0 (1732584193:Int)) 1 (4023233417:Int)) 2 (2562383102:Int)) 3 (271733878:Int)) 4 (3285377520:Int))):=(FnI.call_eq (by kernel_rfl)).trans (by kernel_rfl)
noncomputable def qKl (acc:List AV→Bool):Summ Tryz.prog GT:=bitloftref01_First_I.summ mixed acc false false
noncomputable def bitloftref01_turn_I:FnI Tryz.prog GT:={f:=87,cuts:=[],tab:=[],fm:=⟨true,[.val (.int .u32) []]⟩}
noncomputable def qVc (a0:Int) (a1:Int):Option (Int):=bitloftref01_turn_I.call [(.int .u32 a0),(.int .i64 a1)] []
theorem qIl (a0:Int) (a1:Int):qVc a0 a1=(
gd (0≤a1)<|
gd (0≤(IntKind.wrap .i64 ((32:Int) - a1)))<|
some (qHc .u32 (IntKind.wrap .u32 (qAD .u32 a0 a1)) (qwi .u32 a0 (IntKind.wrap .i64 ((32:Int) - a1))))):=(FnI.call_eq (by kernel_rfl)).trans (by kernel_rfl)
noncomputable def qHm (acc:List AV→Bool):Summ Tryz.prog GT:=bitloftref01_turn_I.summ mixed acc false false
noncomputable def bitloftref01_part_I:FnI Tryz.prog GT:={f:=88,cuts:=[],tab:=[],fm:=⟨true,[.val (.int .u32) [], .val (.int .u32) []]⟩}
noncomputable def qig (a0:Int) (a1:Int) (a2:Int) (a3:Int):Option (Int×Int):=bitloftref01_part_I.call [(.int .i64 a0),(.int .u32 a1),(.int .u32 a2),(.int .u32 a3)] []
theorem qJl (a0:Int) (a1:Int) (a2:Int) (a3:Int):qig a0 a1 a2 a3=(
if (decide (a0<(20:Int)))=true then
some ((qHc .u32 (qqb .u32 a1 a2) (qqb .u32 (qVa .u32 (4294967295:Int) a1) a3)),(1518500249:Int))
else
if (decide (a0<(40:Int)))=true then
some ((qVa .u32 (qVa .u32 a1 a2) a3),(1859775393:Int))
else
if (decide (a0<(60:Int)))=true then
some ((qHc .u32 (qHc .u32 (qqb .u32 a1 a2) (qqb .u32 a1 a3)) (qqb .u32 a2 a3)),(2400959708:Int))
else
some ((qVa .u32 (qVa .u32 a1 a2) a3),(3395469782:Int))):=(FnI.call_eq (by kernel_rfl)).trans (by kernel_rfl)
noncomputable def qIm (acc:List AV→Bool):Summ Tryz.prog GT:=bitloftref01_part_I.summ mixed acc false false
noncomputable def bitloftref01_Done_I:FnI Tryz.prog GT:={f:=54,cuts:=[⟨(3,3),[1,2,4,5,6],false,false,[],[],[]⟩,⟨(7,3),[2,4,5,7],false,false,[],[],[]⟩,⟨(12,3),[2,4,5,8,9],false,false,[],[],[]⟩,⟨(17,3),[2,4,8,12],false,false,[],[],[]⟩],tab:=[qHm (fun _=>true),qIm (fun _=>true)],fm:=⟨true,[.val (.arr 5 (.int .u32)) []]⟩}
noncomputable def qjg (a0:(List Int)) (a1:List Int):Option ((List Int)):=bitloftref01_Done_I.call [(.agg (.arr 5 (.int .u32)) a0),(.sl (.int .u8) false a1)] []
noncomputable def qPc (v1:List Int) (v6:Int) (b8:(List Int)) (b9:(List Int)) (h10:List Int):Option ((List Int)):=bitloftref01_Done_I.sem ⟨[.code (cIn (cIn (qga (qHa (qga (qga (qma Tryz.prog 54))))))), .inLoop (cIn (cIn (qga (qHa (qga (qga (qma Tryz.prog 54))))))), .inBlock 0, .code (qga (qga (qga (qma Tryz.prog 54))))],⟨[(1,(.one (.sl (.int .u8) false v1))),(2,(.one (.ptr (.arr 5 (.int .u32)) 8 []))),(4,(.one (.ptr (.arr 5 (.int .u32)) 9 []))),(5,(.one (.ref (.int .u32) 10 0 (List.length h10) true))),(6,(.one (.int .i64 v6)))],[(8,some (.box (.arr 5 (.int .u32)) b8)),(9,some (.box (.arr 5 (.int .u32)) b9)),(10,some (.row (.int .u32) true h10))],11⟩⟩
noncomputable def qTb (v7:Int) (b8:(List Int)) (b9:(List Int)) (h10:List Int):Option ((List Int)):=bitloftref01_Done_I.sem ⟨[.code (cIn (cIn (qga (qHa (qga (qga (qga (qma Tryz.prog 54)))))))), .inLoop (cIn (cIn (qga (qHa (qga (qga (qga (qma Tryz.prog 54)))))))), .inBlock 2, .code (qga (qga (qga (qga (qma Tryz.prog 54)))))],⟨[(2,(.one (.ptr (.arr 5 (.int .u32)) 8 []))),(4,(.one (.ptr (.arr 5 (.int .u32)) 9 []))),(5,(.one (.ref (.int .u32) 10 0 (List.length h10) true))),(7,(.one (.int .i64 v7)))],[(8,some (.box (.arr 5 (.int .u32)) b8)),(9,some (.box (.arr 5 (.int .u32)) b9)),(10,some (.row (.int .u32) true h10))],11⟩⟩
noncomputable def qSb (v9:Int) (b8:(List Int)) (b9:(List Int)) (h10:List Int) (b11:(List Int)):Option ((List Int)):=bitloftref01_Done_I.sem ⟨[.code (cIn (cIn (qga (qHa (qga (qga (qga (qga (qga (qma Tryz.prog 54)))))))))), .inLoop (cIn (cIn (qga (qHa (qga (qga (qga (qga (qga (qma Tryz.prog 54)))))))))), .inBlock 4, .code (qga (qga (qga (qga (qga (qga (qma Tryz.prog 54)))))))],⟨[(2,(.one (.ptr (.arr 5 (.int .u32)) 8 []))),(4,(.one (.ptr (.arr 5 (.int .u32)) 9 []))),(5,(.one (.ref (.int .u32) 10 0 (List.length h10) true))),(8,(.one (.ptr (.arr 5 (.int .u32)) 11 []))),(9,(.one (.int .i64 v9)))],[(8,some (.box (.arr 5 (.int .u32)) b8)),(9,some (.box (.arr 5 (.int .u32)) b9)),(10,some (.row (.int .u32) true h10)),(11,some (.box (.arr 5 (.int .u32)) b11))],12⟩⟩
noncomputable def qRb (v12:Int) (b8:(List Int)) (b9:(List Int)) (b10:(List Int)):Option ((List Int)):=bitloftref01_Done_I.sem ⟨[.code (cIn (cIn (qga (qHa (qga (qga (qga (qga (qga (qga (qma Tryz.prog 54))))))))))), .inLoop (cIn (cIn (qga (qHa (qga (qga (qga (qga (qga (qga (qma Tryz.prog 54))))))))))), .inBlock 6, .code (qga (qga (qga (qga (qga (qga (qga (qma Tryz.prog 54))))))))],⟨[(2,(.one (.ptr (.arr 5 (.int .u32)) 8 []))),(4,(.one (.ptr (.arr 5 (.int .u32)) 9 []))),(8,(.one (.ptr (.arr 5 (.int .u32)) 10 []))),(12,(.one (.int .i64 v12)))],[(8,some (.box (.arr 5 (.int .u32)) b8)),(9,some (.box (.arr 5 (.int .u32)) b9)),(10,some (.box (.arr 5 (.int .u32)) b10))],11⟩⟩
theorem qLl (a0:(List Int)) (a1:List Int):qjg a0 a1=(
qPc a1 (0:Int) a0 (List.replicate 5 (0:Int)) []):=(FnI.call_eq (by kernel_rfl)).trans (by kernel_rfl)
theorem qTf (v1:List Int) (v6:Int) (b8:(List Int)) (b9:(List Int)) (h10:List Int):qPc v1 v6 b8 b9 h10=(
if (decide (v6<(16:Int)))=true then
gd (0≤(IntKind.wrap .i64 ((4:Int)*v6)))<|
gd ((IntKind.wrap .i64 ((4:Int)*v6))<(Int.ofNat (List.length v1)))<|
gd (0≤(IntKind.wrap .i64 ((IntKind.wrap .i64 ((4:Int)*v6))+(1:Int))))<|
gd ((IntKind.wrap .i64 ((IntKind.wrap .i64 ((4:Int)*v6))+(1:Int)))<(Int.ofNat (List.length v1)))<|
gd (0≤(IntKind.wrap .i64 ((IntKind.wrap .i64 ((4:Int)*v6))+(2:Int))))<|
gd ((IntKind.wrap .i64 ((IntKind.wrap .i64 ((4:Int)*v6))+(2:Int)))<(Int.ofNat (List.length v1)))<|
gd (0≤(IntKind.wrap .i64 ((IntKind.wrap .i64 ((4:Int)*v6))+(3:Int))))<|
gd ((IntKind.wrap .i64 ((IntKind.wrap .i64 ((4:Int)*v6))+(3:Int)))<(Int.ofNat (List.length v1)))<|
gd ((List.length (h10++[(IntKind.wrap .u32 ((IntKind.wrap .u32 ((IntKind.wrap .u32 ((IntKind.wrap .u32 ((IntKind.wrap .u32 ((IntKind.wrap .u32 ((IntKind.wrap .u32 (List.getD v1 (Int.toNat (IntKind.wrap .i64 ((4:Int)*v6))) (0:Int)))*(256:Int)))+(IntKind.wrap .u32 (List.getD v1 (Int.toNat (IntKind.wrap .i64 ((IntKind.wrap .i64 ((4:Int)*v6))+(1:Int)))) (0:Int)))))*(256:Int)))+(IntKind.wrap .u32 (List.getD v1 (Int.toNat (IntKind.wrap .i64 ((IntKind.wrap .i64 ((4:Int)*v6))+(2:Int)))) (0:Int)))))*(256:Int)))+(IntKind.wrap .u32 (List.getD v1 (Int.toNat (IntKind.wrap .i64 ((IntKind.wrap .i64 ((4:Int)*v6))+(3:Int)))) (0:Int)))))]))*4≤140737488355328)<|
qPc v1 (IntKind.wrap .i64 (v6+(1:Int))) b8 b9 (h10++[(IntKind.wrap .u32 ((IntKind.wrap .u32 ((IntKind.wrap .u32 ((IntKind.wrap .u32 ((IntKind.wrap .u32 ((IntKind.wrap .u32 ((IntKind.wrap .u32 (List.getD v1 (Int.toNat (IntKind.wrap .i64 ((4:Int)*v6))) (0:Int)))*(256:Int)))+(IntKind.wrap .u32 (List.getD v1 (Int.toNat (IntKind.wrap .i64 ((IntKind.wrap .i64 ((4:Int)*v6))+(1:Int)))) (0:Int)))))*(256:Int)))+(IntKind.wrap .u32 (List.getD v1 (Int.toNat (IntKind.wrap .i64 ((IntKind.wrap .i64 ((4:Int)*v6))+(2:Int)))) (0:Int)))))*(256:Int)))+(IntKind.wrap .u32 (List.getD v1 (Int.toNat (IntKind.wrap .i64 ((IntKind.wrap .i64 ((4:Int)*v6))+(3:Int)))) (0:Int)))))])
else
qTb (16:Int) b8 b9 h10):=(FnI.sem_eq _).trans (by kernel_rfl)
theorem qSf (v7:Int) (b8:(List Int)) (b9:(List Int)) (h10:List Int):qTb v7 b8 b9 h10=(
if (decide (v7<(80:Int)))=true then
gd (0≤(IntKind.wrap .i64 (v7 - (3:Int))))<|
gd ((IntKind.wrap .i64 (v7 - (3:Int)))<(Int.ofNat (List.length h10)))<|
gd (0≤(IntKind.wrap .i64 (v7 - (8:Int))))<|
gd ((IntKind.wrap .i64 (v7 - (8:Int)))<(Int.ofNat (List.length h10)))<|
gd (0≤(IntKind.wrap .i64 (v7 - (14:Int))))<|
gd ((IntKind.wrap .i64 (v7 - (14:Int)))<(Int.ofNat (List.length h10)))<|
gd (0≤(IntKind.wrap .i64 (v7 - (16:Int))))<|
gd ((IntKind.wrap .i64 (v7 - (16:Int)))<(Int.ofNat (List.length h10)))<|
(qVc (qVa .u32 (qVa .u32 (qVa .u32 (List.getD h10 (0+(Int.toNat (IntKind.wrap .i64 (v7 - (3:Int))))) (0:Int)) (List.getD h10 (0+(Int.toNat (IntKind.wrap .i64 (v7 - (8:Int))))) (0:Int))) (List.getD h10 (0+(Int.toNat (IntKind.wrap .i64 (v7 - (14:Int))))) (0:Int))) (List.getD h10 (0+(Int.toNat (IntKind.wrap .i64 (v7 - (16:Int))))) (0:Int))) (1:Int)).bind fun r1=>
gd ((List.length (h10++[r1]))*4≤140737488355328)<|
qTb (IntKind.wrap .i64 (v7+(1:Int))) b8 b9 (h10++[r1])
else
qSb (0:Int) b8 b9 h10 b8):=(FnI.sem_eq _).trans (by kernel_rfl)
theorem qRf (v9:Int) (b8:(List Int)) (b9:(List Int)) (h10:List Int) (b11:(List Int)):qSb v9 b8 b9 h10 b11=(
if (decide (v9<(80:Int)))=true then
gd (0≤(1:Int))<|
gd ((1:Int)<(5:Int))<|
gd (0≤(2:Int))<|
gd ((2:Int)<(5:Int))<|
gd (0≤(3:Int))<|
gd ((3:Int)<(5:Int))<|
(qig v9 (List.getD b11 1 (0:Int)) (List.getD b11 2 (0:Int)) (List.getD b11 3 (0:Int))).bind fun r2=>
gd (0≤(0:Int))<|
gd ((0:Int)<(5:Int))<|
(qVc (List.getD b11 0 (0:Int)) (5:Int)).bind fun r3=>
gd (0≤(4:Int))<|
gd ((4:Int)<(5:Int))<|
gd (0≤v9)<|
gd (v9<(Int.ofNat (List.length h10)))<|
gd (0≤(0:Int))<|
gd ((0:Int)<(5:Int))<|
gd (0≤(1:Int))<|
gd ((1:Int)<(5:Int))<|
(qVc (List.getD b11 1 (0:Int)) (30:Int)).bind fun r4=>
gd (0≤(2:Int))<|
gd ((2:Int)<(5:Int))<|
gd (0≤(3:Int))<|
gd ((3:Int)<(5:Int))<|
qSb (IntKind.wrap .i64 (v9+(1:Int))) b8 b9 h10 (List.set (List.set (List.set (List.set (List.set (List.replicate 5 (0:Int)) 0 (IntKind.wrap .u32 ((IntKind.wrap .u32 ((IntKind.wrap .u32 ((IntKind.wrap .u32 (r3+r2.1))+(List.getD b11 4 (0:Int))))+r2.2))+(List.getD h10 (0+(Int.toNat v9)) (0:Int))))) 1 (List.getD b11 0 (0:Int))) 2 r4) 3 (List.getD b11 2 (0:Int))) 4 (List.getD b11 3 (0:Int)))
else
qRb (0:Int) b8 b9 b11):=(FnI.sem_eq _).trans (by kernel_rfl)
theorem qYa (v12:Int) (b8:(List Int)) (b9:(List Int)) (b10:(List Int)):qRb v12 b8 b9 b10=(
if (decide (v12<(5:Int)))=true then
gd (0≤v12)<|
gd (v12<(5:Int))<|
gd (0≤v12)<|
gd (v12<(5:Int))<|
gd (0≤v12)<|
gd (v12<(5:Int))<|
qRb (IntKind.wrap .i64 (v12+(1:Int))) (List.set b8 (Int.toNat v12) (IntKind.wrap .u32 ((List.getD b8 (Int.toNat v12) (0:Int))+(List.getD b10 (Int.toNat v12) (0:Int))))) b9 b10
else
some (b8)):=(FnI.sem_eq _).trans (by kernel_rfl)
noncomputable def qJm (acc:List AV→Bool):Summ Tryz.prog GT:=bitloftref01_Done_I.summ mixed acc false false
noncomputable def bitloftref01_Of_I:FnI Tryz.prog GT:={f:=31,cuts:=[⟨(4,3),[2,3,4,5],false,false,[],[],[]⟩,⟨(9,3),[2,4,6,7],false,false,[],[],[]⟩],tab:=[qIj (fun _=>true),qKl (fun _=>true),qJm (fun _=>true)],fm:=⟨true,[.val (.arr 20 (.int .u8)) []]⟩}
noncomputable def qIb (a0:List Int):Option ((List Int)):=bitloftref01_Of_I.call [(.sl (.int .u8) false a0)] []
noncomputable def qAd (v5:Int) (b8:(List Int)) (h9:List Int) (b10:(List Int)):Option ((List Int)):=bitloftref01_Of_I.sem ⟨[.code (cIn (cIn (qga (qHa (qga (qga (qga (qma Tryz.prog 31)))))))), .inLoop (cIn (cIn (qga (qHa (qga (qga (qga (qma Tryz.prog 31)))))))), .inBlock 0, .code (qga (qga (qga (qga (qma Tryz.prog 31)))))],⟨[(2,(.one (.ptr (.arr 20 (.int .u8)) 8 []))),(3,(.one (.ref (.int .u8) 9 0 (List.length h9) true))),(4,(.one (.ptr (.arr 5 (.int .u32)) 10 []))),(5,(.one (.int .i64 v5)))],[(8,some (.box (.arr 20 (.int .u8)) b8)),(9,some (.row (.int .u8) true h9)),(10,some (.box (.arr 5 (.int .u32)) b10))],11⟩⟩
noncomputable def qzd (v7:Int) (b8:(List Int)) (b9:(List Int)) (b10:(List Int)):Option ((List Int)):=bitloftref01_Of_I.sem ⟨[.code (cIn (cIn (qga (qHa (qga (qga (qga (qga (qga (qma Tryz.prog 31)))))))))), .inLoop (cIn (cIn (qga (qHa (qga (qga (qga (qga (qga (qma Tryz.prog 31)))))))))), .inBlock 2, .code (qga (qga (qga (qga (qga (qga (qma Tryz.prog 31)))))))],⟨[(2,(.one (.ptr (.arr 20 (.int .u8)) 8 []))),(4,(.one (.ptr (.arr 5 (.int .u32)) 9 []))),(6,(.one (.ptr (.arr 20 (.int .u8)) 10 []))),(7,(.one (.int .i64 v7)))],[(8,some (.box (.arr 20 (.int .u8)) b8)),(9,some (.box (.arr 5 (.int .u32)) b9)),(10,some (.box (.arr 20 (.int .u8)) b10))],11⟩⟩
theorem qLn (a0:List Int):qIb a0=(
gd ((List.length ([]++a0))*1≤140737488355328)<|
(qoe (Int.ofNat (List.length a0))).bind fun r1=>
gd ((List.length (([]++a0)++r1))*1≤140737488355328)<|
(qhi).bind fun r2=>
qAd (0:Int) (List.replicate 20 (0:Int)) (([]++a0)++r1) r2):=(FnI.call_eq (by kernel_rfl)).trans (by kernel_rfl)
theorem qGg (v5:Int) (b8:(List Int)) (h9:List Int) (b10:(List Int)):qAd v5 b8 h9 b10=(
if (decide (v5<(Int.ofNat (List.length h9))))=true then
gd (0≤v5)<|
gd (v5≤(IntKind.wrap .i64 (v5+(64:Int))))<|
gd ((IntKind.wrap .i64 (v5+(64:Int)))≤(Int.ofNat (List.length h9)))<|
(qjg b10 (List.take ((Int.toNat (IntKind.wrap .i64 (v5+(64:Int)))) - (Int.toNat v5)) (List.drop (0+(Int.toNat v5)) h9))).bind fun r3=>
qAd (IntKind.wrap .i64 (v5+(64:Int))) b8 h9 r3
else
qzd (0:Int) b8 b10 (List.replicate 20 (0:Int))):=(FnI.sem_eq _).trans (by kernel_rfl)
theorem qFg (v7:Int) (b8:(List Int)) (b9:(List Int)) (b10:(List Int)):qzd v7 b8 b9 b10=(
if (decide (v7<(20:Int)))=true then
gd ((4:Int)≠0)<|
gd (0≤(IntKind.wrap .i64 (Int.tdiv v7 (4:Int))))<|
gd ((IntKind.wrap .i64 (Int.tdiv v7 (4:Int)))<(5:Int))<|
gd ((4:Int)≠0)<|
gd (0≤(IntKind.wrap .i64 ((24:Int) - (IntKind.wrap .i64 ((8:Int)*(Int.tmod v7 (4:Int)))))))<|
gd (0≤v7)<|
gd (v7<(20:Int))<|
qzd (IntKind.wrap .i64 (v7+(1:Int))) b8 b9 (List.set b10 (Int.toNat v7) (IntKind.wrap .u8 (qwi .u32 (List.getD b9 (Int.toNat (IntKind.wrap .i64 (Int.tdiv v7 (4:Int)))) (0:Int)) (IntKind.wrap .i64 ((24:Int) - (IntKind.wrap .i64 ((8:Int)*(Int.tmod v7 (4:Int)))))))))
else
some (b10)):=(FnI.sem_eq _).trans (by kernel_rfl)
noncomputable def qWc (acc:List AV→Bool):Summ Tryz.prog GT:=bitloftref01_Of_I.summ mixed acc false false
noncomputable def bitloftref28_record_I:FnI Tryz.prog GT:={f:=26,cuts:=[],tab:=[qWc (fun _=>true)],fm:=⟨true,[.val qba []]⟩}
noncomputable def qOe (a0:qna):Option (qaa):=bitloftref28_record_I.call [(.agg T_api_Member (inj false T_api_Member a0))] []
theorem qFj (a0:qna):qOe a0=(
(qIb a0.2.1).bind fun r1=>
some (a0.1,((Int.ofNat (List.length a0.2.1)),(r1,())))):=(FnI.call_eq (by kernel_rfl)).trans (by kernel_rfl)
noncomputable def qEk (acc:List AV→Bool):Summ Tryz.prog GT:=bitloftref28_record_I.summ mixed acc false false
noncomputable def bitloftref28_Of_I:FnI Tryz.prog GT:={f:=9,cuts:=[⟨(5,3),[0,4,5],false,false,[],[],[]⟩],tab:=[qne (fun _=>true),qEk (fun _=>true)],fm:=⟨true,[.val (.slice qba) [.nw], .val (.int .i64) []]⟩}
noncomputable def qEh (a0:List qna):Option (List qaa×Int):=bitloftref28_Of_I.call [(.sl T_api_Member false a0)] []
noncomputable def qud (v0:List qna) (v5:Int) (h8:List qaa):Option (List qaa×Int):=bitloftref28_Of_I.sem ⟨[.code (cIn (cIn (qga (qHa (qga (qga (qga (qma Tryz.prog 9)))))))), .inLoop (cIn (cIn (qga (qHa (qga (qga (qga (qma Tryz.prog 9)))))))), .inBlock 0, .code (qga (qga (qga (qga (qma Tryz.prog 9)))))],⟨[(0,(.one (.sl T_api_Member false v0))),(4,(.one (.ref qba 8 0 (List.length h8) true))),(5,(.one (.int .i64 v5)))],[(8,some (.row qba true h8))],9⟩⟩
theorem qHn (a0:List qna):qEh a0=(
(qbb a0).bind fun r1=>
if (r1 != (0:Int))=true then
(qbb a0).bind fun r2=>
some ([],r2)
else
qud a0 (0:Int) []):=(FnI.call_eq (by kernel_rfl)).trans (by kernel_rfl)
theorem qEg (v0:List qna) (v5:Int) (h8:List qaa):qud v0 v5 h8=(
if (decide (v5<(Int.ofNat (List.length v0))))=true then
gd (0≤v5)<|
gd (v5<(Int.ofNat (List.length v0)))<|
(qOe (List.getD v0 (Int.toNat v5) (qja T_api_Member))).bind fun r3=>
gd ((List.length (h8++[r3]))*48≤140737488355328)<|
qud v0 (IntKind.wrap .i64 (v5+(1:Int))) (h8++[r3])
else
some (h8,(0:Int))):=(FnI.sem_eq _).trans (by kernel_rfl)
noncomputable def qBo (acc:List AV→Bool):Summ Tryz.prog GT:=bitloftref28_Of_I.summ mixed acc false false
noncomputable def bitloftref30_Front_I:FnI Tryz.prog GT:={f:=29,cuts:=[],tab:=[],fm:=⟨true,[.val (.slice (.int .u8)) [.nw]]⟩}
noncomputable def qgi (a0:qoa) (a1:Int):Option (List Int):=bitloftref30_Front_I.call [(.agg qxa (inj false qxa a0)),(.int .i64 a1)] []
theorem qyk (a0:qoa) (a1:Int):qgi a0 a1=(
gd (0≤(8:Int))<|
some ([(66:Int),(76:Int),(70:Int),(1:Int),(IntKind.wrap .u8 a0.1),(IntKind.wrap .u8 (Int.fdiv a0.2.1 (256:Int))),(IntKind.wrap .u8 a0.2.1),(IntKind.wrap .u8 a1)])):=(FnI.call_eq (by kernel_rfl)).trans (by kernel_rfl)
noncomputable def qsl (acc:List AV→Bool):Summ Tryz.prog GT:=bitloftref30_Front_I.summ mixed acc false false
noncomputable def bitloftref28_Bytes_I:FnI Tryz.prog GT:={f:=30,cuts:=[⟨(3,3),[0,3,4],false,false,[],[],[]⟩],tab:=[],fm:=⟨true,[.val (.slice (.int .u8)) [.nw]]⟩}
noncomputable def qMf (a0:List qaa):Option (List Int):=bitloftref28_Bytes_I.call [(.sl qba false a0)] []
noncomputable def qCc (v0:List qaa) (v4:Int) (h8:List Int):Option (List Int):=bitloftref28_Bytes_I.sem ⟨[.code (cIn (cIn (qga (qHa (qga (qga (qma Tryz.prog 30))))))), .inLoop (cIn (cIn (qga (qHa (qga (qga (qma Tryz.prog 30))))))), .inBlock 0, .code (qga (qga (qga (qma Tryz.prog 30))))],⟨[(0,(.one (.sl qba false v0))),(3,(.one (.ref (.int .u8) 8 0 (List.length h8) true))),(4,(.one (.int .i64 v4)))],[(8,some (.row (.int .u8) true h8))],9⟩⟩
theorem qIk (a0:List qaa):qMf a0=(
qCc a0 (0:Int) []):=(FnI.call_eq (by kernel_rfl)).trans (by kernel_rfl)
theorem qff (v0:List qaa) (v4:Int) (h8:List Int):qCc v0 v4 h8=(
if (decide (v4<(Int.ofNat (List.length v0))))=true then
gd (0≤v4)<|
gd (v4<(Int.ofNat (List.length v0)))<|
gd ((List.length (h8++[(IntKind.wrap .u8 (Int.ofNat (ByteArray.size (List.getD v0 (Int.toNat v4) (qja qba)).1)))]))*1≤140737488355328)<|
gd ((List.length ((h8++[(IntKind.wrap .u8 (Int.ofNat (ByteArray.size (List.getD v0 (Int.toNat v4) (qja qba)).1)))])++(qCb (List.getD v0 (Int.toNat v4) (qja qba)).1)))*1≤140737488355328)<|
gd (0≤(8:Int))<|
gd ((List.length (((h8++[(IntKind.wrap .u8 (Int.ofNat (ByteArray.size (List.getD v0 (Int.toNat v4) (qja qba)).1)))])++(qCb (List.getD v0 (Int.toNat v4) (qja qba)).1))++[(IntKind.wrap .u8 (Int.fdiv (List.getD v0 (Int.toNat v4) (qja qba)).2.1 (256:Int))),(IntKind.wrap .u8 (List.getD v0 (Int.toNat v4) (qja qba)).2.1)]))*1≤140737488355328)<|
gd ((List.length ((((h8++[(IntKind.wrap .u8 (Int.ofNat (ByteArray.size (List.getD v0 (Int.toNat v4) (qja qba)).1)))])++(qCb (List.getD v0 (Int.toNat v4) (qja qba)).1))++[(IntKind.wrap .u8 (Int.fdiv (List.getD v0 (Int.toNat v4) (qja qba)).2.1 (256:Int))),(IntKind.wrap .u8 (List.getD v0 (Int.toNat v4) (qja qba)).2.1)])++(List.take 20 (List.drop 0 (List.getD v0 (Int.toNat v4) (qja qba)).2.2.1))))*1≤140737488355328)<|
qCc v0 (IntKind.wrap .i64 (v4+(1:Int))) ((((h8++[(IntKind.wrap .u8 (Int.ofNat (ByteArray.size (List.getD v0 (Int.toNat v4) (qja qba)).1)))])++(qCb (List.getD v0 (Int.toNat v4) (qja qba)).1))++[(IntKind.wrap .u8 (Int.fdiv (List.getD v0 (Int.toNat v4) (qja qba)).2.1 (256:Int))),(IntKind.wrap .u8 (List.getD v0 (Int.toNat v4) (qja qba)).2.1)])++(List.take 20 (List.drop 0 (List.getD v0 (Int.toNat v4) (qja qba)).2.2.1)))
else
some (h8)):=(FnI.sem_eq _).trans (by kernel_rfl)
noncomputable def qAl (acc:List AV→Bool):Summ Tryz.prog GT:=bitloftref28_Bytes_I.summ mixed acc false false
noncomputable def bitloftref30_Bytes_I:FnI Tryz.prog GT:={f:=12,cuts:=[],tab:=[qsl (fun _=>true),qAl (fun _=>true),qWc (fun _=>true)],fm:=⟨true,[.val (.slice (.int .u8)) [.nw]]⟩}
noncomputable def qsd (a0:qoa) (a1:List qaa):Option (List Int):=bitloftref30_Bytes_I.call [(.agg qxa (inj false qxa a0)),(.sl qba false a1)] []
theorem qAk (a0:qoa) (a1:List qaa):qsd a0 a1=(
(qgi a0 (Int.ofNat (List.length a1))).bind fun r1=>
(qMf a1).bind fun r2=>
gd ((List.length (r1++r2))*1≤140737488355328)<|
(qIb (r1++r2)).bind fun r3=>
gd ((List.length ((r1++r2)++(List.take 20 (List.drop 0 r3))))*1≤140737488355328)<|
some ((r1++r2)++(List.take 20 (List.drop 0 r3)))):=(FnI.call_eq (by kernel_rfl)).trans (by kernel_rfl)
noncomputable def qul (acc:List AV→Bool):Summ Tryz.prog GT:=bitloftref30_Bytes_I.summ mixed acc false false
noncomputable def bitloftref25_Bytes_I:FnI Tryz.prog GT:={f:=50,cuts:=[],tab:=[],fm:=⟨true,[.val (.slice (.int .u8)) [.nw]]⟩}
noncomputable def qyd:Option (List Int):=bitloftref25_Bytes_I.call [] []
theorem qSk:qyd=(
some ([(183:Int),(98:Int),(105:Int),(116:Int),(108:Int),(111:Int),(102:Int),(116:Int),(32:Int),(98:Int),(108:Int),(107:Int),(10:Int)])):=(FnI.call_eq (by kernel_rfl)).trans (by kernel_rfl)
noncomputable def qWg (acc:List AV→Bool):Summ Tryz.prog GT:=bitloftref25_Bytes_I.summ mixed acc false false
noncomputable def bitloftref26_two_I:FnI Tryz.prog GT:={f:=86,cuts:=[],tab:=[],fm:=⟨true,[.val (.slice (.int .u8)) [.nw]]⟩}
noncomputable def qEe (a0:Int):Option (List Int):=bitloftref26_two_I.call [(.int .i64 a0)] []
theorem qGm (a0:Int):qEe a0=(
gd (0≤(8:Int))<|
some ([(IntKind.wrap .u8 (Int.fdiv a0 (256:Int))),(IntKind.wrap .u8 a0)])):=(FnI.call_eq (by kernel_rfl)).trans (by kernel_rfl)
noncomputable def qJn (acc:List AV→Bool):Summ Tryz.prog GT:=bitloftref26_two_I.summ mixed acc false false
noncomputable def bitloftref26_Front_I:FnI Tryz.prog GT:={f:=49,cuts:=[],tab:=[qJn (fun _=>true)],fm:=⟨true,[.val (.slice (.int .u8)) [.nw]]⟩}
noncomputable def qwd (a0:qha):Option (List Int):=bitloftref26_Front_I.call [(.agg qka (inj false qka a0))] []
theorem qOk (a0:qha):qwd a0=(
(qEe a0.2.2.1).bind fun r1=>
gd ((List.length ([a0.1,(IntKind.wrap .u8 a0.2.1)]++r1))*1≤140737488355328)<|
(qEe a0.2.2.2.1).bind fun r2=>
gd ((List.length (([a0.1,(IntKind.wrap .u8 a0.2.1)]++r1)++r2))*1≤140737488355328)<|
(qEe a0.2.2.2.2.1).bind fun r3=>
gd ((List.length ((([a0.1,(IntKind.wrap .u8 a0.2.1)]++r1)++r2)++r3))*1≤140737488355328)<|
some ((([a0.1,(IntKind.wrap .u8 a0.2.1)]++r1)++r2)++r3)):=(FnI.call_eq (by kernel_rfl)).trans (by kernel_rfl)
noncomputable def qUg (acc:List AV→Bool):Summ Tryz.prog GT:=bitloftref26_Front_I.summ mixed acc false false
noncomputable def bitloftref26_Bytes_I:FnI Tryz.prog GT:={f:=51,cuts:=[],tab:=[qUg (fun _=>true)],fm:=⟨true,[.val (.slice (.int .u8)) [.nw]]⟩}
noncomputable def qQf (a0:qha):Option (List Int):=bitloftref26_Bytes_I.call [(.agg qka (inj false qka a0))] []
theorem qQk (a0:qha):qQf a0=(
(qwd a0).bind fun r1=>
gd ((List.length (r1++(List.take 20 (List.drop 0 a0.2.2.2.2.2.1))))*1≤140737488355328)<|
some (r1++(List.take 20 (List.drop 0 a0.2.2.2.2.2.1)))):=(FnI.call_eq (by kernel_rfl)).trans (by kernel_rfl)
noncomputable def qHl (acc:List AV→Bool):Summ Tryz.prog GT:=bitloftref26_Bytes_I.summ mixed acc false false
noncomputable def bitloftref27_Bytes_I:FnI Tryz.prog GT:={f:=28,cuts:=[],tab:=[qWg (fun _=>true),qHl (fun _=>true)],fm:=⟨true,[.val (.slice (.int .u8)) [.nw]]⟩}
noncomputable def qOf (a0:qda):Option (List Int):=bitloftref27_Bytes_I.call [(.agg qfa (inj false qfa a0))] []
theorem qLk (a0:qda):qOf a0=(
(qyd).bind fun r1=>
(qQf a0.1).bind fun r2=>
gd ((List.length (r1++r2))*1≤140737488355328)<|
gd ((List.length ((r1++r2)++a0.2.1))*1≤140737488355328)<|
some ((r1++r2)++a0.2.1)):=(FnI.call_eq (by kernel_rfl)).trans (by kernel_rfl)
noncomputable def qFl (acc:List AV→Bool):Summ Tryz.prog GT:=bitloftref27_Bytes_I.summ mixed acc false false
noncomputable def bitloftref30_Join_I:FnI Tryz.prog GT:={f:=11,cuts:=[⟨(3,3),[1,5,6],false,false,[],[],[]⟩],tab:=[qFl (fun _=>true)],fm:=⟨true,[.val (.slice (.int .u8)) [.nw]]⟩}
noncomputable def qbe (a0:List Int) (a1:List qda):Option (List Int):=bitloftref30_Join_I.call [(.sl (.int .u8) false a0),(.sl qfa false a1)] []
noncomputable def qMc (v1:List qda) (v6:Int) (h8:List Int):Option (List Int):=bitloftref30_Join_I.sem ⟨[.code (cIn (cIn (qga (qHa (qga (qga (qma Tryz.prog 11))))))), .inLoop (cIn (cIn (qga (qHa (qga (qga (qma Tryz.prog 11))))))), .inBlock 0, .code (qga (qga (qga (qma Tryz.prog 11))))],⟨[(1,(.one (.sl qfa false v1))),(5,(.one (.ref (.int .u8) 8 0 (List.length h8) true))),(6,(.one (.int .i64 v6)))],[(8,some (.row (.int .u8) true h8))],9⟩⟩
theorem qrl (a0:List Int) (a1:List qda):qbe a0 a1=(
gd ((List.length ([]++a0))*1≤140737488355328)<|
qMc a1 (0:Int) ([]++a0)):=(FnI.call_eq (by kernel_rfl)).trans (by kernel_rfl)
theorem qFf (v1:List qda) (v6:Int) (h8:List Int):qMc v1 v6 h8=(
if (decide (v6<(Int.ofNat (List.length v1))))=true then
gd (0≤v6)<|
gd (v6<(Int.ofNat (List.length v1)))<|
(qOf (List.getD v1 (Int.toNat v6) (qja qfa))).bind fun r1=>
gd ((List.length (h8++r1))*1≤140737488355328)<|
qMc v1 (IntKind.wrap .i64 (v6+(1:Int))) (h8++r1)
else
some (h8)):=(FnI.sem_eq _).trans (by kernel_rfl)
noncomputable def qBm (acc:List AV→Bool):Summ Tryz.prog GT:=bitloftref30_Join_I.summ mixed acc false false
noncomputable def bitloftref26_Of_I:FnI Tryz.prog GT:={f:=27,cuts:=[],tab:=[qUg (fun _=>true),qWc (fun _=>true)],fm:=⟨true,[.val (.arr 20 (.int .u8)) []]⟩}
noncomputable def qUd (a0:qha) (a1:List Int):Option ((List Int)):=bitloftref26_Of_I.call [(.agg qka (inj false qka a0)),(.sl (.int .u8) false a1)] []
theorem qKn (a0:qha) (a1:List Int):qUd a0 a1=(
(qwd a0).bind fun r1=>
gd ((List.length (r1++a1))*1≤140737488355328)<|
(qIb (r1++a1)).bind fun r2=>
some (r2)):=(FnI.call_eq (by kernel_rfl)).trans (by kernel_rfl)
noncomputable def qNi (acc:List AV→Bool):Summ Tryz.prog GT:=bitloftref26_Of_I.summ mixed acc false false
noncomputable def bitloftref27_Made_I:FnI Tryz.prog GT:={f:=10,cuts:=[],tab:=[qNi (fun _=>true)],fm:=⟨true,[.val qfa []]⟩}
noncomputable def qhg (a0:Int) (a1:Int) (a2:List Int) (a3:List Int):Option (qda):=bitloftref27_Made_I.call [(.int .i64 a0),(.int .i64 a1),(.sl (.int .u8) false a2),(.sl (.int .u8) false a3)] []
theorem qCl (a0:Int) (a1:Int) (a2:List Int) (a3:List Int):qhg a0 a1 a2 a3=(
gd ((List.length ([]++a2))*1≤140737488355328)<|
if (decide ((Int.ofNat (List.length a3))<(Int.ofNat (List.length a2))))=true then
gd ((List.length ([]++a3))*1≤140737488355328)<|
(qUd ((2:Int),(a0,(a1,((Int.ofNat (List.length a2)),((Int.ofNat (List.length a3)),((List.replicate 20 (0:Int)),())))))) a2).bind fun r1=>
some (((2:Int),(a0,(a1,((Int.ofNat (List.length a2)),((Int.ofNat (List.length a3)),(r1,())))))),(([]++a3),()))
else
(qUd ((1:Int),(a0,(a1,((Int.ofNat (List.length a2)),((Int.ofNat (List.length a2)),((List.replicate 20 (0:Int)),())))))) a2).bind fun r2=>
some (((1:Int),(a0,(a1,((Int.ofNat (List.length a2)),((Int.ofNat (List.length a2)),(r2,())))))),(([]++a2),()))):=(FnI.call_eq (by kernel_rfl)).trans (by kernel_rfl)
noncomputable def qFm (acc:List AV→Bool):Summ Tryz.prog GT:=bitloftref27_Made_I.summ mixed acc false false
noncomputable def bitloftlaw32_stored_I:FnI Tryz.prog GT:={f:=8,cuts:=[⟨(4,3),[0,3,5,6],false,false,[],[],[]⟩,⟨(7,7),[0,3,5,6,7],false,false,[],[],[]⟩],tab:=[qBo (fun _=>true),qul (fun _=>true),qBm (fun _=>true),qFm (fun _=>true)],fm:=⟨true,[.val (.slice (.int .u8)) [.nw]]⟩}
noncomputable def qXa (a0:List qna):Option (List Int):=bitloftlaw32_stored_I.call [(.sl T_api_Member false a0)] []
noncomputable def qvb (v0:List qna) (v6:Int) (h8:List qaa) (h9:List qda):Option (List Int):=bitloftlaw32_stored_I.sem ⟨[.code (cIn (cIn (qga (qHa (qga (qga (qga (qma Tryz.prog 8)))))))), .inLoop (cIn (cIn (qga (qHa (qga (qga (qga (qma Tryz.prog 8)))))))), .inBlock 0, .code (qga (qga (qga (qga (qma Tryz.prog 8)))))],⟨[(0,(.one (.sl T_api_Member false v0))),(3,(.one (.ref qba 8 0 (List.length h8) true))),(5,(.one (.ref qfa 9 0 (List.length h9) true))),(6,(.one (.int .i64 v6)))],[(8,some (.row qba true h8)),(9,some (.row qfa true h9))],10⟩⟩
noncomputable def qjc (v0:List qna) (v6:Int) (v7:Int) (h8:List qaa) (h9:List qda):Option (List Int):=bitloftlaw32_stored_I.sem ⟨[.code (cIn (cIn (qga (cIn (qHa (qga (cIn (cIn (qga (qHa (qga (qga (qga (qma Tryz.prog 8)))))))))))))), .inLoop (cIn (cIn (qga (cIn (qHa (qga (cIn (cIn (qga (qHa (qga (qga (qga (qma Tryz.prog 8)))))))))))))), .inBlock 2, .inBlock 1, .code (qga (qga (cIn (cIn (qga (qHa (qga (qga (qga (qma Tryz.prog 8)))))))))), .inLoop (cIn (cIn (qga (qHa (qga (qga (qga (qma Tryz.prog 8)))))))), .inBlock 0, .code (qga (qga (qga (qga (qma Tryz.prog 8)))))],⟨[(0,(.one (.sl T_api_Member false v0))),(3,(.one (.ref qba 8 0 (List.length h8) true))),(5,(.one (.ref qfa 9 0 (List.length h9) true))),(6,(.one (.int .i64 v6))),(7,(.one (.int .i64 v7)))],[(8,some (.row qba true h8)),(9,some (.row qfa true h9))],10⟩⟩
theorem qJj (a0:List qna):qXa a0=(
(qEh a0).bind fun r1=>
qvb a0 (0:Int) r1.1 []):=(FnI.call_eq (by kernel_rfl)).trans (by kernel_rfl)
theorem qze (v0:List qna) (v6:Int) (h8:List qaa) (h9:List qda):qvb v0 v6 h8 h9=(
if (decide (v6<(Int.ofNat (List.length v0))))=true then
qjc v0 v6 (0:Int) h8 h9
else
(qsd ((0:Int),((16:Int),())) h8).bind fun r2=>
(qbe r2 h9).bind fun r3=>
some (r3)):=(FnI.sem_eq _).trans (by kernel_rfl)
theorem qye (v0:List qna) (v6:Int) (v7:Int) (h8:List qaa) (h9:List qda):qjc v0 v6 v7 h8 h9=(
gd (0≤v6)<|
gd (v6<(Int.ofNat (List.length v0)))<|
if (decide (v7<(Int.ofNat (List.length (List.getD v0 (Int.toNat v6) (qja T_api_Member)).2.1))))=true then
gd (0≤v6)<|
gd (v6<(Int.ofNat (List.length v0)))<|
gd (0≤v6)<|
gd (v6<(Int.ofNat (List.length v0)))<|
gd (0≤v7)<|
gd (v7≤(if (IntKind.wrap .i64 (v7+(16:Int)))<(Int.ofNat (List.length (List.getD v0 (Int.toNat v6) (qja T_api_Member)).2.1)) then (IntKind.wrap .i64 (v7+(16:Int))) else (Int.ofNat (List.length (List.getD v0 (Int.toNat v6) (qja T_api_Member)).2.1))))<|
gd ((if (IntKind.wrap .i64 (v7+(16:Int)))<(Int.ofNat (List.length (List.getD v0 (Int.toNat v6) (qja T_api_Member)).2.1)) then (IntKind.wrap .i64 (v7+(16:Int))) else (Int.ofNat (List.length (List.getD v0 (Int.toNat v6) (qja T_api_Member)).2.1)))≤(Int.ofNat (List.length (List.getD v0 (Int.toNat v6) (qja T_api_Member)).2.1)))<|
(qhg v6 v7 (List.take ((Int.toNat (if (IntKind.wrap .i64 (v7+(16:Int)))<(Int.ofNat (List.length (List.getD v0 (Int.toNat v6) (qja T_api_Member)).2.1)) then (IntKind.wrap .i64 (v7+(16:Int))) else (Int.ofNat (List.length (List.getD v0 (Int.toNat v6) (qja T_api_Member)).2.1)))) - (Int.toNat v7)) (List.drop (Int.toNat v7) (List.getD v0 (Int.toNat v6) (qja T_api_Member)).2.1)) (List.take ((Int.toNat (if (IntKind.wrap .i64 (v7+(16:Int)))<(Int.ofNat (List.length (List.getD v0 (Int.toNat v6) (qja T_api_Member)).2.1)) then (IntKind.wrap .i64 (v7+(16:Int))) else (Int.ofNat (List.length (List.getD v0 (Int.toNat v6) (qja T_api_Member)).2.1)))) - (Int.toNat v7)) (List.drop (Int.toNat v7) (List.getD v0 (Int.toNat v6) (qja T_api_Member)).2.1))).bind fun r4=>
gd ((List.length (h9++[r4]))*88≤140737488355328)<|
qjc v0 v6 (IntKind.wrap .i64 (v7+(16:Int))) h8 (h9++[r4])
else
qvb v0 (IntKind.wrap .i64 (v6+(1:Int))) h8 h9):=(FnI.sem_eq _).trans (by kernel_rfl)
noncomputable def qHg (acc:List AV→Bool):Summ Tryz.prog GT:=bitloftlaw32_stored_I.summ mixed acc false false
noncomputable def bitloftlaw32_alive_I:FnI Tryz.prog GT:={f:=13,cuts:=[],tab:=[qHg (fun _=>true),qrk (fun _=>true),qoo (fun _=>true),qvn (fun _=>true)],fm:=⟨true,[.val .bool []]⟩}
noncomputable def qUf:Option (Bool):=bitloftlaw32_alive_I.call [] []
theorem qUk:qUf=(
(qXa (qRg (a:= .str) (e:=(.int .u8)) [((ByteArray.mk #[97]),[(7:Int),(8:Int)])])).bind fun r1=>
(qRa r1 (ByteArray.mk #[97]) (1:Int) (2:Int)).bind fun r2=>
(qRa r1 (ByteArray.mk #[97]) (1:Int) (3:Int)).bind fun r3=>
(qXa []).bind fun r4=>
(qRd r4).bind fun r5=>
(qXa []).bind fun r6=>
(qFc r6 (ByteArray.mk #[97])).bind fun r7=>
if (r2.2==(0:Int))=true then
if ((ByteArray.toList (qPb r2.1))==(ByteArray.toList (qPb [(8:Int)])))=true then
if (r3.2==(2:Int))=true then
if (r5.2==(0:Int))=true then
if ((Int.ofNat (List.length r5.1))==(0:Int))=true then
some (r7.2==(6:Int))
else
some (false)
else
some (false)
else
some (false)
else
some (false)
else
some (false)):=(FnI.call_eq (by kernel_rfl)).trans (by kernel_rfl)
noncomputable def qMl (acc:List AV→Bool):Summ Tryz.prog GT:=bitloftlaw32_alive_I.summ mixed acc false false
noncomputable def bitloftref28_Great_I:FnI Tryz.prog GT:={f:=32,cuts:=[⟨(2,3),[0,3],false,false,[],[],[]⟩],tab:=[],fm:=⟨true,[.val .bool []]⟩}
noncomputable def qzc (a0:List qna):Option (Bool):=bitloftref28_Great_I.call [(.sl T_api_Member false a0)] []
noncomputable def qlb (v0:List qna) (v3:Int):Option (Bool):=bitloftref28_Great_I.sem ⟨[.code (cIn (cIn (qga (qHa (qga (qma Tryz.prog 32)))))), .inLoop (cIn (cIn (qga (qHa (qga (qma Tryz.prog 32)))))), .inBlock 0, .code (qga (qga (qma Tryz.prog 32)))],⟨[(0,(.one (.sl T_api_Member false v0))),(3,(.one (.int .i64 v3)))],[],8⟩⟩
theorem qGk (a0:List qna):qzc a0=(
qlb a0 (0:Int)):=(FnI.call_eq (by kernel_rfl)).trans (by kernel_rfl)
theorem qaf (v0:List qna) (v3:Int):qlb v0 v3=(
if (decide (v3<(Int.ofNat (List.length v0))))=true then
if (decide (v3≤(30:Int)))=true then
gd (0≤v3)<|
gd (v3<(Int.ofNat (List.length v0)))<|
if (decide ((Int.ofNat (ByteArray.size (List.getD v0 (Int.toNat v3) (qja T_api_Member)).1))>(100:Int)))=true then
some (true)
else
gd (0≤v3)<|
gd (v3<(Int.ofNat (List.length v0)))<|
if (decide ((Int.ofNat (List.length (List.getD v0 (Int.toNat v3) (qja T_api_Member)).2.1))>(10000:Int)))=true then
some (true)
else
gd (0≤v3)<|
gd (v3<(Int.ofNat (List.length v0)))<|
if (decide ((Int.ofNat (List.length (List.getD v0 (Int.toNat v3) (qja T_api_Member)).2.1))>(600:Int)))=true then
gd (0≤v3)<|
gd (v3<(Int.ofNat (List.length v0)))<|
if (decide ((Int.ofNat (List.length (List.getD v0 (Int.toNat v3) (qja T_api_Member)).2.1))<(8000:Int)))=true then
some (true)
else
qlb v0 (IntKind.wrap .i64 (v3+(1:Int)))
else
qlb v0 (IntKind.wrap .i64 (v3+(1:Int)))
else
some (decide ((Int.ofNat (List.length v0))>(30:Int)))
else
some (decide ((Int.ofNat (List.length v0))>(30:Int)))):=(FnI.sem_eq _).trans (by kernel_rfl)
noncomputable def qzl (acc:List AV→Bool):Summ Tryz.prog GT:=bitloftref28_Great_I.summ mixed acc false false
noncomputable def bitloftref30_Small_I:FnI Tryz.prog GT:={f:=15,cuts:=[⟨(3,3),[0,3,4],false,false,[],[],[]⟩],tab:=[qzl (fun _=>true),qne (fun _=>true)],fm:=⟨true,[.val .bool []]⟩}
noncomputable def qEf (a0:List qna):Option (Bool):=bitloftref30_Small_I.call [(.sl T_api_Member false a0)] []
noncomputable def qwc (v0:List qna) (v3:Int) (v4:Int):Option (Bool):=bitloftref30_Small_I.sem ⟨[.code (cIn (cIn (qga (qHa (qga (qga (qma Tryz.prog 15))))))), .inLoop (cIn (cIn (qga (qHa (qga (qga (qma Tryz.prog 15))))))), .inBlock 0, .code (qga (qga (qga (qma Tryz.prog 15))))],⟨[(0,(.one (.sl T_api_Member false v0))),(3,(.one (.int .i64 v3))),(4,(.one (.int .i64 v4)))],[],8⟩⟩
theorem qxk (a0:List qna):qEf a0=(
qwc a0 (0:Int) (0:Int)):=(FnI.call_eq (by kernel_rfl)).trans (by kernel_rfl)
theorem qUe (v0:List qna) (v3:Int) (v4:Int):qwc v0 v3 v4=(
if (decide (v4<(Int.ofNat (List.length v0))))=true then
if (decide (v4<(30:Int)))=true then
gd (0≤v4)<|
gd (v4<(Int.ofNat (List.length v0)))<|
qwc v0 (IntKind.wrap .i64 (v3+(Int.ofNat (List.length (List.getD v0 (Int.toNat v4) (qja T_api_Member)).2.1)))) (IntKind.wrap .i64 (v4+(1:Int)))
else
if (decide ((Int.ofNat (List.length v0))≤(30:Int)))=true then
(qzc v0).bind fun r1=>
if (not r1)=true then
if (decide (v3≤(80:Int)))=true then
some (true)
else
(qbb v0).bind fun r2=>
some (r2 != (0:Int))
else
some (false)
else
some (false)
else
if (decide ((Int.ofNat (List.length v0))≤(30:Int)))=true then
(qzc v0).bind fun r3=>
if (not r3)=true then
if (decide (v3≤(80:Int)))=true then
some (true)
else
(qbb v0).bind fun r4=>
some (r4 != (0:Int))
else
some (false)
else
some (false)):=(FnI.sem_eq _).trans (by kernel_rfl)
noncomputable def qql (acc:List AV→Bool):Summ Tryz.prog GT:=bitloftref30_Small_I.summ mixed acc false false
noncomputable def bitloftref29_Block_I:FnI Tryz.prog GT:={f:=193,cuts:=[],tab:=[],fm:=⟨true,[.val .bool []]⟩}
noncomputable def qHf (a0:Int):Option (Bool):=bitloftref29_Block_I.call [(.int .i64 a0)] []
theorem qDg (a0:Int):qHf a0=(
if (decide (a0≥(16:Int)))=true then
some (decide (a0≤(4096:Int)))
else
some (false)):=(FnI.call_eq (by kernel_rfl)).trans (by kernel_rfl)
noncomputable def qTg (acc:List AV→Bool):Summ Tryz.prog GT:=bitloftref29_Block_I.summ mixed acc false false
noncomputable def bitloftref30_Check_I:FnI Tryz.prog GT:={f:=130,cuts:=[],tab:=[qTg (fun _=>true)],fm:=⟨true,[.val (.int .i64) []]⟩}
noncomputable def qGf (a0:qoa):Option (Int):=bitloftref30_Check_I.call [(.agg qxa (inj false qxa a0))] []
theorem qzk (a0:qoa):qGf a0=(
if (decide (a0.1<(0:Int)))=true then
some (2:Int)
else
if (decide (a0.1>(7:Int)))=true then
some (2:Int)
else
(qHf a0.2.1).bind fun r1=>
if (not r1)=true then
some (2:Int)
else
some (0:Int)):=(FnI.call_eq (by kernel_rfl)).trans (by kernel_rfl)
noncomputable def qtl (acc:List AV→Bool):Summ Tryz.prog GT:=bitloftref30_Check_I.summ mixed acc false false
noncomputable def bitloftref28_Valid_I:FnI Tryz.prog GT:={f:=194,cuts:=[⟨(5,3),[0,3,4],false,false,[],[],[]⟩,⟨(14,3),[0,6],false,false,[],[],[]⟩,⟨(17,7),[0,6,7],false,false,[],[],[]⟩],tab:=[qFh (fun _=>true),qWc (fun _=>true)],fm:=⟨true,[.val (.int .i64) []]⟩}
noncomputable def qIf (a0:List qaa):Option (Int):=bitloftref28_Valid_I.call [(.sl qba false a0)] []
noncomputable def qGb (v0:List qaa) (v3:Int) (v4:Int):Option (Int):=bitloftref28_Valid_I.sem ⟨[.code (cIn (cIn (qga (qHa (qga (qga (qga (qma Tryz.prog 194)))))))), .inLoop (cIn (cIn (qga (qHa (qga (qga (qga (qma Tryz.prog 194)))))))), .inBlock 0, .code (qga (qga (qga (qga (qma Tryz.prog 194)))))],⟨[(0,(.one (.sl qba false v0))),(3,(.one (.int .i64 v3))),(4,(.one (.int .i64 v4)))],[],8⟩⟩
noncomputable def qFb (v0:List qaa) (v6:Int):Option (Int):=bitloftref28_Valid_I.sem ⟨[.code (cIn (cIn (qga (qHa (qga (qga (qga (qga (qga (qma Tryz.prog 194)))))))))), .inLoop (cIn (cIn (qga (qHa (qga (qga (qga (qga (qga (qma Tryz.prog 194)))))))))), .inBlock 2, .code (qga (qga (qga (qga (qga (qga (qma Tryz.prog 194)))))))],⟨[(0,(.one (.sl qba false v0))),(6,(.one (.int .i64 v6)))],[],8⟩⟩
noncomputable def qyc (v0:List qaa) (v6:Int) (v7:Int):Option (Int):=bitloftref28_Valid_I.sem ⟨[.code (cIn (cIn (qga (cIn (qHa (qga (cIn (cIn (qga (qHa (qga (qga (qga (qga (qga (qma Tryz.prog 194)))))))))))))))), .inLoop (cIn (cIn (qga (cIn (qHa (qga (cIn (cIn (qga (qHa (qga (qga (qga (qga (qga (qma Tryz.prog 194)))))))))))))))), .inBlock 4, .inBlock 3, .code (qga (qga (cIn (cIn (qga (qHa (qga (qga (qga (qga (qga (qma Tryz.prog 194)))))))))))), .inLoop (cIn (cIn (qga (qHa (qga (qga (qga (qga (qga (qma Tryz.prog 194)))))))))), .inBlock 2, .code (qga (qga (qga (qga (qga (qga (qma Tryz.prog 194)))))))],⟨[(0,(.one (.sl qba false v0))),(6,(.one (.int .i64 v6))),(7,(.one (.int .i64 v7)))],[],8⟩⟩
theorem qFk (a0:List qaa):qIf a0=(
if (decide ((Int.ofNat (List.length a0))>(16:Int)))=true then
some (4:Int)
else
qGb a0 (0:Int) (0:Int)):=(FnI.call_eq (by kernel_rfl)).trans (by kernel_rfl)
theorem qZe (v0:List qaa) (v3:Int) (v4:Int):qGb v0 v3 v4=(
if (decide (v4<(Int.ofNat (List.length v0))))=true then
gd (0≤v4)<|
gd (v4<(Int.ofNat (List.length v0)))<|
(qce (List.getD v0 (Int.toNat v4) (qja qba)).1).bind fun r1=>
if (not r1)=true then
some (8:Int)
else
if (decide ((List.getD v0 (Int.toNat v4) (qja qba)).2.1<(0:Int)))=true then
some (8:Int)
else
if (decide ((List.getD v0 (Int.toNat v4) (qja qba)).2.1>(8192:Int)))=true then
some (8:Int)
else
if ((List.getD v0 (Int.toNat v4) (qja qba)).2.1==(0:Int))=true then
(qIb []).bind fun r2=>
if (not (peq (.arr 20 (.int .u8)) (List.getD v0 (Int.toNat v4) (qja qba)).2.2.1 r2))=true then
some (8:Int)
else
qGb v0 (IntKind.wrap .i64 (v3+(List.getD v0 (Int.toNat v4) (qja qba)).2.1)) (IntKind.wrap .i64 (v4+(1:Int)))
else
qGb v0 (IntKind.wrap .i64 (v3+(List.getD v0 (Int.toNat v4) (qja qba)).2.1)) (IntKind.wrap .i64 (v4+(1:Int)))
else
if (decide (v3>(8192:Int)))=true then
some (4:Int)
else
qFb v0 (0:Int)):=(FnI.sem_eq _).trans (by kernel_rfl)
theorem qYe (v0:List qaa) (v6:Int):qFb v0 v6=(
if (decide (v6<(Int.ofNat (List.length v0))))=true then
qyc v0 v6 (0:Int)
else
some (0:Int)):=(FnI.sem_eq _).trans (by kernel_rfl)
theorem qXe (v0:List qaa) (v6:Int) (v7:Int):qyc v0 v6 v7=(
if (decide (v7<v6))=true then
gd (0≤v7)<|
gd (v7<(Int.ofNat (List.length v0)))<|
gd (0≤v6)<|
gd (v6<(Int.ofNat (List.length v0)))<|
if ((ByteArray.toList (List.getD v0 (Int.toNat v7) (qja qba)).1)==(ByteArray.toList (List.getD v0 (Int.toNat v6) (qja qba)).1))=true then
some (14:Int)
else
qyc v0 v6 (IntKind.wrap .i64 (v7+(1:Int)))
else
qFb v0 (IntKind.wrap .i64 (v6+(1:Int)))):=(FnI.sem_eq _).trans (by kernel_rfl)
noncomputable def qwl (acc:List AV→Bool):Summ Tryz.prog GT:=bitloftref28_Valid_I.summ mixed acc false false
noncomputable def bitloftref28_Read_I:FnI Tryz.prog GT:={f:=131,cuts:=[⟨(8,3),[0,1,7,8,9],false,false,[],[],[]⟩,⟨(15,8),[0,1,7,8,9,10,11,12],false,false,[],[],[]⟩],tab:=[qwl (fun _=>true)],fm:=⟨true,[.val (.slice qba) [.nw], .val (.int .i64) [], .val (.int .i64) []]⟩}
noncomputable def qfg (a0:List Int) (a1:Int):Option (List qaa×Int×Int):=bitloftref28_Read_I.call [(.sl (.int .u8) false a0),(.int .i64 a1)] []
noncomputable def qQb (v0:List Int) (v1:Int) (v8:Int) (v9:Int) (h8:List qaa):Option (List qaa×Int×Int):=bitloftref28_Read_I.sem ⟨[.code (cIn (cIn (qga (qHa (qga (qga (qga (qga (qga (qma Tryz.prog 131)))))))))), .inLoop (cIn (cIn (qga (qHa (qga (qga (qga (qga (qga (qma Tryz.prog 131)))))))))), .inBlock 0, .code (qga (qga (qga (qga (qga (qga (qma Tryz.prog 131)))))))],⟨[(0,(.one (.sl (.int .u8) false v0))),(1,(.one (.int .i64 v1))),(7,(.one (.ref qba 8 0 (List.length h8) true))),(8,(.one (.int .i64 v8))),(9,(.one (.int .i64 v9)))],[(8,some (.row qba true h8))],9⟩⟩
noncomputable def qNc (v0:List Int) (v1:Int) (v8:Int) (v9:Int) (v10:Int) (v12:Int) (h8:List qaa) (b9:qaa):Option (List qaa×Int×Int):=bitloftref28_Read_I.sem ⟨[.code (cIn (cIn (qga (qHa (qga (qga (qga (cIn (qHa (qga (cIn (cIn (qga (qHa (qga (qga (qga (qga (qga (qma Tryz.prog 131)))))))))))))))))))), .inLoop (cIn (cIn (qga (qHa (qga (qga (qga (cIn (qHa (qga (cIn (cIn (qga (qHa (qga (qga (qga (qga (qga (qma Tryz.prog 131)))))))))))))))))))), .inBlock 2, .code (qga (qga (qga (qga (cIn (qHa (qga (cIn (cIn (qga (qHa (qga (qga (qga (qga (qga (qma Tryz.prog 131))))))))))))))))), .inBlock 1, .code (qga (qga (cIn (cIn (qga (qHa (qga (qga (qga (qga (qga (qma Tryz.prog 131)))))))))))), .inLoop (cIn (cIn (qga (qHa (qga (qga (qga (qga (qga (qma Tryz.prog 131)))))))))), .inBlock 0, .code (qga (qga (qga (qga (qga (qga (qma Tryz.prog 131)))))))],⟨[(0,(.one (.sl (.int .u8) false v0))),(1,(.one (.int .i64 v1))),(7,(.one (.ref qba 8 0 (List.length h8) true))),(8,(.one (.int .i64 v8))),(9,(.one (.int .i64 v9))),(10,(.one (.int .i64 v10))),(11,(.one (.ptr qba 9 []))),(12,(.one (.int .i64 v12)))],[(8,some (.row qba true h8)),(9,some (.box qba (inj false qba b9)))],10⟩⟩
theorem qxl (a0:List Int) (a1:Int):qfg a0 a1=(
if (decide (a1<(0:Int)))=true then
some ([],((0:Int),(2:Int)))
else
if (decide (a1>(16:Int)))=true then
some ([],((0:Int),(2:Int)))
else
if (decide ((Int.ofNat (List.length a0))>(50000:Int)))=true then
some ([],((0:Int),(4:Int)))
else
qQb a0 a1 (0:Int) (0:Int) []):=(FnI.call_eq (by kernel_rfl)).trans (by kernel_rfl)
theorem qKf (v0:List Int) (v1:Int) (v8:Int) (v9:Int) (h8:List qaa):qQb v0 v1 v8 v9 h8=(
if (decide (v9<v1))=true then
if (decide (v8≥(Int.ofNat (List.length v0))))=true then
some ([],((0:Int),(18:Int)))
else
gd (0≤v8)<|
gd (v8<(Int.ofNat (List.length v0)))<|
if (decide ((IntKind.wrap .i64 ((IntKind.wrap .i64 ((Int.ofNat (List.length v0)) - v8)) - (1:Int)))<(IntKind.wrap .i64 ((IntKind.wrap .i64 (List.getD v0 (Int.toNat v8) (0:Int)))+(22:Int)))))=true then
some ([],((0:Int),(18:Int)))
else
gd (0≤v8)<|
gd (v8<(Int.ofNat (List.length v0)))<|
gd (0≤(IntKind.wrap .i64 (v8+(1:Int))))<|
gd ((IntKind.wrap .i64 (v8+(1:Int)))≤(IntKind.wrap .i64 ((IntKind.wrap .i64 (v8+(1:Int)))+(IntKind.wrap .i64 (List.getD v0 (Int.toNat v8) (0:Int))))))<|
gd ((IntKind.wrap .i64 ((IntKind.wrap .i64 (v8+(1:Int)))+(IntKind.wrap .i64 (List.getD v0 (Int.toNat v8) (0:Int)))))≤(Int.ofNat (List.length v0)))<|
gd (0≤(IntKind.wrap .i64 ((IntKind.wrap .i64 (v8+(1:Int)))+(IntKind.wrap .i64 (List.getD v0 (Int.toNat v8) (0:Int))))))<|
gd ((IntKind.wrap .i64 ((IntKind.wrap .i64 (v8+(1:Int)))+(IntKind.wrap .i64 (List.getD v0 (Int.toNat v8) (0:Int)))))<(Int.ofNat (List.length v0)))<|
gd (0≤(8:Int))<|
gd (0≤(IntKind.wrap .i64 ((IntKind.wrap .i64 (v8+(2:Int)))+(IntKind.wrap .i64 (List.getD v0 (Int.toNat v8) (0:Int))))))<|
gd ((IntKind.wrap .i64 ((IntKind.wrap .i64 (v8+(2:Int)))+(IntKind.wrap .i64 (List.getD v0 (Int.toNat v8) (0:Int)))))<(Int.ofNat (List.length v0)))<|
qNc v0 v1 v8 v9 (IntKind.wrap .i64 (List.getD v0 (Int.toNat v8) (0:Int))) (0:Int) h8 ((qPb (List.take ((Int.toNat (IntKind.wrap .i64 ((IntKind.wrap .i64 (v8+(1:Int)))+(IntKind.wrap .i64 (List.getD v0 (Int.toNat v8) (0:Int)))))) - (Int.toNat (IntKind.wrap .i64 (v8+(1:Int))))) (List.drop (Int.toNat (IntKind.wrap .i64 (v8+(1:Int)))) v0))),((IntKind.wrap .i64 ((IntKind.wrap .i64 ((IntKind.wrap .i64 (List.getD v0 (Int.toNat (IntKind.wrap .i64 ((IntKind.wrap .i64 (v8+(1:Int)))+(IntKind.wrap .i64 (List.getD v0 (Int.toNat v8) (0:Int)))))) (0:Int)))*(256:Int)))+(IntKind.wrap .i64 (List.getD v0 (Int.toNat (IntKind.wrap .i64 ((IntKind.wrap .i64 (v8+(2:Int)))+(IntKind.wrap .i64 (List.getD v0 (Int.toNat v8) (0:Int)))))) (0:Int))))),((List.replicate 20 (0:Int)),())))
else
(qIf h8).bind fun r1=>
if (r1 != (0:Int))=true then
some ([],((0:Int),(12:Int)))
else
some (h8,(v8,(0:Int)))):=(FnI.sem_eq _).trans (by kernel_rfl)
theorem qJf (v0:List Int) (v1:Int) (v8:Int) (v9:Int) (v10:Int) (v12:Int) (h8:List qaa) (b9:qaa):qNc v0 v1 v8 v9 v10 v12 h8 b9=(
if (decide (v12<(20:Int)))=true then
gd (0≤(IntKind.wrap .i64 ((IntKind.wrap .i64 ((IntKind.wrap .i64 (v8+(3:Int)))+v10))+v12)))<|
gd ((IntKind.wrap .i64 ((IntKind.wrap .i64 ((IntKind.wrap .i64 (v8+(3:Int)))+v10))+v12))<(Int.ofNat (List.length v0)))<|
gd (0≤v12)<|
gd (v12<(20:Int))<|
qNc v0 v1 v8 v9 v10 (IntKind.wrap .i64 (v12+(1:Int))) h8 (b9.1,(b9.2.1,((List.set b9.2.2.1 (Int.toNat v12) (List.getD v0 (Int.toNat (IntKind.wrap .i64 ((IntKind.wrap .i64 ((IntKind.wrap .i64 (v8+(3:Int)))+v10))+v12))) (0:Int))),b9.2.2.2)))
else
gd ((List.length (h8++[b9]))*48≤140737488355328)<|
qQb v0 v1 (IntKind.wrap .i64 (v8+(IntKind.wrap .i64 (v10+(23:Int))))) (IntKind.wrap .i64 (v9+(1:Int))) (h8++[b9])):=(FnI.sem_eq _).trans (by kernel_rfl)
noncomputable def qCm (acc:List AV→Bool):Summ Tryz.prog GT:=bitloftref28_Read_I.summ mixed acc false false
noncomputable def bitloftref31_Head_I:FnI Tryz.prog GT:={f:=92,cuts:=[],tab:=[qtl (fun _=>true),qCm (fun _=>true),qWc (fun _=>true)],fm:=⟨true,[.val qxa [], .val (.slice qba) [.nw], .val (.int .i64) [], .val (.int .i64) []]⟩}
noncomputable def qeg (a0:List Int):Option (qoa×List qaa×Int×Int):=bitloftref31_Head_I.call [(.sl (.int .u8) false a0)] []
theorem qol (a0:List Int):qeg a0=(
if (decide ((Int.ofNat (List.length a0))>(50000:Int)))=true then
some (((0:Int),((0:Int),())),([],((0:Int),(4:Int))))
else
if (decide ((Int.ofNat (List.length a0))<(8:Int)))=true then
some (((0:Int),((0:Int),())),([],((0:Int),(18:Int))))
else
gd (0≤(4:Int))<|
gd ((4:Int)<(Int.ofNat (List.length a0)))<|
gd (0≤(5:Int))<|
gd ((5:Int)<(Int.ofNat (List.length a0)))<|
gd (0≤(8:Int))<|
gd (0≤(6:Int))<|
gd ((6:Int)<(Int.ofNat (List.length a0)))<|
gd (0≤(4:Int))<|
gd ((4:Int)≤(Int.ofNat (List.length a0)))<|
if (not ((ByteArray.toList (qPb (List.take 4 a0)))==(ByteArray.toList (ByteArray.mk #[66,76,70,1]))))=true then
some (((0:Int),((0:Int),())),([],((0:Int),(12:Int))))
else
(qGf ((IntKind.wrap .i64 (List.getD a0 4 (0:Int))),((IntKind.wrap .i64 ((IntKind.wrap .i64 ((IntKind.wrap .i64 (List.getD a0 5 (0:Int)))*(256:Int)))+(IntKind.wrap .i64 (List.getD a0 6 (0:Int))))),()))).bind fun r1=>
if (r1 != (0:Int))=true then
some (((0:Int),((0:Int),())),([],((0:Int),(12:Int))))
else
gd (0≤(7:Int))<|
gd ((7:Int)<(Int.ofNat (List.length a0)))<|
if (decide ((List.getD a0 7 (0:Int))>(16:Int)))=true then
some (((0:Int),((0:Int),())),([],((0:Int),(12:Int))))
else
gd (0≤(8:Int))<|
gd ((8:Int)≤(Int.ofNat (List.length a0)))<|
gd (0≤(7:Int))<|
gd ((7:Int)<(Int.ofNat (List.length a0)))<|
(qfg (List.drop 8 a0) (IntKind.wrap .i64 (List.getD a0 7 (0:Int)))).bind fun r2=>
if (r2.2.2 != (0:Int))=true then
some (((0:Int),((0:Int),())),([],((0:Int),r2.2.2)))
else
if (decide ((IntKind.wrap .i64 ((IntKind.wrap .i64 ((Int.ofNat (List.length a0)) - (8:Int))) - r2.2.1))<(20:Int)))=true then
some (((0:Int),((0:Int),())),([],((0:Int),(18:Int))))
else
gd (0≤(IntKind.wrap .i64 ((8:Int)+r2.2.1)))<|
gd ((IntKind.wrap .i64 ((8:Int)+r2.2.1))≤(Int.ofNat (List.length a0)))<|
(qIb (List.take (Int.toNat (IntKind.wrap .i64 ((8:Int)+r2.2.1))) a0)).bind fun r3=>
gd (0≤(IntKind.wrap .i64 ((8:Int)+r2.2.1)))<|
gd ((IntKind.wrap .i64 ((8:Int)+r2.2.1))≤(IntKind.wrap .i64 ((28:Int)+r2.2.1)))<|
gd ((IntKind.wrap .i64 ((28:Int)+r2.2.1))≤(Int.ofNat (List.length a0)))<|
if (not ((ByteArray.toList (qPb (List.take 20 (List.drop 0 r3))))==(ByteArray.toList (qPb (List.take ((Int.toNat (IntKind.wrap .i64 ((28:Int)+r2.2.1))) - (Int.toNat (IntKind.wrap .i64 ((8:Int)+r2.2.1)))) (List.drop (Int.toNat (IntKind.wrap .i64 ((8:Int)+r2.2.1))) a0))))))=true then
some (((0:Int),((0:Int),())),([],((0:Int),(22:Int))))
else
some (((IntKind.wrap .i64 (List.getD a0 4 (0:Int))),((IntKind.wrap .i64 ((IntKind.wrap .i64 ((IntKind.wrap .i64 (List.getD a0 5 (0:Int)))*(256:Int)))+(IntKind.wrap .i64 (List.getD a0 6 (0:Int))))),())),(r2.1,((IntKind.wrap .i64 ((28:Int)+r2.2.1)),(0:Int))))):=(FnI.call_eq (by kernel_rfl)).trans (by kernel_rfl)
noncomputable def qAm (acc:List AV→Bool):Summ Tryz.prog GT:=bitloftref31_Head_I.summ mixed acc false false
noncomputable def bitloftref29_Sizes_I:FnI Tryz.prog GT:={f:=195,cuts:=[⟨(2,3),[0,3],false,false,[],[],[]⟩,⟨(10,3),[0,4,5],false,false,[],[],[]⟩],tab:=[],fm:=⟨true,[.val (.int .i64) []]⟩}
noncomputable def qtd (a0:List Int):Option (Int):=bitloftref29_Sizes_I.call [(.sl (.int .i64) false a0)] []
noncomputable def qxc (v0:List Int) (v3:Int):Option (Int):=bitloftref29_Sizes_I.sem ⟨[.code (cIn (cIn (qga (qHa (qga (qma Tryz.prog 195)))))), .inLoop (cIn (cIn (qga (qHa (qga (qma Tryz.prog 195)))))), .inBlock 0, .code (qga (qga (qma Tryz.prog 195)))],⟨[(0,(.one (.sl (.int .i64) false v0))),(3,(.one (.int .i64 v3)))],[],8⟩⟩
noncomputable def qEb (v0:List Int) (v4:Int) (v5:Int):Option (Int):=bitloftref29_Sizes_I.sem ⟨[.code (cIn (cIn (qga (qHa (qga (qga (qga (qga (qma Tryz.prog 195))))))))), .inLoop (cIn (cIn (qga (qHa (qga (qga (qga (qga (qma Tryz.prog 195))))))))), .inBlock 2, .code (qga (qga (qga (qga (qga (qma Tryz.prog 195))))))],⟨[(0,(.one (.sl (.int .i64) false v0))),(4,(.one (.int .i64 v4))),(5,(.one (.int .i64 v5)))],[],8⟩⟩
theorem qCk (a0:List Int):qtd a0=(
qxc a0 (0:Int)):=(FnI.call_eq (by kernel_rfl)).trans (by kernel_rfl)
theorem qWe (v0:List Int) (v3:Int):qxc v0 v3=(
if (decide (v3<(Int.ofNat (List.length v0))))=true then
gd (0≤v3)<|
gd (v3<(Int.ofNat (List.length v0)))<|
if (decide ((List.getD v0 (Int.toNat v3) (0:Int))<(0:Int)))=true then
some (8:Int)
else
qxc v0 (IntKind.wrap .i64 (v3+(1:Int)))
else
if (decide ((Int.ofNat (List.length v0))>(16:Int)))=true then
some (4:Int)
else
qEb v0 (8192:Int) (0:Int)):=(FnI.sem_eq _).trans (by kernel_rfl)
theorem qVe (v0:List Int) (v4:Int) (v5:Int):qEb v0 v4 v5=(
if (decide (v5<(Int.ofNat (List.length v0))))=true then
gd (0≤v5)<|
gd (v5<(Int.ofNat (List.length v0)))<|
if (decide ((List.getD v0 (Int.toNat v5) (0:Int))>v4))=true then
some (4:Int)
else
gd (0≤v5)<|
gd (v5<(Int.ofNat (List.length v0)))<|
qEb v0 (IntKind.wrap .i64 (v4 - (List.getD v0 (Int.toNat v5) (0:Int)))) (IntKind.wrap .i64 (v5+(1:Int)))
else
some (0:Int)):=(FnI.sem_eq _).trans (by kernel_rfl)
noncomputable def qvl (acc:List AV→Bool):Summ Tryz.prog GT:=bitloftref29_Sizes_I.summ mixed acc false false
noncomputable def bitloftref29_pieces_I:FnI Tryz.prog GT:={f:=196,cuts:=[⟨(3,3),[0,1,5,6],false,false,[],[],[]⟩,⟨(6,7),[0,1,5,6,7],false,false,[],[],[]⟩],tab:=[],fm:=⟨true,[.val (.slice qca) [.nw]]⟩}
noncomputable def qMe (a0:List Int) (a1:Int):Option (List qia):=bitloftref29_pieces_I.call [(.sl (.int .i64) false a0),(.int .i64 a1)] []
noncomputable def qub (v0:List Int) (v1:Int) (v6:Int) (h8:List qia):Option (List qia):=bitloftref29_pieces_I.sem ⟨[.code (cIn (cIn (qga (qHa (qga (qga (qma Tryz.prog 196))))))), .inLoop (cIn (cIn (qga (qHa (qga (qga (qma Tryz.prog 196))))))), .inBlock 0, .code (qga (qga (qga (qma Tryz.prog 196))))],⟨[(0,(.one (.sl (.int .i64) false v0))),(1,(.one (.int .i64 v1))),(5,(.one (.ref qca 8 0 (List.length h8) true))),(6,(.one (.int .i64 v6)))],[(8,some (.row qca true h8))],9⟩⟩
noncomputable def qhc (v0:List Int) (v1:Int) (v6:Int) (v7:Int) (h8:List qia):Option (List qia):=bitloftref29_pieces_I.sem ⟨[.code (cIn (cIn (qga (cIn (qHa (qga (cIn (cIn (qga (qHa (qga (qga (qma Tryz.prog 196))))))))))))), .inLoop (cIn (cIn (qga (cIn (qHa (qga (cIn (cIn (qga (qHa (qga (qga (qma Tryz.prog 196))))))))))))), .inBlock 2, .inBlock 1, .code (qga (qga (cIn (cIn (qga (qHa (qga (qga (qma Tryz.prog 196))))))))), .inLoop (cIn (cIn (qga (qHa (qga (qga (qma Tryz.prog 196))))))), .inBlock 0, .code (qga (qga (qga (qma Tryz.prog 196))))],⟨[(0,(.one (.sl (.int .i64) false v0))),(1,(.one (.int .i64 v1))),(5,(.one (.ref qca 8 0 (List.length h8) true))),(6,(.one (.int .i64 v6))),(7,(.one (.int .i64 v7)))],[(8,some (.row qca true h8))],9⟩⟩
theorem qDj (a0:List Int) (a1:Int):qMe a0 a1=(
qub a0 a1 (0:Int) []):=(FnI.call_eq (by kernel_rfl)).trans (by kernel_rfl)
theorem qwe (v0:List Int) (v1:Int) (v6:Int) (h8:List qia):qub v0 v1 v6 h8=(
if (decide (v6<(Int.ofNat (List.length v0))))=true then
qhc v0 v1 v6 (0:Int) h8
else
some (h8)):=(FnI.sem_eq _).trans (by kernel_rfl)
theorem qve (v0:List Int) (v1:Int) (v6:Int) (v7:Int) (h8:List qia):qhc v0 v1 v6 v7 h8=(
gd (0≤v6)<|
gd (v6<(Int.ofNat (List.length v0)))<|
if (decide (v7<(List.getD v0 (Int.toNat v6) (0:Int))))=true then
gd (0≤v6)<|
gd (v6<(Int.ofNat (List.length v0)))<|
gd ((List.length (h8++[(v6,(v7,((if (IntKind.wrap .i64 ((List.getD v0 (Int.toNat v6) (0:Int)) - v7))<v1 then (IntKind.wrap .i64 ((List.getD v0 (Int.toNat v6) (0:Int)) - v7)) else v1),())))]))*24≤140737488355328)<|
qhc v0 v1 v6 (IntKind.wrap .i64 (v7+v1)) (h8++[(v6,(v7,((if (IntKind.wrap .i64 ((List.getD v0 (Int.toNat v6) (0:Int)) - v7))<v1 then (IntKind.wrap .i64 ((List.getD v0 (Int.toNat v6) (0:Int)) - v7)) else v1),())))])
else
qub v0 v1 (IntKind.wrap .i64 (v6+(1:Int))) h8):=(FnI.sem_eq _).trans (by kernel_rfl)
noncomputable def qBk (acc:List AV→Bool):Summ Tryz.prog GT:=bitloftref29_pieces_I.summ mixed acc false false
noncomputable def bitloftref29_Pieces_I:FnI Tryz.prog GT:={f:=132,cuts:=[],tab:=[qvl (fun _=>true),qTg (fun _=>true),qBk (fun _=>true)],fm:=⟨true,[.val (.slice qca) [.nw], .val (.int .i64) []]⟩}
noncomputable def qNe (a0:List Int) (a1:Int):Option (List qia×Int):=bitloftref29_Pieces_I.call [(.sl (.int .i64) false a0),(.int .i64 a1)] []
theorem qEj (a0:List Int) (a1:Int):qNe a0 a1=(
(qtd a0).bind fun r1=>
if (r1 != (0:Int))=true then
(qtd a0).bind fun r2=>
some ([],r2)
else
(qHf a1).bind fun r3=>
if (not r3)=true then
some ([],(2:Int))
else
(qMe a0 a1).bind fun r4=>
some (r4,(0:Int))):=(FnI.call_eq (by kernel_rfl)).trans (by kernel_rfl)
noncomputable def qDk (acc:List AV→Bool):Summ Tryz.prog GT:=bitloftref29_Pieces_I.summ mixed acc false false
noncomputable def bitloftref31_Pieces_I:FnI Tryz.prog GT:={f:=93,cuts:=[⟨(3,3),[1,2,5,6],false,false,[],[],[]⟩],tab:=[qDk (fun _=>true)],fm:=⟨true,[.val (.slice qca) [.nw]]⟩}
noncomputable def qKe (a0:qoa) (a1:List qaa):Option (List qia):=bitloftref31_Pieces_I.call [(.agg qxa (inj false qxa a0)),(.sl qba false a1)] []
noncomputable def qfc (v1:List qaa) (v6:Int) (b8:qoa) (h9:List Int):Option (List qia):=bitloftref31_Pieces_I.sem ⟨[.code (cIn (cIn (qga (qHa (qga (qga (qma Tryz.prog 93))))))), .inLoop (cIn (cIn (qga (qHa (qga (qga (qma Tryz.prog 93))))))), .inBlock 0, .code (qga (qga (qga (qma Tryz.prog 93))))],⟨[(1,(.one (.sl qba false v1))),(2,(.one (.ptr qxa 8 []))),(5,(.one (.ref (.int .i64) 9 0 (List.length h9) true))),(6,(.one (.int .i64 v6)))],[(8,some (.box qxa (inj false qxa b8))),(9,some (.row (.int .i64) true h9))],10⟩⟩
theorem qBj (a0:qoa) (a1:List qaa):qKe a0 a1=(
qfc a1 (0:Int) a0 []):=(FnI.call_eq (by kernel_rfl)).trans (by kernel_rfl)
theorem qte (v1:List qaa) (v6:Int) (b8:qoa) (h9:List Int):qfc v1 v6 b8 h9=(
if (decide (v6<(Int.ofNat (List.length v1))))=true then
gd (0≤v6)<|
gd (v6<(Int.ofNat (List.length v1)))<|
gd ((List.length (h9++[(List.getD v1 (Int.toNat v6) (qja qba)).2.1]))*8≤140737488355328)<|
qfc v1 (IntKind.wrap .i64 (v6+(1:Int))) b8 (h9++[(List.getD v1 (Int.toNat v6) (qja qba)).2.1])
else
(qNe h9 b8.2.1).bind fun r1=>
some (r1.1)):=(FnI.sem_eq _).trans (by kernel_rfl)
noncomputable def quk (acc:List AV→Bool):Summ Tryz.prog GT:=bitloftref31_Pieces_I.summ mixed acc false false
noncomputable def bitloftref26_Check_I:FnI Tryz.prog GT:={f:=96,cuts:=[],tab:=[],fm:=⟨true,[.val (.int .i64) []]⟩}
noncomputable def qxd (a0:qha):Option (Int):=bitloftref26_Check_I.call [(.agg qka (inj false qka a0))] []
theorem qPk (a0:qha):qxd a0=(
if (decide (a0.2.1<(0:Int)))=true then
some (8:Int)
else
if (decide (a0.2.1≥(16:Int)))=true then
some (8:Int)
else
if (decide (a0.2.2.2.1<(1:Int)))=true then
some (8:Int)
else
if (decide (a0.2.2.2.1>(4096:Int)))=true then
some (8:Int)
else
if (decide (a0.2.2.1<(0:Int)))=true then
some (8:Int)
else
if (decide (a0.2.2.1>(IntKind.wrap .i64 ((8192:Int) - a0.2.2.2.1))))=true then
some (8:Int)
else
if (a0.1==(1:Int))=true then
if (a0.1==(2:Int))=true then
if (decide (a0.2.2.2.2.1≥(1:Int)))=true then
if (not (a0.2.2.2.2.1==a0.2.2.2.1))=true then
if (not (decide (a0.2.2.2.2.1<a0.2.2.2.1)))=true then
some (8:Int)
else
some (0:Int)
else
some (0:Int)
else
if (not (a0.2.2.2.2.1==a0.2.2.2.1))=true then
some (8:Int)
else
some (0:Int)
else
if (not (a0.2.2.2.2.1==a0.2.2.2.1))=true then
some (8:Int)
else
some (0:Int)
else
if (a0.1==(2:Int))=true then
if (decide (a0.2.2.2.2.1≥(1:Int)))=true then
if (not (decide (a0.2.2.2.2.1<a0.2.2.2.1)))=true then
some (8:Int)
else
some (0:Int)
else
some (8:Int)
else
some (8:Int)):=(FnI.call_eq (by kernel_rfl)).trans (by kernel_rfl)
noncomputable def qVg (acc:List AV→Bool):Summ Tryz.prog GT:=bitloftref26_Check_I.summ mixed acc false false
noncomputable def bitloftref26_Parse_I:FnI Tryz.prog GT:={f:=197,cuts:=[⟨(5,3),[0,2,4,5],false,false,[],[],[]⟩],tab:=[qVg (fun _=>true)],fm:=⟨true,[.val qka [], .val (.int .i64) []]⟩}
noncomputable def qPf (a0:List Int):Option (qha×Int):=bitloftref26_Parse_I.call [(.sl (.int .u8) false a0)] []
noncomputable def qDc (v0:List Int) (v5:Int) (b8:qha) (b9:qha):Option (qha×Int):=bitloftref26_Parse_I.sem ⟨[.code (cIn (cIn (qga (qHa (qga (qga (qga (qma Tryz.prog 197)))))))), .inLoop (cIn (cIn (qga (qHa (qga (qga (qga (qma Tryz.prog 197)))))))), .inBlock 0, .code (qga (qga (qga (qga (qma Tryz.prog 197)))))],⟨[(0,(.one (.sl (.int .u8) false v0))),(2,(.one (.ptr qka 8 []))),(4,(.one (.ptr qka 9 []))),(5,(.one (.int .i64 v5)))],[(8,some (.box qka (inj false qka b8))),(9,some (.box qka (inj false qka b9)))],10⟩⟩
theorem qNk (a0:List Int):qPf a0=(
if ((Int.ofNat (List.length a0)) != (28:Int))=true then
some (((0:Int),((0:Int),((0:Int),((0:Int),((0:Int),((List.replicate 20 (0:Int)),())))))),(12:Int))
else
gd (0≤(0:Int))<|
gd ((0:Int)<(Int.ofNat (List.length a0)))<|
gd (0≤(1:Int))<|
gd ((1:Int)<(Int.ofNat (List.length a0)))<|
gd (0≤(2:Int))<|
gd ((2:Int)<(Int.ofNat (List.length a0)))<|
gd (0≤(8:Int))<|
gd (0≤(3:Int))<|
gd ((3:Int)<(Int.ofNat (List.length a0)))<|
gd (0≤(4:Int))<|
gd ((4:Int)<(Int.ofNat (List.length a0)))<|
gd (0≤(8:Int))<|
gd (0≤(5:Int))<|
gd ((5:Int)<(Int.ofNat (List.length a0)))<|
gd (0≤(6:Int))<|
gd ((6:Int)<(Int.ofNat (List.length a0)))<|
gd (0≤(8:Int))<|
gd (0≤(7:Int))<|
gd ((7:Int)<(Int.ofNat (List.length a0)))<|
qDc a0 (0:Int) ((0:Int),((0:Int),((0:Int),((0:Int),((0:Int),((List.replicate 20 (0:Int)),())))))) ((List.getD a0 0 (0:Int)),((IntKind.wrap .i64 (List.getD a0 1 (0:Int))),((IntKind.wrap .i64 ((IntKind.wrap .i64 ((IntKind.wrap .i64 (List.getD a0 2 (0:Int)))*(256:Int)))+(IntKind.wrap .i64 (List.getD a0 3 (0:Int))))),((IntKind.wrap .i64 ((IntKind.wrap .i64 ((IntKind.wrap .i64 (List.getD a0 4 (0:Int)))*(256:Int)))+(IntKind.wrap .i64 (List.getD a0 5 (0:Int))))),((IntKind.wrap .i64 ((IntKind.wrap .i64 ((IntKind.wrap .i64 (List.getD a0 6 (0:Int)))*(256:Int)))+(IntKind.wrap .i64 (List.getD a0 7 (0:Int))))),((List.replicate 20 (0:Int)),()))))))):=(FnI.call_eq (by kernel_rfl)).trans (by kernel_rfl)
theorem qgf (v0:List Int) (v5:Int) (b8:qha) (b9:qha):qDc v0 v5 b8 b9=(
if (decide (v5<(20:Int)))=true then
gd (0≤(IntKind.wrap .i64 ((8:Int)+v5)))<|
gd ((IntKind.wrap .i64 ((8:Int)+v5))<(Int.ofNat (List.length v0)))<|
gd (0≤v5)<|
gd (v5<(20:Int))<|
qDc v0 (IntKind.wrap .i64 (v5+(1:Int))) b8 (b9.1,(b9.2.1,(b9.2.2.1,(b9.2.2.2.1,(b9.2.2.2.2.1,((List.set b9.2.2.2.2.2.1 (Int.toNat v5) (List.getD v0 (Int.toNat (IntKind.wrap .i64 ((8:Int)+v5))) (0:Int))),b9.2.2.2.2.2.2))))))
else
(qxd b9).bind fun r1=>
if (r1 != (0:Int))=true then
some (((0:Int),((0:Int),((0:Int),((0:Int),((0:Int),((List.replicate 20 (0:Int)),())))))),(12:Int))
else
some (b9,(0:Int))):=(FnI.sem_eq _).trans (by kernel_rfl)
noncomputable def qGl (acc:List AV→Bool):Summ Tryz.prog GT:=bitloftref26_Parse_I.summ mixed acc false false
noncomputable def bitloftref25_Stands_I:FnI Tryz.prog GT:={f:=198,cuts:=[⟨(5,3),[0,1,5,6],false,false,[],[],[]⟩],tab:=[qWg (fun _=>true)],fm:=⟨true,[.val .bool []]⟩}
noncomputable def qPe (a0:List Int) (a1:Int):Option (Bool):=bitloftref25_Stands_I.call [(.sl (.int .u8) false a0),(.int .i64 a1)] []
noncomputable def qic (v0:List Int) (v1:Int) (v6:Int) (h8:List Int):Option (Bool):=bitloftref25_Stands_I.sem ⟨[.code (cIn (cIn (qga (qHa (qga (qga (qga (qma Tryz.prog 198)))))))), .inLoop (cIn (cIn (qga (qHa (qga (qga (qga (qma Tryz.prog 198)))))))), .inBlock 0, .code (qga (qga (qga (qga (qma Tryz.prog 198)))))],⟨[(0,(.one (.sl (.int .u8) false v0))),(1,(.one (.int .i64 v1))),(5,(.one (.ref (.int .u8) 8 0 (List.length h8) true))),(6,(.one (.int .i64 v6)))],[(8,some (.row (.int .u8) true h8))],9⟩⟩
theorem qHj (a0:List Int) (a1:Int):qPe a0 a1=(
(qyd).bind fun r1=>
if (decide (a1<(0:Int)))=true then
some (false)
else
if (decide (a1>(Int.ofNat (List.length a0))))=true then
some (false)
else
if (decide ((IntKind.wrap .i64 ((Int.ofNat (List.length a0)) - a1))<(13:Int)))=true then
some (false)
else
qic a0 a1 (0:Int) r1):=(FnI.call_eq (by kernel_rfl)).trans (by kernel_rfl)
theorem qxe (v0:List Int) (v1:Int) (v6:Int) (h8:List Int):qic v0 v1 v6 h8=(
if (decide (v6<(13:Int)))=true then
gd (0≤(IntKind.wrap .i64 (v1+v6)))<|
gd ((IntKind.wrap .i64 (v1+v6))<(Int.ofNat (List.length v0)))<|
gd (0≤v6)<|
gd (v6<(Int.ofNat (List.length h8)))<|
if ((List.getD v0 (Int.toNat (IntKind.wrap .i64 (v1+v6))) (0:Int)) != (List.getD h8 (0+(Int.toNat v6)) (0:Int)))=true then
some (false)
else
qic v0 v1 (IntKind.wrap .i64 (v6+(1:Int))) h8
else
some (true)):=(FnI.sem_eq _).trans (by kernel_rfl)
noncomputable def qRk (acc:List AV→Bool):Summ Tryz.prog GT:=bitloftref25_Stands_I.summ mixed acc false false
noncomputable def bitloftref27_Begins_I:FnI Tryz.prog GT:={f:=133,cuts:=[],tab:=[qGl (fun _=>true),qRk (fun _=>true)],fm:=⟨true,[.val qfa [], .val (.int .i64) [], .val (.int .i64) []]⟩}
noncomputable def qGh (a0:List Int):Option (qda×Int×Int):=bitloftref27_Begins_I.call [(.sl (.int .u8) false a0)] []
theorem qGj (a0:List Int):qGh a0=(
if (decide ((Int.ofNat (List.length a0))<(41:Int)))=true then
some ((((0:Int),((0:Int),((0:Int),((0:Int),((0:Int),((List.replicate 20 (0:Int)),())))))),([],())),((0:Int),(18:Int)))
else
gd (0≤(13:Int))<|
gd ((13:Int)≤(41:Int))<|
gd ((41:Int)≤(Int.ofNat (List.length a0)))<|
(qPf (List.take 28 (List.drop 13 a0))).bind fun r1=>
(qPe a0 (0:Int)).bind fun r2=>
if (not r2)=true then
some ((((0:Int),((0:Int),((0:Int),((0:Int),((0:Int),((List.replicate 20 (0:Int)),())))))),([],())),((0:Int),(12:Int)))
else
if (r1.2 != (0:Int))=true then
some ((((0:Int),((0:Int),((0:Int),((0:Int),((0:Int),((List.replicate 20 (0:Int)),())))))),([],())),((0:Int),(12:Int)))
else
if (decide ((IntKind.wrap .i64 ((Int.ofNat (List.length a0)) - (41:Int)))<r1.1.2.2.2.2.1))=true then
some ((((0:Int),((0:Int),((0:Int),((0:Int),((0:Int),((List.replicate 20 (0:Int)),())))))),([],())),((0:Int),(18:Int)))
else
gd (0≤(41:Int))<|
gd ((41:Int)≤(IntKind.wrap .i64 ((41:Int)+r1.1.2.2.2.2.1)))<|
gd ((IntKind.wrap .i64 ((41:Int)+r1.1.2.2.2.2.1))≤(Int.ofNat (List.length a0)))<|
gd ((List.length ([]++(List.take ((Int.toNat (IntKind.wrap .i64 ((41:Int)+r1.1.2.2.2.2.1))) - 41) (List.drop 41 a0))))*1≤140737488355328)<|
some ((r1.1,(([]++(List.take ((Int.toNat (IntKind.wrap .i64 ((41:Int)+r1.1.2.2.2.2.1))) - 41) (List.drop 41 a0))),())),((IntKind.wrap .i64 ((41:Int)+r1.1.2.2.2.2.1)),(0:Int)))):=(FnI.call_eq (by kernel_rfl)).trans (by kernel_rfl)
noncomputable def qMk (acc:List AV→Bool):Summ Tryz.prog GT:=bitloftref27_Begins_I.summ mixed acc false false
noncomputable def bitloftref27_Read_I:FnI Tryz.prog GT:={f:=94,cuts:=[],tab:=[qMk (fun _=>true)],fm:=⟨true,[.val qfa [], .val (.int .i64) [], .val (.int .i64) []]⟩}
noncomputable def qgg (a0:List Int):Option (qda×Int×Int):=bitloftref27_Read_I.call [(.sl (.int .u8) false a0)] []
theorem qBl (a0:List Int):qgg a0=(
if (decide ((Int.ofNat (List.length a0))>(50000:Int)))=true then
some ((((0:Int),((0:Int),((0:Int),((0:Int),((0:Int),((List.replicate 20 (0:Int)),())))))),([],())),((0:Int),(4:Int)))
else
(qGh a0).bind fun r1=>
some (r1)):=(FnI.call_eq (by kernel_rfl)).trans (by kernel_rfl)
noncomputable def qDm (acc:List AV→Bool):Summ Tryz.prog GT:=bitloftref27_Read_I.summ mixed acc false false
noncomputable def bitloftref31_Is_I:FnI Tryz.prog GT:={f:=95,cuts:=[],tab:=[],fm:=⟨true,[.val .bool []]⟩}
noncomputable def qDh (a0:qha) (a1:qia):Option (Bool):=bitloftref31_Is_I.call [(.agg qka (inj false qka a0)),(.agg qca (inj false qca a1))] []
theorem qGn (a0:qha) (a1:qia):qDh a0 a1=(
if (a0.2.1==a1.1)=true then
if (a0.2.2.1==a1.2.1)=true then
some (a0.2.2.2.1==a1.2.2.1)
else
some (false)
else
some (false)):=(FnI.call_eq (by kernel_rfl)).trans (by kernel_rfl)
noncomputable def qAo (acc:List AV→Bool):Summ Tryz.prog GT:=bitloftref31_Is_I.summ mixed acc false false
noncomputable def bitloftref31_Blocks_I:FnI Tryz.prog GT:={f:=61,cuts:=[⟨(8,3),[0,2,7,9,10,11,12],false,false,[],[],[]⟩],tab:=[qAm (fun _=>true),quk (fun _=>true),qDm (fun _=>true),qAo (fun _=>true)],fm:=⟨true,[.val qwa [], .val (.slice qfa) [.nw], .val (.int .i64) []]⟩}
noncomputable def qLe (a0:List Int):Option (qua×List qda×Int):=bitloftref31_Blocks_I.call [(.sl (.int .u8) false a0)] []
noncomputable def qgc (v0:List Int) (v7:Int) (v12:Int) (b8a:qoa) (b8bbb:Unit) (b9a:qoa) (b9bbb:Unit) (h10:List qda) (h11:List qia) (h12:List qaa) (h13:List qha) (h14:List qaa) (h15:List qha):Option (qua×List qda×Int):=bitloftref31_Blocks_I.sem ⟨[.code (cIn (cIn (qga (qHa (qga (qga (qga (qga (qga (qga (qma Tryz.prog 61))))))))))), .inLoop (cIn (cIn (qga (qHa (qga (qga (qga (qga (qga (qga (qma Tryz.prog 61))))))))))), .inBlock 0, .code (qga (qga (qga (qga (qga (qga (qga (qma Tryz.prog 61))))))))],⟨[(0,(.one (.sl (.int .u8) false v0))),(2,(.one (.ptr qwa 8 []))),(7,(.one (.int .i64 v7))),(9,(.one (.ptr qwa 9 []))),(10,(.one (.ref qfa 10 0 (List.length h10) true))),(11,(.one (.ref qca 11 0 (List.length h11) true))),(12,(.one (.int .i64 v12)))],[(8,some (.box qwa ((inj false qxa b8a),((SV.ref 12 0 (List.length h12) true),((SV.ref 13 0 (List.length h13) true),b8bbb))))),(9,some (.box qwa ((inj false qxa b9a),((SV.ref 14 0 (List.length h14) true),((SV.ref 15 0 (List.length h15) true),b9bbb))))),(10,some (.row qfa true h10)),(11,some (.row qca true h11)),(12,some (.row qba true h12)),(13,some (.row qka true h13)),(14,some (.row qba true h14)),(15,some (.row qka true h15))],16⟩⟩
theorem qCj (a0:List Int):qLe a0=(
(qeg a0).bind fun r1=>
if (r1.2.2.2 != (0:Int))=true then
some ((((0:Int),((0:Int),())),([],([],()))),([],r1.2.2.2))
else
(qKe r1.1 r1.2.1).bind fun r2=>
qgc a0 r1.2.2.1 (0:Int) ((0:Int),((0:Int),())) () r1.1 () [] r2 [] [] r1.2.1 []):=(FnI.call_eq (by kernel_rfl)).trans (by kernel_rfl)
theorem que (v0:List Int) (v7:Int) (v12:Int) (b8a:qoa) (b8bbb:Unit) (b9a:qoa) (b9bbb:Unit) (h10:List qda) (h11:List qia) (h12:List qaa) (h13:List qha) (h14:List qaa) (h15:List qha):qgc v0 v7 v12 b8a b8bbb b9a b9bbb h10 h11 h12 h13 h14 h15=(
if (decide (v12<(Int.ofNat (List.length h11))))=true then
gd (0≤v7)<|
gd (v7≤(Int.ofNat (List.length v0)))<|
(qgg (List.drop (Int.toNat v7) v0)).bind fun r3=>
if (r3.2.2 != (0:Int))=true then
some ((((0:Int),((0:Int),())),([],([],()))),([],r3.2.2))
else
gd (0≤v12)<|
gd (v12<(Int.ofNat (List.length h11)))<|
(qDh r3.1.1 (List.getD h11 (0+(Int.toNat v12)) (qja qca))).bind fun r4=>
if (not r4)=true then
some ((((0:Int),((0:Int),())),([],([],()))),([],(32:Int)))
else
gd ((List.length (h15++[r3.1.1]))*64≤140737488355328)<|
gd ((List.length (h10++[r3.1]))*88≤140737488355328)<|
qgc v0 (IntKind.wrap .i64 (v7+r3.2.1)) (IntKind.wrap .i64 (v12+(1:Int))) b8a b8bbb b9a b9bbb (h10++[r3.1]) h11 h12 h13 h14 (h15++[r3.1.1])
else
if (v7 != (Int.ofNat (List.length v0)))=true then
some ((((0:Int),((0:Int),())),([],([],()))),([],(12:Int)))
else
some ((b9a,(h14,(h15,b9bbb))),(h10,(0:Int)))):=(FnI.sem_eq _).trans (by kernel_rfl)
noncomputable def qvk (acc:List AV→Bool):Summ Tryz.prog GT:=bitloftref31_Blocks_I.summ mixed acc false false
noncomputable def bitloftref31_Block_I:FnI Tryz.prog GT:={f:=37,cuts:=[],tab:=[qvk (fun _=>true)],fm:=⟨true,[.val qfa [], .val (.int .i64) []]⟩}
noncomputable def qrd (a0:List Int) (a1:Int):Option (qda×Int):=bitloftref31_Block_I.call [(.sl (.int .u8) false a0),(.int .i64 a1)] []
theorem qwk (a0:List Int) (a1:Int):qrd a0 a1=(
(qLe a0).bind fun r1=>
if (r1.2.2 != (0:Int))=true then
some ((((0:Int),((0:Int),((0:Int),((0:Int),((0:Int),((List.replicate 20 (0:Int)),())))))),([],())),r1.2.2)
else
if (decide (a1<(0:Int)))=true then
some ((((0:Int),((0:Int),((0:Int),((0:Int),((0:Int),((List.replicate 20 (0:Int)),())))))),([],())),(2:Int))
else
if (decide (a1≥(Int.ofNat (List.length r1.2.1))))=true then
some ((((0:Int),((0:Int),((0:Int),((0:Int),((0:Int),((List.replicate 20 (0:Int)),())))))),([],())),(2:Int))
else
gd (0≤a1)<|
gd (a1<(Int.ofNat (List.length r1.2.1)))<|
some ((List.getD r1.2.1 (0+(Int.toNat a1)) (qja qfa)),(0:Int))):=(FnI.call_eq (by kernel_rfl)).trans (by kernel_rfl)
noncomputable def qpl (acc:List AV→Bool):Summ Tryz.prog GT:=bitloftref31_Block_I.summ mixed acc false false
noncomputable def bitloftref27_Check_I:FnI Tryz.prog GT:={f:=62,cuts:=[],tab:=[qVg (fun _=>true)],fm:=⟨true,[.val (.int .i64) []]⟩}
noncomputable def qvd (a0:qda):Option (Int):=bitloftref27_Check_I.call [(.agg qfa (inj false qfa a0))] []
theorem qKk (a0:qda):qvd a0=(
(qxd a0.1).bind fun r1=>
if (r1 != (0:Int))=true then
some (8:Int)
else
if ((Int.ofNat (List.length a0.2.1)) != a0.1.2.2.2.2.1)=true then
some (8:Int)
else
some (0:Int)):=(FnI.call_eq (by kernel_rfl)).trans (by kernel_rfl)
noncomputable def qEl (acc:List AV→Bool):Summ Tryz.prog GT:=bitloftref27_Check_I.summ mixed acc false false
noncomputable def bitloftref27_Level_I:FnI Tryz.prog GT:={f:=63,cuts:=[],tab:=[],fm:=⟨true,[.val .bool []]⟩}
noncomputable def qNf (a0:Int):Option (Bool):=bitloftref27_Level_I.call [(.int .i64 a0)] []
theorem qJk (a0:Int):qNf a0=(
if (decide (a0≥(0:Int)))=true then
some (decide (a0≤(7:Int)))
else
some (false)):=(FnI.call_eq (by kernel_rfl)).trans (by kernel_rfl)
noncomputable def qDl (acc:List AV→Bool):Summ Tryz.prog GT:=bitloftref27_Level_I.summ mixed acc false false
noncomputable def bitloftref27_Raw_I:FnI Tryz.prog GT:={f:=38,cuts:=[],tab:=[qEl (fun _=>true),qDl (fun _=>true),qNi (fun _=>true)],fm:=⟨true,[.val (.slice (.int .u8)) [.nw], .val (.int .i64) []]⟩}
noncomputable def qOg (a0:Int) (a1:qda):Option (List Int×Int):=bitloftref27_Raw_I.call [(.int .i64 a0),(.agg qfa (inj false qfa a1))] []
theorem qEm (a0:Int) (a1:qda):qOg a0 a1=(
(qvd a1).bind fun r1=>
if (r1 != (0:Int))=true then
(qvd a1).bind fun r2=>
some ([],r2)
else
(qNf a0).bind fun r3=>
if (not r3)=true then
some ([],(2:Int))
else
gd ((List.length ([]++a1.2.1))*1≤140737488355328)<|
if (a1.1.1==(2:Int))=true then
none
else
(qUd a1.1 ([]++a1.2.1)).bind fun r4=>
if (not (peq (.arr 20 (.int .u8)) r4 a1.1.2.2.2.2.2.1))=true then
some ([],(22:Int))
else
some (([]++a1.2.1),(0:Int))):=(FnI.call_eq (by kernel_rfl)).trans (by kernel_rfl)
noncomputable def qIn (acc:List AV→Bool):Summ Tryz.prog GT:=bitloftref27_Raw_I.summ mixed acc false false
noncomputable def bitloftlaw32_again_I:FnI Tryz.prog GT:={f:=19,cuts:=[],tab:=[qpl (fun _=>true),qIn (fun _=>true)],fm:=⟨true,[.val .bool []]⟩}
noncomputable def qBd (a0:List Int) (a1:List Int) (a2:Int) (a3:qua):Option (Bool):=bitloftlaw32_again_I.call [(.sl (.int .u8) false a0),(.sl (.int .u8) false a1),(.int .i64 a2),(.agg qwa (inj false qwa a3))] []
theorem qVk (a0:List Int) (a1:List Int) (a2:Int) (a3:qua):qBd a0 a1 a2 a3=(
if (decide (a2<(0:Int)))=true then
some (false)
else
(qrd a1 a2).bind fun r1=>
(qrd a0 a2).bind fun r2=>
if (r1.2 != (0:Int))=true then
some (false)
else
if (r2.2 != (0:Int))=true then
some (false)
else
if ((ByteArray.toList (qPb r1.1.2.1))==(ByteArray.toList (qPb r2.1.2.1)))=true then
some (false)
else
(qOg (0:Int) r1.1).bind fun r3=>
if (r3.2==(0:Int))=true then
gd (0≤a2)<|
gd (a2<(Int.ofNat (List.length a3.2.2.1)))<|
some (peq qka (List.getD a3.2.2.1 (Int.toNat a2) (qja qka)) r1.1.1)
else
some (false)):=(FnI.call_eq (by kernel_rfl)).trans (by kernel_rfl)
noncomputable def qNl (acc:List AV→Bool):Summ Tryz.prog GT:=bitloftlaw32_again_I.summ mixed acc false false
noncomputable def bitloftlaw32_ExtractRanges_I:FnI Tryz.prog GT:={f:=4,cuts:=[⟨(12,3),[0,1,2,3,9,10,11,13,15,16,17],false,false,[],[],[]⟩,⟨(20,3),[0,3,9,10,11,15,16,19,20],false,false,[],[],[]⟩],tab:=[qMl (fun _=>true),qql (fun _=>true),qne (fun _=>true),qHg (fun _=>true),qVq (fun _=>true),qmn (fun _=>true),qrk (fun _=>true),qNl (fun _=>true),qvn (fun _=>true)],fm:=⟨true,[.val .bool []]⟩}
noncomputable def qnc (a0:List qna) (a1:Int) (a2:Int) (a3:Int):Option (Bool):=bitloftlaw32_ExtractRanges_I.call [(.sl T_api_Member false a0),(.int .i64 a1),(.int .u8 a2),(.int .i64 a3)] []
noncomputable def qAa (v0:List qna) (v1:Int) (v2:Int) (v3:Int) (v9:Bool) (v16:Int) (v17:Int) (h8:List Int) (b9:qua) (h10:List Int) (h11:List Int):Option (Bool):=bitloftlaw32_ExtractRanges_I.sem ⟨[.code (cIn (cIn (qga (qHa (qga (qga (qga (qga (qga (qga (qga (qga (qga (qma Tryz.prog 4)))))))))))))), .inLoop (cIn (cIn (qga (qHa (qga (qga (qga (qga (qga (qga (qga (qga (qga (qma Tryz.prog 4)))))))))))))), .inBlock 0, .code (qga (qga (qga (qga (qga (qga (qga (qga (qga (qga (qma Tryz.prog 4)))))))))))],⟨[(0,(.one (.sl T_api_Member false v0))),(1,(.one (.int .i64 v1))),(2,(.one (.int .u8 v2))),(3,(.one (.int .i64 v3))),(9,(.one (.bool v9))),(10,(.one (.ref (.int .u8) 8 0 (List.length h8) true))),(11,(.one (.ptr qwa 9 []))),(13,(.one (.ref (.int .i64) 10 0 (List.length h10) true))),(15,(.one (.ref (.int .u8) 11 0 (List.length h11) true))),(16,(.one (.int .i64 v16))),(17,(.one (.int .i64 v17)))],[(8,some (.row (.int .u8) true h8)),(9,some (.box qwa (inj true qwa b9))),(10,some (.row (.int .i64) true h10)),(11,some (.row (.int .u8) true h11))],12⟩⟩
noncomputable def qqa (v0:List qna) (v3:Int) (v9:Bool) (v16:Int) (v19:ByteArray) (v20:Int) (h8:List Int) (b9:qua) (h10:List Int):Option (Bool):=bitloftlaw32_ExtractRanges_I.sem ⟨[.code (cIn (cIn (qga (qHa (qga (qga (qga (qga (qga (qga (qga (qga (qga (qga (qga (qma Tryz.prog 4)))))))))))))))), .inLoop (cIn (cIn (qga (qHa (qga (qga (qga (qga (qga (qga (qga (qga (qga (qga (qga (qma Tryz.prog 4)))))))))))))))), .inBlock 2, .code (qga (qga (qga (qga (qga (qga (qga (qga (qga (qga (qga (qga (qma Tryz.prog 4)))))))))))))],⟨[(0,(.one (.sl T_api_Member false v0))),(3,(.one (.int .i64 v3))),(9,(.one (.bool v9))),(10,(.one (.ref (.int .u8) 8 0 (List.length h8) true))),(11,(.one (.ptr qwa 9 []))),(15,(.one (.ref (.int .u8) 10 0 (List.length h10) true))),(16,(.one (.int .i64 v16))),(19,(.one (.str v19))),(20,(.one (.int .i64 v20)))],[(8,some (.row (.int .u8) true h8)),(9,some (.box qwa (inj true qwa b9))),(10,some (.row (.int .u8) true h10))],11⟩⟩
theorem qPg (a0:List qna) (a1:Int) (a2:Int) (a3:Int):qnc a0 a1 a2 a3=(
(qUf).bind fun r1=>
(qEf a0).bind fun r2=>
if (not r2)=true then
some (r1)
else
(qbb a0).bind fun r3=>
if (r3 != (0:Int))=true then
some (r1)
else
if (decide (a3<(0:Int)))=true then
some (r1)
else
if (decide (a3≥(Int.ofNat (List.length a0))))=true then
some (r1)
else
if (not r1)=true then
some (r1)
else
(qXa a0).bind fun r4=>
(qnn r4).bind fun r5=>
(quh r5.1).bind fun r6=>
if (r5.2 != (0:Int))=true then
some (false)
else
if (r6.2 != (0:Int))=true then
some (false)
else
if ((Int.ofNat (List.length r6.1)) != (Int.ofNat (List.length r5.1.2.2.1)))=true then
some (false)
else
gd ((List.length ([]++r4))*1≤140737488355328)<|
qAa a0 a1 a2 a3 r1 (-1:Int) (0:Int) r4 r5.1 r6.1 ([]++r4)):=(FnI.call_eq (by kernel_rfl)).trans (by kernel_rfl)
theorem qJc (v0:List qna) (v1:Int) (v2:Int) (v3:Int) (v9:Bool) (v16:Int) (v17:Int) (h8:List Int) (b9:qua) (h10:List Int) (h11:List Int):qAa v0 v1 v2 v3 v9 v16 v17 h8 b9 h10 h11=(
if (decide (v17<(Int.ofNat (List.length h10))))=true then
gd (0≤v17)<|
gd (v17<(Int.ofNat (List.length b9.2.2.1)))<|
if (v2 != (0:Int))=true then
gd (0≤v17)<|
gd (v17<(Int.ofNat (List.length h10)))<|
if (decide (v1≥(IntKind.wrap .i64 ((List.getD h10 (0+(Int.toNat v17)) (0:Int))+(41:Int)))))=true then
gd (0≤v17)<|
gd (v17<(Int.ofNat (List.length h10)))<|
if (decide (v1<(IntKind.wrap .i64 ((IntKind.wrap .i64 ((List.getD h10 (0+(Int.toNat v17)) (0:Int))+(41:Int)))+(List.getD b9.2.2.1 (Int.toNat v17) (qja qka)).2.2.2.2.1))))=true then
if (decide (v1<(Int.ofNat (List.length h11))))=true then
gd (0≤v1)<|
gd (v1<(Int.ofNat (List.length h11)))<|
gd (0≤v1)<|
gd (v1<(Int.ofNat (List.length h11)))<|
qAa v0 v1 v2 v3 v9 v17 (IntKind.wrap .i64 (v17+(1:Int))) h8 b9 h10 (List.set h11 (0+(Int.toNat v1)) (qVa .u8 (List.getD h11 (0+(Int.toNat v1)) (0:Int)) v2))
else
qAa v0 v1 v2 v3 v9 v16 (IntKind.wrap .i64 (v17+(1:Int))) h8 b9 h10 h11
else
qAa v0 v1 v2 v3 v9 v16 (IntKind.wrap .i64 (v17+(1:Int))) h8 b9 h10 h11
else
qAa v0 v1 v2 v3 v9 v16 (IntKind.wrap .i64 (v17+(1:Int))) h8 b9 h10 h11
else
qAa v0 v1 v2 v3 v9 v16 (IntKind.wrap .i64 (v17+(1:Int))) h8 b9 h10 h11
else
qqa v0 v3 v9 v16 (ByteArray.mk #[]) (0:Int) h8 b9 h11):=(FnI.sem_eq _).trans (by kernel_rfl)
theorem qIc (v0:List qna) (v3:Int) (v9:Bool) (v16:Int) (v19:ByteArray) (v20:Int) (h8:List Int) (b9:qua) (h10:List Int):qqa v0 v3 v9 v16 v19 v20 h8 b9 h10=(
if (decide (v20<(Int.ofNat (List.length b9.2.2.1))))=true then
gd (0≤v20)<|
gd (v20<(Int.ofNat (List.length b9.2.2.1)))<|
if ((List.getD b9.2.2.1 (Int.toNat v20) (qja qka)).2.1 != v3)=true then
qqa v0 v3 v9 v16 v19 (IntKind.wrap .i64 (v20+(1:Int))) h8 b9 h10
else
gd (0≤v3)<|
gd (v3<(Int.ofNat (List.length v0)))<|
(qRa h10 (List.getD v0 (Int.toNat v3) (qja T_api_Member)).1 (List.getD b9.2.2.1 (Int.toNat v20) (qja qka)).2.2.1 (IntKind.wrap .i64 ((List.getD b9.2.2.1 (Int.toNat v20) (qja qka)).2.2.1+(List.getD b9.2.2.1 (Int.toNat v20) (qja qka)).2.2.2.1))).bind fun r7=>
if (not ((v20==v16)==(r7.2==(22:Int))))=true then
(qBd h8 h10 v16 b9).bind fun r8=>
if (not r8)=true then
some (false)
else
if (v20 != v16)=true then
if (r7.2 != (0:Int))=true then
some (false)
else
if (r7.2==(0:Int))=true then
if (v20 != v16)=true then
gd (v19.size+(qPb r7.1).size≤140737488355328)<|
qqa v0 v3 v9 v16 (v19++(qPb r7.1)) (IntKind.wrap .i64 (v20+(1:Int))) h8 b9 h10
else
qqa v0 v3 v9 v16 v19 (IntKind.wrap .i64 (v20+(1:Int))) h8 b9 h10
else
qqa v0 v3 v9 v16 v19 (IntKind.wrap .i64 (v20+(1:Int))) h8 b9 h10
else
if (r7.2==(0:Int))=true then
if (v20 != v16)=true then
gd (v19.size+(qPb r7.1).size≤140737488355328)<|
qqa v0 v3 v9 v16 (v19++(qPb r7.1)) (IntKind.wrap .i64 (v20+(1:Int))) h8 b9 h10
else
qqa v0 v3 v9 v16 v19 (IntKind.wrap .i64 (v20+(1:Int))) h8 b9 h10
else
qqa v0 v3 v9 v16 v19 (IntKind.wrap .i64 (v20+(1:Int))) h8 b9 h10
else
if (v20 != v16)=true then
if (r7.2 != (0:Int))=true then
some (false)
else
if (r7.2==(0:Int))=true then
if (v20 != v16)=true then
gd (v19.size+(qPb r7.1).size≤140737488355328)<|
qqa v0 v3 v9 v16 (v19++(qPb r7.1)) (IntKind.wrap .i64 (v20+(1:Int))) h8 b9 h10
else
qqa v0 v3 v9 v16 v19 (IntKind.wrap .i64 (v20+(1:Int))) h8 b9 h10
else
qqa v0 v3 v9 v16 v19 (IntKind.wrap .i64 (v20+(1:Int))) h8 b9 h10
else
if (r7.2==(0:Int))=true then
if (v20 != v16)=true then
gd (v19.size+(qPb r7.1).size≤140737488355328)<|
qqa v0 v3 v9 v16 (v19++(qPb r7.1)) (IntKind.wrap .i64 (v20+(1:Int))) h8 b9 h10
else
qqa v0 v3 v9 v16 v19 (IntKind.wrap .i64 (v20+(1:Int))) h8 b9 h10
else
qqa v0 v3 v9 v16 v19 (IntKind.wrap .i64 (v20+(1:Int))) h8 b9 h10
else
if (decide (v16≥(0:Int)))=true then
gd (0≤v16)<|
gd (v16<(Int.ofNat (List.length b9.2.2.1)))<|
if ((List.getD b9.2.2.1 (Int.toNat v16) (qja qka)).2.1==v3)=true then
some (v9)
else
gd (0≤v3)<|
gd (v3<(Int.ofNat (List.length v0)))<|
(qFc h10 (List.getD v0 (Int.toNat v3) (qja T_api_Member)).1).bind fun r9=>
if v9=true then
gd (0≤v3)<|
gd (v3<(Int.ofNat (List.length v0)))<|
if ((ByteArray.toList v19)==(ByteArray.toList (qPb (List.getD v0 (Int.toNat v3) (qja T_api_Member)).2.1)))=true then
if (r9.2==(0:Int))=true then
some ((ByteArray.toList (qPb r9.1.2.1))==(ByteArray.toList v19))
else
some (false)
else
some (false)
else
some (false)
else
gd (0≤v3)<|
gd (v3<(Int.ofNat (List.length v0)))<|
(qFc h10 (List.getD v0 (Int.toNat v3) (qja T_api_Member)).1).bind fun r10=>
if v9=true then
gd (0≤v3)<|
gd (v3<(Int.ofNat (List.length v0)))<|
if ((ByteArray.toList v19)==(ByteArray.toList (qPb (List.getD v0 (Int.toNat v3) (qja T_api_Member)).2.1)))=true then
if (r10.2==(0:Int))=true then
some ((ByteArray.toList (qPb r10.1.2.1))==(ByteArray.toList v19))
else
some (false)
else
some (false)
else
some (false)):=(FnI.sem_eq _).trans (by kernel_rfl)
end Go.Ab
