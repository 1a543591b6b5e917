/-
  An abstract machine over the model's code and its soundness; what the functions compute, as plain functions (printed by a program of this repo's own, checked here by the kernel); plain laws of them: part 4. Helper text, no statement of the claim stands here.
-/
import Derived.Test.YtbpfanppapbdpaaGreatDoorTxtTc
import Derived.Test.YtbpfanppapbdpaaGreatDoorProg
import Derived.WalkKit
import Derived.LaidEql
import Derived.Stop.Asserts
import Derived.RowKitTokens
import Derived.Laws.Externs
import Derived.Shelf.Bytes.SlIndexWhole
import Derived.RangeFuncBox
import Derived.RangeFuncLeaves
import Derived.Shelf.Abstract
import Derived.OwnWalkIn
import Derived.TacticsInMore
import Derived.LoopNIn
import Derived.LoopIn
open Bool renaming and_eq_true → wz
open Go.IntKind renaming wrap → wd
open Go.Lib renaming bytesOf → wna
open Go.Proofs.Tryz renaming prog → wg
open Go.Region renaming wanted → wob
open Go.Sem renaming run_bind → wu
open Go.Value renaming int → wbb
open Int renaming fdiv → wV, ofNat → wi, tdiv → wIa, toNat → wo
open List renaming cons_append → wba, drop → wea, flatMap_cons → wib, getD → wm, getElem?_eq_getElem → wx, getElem?_map → wDa, length → we, length_append → wl, length_cons → ww, length_map → wca, length_nil → wN, length_take → wS, mem_cons → wU, nil_append → waa, not_mem_nil → wlb, range → wVa, replicate → wn, set → wF, size_toArray → wLa, take → wM, take_of_length_le → wL
open Nat renaming le_trans → wia, lt_of_lt_of_le → wY
open Option renaming bind_eq_some_iff → wcb, bind_some → wy, isSome_iff_exists → wEa
open Option.some renaming inj → wMa, injEq → wc
open Prod.mk renaming injEq → wk
set_option linter.unusedVariables false
set_option linter.unusedSimpArgs false
namespace Go.Ab.As
open Go Go.Proofs Go.RowKit Go.Extern.Stop Go.Stop Go.Extern
theorem as_nil (t:Value) (w:World):
  Calls wg 31 #[.nilIface,t] w fun e w'=>e= .returned (.bool false)∧w'=w:=by
 go_enter Tryz.func31,Tryz.ntmps31
 go_wp2
 go_ret
 exact ⟨rfl,rfl⟩
theorem qbJ (t:Addr) (w:World):(ReflectliteValue.unpack (.iface 92 (.pointer (some t)))).run wg w
  = .ok (.agg #[.pointer (some ⟨8,92,none⟩), .pointer (some ⟨w.heap.size,0,none⟩), .int .u64 150]) (w.alloc (.cells #[.pointer (some t)] 92)):=by kernel_rfl
theorem qoN (a:Addr) (w:World):(ReflectliteValue.methodAny (ReflectliteValue.valueError "reflectlite.Value.Type" 0) (fun t _ _ _=>ReflectliteType.toType t) #[.agg #[.pointer (some ⟨8,92,none⟩), .pointer (some a), .int .u64 150]]).run wg w
  = .ok (.iface 195 (.agg #[.pointer (some ⟨8,92,none⟩)])) w:=by kernel_rfl
theorem qIF (h:Value) (w:World):(Go.method 560 195 (.agg #[h]) "Kind").run wg w= .ok (286,h) w:=by kernel_rfl
theorem qwN (w:World):((ReflectliteType.abiMethod fun t=>(fun a:Nat=>wbb IntKind.u8 (a:Int)) <$> Rtype.kind t) #[.pointer (some ⟨8,92,none⟩)]).run wg w= .ok (.int .u8 22) w:=by kernel_rfl
theorem qxN (w:World):((ReflectliteType.abiMethod fun t=>(fun a:Nat=>wbb IntKind.u8 (a:Int)) <$> Rtype.kind t) #[.pointer (some ⟨8,30,none⟩)]).run wg w= .ok (.int .u8 2) w:=by kernel_rfl
theorem rlm (z:Sem Value) (f:TypeId→Addr→Nat→Nat→Sem Value) (v:Value):
  ReflectliteValue.method z f #[v]=(do match ←ReflectliteValue.parts v with|none=>z|some (t,a,fl)=>f t a fl (fl%32)):=rfl
theorem qyK (a:Addr) (w:World):(ReflectliteValue.parts (.agg #[.pointer (some ⟨8,92,none⟩), .pointer (some a), .int .u64 150])).run wg w= .ok (some (92,a,150)) w:=by kernel_rfl
theorem qCM (a p:Addr) (W:World) (ha:W.cell? a=some (.pointer (some p))):
  (ReflectliteValue.method (ReflectliteValue.valueError "reflectlite.Value.IsNil" 0) ReflectliteValue.isNil #[.agg #[.pointer (some ⟨8,92,none⟩), .pointer (some a), .int .u64 150]]).run wg W= .ok (.bool false) W:=by
 rw [rlm]
 simp only [wu,qyK,Result.andThen]
 simp [ReflectliteValue.isNil,loadVar,isAgg,underlying,Tryz.underlying92,ha,Result.andThen]
theorem qJF (h:Value) (w:World):(Go.method 560 195 (.agg #[h]) "Elem").run wg w= .ok (296, .agg #[h]) w:=by kernel_rfl
theorem qQs (h:Value) (w:World):(Go.method 560 195 (.agg #[h]) "Implements").run wg w= .ok (297, .agg #[h]) w:=by kernel_rfl
theorem qsq (h:Value) (w:World):(Go.method 560 195 (.agg #[h]) "AssignableTo").run wg w= .ok (294, .agg #[h]) w:=by kernel_rfl
theorem qDN (w:World):(ReflectliteType.method ReflectliteType.elem #[.agg #[.pointer (some ⟨8,92,none⟩)]]).run wg w= .ok (.iface 195 (.agg #[.pointer (some ⟨8,30,none⟩)])) w:=by kernel_rfl
theorem qaD (w:World):(ReflectliteType.relation "Implements" ReflectliteType.implements_ #[.agg #[.pointer (some ⟨8,30,none⟩)], .iface 195 (.agg #[.pointer (some ⟨8,88,none⟩)])]).run wg w= .ok (.bool true) w:=by kernel_rfl
theorem qZK (v:Value) (w:World):(ReflectliteType.typeOf #[.iface 30 v]).run wg w= .ok (.iface 195 (.agg #[.pointer (some ⟨8,30,none⟩)])) w:=by kernel_rfl
theorem qID (w:World):(ReflectliteType.relation "AssignableTo" ReflectliteType.assignableTo #[.agg #[.pointer (some ⟨8,30,none⟩)], .iface 195 (.agg #[.pointer (some ⟨8,30,none⟩)])]).run wg w= .ok (.bool true) w:=by kernel_rfl
theorem qcJ (n:Int) (w:World):(ReflectliteValue.unpack (.iface 30 (.int .i64 n))).run wg w
  = .ok (.agg #[.pointer (some ⟨8,30,none⟩), .pointer (some ⟨w.heap.size,0,none⟩), .int .u64 130]) (w.alloc (.cells #[.int .i64 n] 30)):=by kernel_rfl
theorem qFL (w:World):(Rtype.elem? 92).run wg w= .ok (some 30) w:=by kernel_rfl
theorem mkE (p:Addr) (w:World):(ReflectliteValue.mk 30 p ReflectliteValue.flagAddr).run wg w= .ok (.agg #[.pointer (some ⟨8,30,none⟩), .pointer (some p), .int .u64 386]) w:=by kernel_rfl
theorem qNM (a p:Addr) (W:World) (ha:W.cell? a=some (.pointer (some p))):
  (ReflectliteValue.method (ReflectliteValue.valueError "reflectlite.Value.Elem" 0) ReflectliteValue.elem #[.agg #[.pointer (some ⟨8,92,none⟩), .pointer (some a), .int .u64 150]]).run wg W
   = .ok (.agg #[.pointer (some ⟨8,30,none⟩), .pointer (some p), .int .u64 386]) W:=by
 rw [rlm]
 simp only [wu,qyK,Result.andThen]
 simp [ReflectliteValue.elem,loadVar,isAgg,underlying,Tryz.underlying92,ha,Result.andThen,qFL,mkE]
theorem rls (v x:Value):ReflectliteValue.set #[v,x]=(do
  let (some (dst,a,fl),some (src,b,_)):=(←ReflectliteValue.parts v,←ReflectliteValue.parts x)
   |unsupported (.noEntry "extern/(internal/reflectlite.Value).Set.zeroValue")
  if fl/ReflectliteValue.flagAddr%2==0 then unsupported (.noEntry "extern/(internal/reflectlite.Value).Set.unaddressable")
  let val ←loadVar src b
  if ←Rtype.directlyAssignable dst src then storeVar dst a val
  else if ←Rtype.implements dst src then
   if (←Rtype.kind src)==20 then
    match val with
    | .nilIface=>unsupported (.noEntry "extern/reflectlite: a nil value of one interface type handed on as a value of another")
    |_=>storeVar dst a val
   else storeVar dst a (.iface src val)
  else panicString ("reflectlite.Set: value of type " ++(←Rtype.spelt src)++ " is not assignable to type " ++(←Rtype.spelt dst))
  pure (.tuple #[])):=rfl
theorem qoL (a:Addr) (w:World):(ReflectliteValue.parts (.agg #[.pointer (some ⟨8,30,none⟩), .pointer (some a), .int .u64 386])).run wg w= .ok (some (30,a,386)) w:=by kernel_rfl
theorem qrM (a:Addr) (w:World):(ReflectliteValue.parts (.agg #[.pointer (some ⟨8,30,none⟩), .pointer (some a), .int .u64 130])).run wg w= .ok (some (30,a,130)) w:=by kernel_rfl
theorem qIL (w:World):(Rtype.directlyAssignable 30 30).run wg w= .ok true w:=by kernel_rfl
theorem qjO (ta b:Addr) (n:Int) (old:Value) (W:World) (hb:W.cell? b=some (.int .i64 n)) (ht:W.cell? ta=some old) (hf:W.frozen? ta=false):
  (ReflectliteValue.set #[.agg #[.pointer (some ⟨8,30,none⟩), .pointer (some ta), .int .u64 386], .agg #[.pointer (some ⟨8,30,none⟩), .pointer (some b), .int .u64 130]]).run wg W
   = .ok (.tuple #[]) (W.setCell ta (.int .i64 n)):=by
 rw [rls]
 simp only [wu,qoL,qrM,Result.andThen]
 simp [ReflectliteValue.flagAddr,loadVar,isAgg,underlying,Tryz.underlying30,hb,Result.andThen,qIL,storeVar,Value.cells,storeCells,Addr.add]
 rw [run_store wg W ta _ _ (by rfl)]
 simp [ht,hf]
set_option maxHeartbeats 4000000 in
set_option maxRecDepth 100000 in
theorem as_hit (n:Int) (t:Addr) (old:Value) (w:World) (hg:w.cell? ⟨0,0,none⟩=some (.iface 195 (.agg #[.pointer (some ⟨8,88,none⟩)]))) (ht0:w.cell? t=some old) (hf0:w.frozen? t=false):
  Calls wg 31 #[.iface 30 (.int .i64 n), .iface 92 (.pointer (some t))] w fun ev w'=>ev= .returned (.bool true)∧w'=((((w.alloc (.cells #[.pointer (some t)] 92)).alloc (.cells #[.pointer (some ⟨8,92,none⟩), .pointer (some ⟨w.heap.size,0,none⟩), .int .u64 150] 126)).alloc (.cells #[.pointer (some ⟨8,92,none⟩), .pointer (some ⟨w.heap.size,0,none⟩), .int .u64 150] 126)).alloc (.cells #[.int .i64 n] 30)).setCell t (.int .i64 n):=by
 have h6:=@run_callFunc_extern wg 57 _ (fun args=>ReflectliteValue.unpack (args.getD 0 (.tuple #[]))) Tryz.func57 (by kernel_rfl) (by kernel_rfl) (by kernel_rfl) (by kernel_rfl)
 have h7:=@run_callFunc_extern wg 58 _ (ReflectliteValue.methodAny (ReflectliteValue.valueError "reflectlite.Value.Type" 0) (fun t _ _ _=>ReflectliteType.toType t)) Tryz.func58 (by kernel_rfl) (by kernel_rfl) (by kernel_rfl) (by kernel_rfl)
 have h8:=@run_callFunc_extern wg 59 _ (ReflectliteValue.method (ReflectliteValue.valueError "reflectlite.Value.IsNil" 0) ReflectliteValue.isNil) Tryz.func59 (by kernel_rfl) (by kernel_rfl) (by kernel_rfl) (by kernel_rfl)
 have h27:=@run_callFunc_extern wg 286 _ (ReflectliteType.abiMethod fun t=>do pure (.int .u8 (←Rtype.kind t))) Tryz.func286 (by kernel_rfl) (by kernel_rfl) (by kernel_rfl) (by kernel_rfl)
 have h37:=@run_callFunc_extern wg 296 _ (ReflectliteType.method ReflectliteType.elem) Tryz.func296 (by kernel_rfl) (by kernel_rfl) (by kernel_rfl) (by kernel_rfl)
 have h38:=@run_callFunc_extern wg 297 _ (ReflectliteType.relation "Implements" ReflectliteType.implements_) Tryz.func297 (by kernel_rfl) (by kernel_rfl) (by kernel_rfl) (by kernel_rfl)
 have h10:=@run_callFunc_extern wg 87 _ ReflectliteType.typeOf Tryz.func87 (by kernel_rfl) (by kernel_rfl) (by kernel_rfl) (by kernel_rfl)
 have h35:=@run_callFunc_extern wg 294 _ (ReflectliteType.relation "AssignableTo" ReflectliteType.assignableTo) Tryz.func294 (by kernel_rfl) (by kernel_rfl) (by kernel_rfl) (by kernel_rfl)
 have h11:=@run_callFunc_extern wg 88 _ (ReflectliteValue.method (ReflectliteValue.valueError "reflectlite.Value.Elem" 0) ReflectliteValue.elem) Tryz.func88 (by kernel_rfl) (by kernel_rfl) (by kernel_rfl) (by kernel_rfl)
 have h12:=@run_callFunc_extern wg 89 _ ReflectliteValue.set Tryz.func89 (by kernel_rfl) (by kernel_rfl) (by kernel_rfl) (by kernel_rfl)
 have tO:=qZK
 have mA:=qsq
 have a25:=qID
 have v25:=qcJ
 have f6:=qbJ
 have f7:=qoN
 have mK:=qIF
 have mE:=qJF
 have mI:=qQs
 have k27:=qwN
 have k25:=qxN
 have e27:=qDN
 have i25:=qaD
 have n8:=qCM ⟨w.heap.size,0,none⟩ t ((w.alloc (.cells #[.pointer (some t)] 92)).alloc (.cells #[.pointer (some ⟨8,92,none⟩), .pointer (some ⟨w.heap.size,0,none⟩), .int .u64 150] 126)) (by simp)
 have hlt:0<w.heap.size:=by
  rcases Nat.lt_or_ge 0 w.heap.size with h|h
  ·exact h
  ·simp [World.cell?,Array.getElem?_eq_none h] at hg
 have hg2:((w.alloc (.cells #[.pointer (some t)] 92)).alloc (.cells #[.pointer (some ⟨8,92,none⟩), .pointer (some ⟨w.heap.size,0,none⟩), .int .u64 150] 126)).cell? ⟨0,0,none⟩=some (.iface 195 (.agg #[.pointer (some ⟨8,88,none⟩)])):=by
  rw [World.cell?_alloc_lt _ _ ⟨0,0,none⟩ (by first|(simp;done)|(simp;omega)),World.cell?_alloc_lt _ _ ⟨0,0,none⟩ hlt];exact hg
 have htl:t.block<w.heap.size:=by
  rcases Nat.lt_or_ge t.block w.heap.size with h|h
  ·exact h
  ·simp [World.cell?,Array.getElem?_eq_none h] at ht0
 have el:=qNM ⟨w.heap.size,0,none⟩ t (((w.alloc (.cells #[.pointer (some t)] 92)).alloc (.cells #[.pointer (some ⟨8,92,none⟩), .pointer (some ⟨w.heap.size,0,none⟩), .int .u64 150] 126)).alloc (.cells #[.pointer (some ⟨8,92,none⟩), .pointer (some ⟨w.heap.size,0,none⟩), .int .u64 150] 126)) (by rw [World.cell?_alloc_lt _ _ ⟨w.heap.size,0,none⟩ (by first|(simp;done)|(simp;omega))];simp)
 have st:=qjO t ⟨w.heap.size+1+1+1,0,none⟩ n old ((((w.alloc (.cells #[.pointer (some t)] 92)).alloc (.cells #[.pointer (some ⟨8,92,none⟩), .pointer (some ⟨w.heap.size,0,none⟩), .int .u64 150] 126)).alloc (.cells #[.pointer (some ⟨8,92,none⟩), .pointer (some ⟨w.heap.size,0,none⟩), .int .u64 150] 126)).alloc (.cells #[.int .i64 n] 30))
  (by rw [World.cell?_alloc_at _ _ _ _ (by simp)];rfl)
  (by rw [World.cell?_alloc_lt _ _ t (by first|(simp;done)|(simp;omega)),World.cell?_alloc_lt _ _ t (by first|(simp;done)|(simp;omega)),World.cell?_alloc_lt _ _ t (by first|(simp;done)|(simp;omega)),World.cell?_alloc_lt _ _ t htl];exact ht0)
  (by rw [World.frozen?_alloc_old _ _ t (by first|(simp;done)|(simp;omega)),World.frozen?_alloc_old _ _ t (by first|(simp;done)|(simp;omega)),World.frozen?_alloc_old _ _ t (by first|(simp;done)|(simp;omega)),World.frozen?_alloc_old _ _ t (Nat.ne_of_lt htl)];exact hf0)
 go_enter Tryz.func31,Tryz.ntmps31
 go_wp2
 refine wp_loop_rounds 1 ?_
 rw [rounds_succ]
 go_wp2
 go_ret
 exact ⟨rfl,rfl⟩
end Go.Ab.As

set_option linter.unusedVariables false
set_option linter.unusedSimpArgs false
namespace Go.Ab
open Go Go.Proofs Go.RowKit
def qxl (a0:Option Int) (b0:Int):Option (Bool×Int):=some (match a0 with
 |some n=>(true,n)
 |none=>(false,b0))
theorem qjx (n b0:Int):qxl (some n) b0=some (true,n):=rfl
theorem qkx (b0:Int):qxl none b0=some (false,b0):=rfl
def qEn:List AV→List (Nat×Obj)→Option (Bool×Int)
 |[.eri T .i64 x, .ifp TP (.int .i64) 0 []],[(0, .box (.int .i64) v)]=>if T=30∧TP=92 then qxl x v else none
 |_,_=>none
theorem uF:((wVa Tryz.prog.types.size).filter fun t=>Tryz.prog.rowNamed t [101,114,114,111,114])=[88]:=by kernel_rfl
theorem As.rt:(Tryz.prog.cutTypes.find? (·.1== "internal/reflectlite.rtype")).map (·.2)=some 195:=by kernel_rfl
theorem uI {w:World} {g:Nat} (h:Hdl wg w g):w.cell? ⟨g,0,none⟩=some (.iface 195 (.agg #[.pointer (some ⟨8,88,none⟩)])):=by
 obtain ⟨u,ty,e1,e2,e3,e4⟩:=h
 obtain rfl:=wMa (As.rt.symm.trans e1)
 have hm:ty∈(wVa Tryz.prog.types.size).filter fun t=>Tryz.prog.rowNamed t [101,114,114,111,114]:=List.mem_filter.2 ⟨List.mem_range.2 e2,e3⟩
 rw [uF] at hm
 obtain rfl:=List.mem_singleton.1 hm
 have hh:typeHandle wg 88= .pointer (some ⟨8,88,none⟩):=by kernel_rfl
 rw [hh] at e4
 exact e4
set_option maxRecDepth 100000 in
theorem qzB {GT:qTg} (hGT:lookL GT 0=some ⟨.unit,()⟩) {avs:List AV} {pre:List (Nat×Obj)} {r:Bool×Int} (h:qEn avs pre=some r):CallOK wg GT 31 avs pre (.one (.bool r.1)) [(0, .box (.int .i64) r.2)]:=by
 unfold qEn at h
 split at h
 ·rename_i T x TP v
  split at h
  ·rename_i hT
   obtain ⟨rfl,rfl⟩:=hT
   intro w F G K vs hg hI hG hK hF hv
   obtain ⟨v1,r1,rfl,h1,h2⟩:=hv
   obtain ⟨v2,r2,rfl,h2,h3⟩:=h2
   simp only [VRdL] at h3;subst h3
   obtain ⟨sh,pl,po,k1,k2,rfl⟩:=h2
   obtain ⟨gh,g1,g2⟩:=hI.objs 0 (.box (.int .i64) v) rfl
   rw [k1] at g1;injection g1 with g1;subst g1
   obtain ⟨q1,p,cs,q2,q3,q4⟩:=g2
   rcases k2 with ⟨k3,k2⟩|⟨_,_,_,_,_,_,_,hp,_,_⟩|⟨_,_,_,_,_,_,_,_,hp,_,_⟩
   rotate_left
   ·cases hp
   ·cases hp
   rw [k3] at q2;injection q2 with q2;subst q2
   rw [q1] at k2
   obtain ⟨sh1,sh2⟩:=sh;simp only at q1 k3;subst q1;subst k3
   simp only [ARd] at q4;subst q4
   simp only [qdl,qDa,wc,wk] at k2
   obtain ⟨rfl,_⟩:=k2
   have hcell:w.cell? ⟨pl.blk,pl.ob+0,none⟩=some (.int .i64 v):=q3.cells 0 _ rfl
   have hlt:=q3.lt
   have hob:pl.ob+0<pl.bs:=by obtain ⟨_,_,_,_,_,_,h5,_⟩:=q3;simp only [ww,wN] at h5;omega
   have hfree:w.frozen? ⟨pl.blk,pl.ob+0,none⟩=false:=q3.free hob
   refine qTB (by kernel_rfl) (by kernel_rfl) ?_
   cases x with
   |none=>
    simp only [qxl,wc] at h;subst h
    simp only [VRd] at h1;subst h1
    refine (As.as_nil _ w).mono ?_
    rintro e w' ⟨rfl,rfl⟩
    exact ⟨_,rfl,K,fun _ _ h=>h,hI,rfl⟩
   |some n=>
    simp only [qxl,wc] at h;subst h
    simp only [VRd] at h1;subst h1
    have hc:=uI (hg.2.2.1 0 hGT)
    refine (As.as_hit n ⟨pl.blk,pl.ob+0,none⟩ _ w hc hcell hfree).mono ?_
    rintro e w' ⟨rfl,rfl⟩
    refine ⟨_,rfl,K,fun _ _ h=>h,?_,rfl⟩
    generalize hw4:(((w.alloc _).alloc _).alloc _).alloc _=w4
    have hm:=hI.more (w':=w4) (by subst hw4;rfl) (by subst hw4;rfl) (by subst hw4;rfl) (by subst hw4;simp;omega) (fun k hk=>by
     subst hw4
     simp only [World.alloc]
     rw [Array.getElem?_push_lt (by simp;omega),Array.getElem_push_lt (by simp;omega),Array.getElem_push_lt (by simp;omega),Array.getElem_push_lt hk]
     exact (Array.getElem?_eq_getElem hk).symm)
    have q5:InBlk w4 pl [.int .i64 v]:=q3.keep (by
     subst hw4
     simp only [World.alloc]
     rw [Array.getElem?_push_lt (by simp;omega),Array.getElem_push_lt (by simp;omega),Array.getElem_push_lt (by simp;omega),Array.getElem_push_lt hlt]
     exact (Array.getElem?_eq_getElem hlt).symm)
    have S:=Stp.write (w':=w4.setCells pl.blk (pl.ob+0) [.int .i64 n]) hm.1 0 0 (.box (.int .i64) v) (.box (.int .i64) n) _ pl rfl k1 (Or.inl rfl) (qmb pl.blk _ _ w4)
     (fun N' K' _ _=>⟨rfl,pl,[.int .i64 n],rfl,q5.write (o:=0) (s:=[.int .i64 n]) (by simp),rfl⟩)
    have hup:qsb (lookL [(0, .box (.int .i64) v)]) [(0,some (.box (.int .i64) n))]=lookL [(0, .box (.int .i64) n)]:=by
     funext l
     simp only [qsb,lookL]
     by_cases hl:0=l <;> simp [hl]
    have:=S.inv
    rw [hup] at this
    exact this
  ·cases h
 ·cases h
end Go.Ab

set_option linter.unusedVariables false
set_option linter.unusedSimpArgs false
namespace Go.Ab
open Go Go.Proofs
def qyo (x y c:Int):Option (Int×Int):=
 if 0≤x∧0≤y∧0≤c∧c≤1 then some ((x+y+c)%18446744073709551616,(x+y+c)/18446744073709551616) else none
def qvm:List AV→List (Nat×Obj)→Option (Int×Int)
 |[.int .u64 x, .int .u64 y, .int .u64 c],[]=>qyo x y c
 |_,_=>none
set_option maxRecDepth 100000 in
theorem qSz {GT:qTg} {avs:List AV} {pre:List (Nat×Obj)} {r:Int×Int} (h:qvm avs pre=some r):CallOK wg GT 246 avs pre (.tup [.int .u64 r.1, .int .u64 r.2]) []:=by
 unfold qvm at h
 split at h
 ·rename_i x y c
  unfold qyo at h
  split at h
  ·rename_i hc
   obtain ⟨c1,c2,c3,c4⟩:=hc
   injection h with h;subst h
   intro w F G K vs hg hI hG hK hF hv
   obtain ⟨v1,r1,rfl,h1,h2⟩:=hv
   obtain ⟨v2,r2,rfl,h2,h3⟩:=h2
   obtain ⟨v3,r3,rfl,h3,h4⟩:=h3
   simp only [VRdL] at h4;subst h4
   simp only [VRd] at h1 h2 h3;subst h1;subst h2;subst h3
   have hr:=run_callFunc_extern (w:=w) (args:=#[.int .u64 x, .int .u64 y, .int .u64 c]) Tryz.func246 (by kernel_rfl) (by kernel_rfl) (by kernel_rfl) (e:=add64Entry) (by kernel_rfl)
   rw [run_add64 x y c c1 c2 c3 c4] at hr
   unfold qcp
   rw [hr]
   exact ⟨K,fun _ _ h=>h,hI,_,rfl,_,_,rfl,rfl,_,_,rfl,rfl,rfl⟩
  ·cases h
 ·cases h
end Go.Ab

/-
  bytes.Index, by the shelf's contract.
-/
set_option linter.unusedVariables false
set_option linter.unusedSimpArgs false
namespace Go.Ab
open Go Go.Proofs Go.Shelf
def qzN:Ren:=⟨fun|185=>80|187=>105|115=>51|253=>106|224=>107|254=>108|255=>140|291=>141|n=>n,fun|37=>36|3=>3|4=>4|0=>0|5=>5|46=>81|9=>9|146=>277|51=>152|n=>n,fun|1=>2|n=>n⟩
set_option maxRecDepth 100000 in
theorem qBK:Lays.n185 wg qzN:={
 mixed:=by kernel_rfl,
 f115:=Tryz.func51.trans (congrArg some (by kernel_rfl)),
 f185:=Tryz.func80.trans (congrArg some (by kernel_rfl)),
 f187:=Tryz.func105.trans (congrArg some (by kernel_rfl)),
 f224:=Tryz.func107.trans (congrArg some (by kernel_rfl)),
 f253:=Tryz.func106.trans (congrArg some (by kernel_rfl)),
 f254:=Tryz.func108.trans (congrArg some (by kernel_rfl)),
 f255:=Tryz.func140.trans (congrArg some (by kernel_rfl)),
 f291:=Tryz.func141.trans (congrArg some (by kernel_rfl)),
 t0:=Tryz.underlying0,
 a0:=Tryz.isAgg0,
 z0:=Tryz.sizeOf0,
 v0:=Tryz.zeroValue0,
 t3:=Tryz.underlying3,
 a3:=Tryz.isAgg3,
 z3:=Tryz.sizeOf3,
 v3:=Tryz.zeroValue3,
 t4:=Tryz.underlying4,
 a4:=Tryz.isAgg4,
 z4:=Tryz.sizeOf4,
 v4:=Tryz.zeroValue4,
 t5:=Tryz.underlying5,
 a5:=Tryz.isAgg5,
 z5:=Tryz.sizeOf5,
 v5:=Tryz.zeroValue5,
 t9:=Tryz.underlying9,
 a9:=Tryz.isAgg9,
 z9:=Tryz.sizeOf9,
 v9:=Tryz.zeroValue9,
 t37:=Tryz.underlying36,
 a37:=Tryz.isAgg36,
 z37:=Tryz.sizeOf36,
 v37:=Tryz.zeroValue36,
 t46:=Tryz.underlying81,
 a46:=Tryz.isAgg81,
 z46:=Tryz.sizeOf81,
 v46:=Tryz.zeroValue81,
 t51:=Tryz.underlying152,
 a51:=Tryz.isAgg152,
 z51:=Tryz.sizeOf152,
 v51:=Tryz.zeroValue152,
 t146:=Tryz.underlying277,
 a146:=Tryz.isAgg277,
 z146:=Tryz.sizeOf277,
 v146:=Tryz.zeroValue277,
 g1:=by kernel_rfl}
def ixB (s t:List Int):Int:=Lib.index (wna s) (wna t)
noncomputable def qsj (s t:List Int):Option Int:=
 gd (s.length<4294967281)<|
 gd (2≤t.length)<|
 gd (t.length≤9223372036854775807)<|
 gd ((∀x∈s,0≤x∧x<256)∧∀y∈t,0≤y∧y<256)<|
 some (ixB s t)
noncomputable def qZk:List AV→List (Nat×Obj)→Option Int
 |[.sl (.int .u8) _ s, .sl (.int .u8) _ t],[]=>qsj s t
 |_,_=>none
theorem qEE {w:World} {N:Nat→Prop} {xs:List Int} {A:Option Addr} (h1:xs≠[]) (h:xs=[]∨∃b o cl,A=some ⟨b,o,none⟩∧N b∧CellsAt w b o cl∧Cat (PRd w N (.int .u8)) xs cl):
  ∃a,A=some a∧∀i,i<xs.length→w.cell? (a.add i)=some (.int .u8 (xs.getD i 0)):=by
 rcases h with h|⟨b,o,cl,hA,hN,hc,hx⟩
 ·exact absurd h h1
 ·refine ⟨_,hA,fun i hi=>?_⟩
  have e:cl=xs.map (wbb .u8):=qAh (k:= .u8) hx
  rw [Lib.add_plain']
  refine hc i _ ?_
  rw [e,wDa,wx hi,List.getD_eq_getElem?_getD,wx hi]
  rfl
set_option maxRecDepth 100000 in
theorem qyx {GT:qTg} (hGT:lookL GT 2=some ⟨.pair .unit .unit,((),())⟩) {avs:List AV} {pre:List (Nat×Obj)} {r:Int} (h:qZk avs pre=some r):CallOK wg GT 80 avs pre (.one (.int .i64 r)) []:=by
 unfold qZk at h
 split at h
 ·rename_i f1 s f2 t
  unfold qsj at h
  obtain ⟨hs,h⟩:=qai h
  obtain ⟨ht,h⟩:=qai h
  obtain ⟨ht2,h⟩:=qai h
  obtain ⟨⟨hb1,hb2⟩,h⟩:=qai h
  obtain rfl:=wMa h
  intro w F G K vs hg hI hG hK hF hv
  obtain ⟨v1,r1,rfl,h1,h2⟩:=hv
  obtain ⟨v2,r2,rfl,h2,h3⟩:=h2
  simp only [VRdL] at h3;subst h3
  obtain ⟨A1,c1,e1,l1,k1⟩:=h1
  obtain ⟨A2,c2,e2,l2,k2⟩:=h2
  obtain rfl:=(List.cons.inj e1).1
  obtain rfl:=(List.cons.inj e2).1
  obtain ⟨m,hm⟩:=hg.2.2.2 2 hGT
  have fin:∀(w':World) (q:Nat),w'=w.drewN q→∃K',(∀l gh,K l=some gh→K' l=some gh)∧Inv ⟨w,F,G,(ngOf GT),[]⟩ (lookL []) K' w'∧TVRd w' (NN ⟨w,F,G,(ngOf GT),[]⟩ (lookL []) K' w') K' (.one (.int .i64 (ixB s t))) (.int .i64 (ixB s t)):=by
   rintro w' q rfl
   exact ⟨K,fun _ _ h=>h,(hI.more (w':=w.drewN q) rfl rfl rfl (Nat.le_refl _) (fun k hk=>rfl)).1,rfl⟩
  refine qTB (by kernel_rfl) (by kernel_rfl) ?_
  by_cases hlt:s.length<t.length
  ·have hc:=Any.bytes_Index_longer qBK A1 A2 s.length c1 t.length c2 w ht hlt ht2
   have hi:ixB s t=-1:=by
    have hr:=Lib.index_room (wna s) (wna t)
    have hge:=Lib.index_ge (wna s) (wna t)
    unfold ixB
    have e1:(wna s).length=s.length:=wca ..
    have e2:(wna t).length=t.length:=wca ..
    rw [e1,e2] at hr
    by_cases h0:0≤Lib.index (wna s) (wna t)
    ·have:=hr h0;omega
    ·omega
   refine Calls.mono hc ?_
   rintro e w' ⟨rfl,rfl⟩
   refine ⟨_,rfl,?_⟩
   rw [←hi]
   exact fin _ 0 rfl
  ·obtain ⟨a1,rfl,hc1⟩:=qEE (xs:=s) (by intro h;rw [h] at hlt;simp only [wN] at hlt;omega) k1
   obtain ⟨a2,rfl,hc2⟩:=qEE (xs:=t) (by intro h;rw [h] at ht;simp at ht) k2
   have hc:=Any.bytes_Index_at qBK a1 a2 s.length c1 t.length c2 s t m w rfl rfl hb1 hb2 hc1 hc2 l1 hs ht2 hm
   refine Calls.mono hc ?_
   rintro e w' ⟨rfl,q,rfl⟩
   exact ⟨_,rfl,fin _ q rfl⟩
 ·cases h
end Go.Ab

set_option linter.unusedVariables false
set_option maxRecDepth 20000
namespace Go.Ab
open Go Go.Proofs
def t44Tab1:ByteArray:=(ByteArray.mk #[0,1,2,2,3,3,3,3,4,4,4,4,4,4,4,4,5,5,5,5,5,5,5,5,5,5,5,5,5,5,5,5,6,6,6,6,6,6,6,6,6,6,6,6,6,6,6,6,6,6,6,6,6,6,6,6,6,6,6,6,6,6,6,6,7,7,7,7,7,7,7,7,7,7,7,7,7,7,7,7,7,7,7,7,7,7,7,7,7,7,7,7,7,7,7,7,7,7,7,7,7,7,7,7,7,7,7,7,7,7,7,7,7,7,7,7,7,7,7,7,7,7,7,7,7,7,7,7,8,8,8,8,8,8,8,8,8,8,8,8,8,8,8,8,8,8,8,8,8,8,8,8,8,8,8,8,8,8,8,8,8,8,8,8,8,8,8,8,8,8,8,8,8,8,8,8,8,8,8,8,8,8,8,8,8,8,8,8,8,8,8,8,8,8,8,8,8,8,8,8,8,8,8,8,8,8,8,8,8,8,8,8,8,8,8,8,8,8,8,8,8,8,8,8,8,8,8,8,8,8,8,8,8,8,8,8,8,8,8,8,8,8,8,8,8,8,8,8,8,8,8,8,8,8,8,8])
abbrev T_api_Settings:Ty:=(.pair (.int .i64) (.pair (.int .i64) .unit))
abbrev qpa:Type:=(Int×(Int×Unit))
abbrev qia:Ty:=(.pair (.int .i64) T_api_Settings)
abbrev qea:Type:=(Int×qpa)
abbrev qGa:Ty:=(.pair qia (.pair (.slice (.int .u8)) .unit))
abbrev qja:Type:=(qea×((List Int)×Unit))
abbrev qAa:Ty:=(.pair (.int .u8) (.pair (.int .i64) (.pair (.int .i64) (.pair (.int .i64) (.pair (.int .i64) (.pair (.arr 20 (.int .u8)) .unit))))))
abbrev qla:Type:=(Int×(Int×(Int×(Int×(Int×((List Int)×Unit))))))
abbrev qYe:Ty:=(.pair qAa (.pair (.slice (.int .u8)) .unit))
abbrev qza:Type:=(qla×((List Int)×Unit))
abbrev T_api_Member:Ty:=(.pair .str (.pair (.slice (.int .u8)) .unit))
abbrev qfa:Type:=(ByteArray×((List Int)×Unit))
abbrev qra:Ty:=(.pair .str (.pair (.int .i64) (.pair (.arr 20 (.int .u8)) .unit)))
abbrev qca:Type:=(ByteArray×(Int×((List Int)×Unit)))
abbrev qRg:Ty:=(.pair (.slice (.int .u8)) (.pair (.int .i64) .unit))
abbrev qyj:Type:=((List Int)×(Int×Unit))
abbrev qHb:Ty:=(.pair qRg .unit)
abbrev qnc:Type:=(qyj×Unit)
abbrev qwa:Ty:=(.pair (.int .i64) qRg)
abbrev qoa:Type:=(Int×qyj)
abbrev qva:Ty:=(.pair (.slice (.slice (.int .i32))) .unit)
abbrev qta:Type:=((List (List Int))×Unit)
abbrev qJb:Ty:=(.pair qva (.pair qva .unit))
abbrev qJa:Type:=(qta×(qta×Unit))
abbrev qVa:Ty:=(.pair (.int .i64) (.pair (.slice (.int .i64)) .unit))
abbrev qBa:Type:=(Int×((List Int)×Unit))
abbrev qKb:Type:=qpa
abbrev qCa:Ty:=(.pair (.int .i64) .unit)
abbrev qqa:Type:=(Int×Unit)
abbrev qga:Ty:=(.pair (.int .i64) (.pair qwa (.pair (.slice (.pair (.int .i64) (.pair (.slice (.pair (.int .u8) (.pair (.arr 15 (.int .u8)) .unit))) .unit))) (.pair (.slice (.pair (.int .i32) (.pair (.slice (.int .i32)) (.pair (.slice (.int .i32)) .unit)))) (.pair qva (.pair qJb (.pair qVa (.pair T_api_Settings (.pair qCa (.pair (.arr 6 (.int .u32)) (.pair (.arr 6 (.int .i64)) .unit)))))))))))
abbrev qba:Type:=(Int×(qoa×((List (Int×((List (Int×((List Int)×Unit)))×Unit)))×((List (Int×((List Int)×((List Int)×Unit))))×(qta×(qJa×(qBa×(qpa×(qqa×((List Int)×((List Int)×Unit)))))))))))
abbrev qsa:Ty:=(.pair (.int .u32) (.pair (.int .u32) (.pair (.slice (.int .u8)) .unit)))
abbrev qka:Type:=(Int×(Int×((List Int)×Unit)))
abbrev qFa:Ty:=(.pair (.int .u32) (.pair (.int .u32) (.pair (.int .u32) qRg)))
abbrev qOa:Type:=(Int×(Int×(Int×qyj)))
abbrev qbg:Ty:=(.pair (.arr 2 (.int .i64)) (.pair (.arr 2 (.int .i64)) .unit))
abbrev qXb:Type:=((List Int)×((List Int)×Unit))
abbrev qUb:Ty:=(.pair (.int .i64) (.pair (.slice (.int .u8)) (.pair (.slice (.int .i32)) (.pair (.int .i32) (.pair (.int .i32) (.pair qbg .unit))))))
abbrev qkc:Type:=(Int×((List Int)×((List Int)×(Int×(Int×(qXb×Unit))))))
abbrev qya:Ty:=(.pair (.int .i64) (.pair (.slice (.pair (.int .u8) (.pair (.arr 15 (.int .u8)) .unit))) .unit))
abbrev qna:Type:=(Int×((List (Int×((List Int)×Unit)))×Unit))
abbrev qxa:Ty:=(.pair (.int .i32) (.pair (.slice (.int .i32)) (.pair (.slice (.int .i32)) .unit)))
abbrev qma:Type:=(Int×((List Int)×((List Int)×Unit)))
abbrev qfc:Ty:=(.pair (.int .u8) (.pair (.arr 15 (.int .u8)) .unit))
abbrev qNd:Type:=(Int×((List Int)×Unit))
abbrev qab:Ty:=(.pair (.int .i32) (.pair (.int .i32) (.pair (.int .u8) .unit)))
abbrev qWa:Type:=(Int×(Int×(Int×Unit)))
def G_widths:List Int:=[1,1,2,2,2]
def G_targets:List Int:=[0,65535]
def G_row:List Int:=[1,2,3,6,10,16,27,45,73,120,194,310,488,747,1101,1546,2047,2549,2994,3348,3607,3785,3901,3975,4022,4050,4068,4079,4085,4089,4092,4093,4094]
def G_quarters:List Int:=[1518500249,1859775393,2400959708,3395469782]
def GT:qTg:=[(0,⟨.unit,()⟩),(1,⟨(.arr 5 (.int .i64)),G_widths⟩),(2,⟨(.pair .unit .unit),((),())⟩),(3,⟨(.arr 4 (.int .u32)),G_quarters⟩),(4,⟨(.arr 2 (.int .i32)),G_targets⟩),(5,⟨(.arr 33 (.int .i32)),G_row⟩)]
theorem mixed:Tryz.prog.follows .mixedOrders=true:=by kernel_rfl
abbrev FN:=FnI wg GT
noncomputable abbrev SS (I:FN):Summ wg GT:=I.summ mixed (fun _=>true) false false
theorem CE {I:FN} {a:List AV} {p:List (Nat×Obj)} {y:Option I.fm.R} (h:(qzL wg I.f a.length&&p.all (fun p=>decide (p.1<8)))=true:=by kernel_rfl) (k:I.go (I.at a p) I.sem=y:=by kernel_rfl):I.call a p=y:=(uD h).trans k
theorem SE {I:FN} {s:Pos} {y:Option I.fm.R} (k:I.go s I.sem=y:=by kernel_rfl):I.sem s=y:=(uA s).trans k
def mnz:List Nat:=[69]
theorem qwM:∀f∈mnz,qrw wg f:=by
 intro f hf
 obtain rfl:f=69:=by simpa [mnz] using hf
 exact ⟨_,#[3],36,5,Tryz.func69,by kernel_rfl,by kernel_rfl,by kernel_rfl,by kernel_rfl,by kernel_rfl⟩
noncomputable def qmD (acc:List AV→Bool):Summ wg GT:={f:=31,acc:=acc,rows:=false,nils:=false,R:=Bool×Int,fn:=qEn,res:=fun r=> .one (.bool r.1),post:=fun r=>[(0, .box (.int .i64) r.2)],ok:=fun _ _ _ h=>qzB rfl h}
noncomputable def qWB (acc:List AV→Bool):Summ wg GT:={f:=246,acc:=acc,rows:=false,nils:=false,R:=Int×Int,fn:=qvm,res:=fun r=> .tup [.int .u64 r.1, .int .u64 r.2],post:=fun _=>[],ok:=fun _ _ _ h=>qSz h}
noncomputable def qNz (acc:List AV→Bool):Summ wg GT:={f:=80,acc:=acc,rows:=false,nils:=false,R:=Int,fn:=qZk,res:=fun r=> .one (.int .i64 r),post:=fun _=>[],ok:=fun _ _ _ h=>qyx rfl h}
noncomputable def vab:FN:={f:=32,cuts:=[],tab:=[],fm:=⟨true,[.val .bool []]⟩}
noncomputable def qCi (a0:Int):Option (Bool):=vab.call [(.int .i64 a0)] []
theorem qht (a0:Int):qCi a0=(
if (decide (a0≥(0:Int)))=true then
some (decide (a0≤(7:Int)))
else
some (false)):=CE
noncomputable def vy:FN:={f:=33,cuts:=[],tab:=[],fm:=⟨true,[.val (.int .i64) []]⟩}
noncomputable def qRd (a0:qla):Option (Int):=vy.call [(.agg qAa (inj false qAa a0))] []
theorem qsv (a0:qla):qRd a0=(
if (decide (a0.2.1<(0:Int)))=true then
some (8:Int)
else
letI j:=(decide (a0.2.1≥(16:Int)))
letI g:=(a0.1==(1:Int))
letI f:=(a0.1==(2:Int))
letI e:=(a0.2.2.2.2.1==a0.2.2.2.1)
letI d:=(decide (a0.2.2.2.2.1>(0:Int)))
letI c:=(decide (a0.2.2.2.2.1<a0.2.2.2.1))
if j=true then
if j=true then
some (8:Int)
else
if g=true then
if e=true then
if e=true then
some (0:Int)
else
some (8:Int)
else
if f=true then
if d=true then
if c=true then
some (0:Int)
else
some (8:Int)
else
some (8:Int)
else
some (8:Int)
else
if f=true then
if d=true then
if c=true then
some (0:Int)
else
some (8:Int)
else
some (8:Int)
else
some (8:Int)
else
if (decide (a0.2.2.2.1<(1:Int)))=true then
some (8:Int)
else
letI i:=(decide (a0.2.2.2.1>(4096:Int)))
if i=true then
if i=true then
some (8:Int)
else
if g=true then
if e=true then
if e=true then
some (0:Int)
else
some (8:Int)
else
if f=true then
if d=true then
if c=true then
some (0:Int)
else
some (8:Int)
else
some (8:Int)
else
some (8:Int)
else
if f=true then
if d=true then
if c=true then
some (0:Int)
else
some (8:Int)
else
some (8:Int)
else
some (8:Int)
else
if (decide (a0.2.2.1<(0:Int)))=true then
some (8:Int)
else
if (decide (a0.2.2.1>(wd .i64 ((8192:Int) - a0.2.2.2.1))))=true then
some (8:Int)
else
if g=true then
if e=true then
if e=true then
some (0:Int)
else
some (8:Int)
else
if f=true then
if d=true then
if c=true then
some (0:Int)
else
some (8:Int)
else
some (8:Int)
else
some (8:Int)
else
if f=true then
if d=true then
if c=true then
some (0:Int)
else
some (8:Int)
else
some (8:Int)
else
some (8:Int)):=CE
noncomputable def vQ:FN:={f:=27,cuts:=[],tab:=[],fm:=⟨true,[.val (.slice (.int .u8)) [.nw]]⟩}
noncomputable def qLf (a0:List Int):Option (List Int):=vQ.call [(.sl (.int .u8) false a0)] []
theorem qzx (a0:List Int):qLf a0=(
qeA (fun (r1:Bool)=>r1=true→a0=[]) fun (r1:Bool)=>
if r1=true then
some ([])
else
gd ((we ([]++a0))*1≤140737488355328)<|
some ([]++a0)):=CE
noncomputable def vFb:FN:={f:=158,cuts:=[],tab:=[],fm:=⟨true,[.val (.int .i64) []]⟩}
noncomputable def qWl (a0:Int):Option (Int):=vFb.call [(.int .i64 a0)] []
theorem qGw (a0:Int):qWl a0=(
gd (0≤a0)<|
some (wd .i64 (qEw .i64 (64:Int) a0))):=CE
noncomputable def vFd:FN:={f:=116,cuts:=[],tab:=[SS vFb],fm:=⟨true,[.val qwa [], .val (.int .i64) []]⟩}
noncomputable def quy (a0:Int):Option (qoa×Int):=vFd.call [(.int .i64 a0)] []
theorem qiu (a0:Int):quy a0=(
if (decide (a0<(0:Int)))=true then
some (((0:Int),([],((0:Int),()))),(2:Int))
else
if (decide (a0>(7:Int)))=true then
some (((0:Int),([],((0:Int),()))),(2:Int))
else
(qWl a0).bind fun r1=>
gd (r1=r1)<|
gd (0≤r1)<|
gd (r1*1≤140737488355328)<|
gd (r1≤9223372036854775807)<|
some ((a0,((wn (wo r1) (0:Int)),((0:Int),()))),(0:Int))):=CE
noncomputable def vla:FN:={f:=201,cuts:=[],tab:=[],fm:=⟨true,[.val (.int .i32) []]⟩}
noncomputable def qhg (a0:Int):Option (Int):=vla.call [(.int .i32 a0)] []
theorem qCs (a0:Int):qhg a0=(
if (decide (a0>(2047:Int)))=true then
some (4095:Int)
else
if (decide (a0<(-2047:Int)))=true then
some (0:Int)
else
gd (0≤(7:Int))<|
letI c:=(wd .i32 ((wV a0 (128:Int))+(16:Int)))
gd (0≤c)<|
gd (c<(33:Int))<|
letI d:=(wd .i32 (c+(1:Int)))
gd (0≤d)<|
gd (d<(33:Int))<|
gd (0≤c)<|
gd (c<(33:Int))<|
gd (0≤(7:Int))<|
letI e:=(wm G_row (wo c) (0:Int))
some (wV (wd .i32 ((wd .i32 ((wd .i32 (e*(128:Int)))+(wd .i32 ((wd .i32 ((wm G_row (wo d) (0:Int)) - e))*(qUa .i32 a0 (127:Int))))))+(64:Int))) (128:Int))):=CE
noncomputable def vb:FN:={f:=174,cuts:=[],tab:=[],fm:=⟨true,[.val (.slice (.int .i32)) [.nw]]⟩}
noncomputable def qKa (a0:List Int):Option (List Int):=vb.call [(.sl (.int .i32) false a0)] []
theorem qSi (a0:List Int):qKa a0=(
qeA (fun (r1:Bool)=>r1=true→a0=[]) fun (r1:Bool)=>
if r1=true then
some ([])
else
gd ((we ([]++a0))*4≤140737488355328)<|
some ([]++a0)):=CE
noncomputable def vLa:FN:={f:=159,cuts:=[⟨(5,3),[0,2,4,14],false,false,[],[],[]⟩,⟨(11,3),[2,4,6,26,27],false,false,[],[],[]⟩],tab:=[SS vla,SS vb],fm:=⟨true,[.val qva [], .val (.int .i64) []]⟩}
noncomputable def qhr (a0:Int):Option (qta×Int):=vLa.call [(.int .i64 a0)] []
noncomputable def qrg (v0:Int) (v14:Int) (b8b:Unit) (h9:List Int) (h10:List (List Int)):Option (qta×Int):=vLa.sem ⟨[.code (cIn (cIn (qaa (qEa (qaa (qaa (qaa (qda wg 159)))))))), .inLoop (cIn (cIn (qaa (qEa (qaa (qaa (qaa (qda wg 159)))))))), .inBlock 0, .code (qaa (qaa (qaa (qaa (qda wg 159)))))],⟨[(0,(.one (.int .i64 v0))),(2,(.one (.ptr qva 8 []))),(4,(.one (.ref (.int .i32) 9 0 (we h9) true))),(14,(.one (.int .i32 v14)))],[(8,some (.box qva ((SV.ref 10 0 (we h10) true),b8b))),(9,some (.row (.int .i32) true h9)),(10,some (.row (.slice (.int .i32)) true h10))],11⟩⟩
noncomputable def qqg (v26:Int) (v27:Int) (b8b:Unit) (h9:List Int) (b10b:Unit) (h11:List (List Int)) (h12:List (List Int)):Option (qta×Int):=vLa.sem ⟨[.code (cIn (cIn (qaa (qEa (qaa (qaa (qaa (qaa (qaa (qda wg 159)))))))))), .inLoop (cIn (cIn (qaa (qEa (qaa (qaa (qaa (qaa (qaa (qda wg 159)))))))))), .inBlock 2, .code (qaa (qaa (qaa (qaa (qaa (qaa (qda wg 159)))))))],⟨[(2,(.one (.ptr qva 8 []))),(4,(.one (.ref (.int .i32) 9 0 (we h9) true))),(6,(.one (.ptr qva 10 []))),(26,(.one (.int .i64 v26))),(27,(.one (.int .i64 v27)))],[(8,some (.box qva ((SV.ref 11 0 (we h11) true),b8b))),(9,some (.row (.int .i32) true h9)),(10,some (.box qva ((SV.ref 12 0 (we h12) true),b10b))),(11,some (.row (.slice (.int .i32)) true h11)),(12,some (.row (.slice (.int .i32)) true h12))],13⟩⟩
theorem qwy (a0:Int):qhr a0=(
if (decide (a0<(1:Int)))=true then
some (([],()),(2:Int))
else
if (decide (a0>(256:Int)))=true then
some (([],()),(2:Int))
else
qrg a0 (0:Int) () [] []):=CE
theorem qCm (v0:Int) (v14:Int) (b8b:Unit) (h9:List Int) (h10:List (List Int)):qrg v0 v14 b8b h9 h10=(
if (decide (v14<(33:Int)))=true then
(qhg (wd .i32 ((128:Int)*(wd .i32 (v14 - (16:Int)))))).bind fun r1=>
letI c:=(h9++[(wd .i32 ((16:Int)*r1))])
gd ((we c)*4≤140737488355328)<|
qrg v0 (wd .i32 (v14+(1:Int))) b8b c h10
else
qqg v0 (0:Int) b8b h9 () h10 []):=SE
theorem qBm (v26:Int) (v27:Int) (b8b:Unit) (h9:List Int) (b10b:Unit) (h11:List (List Int)) (h12:List (List Int)):qqg v26 v27 b8b h9 b10b h11 h12=(
if (decide (v27<v26))=true then
(qKa h9).bind fun r2=>
gd ((we (h12++[r2]))*24≤140737488355328)<|
qqg v26 (wd .i64 (v27+(1:Int))) b8b h9 b10b h11 (h12++[r2])
else
some ((h12,b10b),(0:Int))):=SE
noncomputable def vzd:FN:={f:=117,cuts:=[],tab:=[SS vLa],fm:=⟨true,[.val qJb []]⟩}
noncomputable def qIv:Option (qJa):=vzd.call [] []
theorem qsB:qIv=(
letI c:=(qhr (256:Int))
c.bind fun r1=>
c.bind fun r2=>
some (r1.1,(r2.1,()))):=CE
noncomputable def vrb:FN:={f:=118,cuts:=[],tab:=[],fm:=⟨true,[.val T_api_Settings []]⟩}
noncomputable def quq:Option (qpa):=vrb.call [] []
theorem qjk:quq=(
some ((-1:Int),((0:Int),()))):=CE
noncomputable def vOb:FN:={f:=119,cuts:=[],tab:=[],fm:=⟨true,[.val qCa []]⟩}
noncomputable def qsr:Option (qqa):=vOb.call [] []
theorem qam:qsr=(
some ((1:Int),())):=CE
noncomputable def vXa:FN:={f:=161,cuts:=[],tab:=[],fm:=⟨true,[.val (.int .i64) []]⟩}
noncomputable def qti (a0:Int):Option (Int):=vXa.call [(.int .i64 a0)] []
theorem qYs (a0:Int):qti a0=(
gd (0≤a0)<|
some (wd .i64 (qEw .i64 (64:Int) a0))):=CE
noncomputable def vLb:FN:={f:=250,cuts:=[],tab:=[],fm:=⟨true,[.val (.int .u64) [], .val (.int .u64) []]⟩}
noncomputable def qtn (a0:Int) (a1:Int):Option (Int×Int):=vLb.call [(.int .u64 a0),(.int .u64 a1)] []
theorem qtq (a0:Int) (a1:Int):qtn a0 a1=(
gd (0≤(32:Int))<|
gd (0≤(32:Int))<|
gd (0≤(32:Int))<|
gd (0≤(32:Int))<|
gd (0≤(32:Int))<|
letI g:=(wV a1 (4294967296:Int))
letI f:=(wV a0 (4294967296:Int))
letI e:=(qUa .u64 a1 (4294967295:Int))
letI d:=(qUa .u64 a0 (4294967295:Int))
letI c:=(wd .u64 ((wd .u64 (f*e))+(wV (wd .u64 (d*e)) (4294967296:Int))))
some ((wd .u64 ((wd .u64 ((wd .u64 (f*g))+(wV c (4294967296:Int))))+(wV (wd .u64 ((qUa .u64 c (4294967295:Int))+(wd .u64 (d*g)))) (4294967296:Int)))),(wd .u64 (a0*a1)))):=CE
noncomputable def vSa:FN:={f:=211,cuts:=[],tab:=[SS vLb],fm:=⟨true,[.val (.int .u64) [], .val (.int .u64) []]⟩}
noncomputable def qri (a0:Int) (a1:Int):Option (Int×Int):=vSa.call [(.int .u64 a0),(.int .u64 a1)] []
theorem qTs (a0:Int) (a1:Int):qri a0 a1=(
(qtn a0 a1).bind fun r1=>
some (r1)):=CE
noncomputable def vP:FN:={f:=160,cuts:=[⟨(8,3),[7,8],false,false,[],[],[]⟩],tab:=[SS vSa],fm:=⟨true,[.val (.slice (.int .i64)) [.nw]]⟩}
noncomputable def qBe (a0:List Int) (a1:Int):Option (List Int):=vP.call [(.sl (.int .i64) false a0),(.int .i64 a1)] []
noncomputable def qrc (v8:Int) (h8:List Int):Option (List Int):=vP.sem ⟨[.code (cIn (cIn (qEa (qaa (qaa (qaa (qaa (qaa (qaa (qda wg 160)))))))))), .inLoop (cIn (cIn (qEa (qaa (qaa (qaa (qaa (qaa (qaa (qda wg 160)))))))))), .inBlock 0, .code (qaa (qaa (qaa (qaa (qaa (qaa (qaa (qda wg 160))))))))],⟨[(7,(.one (.ref (.int .i64) 8 0 (we h8) true))),(8,(.one (.int .i64 v8)))],[(8,some (.row (.int .i64) true h8))],9⟩⟩
theorem qil (a0:List Int) (a1:Int):qBe a0 a1=(
if (decide (a1<(0:Int)))=true then
none
else
letI f:=(we a0)
(qri (wd .u64 (wi f)) (wd .u64 a1)).bind fun r1=>
if (decide (r1.1>(0:Int)))=true then
none
else
if (decide (r1.2>(9223372036854775807:Int)))=true then
none
else
letI c:=(wd .i64 r1.2)
gd (c=c)<|
gd (0≤c)<|
gd (c*8≤140737488355328)<|
gd (c≤9223372036854775807)<|
letI d:=(wn (wo c) (0:Int))
letI e:=(min f (we d))
qrc (wi e) (qwb d 0 (wM e a0))):=CE
theorem qAe (v8:Int) (h8:List Int):qrc v8 h8=(
letI g:=(we h8)
letI d:=(wi g)
if (decide (v8<d))=true then
gd (0≤v8)<|
gd (v8≤d)<|
gd (0≤v8)<|
gd (v8≤d)<|
letI f:=(wo v8)
letI e:=(wM (f - 0) (wea 0 h8))
letI c:=(min (we e) (g - f))
qrc (wd .i64 (v8+(wi c))) (qwb h8 (0+f) (wM c e))
else
some (h8)):=SE
noncomputable def vrd:FN:={f:=120,cuts:=[],tab:=[SS vXa,SS vP],fm:=⟨true,[.val qVa [], .val (.int .i64) []]⟩}
noncomputable def qBr (a0:Int):Option (qBa×Int):=vrd.call [(.int .i64 a0)] []
theorem qcz (a0:Int):qBr a0=(
if (decide (a0<(0:Int)))=true then
some (((0:Int),([],())),(2:Int))
else
if (decide (a0>(7:Int)))=true then
some (((0:Int),([],())),(2:Int))
else
(qti a0).bind fun r1=>
(qBe [(-1:Int)] r1).bind fun r2=>
some ((a0,(r2,())),(0:Int))):=CE
noncomputable def vk:FN:={f:=164,cuts:=[⟨(8,3),[7,8],false,false,[],[],[]⟩],tab:=[SS vSa],fm:=⟨true,[.val (.slice (.int .i32)) [.nw]]⟩}
noncomputable def qhc (a0:List Int) (a1:Int):Option (List Int):=vk.call [(.sl (.int .i32) false a0),(.int .i64 a1)] []
noncomputable def qQb (v8:Int) (h8:List Int):Option (List Int):=vk.sem ⟨[.code (cIn (cIn (qEa (qaa (qaa (qaa (qaa (qaa (qaa (qda wg 164)))))))))), .inLoop (cIn (cIn (qEa (qaa (qaa (qaa (qaa (qaa (qaa (qda wg 164)))))))))), .inBlock 0, .code (qaa (qaa (qaa (qaa (qaa (qaa (qaa (qda wg 164))))))))],⟨[(7,(.one (.ref (.int .i32) 8 0 (we h8) true))),(8,(.one (.int .i64 v8)))],[(8,some (.row (.int .i32) true h8))],9⟩⟩
theorem qni (a0:List Int) (a1:Int):qhc a0 a1=(
if (decide (a1<(0:Int)))=true then
none
else
letI f:=(we a0)
(qri (wd .u64 (wi f)) (wd .u64 a1)).bind fun r1=>
if (decide (r1.1>(0:Int)))=true then
none
else
if (decide (r1.2>(9223372036854775807:Int)))=true then
none
else
letI c:=(wd .i64 r1.2)
gd (c=c)<|
gd (0≤c)<|
gd (c*4≤140737488355328)<|
gd (c≤9223372036854775807)<|
letI d:=(wn (wo c) (0:Int))
letI e:=(min f (we d))
qQb (wi e) (qwb d 0 (wM e a0))):=CE
theorem qBd (v8:Int) (h8:List Int):qQb v8 h8=(
letI g:=(we h8)
letI d:=(wi g)
if (decide (v8<d))=true then
gd (0≤v8)<|
gd (v8≤d)<|
gd (0≤v8)<|
gd (v8≤d)<|
letI f:=(wo v8)
letI e:=(wM (f - 0) (wea 0 h8))
letI c:=(min (we e) (g - f))
qQb (wd .i64 (v8+(wi c))) (qwb h8 (0+f) (wM c e))
else
some (h8)):=SE
noncomputable def vsb:FN:={f:=162,cuts:=[],tab:=[SS vk],fm:=⟨true,[.val (.slice (.int .i32)) [.nw]]⟩}
noncomputable def qEm (a0:Int) (a1:Int):Option (List Int):=vsb.call [(.int .i64 a0),(.int .i32 a1)] []
theorem qvp (a0:Int) (a1:Int):qEm a0 a1=(
(qhc [a1] a0).bind fun r1=>
some (r1)):=CE
noncomputable def vuc:FN:={f:=121,cuts:=[⟨(5,3),[1,4,6,14,15],false,false,[],[],[]⟩],tab:=[SS vsb],fm:=⟨true,[.val qva [], .val (.int .i64) []]⟩}
noncomputable def qRu (a0:Int) (a1:Int):Option (qta×Int):=vuc.call [(.int .i64 a0),(.int .i32 a1)] []
noncomputable def qKh (v1:Int) (v14:Int) (v15:Int) (b8b:Unit) (b9b:Unit) (h10:List (List Int)) (h11:List (List Int)):Option (qta×Int):=vuc.sem ⟨[.code (cIn (cIn (qaa (qEa (qaa (qaa (qaa (qda wg 121)))))))), .inLoop (cIn (cIn (qaa (qEa (qaa (qaa (qaa (qda wg 121)))))))), .inBlock 0, .code (qaa (qaa (qaa (qaa (qda wg 121)))))],⟨[(1,(.one (.int .i32 v1))),(4,(.one (.ptr qva 8 []))),(6,(.one (.ptr qva 9 []))),(14,(.one (.int .i64 v14))),(15,(.one (.int .i64 v15)))],[(8,some (.box qva ((SV.ref 10 0 (we h10) true),b8b))),(9,some (.box qva ((SV.ref 11 0 (we h11) true),b9b))),(10,some (.row (.slice (.int .i32)) true h10)),(11,some (.row (.slice (.int .i32)) true h11))],12⟩⟩
theorem qWA (a0:Int) (a1:Int):qRu a0 a1=(
if (decide (a0<(1:Int)))=true then
some (([],()),(2:Int))
else
if (decide (a0>(256:Int)))=true then
some (([],()),(2:Int))
else
qKh a1 a0 (0:Int) () () [] []):=CE
theorem qpn (v1:Int) (v14:Int) (v15:Int) (b8b:Unit) (b9b:Unit) (h10:List (List Int)) (h11:List (List Int)):qKh v1 v14 v15 b8b b9b h10 h11=(
if (decide (v15<v14))=true then
(qEm (8:Int) v1).bind fun r1=>
gd ((we (h11++[r1]))*24≤140737488355328)<|
qKh v1 v14 (wd .i64 (v15+(1:Int))) b8b b9b h10 (h11++[r1])
else
some ((h11,b9b),(0:Int))):=SE
noncomputable def vZb:FN:={f:=163,cuts:=[],tab:=[],fm:=⟨true,[.val (.int .i64) []]⟩}
noncomputable def qfo (a0:Int):Option (Int):=vZb.call [(.int .i64 a0)] []
theorem qpy (a0:Int):qfo a0=(
gd (0≤a0)<|
some (wd .i64 (qEw .i64 (16:Int) a0))):=CE
noncomputable def vxd:FN:={f:=122,cuts:=[],tab:=[SS vZb],fm:=⟨true,[.val qya [], .val (.int .i64) []]⟩}
noncomputable def qVt (a0:Int):Option (qna×Int):=vxd.call [(.int .i64 a0)] []
theorem qqA (a0:Int):qVt a0=(
if (decide (a0<(0:Int)))=true then
some (((0:Int),([],())),(2:Int))
else
if (decide (a0>(7:Int)))=true then
some (((0:Int),([],())),(2:Int))
else
(qfo a0).bind fun r1=>
gd (r1=r1)<|
gd (0≤r1)<|
gd (r1*16≤140737488355328)<|
gd (r1≤9223372036854775807)<|
some ((a0,((wn (wo r1) (qua qfc)),())),(0:Int))):=CE
noncomputable def vEd:FN:={f:=123,cuts:=[],tab:=[SS vk],fm:=⟨true,[.val qxa [], .val (.int .i64) []]⟩}
noncomputable def qow (a0:Int):Option (qma×Int):=vEd.call [(.int .i64 a0)] []
theorem qcC (a0:Int):qow a0=(
if (decide (a0<(1:Int)))=true then
some (((0:Int),([],([],()))),(2:Int))
else
if (decide (a0>(1000:Int)))=true then
some (((0:Int),([],([],()))),(2:Int))
else
(qhc [(32768:Int)] (193:Int)).bind fun r1=>
gd ((193:Int)=(193:Int))<|
gd (0≤(193:Int))<|
gd ((193:Int)*4≤140737488355328)<|
gd ((193:Int)≤9223372036854775807)<|
some (((wd .i32 a0),(r1,((wn 193 (0:Int)),()))),(0:Int))):=CE
noncomputable def vV:FN:={f:=271,cuts:=[],tab:=[],fm:=⟨true,[.val (.int .i32) [], .val (.int .i64) []]⟩}
noncomputable def qIi (a0:List Int):Option (Int×Int):=vV.call [(.sl (.int .u8) false a0)] []
noncomputable def vG:FN:={f:=265,cuts:=[⟨(2,3),[0,6,7,8],false,false,[],[],[]⟩],tab:=[SS vV],fm:=⟨true,[.val (.int .i32) [], .val (.int .i64) []]⟩}
noncomputable def qTd (a0:List Int):Option (Int×Int):=vG.call [(.sl (.int .u8) false a0)] []
noncomputable def qjf (v0:List Int) (v6:List Int) (v7:Int) (v8:Int):Option (Int×Int):=vG.sem ⟨[.code (cIn (cIn (qaa (qEa (qaa (qda wg 265)))))), .inLoop (cIn (cIn (qaa (qEa (qaa (qda wg 265)))))), .inBlock 0, .code (qaa (qaa (qda wg 265)))],⟨[(0,(.one (.sl (.int .u8) false v0))),(6,(.one (.sl (.int .u8) false v6))),(7,(.one (.int .i64 v7))),(8,(.one (.int .i64 v8)))],[],8⟩⟩
theorem qzj (a0:List Int):qTd a0=(
qjf a0 a0 (wi (we a0)) (0:Int)):=CE
theorem qYh (v0:List Int) (v6:List Int) (v7:Int) (v8:Int):qjf v0 v6 v7 v8=(
letI d:=(qIi v0)
if (decide (v8<v7))=true then
gd (0≤v8)<|
gd (v8<(wi (we v6)))<|
letI c:=(wm v6 (wo v8) (0:Int))
if (decide (c<(128:Int)))=true then
some ((wd .i32 c),(1:Int))
else
d.bind fun r1=>
some (r1)
else
d.bind fun r2=>
some (r2)):=SE
noncomputable def vAc:FN:={f:=213,cuts:=[],tab:=[],fm:=⟨true,[.val .bool []]⟩}
noncomputable def qis (a0:Int):Option (Bool):=vAc.call [(.int .i32 a0)] []
theorem qju (a0:Int):qis a0=(
some (a0 != (0:Int))):=CE
noncomputable def vBa:FN:={f:=258,cuts:=[⟨(2,3),[0,1,2,7],false,false,[],[],[]⟩],tab:=[SS vG,SS vAc],fm:=⟨true,[.val (.int .i64) []]⟩}
noncomputable def qNn (a0:List Int) (a2:Bool):Option (Int):=vBa.call [(.sl (.int .u8) false a0),(.func 213 []),(.bool a2)] []
noncomputable def qjd (v0:List Int) (v2:Bool) (v7:Int):Option (Int):=vBa.sem ⟨[.code (cIn (cIn (qEa (qaa (qaa (qda wg 258)))))), .inLoop (cIn (cIn (qEa (qaa (qaa (qda wg 258)))))), .inBlock 0, .code (qaa (qaa (qaa (qda wg 258))))],⟨[(0,(.one (.sl (.int .u8) false v0))),(1,(.one (.func 213 []))),(2,(.one (.bool v2))),(7,(.one (.int .i64 v7)))],[],8⟩⟩
theorem qNq (a0:List Int) (a2:Bool):qNn a0 a2=(
qjd a0 a2 (0:Int)):=CE
theorem qWh (v0:List Int) (v2:Bool) (v7:Int):qjd v0 v2 v7=(
letI c:=(wi (we v0))
if (decide (v7<c))=true then
gd (0≤v7)<|
gd (v7≤c)<|
(qTd (wea (wo v7) v0)).bind fun r1=>
(qis r1.1).bind fun r2=>
if (r2==v2)=true then
some (v7)
else
qjd v0 v2 (wd .i64 (v7+r1.2))
else
some (-1:Int)):=SE
noncomputable def vKb:FN:={f:=251,cuts:=[],tab:=[SS vBa],fm:=⟨true,[.val (.int .i64) []]⟩}
noncomputable def qOn (a0:List Int):Option (Int):=vKb.call [(.sl (.int .u8) false a0),(.func 213 [])] []
theorem qOq (a0:List Int):qOn a0=(
(qNn a0 true).bind fun r1=>
some (r1)):=CE
noncomputable def vWa:FN:={f:=212,cuts:=[],tab:=[SS vKb],fm:=⟨true,[.val .bool []]⟩}
noncomputable def qJg (a0:List Int):Option (Bool):=vWa.call [(.sl (.int .u8) false a0),(.func 213 [])] []
theorem qPn (a0:List Int):qJg a0=(
(qOn a0).bind fun r1=>
some (decide (r1≥(0:Int)))):=CE
noncomputable def vn:FN:={f:=165,cuts:=[],tab:=[SS vFb,SS vWa],fm:=⟨true,[.val (.int .i64) []]⟩}
noncomputable def qDd (a0:qoa):Option (Int):=vn.call [(.agg qwa (inj false qwa a0))] []
theorem qvy (a0:qoa):qDd a0=(
if (decide (a0.1<(0:Int)))=true then
some (8:Int)
else
if (decide (a0.1>(7:Int)))=true then
some (8:Int)
else
(qWl a0.1).bind fun r1=>
letI c:=(wi (we a0.2.1))
if (c != r1)=true then
some (8:Int)
else
if (decide (a0.2.2.1<(0:Int)))=true then
some (8:Int)
else
if (decide (a0.2.2.1>(1073741824:Int)))=true then
some (8:Int)
else
if (decide (a0.2.2.1<c))=true then
gd (0≤a0.2.2.1)<|
gd (a0.2.2.1≤c)<|
(qJg (wea (wo a0.2.2.1) a0.2.1)).bind fun r2=>
if r2=true then
some (8:Int)
else
some (0:Int)
else
some (0:Int)):=CE
noncomputable def vKc:FN:={f:=252,cuts:=[],tab:=[],fm:=⟨true,[.val (.int .u8) []]⟩}
noncomputable def qrt (a0:qoa) (a1:Int):Option (Int):=vKc.call [(.agg qwa (inj false qwa a0)),(.int .i64 a1)] []
theorem qCC (a0:qoa) (a1:Int):qrt a0 a1=(
letI d:=(wi (we a0.2.1))
letI c:=(qUa .i64 (wd .i64 (a0.2.2.1 - a1)) (wd .i64 (d - (1:Int))))
gd (0≤c)<|
gd (c<d)<|
some (wm a0.2.1 (wo c) (0:Int))):=CE
noncomputable def vsc:FN:={f:=214,cuts:=[],tab:=[SS vn,SS vKc],fm:=⟨true,[.val (.int .u8) [], .val (.int .i64) []]⟩}
noncomputable def qeq (a0:qoa) (a1:Int):Option (Int×Int):=vsc.call [(.agg qwa (inj false qwa a0)),(.int .i64 a1)] []
theorem qBA (a0:qoa) (a1:Int):qeq a0 a1=(
(qDd a0).bind fun r1=>
if (r1 != (0:Int))=true then
some ((0:Int),r1)
else
if (decide (a1<(1:Int)))=true then
some ((0:Int),(2:Int))
else
if (decide (a1>(wi (we a0.2.1))))=true then
some ((0:Int),(2:Int))
else
if (decide (a1>a0.2.2.1))=true then
some ((0:Int),(0:Int))
else
(qrt a0 a1).bind fun r2=>
some (r2,(0:Int))):=CE
noncomputable def vZ:FN:={f:=166,cuts:=[⟨(3,3),[2,5,6],false,false,[],[],[]⟩],tab:=[SS vsc],fm:=⟨true,[.val (.slice (.int .u8)) [.nw]]⟩}
noncomputable def qVh (a0:qoa) (a1:Int):Option (List Int):=vZ.call [(.agg qwa (inj false qwa a0)),(.int .i64 a1)] []
noncomputable def qFg (v6:Int) (b8:qoa) (h9:List Int):Option (List Int):=vZ.sem ⟨[.code (cIn (cIn (qaa (qEa (qaa (qaa (qda wg 166))))))), .inLoop (cIn (cIn (qaa (qEa (qaa (qaa (qda wg 166))))))), .inBlock 0, .code (qaa (qaa (qaa (qda wg 166))))],⟨[(2,(.one (.ptr qwa 8 []))),(5,(.one (.ref (.int .u8) 9 0 (we h9) true))),(6,(.one (.int .i64 v6)))],[(8,some (.box qwa (inj false qwa b8))),(9,some (.row (.int .u8) true h9))],10⟩⟩
theorem qZv (a0:qoa) (a1:Int):qVh a0 a1=(
qFg a1 a0 []):=CE
theorem qvk (v6:Int) (b8:qoa) (h9:List Int):qFg v6 b8 h9=(
if (decide (v6>(0:Int)))=true then
(qeq b8 v6).bind fun r1=>
gd ((we (h9++[r1.1]))*1≤140737488355328)<|
qFg (wd .i64 (v6 - (1:Int))) b8 (h9++[r1.1])
else
some (h9)):=SE
noncomputable def vDc:FN:={f:=215,cuts:=[],tab:=[],fm:=⟨true,[.val (.int .u32) [], .val (.int .i64) []]⟩}
noncomputable def qos (a0:Int):Option (Int×Int):=vDc.call [(.int .i64 a0)] []
theorem quv (a0:Int):qos a0=(
if (decide (a0<(0:Int)))=true then
some ((0:Int),(2:Int))
else
if (decide (a0≥(8:Int)))=true then
some ((0:Int),(2:Int))
else
some ((wd .u32 ((2654435769:Int)*(wd .u32 (wd .i64 (a0+(1:Int)))))),(0:Int))):=CE
noncomputable def vua:FN:={f:=216,cuts:=[⟨(2,3),[0,7,8,9],false,false,[],[],[]⟩],tab:=[],fm:=⟨true,[.val (.int .u32) []]⟩}
noncomputable def qpk (a0:Int) (a1:List Int):Option (Int):=vua.call [(.int .u32 a0),(.sl (.int .u8) false a1)] []
noncomputable def qRe (v0:Int) (v7:List Int) (v8:Int) (v9:Int):Option (Int):=vua.sem ⟨[.code (cIn (cIn (qaa (qEa (qaa (qda wg 216)))))), .inLoop (cIn (cIn (qaa (qEa (qaa (qda wg 216)))))), .inBlock 0, .code (qaa (qaa (qda wg 216)))],⟨[(0,(.one (.int .u32 v0))),(7,(.one (.sl (.int .u8) false v7))),(8,(.one (.int .i64 v8))),(9,(.one (.int .i64 v9)))],[],8⟩⟩
theorem qtv (a0:Int) (a1:List Int):qpk a0 a1=(
qRe a0 a1 (wi (we a1)) (0:Int)):=CE
theorem qok (v0:Int) (v7:List Int) (v8:Int) (v9:Int):qRe v0 v7 v8 v9=(
if (decide (v9<v8))=true then
gd (0≤v9)<|
gd (v9<(wi (we v7)))<|
gd (0≤(15:Int))<|
letI c:=(wd .u32 ((qSb .u32 v0 (wd .u32 (wm v7 (wo v9) (0:Int))))*(16777619:Int)))
qRe (qSb .u32 c (wV c (32768:Int))) v7 v8 (wd .i64 (v9+(1:Int)))
else
some (v0)):=SE
noncomputable def vqb:FN:={f:=167,cuts:=[],tab:=[SS vDc,SS vua],fm:=⟨true,[.val (.int .u32) [], .val (.int .i64) []]⟩}
noncomputable def qwl (a0:Int) (a1:List Int):Option (Int×Int):=vqb.call [(.int .i64 a0),(.sl (.int .u8) false a1)] []
theorem qiB (a0:Int) (a1:List Int):qwl a0 a1=(
(qos a0).bind fun r1=>
if (r1.2 != (0:Int))=true then
some ((0:Int),r1.2)
else
if (decide ((wi (we a1))>(20000:Int)))=true then
some ((0:Int),(4:Int))
else
(qpk r1.1 a1).bind fun r2=>
some (r2,(0:Int))):=CE
noncomputable def vmc:FN:={f:=217,cuts:=[],tab:=[],fm:=⟨true,[.val (.int .u8) []]⟩}
noncomputable def qzi (a0:Int):Option (Int):=vmc.call [(.int .u8 a0)] []
theorem qft (a0:Int):qzi a0=(
letI e:=(decide (a0≤(90:Int)))
letI d:=(decide (a0≥(65:Int)))
letI c:=(wd .u8 (a0+(32:Int)))
if (decide (a0≥(97:Int)))=true then
if (decide (a0≤(122:Int)))=true then
some (a0)
else
if d=true then
if e=true then
some c
else
some (0:Int)
else
some (0:Int)
else
if d=true then
if e=true then
some c
else
some (0:Int)
else
some (0:Int)):=CE
noncomputable def vta:FN:={f:=168,cuts:=[⟨(3,3),[3,4],false,false,[],[],[]⟩,⟨(7,3),[5,27,28,29],false,false,[],[],[]⟩],tab:=[SS vZ,SS vmc],fm:=⟨true,[.val (.slice (.int .u8)) [.nw]]⟩}
noncomputable def qIn (a0:qoa):Option (List Int):=vta.call [(.agg qwa (inj false qwa a0))] []
noncomputable def qEg (v4:Int) (h8:List Int):Option (List Int):=vta.sem ⟨[.code (cIn (cIn (qEa (qaa (qaa (qaa (qda wg 168))))))), .inLoop (cIn (cIn (qEa (qaa (qaa (qaa (qda wg 168))))))), .inBlock 0, .code (qaa (qaa (qaa (qaa (qda wg 168)))))],⟨[(3,(.one (.ref (.int .u8) 8 0 (we h8) true))),(4,(.one (.int .i64 v4)))],[(8,some (.row (.int .u8) true h8))],9⟩⟩
noncomputable def qHd (v27o:Nat) (v27n:Nat) (v28:Int) (v29:Int) (h8:List Int) (h9:List Int):Option (List Int):=vta.sem ⟨[.code (cIn (cIn (qaa (qEa (qaa (qaa (qaa (qaa (qaa (qda wg 168)))))))))), .inLoop (cIn (cIn (qaa (qEa (qaa (qaa (qaa (qaa (qaa (qda wg 168)))))))))), .inBlock 2, .code (qaa (qaa (qaa (qaa (qaa (qaa (qda wg 168)))))))],⟨[(5,(.one (.ref (.int .u8) 8 0 (we h8) true))),(27,(.one (.ref (.int .u8) 9 v27o v27n false))),(28,(.one (.int .i64 v28))),(29,(.one (.int .i64 v29)))],[(8,some (.row (.int .u8) true h8)),(9,some (.row (.int .u8) true h9))],10⟩⟩
theorem qYv (a0:qoa):qIn a0=(
(qVh a0 (16:Int)).bind fun r1=>
qEg (wi (we r1)) r1):=CE
theorem quk (v4:Int) (h8:List Int):qEg v4 h8=(
letI g:=(we h8)
letI f:=(wo v4)
letI e:=(wi g)
letI d:=(g - f)
if (decide (v4>(0:Int)))=true then
letI c:=(wd .i64 (v4 - (1:Int)))
gd (0≤c)<|
gd (c<e)<|
(qzi (wm h8 (0+(wo c)) (0:Int))).bind fun r2=>
if (r2 != (0:Int))=true then
qEg c h8
else
gd (0≤v4)<|
gd (v4≤e)<|
qHd (0+f) d (wi d) (0:Int) [] h8
else
gd (0≤v4)<|
gd (v4≤e)<|
qHd (0+f) d (wi d) (0:Int) [] h8):=SE
theorem qtk (v27o:Nat) (v27n:Nat) (v28:Int) (v29:Int) (h8:List Int) (h9:List Int):qHd v27o v27n v28 v29 h8 h9=(
if (decide (v29<v28))=true then
gd (0≤v29)<|
gd (v29<(wi v27n))<|
(qzi (wm h9 (v27o+(wo v29)) (0:Int))).bind fun r3=>
gd ((we (h8++[r3]))*1≤140737488355328)<|
qHd v27o v27n v28 (wd .i64 (v29+(1:Int))) (h8++[r3]) h9
else
some (h8)):=SE
noncomputable def voa:FN:={f:=124,cuts:=[⟨(7,3),[1,2,4,6,17,18],false,false,[],[],[]⟩],tab:=[SS vn,SS vZ,SS vqb,SS vta],fm:=⟨true,[.val (.arr 6 (.int .u32)) [], .val (.int .i64) []]⟩}
noncomputable def qgf (a0:qoa):Option ((List Int)×Int):=voa.call [(.agg qwa (inj false qwa a0))] []
noncomputable def qGg (v17:(List Int)) (v18:Int) (b8:qoa) (b9:(List Int)) (b10:(List Int)) (h11:List Int):Option ((List Int)×Int):=voa.sem ⟨[.code (cIn (cIn (qaa (qEa (qaa (qaa (qaa (qaa (qda wg 124))))))))), .inLoop (cIn (cIn (qaa (qEa (qaa (qaa (qaa (qaa (qda wg 124))))))))), .inBlock 0, .code (qaa (qaa (qaa (qaa (qaa (qda wg 124))))))],⟨[(1,(.one (.ptr qwa 8 []))),(2,(.one (.ptr (.arr 6 (.int .u32)) 9 []))),(4,(.one (.ptr (.arr 6 (.int .u32)) 10 []))),(6,(.one (.ref (.int .u8) 11 0 (we h11) true))),(17,(.one (.agg (.arr 5 (.int .i64)) v17))),(18,(.one (.int .i64 v18)))],[(8,some (.box qwa (inj false qwa b8))),(9,some (.box (.arr 6 (.int .u32)) b9)),(10,some (.box (.arr 6 (.int .u32)) b10)),(11,some (.row (.int .u8) true h11))],12⟩⟩
theorem qGz (a0:qoa):qgf a0=(
(qDd a0).bind fun r1=>
letI c:=(wn 6 (0:Int))
if (r1 != (0:Int))=true then
some (c,r1)
else
(qVh a0 (6:Int)).bind fun r2=>
qGg (wF (wF (wF (wF (wF (wn 5 (0:Int)) 0 (1:Int)) 1 (2:Int)) 2 (3:Int)) 3 (4:Int)) 4 (6:Int)) (0:Int) a0 c c r2):=CE
theorem qMm (v17:(List Int)) (v18:Int) (b8:qoa) (b9:(List Int)) (b10:(List Int)) (h11:List Int):qGg v17 v18 b8 b9 b10 h11=(
if (decide (v18<(5:Int)))=true then
gd (0≤v18)<|
gd (v18<(5:Int))<|
letI e:=(wo v18)
letI c:=(wd .i64 ((6:Int) - (wm v17 e (0:Int))))
gd (0≤c)<|
letI d:=(we h11)
gd (c≤(wi d))<|
(qwl v18 (wM (d - (wo c)) (wea (0+(wo c)) h11))).bind fun r3=>
gd (0≤v18)<|
gd (v18<(6:Int))<|
qGg v17 (wd .i64 (v18+(1:Int))) b8 b9 (wF b10 e r3.1) h11
else
(qIn b8).bind fun r4=>
(qwl (5:Int) r4).bind fun r5=>
gd (0≤(5:Int))<|
gd ((5:Int)<(6:Int))<|
some ((wF b10 5 r5.1),(0:Int))):=SE
noncomputable def vv:FN:={f:=237,cuts:=[⟨(5,3),[0,3,4],false,false,[],[],[]⟩],tab:=[],fm:=⟨true,[.val (.int .u8) []]⟩}
noncomputable def qPc (a0:List Int):Option (Int):=vv.call [(.sl (.int .u8) false a0)] []
noncomputable def qDb (v0:List Int) (v3:Int) (v4:Int):Option (Int):=vv.sem ⟨[.code (cIn (cIn (qaa (qEa (qaa (qaa (qaa (qda wg 237)))))))), .inLoop (cIn (cIn (qaa (qEa (qaa (qaa (qaa (qda wg 237)))))))), .inBlock 0, .code (qaa (qaa (qaa (qaa (qda wg 237)))))],⟨[(0,(.one (.sl (.int .u8) false v0))),(3,(.one (.int .u8 v3))),(4,(.one (.int .i64 v4)))],[],8⟩⟩
theorem qIk (a0:List Int):qPc a0=(
letI c:=(wi (we a0))
if (decide (c<(1:Int)))=true then
none
else
gd (0≤(0:Int))<|
gd ((0:Int)<c)<|
qDb a0 (wm a0 0 (0:Int)) (1:Int)):=CE
theorem qme (v0:List Int) (v3:Int) (v4:Int):qDb v0 v3 v4=(
letI d:=(wi (we v0))
if (decide (v4<d))=true then
gd (0≤v4)<|
gd (v4<d)<|
letI c:=(wm v0 (wo v4) (0:Int))
qDb v0 (if c>v3 then c else v3) (wd .i64 (v4+(1:Int)))
else
some (v3)):=SE
noncomputable def vea:FN:={f:=189,cuts:=[⟨(4,3),[23,24,25],false,false,[],[],[]⟩],tab:=[SS vZb,SS vv],fm:=⟨true,[.val (.int .i64) []]⟩}
noncomputable def qQi (a0:qna):Option (Int):=vea.call [(.agg qya (inj false qya a0))] []
noncomputable def qsf (v23:List qNd) (v24:Int) (v25:Int):Option (Int):=vea.sem ⟨[.code (cIn (cIn (qaa (qEa (qaa (qaa (qda wg 189))))))), .inLoop (cIn (cIn (qaa (qEa (qaa (qaa (qda wg 189))))))), .inBlock 0, .code (qaa (qaa (qaa (qda wg 189))))],⟨[(23,(.one (.sl qfc false v23))),(24,(.one (.int .i64 v24))),(25,(.one (.int .i64 v25)))],[],8⟩⟩
theorem qDw (a0:qna):qQi a0=(
if (decide (a0.1<(0:Int)))=true then
some (8:Int)
else
if (decide (a0.1>(7:Int)))=true then
some (8:Int)
else
(qfo a0.1).bind fun r1=>
letI c:=(wi (we a0.2.1))
if (c != r1)=true then
some (8:Int)
else
qsf a0.2.1 c (0:Int)):=CE
theorem qhl (v23:List qNd) (v24:Int) (v25:Int):qsf v23 v24 v25=(
if (decide (v25<v24))=true then
gd (0≤v25)<|
gd (v25<(wi (we v23)))<|
(qPc (wM 15 (wea 0 (wm v23 (wo v25) (qua qfc)).2.1))).bind fun r2=>
if (decide (r2≥(193:Int)))=true then
some (8:Int)
else
qsf v23 v24 (wd .i64 (v25+(1:Int)))
else
some (0:Int)):=SE
noncomputable def vqa:FN:={f:=207,cuts:=[],tab:=[],fm:=⟨true,[.val (.int .i64) [], .val (.int .i64) []]⟩}
noncomputable def qQh (a0:Int) (a1:Int):Option (Int×Int):=vqa.call [(.int .u32 a0),(.int .i64 a1)] []
theorem qvv (a0:Int) (a1:Int):qQh a0 a1=(
if (decide (a1<(1:Int)))=true then
some ((0:Int),(2:Int))
else
if (decide (a1>(1048576:Int)))=true then
some ((0:Int),(2:Int))
else
letI c:=(wd .i64 (a1 - (1:Int)))
if ((qUa .i64 a1 c) != (0:Int))=true then
some ((0:Int),(2:Int))
else
some ((qUa .i64 (wd .i64 a0) c),(0:Int))):=CE
noncomputable def vCc:FN:={f:=218,cuts:=[],tab:=[],fm:=⟨true,[.val (.int .u8) []]⟩}
noncomputable def qAn (a0:Int):Option (Int):=vCc.call [(.int .u32 a0)] []
theorem qwv (a0:Int):qAn a0=(
gd (0≤(24:Int))<|
some (wd .u8 (wV a0 (16777216:Int)))):=CE
noncomputable def vf:FN:={f:=173,cuts:=[],tab:=[],fm:=⟨true,[.val (.slice qfc) [.nw]]⟩}
noncomputable def qfb (a0:List qNd):Option (List qNd):=vf.call [(.sl qfc false a0)] []
theorem qng (a0:List qNd):qfb a0=(
qeA (fun (r1:Bool)=>r1=true→a0=[]) fun (r1:Bool)=>
if r1=true then
some ([])
else
gd ((we ([]++a0))*16≤140737488355328)<|
some ([]++a0)):=CE
noncomputable def vcd:FN:={f:=266,cuts:=[],tab:=[],fm:=⟨true,[.val (.int .i64) []]⟩}
noncomputable def qMt:Option (Int):=vcd.call [] []
theorem qzw:qMt=(
some (193:Int)):=CE
noncomputable def vmb:FN:={f:=259,cuts:=[],tab:=[SS vcd],fm:=⟨true,[.val qab [], .val (.int .i64) []]⟩}
noncomputable def qFj (a0:Int):Option (qWa×Int):=vmb.call [(.int .u8 a0)] []
theorem qOt (a0:Int):qFj a0=(
(qMt).bind fun r1=>
if (decide ((wd .i64 a0)≥r1))=true then
some (((0:Int),((0:Int),((0:Int),()))),(2:Int))
else
if (a0==(0:Int))=true then
some (((0:Int),((0:Int),((0:Int),()))),(0:Int))
else
gd ((8:Int)≠0)<|
gd ((12:Int)≠0)<|
gd ((8:Int)≠0)<|
gd ((12:Int)≠0)<|
gd ((8:Int)≠0)<|
letI e:=(wd .i32 (wd .u8 (a0 - (1:Int))))
letI g:=(wd .i32 (wIa e (8:Int)))
letI c:=(wd .i32 (wIa g (12:Int)))
gd (0≤c)<|
gd (c<(2:Int))<|
letI f:=(wd .i32 ((1:Int) - c))
gd (0≤f)<|
gd (f<(2:Int))<|
gd (0≤(0:Int))<|
gd ((0:Int)<(2:Int))<|
gd (0≤(1:Int))<|
gd ((1:Int)<(2:Int))<|
letI d:=(wF (wF (wn 2 (0:Int)) (wo c) (wd .i32 ((Int.tmod g (12:Int))+(1:Int)))) (wo f) (Int.tmod e (8:Int)))
some (((wm d 0 (0:Int)),((wm d 1 (0:Int)),((wd .u8 c),()))),(0:Int))):=CE
noncomputable def vzc:FN:={f:=253,cuts:=[],tab:=[SS vmb],fm:=⟨true,[.val (.int .i32) [], .val (.int .i64) []]⟩}
noncomputable def qSm (a0:Int):Option (Int×Int):=vzc.call [(.int .u8 a0)] []
theorem qLt (a0:Int):qSm a0=(
(qFj a0).bind fun r1=>
some ((wd .i32 (r1.1.1+r1.1.2.1)),r1.2)):=CE
noncomputable def vWb:FN:={f:=219,cuts:=[],tab:=[SS vzc],fm:=⟨true,[.val (.int .i32) []]⟩}
noncomputable def qph (a0:qNd):Option (Int):=vWb.call [(.agg qfc (inj false qfc a0))] []
theorem qer (a0:qNd):qph a0=(
gd (0≤(0:Int))<|
gd ((0:Int)<(15:Int))<|
(qSm (wm a0.2.1 0 (0:Int))).bind fun r1=>
some (r1.1)):=CE
noncomputable def vjd:FN:={f:=169,cuts:=[],tab:=[SS vea,SS vqa,SS vCc,SS vf,SS vWb],fm:=⟨true,[.val qya [], .val (.int .i64) [], .val (.int .i64) []]⟩}
noncomputable def qfr (a0:qna) (a1:Int):Option (qna×Int×Int):=vjd.call [(.agg qya (inj false qya a0)),(.int .u32 a1)] []
theorem qqy (a0:qna) (a1:Int):qfr a0 a1=(
(qQi a0).bind fun r1=>
if (r1 != (0:Int))=true then
some (((0:Int),([],())),((0:Int),r1))
else
letI d:=(wi (we a0.2.1))
(qQh a1 d).bind fun r2=>
if (r2.2 != (0:Int))=true then
some (((0:Int),([],())),((0:Int),r2.2))
else
(qAn a1).bind fun r3=>
(qfb a0.2.1).bind fun r4=>
gd (0≤r2.1)<|
gd (r2.1<d)<|
letI k:=(wo r2.1)
letI j:=(qua qfc)
letI e:=(wm a0.2.1 k j)
if (e.1==r3)=true then
some ((a0.1,(r4,())),(r2.1,(0:Int)))
else
letI c:=(qSb .i64 r2.1 (1:Int))
gd (0≤c)<|
gd (c<d)<|
letI f:=(wm a0.2.1 (wo c) j)
if (f.1==r3)=true then
some ((a0.1,(r4,())),(c,(0:Int)))
else
gd (0≤c)<|
gd (c<d)<|
(qph f).bind fun r5=>
gd (0≤r2.1)<|
gd (r2.1<d)<|
(qph e).bind fun r6=>
letI i:=(wi (we r4))
letI g:=(wn 15 (0:Int))
if (decide (r5<r6))=true then
gd (0≤c)<|
gd (c<i)<|
some ((a0.1,((wF r4 (0+(wo c)) (r3,(g,()))),())),(c,(0:Int)))
else
gd (0≤r2.1)<|
gd (r2.1<i)<|
some ((a0.1,((wF r4 (0+k) (r3,(g,()))),())),(r2.1,(0:Int)))):=CE
noncomputable def vCa:FN:={f:=125,cuts:=[⟨(2,2),[0,6,7],false,false,[],[],[]⟩],tab:=[SS vjd],fm:=⟨false,[.box 0 qga [.pu,(.kp 1),(.kp 2), .pu, .pu, .pu, .pu], .row 1 qya, .row 2 qxa]⟩}
noncomputable def qJe (a1:(List Int)) (b0a:Int) (b0ba:qoa) (b0bbbb:(qta×(qJa×(qBa×(qpa×(qqa×((List Int)×((List Int)×Unit)))))))) (h1:List qna) (h2:List qma):Option (qba×List qna×List qma):=vCa.call [(.ptr qga 0 []),(.agg (.arr 6 (.int .u32)) a1)] [(0,(.box qga (b0a,((inj false qwa b0ba),((SV.ref 1 0 (we h1) true),((SV.ref 2 0 (we h2) true),(inj false (.pair qva (.pair qJb (.pair qVa (.pair T_api_Settings (.pair qCa (.pair (.arr 6 (.int .u32)) (.pair (.arr 6 (.int .i64)) .unit))))))) b0bbbb))))))),(1,(.row qya false h1)),(2,(.row qxa false h2))]
noncomputable def qhd (v6:(List Int)) (v7:Int) (b0a:Int) (b0ba:qoa) (b0bbbb:(qta×(qJa×(qBa×(qpa×(qqa×((List Int)×((List Int)×Unit)))))))) (h1:List qna) (h2:List qma):Option (qba×List qna×List qma):=vCa.sem ⟨[.code (cIn (cIn (qaa (qaa (qda wg 125))))), .inLoop (cIn (cIn (qaa (qaa (qda wg 125))))), .inBlock 0],⟨[(0,(.one (.ptr qga 0 []))),(6,(.one (.agg (.arr 6 (.int .u32)) v6))),(7,(.one (.int .i64 v7)))],[(0,some (.box qga (b0a,((inj false qwa b0ba),((SV.ref 1 0 (we h1) true),((SV.ref 2 0 (we h2) true),(inj false (.pair qva (.pair qJb (.pair qVa (.pair T_api_Settings (.pair qCa (.pair (.arr 6 (.int .u32)) (.pair (.arr 6 (.int .i64)) .unit))))))) b0bbbb))))))),(1,some (.row qya false h1)),(2,some (.row qxa false h2))],11⟩⟩
theorem qjq (a1:(List Int)) (b0a:Int) (b0ba:qoa) (b0bbbb:(qta×(qJa×(qBa×(qpa×(qqa×((List Int)×((List Int)×Unit)))))))) (h1:List qna) (h2:List qma):qJe a1 b0a b0ba b0bbbb h1 h2=(
qhd a1 (0:Int) b0a b0ba b0bbbb h1 h2):=CE
theorem qHh (v6:(List Int)) (v7:Int) (b0a:Int) (b0ba:qoa) (b0bbbb:(qta×(qJa×(qBa×(qpa×(qqa×((List Int)×((List Int)×Unit)))))))) (h1:List qna) (h2:List qma):qhd v6 v7 b0a b0ba b0bbbb h1 h2=(
if (decide (v7<(6:Int)))=true then
gd (0≤v7)<|
gd (v7<(6:Int))<|
gd (0≤v7)<|
letI d:=(wi (we h1))
gd (v7<d)<|
letI c:=(wo v7)
(qfr (wm h1 (0+c) (qua qya)) (wm v6 c (0:Int))).bind fun r1=>
gd (0≤v7)<|
gd (v7<d)<|
gd (0≤v7)<|
gd (v7<(6:Int))<|
qhd v6 (wd .i64 (v7+(1:Int))) b0a b0ba (b0bbbb.1,(b0bbbb.2.1,(b0bbbb.2.2.1,(b0bbbb.2.2.2.1,(b0bbbb.2.2.2.2.1,(b0bbbb.2.2.2.2.2.1,((wF b0bbbb.2.2.2.2.2.2.1 c r1.2.1),b0bbbb.2.2.2.2.2.2.2))))))) (wF h1 (0+c) r1.1) h2
else
some ((b0a,(b0ba,(h1,(h2,b0bbbb)))),(h1,h2))):=SE
noncomputable def qkl (acc:List AV→Bool):Summ wg GT:=vCa.summ mixed acc true false
noncomputable def vCb:FN:={f:=90,cuts:=[⟨(8,3),[0,2,4,6,36],false,false,[],[],[]⟩],tab:=[SS vFd,SS vzd,SS vrb,SS vOb,SS vrd,SS vuc,SS vxd,SS vEd,SS voa,(qkl (fun _=>true)).dropping],fm:=⟨false,[.val qga [], .val (.int .i64) []]⟩}
noncomputable def qch (a0:Int):Option (qba×Int):=vCb.call [(.int .i64 a0)] []
noncomputable def qtf (v0:Int) (v36:Int) (b8a:Int) (b8baa:Int) (b8babb:qqa) (b8bbbbab:Unit) (b8bbbbbaab:Unit) (b8bbbbbabab:Unit) (b8bbbbbabb:Unit) (b8bbbbbbaa:Int) (b8bbbbbbabb:Unit) (b8bbbbbbb:(qpa×(qqa×((List Int)×((List Int)×Unit))))) (b9:qoa) (b10a:Int) (b10ba:qoa) (b10bbbb:(qta×(qJa×(qBa×(qpa×(qqa×((List Int)×((List Int)×Unit)))))))) (h11:List Int) (h12:List qna) (h13:List qma) (h14:List (List Int)) (h15:List (List Int)) (h16:List (List Int)) (h17:List Int) (h18:List qna) (h19:List qma):Option (qba×Int):=vCb.sem ⟨[.code (cIn (cIn (qaa (qEa (qaa (qaa (qaa (qaa (qaa (qaa (qda wg 90))))))))))), .inLoop (cIn (cIn (qaa (qEa (qaa (qaa (qaa (qaa (qaa (qaa (qda wg 90))))))))))), .inBlock 0, .code (qaa (qaa (qaa (qaa (qaa (qaa (qaa (qda wg 90))))))))],⟨[(0,(.one (.int .i64 v0))),(2,(.one (.ptr qga 8 []))),(4,(.one (.ptr qwa 9 []))),(6,(.one (.ptr qga 10 []))),(36,(.one (.int .i64 v36)))],[(8,some (.box qga (b8a,((b8baa,((SV.ref 11 0 (we h11) true),(inj false qCa b8babb))),((SV.ref 12 0 (we h12) true),((SV.ref 13 0 (we h13) true),(((SV.ref 14 0 (we h14) true),b8bbbbab),((((SV.ref 15 0 (we h15) true),b8bbbbbaab),(((SV.ref 16 0 (we h16) true),b8bbbbbabab),b8bbbbbabb)),((b8bbbbbbaa,((SV.ref 17 0 (we h17) true),b8bbbbbbabb)),(inj false (.pair T_api_Settings (.pair qCa (.pair (.arr 6 (.int .u32)) (.pair (.arr 6 (.int .i64)) .unit)))) b8bbbbbbb)))))))))),(9,some (.box qwa (inj true qwa b9))),(10,some (.box qga (b10a,((inj true qwa b10ba),((SV.ref 18 0 (we h18) true),((SV.ref 19 0 (we h19) true),(inj true (.pair qva (.pair qJb (.pair qVa (.pair T_api_Settings (.pair qCa (.pair (.arr 6 (.int .u32)) (.pair (.arr 6 (.int .i64)) .unit))))))) b10bbbb))))))),(11,some (.row (.int .u8) true h11)),(12,some (.row qya true h12)),(13,some (.row qxa true h13)),(14,some (.row (.slice (.int .i32)) true h14)),(15,some (.row (.slice (.int .i32)) true h15)),(16,some (.row (.slice (.int .i32)) true h16)),(17,some (.row (.int .i64) true h17)),(18,some (.row qya true h18)),(19,some (.row qxa true h19))],20⟩⟩
theorem qMo (a0:Int):qch a0=(
(quy a0).bind fun r1=>
letI c:=(wn 6 (0:Int))
if (r1.2 != (0:Int))=true then
some (((0:Int),(((0:Int),([],((0:Int),()))),([],([],(([],()),((([],()),(([],()),())),(((0:Int),([],())),(((0:Int),((0:Int),())),(((0:Int),()),(c,(c,()))))))))))),(2:Int))
else
(qIv).bind fun r2=>
(quq).bind fun r3=>
(qsr).bind fun r4=>
(qBr a0).bind fun r5=>
(qRu (256:Int) (16384:Int)).bind fun r6=>
qtf a0 (0:Int) (0:Int) (0:Int) ((0:Int),()) () () () () (0:Int) () (((0:Int),((0:Int),())),(((0:Int),()),(c,(c,())))) r1.1 a0 r1.1 (r6.1,(r2,(r5.1,(r3,(r4,(c,(c,()))))))) [] [] [] [] [] [] [] [] []):=CE
theorem qll (v0:Int) (v36:Int) (b8a:Int) (b8baa:Int) (b8babb:qqa) (b8bbbbab:Unit) (b8bbbbbaab:Unit) (b8bbbbbabab:Unit) (b8bbbbbabb:Unit) (b8bbbbbbaa:Int) (b8bbbbbbabb:Unit) (b8bbbbbbb:(qpa×(qqa×((List Int)×((List Int)×Unit))))) (b9:qoa) (b10a:Int) (b10ba:qoa) (b10bbbb:(qta×(qJa×(qBa×(qpa×(qqa×((List Int)×((List Int)×Unit)))))))) (h11:List Int) (h12:List qna) (h13:List qma) (h14:List (List Int)) (h15:List (List Int)) (h16:List (List Int)) (h17:List Int) (h18:List qna) (h19:List qma):qtf v0 v36 b8a b8baa b8babb b8bbbbab b8bbbbbaab b8bbbbbabab b8bbbbbabb b8bbbbbbaa b8bbbbbbabb b8bbbbbbb b9 b10a b10ba b10bbbb h11 h12 h13 h14 h15 h16 h17 h18 h19=(
if (decide (v36<(6:Int)))=true then
(qVt v0).bind fun r7=>
(qow (255:Int)).bind fun r8=>
letI c:=(h18++[r7.1])
gd ((we c)*32≤140737488355328)<|
letI d:=(h19++[r8.1])
gd ((we d)*56≤140737488355328)<|
qtf v0 (wd .i64 (v36+(1:Int))) b8a b8baa b8babb b8bbbbab b8bbbbbaab b8bbbbbabab b8bbbbbabb b8bbbbbbaa b8bbbbbbabb b8bbbbbbb b9 b10a b10ba b10bbbb h11 h12 h13 h14 h15 h16 h17 c d
else
(qgf b9).bind fun r9=>
(qJe r9.1 b10a b10ba (b10bbbb.1,(b10bbbb.2.1,(b10bbbb.2.2.1,(b10bbbb.2.2.2.1,(b10bbbb.2.2.2.2.1,(r9.1,b10bbbb.2.2.2.2.2.2)))))) h18 h19).bind fun r10=>
some ((r10.1.1,(r10.1.2.1,(r10.2.1,(r10.2.2,r10.1.2.2.2.2)))),(0:Int))):=SE
noncomputable def vGb:FN:={f:=61,cuts:=[],tab:=[(SS vCb).dropping],fm:=⟨false,[.val qga [], .val (.int .i64) []]⟩}
noncomputable def qpj (a0:Int) (a1:Int):Option (qba×Int):=vGb.call [(.int .i64 a0),(.int .i64 a1)] []
theorem qYk (a0:Int) (a1:Int):qpj a0 a1=(
(qch a0).bind fun r1=>
if (r1.2==(0:Int))=true then
if (decide (a1>(4096:Int)))=true then
some (r1.1,(4:Int))
else
some (r1)
else
some (r1)):=CE
noncomputable def vSc:FN:={f:=62,cuts:=[],tab:=[],fm:=⟨true,[.val qsa []]⟩}
noncomputable def qNv:Option (qka):=vSc.call [] []
theorem qTk:qNv=(
some ((0:Int),((4294967295:Int),([],())))):=CE
noncomputable def vkd:FN:={f:=93,cuts:=[],tab:=[],fm:=⟨false,[.clo 128 (.slice (.int .u8))]⟩}
noncomputable def qcy (a0:List Int):Option ((List Int)):=vkd.call [(.sl (.int .u8) false a0)] []
theorem qKz (a0:List Int):qcy a0=(
some (a0)):=CE
noncomputable def vYb:FN:={f:=236,cuts:=[],tab:=[],fm:=⟨true,[.val .bool []]⟩}
noncomputable def qWo (a0:Int):Option (Bool):=vYb.call [(.int .i64 a0)] []
theorem qCr (a0:Int):qWo a0=(
if (decide (a0<(-1:Int)))=true then
some (true)
else
some (decide (a0>(1073741824:Int)))):=CE
noncomputable def vC:FN:={f:=115,cuts:=[⟨(2,3),[0,1,7,8],false,false,[],[],[]⟩],tab:=[SS vYb],fm:=⟨true,[.val (.int .i64) []]⟩}
noncomputable def qNf (a0:List Int):Option (Int):=vC.call [(.sl (.int .i64) false a0),(.func 236 [])] []
noncomputable def qqb (v0:List Int) (v7:Int) (v8:Int):Option (Int):=vC.sem ⟨[.code (cIn (cIn (qaa (qEa (qaa (qda wg 115)))))), .inLoop (cIn (cIn (qaa (qEa (qaa (qda wg 115)))))), .inBlock 0, .code (qaa (qaa (qda wg 115)))],⟨[(0,(.one (.sl (.int .i64) false v0))),(1,(.one (.func 236 []))),(7,(.one (.int .i64 v7))),(8,(.one (.int .i64 v8)))],[],8⟩⟩
theorem qRi (a0:List Int):qNf a0=(
qqb a0 (wi (we a0)) (0:Int)):=CE
theorem qPd (v0:List Int) (v7:Int) (v8:Int):qqb v0 v7 v8=(
if (decide (v8<v7))=true then
gd (0≤v8)<|
gd (v8<(wi (we v0)))<|
(qWo (wm v0 (wo v8) (0:Int))).bind fun r1=>
if r1=true then
some (v8)
else
qqb v0 v7 (wd .i64 (v8+(1:Int)))
else
some (-1:Int)):=SE
noncomputable def vU:FN:={f:=85,cuts:=[],tab:=[SS vC],fm:=⟨true,[.val .bool []]⟩}
noncomputable def qKc (a0:List Int):Option (Bool):=vU.call [(.sl (.int .i64) false a0),(.func 236 [])] []
theorem qEh (a0:List Int):qKc a0=(
(qNf a0).bind fun r1=>
some (decide (r1≥(0:Int)))):=CE
noncomputable def vxa:FN:={f:=188,cuts:=[],tab:=[SS vXa,SS vU],fm:=⟨true,[.val (.int .i64) []]⟩}
noncomputable def qSh (a0:qBa):Option (Int):=vxa.call [(.agg qVa (inj false qVa a0))] []
theorem qGv (a0:qBa):qSh a0=(
if (decide (a0.1<(0:Int)))=true then
some (8:Int)
else
if (decide (a0.1>(7:Int)))=true then
some (8:Int)
else
(qti a0.1).bind fun r1=>
if ((wi (we a0.2.1)) != r1)=true then
some (8:Int)
else
(qKc a0.2.1).bind fun r2=>
if r2=true then
some (8:Int)
else
some (0:Int)):=CE
noncomputable def vq:FN:={f:=241,cuts:=[⟨(5,3),[0,3,4],false,false,[],[],[]⟩],tab:=[],fm:=⟨true,[.val (.int .i32) []]⟩}
noncomputable def qOc (a0:List Int):Option (Int):=vq.call [(.sl (.int .i32) false a0)] []
noncomputable def qCb (v0:List Int) (v3:Int) (v4:Int):Option (Int):=vq.sem ⟨[.code (cIn (cIn (qaa (qEa (qaa (qaa (qaa (qda wg 241)))))))), .inLoop (cIn (cIn (qaa (qEa (qaa (qaa (qaa (qda wg 241)))))))), .inBlock 0, .code (qaa (qaa (qaa (qaa (qda wg 241)))))],⟨[(0,(.one (.sl (.int .i32) false v0))),(3,(.one (.int .i32 v3))),(4,(.one (.int .i64 v4)))],[],8⟩⟩
theorem qHk (a0:List Int):qOc a0=(
letI c:=(wi (we a0))
if (decide (c<(1:Int)))=true then
none
else
gd (0≤(0:Int))<|
gd ((0:Int)<c)<|
qCb a0 (wm a0 0 (0:Int)) (1:Int)):=CE
theorem qle (v0:List Int) (v3:Int) (v4:Int):qCb v0 v3 v4=(
letI d:=(wi (we v0))
if (decide (v4<d))=true then
gd (0≤v4)<|
gd (v4<d)<|
letI c:=(wm v0 (wo v4) (0:Int))
qCb v0 (if c<v3 then c else v3) (wd .i64 (v4+(1:Int)))
else
some (v3)):=SE
noncomputable def vp:FN:={f:=242,cuts:=[⟨(5,3),[0,3,4],false,false,[],[],[]⟩],tab:=[],fm:=⟨true,[.val (.int .i32) []]⟩}
noncomputable def qQc (a0:List Int):Option (Int):=vp.call [(.sl (.int .i32) false a0)] []
noncomputable def qEb (v0:List Int) (v3:Int) (v4:Int):Option (Int):=vp.sem ⟨[.code (cIn (cIn (qaa (qEa (qaa (qaa (qaa (qda wg 242)))))))), .inLoop (cIn (cIn (qaa (qEa (qaa (qaa (qaa (qda wg 242)))))))), .inBlock 0, .code (qaa (qaa (qaa (qaa (qda wg 242)))))],⟨[(0,(.one (.sl (.int .i32) false v0))),(3,(.one (.int .i32 v3))),(4,(.one (.int .i64 v4)))],[],8⟩⟩
theorem qJk (a0:List Int):qQc a0=(
letI c:=(wi (we a0))
if (decide (c<(1:Int)))=true then
none
else
gd (0≤(0:Int))<|
gd ((0:Int)<c)<|
qEb a0 (wm a0 0 (0:Int)) (1:Int)):=CE
theorem qne (v0:List Int) (v3:Int) (v4:Int):qEb v0 v3 v4=(
letI d:=(wi (we v0))
if (decide (v4<d))=true then
gd (0≤v4)<|
gd (v4<d)<|
letI c:=(wm v0 (wo v4) (0:Int))
qEb v0 (if c>v3 then c else v3) (wd .i64 (v4+(1:Int)))
else
some (v3)):=SE
noncomputable def vfc:FN:={f:=238,cuts:=[],tab:=[SS vq,SS vp],fm:=⟨true,[.val .bool []]⟩}
noncomputable def qEi (a0:List Int) (a1:Int):Option (Bool):=vfc.call [(.sl (.int .i32) false a0),(.int .i32 a1)] []
theorem qit (a0:List Int) (a1:Int):qEi a0 a1=(
if ((wi (we a0)) != (193:Int))=true then
some (true)
else
(qOc a0).bind fun r1=>
if (decide (r1<(0:Int)))=true then
some (true)
else
(qQc a0).bind fun r2=>
some (decide (r2>a1))):=CE
noncomputable def vub:FN:={f:=191,cuts:=[],tab:=[SS vfc],fm:=⟨true,[.val (.int .i64) []]⟩}
noncomputable def qwm (a0:qma):Option (Int):=vub.call [(.agg qxa (inj false qxa a0))] []
theorem qFx (a0:qma):qwm a0=(
if (decide (a0.1<(1:Int)))=true then
some (8:Int)
else
if (decide (a0.1>(1000:Int)))=true then
some (8:Int)
else
gd (0≤(1:Int))<|
gd ((1:Int)<(2:Int))<|
(qEi a0.2.1 (wm G_targets 1 (0:Int))).bind fun r1=>
if r1=true then
some (8:Int)
else
(qEi a0.2.2.1 a0.1).bind fun r2=>
if r2=true then
some (8:Int)
else
some (0:Int)):=CE
noncomputable def vIb:FN:={f:=190,cuts:=[],tab:=[SS vub],fm:=⟨true,[.val .bool []]⟩}
noncomputable def qnn (a0:qma):Option (Bool):=vIb.call [(.agg qxa (inj false qxa a0))] []
theorem qiq (a0:qma):qnn a0=(
(qwm a0).bind fun r1=>
if (r1 != (0:Int))=true then
some (true)
else
some (a0.1 != (255:Int))):=CE
noncomputable def vg:FN:={f:=239,cuts:=[⟨(2,3),[0,1,7,8],false,false,[],[],[]⟩],tab:=[SS vIb],fm:=⟨true,[.val (.int .i64) []]⟩}
noncomputable def qDc (a0:List qma):Option (Int):=vg.call [(.sl qxa false a0),(.func 190 [])] []
noncomputable def qPa (v0:List qma) (v7:Int) (v8:Int):Option (Int):=vg.sem ⟨[.code (cIn (cIn (qaa (qEa (qaa (qda wg 239)))))), .inLoop (cIn (cIn (qaa (qEa (qaa (qda wg 239)))))), .inBlock 0, .code (qaa (qaa (qda wg 239)))],⟨[(0,(.one (.sl qxa false v0))),(1,(.one (.func 190 []))),(7,(.one (.int .i64 v7))),(8,(.one (.int .i64 v8)))],[],8⟩⟩
theorem qCe (a0:List qma):qDc a0=(
qPa a0 (wi (we a0)) (0:Int)):=CE
theorem qWb (v0:List qma) (v7:Int) (v8:Int):qPa v0 v7 v8=(
if (decide (v8<v7))=true then
gd (0≤v8)<|
gd (v8<(wi (we v0)))<|
(qnn (wm v0 (wo v8) (qua qxa))).bind fun r1=>
if r1=true then
some (v8)
else
qPa v0 v7 (wd .i64 (v8+(1:Int)))
else
some (-1:Int)):=SE
noncomputable def vo:FN:={f:=192,cuts:=[],tab:=[SS vg],fm:=⟨true,[.val .bool []]⟩}
noncomputable def qrb (a0:List qma):Option (Bool):=vo.call [(.sl qxa false a0),(.func 190 [])] []
theorem qbe (a0:List qma):qrb a0=(
(qDc a0).bind fun r1=>
some (decide (r1≥(0:Int)))):=CE
noncomputable def vZa:FN:={f:=143,cuts:=[⟨(6,3),[1,53,54,55],false,false,[],[],[]⟩],tab:=[SS vn,SS vxa,SS vea,SS vo],fm:=⟨true,[.val .bool []]⟩}
noncomputable def qYl (a0:qba):Option (Bool):=vZa.call [(.agg qga (inj false qga a0))] []
noncomputable def qde (v53:List qna) (v54:Int) (v55:Int) (b8:qba):Option (Bool):=vZa.sem ⟨[.code (cIn (cIn (qaa (qEa (qaa (qaa (qaa (qda wg 143)))))))), .inLoop (cIn (cIn (qaa (qEa (qaa (qaa (qaa (qda wg 143)))))))), .inBlock 0, .code (qaa (qaa (qaa (qaa (qda wg 143)))))],⟨[(1,(.one (.ptr qga 8 []))),(53,(.one (.sl qya false v53))),(54,(.one (.int .i64 v54))),(55,(.one (.int .i64 v55)))],[(8,some (.box qga (inj false qga b8)))],9⟩⟩
theorem qIs (a0:qba):qYl a0=(
if (decide (a0.1<(0:Int)))=true then
some (false)
else
if (decide (a0.1>(7:Int)))=true then
some (false)
else
letI c:=(wi (we a0.2.2.1))
if (c != (6:Int))=true then
some (false)
else
if ((wi (we a0.2.2.2.1)) != (6:Int))=true then
some (false)
else
(qDd a0.2.1).bind fun r1=>
if (r1 != (0:Int))=true then
some (false)
else
if (a0.2.1.1 != a0.1)=true then
some (false)
else
(qSh a0.2.2.2.2.2.2.1).bind fun r2=>
if (r2 != (0:Int))=true then
some (false)
else
if (a0.2.2.2.2.2.2.1.1 != a0.1)=true then
some (false)
else
qde a0.2.2.1 c (0:Int) a0):=CE
theorem qXi (v53:List qna) (v54:Int) (v55:Int) (b8:qba):qde v53 v54 v55 b8=(
if (decide (v55<v54))=true then
gd (0≤v55)<|
gd (v55<(wi (we v53)))<|
letI e:=(wo v55)
letI c:=(wm v53 e (qua qya))
(qQi c).bind fun r3=>
if (r3 != (0:Int))=true then
some (false)
else
if (c.1 != b8.1)=true then
some (false)
else
gd (0≤v55)<|
gd (v55<(6:Int))<|
letI d:=(wm b8.2.2.2.2.2.2.2.2.2.2.1 e (0:Int))
if (decide (d<(0:Int)))=true then
some (false)
else
gd (0≤v55)<|
gd (v55<(6:Int))<|
if (decide (d≥(wi (we c.2.1))))=true then
some (false)
else
qde v53 v54 (wd .i64 (v55+(1:Int))) b8
else
(qrb b8.2.2.2.1).bind fun r4=>
some (not r4)):=SE
noncomputable def vhc:FN:={f:=193,cuts:=[],tab:=[],fm:=⟨true,[.val .bool []]⟩}
noncomputable def qqq (a0:List Int):Option (Bool):=vhc.call [(.sl (.int .i32) false a0)] []
theorem qNs (a0:List Int):qqq a0=(
some ((wi (we a0)) != (8:Int))):=CE
noncomputable def vr:FN:={f:=240,cuts:=[⟨(2,3),[0,1,7,8],false,false,[],[],[]⟩],tab:=[SS vhc],fm:=⟨true,[.val (.int .i64) []]⟩}
noncomputable def qpe (a0:List (List Int)):Option (Int):=vr.call [(.sl (.slice (.int .i32)) false a0),(.func 193 [])] []
noncomputable def qYa (v0:List (List Int)) (v7:Int) (v8:Int):Option (Int):=vr.sem ⟨[.code (cIn (cIn (qaa (qEa (qaa (qda wg 240)))))), .inLoop (cIn (cIn (qaa (qEa (qaa (qda wg 240)))))), .inBlock 0, .code (qaa (qaa (qda wg 240)))],⟨[(0,(.one (.sl (.slice (.int .i32)) false v0))),(1,(.one (.func 193 []))),(7,(.one (.int .i64 v7))),(8,(.one (.int .i64 v8)))],[],8⟩⟩
theorem qah (a0:List (List Int)):qpe a0=(
qYa a0 (wi (we a0)) (0:Int)):=CE
theorem qVc (v0:List (List Int)) (v7:Int) (v8:Int):qYa v0 v7 v8=(
if (decide (v8<v7))=true then
gd (0≤v8)<|
gd (v8<(wi (we v0)))<|
(qqq (wm v0 (wo v8) [])).bind fun r1=>
if r1=true then
some (v8)
else
qYa v0 v7 (wd .i64 (v8+(1:Int)))
else
some (-1:Int)):=SE
noncomputable def vH:FN:={f:=194,cuts:=[],tab:=[SS vr],fm:=⟨true,[.val .bool []]⟩}
noncomputable def qcc (a0:List (List Int)):Option (Bool):=vH.call [(.sl (.slice (.int .i32)) false a0),(.func 193 [])] []
theorem qeg (a0:List (List Int)):qcc a0=(
(qpe a0).bind fun r1=>
some (decide (r1≥(0:Int)))):=CE
noncomputable def vDb:FN:={f:=144,cuts:=[],tab:=[SS vH],fm:=⟨true,[.val (.int .i64) []]⟩}
noncomputable def qdm (a0:qta):Option (Int):=vDb.call [(.agg qva (inj false qva a0))] []
theorem qTw (a0:qta):qdm a0=(
letI c:=(wi (we a0.1))
if (decide (c<(1:Int)))=true then
some (8:Int)
else
if (decide (c>(256:Int)))=true then
some (8:Int)
else
(qcc a0.1).bind fun r1=>
if r1=true then
some (8:Int)
else
some (0:Int)):=CE
noncomputable def vwa:FN:={f:=195,cuts:=[⟨(4,3),[16,17,18],false,false,[],[],[]⟩],tab:=[SS vq,SS vp],fm:=⟨true,[.val (.int .i64) []]⟩}
noncomputable def qTj (a0:qta):Option (Int):=vwa.call [(.agg qva (inj false qva a0))] []
noncomputable def qGe (v16:List (List Int)) (v17:Int) (v18:Int):Option (Int):=vwa.sem ⟨[.code (cIn (cIn (qaa (qEa (qaa (qaa (qda wg 195))))))), .inLoop (cIn (cIn (qaa (qEa (qaa (qaa (qda wg 195))))))), .inBlock 0, .code (qaa (qaa (qaa (qda wg 195))))],⟨[(16,(.one (.sl (.slice (.int .i32)) false v16))),(17,(.one (.int .i64 v17))),(18,(.one (.int .i64 v18)))],[],8⟩⟩
theorem qqu (a0:qta):qTj a0=(
letI c:=(wi (we a0.1))
if (decide (c<(1:Int)))=true then
some (8:Int)
else
if (decide (c>(256:Int)))=true then
some (8:Int)
else
qGe a0.1 c (0:Int)):=CE
theorem qSj (v16:List (List Int)) (v17:Int) (v18:Int):qGe v16 v17 v18=(
if (decide (v18<v17))=true then
gd (0≤v18)<|
gd (v18<(wi (we v16)))<|
letI c:=(wo v18)
if ((wi (we (wm v16 c []))) != (33:Int))=true then
some (8:Int)
else
(qOc (wm v16 c [])).bind fun r1=>
if (decide (r1<(0:Int)))=true then
some (8:Int)
else
(qQc (wm v16 c [])).bind fun r2=>
if (decide (r2>(65535:Int)))=true then
some (8:Int)
else
qGe v16 v17 (wd .i64 (v18+(1:Int)))
else
some (0:Int)):=SE
noncomputable def vfa:FN:={f:=145,cuts:=[⟨(2,3),[9,10,11],false,false,[],[],[]⟩],tab:=[SS vwa],fm:=⟨true,[.val (.int .i64) []]⟩}
noncomputable def qlj (a0:qJa):Option (Int):=vfa.call [(.agg qJb (inj false qJb a0))] []
noncomputable def qSk (v10:Int) (v11:Int) (h8:List qta):Option (Int):=vfa.sem ⟨[.code (cIn (cIn (qaa (qEa (qaa (qda wg 145)))))), .inLoop (cIn (cIn (qaa (qEa (qaa (qda wg 145)))))), .inBlock 0, .code (qaa (qaa (qda wg 145)))],⟨[(9,(.one (.ref qva 8 0 (we h8) true))),(10,(.one (.int .i64 v10))),(11,(.one (.int .i64 v11)))],[(8,some (.row qva false h8))],9⟩⟩
theorem qix (a0:qJa):qlj a0=(
qSk (2:Int) (0:Int) [a0.1,a0.2.1]):=CE
theorem qih (v10:Int) (v11:Int) (h8:List qta):qSk v10 v11 h8=(
if (decide (v11<v10))=true then
gd (0≤v11)<|
gd (v11<(wi (we h8)))<|
letI c:=(wm h8 (0+(wo v11)) (qua qva))
(qTj c).bind fun r1=>
if (r1 != (0:Int))=true then
some (8:Int)
else
if ((wi (we c.1)) != (256:Int))=true then
some (8:Int)
else
qSk v10 (wd .i64 (v11+(1:Int))) h8
else
some (0:Int)):=SE
noncomputable def vGa:FN:={f:=146,cuts:=[],tab:=[SS vrb],fm:=⟨true,[.val (.int .i64) []]⟩}
noncomputable def qdj (a0:qpa):Option (Int):=vGa.call [(.agg T_api_Settings (inj false T_api_Settings a0))] []
theorem qWw (a0:qpa):qdj a0=(
(quq).bind fun r1=>
if (peq T_api_Settings a0 r1)=true then
some (0:Int)
else
if (decide (a0.1≥(0:Int)))=true then
if (decide (a0.1≤(1073741824:Int)))=true then
if (decide (a0.2.1≥(1:Int)))=true then
if (decide (a0.2.1≤(40:Int)))=true then
some (0:Int)
else
some (8:Int)
else
some (8:Int)
else
some (8:Int)
else
some (8:Int)):=CE
noncomputable def vJ:FN:={f:=147,cuts:=[],tab:=[],fm:=⟨true,[.val (.int .i64) []]⟩}
noncomputable def qKe (a0:qqa):Option (Int):=vJ.call [(.agg qCa (inj false qCa a0))] []
theorem qMu (a0:qqa):qKe a0=(
if (decide (a0.1<(1:Int)))=true then
some (8:Int)
else
if (decide (a0.1>(255:Int)))=true then
some (8:Int)
else
some (0:Int)):=CE
noncomputable def vYa:FN:={f:=110,cuts:=[],tab:=[SS vZa,SS vDb,SS vfa,SS vGa,SS vJ,SS voa],fm:=⟨true,[.val (.int .i64) []]⟩}
noncomputable def qpi (a0:qba):Option (Int):=vYa.call [(.agg qga (inj false qga a0))] []
theorem qJs (a0:qba):qpi a0=(
(qYl a0).bind fun r1=>
if (not r1)=true then
some (8:Int)
else
(qdm a0.2.2.2.2.1).bind fun r2=>
if (r2 != (0:Int))=true then
some (8:Int)
else
if ((wi (we a0.2.2.2.2.1.1)) != (256:Int))=true then
some (8:Int)
else
(qlj a0.2.2.2.2.2.1).bind fun r3=>
if (r3 != (0:Int))=true then
some (8:Int)
else
(qdj a0.2.2.2.2.2.2.2.1).bind fun r4=>
if (r4 != (0:Int))=true then
some (8:Int)
else
(qKe a0.2.2.2.2.2.2.2.2.1).bind fun r5=>
if (r5 != (0:Int))=true then
some (8:Int)
else
(qgf a0.2.1).bind fun r6=>
if (not (peq (.arr 6 (.int .u32)) r6.1 a0.2.2.2.2.2.2.2.2.2.1))=true then
some (8:Int)
else
some (0:Int)):=CE
noncomputable def ve:FN:={f:=96,cuts:=[],tab:=[],fm:=⟨true,[.val (.slice (.int .u8)) [.nw]]⟩}
noncomputable def qkb (a0:List Int):Option (List Int):=ve.call [(.sl (.int .u8) false a0)] []
theorem qKk (a0:List Int):qkb a0=(
qeA (fun (r1:Bool)=>r1=true→a0=[]) fun (r1:Bool)=>
if r1=true then
some ([])
else
gd ((we ([]++a0))*1≤140737488355328)<|
some ([]++a0)):=CE
noncomputable def vT:FN:={f:=170,cuts:=[],tab:=[],fm:=⟨true,[.val (.slice (.int .i64)) [.nw]]⟩}
noncomputable def qvd (a0:List Int):Option (List Int):=vT.call [(.sl (.int .i64) false a0)] []
theorem qRl (a0:List Int):qvd a0=(
qeA (fun (r1:Bool)=>r1=true→a0=[]) fun (r1:Bool)=>
if r1=true then
some ([])
else
gd ((we ([]++a0))*8≤140737488355328)<|
some ([]++a0)):=CE
noncomputable def vi:FN:={f:=171,cuts:=[],tab:=[],fm:=⟨false,[.val (.slice qya) [.nw]]⟩}
noncomputable def qob (a0:List qna):Option (List qna):=vi.call [(.sl qya false a0)] []
theorem qFf (a0:List qna):qob a0=(
qeA (fun (r1:Bool)=>r1=true→a0=[]) fun (r1:Bool)=>
if r1=true then
some ([])
else
gd ((we ([]++a0))*32≤140737488355328)<|
some ([]++a0)):=CE
noncomputable def vj:FN:={f:=172,cuts:=[],tab:=[],fm:=⟨false,[.val (.slice qxa) [.nw]]⟩}
noncomputable def qpb (a0:List qma):Option (List qma):=vj.call [(.sl qxa false a0)] []
theorem qHf (a0:List qma):qpb a0=(
qeA (fun (r1:Bool)=>r1=true→a0=[]) fun (r1:Bool)=>
if r1=true then
some ([])
else
gd ((we ([]++a0))*56≤140737488355328)<|
some ([]++a0)):=CE
noncomputable def vdb:FN:={f:=175,cuts:=[⟨(3,3),[3,6,7,8],false,false,[],[],[]⟩],tab:=[SS vb],fm:=⟨true,[.val (.slice (.slice (.int .i32))) [.nw]]⟩}
noncomputable def qGh (a0:List (List Int)):Option (List (List Int)):=vdb.call [(.sl (.slice (.int .i32)) false a0)] []
noncomputable def qIe (v6:List (List Int)) (v7:Int) (v8:Int) (h8:List (List Int)):Option (List (List Int)):=vdb.sem ⟨[.code (cIn (cIn (qaa (qEa (qaa (qaa (qda wg 175))))))), .inLoop (cIn (cIn (qaa (qEa (qaa (qaa (qda wg 175))))))), .inBlock 0, .code (qaa (qaa (qaa (qda wg 175))))],⟨[(3,(.one (.ref (.slice (.int .i32)) 8 0 (we h8) true))),(6,(.one (.sl (.slice (.int .i32)) false v6))),(7,(.one (.int .i64 v7))),(8,(.one (.int .i64 v8)))],[(8,some (.row (.slice (.int .i32)) true h8))],9⟩⟩
theorem qxu (a0:List (List Int)):qGh a0=(
qIe a0 (wi (we a0)) (0:Int) []):=CE
theorem qVj (v6:List (List Int)) (v7:Int) (v8:Int) (h8:List (List Int)):qIe v6 v7 v8 h8=(
if (decide (v8<v7))=true then
gd (0≤v8)<|
gd (v8<(wi (we v6)))<|
(qKa (wm v6 (wo v8) [])).bind fun r1=>
gd ((we (h8++[r1]))*24≤140737488355328)<|
qIe v6 v7 (wd .i64 (v8+(1:Int))) (h8++[r1])
else
some (h8)):=SE
noncomputable def vib:FN:={f:=126,cuts:=[⟨(5,3),[1,2,26,27],false,false,[],[],[]⟩],tab:=[SS ve,SS vT,(SS vi).dropping,(SS vj).dropping,SS vf,SS vb,SS vdb],fm:=⟨false,[.val qga []]⟩}
noncomputable def qmn (a0:qba):Option (qba):=vib.call [(.agg qga (inj false qga a0))] []
noncomputable def qHe (v26:Int) (v27:Int) (b8a:Int) (b8baa:Int) (b8babb:qqa) (b8bbbba:qta) (b8bbbbba:qJa) (b8bbbbbbaa:Int) (b8bbbbbbabb:Unit) (b8bbbbbbb:(qpa×(qqa×((List Int)×((List Int)×Unit))))) (b9a:Int) (b9baa:Int) (b9babb:qqa) (b9bbbbab:Unit) (b9bbbbbaab:Unit) (b9bbbbbabab:Unit) (b9bbbbbabb:Unit) (b9bbbbbbaa:Int) (b9bbbbbbabb:Unit) (b9bbbbbbb:(qpa×(qqa×((List Int)×((List Int)×Unit))))) (h10:List Int) (h11:List qna) (h12:List qma) (h13:List Int) (h14:List Int) (h15:List qna) (h16:List qma) (h17:List (List Int)) (h18:List (List Int)) (h19:List (List Int)) (h20:List Int):Option (qba):=vib.sem ⟨[.code (cIn (cIn (qaa (qEa (qaa (qaa (qaa (qaa (qda wg 126))))))))), .inLoop (cIn (cIn (qaa (qEa (qaa (qaa (qaa (qaa (qda wg 126))))))))), .inBlock 0, .code (qaa (qaa (qaa (qaa (qaa (qda wg 126))))))],⟨[(1,(.one (.ptr qga 8 []))),(2,(.one (.ptr qga 9 []))),(26,(.one (.int .i64 v26))),(27,(.one (.int .i64 v27)))],[(8,some (.box qga (b8a,((b8baa,((SV.ref 10 0 (we h10) true),(inj false qCa b8babb))),((SV.ref 11 0 (we h11) true),((SV.ref 12 0 (we h12) true),((inj false qva b8bbbba),((inj false qJb b8bbbbba),((b8bbbbbbaa,((SV.ref 13 0 (we h13) true),b8bbbbbbabb)),(inj false (.pair T_api_Settings (.pair qCa (.pair (.arr 6 (.int .u32)) (.pair (.arr 6 (.int .i64)) .unit)))) b8bbbbbbb)))))))))),(9,some (.box qga (b9a,((b9baa,((SV.ref 14 0 (we h14) true),(inj false qCa b9babb))),((SV.ref 15 0 (we h15) true),((SV.ref 16 0 (we h16) true),(((SV.ref 17 0 (we h17) true),b9bbbbab),((((SV.ref 18 0 (we h18) true),b9bbbbbaab),(((SV.ref 19 0 (we h19) true),b9bbbbbabab),b9bbbbbabb)),((b9bbbbbbaa,((SV.ref 20 0 (we h20) true),b9bbbbbbabb)),(inj false (.pair T_api_Settings (.pair qCa (.pair (.arr 6 (.int .u32)) (.pair (.arr 6 (.int .i64)) .unit)))) b9bbbbbbb)))))))))),(10,some (.row (.int .u8) true h10)),(11,some (.row qya false h11)),(12,some (.row qxa false h12)),(13,some (.row (.int .i64) true h13)),(14,some (.row (.int .u8) true h14)),(15,some (.row qya true h15)),(16,some (.row qxa true h16)),(17,some (.row (.slice (.int .i32)) true h17)),(18,some (.row (.slice (.int .i32)) true h18)),(19,some (.row (.slice (.int .i32)) true h19)),(20,some (.row (.int .i64) true h20))],21⟩⟩
theorem qwu (a0:qba):qmn a0=(
(qkb a0.2.1.2.1).bind fun r1=>
(qvd a0.2.2.2.2.2.2.1.2.1).bind fun r2=>
(qob a0.2.2.1).bind fun r3=>
(qpb a0.2.2.2.1).bind fun r4=>
letI c:=(wn 6 (0:Int))
qHe (wi (we r3)) (0:Int) a0.1 a0.2.1.1 a0.2.1.2.2 a0.2.2.2.2.1 a0.2.2.2.2.2.1 a0.2.2.2.2.2.2.1.1 a0.2.2.2.2.2.2.1.2.2 a0.2.2.2.2.2.2.2 (0:Int) (0:Int) ((0:Int),()) () () () () (0:Int) () (((0:Int),((0:Int),())),(((0:Int),()),(c,(c,())))) r1 r3 r4 r2 [] [] [] [] [] [] []):=CE
theorem qUj (v26:Int) (v27:Int) (b8a:Int) (b8baa:Int) (b8babb:qqa) (b8bbbba:qta) (b8bbbbba:qJa) (b8bbbbbbaa:Int) (b8bbbbbbabb:Unit) (b8bbbbbbb:(qpa×(qqa×((List Int)×((List Int)×Unit))))) (b9a:Int) (b9baa:Int) (b9babb:qqa) (b9bbbbab:Unit) (b9bbbbbaab:Unit) (b9bbbbbabab:Unit) (b9bbbbbabb:Unit) (b9bbbbbbaa:Int) (b9bbbbbbabb:Unit) (b9bbbbbbb:(qpa×(qqa×((List Int)×((List Int)×Unit))))) (h10:List Int) (h11:List qna) (h12:List qma) (h13:List Int) (h14:List Int) (h15:List qna) (h16:List qma) (h17:List (List Int)) (h18:List (List Int)) (h19:List (List Int)) (h20:List Int):qHe v26 v27 b8a b8baa b8babb b8bbbba b8bbbbba b8bbbbbbaa b8bbbbbbabb b8bbbbbbb b9a b9baa b9babb b9bbbbab b9bbbbbaab b9bbbbbabab b9bbbbbabb b9bbbbbbaa b9bbbbbbabb b9bbbbbbb h10 h11 h12 h13 h14 h15 h16 h17 h18 h19 h20=(
if (decide (v27<v26))=true then
gd (0≤v27)<|
letI j:=(wi (we h11))
gd (v27<j)<|
letI d:=(0+(wo v27))
letI g:=(wm h11 d (qua qya))
(qfb g.2.1).bind fun r5=>
gd (0≤v27)<|
gd (v27<j)<|
gd (0≤v27)<|
letI f:=(wi (we h12))
gd (v27<f)<|
letI k:=(qua qxa)
letI c:=(wm h12 d k)
(qKa c.2.1).bind fun r6=>
gd (0≤v27)<|
gd (v27<f)<|
(qKa c.2.2.1).bind fun r7=>
gd (0≤v27)<|
gd (v27<f)<|
gd (0≤v27)<|
gd (v27<f)<|
letI i:=(wF h12 d (c.1,(r6,c.2.2)))
letI e:=(wm i d k)
qHe v26 (wd .i64 (v27+(1:Int))) b8a b8baa b8babb b8bbbba b8bbbbba b8bbbbbbaa b8bbbbbbabb b8bbbbbbb b9a b9baa b9babb b9bbbbab b9bbbbbaab b9bbbbbabab b9bbbbbabb b9bbbbbbaa b9bbbbbbabb b9bbbbbbb h10 (wF h11 d (g.1,(r5,g.2.2))) (wF i d (e.1,(e.2.1,(r7,e.2.2.2)))) h13 h14 h15 h16 h17 h18 h19 h20
else
(qGh b8bbbba.1).bind fun r8=>
(qGh b8bbbbba.1.1).bind fun r9=>
(qGh b8bbbbba.2.1.1).bind fun r10=>
some (b8a,((b8baa,(h10,b8babb)),(h11,(h12,((r8,b8bbbba.2),(((r9,b8bbbbba.1.2),((r10,b8bbbbba.2.1.2),b8bbbbba.2.2)),((b8bbbbbbaa,(h13,b8bbbbbbabb)),b8bbbbbbb)))))))):=SE
noncomputable def vNb:FN:={f:=139,cuts:=[],tab:=[],fm:=⟨true,[.val (.int .i64) []]⟩}
noncomputable def qun (a0:Int):Option (Int):=vNb.call [(.int .u64 a0)] []
theorem qgk (a0:Int):qun a0=(
if (decide (a0≥(4294967296:Int)))=true then
gd (0≤(32:Int))<|
letI c:=(wV a0 (4294967296:Int))
if (decide (c≥(65536:Int)))=true then
gd (0≤(16:Int))<|
letI e:=(wV c (65536:Int))
if (decide (e≥(256:Int)))=true then
gd (0≤(8:Int))<|
letI g:=(wd .u8 (wV e (256:Int)))
gd (0≤g)<|
gd (g<(t44Tab1.size:Int))<|
some (wd .i64 ((56:Int)+(wd .i64 (qzt t44Tab1 (wo g)))))
else
letI l:=(wd .u8 e)
gd (0≤l)<|
gd (l<(t44Tab1.size:Int))<|
some (wd .i64 ((48:Int)+(wd .i64 (qzt t44Tab1 (wo l)))))
else
if (decide (c≥(256:Int)))=true then
gd (0≤(8:Int))<|
letI i:=(wd .u8 (wV c (256:Int)))
gd (0≤i)<|
gd (i<(t44Tab1.size:Int))<|
some (wd .i64 ((40:Int)+(wd .i64 (qzt t44Tab1 (wo i)))))
else
letI m:=(wd .u8 c)
gd (0≤m)<|
gd (m<(t44Tab1.size:Int))<|
some (wd .i64 ((32:Int)+(wd .i64 (qzt t44Tab1 (wo m)))))
else
if (decide (a0≥(65536:Int)))=true then
gd (0≤(16:Int))<|
letI d:=(wV a0 (65536:Int))
if (decide (d≥(256:Int)))=true then
gd (0≤(8:Int))<|
letI j:=(wd .u8 (wV d (256:Int)))
gd (0≤j)<|
gd (j<(t44Tab1.size:Int))<|
some (wd .i64 ((24:Int)+(wd .i64 (qzt t44Tab1 (wo j)))))
else
letI n:=(wd .u8 d)
gd (0≤n)<|
gd (n<(t44Tab1.size:Int))<|
some (wd .i64 ((16:Int)+(wd .i64 (qzt t44Tab1 (wo n)))))
else
if (decide (a0≥(256:Int)))=true then
gd (0≤(8:Int))<|
letI f:=(wd .u8 (wV a0 (256:Int)))
gd (0≤f)<|
gd (f<(t44Tab1.size:Int))<|
some (wd .i64 ((8:Int)+(wd .i64 (qzt t44Tab1 (wo f)))))
else
letI k:=(wd .u8 a0)
gd (0≤k)<|
gd (k<(t44Tab1.size:Int))<|
some (wd .i64 ((0:Int)+(wd .i64 (qzt t44Tab1 (wo k)))))):=CE
noncomputable def vma:FN:={f:=100,cuts:=[],tab:=[SS vNb],fm:=⟨true,[.val (.int .i64) []]⟩}
noncomputable def qXd (a0:Int):Option (Int):=vma.call [(.int .u64 a0)] []
theorem qGm (a0:Int):qXd a0=(
(qun a0).bind fun r1=>
some (r1)):=CE
noncomputable def vTc:FN:={f:=196,cuts:=[],tab:=[SS vma],fm:=⟨true,[.val (.int .i64) []]⟩}
noncomputable def qLu (a0:Int):Option (Int):=vTc.call [(.int .i64 a0)] []
theorem qLw (a0:Int):qLu a0=(
(qXd (wd .u64 a0)).bind fun r1=>
letI d:=(wd .i64 (r1 - (1:Int)))
if (decide (d<(4:Int)))=true then
some (a0)
else
letI e:=(wd .i64 (d - (4:Int)))
gd (0≤e)<|
letI c:=(wd .i64 (qEw .i64 (1:Int) e))
gd (c≠0)<|
some (wd .i64 (c+(Int.tmod a0 c)))):=CE
noncomputable def vLc:FN:={f:=148,cuts:=[],tab:=[SS vJ,SS vTc],fm:=⟨true,[.val (.int .i64) [], .val (.int .i64) []]⟩}
noncomputable def qsp (a0:qqa):Option (Int×Int):=vLc.call [(.agg qCa (inj false qCa a0))] []
theorem qNw (a0:qqa):qsp a0=(
(qKe a0).bind fun r1=>
if (r1 != (0:Int))=true then
some ((0:Int),r1)
else
(qLu a0.1).bind fun r2=>
some (r2,(0:Int))):=CE
noncomputable def vJc:FN:={f:=197,cuts:=[],tab:=[SS vea],fm:=⟨true,[.val (.int .i64) []]⟩}
noncomputable def qnt (a0:qna) (a1:Int) (a2:Int):Option (Int):=vJc.call [(.agg qya (inj false qya a0)),(.int .i64 a1),(.int .i64 a2)] []
theorem qsC (a0:qna) (a1:Int) (a2:Int):qnt a0 a1 a2=(
(qQi a0).bind fun r1=>
if (r1 != (0:Int))=true then
some (r1)
else
if (decide (a1<(0:Int)))=true then
some (2:Int)
else
if (decide (a1≥(wi (we a0.2.1))))=true then
some (2:Int)
else
if (decide (a2<(1:Int)))=true then
some (2:Int)
else
if (decide (a2>(15:Int)))=true then
some (2:Int)
else
some (0:Int)):=CE
noncomputable def voc:FN:={f:=149,cuts:=[],tab:=[SS vJc],fm:=⟨true,[.val (.int .u8) [], .val (.int .i64) []]⟩}
noncomputable def qWp (a0:qna) (a1:Int) (a2:Int):Option (Int×Int):=voc.call [(.agg qya (inj false qya a0)),(.int .i64 a1),(.int .i64 a2)] []
theorem qrA (a0:qna) (a1:Int) (a2:Int):qWp a0 a1 a2=(
(qnt a0 a1 a2).bind fun r1=>
if (r1 != (0:Int))=true then
some ((0:Int),r1)
else
gd (0≤a1)<|
gd (a1<(wi (we a0.2.1)))<|
letI c:=(wd .i64 (a2 - (1:Int)))
gd (0≤c)<|
gd (c<(15:Int))<|
some ((wm (wm a0.2.1 (wo a1) (qua qfc)).2.1 (wo c) (0:Int)),(0:Int))):=CE
noncomputable def vGc:FN:={f:=198,cuts:=[],tab:=[SS vub],fm:=⟨true,[.val (.int .i64) []]⟩}
noncomputable def qCt (a0:qma) (a1:Int):Option (Int):=vGc.call [(.agg qxa (inj false qxa a0)),(.int .u8 a1)] []
theorem qJD (a0:qma) (a1:Int):qCt a0 a1=(
(qwm a0).bind fun r1=>
if (r1 != (0:Int))=true then
some (r1)
else
if (decide (a1≥(193:Int)))=true then
some (2:Int)
else
some (0:Int)):=CE
noncomputable def vId:FN:={f:=150,cuts:=[],tab:=[SS vGc],fm:=⟨true,[.val (.int .i32) [], .val (.int .i64) []]⟩}
noncomputable def qKD (a0:qma) (a1:Int):Option (Int×Int):=vId.call [(.agg qxa (inj false qxa a0)),(.int .u8 a1)] []
theorem qsG (a0:qma) (a1:Int):qKD a0 a1=(
(qCt a0 a1).bind fun r1=>
if (r1 != (0:Int))=true then
some ((0:Int),r1)
else
gd (0≤a1)<|
gd (a1<(wi (we a0.2.1)))<|
some ((wm a0.2.1 (wo a1) (0:Int)),(0:Int))):=CE
noncomputable def vtb:FN:={f:=200,cuts:=[],tab:=[SS vla],fm:=⟨true,[.val .bool [], .box 0 (.int .i32) []]⟩}
noncomputable def qzm (a0:Int) (b0:Int):Option (Bool×Int):=vtb.call [(.int .i64 a0),(.ptr (.int .i32) 0 [])] [(0,(.box (.int .i32) b0))]
theorem qgp (a0:Int) (b0:Int):qzm a0 b0=(
(qhg (wd .i32 ((wd .i32 a0) - (2047:Int)))).bind fun r1=>
some ((decide (r1≥b0)),b0)):=CE
noncomputable def vAb:FN:={f:=199,cuts:=[⟨(2,3),[1,5,6],false,false,[],[],[]⟩],tab:=[SS vtb],fm:=⟨true,[.val (.int .i64) [], .box 0 (.int .i32) []]⟩}
noncomputable def qTt (a0:Int) (b0:Int):Option (Int×Int):=vAb.call [(.int .i64 a0),(.func 200 [0])] [(0,(.box (.int .i32) b0))]
noncomputable def qrf (v5:Int) (v6:Int) (b0:Int):Option (Int×Int):=vAb.sem ⟨[.code (cIn (cIn (qEa (qaa (qaa (qda wg 199)))))), .inLoop (cIn (cIn (qEa (qaa (qaa (qda wg 199)))))), .inBlock 0, .code (qaa (qaa (qaa (qda wg 199))))],⟨[(1,(.one (.func 200 [0]))),(5,(.one (.int .i64 v5))),(6,(.one (.int .i64 v6)))],[(0,some (.box (.int .i32) b0))],9⟩⟩
theorem qCw (a0:Int) (b0:Int):qTt a0 b0=(
qrf (0:Int) a0 b0):=CE
theorem qgl (v5:Int) (v6:Int) (b0:Int):qrf v5 v6 b0=(
if (decide (v5<v6))=true then
gd (0≤(1:Int))<|
letI c:=(wd .i64 (wV (wd .u64 (wd .i64 (v5+v6))) (2:Int)))
(qzm c b0).bind fun r1=>
if (not r1.1)=true then
qrf (wd .i64 (c+(1:Int))) v6 r1.2
else
qrf v5 c r1.2
else
some (v5,b0)):=SE
noncomputable def vRb:FN:={f:=151,cuts:=[],tab:=[SS vAb],fm:=⟨true,[.val (.int .i32) []]⟩}
noncomputable def qGk (a0:Int):Option (Int):=vRb.call [(.int .i32 a0)] []
theorem qbr (a0:Int):qGk a0=(
(qTt (4094:Int) a0).bind fun r1=>
some (wd .i32 ((wd .i32 r1.1) - (2047:Int)))):=CE
noncomputable def vJd:FN:={f:=243,cuts:=[],tab:=[SS vn,SS vKc],fm:=⟨true,[.val (.int .u8) [], .val .bool [], .val (.int .i64) []]⟩}
noncomputable def qEC (a0:qoa) (a1:Int):Option (Int×Bool×Int):=vJd.call [(.agg qwa (inj false qwa a0)),(.int .i64 a1)] []
theorem qxF (a0:qoa) (a1:Int):qEC a0 a1=(
(qDd a0).bind fun r1=>
if (r1 != (0:Int))=true then
some ((0:Int),(false,r1))
else
if (decide (a1<(0:Int)))=true then
some ((0:Int),(false,(2:Int)))
else
if (decide (a1≥a0.2.2.1))=true then
some ((0:Int),(false,(0:Int)))
else
letI c:=(wd .i64 (a0.2.2.1 - a1))
if (decide (c>(wi (we a0.2.1))))=true then
some ((0:Int),(false,(0:Int)))
else
(qrt a0 c).bind fun r2=>
some (r2,(true,(0:Int)))):=CE
noncomputable def vcb:FN:={f:=202,cuts:=[],tab:=[SS vJd],fm:=⟨true,[.val (.int .u8) [], .val .bool []]⟩}
noncomputable def qik (a0:qpa) (a1:qoa):Option (Int×Bool):=vcb.call [(.agg T_api_Settings (inj false T_api_Settings a0)),(.agg qwa (inj false qwa a1))] []
theorem qev (a0:qpa) (a1:qoa):qik a0 a1=(
if (decide (a0.1<(0:Int)))=true then
some ((0:Int),false)
else
(qEC a1 a0.1).bind fun r1=>
some (r1.1,r1.2.1)):=CE
noncomputable def vyb:FN:={f:=203,cuts:=[⟨(6,3),[1,5,6],false,false,[],[],[]⟩],tab:=[SS vJ,SS vma],fm:=⟨true,[.val (.slice .bool) [.nw], .val (.int .i64) []]⟩}
noncomputable def qtp (a0:qqa):Option (List Bool×Int):=vyb.call [(.agg qCa (inj false qCa a0))] []
noncomputable def qsh (v6:Int) (b8:qqa) (h9:List Bool):Option (List Bool×Int):=vyb.sem ⟨[.code (cIn (cIn (qaa (qEa (qaa (qaa (qaa (qda wg 203)))))))), .inLoop (cIn (cIn (qaa (qEa (qaa (qaa (qaa (qda wg 203)))))))), .inBlock 0, .code (qaa (qaa (qaa (qaa (qda wg 203)))))],⟨[(1,(.one (.ptr qCa 8 []))),(5,(.one (.ref .bool 9 0 (we h9) true))),(6,(.one (.int .i64 v6)))],[(8,some (.box qCa (inj false qCa b8))),(9,some (.row .bool true h9))],10⟩⟩
theorem qOw (a0:qqa):qtp a0=(
(qKe a0).bind fun r1=>
if (r1 != (0:Int))=true then
some ([],r1)
else
(qXd (wd .u64 a0.1)).bind fun r2=>
qsh (wd .i64 (r2 - (2:Int))) a0 []):=CE
theorem qml (v6:Int) (b8:qqa) (h9:List Bool):qsh v6 b8 h9=(
if (decide (v6≥(0:Int)))=true then
gd (0≤v6)<|
letI c:=(h9++[((qUa .i64 (qTl .i64 b8.1 v6) (1:Int))==(1:Int))])
gd ((we c)*1≤140737488355328)<|
qsh (wd .i64 (v6 - (1:Int))) b8 c
else
some (h9,(0:Int))):=SE
noncomputable def vMc:FN:={f:=152,cuts:=[],tab:=[SS vGa,SS vn,SS vJ,SS vcb,SS vyb],fm:=⟨true,[.val (.int .i32) [], .val (.int .i64) []]⟩}
noncomputable def qyp (a0:qpa) (a1:qoa) (a2:qqa):Option (Int×Int):=vMc.call [(.agg T_api_Settings (inj false T_api_Settings a0)),(.agg qwa (inj false qwa a1)),(.agg qCa (inj false qCa a2))] []
theorem qVw (a0:qpa) (a1:qoa) (a2:qqa):qyp a0 a1 a2=(
(qdj a0).bind fun r1=>
if (r1 != (0:Int))=true then
some ((0:Int),(8:Int))
else
(qDd a1).bind fun r2=>
if (r2 != (0:Int))=true then
some ((0:Int),(8:Int))
else
(qKe a2).bind fun r3=>
if (r3 != (0:Int))=true then
some ((0:Int),(8:Int))
else
(qik a0 a1).bind fun r4=>
(qtp a2).bind fun r5=>
if (not r4.2)=true then
some ((0:Int),(0:Int))
else
letI c:=(wi (we r5.1))
letI d:=(wd .i64 ((8:Int) - c))
gd (0≤d)<|
if ((qTl .i64 (wd .i64 ((256:Int)+(wd .i64 r4.1))) d) != a2.1)=true then
some ((0:Int),(0:Int))
else
letI e:=(wd .i64 ((7:Int) - c))
gd (0≤e)<|
if ((qUa .u8 (qTl .u8 r4.1 e) (1:Int))==(1:Int))=true then
some ((wd .i32 (wd .i64 ((50:Int)*a0.2.1))),(0:Int))
else
some ((wd .i32 (wd .i64 ((-50:Int)*a0.2.1))),(0:Int))):=CE
noncomputable def vbc:FN:={f:=206,cuts:=[],tab:=[],fm:=⟨true,[.val (.int .i32) []]⟩}
noncomputable def qno (a0:Int):Option (Int):=vbc.call [(.int .i32 a0)] []
theorem qKy (a0:Int):qno a0=(
some (if (if a0<(2047:Int) then a0 else (2047:Int))>(-2047:Int) then (if a0<(2047:Int) then a0 else (2047:Int)) else (-2047:Int))):=CE
noncomputable def vdc:FN:={f:=244,cuts:=[],tab:=[SS vbc],fm:=⟨true,[.val .bool []]⟩}
noncomputable def qoq (a0:Int):Option (Bool):=vdc.call [(.int .i32 a0)] []
theorem qKs (a0:Int):qoq a0=(
(qno a0).bind fun r1=>
some (r1 != a0)):=CE
noncomputable def vm:FN:={f:=257,cuts:=[⟨(2,3),[0,1,7,8],false,false,[],[],[]⟩],tab:=[SS vdc],fm:=⟨true,[.val (.int .i64) []]⟩}
noncomputable def qCd (a0:List Int):Option (Int):=vm.call [(.sl (.int .i32) false a0),(.func 244 [])] []
noncomputable def qTa (v0:List Int) (v7:Int) (v8:Int):Option (Int):=vm.sem ⟨[.code (cIn (cIn (qaa (qEa (qaa (qda wg 257)))))), .inLoop (cIn (cIn (qaa (qEa (qaa (qda wg 257)))))), .inBlock 0, .code (qaa (qaa (qda wg 257)))],⟨[(0,(.one (.sl (.int .i32) false v0))),(1,(.one (.func 244 []))),(7,(.one (.int .i64 v7))),(8,(.one (.int .i64 v8)))],[],8⟩⟩
theorem qcg (a0:List Int):qCd a0=(
qTa a0 (wi (we a0)) (0:Int)):=CE
theorem qAc (v0:List Int) (v7:Int) (v8:Int):qTa v0 v7 v8=(
if (decide (v8<v7))=true then
gd (0≤v8)<|
gd (v8<(wi (we v0)))<|
(qoq (wm v0 (wo v8) (0:Int))).bind fun r1=>
if r1=true then
some (v8)
else
qTa v0 v7 (wd .i64 (v8+(1:Int)))
else
some (-1:Int)):=SE
noncomputable def vB:FN:={f:=245,cuts:=[],tab:=[SS vm],fm:=⟨true,[.val .bool []]⟩}
noncomputable def qRb (a0:List Int):Option (Bool):=vB.call [(.sl (.int .i32) false a0),(.func 244 [])] []
theorem qnf (a0:List Int):qRb a0=(
(qCd a0).bind fun r1=>
some (decide (r1≥(0:Int)))):=CE
noncomputable def vEb:FN:={f:=204,cuts:=[],tab:=[SS vDb,SS vB],fm:=⟨true,[.val (.int .i64) []]⟩}
noncomputable def qcm (a0:qta) (a1:Int) (a2:List Int):Option (Int):=vEb.call [(.agg qva (inj false qva a0)),(.int .i64 a1),(.sl (.int .i32) false a2)] []
theorem qQw (a0:qta) (a1:Int) (a2:List Int):qcm a0 a1 a2=(
(qdm a0).bind fun r1=>
if (r1 != (0:Int))=true then
some (r1)
else
if (decide (a1<(0:Int)))=true then
some (2:Int)
else
if (decide (a1≥(wi (we a0.1))))=true then
some (2:Int)
else
if ((wi (we a2)) != (8:Int))=true then
some (2:Int)
else
(qRb a2).bind fun r2=>
if r2=true then
some (2:Int)
else
some (0:Int)):=CE
noncomputable def vvc:FN:={f:=247,cuts:=[],tab:=[],fm:=⟨true,[.val (.int .i32) []]⟩}
noncomputable def qDq (a0:Int):Option (Int):=vvc.call [(.int .i64 a0)] []
theorem qnB (a0:Int):qDq a0=(
some (wd .i32 (if (2147483647:Int)<(if (-2147483648:Int)>a0 then (-2147483648:Int) else a0) then (2147483647:Int) else (if (-2147483648:Int)>a0 then (-2147483648:Int) else a0)))):=CE
noncomputable def vpc:FN:={f:=205,cuts:=[⟨(7,3),[1,6,7,24,25,26],false,false,[],[],[]⟩],tab:=[qWB (fun _=>true),SS vvc],fm:=⟨true,[.val (.int .i32) [], .val (.int .i64) []]⟩}
noncomputable def qDv (a0:List Int) (a1:List Int):Option (Int×Int):=vpc.call [(.sl (.int .i32) false a0),(.sl (.int .i32) false a1)] []
noncomputable def qRh (v1:List Int) (v6:Int) (v7:Int) (v24:List Int) (v25:Int) (v26:Int):Option (Int×Int):=vpc.sem ⟨[.code (cIn (cIn (qaa (qEa (qaa (qaa (qaa (qaa (qda wg 205))))))))), .inLoop (cIn (cIn (qaa (qEa (qaa (qaa (qaa (qaa (qda wg 205))))))))), .inBlock 0, .code (qaa (qaa (qaa (qaa (qaa (qda wg 205))))))],⟨[(1,(.one (.sl (.int .i32) false v1))),(6,(.one (.int .i64 v6))),(7,(.one (.int .u64 v7))),(24,(.one (.sl (.int .i32) false v24))),(25,(.one (.int .i64 v25))),(26,(.one (.int .i64 v26)))],[],8⟩⟩
theorem qoB (a0:List Int) (a1:List Int):qDv a0 a1=(
letI d:=(wi (we a1))
letI c:=(wi (we a0))
if (decide ((if d>c then d else c)>(16:Int)))=true then
some ((0:Int),(4:Int))
else
if (c != d)=true then
some ((0:Int),(2:Int))
else
qRh a1 (0:Int) (0:Int) a0 c (0:Int)):=CE
theorem qCn (v1:List Int) (v6:Int) (v7:Int) (v24:List Int) (v25:Int) (v26:Int):qRh v1 v6 v7 v24 v25 v26=(
if (decide (v26<v25))=true then
gd (0≤v26)<|
gd (v26<(wi (we v24)))<|
gd (0≤v26)<|
gd (v26<(wi (we v1)))<|
letI i:=(wo v26)
letI c:=(wd .i64 ((wd .i64 (wm v24 i (0:Int)))*(wd .i64 (wm v1 i (0:Int)))))
(qyo v7 (wd .u64 c) (0:Int)).bind fun r1=>
gd (0≤(63:Int))<|
qRh v1 (wd .i64 ((wd .i64 (v6+(wV c (9223372036854775808:Int))))+(wd .i64 r1.2))) r1.1 v24 v25 (wd .i64 (v26+(1:Int)))
else
if (decide (v6>(0:Int)))=true then
some ((2147483647:Int),(0:Int))
else
letI g:=(v6==(-1:Int))
letI f:=(decide (v6<(-1:Int)))
letI e:=(decide (v7≤(9223372036854775807:Int)))
letI d:=(qDq (wd .i64 v7))
if (v6==(0:Int))=true then
if (decide (v7>(9223372036854775807:Int)))=true then
some ((2147483647:Int),(0:Int))
else
if f=true then
some ((-2147483648:Int),(0:Int))
else
if g=true then
if e=true then
some ((-2147483648:Int),(0:Int))
else
d.bind fun r2=>
some (r2,(0:Int))
else
d.bind fun r3=>
some (r3,(0:Int))
else
if f=true then
some ((-2147483648:Int),(0:Int))
else
if g=true then
if e=true then
some ((-2147483648:Int),(0:Int))
else
d.bind fun r4=>
some (r4,(0:Int))
else
d.bind fun r5=>
some (r5,(0:Int))):=SE
noncomputable def vwd:FN:={f:=153,cuts:=[],tab:=[SS vEb,SS vpc,SS vbc,SS vla],fm:=⟨true,[.val (.int .i32) [], .val (.int .i32) [], .val (.int .i64) []]⟩}
noncomputable def qTu (a0:qta) (a1:Int) (a2:List Int):Option (Int×Int×Int):=vwd.call [(.agg qva (inj false qva a0)),(.int .i64 a1),(.sl (.int .i32) false a2)] []
theorem qXA (a0:qta) (a1:Int) (a2:List Int):qTu a0 a1 a2=(
(qcm a0 a1 a2).bind fun r1=>
if (r1 != (0:Int))=true then
some ((0:Int),((0:Int),r1))
else
gd (0≤a1)<|
gd (a1<(wi (we a0.1)))<|
(qDv (wm a0.1 (wo a1) []) a2).bind fun r2=>
gd (0≤(16:Int))<|
(qno (wV r2.1 (65536:Int))).bind fun r3=>
(qhg r3).bind fun r4=>
some (r3,(r4,(0:Int)))):=CE
noncomputable def vTb:FN:={f:=154,cuts:=[],tab:=[SS vn,SS vZ],fm:=⟨true,[.val (.int .u8) [], .val (.int .u8) [], .val (.int .i64) []]⟩}
noncomputable def qXk (a0:qoa):Option (Int×Int×Int):=vTb.call [(.agg qwa (inj false qwa a0))] []
theorem qMr (a0:qoa):qXk a0=(
(qDd a0).bind fun r1=>
if (r1 != (0:Int))=true then
some ((0:Int),((0:Int),r1))
else
(qVh a0 (2:Int)).bind fun r2=>
gd (0≤(1:Int))<|
letI c:=(wi (we r2))
gd ((1:Int)<c)<|
gd (0≤(0:Int))<|
gd ((0:Int)<c)<|
some ((wm r2 1 (0:Int)),((wm r2 0 (0:Int)),(0:Int)))):=CE
noncomputable def vqd:FN:={f:=155,cuts:=[],tab:=[SS vqb,SS vqa],fm:=⟨true,[.val (.arr 2 (.int .i64)) [], .val (.int .i64) []]⟩}
noncomputable def qEr (a0:Int) (a1:Int) (a2:Int):Option ((List Int)×Int):=vqd.call [(.int .u8 a0),(.int .u8 a1),(.int .i64 a2)] []
theorem qfz (a0:Int) (a1:Int) (a2:Int):qEr a0 a1 a2=(
letI c:=(wn 2 (0:Int))
if (decide (a2<(1:Int)))=true then
some (c,(2:Int))
else
if (decide (a2>(255:Int)))=true then
some (c,(2:Int))
else
(qwl (7:Int) [a1,a0,(wd .u8 a2)]).bind fun r1=>
(qQh r1.1 (256:Int)).bind fun r2=>
some ((wF (wF c 0 a2) 1 r2.1),(0:Int))):=CE
noncomputable def vob:FN:={f:=248,cuts:=[],tab:=[SS vwa],fm:=⟨true,[.val (.int .i64) []]⟩}
noncomputable def qPj (a0:qta) (a1:Int):Option (Int):=vob.call [(.agg qva (inj false qva a0)),(.int .i64 a1)] []
theorem qmu (a0:qta) (a1:Int):qPj a0 a1=(
(qTj a0).bind fun r1=>
if (r1 != (0:Int))=true then
some (r1)
else
if (decide (a1<(0:Int)))=true then
some (2:Int)
else
if (decide (a1≥(wi (we a0.1))))=true then
some (2:Int)
else
some (0:Int)):=CE
noncomputable def vdd:FN:={f:=208,cuts:=[],tab:=[SS vob],fm:=⟨true,[.val (.int .i32) [], .val (.int .i64) [], .val (.int .i64) []]⟩}
noncomputable def qXl (a0:qta) (a1:Int) (a2:Int):Option (Int×Int×Int):=vdd.call [(.agg qva (inj false qva a0)),(.int .i64 a1),(.int .i32 a2)] []
theorem qIw (a0:qta) (a1:Int) (a2:Int):qXl a0 a1 a2=(
(qPj a0 a1).bind fun r1=>
if (r1 != (0:Int))=true then
some ((0:Int),((0:Int),r1))
else
if (decide (a2<(-2047:Int)))=true then
some ((0:Int),((0:Int),(2:Int)))
else
if (decide (a2>(2047:Int)))=true then
some ((0:Int),((0:Int),(2:Int)))
else
gd ((128:Int)≠0)<|
gd ((128:Int)≠0)<|
gd (0≤a1)<|
gd (a1<(wi (we a0.1)))<|
letI f:=(wd .i32 (a2+(2048:Int)))
letI c:=(wd .i64 (wIa (wd .i64 f) (128:Int)))
gd (0≤c)<|
letI g:=(wo a1)
gd (c<(wi (we (wm a0.1 g []))))<|
letI e:=(wd .i64 (c+(1:Int)))
gd (0≤e)<|
gd (e<(wi (we (wm a0.1 g []))))<|
gd ((2048:Int)≠0)<|
gd ((64:Int)≠0)<|
letI d:=(Int.tmod f (128:Int))
some ((wd .i32 (wIa (wd .i32 ((wd .i32 ((wd .i32 ((128:Int) - d))*(wm (wm a0.1 g []) (wo c) (0:Int))))+(wd .i32 (d*(wm (wm a0.1 g []) (wo e) (0:Int)))))) (2048:Int))),((wd .i64 (c+(wd .i64 (wd .i32 (wIa d (64:Int)))))),(0:Int)))):=CE
noncomputable def vud:FN:={f:=209,cuts:=[],tab:=[],fm:=⟨true,[.val .bool []]⟩}
noncomputable def qDr (a0:Int):Option (Bool):=vud.call [(.int .i32 a0)] []
theorem qez (a0:Int):qDr a0=(
if (decide (a0≥(0:Int)))=true then
some (decide (a0≤(4095:Int)))
else
some (false)):=CE
noncomputable def vhd:FN:={f:=210,cuts:=[],tab:=[],fm:=⟨true,[.val (.int .i32) []]⟩}
noncomputable def qXx (a0:Int) (a1:Int) (a2:Int):Option (Int):=vhd.call [(.int .i32 a0),(.int .i32 a1),(.int .i32 a2)] []
theorem qFq (a0:Int) (a1:Int) (a2:Int):qXx a0 a1 a2=(
gd ((4:Int)≠0)<|
gd ((2:Int)≠0)<|
gd ((2:Int)≠0)<|
letI c:=(wd .i32 (wIa (wd .i32 ((wd .i32 ((wd .i32 (wIa (wd .i32 (a0+(wd .i32 ((3:Int)*a1)))) (4:Int)))+(wd .i32 (wIa (wd .i32 (a0+a2)) (2:Int)))))+(1:Int))) (2:Int)))
some (if (if c<(4095:Int) then c else (4095:Int))>(1:Int) then (if c<(4095:Int) then c else (4095:Int)) else (1:Int))):=CE
noncomputable def vmd:FN:={f:=156,cuts:=[],tab:=[SS vfa,SS vdd,SS vud,SS vhd],fm:=⟨true,[.val (.int .i32) [], .val qbg [], .val (.int .i64) []]⟩}
noncomputable def qqo (a0:qJa) (a1:(List Int)) (a2:Int) (a3:Int):Option (Int×qXb×Int):=vmd.call [(.agg qJb (inj false qJb a0)),(.agg (.arr 2 (.int .i64)) a1),(.int .i32 a2),(.int .i32 a3)] []
theorem qGq (a0:qJa) (a1:(List Int)) (a2:Int) (a3:Int):qqo a0 a1 a2 a3=(
(qlj a0).bind fun r1=>
letI c:=(wn 2 (0:Int))
if (r1 != (0:Int))=true then
some ((0:Int),((c,(c,())),r1))
else
gd (0≤(0:Int))<|
gd ((0:Int)<(2:Int))<|
(qXl a0.1 (wm a1 0 (0:Int)) a2).bind fun r2=>
gd (0≤(1:Int))<|
gd ((1:Int)<(2:Int))<|
(qXl a0.2.1 (wm a1 1 (0:Int)) a2).bind fun r3=>
if (r2.2.2 != (0:Int))=true then
some ((0:Int),((c,(c,())),(2:Int)))
else
if (r3.2.2 != (0:Int))=true then
some ((0:Int),((c,(c,())),(2:Int)))
else
(qDr a3).bind fun r4=>
if (not r4)=true then
some ((0:Int),((c,(c,())),(2:Int)))
else
(qXx a3 r2.1 r3.1).bind fun r5=>
some (r5,((a1,((wF (wF c 0 r2.2.1) 1 r3.2.1),())),(0:Int)))):=CE
noncomputable def vFa:FN:={f:=111,cuts:=[⟨(4,3),[1,2,3,28,29,30],false,false,[],[],[]⟩],tab:=[SS vLc,SS voc,SS vId,SS vRb,SS vMc,SS vwd,SS vTb,SS vqd,SS vmd],fm:=⟨true,[.val qUb []]⟩}
noncomputable def qbh (a0:qba):Option (qkc):=vFa.call [(.agg qga (inj false qga a0))] []
noncomputable def qqd (v28:List qna) (v29:Int) (v30:Int) (b8:qba) (b9a:Int) (b9bbb:(Int×(Int×(qXb×Unit)))) (b10a:Int) (b10bbb:(Int×(Int×(qXb×Unit)))) (h11:List Int) (h12:List Int) (h13:List Int) (h14:List Int):Option (qkc):=vFa.sem ⟨[.code (cIn (cIn (qaa (qEa (qaa (qaa (qaa (qda wg 111)))))))), .inLoop (cIn (cIn (qaa (qEa (qaa (qaa (qaa (qda wg 111)))))))), .inBlock 0, .code (qaa (qaa (qaa (qaa (qda wg 111)))))],⟨[(1,(.one (.ptr qga 8 []))),(2,(.one (.ptr qUb 9 []))),(3,(.one (.ptr qUb 10 []))),(28,(.one (.sl qya false v28))),(29,(.one (.int .i64 v29))),(30,(.one (.int .i64 v30)))],[(8,some (.box qga (inj false qga b8))),(9,some (.box qUb (b9a,((SV.ref 11 0 (we h11) true),((SV.ref 12 0 (we h12) true),(inj false (.pair (.int .i32) (.pair (.int .i32) (.pair qbg .unit))) b9bbb)))))),(10,some (.box qUb (b10a,((SV.ref 13 0 (we h13) true),((SV.ref 14 0 (we h14) true),(inj false (.pair (.int .i32) (.pair (.int .i32) (.pair qbg .unit))) b10bbb)))))),(11,some (.row (.int .u8) true h11)),(12,some (.row (.int .i32) true h12)),(13,some (.row (.int .u8) true h13)),(14,some (.row (.int .i32) true h14))],15⟩⟩
theorem qKo (a0:qba):qbh a0=(
(qsp a0.2.2.2.2.2.2.2.2.1).bind fun r1=>
letI c:=(wn 2 (0:Int))
qqd a0.2.2.1 (wi (we a0.2.2.1)) (0:Int) a0 (0:Int) ((0:Int),((0:Int),((c,(c,())),()))) r1.1 ((0:Int),((0:Int),((c,(c,())),()))) [] [] [] []):=CE
theorem qbf (v28:List qna) (v29:Int) (v30:Int) (b8:qba) (b9a:Int) (b9bbb:(Int×(Int×(qXb×Unit)))) (b10a:Int) (b10bbb:(Int×(Int×(qXb×Unit)))) (h11:List Int) (h12:List Int) (h13:List Int) (h14:List Int):qqd v28 v29 v30 b8 b9a b9bbb b10a b10bbb h11 h12 h13 h14=(
if (decide (v30<v29))=true then
gd (0≤v30)<|
gd (v30<(wi (we v28)))<|
gd (0≤v30)<|
gd (v30<(6:Int))<|
letI d:=(wo v30)
(qWp (wm v28 d (qua qya)) (wm b8.2.2.2.2.2.2.2.2.2.2.1 d (0:Int)) b10a).bind fun r2=>
gd (0≤v30)<|
gd (v30<(wi (we b8.2.2.2.1)))<|
(qKD (wm b8.2.2.2.1 d (qua qxa)) r2.1).bind fun r3=>
letI e:=(h13++[r2.1])
gd ((we e)*1≤140737488355328)<|
gd ((16:Int)≠0)<|
(qGk (wd .i32 (wIa r3.1 (16:Int)))).bind fun r4=>
gd ((we (h14++[r4]))*4≤140737488355328)<|
qqd v28 v29 (wd .i64 (v30+(1:Int))) b8 b9a b9bbb b10a b10bbb h11 h12 e (h14++[r4])
else
(qyp b8.2.2.2.2.2.2.2.1 b8.2.1 b8.2.2.2.2.2.2.2.2.1).bind fun r5=>
letI c:=(h14++[r5.1,(256:Int)])
gd ((we c)*4≤140737488355328)<|
(qTu b8.2.2.2.2.1 b8.2.2.2.2.2.2.2.2.1.1 c).bind fun r6=>
(qXk b8.2.1).bind fun r7=>
(qEr r7.1 r7.2.1 b8.2.2.2.2.2.2.2.2.1.1).bind fun r8=>
(qqo b8.2.2.2.2.2.1 r8.1 r6.1 r6.2.1).bind fun r9=>
some (b10a,(h13,(c,(r6.2.1,(r9.1,(r9.2.1,b10bbb.2.2.2))))))):=SE
noncomputable def vid:FN:={f:=220,cuts:=[],tab:=[SS vb],fm:=⟨true,[.val qxa [.nw, .nw]]⟩}
noncomputable def qVr (a0:qma):Option (qma):=vid.call [(.agg qxa (inj false qxa a0))] []
theorem qVz (a0:qma):qVr a0=(
(qKa a0.2.1).bind fun r1=>
(qKa a0.2.2.1).bind fun r2=>
some (a0.1,(r1,(r2,a0.2.2.2)))):=CE
noncomputable def vGd:FN:={f:=267,cuts:=[],tab:=[],fm:=⟨true,[.val (.int .i32) [], .val (.int .i64) []]⟩}
noncomputable def qzy (a0:Int):Option (Int×Int):=vGd.call [(.int .i32 a0)] []
theorem qIC (a0:Int):qzy a0=(
if (decide (a0<(1:Int)))=true then
some ((0:Int),(2:Int))
else
if (decide (a0>(1024:Int)))=true then
some ((0:Int),(2:Int))
else
gd (a0≠0)<|
some ((wd .i32 (wIa (65536:Int) a0)),(0:Int))):=CE
noncomputable def vCd:FN:={f:=260,cuts:=[],tab:=[SS vGd],fm:=⟨true,[.val (.int .i32) [], .val (.int .i64) []]⟩}
noncomputable def qMA (a0:Int) (a1:Int):Option (Int×Int):=vCd.call [(.int .i32 a0),(.int .i32 a1)] []
theorem qLA (a0:Int) (a1:Int):qMA a0 a1=(
(qzy a1).bind fun r1=>
if (r1.2 != (0:Int))=true then
some ((0:Int),r1.2)
else
gd (0≤(16:Int))<|
some ((wd .i32 (wV (wd .i64 ((wd .i64 a0)*(wd .i64 r1.1))) (65536:Int))),(0:Int))):=CE
noncomputable def vod:FN:={f:=254,cuts:=[],tab:=[SS vCd],fm:=⟨true,[.val (.int .i32) [], .val (.int .i64) []]⟩}
noncomputable def qkr (a0:Int) (a1:Int) (a2:Int):Option (Int×Int):=vod.call [(.int .i32 a0),(.int .i32 a1),(.int .i32 a2)] []
theorem qyy (a0:Int) (a1:Int) (a2:Int):qkr a0 a1 a2=(
if (decide ((if a1<a0 then a1 else a0)<(0:Int)))=true then
some ((0:Int),(2:Int))
else
if (decide ((if a1>a0 then a1 else a0)≥(65536:Int)))=true then
some ((0:Int),(2:Int))
else
(qMA (wd .i32 (a1 - a0)) a2).bind fun r1=>
if (r1.2 != (0:Int))=true then
some ((0:Int),r1.2)
else
some ((wd .i32 (a0+r1.1)),(0:Int))):=CE
noncomputable def vxc:FN:={f:=221,cuts:=[],tab:=[SS vod],fm:=⟨false,[.val (.int .i64) [], .row 0 (.int .i32), .row 1 (.int .i32)]⟩}
noncomputable def qao (a0a:Int) (a0bbb:Unit) (a1:Int) (a2:Int) (h0:List Int) (h1:List Int):Option (Int×List Int×List Int):=vxc.call [(.agg qxa (a0a,((SV.ref 0 0 (we h0) true),((SV.ref 1 0 (we h1) true),a0bbb)))),(.int .u8 a1),(.int .u8 a2)] [(0,(.row (.int .i32) false h0)),(1,(.row (.int .i32) false h1))]
theorem qmw (a0a:Int) (a0bbb:Unit) (a1:Int) (a2:Int) (h0:List Int) (h1:List Int):qao a0a a0bbb a1 a2 h0 h1=(
gd (0≤a1)<|
letI e:=(wi (we h1))
gd (a1<e)<|
gd (0≤a1)<|
letI f:=(wi (we h0))
gd (a1<f)<|
gd (0≤a2)<|
gd (a2<(2:Int))<|
letI d:=(0+(wo a1))
letI c:=(wd .i32 ((wm h1 d (0:Int))+(1:Int)))
(qkr (wm h0 d (0:Int)) (wm G_targets (wo a2) (0:Int)) (wd .i32 ((if a0a<c then a0a else c)+(1:Int)))).bind fun r1=>
gd (0≤a1)<|
gd (a1<f)<|
gd (0≤a1)<|
gd (a1<e)<|
some (r1.2,((wF h0 d r1.1),(wF h1 d (if a0a<c then a0a else c))))):=CE
noncomputable def qDx (acc:List AV→Bool):Summ wg GT:=vxc.summ mixed acc true false
noncomputable def vwc:FN:={f:=176,cuts:=[],tab:=[SS vGc,SS vid,(qDx (fun _=>true)).dropping],fm:=⟨true,[.val qxa [], .val (.int .i64) []]⟩}
noncomputable def qbo (a0:qma) (a1:Int) (a2:Int):Option (qma×Int):=vwc.call [(.agg qxa (inj false qxa a0)),(.int .u8 a1),(.int .u8 a2)] []
theorem qnw (a0:qma) (a1:Int) (a2:Int):qbo a0 a1 a2=(
(qCt a0 a1).bind fun r1=>
if (r1 != (0:Int))=true then
some (((0:Int),([],([],()))),r1)
else
if (decide (a2>(1:Int)))=true then
some (((0:Int),([],([],()))),(2:Int))
else
(qVr a0).bind fun r2=>
(qao r2.1 r2.2.2.2 a1 a2 r2.2.1 r2.2.2.1).bind fun r3=>
if (r3.1 != (0:Int))=true then
some (((0:Int),([],([],()))),r3.1)
else
some ((r2.1,(r3.2.1,(r3.2.2,r2.2.2.2))),(0:Int))):=CE
noncomputable def vBc:FN:={f:=262,cuts:=[],tab:=[],fm:=⟨true,[.val .bool []]⟩}
noncomputable def qas (a0:Int):Option (Bool):=vBc.call [(.int .u8 a0)] []
theorem qNt (a0:Int):qas a0=(
some (decide (a0>(1:Int)))):=CE
noncomputable def vu:FN:={f:=268,cuts:=[⟨(2,3),[0,1,7,8],false,false,[],[],[]⟩],tab:=[SS vBc],fm:=⟨true,[.val (.int .i64) []]⟩}
noncomputable def qoe (a0:List Int):Option (Int):=vu.call [(.sl (.int .u8) false a0),(.func 262 [])] []
noncomputable def qac (v0:List Int) (v7:Int) (v8:Int):Option (Int):=vu.sem ⟨[.code (cIn (cIn (qaa (qEa (qaa (qda wg 268)))))), .inLoop (cIn (cIn (qaa (qEa (qaa (qda wg 268)))))), .inBlock 0, .code (qaa (qaa (qda wg 268)))],⟨[(0,(.one (.sl (.int .u8) false v0))),(1,(.one (.func 262 []))),(7,(.one (.int .i64 v7))),(8,(.one (.int .i64 v8)))],[],8⟩⟩
theorem qZg (a0:List Int):qoe a0=(
qac a0 (wi (we a0)) (0:Int)):=CE
theorem qUc (v0:List Int) (v7:Int) (v8:Int):qac v0 v7 v8=(
if (decide (v8<v7))=true then
gd (0≤v8)<|
gd (v8<(wi (we v0)))<|
(qas (wm v0 (wo v8) (0:Int))).bind fun r1=>
if r1=true then
some (v8)
else
qac v0 v7 (wd .i64 (v8+(1:Int)))
else
some (-1:Int)):=SE
noncomputable def vI:FN:={f:=261,cuts:=[],tab:=[SS vu],fm:=⟨true,[.val .bool []]⟩}
noncomputable def qbc (a0:List Int):Option (Bool):=vI.call [(.sl (.int .u8) false a0),(.func 262 [])] []
theorem qdg (a0:List Int):qbc a0=(
(qoe a0).bind fun r1=>
some (decide (r1≥(0:Int)))):=CE
noncomputable def vyc:FN:={f:=269,cuts:=[],tab:=[],fm:=⟨true,[.val (.int .i64) []]⟩}
noncomputable def qHn (a0:qWa):Option (Int):=vyc.call [(.agg qab (inj false qab a0))] []
theorem qXv (a0:qWa):qHn a0=(
if (peq qab a0 ((0:Int),((0:Int),((0:Int),()))))=true then
some (0:Int)
else
if (decide (a0.2.2.1>(1:Int)))=true then
some (8:Int)
else
gd (0≤a0.2.2.1)<|
gd (a0.2.2.1<(2:Int))<|
letI d:=(wd .u8 ((1:Int) - a0.2.2.1))
gd (0≤d)<|
gd (d<(2:Int))<|
letI c:=(wF (wF (wn 2 (0:Int)) 0 a0.1) 1 a0.2.1)
letI e:=(wm c (wo a0.2.2.1) (0:Int))
if (decide (e<(1:Int)))=true then
some (8:Int)
else
if (decide (e>(12:Int)))=true then
some (8:Int)
else
letI f:=(wm c (wo d) (0:Int))
if (decide (f<(0:Int)))=true then
some (8:Int)
else
if (decide (f>(7:Int)))=true then
some (8:Int)
else
some (0:Int)):=CE
noncomputable def vOc:FN:={f:=270,cuts:=[],tab:=[],fm:=⟨true,[.val qab []]⟩}
noncomputable def qLp (a0:qWa) (a1:Int):Option (qWa):=vOc.call [(.agg qab (inj false qab a0)),(.int .u8 a1)] []
theorem qux (a0:qWa) (a1:Int):qLp a0 a1=(
gd (0≤a1)<|
gd (a1<(2:Int))<|
gd (0≤a1)<|
gd (a1<(2:Int))<|
letI f:=(wd .u8 ((1:Int) - a1))
gd (0≤f)<|
gd (f<(2:Int))<|
letI g:=(wF (wF (wn 2 (0:Int)) 0 a0.1) 1 a0.2.1)
letI e:=(wd .i32 ((wm g (wo a1) (0:Int))+(1:Int)))
letI c:=(wF g (wo a1) (if (12:Int)<e then (12:Int) else e))
letI i:=(wm c (wo f) (0:Int))
if (decide (i>(2:Int)))=true then
gd ((2:Int)≠0)<|
gd (0≤(0:Int))<|
gd ((0:Int)<(2:Int))<|
gd (0≤(1:Int))<|
gd ((1:Int)<(2:Int))<|
letI d:=(wF c (wo f) (wd .i32 ((wd .i32 (wIa i (2:Int)))+(1:Int))))
some ((wm d 0 (0:Int)),((wm d 1 (0:Int)),(a1,())))
else
gd (0≤(0:Int))<|
gd ((0:Int)<(2:Int))<|
gd (0≤(1:Int))<|
gd ((1:Int)<(2:Int))<|
some ((wm c 0 (0:Int)),((wm c 1 (0:Int)),(a1,())))):=CE
noncomputable def vSb:FN:={f:=263,cuts:=[⟨(9,3),[2,4,31,32,33],false,false,[],[],[]⟩],tab:=[SS vyc,SS vv,SS vOc],fm:=⟨true,[.val qab [], .val (.int .i64) []]⟩}
noncomputable def qLr (a0:qWa) (a1:List Int):Option (qWa×Int):=vSb.call [(.agg qab (inj false qab a0)),(.sl (.int .u8) false a1)] []
noncomputable def qyi (v31:List Int) (v32:Int) (v33:Int) (b8:qWa) (b9:qWa):Option (qWa×Int):=vSb.sem ⟨[.code (cIn (cIn (qaa (qEa (qaa (qaa (qaa (qda wg 263)))))))), .inLoop (cIn (cIn (qaa (qEa (qaa (qaa (qaa (qda wg 263)))))))), .inBlock 1, .code (qaa (qaa (qaa (qaa (qda wg 263)))))],⟨[(2,(.one (.ptr qab 8 []))),(4,(.one (.ptr qab 9 []))),(31,(.one (.sl (.int .u8) false v31))),(32,(.one (.int .i64 v32))),(33,(.one (.int .i64 v33)))],[(8,some (.box qab (inj false qab b8))),(9,some (.box qab (inj false qab b9)))],10⟩⟩
theorem qFz (a0:qWa) (a1:List Int):qLr a0 a1=(
(qHn a0).bind fun r1=>
if (r1 != (0:Int))=true then
some (((0:Int),((0:Int),((0:Int),()))),r1)
else
letI c:=(wi (we a1))
if (decide (c>(20000:Int)))=true then
some (((0:Int),((0:Int),((0:Int),()))),(4:Int))
else
if (decide (c>(0:Int)))=true then
(qPc a1).bind fun r2=>
if (decide (r2>(1:Int)))=true then
some (((0:Int),((0:Int),((0:Int),()))),(2:Int))
else
qyi a1 c (0:Int) a0 ((0:Int),((0:Int),((0:Int),())))
else
qyi a1 c (0:Int) a0 ((0:Int),((0:Int),((0:Int),())))):=CE
theorem qKm (v31:List Int) (v32:Int) (v33:Int) (b8:qWa) (b9:qWa):qyi v31 v32 v33 b8 b9=(
if (decide (v33<v32))=true then
gd (0≤v33)<|
gd (v33<(wi (we v31)))<|
(qLp b8 (wm v31 (wo v33) (0:Int))).bind fun r3=>
qyi v31 v32 (wd .i64 (v33+(1:Int))) r3 b9
else
some (b8,(0:Int))):=SE
noncomputable def vic:FN:={f:=264,cuts:=[],tab:=[],fm:=⟨true,[.val (.int .u8) []]⟩}
noncomputable def qLl (a0:qWa):Option (Int):=vic.call [(.agg qab (inj false qab a0))] []
theorem qBs (a0:qWa):qLl a0=(
if (peq qab a0 ((0:Int),((0:Int),((0:Int),()))))=true then
some (0:Int)
else
gd (0≤a0.2.2.1)<|
gd (a0.2.2.1<(2:Int))<|
letI c:=(wd .u8 ((1:Int) - a0.2.2.1))
gd (0≤c)<|
gd (c<(2:Int))<|
letI d:=(wF (wF (wn 2 (0:Int)) 0 a0.1) 1 a0.2.1)
some (wd .u8 (wd .i32 ((wd .i32 ((wd .i32 ((wd .i32 ((wd .i32 ((wd .i32 ((12:Int)*(wd .i32 a0.2.2.1)))+(wm d (wo a0.2.2.1) (0:Int)))) - (1:Int)))*(8:Int)))+(wm d (wo c) (0:Int))))+(1:Int))))):=CE
noncomputable def vsd:FN:={f:=255,cuts:=[],tab:=[SS vmb,SS vI,SS vSb,SS vic],fm:=⟨true,[.val (.int .u8) [], .val (.int .i64) []]⟩}
noncomputable def qGx (a0:Int) (a1:List Int):Option (Int×Int):=vsd.call [(.int .u8 a0),(.sl (.int .u8) false a1)] []
theorem qmy (a0:Int) (a1:List Int):qGx a0 a1=(
(qFj a0).bind fun r1=>
if (r1.2 != (0:Int))=true then
some ((0:Int),r1.2)
else
if (decide ((wi (we a1))>(20000:Int)))=true then
some ((0:Int),(4:Int))
else
(qbc a1).bind fun r2=>
if r2=true then
some ((0:Int),(2:Int))
else
(qLr r1.1 a1).bind fun r3=>
if (r3.2 != (0:Int))=true then
some ((0:Int),r3.2)
else
(qLl r3.1).bind fun r4=>
some (r4,(0:Int))):=CE
noncomputable def vYc:FN:={f:=222,cuts:=[],tab:=[SS vsd],fm:=⟨true,[.val (.int .u8) [], .val (.int .i64) []]⟩}
noncomputable def qfp (a0:Int) (a1:Int):Option (Int×Int):=vYc.call [(.int .u8 a0),(.int .u8 a1)] []
theorem qAw (a0:Int) (a1:Int):qfp a0 a1=(
(qGx a0 [a1]).bind fun r1=>
some (r1)):=CE
noncomputable def vyd:FN:={f:=223,cuts:=[],tab:=[SS vJc,SS vf],fm:=⟨true,[.val qya [], .val (.int .i64) []]⟩}
noncomputable def qUt (a0:qna) (a1:Int) (a2:Int) (a3:Int):Option (qna×Int):=vyd.call [(.agg qya (inj false qya a0)),(.int .i64 a1),(.int .i64 a2),(.int .u8 a3)] []
theorem qpA (a0:qna) (a1:Int) (a2:Int) (a3:Int):qUt a0 a1 a2 a3=(
(qnt a0 a1 a2).bind fun r1=>
if (r1 != (0:Int))=true then
some (((0:Int),([],())),r1)
else
if (decide (a3≥(193:Int)))=true then
some (((0:Int),([],())),(2:Int))
else
(qfb a0.2.1).bind fun r2=>
gd (0≤a1)<|
gd (a1<(wi (we r2)))<|
letI d:=(wd .i64 (a2 - (1:Int)))
gd (0≤d)<|
gd (d<(15:Int))<|
letI e:=(0+(wo a1))
letI c:=(wm r2 e (qua qfc))
some ((a0.1,((wF r2 e (c.1,((wF c.2.1 (wo d) a3),c.2.2))),())),(0:Int))):=CE
noncomputable def vAd:FN:={f:=177,cuts:=[],tab:=[SS voc,SS vYc,SS vyd],fm:=⟨true,[.val qya [], .val (.int .i64) []]⟩}
noncomputable def qWt (a0:qna) (a1:Int) (a2:Int) (a3:Int):Option (qna×Int):=vAd.call [(.agg qya (inj false qya a0)),(.int .i64 a1),(.int .i64 a2),(.int .u8 a3)] []
theorem qtA (a0:qna) (a1:Int) (a2:Int) (a3:Int):qWt a0 a1 a2 a3=(
(qWp a0 a1 a2).bind fun r1=>
if (r1.2 != (0:Int))=true then
some (((0:Int),([],())),r1.2)
else
(qfp r1.1 a3).bind fun r2=>
if (r2.2 != (0:Int))=true then
some (((0:Int),([],())),r2.2)
else
(qUt a0 a1 a2 r2.1).bind fun r3=>
some (r3)):=CE
noncomputable def vfd:FN:={f:=224,cuts:=[],tab:=[],fm:=⟨true,[.val (.int .i32) []]⟩}
noncomputable def qPu (a0:Int) (a1:Bool):Option (Int):=vfd.call [(.int .i32 a0),(.bool a1)] []
theorem qPw (a0:Int) (a1:Bool):qPu a0 a1=(
if a1=true then
some (wd .i32 ((4095:Int) - a0))
else
some (wd .i32 ((0:Int) - a0))):=CE
noncomputable def vad:FN:={f:=225,cuts:=[],tab:=[],fm:=⟨true,[.val (.int .i64) [], .val (.int .i64) []]⟩}
noncomputable def qFp (a0:Int) (a1:Int):Option (Int×Int):=vad.call [(.int .i64 a0),(.int .i64 a1)] []
theorem qex (a0:Int) (a1:Int):qFp a0 a1=(
if (decide (a1<(0:Int)))=true then
some ((0:Int),(2:Int))
else
if (decide (a1>(62:Int)))=true then
some ((0:Int),(2:Int))
else
if (a1==(0:Int))=true then
some (a0,(0:Int))
else
gd (0≤a1)<|
letI c:=(wd .i64 (a1 - (1:Int)))
gd (0≤c)<|
some ((wd .i64 ((qTl .i64 a0 a1)+(qUa .i64 (qTl .i64 a0 c) (1:Int)))),(0:Int))):=CE
noncomputable def vBd:FN:={f:=226,cuts:=[],tab:=[SS vvc],fm:=⟨true,[.val (.int .i32) []]⟩}
noncomputable def qEv (a0:Int) (a1:Int):Option (Int):=vBd.call [(.int .i32 a0),(.int .i32 a1)] []
theorem qpB (a0:Int) (a1:Int):qEv a0 a1=(
(qDq (wd .i64 ((wd .i64 a0)+(wd .i64 a1)))).bind fun r1=>
some (r1)):=CE
noncomputable def vHa:FN:={f:=178,cuts:=[⟨(8,3),[1,2,3,4,10,13,37,38,39],false,false,[10,11],[],[]⟩,⟨(14,3),[1,10,13,16,56,57,58],false,false,[10,11],[],[]⟩],tab:=[SS vEb,SS vb,SS vfd,SS vad,SS vBd],fm:=⟨true,[.val qva [], .val (.int .i64) []]⟩}
noncomputable def qwp (a0:qta) (a1:Int) (a2:List Int) (a3:Int) (a4:Bool):Option (qta×Int):=vHa.call [(.agg qva (inj false qva a0)),(.int .i64 a1),(.sl (.int .i32) false a2),(.int .i32 a3),(.bool a4)] []
noncomputable def qwf (v1:Int) (v2:List Int) (v3:Int) (v4:Bool) (v37:List (List Int)) (v38:Int) (v39:Int) (b8b:Unit) (b9b:Unit) (h10:List (List Int)) (h11:List (List Int)):Option (qta×Int):=vHa.sem ⟨[.code (cIn (cIn (qaa (qEa (qaa (qaa (qaa (qaa (qda wg 178))))))))), .inLoop (cIn (cIn (qaa (qEa (qaa (qaa (qaa (qaa (qda wg 178))))))))), .inBlock 0, .code (qaa (qaa (qaa (qaa (qaa (qda wg 178))))))],⟨[(1,(.one (.int .i64 v1))),(2,(.one (.sl (.int .i32) false v2))),(3,(.one (.int .i32 v3))),(4,(.one (.bool v4))),(10,(.one (.ptr qva 8 []))),(13,(.one (.ptr qva 9 []))),(37,(.one (.sl (.slice (.int .i32)) false v37))),(38,(.one (.int .i64 v38))),(39,(.one (.int .i64 v39)))],[(8,some (.box qva ((SV.ref 10 0 (we h10) true),b8b))),(9,some (.box qva ((SV.ref 11 0 (we h11) true),b9b))),(10,some (.fam (.int .i32) h10)),(11,some (.fam (.int .i32) h11))],12⟩⟩
noncomputable def qvf (v1:Int) (v16:Int) (v56:List Int) (v57:Int) (v58:Int) (b8b:Unit) (b9b:Unit) (h10:List (List Int)) (h11:List (List Int)):Option (qta×Int):=vHa.sem ⟨[.code (cIn (cIn (qaa (qEa (qaa (qaa (qaa (qaa (qaa (qaa (qda wg 178))))))))))), .inLoop (cIn (cIn (qaa (qEa (qaa (qaa (qaa (qaa (qaa (qaa (qda wg 178))))))))))), .inBlock 2, .code (qaa (qaa (qaa (qaa (qaa (qaa (qaa (qda wg 178))))))))],⟨[(1,(.one (.int .i64 v1))),(10,(.one (.ptr qva 8 []))),(13,(.one (.ptr qva 9 []))),(16,(.one (.int .i64 v16))),(56,(.one (.sl (.int .i32) false v56))),(57,(.one (.int .i64 v57))),(58,(.one (.int .i64 v58)))],[(8,some (.box qva ((SV.ref 10 0 (we h10) true),b8b))),(9,some (.box qva ((SV.ref 11 0 (we h11) true),b9b))),(10,some (.fam (.int .i32) h10)),(11,some (.fam (.int .i32) h11))],12⟩⟩
theorem qSw (a0:qta) (a1:Int) (a2:List Int) (a3:Int) (a4:Bool):qwp a0 a1 a2 a3 a4=(
(qcm a0 a1 a2).bind fun r1=>
if (r1 != (0:Int))=true then
some (([],()),r1)
else
if (decide (a3<(0:Int)))=true then
some (([],()),(2:Int))
else
if (decide (a3>(4095:Int)))=true then
some (([],()),(2:Int))
else
qwf a1 a2 a3 a4 a0.1 (wi (we a0.1)) (0:Int) () () [] []):=CE
theorem qol (v1:Int) (v2:List Int) (v3:Int) (v4:Bool) (v37:List (List Int)) (v38:Int) (v39:Int) (b8b:Unit) (b9b:Unit) (h10:List (List Int)) (h11:List (List Int)):qwf v1 v2 v3 v4 v37 v38 v39 b8b b9b h10 h11=(
if (decide (v39<v38))=true then
gd (0≤v39)<|
gd (v39<(wi (we v37)))<|
(qKa (wm v37 (wo v39) [])).bind fun r2=>
gd ((we (h11++[r2]))*24≤140737488355328)<|
qwf v1 v2 v3 v4 v37 v38 (wd .i64 (v39+(1:Int))) b8b b9b h10 (h11++[r2])
else
(qPu v3 v4).bind fun r3=>
qvf v1 (wd .i64 ((wd .i64 r3)*(7:Int))) v2 (wi (we v2)) (0:Int) b8b b9b h10 h11):=SE
theorem qnl (v1:Int) (v16:Int) (v56:List Int) (v57:Int) (v58:Int) (b8b:Unit) (b9b:Unit) (h10:List (List Int)) (h11:List (List Int)):qvf v1 v16 v56 v57 v58 b8b b9b h10 h11=(
if (decide (v58<v57))=true then
gd (0≤v58)<|
gd (v58<(wi (we v56)))<|
letI e:=(wo v58)
(qFp (wd .i64 ((wd .i64 (wm v56 e (0:Int)))*v16)) (14:Int)).bind fun r4=>
gd (0≤v1)<|
letI d:=(wi (we h11))
gd (v1<d)<|
letI c:=(0+(wo v1))
gd (0<(we (wm h11 c [])))<|
gd (0≤v1)<|
gd (v1<d)<|
gd (0<(we (wm h11 c [])))<|
gd (0≤v58)<|
gd (v58<(wi (we (wm h11 c []))))<|
(qEv (wm (wm h11 c []) (0+e) (0:Int)) (wd .i32 r4.1)).bind fun r5=>
gd (0≤v58)<|
gd (v58<(wi (we (wm h11 c []))))<|
qvf v1 v16 v56 v57 (wd .i64 (v58+(1:Int))) b8b b9b h10 (wF h11 c (wF (wm h11 c []) (0+e) r5))
else
some ((h11,b9b),(0:Int))):=SE
noncomputable def vkb:FN:={f:=227,cuts:=[⟨(8,3),[1,2,3,8,11,31,32,33],false,false,[10,11],[],[]⟩],tab:=[SS vob,SS vb],fm:=⟨true,[.val qva [], .val (.int .i64) []]⟩}
noncomputable def qRj (a0:qta) (a1:Int) (a2:Int) (a3:Bool):Option (qta×Int):=vkb.call [(.agg qva (inj false qva a0)),(.int .i64 a1),(.int .i64 a2),(.bool a3)] []
noncomputable def qFe (v1:Int) (v2:Int) (v3:Bool) (v31:List (List Int)) (v32:Int) (v33:Int) (b8b:Unit) (b9b:Unit) (h10:List (List Int)) (h11:List (List Int)):Option (qta×Int):=vkb.sem ⟨[.code (cIn (cIn (qaa (qEa (qaa (qaa (qaa (qaa (qda wg 227))))))))), .inLoop (cIn (cIn (qaa (qEa (qaa (qaa (qaa (qaa (qda wg 227))))))))), .inBlock 0, .code (qaa (qaa (qaa (qaa (qaa (qda wg 227))))))],⟨[(1,(.one (.int .i64 v1))),(2,(.one (.int .i64 v2))),(3,(.one (.bool v3))),(8,(.one (.ptr qva 8 []))),(11,(.one (.ptr qva 9 []))),(31,(.one (.sl (.slice (.int .i32)) false v31))),(32,(.one (.int .i64 v32))),(33,(.one (.int .i64 v33)))],[(8,some (.box qva ((SV.ref 10 0 (we h10) true),b8b))),(9,some (.box qva ((SV.ref 11 0 (we h11) true),b9b))),(10,some (.fam (.int .i32) h10)),(11,some (.fam (.int .i32) h11))],12⟩⟩
theorem qpu (a0:qta) (a1:Int) (a2:Int) (a3:Bool):qRj a0 a1 a2 a3=(
(qPj a0 a1).bind fun r1=>
if (r1 != (0:Int))=true then
some (([],()),r1)
else
if (decide (a2<(0:Int)))=true then
some (([],()),(2:Int))
else
if (decide (a2≥(33:Int)))=true then
some (([],()),(2:Int))
else
qFe a1 a2 a3 a0.1 (wi (we a0.1)) (0:Int) () () [] []):=CE
theorem qQj (v1:Int) (v2:Int) (v3:Bool) (v31:List (List Int)) (v32:Int) (v33:Int) (b8b:Unit) (b9b:Unit) (h10:List (List Int)) (h11:List (List Int)):qFe v1 v2 v3 v31 v32 v33 b8b b9b h10 h11=(
if (decide (v33<v32))=true then
gd (0≤v33)<|
gd (v33<(wi (we v31)))<|
(qKa (wm v31 (wo v33) [])).bind fun r2=>
gd ((we (h11++[r2]))*24≤140737488355328)<|
qFe v1 v2 v3 v31 v32 (wd .i64 (v33+(1:Int))) b8b b9b h10 (h11++[r2])
else
letI e:=(wi (we h11))
letI d:=(0+(wo v2))
letI c:=(0+(wo v1))
if v3=true then
gd (0≤v1)<|
gd (v1<e)<|
gd (0<(we (wm h11 c [])))<|
gd (0≤v2)<|
gd (v2<(wi (we (wm h11 c []))))<|
gd ((64:Int)≠0)<|
some (((wF h11 c (wF (wm h11 c []) d (wd .i32 ((wm (wm h11 c []) d (0:Int))+(wd .i32 (wIa (wd .i32 ((65535:Int) - (wm (wm h11 c []) d (0:Int)))) (64:Int))))))),b9b),(0:Int))
else
gd (0≤v1)<|
gd (v1<e)<|
gd (0<(we (wm h11 c [])))<|
gd (0≤v2)<|
gd (v2<(wi (we (wm h11 c []))))<|
gd ((64:Int)≠0)<|
some (((wF h11 c (wF (wm h11 c []) d (wd .i32 ((wm (wm h11 c []) d (0:Int))+(wd .i32 (wIa (wd .i32 ((0:Int) - (wm (wm h11 c []) d (0:Int)))) (64:Int))))))),b9b),(0:Int))):=SE
noncomputable def vRc:FN:={f:=179,cuts:=[],tab:=[SS vfa,SS vkb],fm:=⟨true,[.val qJb [], .val (.int .i64) []]⟩}
noncomputable def qGp (a0:qJa) (a1:qXb) (a2:Bool):Option (qJa×Int):=vRc.call [(.agg qJb (inj false qJb a0)),(.agg qbg (inj false qbg a1)),(.bool a2)] []
theorem qhx (a0:qJa) (a1:qXb) (a2:Bool):qGp a0 a1 a2=(
(qlj a0).bind fun r1=>
if (r1 != (0:Int))=true then
some ((([],()),(([],()),())),r1)
else
gd (0≤(0:Int))<|
gd ((0:Int)<(2:Int))<|
gd (0≤(0:Int))<|
gd ((0:Int)<(2:Int))<|
(qRj a0.1 (wm a1.1 0 (0:Int)) (wm a1.2.1 0 (0:Int)) a2).bind fun r2=>
gd (0≤(1:Int))<|
gd ((1:Int)<(2:Int))<|
gd (0≤(1:Int))<|
gd ((1:Int)<(2:Int))<|
(qRj a0.2.1 (wm a1.1 1 (0:Int)) (wm a1.2.1 1 (0:Int)) a2).bind fun r3=>
if (r2.2 != (0:Int))=true then
some ((([],()),(([],()),())),(2:Int))
else
if (r3.2 != (0:Int))=true then
some ((([],()),(([],()),())),(2:Int))
else
some ((r2.1,(r3.1,())),(0:Int))):=CE
noncomputable def vPc:FN:={f:=228,cuts:=[],tab:=[],fm:=⟨true,[.val (.int .i64) []]⟩}
noncomputable def qKu (a0:Int) (a1:Bool):Option (Int):=vPc.call [(.int .i64 a0),(.bool a1)] []
theorem qKw (a0:Int) (a1:Bool):qKu a0 a1=(
letI c:=(wd .i64 ((2:Int)*a0))
if a1=true then
some (wd .i64 (c+(1:Int)))
else
some c):=CE
noncomputable def vWc:FN:={f:=180,cuts:=[],tab:=[SS vJ,SS vPc,SS vOb],fm:=⟨true,[.val qCa [], .val .bool [], .val (.int .u8) [], .val (.int .i64) []]⟩}
noncomputable def qrp (a0:qqa) (a1:Bool):Option (qqa×Bool×Int×Int):=vWc.call [(.agg qCa (inj false qCa a0)),(.bool a1)] []
theorem qMw (a0:qqa) (a1:Bool):qrp a0 a1=(
(qKe a0).bind fun r1=>
if (r1 != (0:Int))=true then
some (((0:Int),()),(false,((0:Int),r1)))
else
(qKu a0.1 a1).bind fun r2=>
if (decide (r2>(255:Int)))=true then
(qsr).bind fun r3=>
some (r3,(true,((wd .u8 r2),(0:Int))))
else
some ((r2,()),(false,((0:Int),(0:Int))))):=CE
noncomputable def vIc:FN:={f:=229,cuts:=[⟨(9,3),[1,4,7],false,false,[],[],[]⟩],tab:=[SS vn,SS vQ],fm:=⟨true,[.val qwa [], .val (.int .i64) []]⟩}
noncomputable def qty (a0:qoa) (a1:List Int):Option (qoa×Int):=vIc.call [(.agg qwa (inj false qwa a0)),(.sl (.int .u8) false a1)] []
noncomputable def qnp (v1:List Int) (b8a:Int) (b8bb:qqa) (b9a:Int) (b9bb:qqa) (h10:List Int) (h11:List Int):Option (qoa×Int):=vIc.sem ⟨[.code (cIn (cIn (qEa (qaa (qaa (qaa (qaa (qda wg 229)))))))), .inLoop (cIn (cIn (qEa (qaa (qaa (qaa (qaa (qda wg 229)))))))), .inBlock 1, .code (qaa (qaa (qaa (qaa (qaa (qda wg 229))))))],⟨[(1,(.one (.sl (.int .u8) false v1))),(4,(.one (.ptr qwa 8 []))),(7,(.one (.ptr qwa 9 [])))],[(8,some (.box qwa (b8a,((SV.ref 10 0 (we h10) true),(inj false qCa b8bb))))),(9,some (.box qwa (b9a,((SV.ref 11 0 (we h11) true),(inj false qCa b9bb))))),(10,some (.row (.int .u8) true h10)),(11,some (.row (.int .u8) true h11))],12⟩⟩
theorem qDC (a0:qoa) (a1:List Int):qty a0 a1=(
(qDd a0).bind fun r1=>
if (r1 != (0:Int))=true then
some (((0:Int),([],((0:Int),()))),r1)
else
letI c:=(wi (we a1))
if (decide (c>(20000:Int)))=true then
some (((0:Int),([],((0:Int),()))),(4:Int))
else
if (decide (c>(wd .i64 ((1073741824:Int) - a0.2.2.1))))=true then
some (((0:Int),([],((0:Int),()))),(16:Int))
else
(qLf a0.2.1).bind fun r2=>
qnp a1 (0:Int) ((0:Int),()) a0.1 (a0.2.2.1,()) [] r2):=CE
theorem qHo (v1:List Int) (b8a:Int) (b8bb:qqa) (b9a:Int) (b9bb:qqa) (h10:List Int) (h11:List Int):qnp v1 b8a b8bb b9a b9bb h10 h11=(
letI f:=(we v1)
if (decide ((wi f)>(0:Int)))=true then
letI g:=(we h11)
letI d:=(wi g)
gd (d≠0)<|
letI e:=(Int.tmod b9bb.1 d)
gd (0≤e)<|
gd (e≤d)<|
letI c:=(min f (g - (wo e)))
gd (0≤(wi c))<|
gd ((wi c)≤(wi f))<|
qnp (wea c v1) b8a b8bb b9a ((wd .i64 (b9bb.1+(wi c))),b9bb.2) h10 (qwb h11 (0+(wo e)) (wM c v1))
else
some ((b9a,(h11,b9bb)),(0:Int))):=SE
noncomputable def vfb:FN:={f:=230,cuts:=[⟨(3,3),[1,3,4],false,false,[],[],[]⟩],tab:=[SS vsc,SS vqb],fm:=⟨true,[.val (.int .u32) []]⟩}
noncomputable def qOf (a0:qoa):Option (Int):=vfb.call [(.agg qwa (inj false qwa a0))] []
noncomputable def qwg (v4:Int) (b8:qoa) (h9:List Int):Option (Int):=vfb.sem ⟨[.code (cIn (cIn (qaa (qEa (qaa (qaa (qda wg 230))))))), .inLoop (cIn (cIn (qaa (qEa (qaa (qaa (qda wg 230))))))), .inBlock 0, .code (qaa (qaa (qaa (qda wg 230))))],⟨[(1,(.one (.ptr qwa 8 []))),(3,(.one (.ref (.int .u8) 9 0 (we h9) true))),(4,(.one (.int .i64 v4)))],[(8,some (.box qwa (inj false qwa b8))),(9,some (.row (.int .u8) true h9))],10⟩⟩
theorem qdv (a0:qoa):qOf a0=(
qwg (4:Int) a0 []):=CE
theorem qhk (v4:Int) (b8:qoa) (h9:List Int):qwg v4 b8 h9=(
if (decide (v4>(0:Int)))=true then
(qeq b8 v4).bind fun r1=>
gd ((we (h9++[r1.1]))*1≤140737488355328)<|
qwg (wd .i64 (v4 - (1:Int))) b8 (h9++[r1.1])
else
(qwl (6:Int) h9).bind fun r2=>
some (r2.1)):=SE
noncomputable def vjb:FN:={f:=256,cuts:=[],tab:=[SS vxa,SS vqa],fm:=⟨true,[.val (.int .i64) [], .val (.int .i64) []]⟩}
noncomputable def qrk (a0:qBa) (a1:Int):Option (Int×Int):=vjb.call [(.agg qVa (inj false qVa a0)),(.int .u32 a1)] []
theorem qFv (a0:qBa) (a1:Int):qrk a0 a1=(
(qSh a0).bind fun r1=>
if (r1 != (0:Int))=true then
some ((0:Int),r1)
else
(qQh a1 (wi (we a0.2.1))).bind fun r2=>
some (r2)):=CE
noncomputable def vZc:FN:={f:=231,cuts:=[],tab:=[SS vjb],fm:=⟨true,[.val (.int .i64) [], .val (.int .i64) []]⟩}
noncomputable def qhh (a0:qBa) (a1:Int):Option (Int×Int):=vZc.call [(.agg qVa (inj false qVa a0)),(.int .u32 a1)] []
theorem qgx (a0:qBa) (a1:Int):qhh a0 a1=(
(qrk a0 a1).bind fun r1=>
if (r1.2 != (0:Int))=true then
some ((0:Int),r1.2)
else
gd (0≤r1.1)<|
gd (r1.1<(wi (we a0.2.1)))<|
some ((wm a0.2.1 (wo r1.1) (0:Int)),(0:Int))):=CE
end Go.Ab

set_option linter.unusedVariables false
set_option maxRecDepth 20000
namespace Go.Ab
open Go Go.Proofs
noncomputable def vka:FN:={f:=232,cuts:=[⟨(9,4),[1,2,3,9,10,11],false,false,[],[],[]⟩,⟨(11,7),[1,2,3,9,10,11,46],false,false,[],[],[]⟩],tab:=[SS vn],fm:=⟨true,[.val (.int .i64) [], .val (.int .i64) []]⟩}
noncomputable def qef (a0:qoa) (a1:Int) (a2:Int):Option (Int×Int):=vka.call [(.agg qwa (inj false qwa a0)),(.int .i64 a1),(.int .i64 a2)] []
noncomputable def qed (v1:Int) (v2:Int) (v9:Int) (v10:Int) (v11:Int) (b8:qoa):Option (Int×Int):=vka.sem ⟨[.code (cIn (cIn (qEa (qaa (qaa (qaa (qaa (qaa (qaa (cIn (qaa (qda wg 232)))))))))))), .inLoop (cIn (cIn (qEa (qaa (qaa (qaa (qaa (qaa (qaa (cIn (qaa (qda wg 232)))))))))))), .inBlock 0, .code (qaa (qaa (qaa (qaa (qaa (qaa (qaa (cIn (qaa (qda wg 232)))))))))), .inScope (cIn (qaa (qda wg 232)))],⟨[(1,(.one (.int .i64 v1))),(2,(.one (.int .i64 v2))),(3,(.one (.ptr qwa 8 []))),(9,(.one (.int .i64 v9))),(10,(.one (.int .i64 v10))),(11,(.one (.int .i64 v11)))],[(8,some (.box qwa (inj false qwa b8)))],9⟩⟩
noncomputable def qCf (v1:Int) (v2:Int) (v9:Int) (v10:Int) (v11:Int) (v46:Int) (b8:qoa):Option (Int×Int):=vka.sem ⟨[.code (cIn (cIn (qaa (cIn (qaa (cIn (cIn (qEa (qaa (qaa (qaa (qaa (qaa (qaa (cIn (qaa (qda wg 232))))))))))))))))), .inLoop (cIn (cIn (qaa (cIn (qaa (cIn (cIn (qEa (qaa (qaa (qaa (qaa (qaa (qaa (cIn (qaa (qda wg 232))))))))))))))))), .inBlock 2, .inBlock 1, .inLoop (cIn (cIn (qEa (qaa (qaa (qaa (qaa (qaa (qaa (cIn (qaa (qda wg 232)))))))))))), .inBlock 0, .code (qaa (qaa (qaa (qaa (qaa (qaa (qaa (cIn (qaa (qda wg 232)))))))))), .inScope (cIn (qaa (qda wg 232)))],⟨[(1,(.one (.int .i64 v1))),(2,(.one (.int .i64 v2))),(3,(.one (.ptr qwa 8 []))),(9,(.one (.int .i64 v9))),(10,(.one (.int .i64 v10))),(11,(.one (.int .i64 v11))),(46,(.one (.int .i64 v46)))],[(8,some (.box qwa (inj false qwa b8)))],9⟩⟩
theorem qZs (a0:qoa) (a1:Int) (a2:Int):qef a0 a1 a2=(
(qDd a0).bind fun r1=>
if (r1 != (0:Int))=true then
some ((0:Int),r1)
else
if (decide (a1<(0:Int)))=true then
some ((0:Int),(2:Int))
else
if (decide (a1>a0.2.2.1))=true then
some ((0:Int),(2:Int))
else
if (decide (a2<(0:Int)))=true then
some ((0:Int),(2:Int))
else
letI d:=(wi (we a0.2.1))
letI c:=(wd .i64 (a1 - (wd .i64 (a0.2.2.1 - d))))
qed a1 a2 d (if c<a1 then c else a1) (0:Int) a0):=CE
theorem qjj (v1:Int) (v2:Int) (v9:Int) (v10:Int) (v11:Int) (b8:qoa):qed v1 v2 v9 v10 v11 b8=(
if (decide (v11<(if v2<v10 then v2 else v10)))=true then
qCf v1 v2 v9 v10 v11 (0:Int) b8
else
some (v11,(0:Int))):=SE
theorem qij (v1:Int) (v2:Int) (v9:Int) (v10:Int) (v11:Int) (v46:Int) (b8:qoa):qCf v1 v2 v9 v10 v11 v46 b8=(
if (decide (v46<(4:Int)))=true then
letI c:=(wd .i64 (v11+(1:Int)))
if (decide (c>(if v2<v10 then v2 else v10)))=true then
some (v11,(0:Int))
else
letI d:=(wd .i64 (v9 - (1:Int)))
letI f:=(qUa .i64 (wd .i64 (v1 - c)) d)
gd (0≤f)<|
letI g:=(wi (we b8.2.1))
gd (f<g)<|
letI e:=(qUa .i64 (wd .i64 (b8.2.2.1 - c)) d)
gd (0≤e)<|
gd (e<g)<|
if ((wm b8.2.1 (wo f) (0:Int)) != (wm b8.2.1 (wo e) (0:Int)))=true then
some (v11,(0:Int))
else
qCf v1 v2 v9 v10 c (wd .i64 (v46+(1:Int))) b8
else
qed v1 v2 v9 v10 v11 b8):=SE
noncomputable def vpd:FN:={f:=233,cuts:=[],tab:=[SS vjb,SS vT],fm:=⟨true,[.val qVa [], .val (.int .i64) []]⟩}
noncomputable def qgh (a0:qBa) (a1:Int) (a2:Int):Option (qBa×Int):=vpd.call [(.agg qVa (inj false qVa a0)),(.int .u32 a1),(.int .i64 a2)] []
theorem qbz (a0:qBa) (a1:Int) (a2:Int):qgh a0 a1 a2=(
(qrk a0 a1).bind fun r1=>
if (r1.2 != (0:Int))=true then
some (((0:Int),([],())),r1.2)
else
if (decide (a2<(0:Int)))=true then
some (((0:Int),([],())),(2:Int))
else
if (decide (a2>(1073741824:Int)))=true then
some (((0:Int),([],())),(2:Int))
else
(qvd a0.2.1).bind fun r2=>
gd (0≤r1.1)<|
gd (r1.1<(wi (we r2)))<|
some ((a0.1,((wF r2 (0+(wo r1.1)) a2),())),(0:Int))):=CE
noncomputable def vvd:FN:={f:=181,cuts:=[],tab:=[SS vGa,SS vn,SS vxa,SS vrb,SS vcb,SS vIc,SS vfb,SS vZc,SS vka,SS vpd],fm:=⟨true,[.val T_api_Settings [], .val qwa [], .val qVa [], .val (.int .i64) []]⟩}
noncomputable def qvr (a0:qpa) (a1:qoa) (a2:qBa) (a3:Int):Option (qpa×qoa×qBa×Int):=vvd.call [(.agg T_api_Settings (inj false T_api_Settings a0)),(.agg qwa (inj false qwa a1)),(.agg qVa (inj false qVa a2)),(.int .u8 a3)] []
theorem qPy (a0:qpa) (a1:qoa) (a2:qBa) (a3:Int):qvr a0 a1 a2 a3=(
(qdj a0).bind fun r1=>
if (r1 != (0:Int))=true then
some (((0:Int),((0:Int),())),(((0:Int),([],((0:Int),()))),(((0:Int),([],())),(8:Int))))
else
(qDd a1).bind fun r2=>
if (r2 != (0:Int))=true then
some (((0:Int),((0:Int),())),(((0:Int),([],((0:Int),()))),(((0:Int),([],())),(8:Int))))
else
(qSh a2).bind fun r3=>
if (r3 != (0:Int))=true then
some (((0:Int),((0:Int),())),(((0:Int),([],((0:Int),()))),(((0:Int),([],())),(8:Int))))
else
(quq).bind fun r4=>
(qik a0 a1).bind fun r5=>
letI k:=(qty a1 [a3])
letI j:=(decide (r4.1<(0:Int)))
if r5.2=true then
if (r5.1==a3)=true then
if (decide (a0.1<(1073741824:Int)))=true then
k.bind fun r6=>
if (r6.2 != (0:Int))=true then
some (((0:Int),((0:Int),())),(((0:Int),([],((0:Int),()))),(((0:Int),([],())),r6.2)))
else
(qOf r6.1).bind fun r7=>
(qhh a2 r7).bind fun r8=>
letI i:=(qgh a2 r7 r6.1.2.2.1)
letI d:=(wd .i64 (a0.1+(1:Int)))
letI c:=(wd .i64 (a0.2.1+(1:Int)))
if (decide (d<(0:Int)))=true then
if (decide (r8.1≥(0:Int)))=true then
if (decide (r8.1≤r6.1.2.2.1))=true then
(qef r6.1 r8.1 (40:Int)).bind fun r9=>
if (decide (r9.1≥(3:Int)))=true then
i.bind fun r10=>
some ((r8.1,(r9.1,())),(r6.1,(r10.1,(0:Int))))
else
i.bind fun r11=>
some ((d,((if (40:Int)<c then (40:Int) else c),())),(r6.1,(r11.1,(0:Int))))
else
i.bind fun r12=>
some ((d,((if (40:Int)<c then (40:Int) else c),())),(r6.1,(r12.1,(0:Int))))
else
i.bind fun r13=>
some ((d,((if (40:Int)<c then (40:Int) else c),())),(r6.1,(r13.1,(0:Int))))
else
i.bind fun r14=>
some ((d,((if (40:Int)<c then (40:Int) else c),())),(r6.1,(r14.1,(0:Int))))
else
k.bind fun r15=>
if (r15.2 != (0:Int))=true then
some (((0:Int),((0:Int),())),(((0:Int),([],((0:Int),()))),(((0:Int),([],())),r15.2)))
else
(qOf r15.1).bind fun r16=>
(qhh a2 r16).bind fun r17=>
letI e:=(qgh a2 r16 r15.1.2.2.1)
if j=true then
if (decide (r17.1≥(0:Int)))=true then
if (decide (r17.1≤r15.1.2.2.1))=true then
(qef r15.1 r17.1 (40:Int)).bind fun r18=>
if (decide (r18.1≥(3:Int)))=true then
e.bind fun r19=>
some ((r17.1,(r18.1,())),(r15.1,(r19.1,(0:Int))))
else
e.bind fun r20=>
some (r4,(r15.1,(r20.1,(0:Int))))
else
e.bind fun r21=>
some (r4,(r15.1,(r21.1,(0:Int))))
else
e.bind fun r22=>
some (r4,(r15.1,(r22.1,(0:Int))))
else
e.bind fun r23=>
some (r4,(r15.1,(r23.1,(0:Int))))
else
k.bind fun r24=>
if (r24.2 != (0:Int))=true then
some (((0:Int),((0:Int),())),(((0:Int),([],((0:Int),()))),(((0:Int),([],())),r24.2)))
else
(qOf r24.1).bind fun r25=>
(qhh a2 r25).bind fun r26=>
letI f:=(qgh a2 r25 r24.1.2.2.1)
if j=true then
if (decide (r26.1≥(0:Int)))=true then
if (decide (r26.1≤r24.1.2.2.1))=true then
(qef r24.1 r26.1 (40:Int)).bind fun r27=>
if (decide (r27.1≥(3:Int)))=true then
f.bind fun r28=>
some ((r26.1,(r27.1,())),(r24.1,(r28.1,(0:Int))))
else
f.bind fun r29=>
some (r4,(r24.1,(r29.1,(0:Int))))
else
f.bind fun r30=>
some (r4,(r24.1,(r30.1,(0:Int))))
else
f.bind fun r31=>
some (r4,(r24.1,(r31.1,(0:Int))))
else
f.bind fun r32=>
some (r4,(r24.1,(r32.1,(0:Int))))
else
k.bind fun r33=>
if (r33.2 != (0:Int))=true then
some (((0:Int),((0:Int),())),(((0:Int),([],((0:Int),()))),(((0:Int),([],())),r33.2)))
else
(qOf r33.1).bind fun r34=>
(qhh a2 r34).bind fun r35=>
letI g:=(qgh a2 r34 r33.1.2.2.1)
if j=true then
if (decide (r35.1≥(0:Int)))=true then
if (decide (r35.1≤r33.1.2.2.1))=true then
(qef r33.1 r35.1 (40:Int)).bind fun r36=>
if (decide (r36.1≥(3:Int)))=true then
g.bind fun r37=>
some ((r35.1,(r36.1,())),(r33.1,(r37.1,(0:Int))))
else
g.bind fun r38=>
some (r4,(r33.1,(r38.1,(0:Int))))
else
g.bind fun r39=>
some (r4,(r33.1,(r39.1,(0:Int))))
else
g.bind fun r40=>
some (r4,(r33.1,(r40.1,(0:Int))))
else
g.bind fun r41=>
some (r4,(r33.1,(r41.1,(0:Int))))):=CE
noncomputable def vbd:FN:={f:=234,cuts:=[],tab:=[SS vua],fm:=⟨true,[.val (.int .u32) []]⟩}
noncomputable def qEp (a0:Int) (a1:Int):Option (Int):=vbd.call [(.int .u32 a0),(.int .u8 a1)] []
theorem qcx (a0:Int) (a1:Int):qEp a0 a1=(
(qpk a0 [a1]).bind fun r1=>
some (r1)):=CE
noncomputable def vEc:FN:={f:=182,cuts:=[],tab:=[SS vbd],fm:=⟨true,[.val (.int .u32) [], .val (.int .i64) []]⟩}
noncomputable def qKn (a0:Int) (a1:Int):Option (Int×Int):=vEc.call [(.int .u32 a0),(.int .i64 a1)] []
theorem qbw (a0:Int) (a1:Int):qKn a0 a1=(
if (decide (a1<(16:Int)))=true then
some ((0:Int),(2:Int))
else
if (decide (a1>(31:Int)))=true then
some ((0:Int),(2:Int))
else
(qEp a0 (wd .u8 a1)).bind fun r1=>
some (r1,(0:Int))):=CE
noncomputable def vca:FN:={f:=127,cuts:=[⟨(7,3),[2,3,4,6,8,9,31],false,false,[],[],[]⟩,⟨(28,3),[3,6,11,16,152,153],false,false,[],[],[]⟩],tab:=[(SS vi).dropping,(SS vj).dropping,SS vwc,SS vAd,SS vHa,SS vRc,SS vWc,SS vvd,SS voa,(qkl (fun _=>true)).dropping,SS vEc],fm:=⟨false,[.val qga [], .val (.int .i64) []]⟩}
noncomputable def qrh (a0:qba) (a1:qkc) (a2:Bool):Option (qba×Int):=vca.call [(.agg qga (inj false qga a0)),(.agg qUb (inj false qUb a1)),(.bool a2)] []
noncomputable def qFc (v2:Bool) (v8:Int) (v9:Int) (v31:Int) (b8a:Int) (b8ba:qoa) (b8bbbb:(qta×(qJa×(qBa×(qpa×(qqa×((List Int)×((List Int)×Unit)))))))) (b9:qkc) (b10a:Int) (b10baa:Int) (b10babb:qqa) (b10bbbbab:Unit) (b10bbbbbaab:Unit) (b10bbbbbabab:Unit) (b10bbbbbabb:Unit) (b10bbbbbbaa:Int) (b10bbbbbbabb:Unit) (b10bbbbbbb:(qpa×(qqa×((List Int)×((List Int)×Unit))))) (h11:List qna) (h12:List qma) (h13:List Int) (h14:List qna) (h15:List qma) (h16:List (List Int)) (h17:List (List Int)) (h18:List (List Int)) (h19:List Int):Option (qba×Int):=vca.sem ⟨[.code (cIn (cIn (qaa (qEa (qaa (qaa (qaa (qaa (qaa (qda wg 127)))))))))), .inLoop (cIn (cIn (qaa (qEa (qaa (qaa (qaa (qaa (qaa (qda wg 127)))))))))), .inBlock 0, .code (qaa (qaa (qaa (qaa (qaa (qaa (qda wg 127)))))))],⟨[(2,(.one (.bool v2))),(3,(.one (.ptr qga 8 []))),(4,(.one (.ptr qUb 9 []))),(6,(.one (.ptr qga 10 []))),(8,(.one (.int .u8 v8))),(9,(.one (.int .i64 v9))),(31,(.one (.int .i64 v31)))],[(8,some (.box qga (b8a,((inj false qwa b8ba),((SV.ref 11 0 (we h11) true),((SV.ref 12 0 (we h12) true),(inj false (.pair qva (.pair qJb (.pair qVa (.pair T_api_Settings (.pair qCa (.pair (.arr 6 (.int .u32)) (.pair (.arr 6 (.int .i64)) .unit))))))) b8bbbb))))))),(9,some (.box qUb (inj false qUb b9))),(10,some (.box qga (b10a,((b10baa,((SV.ref 13 0 (we h13) true),(inj false qCa b10babb))),((SV.ref 14 0 (we h14) true),((SV.ref 15 0 (we h15) true),(((SV.ref 16 0 (we h16) true),b10bbbbab),((((SV.ref 17 0 (we h17) true),b10bbbbbaab),(((SV.ref 18 0 (we h18) true),b10bbbbbabab),b10bbbbbabb)),((b10bbbbbbaa,((SV.ref 19 0 (we h19) true),b10bbbbbbabb)),(inj false (.pair T_api_Settings (.pair qCa (.pair (.arr 6 (.int .u32)) (.pair (.arr 6 (.int .i64)) .unit)))) b10bbbbbbb)))))))))),(11,some (.row qya false h11)),(12,some (.row qxa false h12)),(13,some (.row (.int .u8) true h13)),(14,some (.row qya true h14)),(15,some (.row qxa true h15)),(16,some (.row (.slice (.int .i32)) true h16)),(17,some (.row (.slice (.int .i32)) true h17)),(18,some (.row (.slice (.int .i32)) true h18)),(19,some (.row (.int .i64) true h19))],20⟩⟩
noncomputable def qEd (v152:(List Int)) (v153:Int) (b8a:Int) (b8ba:qoa) (b8bbbba:qta) (b8bbbbba:qJa) (b8bbbbbb:(qBa×(qpa×(qqa×((List Int)×((List Int)×Unit)))))) (b9a:Int) (b9baa:Int) (b9babb:qqa) (b9bbbbab:Unit) (b9bbbbbaab:Unit) (b9bbbbbabab:Unit) (b9bbbbbabb:Unit) (b9bbbbbbaa:Int) (b9bbbbbbabb:Unit) (b9bbbbbbb:(qpa×(qqa×((List Int)×((List Int)×Unit))))) (b10:qqa) (b11:(List Int)) (h12:List qna) (h13:List qma) (h14:List Int) (h15:List qna) (h16:List qma) (h17:List (List Int)) (h18:List (List Int)) (h19:List (List Int)) (h20:List Int):Option (qba×Int):=vca.sem ⟨[.code (cIn (cIn (qaa (qEa (qaa (qaa (qaa (qaa (qaa (qaa (qaa (qaa (qaa (qaa (qaa (qaa (qaa (qda wg 127)))))))))))))))))), .inLoop (cIn (cIn (qaa (qEa (qaa (qaa (qaa (qaa (qaa (qaa (qaa (qaa (qaa (qaa (qaa (qaa (qaa (qda wg 127)))))))))))))))))), .inBlock 2, .code (qaa (qaa (qaa (qaa (qaa (qaa (qaa (qaa (qaa (qaa (qaa (qaa (qaa (qaa (qda wg 127)))))))))))))))],⟨[(3,(.one (.ptr qga 8 []))),(6,(.one (.ptr qga 9 []))),(11,(.one (.ptr qCa 10 []))),(16,(.one (.ptr (.arr 6 (.int .u32)) 11 []))),(152,(.one (.agg (.arr 6 (.int .u32)) v152))),(153,(.one (.int .i64 v153)))],[(8,some (.box qga (b8a,((inj false qwa b8ba),((SV.ref 12 0 (we h12) true),((SV.ref 13 0 (we h13) true),((inj true qva b8bbbba),((inj true qJb b8bbbbba),(inj false (.pair qVa (.pair T_api_Settings (.pair qCa (.pair (.arr 6 (.int .u32)) (.pair (.arr 6 (.int .i64)) .unit))))) b8bbbbbb))))))))),(9,some (.box qga (b9a,((b9baa,((SV.ref 14 0 (we h14) true),(inj false qCa b9babb))),((SV.ref 15 0 (we h15) true),((SV.ref 16 0 (we h16) true),(((SV.ref 17 0 (we h17) true),b9bbbbab),((((SV.ref 18 0 (we h18) true),b9bbbbbaab),(((SV.ref 19 0 (we h19) true),b9bbbbbabab),b9bbbbbabb)),((b9bbbbbbaa,((SV.ref 20 0 (we h20) true),b9bbbbbbabb)),(inj false (.pair T_api_Settings (.pair qCa (.pair (.arr 6 (.int .u32)) (.pair (.arr 6 (.int .i64)) .unit)))) b9bbbbbbb)))))))))),(10,some (.box qCa (inj false qCa b10))),(11,some (.box (.arr 6 (.int .u32)) b11)),(12,some (.row qya false h12)),(13,some (.row qxa false h13)),(14,some (.row (.int .u8) true h14)),(15,some (.row qya true h15)),(16,some (.row qxa true h16)),(17,some (.row (.slice (.int .i32)) true h17)),(18,some (.row (.slice (.int .i32)) true h18)),(19,some (.row (.slice (.int .i32)) true h19)),(20,some (.row (.int .i64) true h20))],21⟩⟩
theorem qlr (a0:qba) (a1:qkc) (a2:Bool):qrh a0 a1 a2=(
letI e:=(qob a0.2.2.1)
letI d:=(qpb a0.2.2.2.1)
letI c:=(wn 6 (0:Int))
if a2=true then
e.bind fun r1=>
d.bind fun r2=>
qFc a2 (1:Int) a0.2.2.2.2.2.2.2.2.1.1 (0:Int) a0.1 a0.2.1 a0.2.2.2.2 a1 (0:Int) (0:Int) ((0:Int),()) () () () () (0:Int) () (((0:Int),((0:Int),())),(((0:Int),()),(c,(c,())))) r1 r2 [] [] [] [] [] [] []
else
e.bind fun r3=>
d.bind fun r4=>
qFc a2 (0:Int) a0.2.2.2.2.2.2.2.2.1.1 (0:Int) a0.1 a0.2.1 a0.2.2.2.2 a1 (0:Int) (0:Int) ((0:Int),()) () () () () (0:Int) () (((0:Int),((0:Int),())),(((0:Int),()),(c,(c,())))) r3 r4 [] [] [] [] [] [] []):=CE
theorem qki (v2:Bool) (v8:Int) (v9:Int) (v31:Int) (b8a:Int) (b8ba:qoa) (b8bbbb:(qta×(qJa×(qBa×(qpa×(qqa×((List Int)×((List Int)×Unit)))))))) (b9:qkc) (b10a:Int) (b10baa:Int) (b10babb:qqa) (b10bbbbab:Unit) (b10bbbbbaab:Unit) (b10bbbbbabab:Unit) (b10bbbbbabb:Unit) (b10bbbbbbaa:Int) (b10bbbbbbabb:Unit) (b10bbbbbbb:(qpa×(qqa×((List Int)×((List Int)×Unit))))) (h11:List qna) (h12:List qma) (h13:List Int) (h14:List qna) (h15:List qma) (h16:List (List Int)) (h17:List (List Int)) (h18:List (List Int)) (h19:List Int):qFc v2 v8 v9 v31 b8a b8ba b8bbbb b9 b10a b10baa b10babb b10bbbbab b10bbbbbaab b10bbbbbabab b10bbbbbabb b10bbbbbbaa b10bbbbbbabb b10bbbbbbb h11 h12 h13 h14 h15 h16 h17 h18 h19=(
if (decide (v31<(6:Int)))=true then
gd (0≤v31)<|
letI d:=(wi (we h12))
gd (v31<d)<|
gd (0≤v31)<|
gd (v31<(wi (we b9.2.1)))<|
letI c:=(wo v31)
(qbo (wm h12 (0+c) (qua qxa)) (wm b9.2.1 c (0:Int)) v8).bind fun r5=>
gd (0≤v31)<|
gd (v31<d)<|
gd (0≤v31)<|
letI e:=(wi (we h11))
gd (v31<e)<|
gd (0≤v31)<|
gd (v31<(6:Int))<|
(qWt (wm h11 (0+c) (qua qya)) (wm b8bbbb.2.2.2.2.2.2.1 c (0:Int)) b9.1 v8).bind fun r6=>
gd (0≤v31)<|
gd (v31<e)<|
qFc v2 v8 v9 (wd .i64 (v31+(1:Int))) b8a b8ba b8bbbb b9 b10a b10baa b10babb b10bbbbab b10bbbbbaab b10bbbbbabab b10bbbbbabb b10bbbbbbaa b10bbbbbbabb b10bbbbbbb (wF h11 (0+c) r6.1) (wF h12 (0+c) r5.1) h13 h14 h15 h16 h17 h18 h19
else
(qwp b8bbbb.1 v9 b9.2.2.1 b9.2.2.2.1 v2).bind fun r7=>
(qGp b8bbbb.2.1 b9.2.2.2.2.2.1 v2).bind fun r8=>
(qrp b8bbbb.2.2.2.2.1 v2).bind fun r9=>
if r9.2.1=true then
(qvr b8bbbb.2.2.2.1 b8ba b8bbbb.2.2.1 r9.2.2.1).bind fun r10=>
if (r10.2.2.2 != (0:Int))=true then
letI f:=(wn 6 (0:Int))
some (((0:Int),(((0:Int),([],((0:Int),()))),([],([],(([],()),((([],()),(([],()),())),(((0:Int),([],())),(((0:Int),((0:Int),())),(((0:Int),()),(f,(f,()))))))))))),r10.2.2.2)
else
(qgf r10.2.1).bind fun r11=>
(qJe r11.1 b8a r10.2.1 (r7.1,(r8.1,(r10.2.2.1,(r10.1,(r9.1,(r11.1,b8bbbb.2.2.2.2.2.2)))))) h11 h12).bind fun r12=>
some ((r12.1.1,(r12.1.2.1,(r12.2.1,(r12.2.2,r12.1.2.2.2.2)))),(0:Int))
else
if (decide (r9.1.1<(16:Int)))=true then
some ((b8a,(b8ba,(h11,(h12,(r7.1,(r8.1,(b8bbbb.2.2.1,(b8bbbb.2.2.2.1,(r9.1,b8bbbb.2.2.2.2.2))))))))),(0:Int))
else
if (decide (r9.1.1>(31:Int)))=true then
some ((b8a,(b8ba,(h11,(h12,(r7.1,(r8.1,(b8bbbb.2.2.1,(b8bbbb.2.2.2.1,(r9.1,b8bbbb.2.2.2.2.2))))))))),(0:Int))
else
qEd b8bbbb.2.2.2.2.2.1 (0:Int) b8a b8ba r7.1 r8.1 (b8bbbb.2.2.1,(b8bbbb.2.2.2.1,(r9.1,b8bbbb.2.2.2.2.2))) b10a b10baa b10babb b10bbbbab b10bbbbbaab b10bbbbbabab b10bbbbbabb b10bbbbbbaa b10bbbbbbabb b10bbbbbbb r9.1 b8bbbb.2.2.2.2.2.1 h11 h12 h13 h14 h15 h16 h17 h18 h19):=SE
theorem qji (v152:(List Int)) (v153:Int) (b8a:Int) (b8ba:qoa) (b8bbbba:qta) (b8bbbbba:qJa) (b8bbbbbb:(qBa×(qpa×(qqa×((List Int)×((List Int)×Unit)))))) (b9a:Int) (b9baa:Int) (b9babb:qqa) (b9bbbbab:Unit) (b9bbbbbaab:Unit) (b9bbbbbabab:Unit) (b9bbbbbabb:Unit) (b9bbbbbbaa:Int) (b9bbbbbbabb:Unit) (b9bbbbbbb:(qpa×(qqa×((List Int)×((List Int)×Unit))))) (b10:qqa) (b11:(List Int)) (h12:List qna) (h13:List qma) (h14:List Int) (h15:List qna) (h16:List qma) (h17:List (List Int)) (h18:List (List Int)) (h19:List (List Int)) (h20:List Int):qEd v152 v153 b8a b8ba b8bbbba b8bbbbba b8bbbbbb b9a b9baa b9babb b9bbbbab b9bbbbbaab b9bbbbbabab b9bbbbbabb b9bbbbbbaa b9bbbbbbabb b9bbbbbbb b10 b11 h12 h13 h14 h15 h16 h17 h18 h19 h20=(
if (decide (v153<(6:Int)))=true then
gd (0≤v153)<|
gd (v153<(6:Int))<|
letI c:=(wo v153)
(qKn (wm v152 c (0:Int)) b10.1).bind fun r13=>
gd (0≤v153)<|
gd (v153<(6:Int))<|
qEd v152 (wd .i64 (v153+(1:Int))) b8a b8ba b8bbbba b8bbbbba b8bbbbbb b9a b9baa b9babb b9bbbbab b9bbbbbaab b9bbbbbabab b9bbbbbabb b9bbbbbbaa b9bbbbbbabb b9bbbbbbb b10 (wF b11 c r13.1) h12 h13 h14 h15 h16 h17 h18 h19 h20
else
(qJe b11 b8a b8ba (b8bbbba,(b8bbbbba,b8bbbbbb)) h12 h13).bind fun r14=>
some ((r14.1.1,(r14.1.2.1,(r14.2.1,(r14.2.2,r14.1.2.2.2.2)))),(0:Int))):=SE
noncomputable def vIa:FN:={f:=92,cuts:=[⟨(9,3),[2,4,8,26,27,28],false,false,[],[],[]⟩],tab:=[SS vYa,(SS vib).dropping,SS vFa,(SS vca).dropping],fm:=⟨false,[.val qga [], .val (.slice (.int .i64)) [.nw], .val (.int .i64) []]⟩}
noncomputable def qYi (a0:qba) (a1:List Bool):Option (qba×List Int×Int):=vIa.call [(.agg qga (inj false qga a0)),(.sl .bool false a1)] []
noncomputable def qrd (v26:List Bool) (v27:Int) (v28:Int) (b8:qba) (b9a:Int) (b9baa:Int) (b9babb:qqa) (b9bbbbab:Unit) (b9bbbbbaab:Unit) (b9bbbbbabab:Unit) (b9bbbbbabb:Unit) (b9bbbbbbaa:Int) (b9bbbbbbabb:Unit) (b9bbbbbbb:(qpa×(qqa×((List Int)×((List Int)×Unit))))) (h10:List Int) (h11:List Int) (h12:List qna) (h13:List qma) (h14:List (List Int)) (h15:List (List Int)) (h16:List (List Int)) (h17:List Int):Option (qba×List Int×Int):=vIa.sem ⟨[.code (cIn (cIn (qaa (qEa (qaa (qaa (qaa (qaa (qaa (qda wg 92)))))))))), .inLoop (cIn (cIn (qaa (qEa (qaa (qaa (qaa (qaa (qaa (qda wg 92)))))))))), .inBlock 0, .code (qaa (qaa (qaa (qaa (qaa (qaa (qda wg 92)))))))],⟨[(2,(.one (.ptr qga 8 []))),(4,(.one (.ptr qga 9 []))),(8,(.one (.ref (.int .i64) 10 0 (we h10) true))),(26,(.one (.sl .bool false v26))),(27,(.one (.int .i64 v27))),(28,(.one (.int .i64 v28)))],[(8,some (.box qga (inj false qga b8))),(9,some (.box qga (b9a,((b9baa,((SV.ref 11 0 (we h11) true),(inj false qCa b9babb))),((SV.ref 12 0 (we h12) true),((SV.ref 13 0 (we h13) true),(((SV.ref 14 0 (we h14) true),b9bbbbab),((((SV.ref 15 0 (we h15) true),b9bbbbbaab),(((SV.ref 16 0 (we h16) true),b9bbbbbabab),b9bbbbbabb)),((b9bbbbbbaa,((SV.ref 17 0 (we h17) true),b9bbbbbbabb)),(inj false (.pair T_api_Settings (.pair qCa (.pair (.arr 6 (.int .u32)) (.pair (.arr 6 (.int .i64)) .unit)))) b9bbbbbbb)))))))))),(10,some (.row (.int .i64) true h10)),(11,some (.row (.int .u8) true h11)),(12,some (.row qya true h12)),(13,some (.row qxa true h13)),(14,some (.row (.slice (.int .i32)) true h14)),(15,some (.row (.slice (.int .i32)) true h15)),(16,some (.row (.slice (.int .i32)) true h16)),(17,some (.row (.int .i64) true h17))],18⟩⟩
theorem qLo (a0:qba) (a1:List Bool):qYi a0 a1=(
(qpi a0).bind fun r1=>
letI c:=(wn 6 (0:Int))
if (r1 != (0:Int))=true then
some (((0:Int),(((0:Int),([],((0:Int),()))),([],([],(([],()),((([],()),(([],()),())),(((0:Int),([],())),(((0:Int),((0:Int),())),(((0:Int),()),(c,(c,()))))))))))),([],r1))
else
letI d:=(wi (we a1))
if (decide (d>(2000:Int)))=true then
some (((0:Int),(((0:Int),([],((0:Int),()))),([],([],(([],()),((([],()),(([],()),())),(((0:Int),([],())),(((0:Int),((0:Int),())),(((0:Int),()),(c,(c,()))))))))))),([],(4:Int)))
else
(qmn a0).bind fun r2=>
qrd a1 d (0:Int) r2 (0:Int) (0:Int) ((0:Int),()) () () () () (0:Int) () (((0:Int),((0:Int),())),(((0:Int),()),(c,(c,())))) [] [] [] [] [] [] [] []):=CE
theorem qcf (v26:List Bool) (v27:Int) (v28:Int) (b8:qba) (b9a:Int) (b9baa:Int) (b9babb:qqa) (b9bbbbab:Unit) (b9bbbbbaab:Unit) (b9bbbbbabab:Unit) (b9bbbbbabb:Unit) (b9bbbbbbaa:Int) (b9bbbbbbabb:Unit) (b9bbbbbbb:(qpa×(qqa×((List Int)×((List Int)×Unit))))) (h10:List Int) (h11:List Int) (h12:List qna) (h13:List qma) (h14:List (List Int)) (h15:List (List Int)) (h16:List (List Int)) (h17:List Int):qrd v26 v27 v28 b8 b9a b9baa b9babb b9bbbbab b9bbbbbaab b9bbbbbabab b9bbbbbabb b9bbbbbbaa b9bbbbbbabb b9bbbbbbb h10 h11 h12 h13 h14 h15 h16 h17=(
if (decide (v28<v27))=true then
gd (0≤v28)<|
gd (v28<(wi (we v26)))<|
(qbh b8).bind fun r3=>
(qrh b8 r3 (wm v26 (wo v28) false)).bind fun r4=>
if (r4.2 != (0:Int))=true then
letI d:=(wn 6 (0:Int))
some (((0:Int),(((0:Int),([],((0:Int),()))),([],([],(([],()),((([],()),(([],()),())),(((0:Int),([],())),(((0:Int),((0:Int),())),(((0:Int),()),(d,(d,()))))))))))),([],r4.2))
else
letI c:=(h10++[(wd .i64 r3.2.2.2.2.1)])
gd ((we c)*8≤140737488355328)<|
qrd v26 v27 (wd .i64 (v28+(1:Int))) r4.1 b9a b9baa b9babb b9bbbbab b9bbbbbaab b9bbbbbabab b9bbbbbabb b9bbbbbbaa b9bbbbbbabb b9bbbbbbb c h11 h12 h13 h14 h15 h16 h17
else
some (b8,(h10,(0:Int)))):=SE
noncomputable def vTa:FN:={f:=94,cuts:=[],tab:=[],fm:=⟨true,[.val (.int .i64) []]⟩}
noncomputable def qff (a0:qka):Option (Int):=vTa.call [(.agg qsa (inj false qsa a0))] []
theorem qbi (a0:qka):qff a0=(
if (decide (a0.1≥a0.2.1))=true then
some (8:Int)
else
gd (0≤(24:Int))<|
gd (0≤(24:Int))<|
if ((wV a0.1 (16777216:Int))==(wV a0.2.1 (16777216:Int)))=true then
some (8:Int)
else
if (decide ((wi (we a0.2.2.1))>(20000:Int)))=true then
some (8:Int)
else
some (0:Int)):=CE
noncomputable def veb:FN:={f:=95,cuts:=[],tab:=[],fm:=⟨true,[.val .bool []]⟩}
noncomputable def qSf (a0:Int):Option (Bool):=veb.call [(.int .i64 a0)] []
theorem qmj (a0:Int):qSf a0=(
if (decide (a0≥(0:Int)))=true then
some (decide (a0≤(4095:Int)))
else
some (false)):=CE
noncomputable def vOa:FN:={f:=129,cuts:=[],tab:=[],fm:=⟨true,[.val (.int .u32) []]⟩}
noncomputable def qDg (a0:Int) (a1:Int) (a2:Int):Option (Int):=vOa.call [(.int .u32 a0),(.int .u32 a1),(.int .i64 a2)] []
theorem qIm (a0:Int) (a1:Int) (a2:Int):qDg a0 a1 a2=(
gd (0≤(12:Int))<|
gd (0≤(12:Int))<|
letI d:=(wd .u32 a2)
letI c:=(wd .u32 (a1 - a0))
some (wd .u32 ((wd .u32 (a0+(wd .u32 ((wV c (4096:Int))*d))))+(wV (wd .u32 ((qUa .u32 c (4095:Int))*d)) (4096:Int))))):=CE
noncomputable def vJa:FN:={f:=97,cuts:=[⟨(4,1),[0],false,false,[],[],[]⟩],tab:=[SS vOa],fm:=⟨true,[.box 0 qsa [.pu]]⟩}
noncomputable def qxh (a1:Int) (a2:Bool) (b0a:Int) (b0ba:Int) (b0bbb:Unit) (h1:List Int):Option (qka):=vJa.call [(.ptr qsa 0 []),(.int .i64 a1),(.bool a2)] [(0,(.box qsa (b0a,(b0ba,((SV.ref 1 0 (we h1) true),b0bbb))))),(1,(.row (.int .u8) false h1))]
noncomputable def qGc (b0a:Int) (b0ba:Int) (b0bbb:Unit) (h8:List Int):Option (qka):=vJa.sem ⟨[.code (qnO (cIn (qda wg 97)) 0), .inScope (cIn (qda wg 97))],⟨[(0,(.one (.ptr qsa 0 [])))],[(0,some (.box qsa (b0a,(b0ba,((SV.ref 8 0 (we h8) true),b0bbb))))),(8,some (.row (.int .u8) false h8))],10⟩⟩
theorem qyl (a1:Int) (a2:Bool) (b0a:Int) (b0ba:Int) (b0bbb:Unit) (h1:List Int):qxh a1 a2 b0a b0ba b0bbb h1=(
(qDg b0a b0ba a1).bind fun r1=>
if a2=true then
gd (0≤(24:Int))<|
gd (0≤(24:Int))<|
letI f:=(wV r1 (16777216:Int))
if ((wV b0a (16777216:Int))==f)=true then
gd (0≤(24:Int))<|
letI e:=(h1++[(wd .u8 f)])
gd ((we e)*1≤140737488355328)<|
gd (0≤(8:Int))<|
gd (0≤(8:Int))<|
qGc (wd .u32 (b0a*(256:Int))) (qgc .u32 (wd .u32 (r1*(256:Int))) (255:Int)) b0bbb e
else
some (b0a,(r1,(h1,b0bbb)))
else
gd (0≤(24:Int))<|
gd (0≤(24:Int))<|
letI d:=(wV b0ba (16777216:Int))
letI c:=(wd .u32 (r1+(1:Int)))
if ((wV c (16777216:Int))==d)=true then
gd (0≤(24:Int))<|
letI g:=(h1++[(wd .u8 d)])
gd ((we g)*1≤140737488355328)<|
gd (0≤(8:Int))<|
gd (0≤(8:Int))<|
qGc (wd .u32 (c*(256:Int))) (qgc .u32 (wd .u32 (b0ba*(256:Int))) (255:Int)) b0bbb g
else
some (c,(b0ba,(h1,b0bbb)))):=CE
theorem qBc (b0a:Int) (b0ba:Int) (b0bbb:Unit) (h8:List Int):qGc b0a b0ba b0bbb h8=(
gd (0≤(24:Int))<|
gd (0≤(24:Int))<|
letI c:=(wV b0ba (16777216:Int))
if ((wV b0a (16777216:Int))==c)=true then
gd (0≤(24:Int))<|
letI d:=(h8++[(wd .u8 c)])
gd ((we d)*1≤140737488355328)<|
gd (0≤(8:Int))<|
gd (0≤(8:Int))<|
qGc (wd .u32 (b0a*(256:Int))) (qgc .u32 (wd .u32 (b0ba*(256:Int))) (255:Int)) b0bbb d
else
some (b0a,(b0ba,(h8,b0bbb)))):=SE
noncomputable def qat (acc:List AV→Bool):Summ wg GT:=vJa.summ mixed acc true false
noncomputable def ved:FN:={f:=65,cuts:=[],tab:=[SS vTa,SS veb,SS ve,qat (fun _=>true)],fm:=⟨true,[.val qsa [], .val (.int .i64) []]⟩}
noncomputable def qSe (a0:qka) (a1:Int) (a2:Bool):Option (qka×Int):=ved.call [(.agg qsa (inj false qsa a0)),(.int .i64 a1),(.bool a2)] []
theorem qYo (a0:qka) (a1:Int) (a2:Bool):qSe a0 a1 a2=(
(qff a0).bind fun r1=>
if (r1 != (0:Int))=true then
some (((0:Int),((0:Int),([],()))),r1)
else
(qSf a1).bind fun r2=>
if (not r2)=true then
some (((0:Int),((0:Int),([],()))),(2:Int))
else
(qkb a0.2.2.1).bind fun r3=>
(qxh a1 a2 a0.1 a0.2.1 a0.2.2.2 r3).bind fun r4=>
if (decide ((wi (we r4.2.2.1))>(20000:Int)))=true then
some (((0:Int),((0:Int),([],()))),(4:Int))
else
some (r4,(0:Int))):=CE
noncomputable def vac:FN:={f:=64,cuts:=[],tab:=[SS ved],fm:=⟨false,[.box 0 (.int .i64) [], .box 1 qsa [.pu]]⟩}
noncomputable def qzh (a0:Int) (a1:Bool) (b0:Int) (b1:qka):Option (Int×qka):=vac.call [(.int .i64 a0),(.bool a1),(.ptr (.int .i64) 0 []),(.ptr qsa 1 [])] [(0,(.box (.int .i64) b0)),(1,(.box qsa (inj false qsa b1)))]
theorem qDl (a0:Int) (a1:Bool) (b0:Int) (b1:qka):qzh a0 a1 b0 b1=(
if (b0==(0:Int))=true then
(qSe b1 a0 a1).bind fun r1=>
some (r1.2,r1.1)
else
some (b0,b1)):=CE
noncomputable def vhb:FN:={f:=91,cuts:=[⟨(2,3),[0,1,2,3,4,15,16,17],false,true,[],[],[]⟩],tab:=[(SS vIa).dropping,(SS vac).dropping],fm:=⟨false,[.box 0 qga [.pu, .pu, .pu, .pu, .pu, .pu, .pu], .box 1 (.slice .bool) [.nw], .cfn 2 64 [3,4], .box 3 (.int .i64) [], .box 4 qsa [.pu]]⟩}
noncomputable def qVe (b0:qba) (b1:(List Bool)) (b3:Int) (b4:qka):Option (qba×(List Bool)×Unit×Int×qka):=vhb.call [(.ptr qga 0 []),(.ptr (.slice .bool) 1 []),(.cptr 2)] [(0,(.box qga (inj false qga b0))),(1,(.box (.slice .bool) (SV.pure false b1))),(2,(.cell (.func 64 [3,4]))),(3,(.box (.int .i64) b3)),(4,(.box qsa (inj false qsa b4)))]
noncomputable def qNc (v15:List Bool) (v16:Int) (v17:Int) (b0:qba) (b1:(List Bool)) (b3:Int) (b4:qka) (b8:qba) (h9:List Int):Option (qba×(List Bool)×Unit×Int×qka):=vhb.sem ⟨[.code (cIn (cIn (qaa (qEa (qaa (qda wg 91)))))), .inLoop (cIn (cIn (qaa (qEa (qaa (qda wg 91)))))), .inBlock 0, .code (qaa (qaa (qda wg 91)))],⟨[(0,(.one (.ptr qga 0 []))),(1,(.one (.ptr (.slice .bool) 1 []))),(2,(.one (.cptr 2))),(3,(.one (.ptr qga 8 []))),(4,(.one (.ref (.int .i64) 9 0 (we h9) true))),(15,(.one (.sl .bool false v15))),(16,(.one (.int .i64 v16))),(17,(.one (.int .i64 v17)))],[(0,some (.box qga (inj false qga b0))),(1,some (.box (.slice .bool) (SV.pure false b1))),(2,some (.cell (.func 64 [3,4]))),(3,some (.box (.int .i64) b3)),(4,some (.box qsa (inj false qsa b4))),(8,some (.box qga (inj false qga b8))),(9,some (.row (.int .i64) false h9))],15⟩⟩
theorem qLn (b0:qba) (b1:(List Bool)) (b3:Int) (b4:qka):qVe b0 b1 b3 b4=(
(qYi b0 b1).bind fun r1=>
qNc b1 (wi (we b1)) (0:Int) b0 b1 b3 b4 r1.1 r1.2.1):=CE
theorem qse (v15:List Bool) (v16:Int) (v17:Int) (b0:qba) (b1:(List Bool)) (b3:Int) (b4:qka) (b8:qba) (h9:List Int):qNc v15 v16 v17 b0 b1 b3 b4 b8 h9=(
if (decide (v17<v16))=true then
gd (0≤v17)<|
gd (v17<(wi (we v15)))<|
gd (0≤v17)<|
gd (v17<(wi (we h9)))<|
letI c:=(wo v17)
(qzh (wm h9 (0+c) (0:Int)) (wm v15 c false) b3 b4).bind fun r2=>
qNc v15 v16 (wd .i64 (v17+(1:Int))) b0 b1 r2.1 r2.2 b8 h9
else
some (b8,([],((),(b3,b4))))):=SE
end Go.Ab

/-
  codec.each: walked by hand, the rounds by the abstract machine.
-/
set_option linter.unusedVariables false
namespace Go.Ab
open Go Go.Proofs Go.RowKit Go.Shelf
attribute [local go_sem] Oper.semAt_some
def KpM (M:Nat→Prop) (W W':World):Prop:=∀p v,M p.block→W.cell? p=some v→W'.cell? p=some v
theorem KpM.refl (M:Nat→Prop) (W:World):KpM M W W:=fun _ _ _ h=>h
theorem KpM.trans {M:Nat→Prop} {A B C:World} (h:KpM M A B) (k:KpM M B C):KpM M A C:=fun p v hm hv=>k p v hm (h p v hm hv)
def qiN (z:Int) (j:Nat):Bool:=bits BinOp.and IntKind.u8 (z/2 ^ (7 - j)) 1==1
def qNp (z:Int):List Bool:=(wVa 8).map (qiN z)
def quj (zs:List Int):List Bool:=zs.flatMap qNp
theorem qRn (z:Int):(qNp z).length=8:=by simp [qNp]
theorem qHl:∀(zs:List Int),(quj zs).length=8*zs.length
 |[]=>rfl
 |z::r=>by
  have:=qHl r
  simp only [quj,wib,wl,qRn,ww] at this ⊢
  omega
theorem qoG (z:Int) {j:Nat} (h:j<8):(qNp z).take (j+1)=(qNp z).take j++[qiN z j]:=by
 rw [List.take_succ_eq_append_getElem (by rw [qRn];exact h)]
 simp [qNp]
theorem qmG (zs:List Int) {k:Nat} (h:k<zs.length):quj (zs.take (k+1))=quj (zs.take k)++qNp (zs[k]'h):=by
 unfold quj
 rw [List.take_succ_eq_append_getElem h,List.flatMap_append]
 simp only [wib,List.flatMap_nil,List.append_nil]
set_option maxRecDepth 100000 in
set_option maxHeartbeats 4000000 in
theorem qRJ (n:Nat) (hn:1≤n) (l Bs Bo b off len cap:Nat) (zs:List Int) (hreach:len*8≤140737488351232) (M:Nat→Prop) (hM1:M Bs) (hM2:M b) (hl:zs.length=len) (J Jx:List Bool→World→Prop)
  (hY:∀pre x W,J pre W→pre.length<8*len→YieldAt Fence.wide (n - 1) wg l #[.bool x] W fun e W'=>
   (e= .returned (.bool true)∧J (pre++[x]) W'∧KpM M W W')∨(e= .returned (.bool false)∧Jx (pre++[x]) W'))
  (W:World) (hBs:W.cell? ⟨Bs,Bo,none⟩=some (.slice (some ⟨b,off,none⟩) len cap)) (hc:∀j,j<len→W.cell? ⟨b,off+j,none⟩=some (.int .u8 (zs[j]?.getD 0))) (h0:J [] W):
  CallsIn Fence.wide n wg 128 #[.func (.yield l) #[] #[], .pointer (some ⟨Bs,Bo,none⟩)] W fun e W'=>(∃v,e= .returned v)∧(J (quj zs) W'∨∃pre,Jx pre W'):=by
 refine callsIn_of_wp Tryz.func128 rfl trivial ?_ rfl
 simp only [Tryz.ntmps128,wLa,ww,wN,Nat.reduceAdd,Nat.reduceSub,Array.replicate_succ,Array.replicate_zero,List.push_toArray,List.append_toArray,waa,wba]
 gi_wp2
 gi_loopw [8,4,5] (fun i c4 c5 wr=>∃k:Nat,k≤len∧i= .int .i64 k∧J (quj (zs.take k)) wr∧KpM M W wr)
  (fun i _ _ _=>len - (intOf i).toNat)
 case atStart=>exact ⟨0,Nat.zero_le _,rfl,h0,KpM.refl _ _⟩
 case round=>
  obtain ⟨k,hk,rfl,hJs,hnx⟩:=hrel
  by_cases hlt:k<len
  ·have hk':k<zs.length:=by omega
   have hcx:wr.cell? ⟨b,off+k,none⟩=some (.int .u8 (zs[k]?.getD 0)):=hnx _ _ hM2 (hc k hlt)
   rw [wx hk'] at hcx
   simp only [Option.getD_some] at hcx
   have htake:=qmG zs hk'
   generalize zs[k]=z at hcx htake
   gi_wp2
   gi_loopw [5] (fun c5 wr2=>∃j:Nat,j≤8∧c5= .int .i64 (7 - (j:Int))∧J (quj (zs.take k)++(qNp z).take j) wr2∧KpM M W wr2) (fun c5 _=>(intOf c5+1).toNat)
   case atStart=>exact ⟨0,by omega,rfl,by simpa using hJs,hnx⟩
   case round=>
    obtain ⟨j,hj,rfl,hJq,hnx2⟩:=hrel
    by_cases hj8:j<8
    ·have hj0:(0:Int)≤7 - (j:Int):=by omega
     obtain ⟨fn,tmps,assign,body,hy,hR⟩:=hY _ (qiN z j) wr hJq (by rw [wl,qHl,wS,wS,qRn];omega)
     unfold qiN at hy
     gi_wp2
     refine hR.mono ?_
     rintro e W3 (⟨rfl,hJ3,hk3⟩|⟨rfl,hJx3⟩)
     ·gi_wp2
      go_roundw
      case rel=>
       refine ⟨j+1,by omega,?_,?_,hnx2.trans hk3⟩
       ·simp;omega
       ·rw [qoG z hj8,←List.append_assoc];exact hJ3
      case measure=>simp [intOf];omega
     ·gi_wp2
      refine bodyPost_ret (results_none rfl _ _ _) rfl ?_
      exact ⟨⟨_,rfl⟩, .inr ⟨_,hJx3⟩⟩
    ·obtain rfl:j=8:=by omega
     gi_wp2
     go_roundw
     case rel=>
      refine ⟨k+1,by omega,by simp,?_,hnx2⟩
      rw [htake]
      have:(qNp z).take 8=qNp z:=wL (by rw [qRn];omega)
      rw [←this];exact hJq
     case measure=>simp [intOf];omega
  ·obtain rfl:k=len:=by omega
   gi_wp2
   go_end0
   refine ⟨⟨_,rfl⟩, .inl ?_⟩
   rwa [wL (by omega)] at hJs
set_option maxRecDepth 100000 in
set_option maxHeartbeats 4000000 in
theorem qHI (n:Nat) (l Bs Bo cap:Nat) (A0:Option Addr) (J:List Bool→World→Prop)
  (W:World) (hBs:W.cell? ⟨Bs,Bo,none⟩=some (.slice A0 0 cap)) (h0:J [] W):
  CallsIn Fence.wide n wg 128 #[.func (.yield l) #[] #[], .pointer (some ⟨Bs,Bo,none⟩)] W fun e W'=>(∃v,e= .returned v)∧J [] W':=by
 refine callsIn_of_wp Tryz.func128 rfl trivial ?_ rfl
 simp only [Tryz.ntmps128,wLa,ww,wN,Nat.reduceAdd,Nat.reduceSub,Array.replicate_succ,Array.replicate_zero,List.push_toArray,List.append_toArray,waa,wba]
 gi_wp2
 gi_loopw [8] (fun i wr=>i= .int .i64 0∧J [] wr) (fun _ _=>0)
 case atStart=>exact ⟨rfl,h0⟩
 case round=>
  obtain ⟨rfl,hJs⟩:=hrel
  gi_wp2
  go_end0
  exact ⟨⟨_,rfl⟩,hJs⟩
def qWK (w:World) (b:Nat) (A0:Option Addr) (zs:List Int):Prop:=zs=[]∨∃o,A0=some ⟨b,o,none⟩∧∀j,j<zs.length→w.cell? ⟨b,o+j,none⟩=some (.int .u8 (zs[j]?.getD 0))
theorem qlG (n:Nat) (hn:1≤n) (Bs Bo b cap:Nat) (A0:Option Addr) (zs:List Int) (hreach:zs.length*8≤140737488351232) (M:Nat→Prop) (hM1:M Bs) (hM2:M b) (w:World) (h1:Bs<w.heap.size) (h2:b<w.heap.size)
  (hBs:w.cell? ⟨Bs,Bo,none⟩=some (.slice A0 zs.length cap)) (hc:qWK w b A0 zs):
  SeqStopsK Fence.wide n wg 128 #[.pointer (some ⟨Bs,Bo,none⟩)] (fun x:Bool=>#[.bool x]) (KpM M) (fun xs=>xs=quj zs) (fun _=>True) (8*zs.length) w:=fun l J Jx W hW _ _ hY h0=>by
 have hBs':=(hW.cell (p:=⟨Bs,Bo,none⟩) h1).trans hBs
 rcases hc with rfl|⟨o,rfl,hc⟩
 ·refine (qHI n l Bs Bo cap A0 J W hBs' h0).mono ?_
  rintro e W' ⟨he,hj⟩
  exact ⟨he, .inl ⟨_,rfl,hj⟩⟩
 ·refine (qRJ n hn l Bs Bo b o zs.length cap zs hreach M hM1 hM2 rfl J Jx hY W hBs' (fun j hj=>(hW.cell (p:=⟨b,o+j,none⟩) h2).trans (hc j hj)) h0).mono ?_
  rintro e W' ⟨he,hj|⟨pre,hj⟩⟩
  ·exact ⟨he, .inl ⟨_,rfl,hj⟩⟩
  ·exact ⟨he, .inr ⟨pre,trivial,hj⟩⟩
section each
@[reducible] def qxc (x:qba) (l:List Bool) (e:Int) (c:qka):St:=
 ⟨[(6, .one (.ptr (.slice .bool) 8 [])),(7, .one (.cptr 9))],[(0,some (.box (.int .i64) e)),(1,some (.box qsa (inj false qsa c))),(8,some (.box (.slice .bool) (.ref 10 0 l.length true))),(9,some (.cell (.func 91 [11,8,12]))),(10,some (.row .bool false l)),(11,some (.box qga (inj false qga x))),(12,some (.cell (.func 64 [0,1])))],15⟩
@[reducible] def qro (x:qba) (l:List Bool) (e:Int) (c:qka) (b:Bool):St:=
 ⟨(8, .one (.bool b))::(qxc x l e c).tmps,(qxc x l e c).heap,15⟩
@[reducible] def qPE (e:Int) (c:qka):St:=⟨[],[(0,some (.box (.int .i64) e)),(1,some (.box qsa (inj false qsa c)))],10⟩
@[reducible] def qUh:Type:=qba×List Bool×Int×qka
@[reducible] def qay:Type:=Int×qka
noncomputable def qTe (s:qUh) (b:Bool):Option qUh:=
 gd ((s.2.1++[b]).length*1≤140737488355328)<|
 if ((wi (s.2.1++[b]).length)==(2000:Int))=true then
  (qVe s.1 (s.2.1++[b]) s.2.2.1 s.2.2.2).bind fun r=>some (r.1,r.2.1,r.2.2.2.1,r.2.2.2.2)
 else some (s.1,s.2.1++[b],s.2.2.1,s.2.2.2)
noncomputable def qDf:List Bool→qUh→Option qUh
 |[],s=>some s
 |b::l,s=>(qTe s b).bind (qDf l)
theorem qlm:∀(l:List Bool) (b:Bool) (s:qUh),qDf (l++[b]) s=(qDf l s).bind fun t=>qTe t b
 |[],b,s=>by
  simp only [waa,qDf,wy]
  cases qTe s b <;> rfl
 |a::l,b,s=>by
  simp only [wba,qDf]
  cases qTe s a with
  |none=>rfl
  |some t=>exact qlm l b t
noncomputable def qTf (x:qba) (b:List Int) (e:Int) (c:qka):Option qay:=
 gd (b.length*8≤140737488351232)<|
 gd (∀l:List Bool,l.length≤8*b.length→(qDf l (x,[],e,c)).isSome=true)<|
 (qDf (quj b) (x,[],e,c)).bind fun s=>
 (qVe s.1 s.2.1 s.2.2.1 s.2.2.2).bind fun r=>some (r.2.2.2.1,r.2.2.2.2)
noncomputable def qKJ:List (Summ wg GT):=[SS vkd,(SS vhb).dropping]
@[reducible] noncomputable def rg (cd:Code) (σ:St) (k:St→Tr):Tr:=qin wg GT (qgg wg 63) [] qKJ (qZN cd) false σ k
def stL:Pos→Option St:=fun s=>some s.st
def noL {R:Type}:Pos→Option R:=fun _=>none
def lf0 (σ:St):Tr:= .leaf ⟨[],σ⟩
def qEJ (ts:List Nat) (σ:St):Tr:=match keepSt σ ts true true with
 |some σ'=>lf0 σ'
 |none=> .dead
def qJH (σ:St):Tr:=if (qOd (qGA σ [6,7] true) 8==some 8)&&(qOd (qGA σ [6,7] true) 9==some 9) then qEJ [6,7] σ else .dead
@[reducible] noncomputable def eC0:Code:=qda wg 63
@[reducible] noncomputable def eC1:Code:=qaa eC0
@[reducible] noncomputable def eC2:Code:=qaa eC1
@[reducible] noncomputable def eC3:Code:=qaa eC2
@[reducible] noncomputable def eC4:Code:=qEa eC3
@[reducible] noncomputable def eR8:Code:=qaa eC3
@[reducible] noncomputable def eRF:Code:=cIn (qaa eC4)
@[reducible] noncomputable def eB:Code:=cIn (rfB eRF)
@[reducible] noncomputable def eB2:Code:=qaa eB
@[reducible] noncomputable def eB3:Code:=qaa eB2
@[reducible] def qsD (x:qba) (b:List Int):List AV:=[.agg qga (inj false qga x), .sl (.int .u8) false b, .func 64 [0,1]]
@[reducible] def qOv (e:Int) (c:qka):List (Nat×Obj):=[(0, .box (.int .i64) e),(1, .box qsa (inj false qsa c))]
noncomputable def qOE (x:qba) (b:List Int) (e:Int) (c:qka):Tr:=
 rg (qEa eC0) (st0 (qsD x b) (qOv e c)) fun σ=>rg (qEa eC1) σ fun σ=>rg (qEa eC2) σ fun σ=>rg (qEa eC4) σ lf0
def qrz (s:Pos):Option (List Int×St):=
 match s.st.look 11,qib s.st.heap 64,keepSt s.st [6,7] true true with
 | .one (.func 128 [64]),some (.box t y),some σ'=>if h:t= .slice (.int .u8)∧qOd (qGA s.st [6,7] true) 64=none then (match (h.1▸y:qke (.slice (.int .u8))) with
   | .pure false r=>some (r,σ')
   |_=>none) else none
 |_,_,_=>none
set_option maxRecDepth 100000 in
theorem qqD (x:qba) (b:List Int) (e:Int) (c:qka):den qrz noL (qOE x b e c)=(qcy b).bind fun r=>some (r,qxc x [] e c):=by kernel_rfl
noncomputable def qPv (σ:St):Tr:=rg (qEa eB) σ fun σ1=>rg (qEa eB2) σ1 fun σ2=>match σ2.look 19 with
 | .one (.bool b)=> .bit b (rg (qeM eB3) σ2 qJH) (qJH σ2)
 |_=> .dead
set_option maxRecDepth 100000 in
theorem qDB (x:qba) (l:List Bool) (e:Int) (c:qka) (b:Bool):den stL noL (qPv (qro x l e c b))=(
gd ((l++[b]).length*1≤140737488355328)<|
if ((wi (l++[b]).length)==(2000:Int))=true then
(qVe x (l++[b]) e c).bind fun r=>some (qxc r.1 r.2.1 r.2.2.2.1 r.2.2.2.2)
else some (qxc x (l++[b]) e c)):=by kernel_rfl
set_option maxRecDepth 100000 in
theorem qrD (x:qba) (l:List Bool) (e:Int) (c:qka):den stL noL (rg eR8 (qxc x l e c) (qEJ []))=(qVe x l e c).bind fun r=>some (qPE r.2.2.2.1 r.2.2.2.2):=by kernel_rfl
end each
section each
theorem qBB {s s':qUh} {b:Bool} (h:qTe s b=some s'):den stL noL (qPv (qro s.1 s.2.1 s.2.2.1 s.2.2.2 b))=some (qxc s'.1 s'.2.1 s'.2.2.1 s'.2.2.2):=by
 rw [qDB]
 unfold qTe at h
 obtain ⟨h0,h⟩:=qai h
 rw [qha h0]
 split at h
 ·rename_i hc
  rw [if_pos hc]
  simp only [wcb] at h
  obtain ⟨r,hr,h⟩:=h
  simp only [wc] at h;subst h
  rw [hr];rfl
 ·rename_i hc
  rw [if_neg hc]
  simp only [wc] at h;subst h
  rfl
theorem qIr (x:qba) (l:List Bool) (e:Int) (c:qka):∀k o,qib (qxc x l e c).heap k=some o→qHF o=true:=by
 intro k o h
 unfold qib at h
 split at h
 ·rename_i ob hl
  subst h
  have:=qNb hl
  simp only [wU,wk,wlb,or_false,wc] at this
  rcases this with ⟨_,rfl⟩|⟨_,rfl⟩|⟨_,rfl⟩|⟨_,rfl⟩|⟨_,rfl⟩|⟨_,rfl⟩|⟨_,rfl⟩ <;> rfl
 ·cases h
def qDM:Code→Option (Nat×Nat)
 | .region _ ops false=>match ops.toList with
   |[o]=>match o.op,o.dst,o.guard with
    | .assign (.tmp t),some d,none=>some (d,t)
    |_,_,_=>none
   |_=>none
 |_=>none
theorem qSM {F:Fence} (hF:∀f,F.fn f) {n:Nat} {P:Program} {cd:Code} {d t:Nat} (h:qDM cd=some (d,t)) {Kx:Act→World→Prop} {Q:Exit→Act→World→Prop} {a:Act} {w:World} (hk:Kx (a.put (some d) (a.eval (.tmp t))) w):
  cd.wpIn F n P (Exit.then Kx Q) a w:=by
 unfold qDM at h
 split at h
 ·rename_i id ops
  split at h
  ·rename_i o ho
   split at h
   ·rename_i t' d' h1 h2 h3
    simp only [wc,wk] at h
    obtain ⟨rfl,rfl⟩:=h
    have hops:ops=#[o]:=by apply Array.ext';simpa using ho
    subst hops
    refine wpIn_region ?_
    show wpOpsIn F n P #[o] _ [0] a w
    have hw:wob o (yielded #[o] a.tmps)=true:=by unfold wob;rw [h3]
    have hg:(#[o]:Array Oper)[0]?=some o:=rfl
    simp only [wpOpsIn,hg,hw,if_true]
    refine ⟨fun f _=>hF f,?_⟩
    rw [Oper.semAt_eq _ _ _ (by rw [h1];intro c hc;cases hc)]
    have:(execOp a.eval o).run P w= .ok (.value (a.eval (.tmp t'))) w:=by simp [execOp,h1]
    rw [this]
    show Exit.then Kx Q .normal (a.put o.dst _) w
    rw [h2];exact hk
   ·cases h
  ·cases h
 ·cases h
theorem qKG {P:Program} {GT:qTg} {f:Nat} {fn:Func} {args:List AV} {pre:List (Nat×Obj)} {w:World} {F G:Nat→Prop} {K:Kn} {vs:List Value} (hf:P.funcs[f]?=some fn) (hnt:args.length≤fn.ntmps) (hp:pre.all (fun p=>decide (p.1<8))=true)
  (hglob:Glob P GT w) (hinv:Inv ⟨w,F,G,(ngOf GT),[]⟩ (lookL pre) K w) (hK:∀l,lookL pre l=none→K l=none) (hargs:VRdL w (NN ⟨w,F,G,(ngOf GT),[]⟩ (lookL pre) K w) K args vs):
  RelS ⟨w,F,G,(ngOf GT),[]⟩ P GT (qgg P f) (st0 args pre) K {tmps:=vs.toArray++Array.replicate (fn.ntmps - vs.toArray.size) undef,defers:=[]} w:=by
 have hlen:=hargs.len
 have htf:qgg P f=fn.ntmps:=by simp [qgg,hf]
 rw [htf]
 refine ⟨⟨?_,fun t=>?_,?_,rfl,hglob.1,rfl,hglob⟩,fun l hl=>?_⟩
 ·show Inv _ (qib (qoc pre)) K w
  rw [qGi];exact hinv
 ·show TVRd w (NN _ (qib (qoc pre)) K w) K _ _
  rw [qGi]
  simp only [St.look,st0,qxr,Nat.zero_le,if_true,Nat.sub_zero]
  cases ht:args[t]? with
  |none=>trivial
  |some v=>
   simp only [Option.map_some]
   obtain ⟨u,hu,hr⟩:=hargs.get ht
   have:({tmps:=vs.toArray++Array.replicate (fn.ntmps - vs.toArray.size) undef,defers:=[]}:Act).eval (.tmp t)=u:=by
    have htl:t<vs.length:=(List.getElem?_eq_some_iff.1 hu).1
    simp only [Act.eval,Array.getD_eq_getD_getElem?]
    rw [Array.getElem?_append_left (by simpa using htl)]
    simp [hu]
   rw [this];exact hr
 ·simp only [Array.size_append,wLa,Array.size_replicate]
  omega
 ·refine hK l (qsl (fun hm=>?_))
  obtain ⟨p,h1,h2⟩:=List.mem_map.1 hm
  have:=List.all_eq_true.1 hp p h1
  simp only [decide_eq_true_eq] at this
  have h15:(st0 args pre).next≤l:=hl
  have:(st0 args pre).next=8:=rfl
  omega
theorem qWx {ts:List Nat} {σ σ':St} (h:den stL noL (qEJ ts σ)=some σ'):keepSt σ ts true true=some σ':=by
 unfold qEJ at h
 split at h
 ·rename_i σ1 h1
  simp only [lf0,den,stL,wc] at h
  subst h;exact h1
 ·cases h
theorem qNF {σ σ':St} (h:den stL noL (qJH σ)=some σ'):keepSt σ [6,7] true true=some σ'∧qOd (qGA σ [6,7] true) 8=some 8∧qOd (qGA σ [6,7] true) 9=some 9:=by
 unfold qJH at h
 split at h
 ·rename_i hc
  simp only [wz,beq_iff_eq] at hc
  exact ⟨qWx h,hc⟩
 ·cases h
variable {c0:Cx}
def qdC (c0:Cx) (s s':qUh) (K:Kn) (a:Act) (W W':World):Prop:=
 KeepsOthers W W'∧(∀b,NN c0 (qib (qxc s.1 s.2.1 s.2.2.1 s.2.2.2).heap) K W false b→W'.heap[b]?=W.heap[b]?)∧
 ∃K',RelS c0 wg GT (qgg wg 63) (qxc s'.1 s'.2.1 s'.2.2.1 s'.2.2.2) K' a W'∧(∀l,l<8→∀gh,K l=some gh→K' l=some gh)∧
  ∀b,NN c0 (qib (qxc s.1 s.2.1 s.2.2.1 s.2.2.2).heap) K W false b→NN c0 (qib (qxc s'.1 s'.2.1 s'.2.2.1 s'.2.2.2).heap) K' W' false b
theorem qap {s s':qUh} {b:Bool} {K K2:Kn} {a a1 a2:Act} {W W':World} {σ2:St} (R0:RelS c0 wg GT (qgg wg 63) (qxc s.1 s.2.1 s.2.2.1 s.2.2.2) K a W)
  (R8:RelS c0 wg GT (qgg wg 63) (qro s.1 s.2.1 s.2.2.1 s.2.2.2 b) K a1 W) (hG:∀b,c0.G b→qTb (qib (qxc s.1 s.2.1 s.2.2.1 s.2.2.2).heap) K b)
  (h:den stL noL (qJH σ2)=some (qxc s'.1 s'.2.1 s'.2.2.1 s'.2.2.2)) (hsz:W.heap.size≤W'.heap.size) (R2:RelS c0 wg GT (qgg wg 63) σ2 K2 a2 W')
  (hk:KeepK W W' (NN c0 (qib (qro s.1 s.2.1 s.2.2.1 s.2.2.2 b).heap) K W) (NN c0 (qib σ2.heap) K2 W') K K2):qdC c0 s s' K a W W':=by
 obtain ⟨h1,h2,h3⟩:=qNF h
 obtain ⟨K',R',g1,g2,g3,_⟩:=R2.keepSt h1
 refine ⟨hk.others R8 R2 (qIr _ _ _ _) hG hsz,fun b hb=>((hk.n false).k b hb).2,K',?_,fun l hl gh hgh=>?_,fun b hb=>g2 b ((hk.n false).k b hb).1⟩
 ·have ha:a.tmps.size=a2.tmps.size:=R0.rel.size.trans R2.rel.size.symm
  refine R'.act (σ':=qxc s'.1 s'.2.1 s'.2.2.1 s'.2.2.2) rfl rfl ha (R0.rel.defers.trans R2.rel.defers.symm) (fun t=>?_)
  have h0:=R0.rel.tmps t
  simp only [St.look,lookL] at h0 ⊢
  by_cases h6:6=t
  ·subst h6
   simp only [if_true] at h0 ⊢
   obtain ⟨gh,pl,po,k1,k2⟩:=h0
   exact ⟨gh,pl,po,(g3 8 8 h2).trans (hk.k 8 gh k1),k2⟩
  ·simp only [h6,if_false] at h0 ⊢
   by_cases h7:7=t
   ·subst h7
    simp only [if_true] at h0 ⊢
    obtain ⟨sh,pl,k1,k2⟩:=h0
    exact ⟨sh,pl,(g3 9 9 h3).trans (hk.k 9 _ k1),k2⟩
   ·simp only [h7,if_false]
    trivial
 ·rw [g1 l hl];exact hk.k l gh hgh
theorem qWF {l n:Nat} {s s':qUh} {b:Bool} (hstep:qTe s b=some s') {K:Kn} {a a1:Act} {W:World} (R0:RelS c0 wg GT (qgg wg 63) (qxc s.1 s.2.1 s.2.2.1 s.2.2.2) K a W)
  (R8:RelS c0 wg GT (qgg wg 63) (qro s.1 s.2.1 s.2.2.1 s.2.2.2 b) K a1 W) (hG:∀b,c0.G b→qTb (qib (qxc s.1 s.2.1 s.2.2.1 s.2.2.2).heap) K b)
  {Q:Exit→Act→World→Prop} (hQ:∀a' W',qdC c0 s s' K a W W'→Q .normal a' W'):(rfB eRF).wpIn (Fence.wide.inRound l) n wg Q a1 W:=by
 have h0:=qBB hstep
 unfold qPv at h0
 refine qVB (by kernel_rfl) ?_
 refine qjp (by kernel_rfl) ?_
 refine qjn (fun _=>trivial) rfl qlC (fun f hf=>by cases hf) (by kernel_rfl) h0 R8 ?_
 intro σ1 K1 a2 W1 h1 R1 z1 k1
 show Code.wpIn _ _ _ (qaa (cIn (rfB eRF))) _ a2 W1
 refine qjp (by kernel_rfl) ?_
 refine qjn (fun _=>trivial) rfl qlC (fun f hf=>by cases hf) (by kernel_rfl) h1 R1 ?_
 intro σ2 K2 a3 W2 h2 R2 z2 k2
 show Code.wpIn _ _ _ (qaa (qaa (cIn (rfB eRF)))) _ a3 W2
 split at h2
 ·rename_i bv hbv
  have he:a3.eval (qKL (qaa (qaa (cIn (rfB eRF)))))= .bool bv:=by
   have h19:qKL (qaa (qaa (cIn (rfB eRF))))= .tmp 19:=by kernel_rfl
   rw [h19]
   have:=R2.rel.tmps 19
   rw [hbv] at this
   exact this
  refine qOJ (by kernel_rfl) he ?_
  simp only [den] at h2
  by_cases hb:bv=true
  ·subst hb
   simp only [if_true] at h2 ⊢
   refine qjn (fun _=>trivial) rfl qlC (fun f hf=>by cases hf) (by kernel_rfl) h2 R2 ?_
   intro σ3 K3 a4 W3 h3 R3 z3 k3
   exact hQ _ _ (qap R0 R8 hG h3 (wia z1 (wia z2 z3)) R3 ((k1.trans k2).trans k3))
  ·simp only [Bool.not_eq_true] at hb;subst hb
   simp only [Bool.false_eq_true,if_false] at h2 ⊢
   have hsk:qdO (qaa (qaa (cIn (rfB eRF))))= .skip:=by kernel_rfl
   rw [hsk]
   exact wpIn_skip (hQ _ _ (qap R0 R8 hG h2 (wia z1 z2) R2 (k1.trans k2)))
 ·cases h2
theorem qqz {s:Pos} {b:List Int} {σ':St} (h:qrz s=some (b,σ')):s.st.look 11= .one (.func 128 [64])∧qib s.st.heap 64=some (.box (.slice (.int .u8)) (.pure false b))∧keepSt s.st [6,7] true true=some σ'∧qOd (qGA s.st [6,7] true) 64=none:=by
 unfold qrz at h
 split at h
 ·rename_i t y σ1 h1 h2 h3
  split at h
  ·rename_i ht
   obtain ⟨rfl,hn⟩:=ht
   split at h
   ·rename_i r hr
    simp only [wc,wk] at h
    obtain ⟨rfl,rfl⟩:=h
    simp only at hr
    subst hr
    exact ⟨h1,h2,h3,hn⟩
   ·cases h
  ·cases h
 ·cases h
@[reducible] def qQv (a:Act) (b:Bool):Act:=({tmps:=a.tmps.setIfInBounds 12 (.bool b),defers:=[]}:Act).put (some 8) (.bool b)
theorem qjI {s:qUh} {b:Bool} {K:Kn} {a:Act} {W:World} (hd:c0.df=[]) (R0:RelS c0 wg GT (qgg wg 63) (qxc s.1 s.2.1 s.2.2.1 s.2.2.2) K a W):
  RelS c0 wg GT (qgg wg 63) (qro s.1 s.2.1 s.2.2.1 s.2.2.2 b) K (qQv a b) W:=by
 have hnt:qgg wg 63=24:=by kernel_rfl
 have hs:a.tmps.size=24:=R0.rel.size.trans hnt
 refine R0.act rfl rfl (by simp [Act.put]) (by simp [Act.put];rw [R0.rel.defers,hd]) (fun t=>?_)
 have h0:=R0.rel.tmps t
 simp only [St.look,lookL] at h0 ⊢
 by_cases h8:8=t
 ·subst h8
  simp only [if_true]
  show (qQv a b).eval (.tmp 8)= .bool b
  simp [Act.eval,Act.put,hs]
 ·simp only [h8,if_false]
  by_cases h6:6=t
  ·subst h6
   simp only [if_true] at h0 ⊢
   have:(qQv a b).eval (.tmp 6)=a.eval (.tmp 6):=by simp [Act.eval,Act.put,hs]
   rw [this];exact h0
  ·simp only [h6,if_false] at h0 ⊢
   by_cases h7:7=t
   ·subst h7
    simp only [if_true] at h0 ⊢
    have:(qQv a b).eval (.tmp 7)=a.eval (.tmp 7):=by simp [Act.eval,Act.put,hs]
    rw [this];exact h0
   ·simp only [h7,if_false]
    trivial
end each
section each
theorem qyM (e:Int) (c:qka):qib (qPE e c).heap=lookL [(0, .box (.int .i64) e),(1, .box qsa (inj false qsa c))]:=by
 rw [←qGi];rfl
set_option maxRecDepth 100000 in
theorem qkI {x:qba} {b:List Int} {e:Int} {c:qka} {r:qay} (h:qTf x b e c=some r):
  CallOK wg GT 63 (qsD x b) (qOv e c) (.tup []) [(0, .box (.int .i64) r.1),(1, .box qsa (inj false qsa r.2))]:=by
 unfold qTf at h
 obtain ⟨hlen,h⟩:=qai h
 obtain ⟨hall,h⟩:=qai h
 simp only [wcb] at h
 obtain ⟨sf,hsf,rf,hrf,h⟩:=h
 simp only [wc] at h;subst h
 intro w F G K0 vs hglob hinv hG hK hF hargs
 have hlenv:=hargs.len
 have hfn:qzL wg 63 3=true:=by kernel_rfl
 have hf:=Tryz.func63
 generalize hfg:Tryz.f63=fn at hf
 clear hfg
 unfold qzL at hfn
 rw [hf] at hfn
 simp only [wz,Bool.not_eq_true',decide_eq_true_eq] at hfn
 obtain ⟨⟨hbd,hnm⟩,hnt⟩:=hfn
 obtain ⟨body,hb⟩:=wEa.1 hbd
 have hbody:body=eC0:=by simp [eC0,qda,hf,hb]
 have hcf:(callFunc 63 vs.toArray).run wg w= .ok (.enter 63 vs.toArray) w:=by
  have hnm':¬fn.name= "runtime.NumGoroutine" :=by simpa using hnm
  simp [callFunc,hf,hnm',hb]
 unfold qcp
 rw [hcf]
 have R0:=qKG (args:=qsD x b) (pre:=qOv e c) hf hnt rfl hglob hinv hK hargs
 refine (callsIn_wide (n:=3)).1 (callsIn_of_wp_marks hf hb trivial ?_ rfl)
 rw [hbody]
 have hG0:∀q,(⟨w,F,G,(ngOf GT),[]⟩:Cx).G q→qTb (lookL (qOv e c)) K0 q:=hG
 have hpost:∀v w',(∃K',(∀l gh,K0 l=some gh→K' l=some gh)∧Inv ⟨w,F,G,(ngOf GT),[]⟩ (lookL [(0, .box (.int .i64) rf.2.2.2.1),(1, .box qsa (inj false qsa rf.2.2.2.2))]) K' w'∧
   TVRd w' (NN ⟨w,F,G,(ngOf GT),[]⟩ (lookL [(0, .box (.int .i64) rf.2.2.2.1),(1, .box qsa (inj false qsa rf.2.2.2.2))]) K' w') K' (.tup []) v)→(∃v',Ending.returned v= .returned v'∧(∃K',(∀l gh,K0 l=some gh→K' l=some gh)∧Inv ⟨w,F,G,(ngOf GT),[]⟩ (lookL [(0, .box (.int .i64) rf.2.2.2.1),(1, .box qsa (inj false qsa rf.2.2.2.2))]) K' w'∧
   TVRd w' (NN ⟨w,F,G,(ngOf GT),[]⟩ (lookL [(0, .box (.int .i64) rf.2.2.2.1),(1, .box qsa (inj false qsa rf.2.2.2.2))]) K' w') K' (.tup []) v')):=fun v w' hh=>⟨v,rfl,hh⟩
 have hK8:∀l,8≤l→K0 l=none:=by
  intro l hl
  refine hK l (qsl (fun hm=>?_))
  simp at hm;omega
 generalize hc0:(⟨w,F,G,(ngOf GT),[]⟩:Cx)=c0 at R0 hG0 hpost
 have hdf:c0.df=[]:=by rw [←hc0]
 have hw0:c0.w0=w:=by rw [←hc0]
 have hpre:=qqD x b e c
 rw [qKz] at hpre
 simp only [wy] at hpre
 unfold qOE at hpre
 refine qjp (by kernel_rfl) ?_
 refine qjn (fun _=>trivial) rfl qRp (fun f hf=>by cases hf) (by kernel_rfl) hpre R0 ?_
 intro σ1 K1 a1 W1 h1 R1 z1 k1
 show Code.wpIn _ _ _ eC1 _ a1 W1
 refine qjp (by kernel_rfl) ?_
 refine qjn (fun _=>trivial) rfl qRp (fun f hf=>by cases hf) (by kernel_rfl) h1 R1 ?_
 intro σ2 K2 a2 W2 h2 R2 z2 k2
 show Code.wpIn _ _ _ eC2 _ a2 W2
 refine qjp (by kernel_rfl) ?_
 refine qjn (fun _=>trivial) rfl qRp (fun f hf=>by cases hf) (by kernel_rfl) h2 R2 ?_
 intro σ3 K3 a3 W3 h3 R3 z3 k3
 show Code.wpIn _ _ _ eC3 _ a3 W3
 refine qjp (by kernel_rfl) ?_
 refine qjp (by kernel_rfl) ?_
 refine qjn (fun _=>trivial) rfl qRp (fun f hf=>by cases hf) (by kernel_rfl) h3 R3 ?_
 intro σ4 K4 a4 W4 h4 R4 z4 k4
 show Code.wpIn _ _ _ (qaa eC4) _ a4 W4
 refine qVB (by kernel_rfl) ?_
 have hrf0:cIn (qaa eC4)= .rangeFunc (rfF eRF) (rfP eRF) (rfA eRF) (rfB eRF):=rfC (c:=eRF) (by kernel_rfl)
 rw [hrf0]
 simp only [lf0,den] at h4
 obtain ⟨l11,l64,hkp,hn64⟩:=qqz h4
 simp only at l11 l64 hkp hn64
 have hsz4:w.heap.size≤W4.heap.size:=wia z1 (wia z2 (wia z3 z4))
 have t11:=R4.rel.tmps 11
 rw [l11] at t11
 obtain ⟨us,t1,gh,p,ur,g1,g2,t2,t3⟩:=t11
 simp only [capsRd] at t3
 subst t3;subst t2
 obtain ⟨gh',e1,e2,p',cs,e3,e4,e5⟩:=R4.rel.inv.objs 64 _ l64
 rw [g1] at e1;injection e1 with e1;subst e1
 rw [g2] at e3;injection e3 with e3;subst e3
 obtain ⟨A0,cap,rfl,hle,hbytes⟩:=e5
 have hBs:W4.cell? ⟨p.blk,p.ob,none⟩=some (.slice A0 b.length cap):=by simpa using e4.cells 0 _ rfl
 have hpb:=(R4.rel.inv.own 64 _ gh p l64 g1 (.inl g2)).1
 obtain ⟨K5,R5,q1,q2,q3,q4⟩:=R4.keepSt hkp
 have hNB:NN c0 (qib (qxc x [] e c).heap) K5 W4 false p.blk:=q4 64 _ gh p hn64 l64 g1 (.inl g2)
 obtain ⟨bb,hH,hNb⟩:∃bb,qWK W4 bb A0 b∧NN c0 (qib (qxc x [] e c).heap) K5 W4 false bb:=by
  rcases hbytes with rfl|⟨b',o,cl,hA,hN,hc,hcat⟩
  ·exact ⟨p.blk, .inl rfl,hNB⟩
  ·refine ⟨b', .inr ⟨o,hA,fun j hj=>?_⟩,q2 b' hN⟩
   have hcl:=qAh hcat
   refine hc j _ ?_
   rw [hcl,wDa,wx hj];rfl
 have hK05:∀l,l<8→∀g,K0 l=some g→K5 l=some g:=fun l hl g hg=>by rw [q1 l hl];exact (((k1.trans k2).trans k3).trans k4).k l g hg
 have hG5:∀(s:qUh) (K:Kn),(∀l,l<8→∀g,K0 l=some g→K l=some g)→∀q,c0.G q→qTb (qib (qxc s.1 s.2.1 s.2.2.1 s.2.2.2).heap) K q:=by
  intro s K hk q hq
  obtain ⟨l,o,g,pp,h1,h2,h3,h4⟩:=hG0 q hq
  have hm:=qNb h1
  simp only [qOv,wU,wk,wlb,or_false] at hm
  rcases hm with ⟨rfl,_⟩|⟨rfl,_⟩
  ·exact ⟨0,_,g,pp,rfl,hk 0 (by omega) g h2,h3,h4⟩
  ·exact ⟨1,_,g,pp,rfl,hk 1 (by omega) g h2,h3,h4⟩
 have hps:rfP eRF=#[12]:=by kernel_rfl
 refine wpIn_rangeFunc_ownF (α:=Bool) rfl (by omega) (gf:=128) (lb:=#[.pointer (some ⟨p.blk,p.ob,none⟩)]) ?hg trivial ?eg (encs:=fun x:Bool=>#[.bool x]) (Kp:=KpM (fun q=>q=p.blk∨q=bb)) (S:=fun xs=>xs=quj b) (Sp:=fun _=>True) (N:=8*b.length) (w0:=W4)
  (qlG (3 - 1) (by omega) p.blk p.ob bb cap A0 b hlen _ (.inl rfl) (.inr rfl) W4 hpb hNb.1 hBs hH) (fun h k=>h.trans k) ?hKb (Below.refl _ _) ?hps
  (fun pre W=>∃s K,qDf pre (x,[],e,c)=some s∧RelS c0 wg GT (qgg wg 63) (qxc s.1 s.2.1 s.2.2.1 s.2.2.2) K a4 W∧(∀l,l<8→∀g,K0 l=some g→K l=some g)∧
   NN c0 (qib (qxc s.1 s.2.1 s.2.2.1 s.2.2.2).heap) K W false p.blk∧NN c0 (qib (qxc s.1 s.2.1 s.2.2.1 s.2.2.2).heap) K W false bb)
  (fun _ _ _=>False) ?hI (fun _ _ _ _ _ h _ _=>h) ?h0 (fun bit=>qQv a4 bit) ?assign ?body ?done ?stop
 case hg=>
  have h11:rfF eRF= .tmp 11:=by kernel_rfl
  rw [h11,t1]
 case eg=>exact enters_of Tryz.func128 (by kernel_rfl) rfl
 case hKb=>
  intro W l o o' _ ho hoc _ q v _ hv
  exact cell_kept hv (grownBy_putObj' W l o') (fun r e=>by cases e;exact ⟨o,ho,hoc⟩)
 case hps=>intro x;rw [hps];rfl
 case hI=>
  rintro pre W W' row ⟨s,K,hs,R,hk,n1,n2⟩ hg hr
  refine ⟨s,K,hs,R.abide hg (fun r e=>⟨?_,(hr r e).2⟩) (qIr _ _ _ _),hk,⟨wY n1.1 hg.size,n1.2⟩,⟨wY n2.1 hg.size,n2.2⟩⟩
  rw [hw0]
  exact wia hsz4 (hr r e).1
 case h0=>exact ⟨(x,[],e,c),K5,rfl,R5,hK05,hNB,hNb⟩
 case assign=>
  intro l bit W Kx hKx
  rw [hps]
  refine qSM (fun _=>trivial) (d:=8) (t:=12) (by kernel_rfl) ?_
  have hsz:a4.tmps.size=24:=R4.rel.size.trans (by kernel_rfl)
  have:({tmps:=(#[12].zip #[Value.bool bit]).foldl (fun t (x:Nat×Value)=>t.setIfInBounds x.1 x.2) a4.tmps,defers:=[]}:Act).eval (.tmp 12)= .bool bit:=by
   simp [Act.eval,hsz]
  rw [this]
  simpa using hKx
 case body=>
  rintro l pre bit W ⟨s,K,hs,R,hk,n1,n2⟩ hlt
  have hok:=hall (pre++[bit]) (by simp;omega)
  rw [qlm,hs] at hok
  simp only [wy] at hok
  obtain ⟨s',hstep⟩:=wEa.1 hok
  refine qWF hstep R (qjI hdf R) (hG5 s K hk) ?_
  rintro a' W' ⟨hko,hsame,K',R',hm,hn⟩
  refine ⟨hko,fun q v hq hv=>?_,s',K',by rw [qlm,hs];exact hstep,R',fun l hl g hg=>hm l hl g (hk l hl g hg),hn _ n1,hn _ n2⟩
  rw [World.cell?_of_block (a:=q) (hsame q.block (by rcases hq with hq|hq <;> rw [hq] <;> assumption))]
  exact hv
 case stop=>rintro D cd pre W _ _ h _;exact h.elim
 case done=>
  rintro D xs W hD rfl ⟨s,K,hs,R,hk,n1,n2⟩ hdef
  rw [hs] at hsf
  simp only [wc] at hsf;subst hsf
  have hend:=qrD s.1 s.2.1 s.2.2.1 s.2.2.2
  rw [hrf] at hend
  simp only [wy] at hend
  have had:a4.defers=[]:=R4.rel.defers.trans hdf
  rw [had]
  have Rd:=R.df [{target:= .collected D,args:=#[]}]
  show Code.wpIn _ _ _ eR8 _ _ W
  refine qjn (fun _=>trivial) rfl qRp (fun f hf=>by cases hf) (by kernel_rfl) hend Rd ?_
  intro σ6 K6 a6 W6 h6 R6 z6 k6
  have hk6:=qWx h6
  obtain ⟨K7,R7,r1,_⟩:=R6.keepSt hk6
  have hD6:W6.heap[D]?=some (.deferred (some [])):=(k6.others Rd R6 (qIr _ _ _ _) (hG5 s K hk) z6).same D _ hdef rfl
  show LeavesInM _ _ _ fn a6.tmps _ a6.defers .returning W6
  rw [R6.rel.defers]
  refine ⟨by simp, .inl ⟨D,_,rfl,run_takeDeferred hD6,?_⟩⟩
  have R8:=R7.abide (grownBy_putObj' W6 D (.deferred none)) (fun r hr=>by
   injection hr with hr;subst hr
   exact ⟨by show c0.w0.heap.size≤D;rw [hw0];exact wia hsz4 hD,_,hD6,rfl⟩) (fun k o hk=>by
   unfold qib at hk
   split at hk
   ·rename_i ob hl
    subst hk
    have:=qNb hl
    simp only [wU,wk,wlb,or_false,wc] at this
    rcases this with ⟨_,rfl⟩|⟨_,rfl⟩ <;> rfl
   ·cases hk)
  have hrs:fn.results.toList=[]:=by
   have:qeL wg 63=[]:=by kernel_rfl
   simpa [qeL,hf] using this
  obtain ⟨v,hv1,hv2⟩:=qgE R8 (fn:=fn) (res:= .tup []) (by rw [hrs];rfl)
  refine ⟨v,hv1,hpost v _ ⟨K7,fun l g hg=>?_,?_,?_⟩⟩
  ·by_cases hl:l<8
   ·rw [r1 l hl];exact k6.k l g (hk l hl g hg)
   ·rw [hK8 l (by omega)] at hg;cases hg
  ·have:=R8.rel.inv
   rw [qyM] at this
   have:=this.df []
   rw [hc0] at*
   rw [←hdf] at this
   exact this
  ·exact hv2
noncomputable def qqm (avs:List AV) (pre:List (Nat×Obj)):Option qay:=
 match avs,pre with
 |[.agg t x, .sl t2 fr b, .func g [0,1]],[(0, .box t3 e),(1, .box t4 c)]=>
  if h:t=qga∧t2= .int .u8∧fr=false∧g=64∧t3= .int .i64∧t4=qsa then
   match unj qga (h.1▸x),unj qsa (h.2.2.2.2.2▸c) with
   |some x',some c'=>if qQq false qga (h.1▸x)&&qQq false qsa (h.2.2.2.2.2▸c) then qTf x' (h.2.1▸b:List (pden (.int .u8))) (h.2.2.2.2.1▸e:qke (.int .i64)) c' else none
   |_,_=>none
  else none
 |_,_=>none
def qCB (r:qay):List (Nat×Obj):=[(0, .box (.int .i64) r.1),(1, .box qsa (inj false qsa r.2))]
set_option maxRecDepth 100000 in
theorem qJz {avs:List AV} {pre:List (Nat×Obj)} {r:qay} (h:qqm avs pre=some r):CallOK wg GT 63 avs pre (.tup []) (qCB r):=by
 unfold qqm at h
 split at h
 ·rename_i t x t2 fr b g t3 e t4 c
  split at h
  ·rename_i hh
   obtain ⟨rfl,rfl,rfl,rfl,rfl,rfl⟩:=hh
   split at h
   ·rename_i x' c' hx hc
    split at h
    ·rename_i hf
     simp only [wz] at hf
     have ex:=qov hx hf.1
     have ec:=qov hc hf.2
     simp only at ex ec h
     have:=qkI h
     rw [←ex,←ec]
     exact this
    ·cases h
   ·cases h
  ·cases h
 ·cases h
end each
end Go.Ab
