/-
  An abstract machine over the model's code and its soundness; what the functions compute, as plain functions (printed by a program of this repo's own, checked here by the kernel); plain laws of them: part 5. Helper text, no statement of the claim stands here.
-/
import Derived.Test.YtdgenbliehokjaaGreatDoorTxtOd
import Derived.RangeFuncBox
import Derived.RangeFuncLeaves
import Derived.Shelf.Abstract
import Derived.WalkKit
import Derived.OwnWalkIn
import Derived.TacticsInMore
import Derived.LoopNIn
import Derived.LoopIn
open Bool renaming and_eq_true → wz
open ByteArray renaming empty → wD, mk → wDa, toList → wO
open Go.IntKind renaming wrap → wd
open Go.Proofs.Tryz renaming prog → wg
open Go.Region renaming wanted → wvb
open Int renaming fdiv → wX, ofNat → wi, toNat → wn
open List renaming cons_append → wea, drop → wW, flatMap_cons → wXa, getD → wk, getElem?_eq_getElem → wx, length → we, length_append → wm, length_cons → wB, length_nil → wT, length_take → wP, mem_cons → waa, nil_append → wU, replicate → wo, set → wF, size_toArray → wKa, take → wK, take_of_length_le → wN, take_succ_eq_append_getElem → wPa
open Nat renaming le_trans → wma, lt_of_lt_of_le → wga
open Option renaming bind_eq_some_iff → wib, bind_some → wq, isSome_iff_exists → wGa
open Option.some renaming injEq → wc
open Prod.mk renaming injEq → wl
/-
  codec.each: walked by hand, the rounds by the abstract machine.
-/
set_option linter.unusedVariables false
namespace Go.Ab
open Go Go.Proofs Go.RowKit Go.Shelf
attribute [local go_sem] Oper.semAt_some
def KpM (M:Nat→Prop) (W W':World):Prop:=∀p v,M p.block→W.cell? p=some v→W'.cell? p=some v
theorem KpM.refl (M:Nat→Prop) (W:World):KpM M W W:=fun _ _ _ h=>h
theorem KpM.trans {M:Nat→Prop} {A B C:World} (h:KpM M A B) (k:KpM M B C):KpM M A C:=fun p v hm hv=>k p v hm (h p v hm hv)
def qtR (z:Int) (j:Nat):Bool:=bits BinOp.and IntKind.u8 (z/2 ^ (7 - j)) 1==1
def quA (z:Int):List Bool:=(List.range 8).map (qtR z)
def qVv (zs:List Int):List Bool:=zs.flatMap quA
theorem qht (z:Int):(quA z).length=8:=by simp [quA]
theorem qZy:∀(zs:List Int),(qVv zs).length=8*zs.length
 |[]=>rfl
 |z::r=>by
  have:=qZy r
  simp only [qVv,wXa,wm,qht,wB] at this ⊢
  omega
theorem qSJ (z:Int) {j:Nat} (h:j<8):(quA z).take (j+1)=(quA z).take j++[qtR z j]:=by
 rw [wPa (by rw [qht];exact h)]
 simp [quA]
theorem qRJ (zs:List Int) {k:Nat} (h:k<zs.length):qVv (zs.take (k+1))=qVv (zs.take k)++quA (zs[k]'h):=by
 unfold qVv
 rw [wPa h,List.flatMap_append]
 simp only [wXa,List.flatMap_nil,List.append_nil]
set_option maxRecDepth 100000 in
set_option maxHeartbeats 4000000 in
theorem qWN (n:Nat) (hn:1≤n) (l Bs Bo b off len cap:Nat) (zs:List Int) (hreach:len*8≤140737488351232) (M:Nat→Prop) (hM1:M Bs) (hM2:M b) (hl:zs.length=len) (J Jx:List Bool→World→Prop)
  (hY:∀pre x W,J pre W→pre.length<8*len→YieldAt Fence.wide (n - 1) wg l #[.bool x] W fun e W'=>
   (e= .returned (.bool true)∧J (pre++[x]) W'∧KpM M W W')∨(e= .returned (.bool false)∧Jx (pre++[x]) W'))
  (W:World) (hBs:W.cell? ⟨Bs,Bo,none⟩=some (.slice (some ⟨b,off,none⟩) len cap)) (hc:∀j,j<len→W.cell? ⟨b,off+j,none⟩=some (.int .u8 (zs[j]?.getD 0))) (h0:J [] W):
  CallsIn Fence.wide n wg 210 #[.func (.yield l) #[] #[], .pointer (some ⟨Bs,Bo,none⟩)] W fun e W'=>(∃v,e= .returned v)∧(J (qVv zs) W'∨∃pre,Jx pre W'):=by
 refine callsIn_of_wp Tryz.func210 rfl trivial ?_ rfl
 simp only [Tryz.ntmps210,wKa,wB,wT,Nat.reduceAdd,Nat.reduceSub,Array.replicate_succ,Array.replicate_zero,List.push_toArray,List.append_toArray,wU,wea]
 gi_wp2
 gi_loopw [8,4,5] (fun i c4 c5 wr=>∃k:Nat,k≤len∧i= .int .i64 k∧J (qVv (zs.take k)) wr∧KpM M W wr)
  (fun i _ _ _=>len - (intOf i).toNat)
 case atStart=>exact ⟨0,Nat.zero_le _,rfl,h0,KpM.refl _ _⟩
 case round=>
  obtain ⟨k,hk,rfl,hJs,hnx⟩:=hrel
  by_cases hlt:k<len
  ·have hk':k<zs.length:=by omega
   have hcx:wr.cell? ⟨b,off+k,none⟩=some (.int .u8 (zs[k]?.getD 0)):=hnx _ _ hM2 (hc k hlt)
   rw [wx hk'] at hcx
   simp only [Option.getD_some] at hcx
   have htake:=qRJ zs hk'
   generalize zs[k]=z at hcx htake
   gi_wp2
   gi_loopw [5] (fun c5 wr2=>∃j:Nat,j≤8∧c5= .int .i64 (7 - (j:Int))∧J (qVv (zs.take k)++(quA z).take j) wr2∧KpM M W wr2) (fun c5 _=>(intOf c5+1).toNat)
   case atStart=>exact ⟨0,by omega,rfl,by simpa using hJs,hnx⟩
   case round=>
    obtain ⟨j,hj,rfl,hJq,hnx2⟩:=hrel
    by_cases hj8:j<8
    ·have hj0:(0:Int)≤7 - (j:Int):=by omega
     obtain ⟨fn,tmps,assign,body,hy,hR⟩:=hY _ (qtR z j) wr hJq (by rw [wm,qZy,wP,wP,qht];omega)
     unfold qtR at hy
     gi_wp2
     refine hR.mono ?_
     rintro e W3 (⟨rfl,hJ3,hk3⟩|⟨rfl,hJx3⟩)
     ·gi_wp2
      go_roundw
      case rel=>
       refine ⟨j+1,by omega,?_,?_,hnx2.trans hk3⟩
       ·simp;omega
       ·rw [qSJ z hj8,←List.append_assoc];exact hJ3
      case measure=>simp [intOf];omega
     ·gi_wp2
      refine bodyPost_ret (results_none rfl _ _ _) rfl ?_
      exact ⟨⟨_,rfl⟩, .inr ⟨_,hJx3⟩⟩
    ·obtain rfl:j=8:=by omega
     gi_wp2
     go_roundw
     case rel=>
      refine ⟨k+1,by omega,by simp,?_,hnx2⟩
      rw [htake]
      have:(quA z).take 8=quA z:=wN (by rw [qht];omega)
      rw [←this];exact hJq
     case measure=>simp [intOf];omega
  ·obtain rfl:k=len:=by omega
   gi_wp2
   go_end0
   refine ⟨⟨_,rfl⟩, .inl ?_⟩
   rwa [wN (by omega)] at hJs
set_option maxRecDepth 100000 in
set_option maxHeartbeats 4000000 in
theorem qBM (n:Nat) (l Bs Bo cap:Nat) (A0:Option Addr) (J:List Bool→World→Prop)
  (W:World) (hBs:W.cell? ⟨Bs,Bo,none⟩=some (.slice A0 0 cap)) (h0:J [] W):
  CallsIn Fence.wide n wg 210 #[.func (.yield l) #[] #[], .pointer (some ⟨Bs,Bo,none⟩)] W fun e W'=>(∃v,e= .returned v)∧J [] W':=by
 refine callsIn_of_wp Tryz.func210 rfl trivial ?_ rfl
 simp only [Tryz.ntmps210,wKa,wB,wT,Nat.reduceAdd,Nat.reduceSub,Array.replicate_succ,Array.replicate_zero,List.push_toArray,List.append_toArray,wU,wea]
 gi_wp2
 gi_loopw [8] (fun i wr=>i= .int .i64 0∧J [] wr) (fun _ _=>0)
 case atStart=>exact ⟨rfl,h0⟩
 case round=>
  obtain ⟨rfl,hJs⟩:=hrel
  gi_wp2
  go_end0
  exact ⟨⟨_,rfl⟩,hJs⟩
def qeP (w:World) (b:Nat) (A0:Option Addr) (zs:List Int):Prop:=zs=[]∨∃o,A0=some ⟨b,o,none⟩∧∀j,j<zs.length→w.cell? ⟨b,o+j,none⟩=some (.int .u8 (zs[j]?.getD 0))
theorem qQJ (n:Nat) (hn:1≤n) (Bs Bo b cap:Nat) (A0:Option Addr) (zs:List Int) (hreach:zs.length*8≤140737488351232) (M:Nat→Prop) (hM1:M Bs) (hM2:M b) (w:World) (h1:Bs<w.heap.size) (h2:b<w.heap.size)
  (hBs:w.cell? ⟨Bs,Bo,none⟩=some (.slice A0 zs.length cap)) (hc:qeP w b A0 zs):
  SeqStopsK Fence.wide n wg 210 #[.pointer (some ⟨Bs,Bo,none⟩)] (fun x:Bool=>#[.bool x]) (KpM M) (fun xs=>xs=qVv zs) (fun _=>True) (8*zs.length) w:=fun l J Jx W hW _ _ hY h0=>by
 have hBs':=(hW.cell (p:=⟨Bs,Bo,none⟩) h1).trans hBs
 rcases hc with rfl|⟨o,rfl,hc⟩
 ·refine (qBM n l Bs Bo cap A0 J W hBs' h0).mono ?_
  rintro e W' ⟨he,hj⟩
  exact ⟨he, .inl ⟨_,rfl,hj⟩⟩
 ·refine (qWN n hn l Bs Bo b o zs.length cap zs hreach M hM1 hM2 rfl J Jx hY W hBs' (fun j hj=>(hW.cell (p:=⟨b,o+j,none⟩) h2).trans (hc j hj)) h0).mono ?_
  rintro e W' ⟨he,hj|⟨pre,hj⟩⟩
  ·exact ⟨he, .inl ⟨_,rfl,hj⟩⟩
  ·exact ⟨he, .inr ⟨pre,trivial,hj⟩⟩
section each
@[reducible] def qVc (x:qja) (l:List Bool) (e:Int) (c:qBa):St:=
 ⟨[(6, .one (.ptr (.slice .bool) 8 [])),(7, .one (.cptr 9))],[(0,some (.box (.int .i64) e)),(1,some (.box qya (inj false qya c))),(8,some (.box (.slice .bool) (.ref 10 0 l.length true))),(9,some (.cell (.func 160 [11,8,12]))),(10,some (.row .bool false l)),(11,some (.box qla (inj false qla x))),(12,some (.cell (.func 125 [0,1])))],15⟩
@[reducible] def qlq (x:qja) (l:List Bool) (e:Int) (c:qBa) (b:Bool):St:=
 ⟨(8, .one (.bool b))::(qVc x l e c).tmps,(qVc x l e c).heap,15⟩
@[reducible] def qlI (e:Int) (c:qBa):St:=⟨[],[(0,some (.box (.int .i64) e)),(1,some (.box qya (inj false qya c)))],10⟩
@[reducible] def qMl:Type:=qja×List Bool×Int×qBa
@[reducible] def qWA:Type:=Int×qBa
noncomputable def qUh (s:qMl) (b:Bool):Option qMl:=
 gd ((s.2.1++[b]).length*1≤140737488355328)<|
 if ((wi (s.2.1++[b]).length)==(2000:Int))=true then
  (qeh s.1 (s.2.1++[b]) s.2.2.1 s.2.2.2).bind fun r=>some (r.1,r.2.1,r.2.2.2.1,r.2.2.2.2)
 else some (s.1,s.2.1++[b],s.2.2.1,s.2.2.2)
noncomputable def qgj:List Bool→qMl→Option qMl
 |[],s=>some s
 |b::l,s=>(qUh s b).bind (qgj l)
theorem qJn:∀(l:List Bool) (b:Bool) (s:qMl),qgj (l++[b]) s=(qgj l s).bind fun t=>qUh t b
 |[],b,s=>by
  simp only [wU,qgj,wq]
  cases qUh s b <;> rfl
 |a::l,b,s=>by
  simp only [wea,qgj]
  cases qUh s a with
  |none=>rfl
  |some t=>exact qJn l b t
noncomputable def qmk (x:qja) (b:List Int) (e:Int) (c:qBa):Option qWA:=
 gd (b.length*8≤140737488351232)<|
 gd (∀l:List Bool,l.length≤8*b.length→(qgj l (x,[],e,c)).isSome=true)<|
 (qgj (qVv b) (x,[],e,c)).bind fun s=>
 (qeh s.1 s.2.1 s.2.2.1 s.2.2.2).bind fun r=>some (r.2.2.2.1,r.2.2.2.2)
noncomputable def qPN:List (Summ wg GT):=[SS vbe,(SS vIb).dropping]
@[reducible] noncomputable def rg (cd:Code) (σ:St) (k:St→Tr):Tr:=qPo wg GT (qwh wg 124) [] qPN (qgS cd) false σ k
def stL:Pos→Option St:=fun s=>some s.st
def noL {R:Type}:Pos→Option R:=fun _=>none
def lf0 (σ:St):Tr:= .leaf ⟨[],σ⟩
def qGN (ts:List Nat) (σ:St):Tr:=match keepSt σ ts true true with
 |some σ'=>lf0 σ'
 |none=> .dead
def qwL (σ:St):Tr:=if (qze (qzD σ [6,7] true) 8==some 8)&&(qze (qzD σ [6,7] true) 9==some 9) then qGN [6,7] σ else .dead
@[reducible] noncomputable def eC0:Code:=qha wg 124
@[reducible] noncomputable def eC1:Code:=qba eC0
@[reducible] noncomputable def eC2:Code:=qba eC1
@[reducible] noncomputable def eC3:Code:=qba eC2
@[reducible] noncomputable def eC4:Code:=qGa eC3
@[reducible] noncomputable def eR8:Code:=qba eC3
@[reducible] noncomputable def eRF:Code:=cIn (qba eC4)
@[reducible] noncomputable def eB:Code:=cIn (rfB eRF)
@[reducible] noncomputable def eB2:Code:=qba eB
@[reducible] noncomputable def eB3:Code:=qba eB2
@[reducible] def qFG (x:qja) (b:List Int):List AV:=[.agg qla (inj false qla x), .sl (.int .u8) false b, .func 125 [0,1]]
@[reducible] def qCy (e:Int) (c:qBa):List (Nat×Obj):=[(0, .box (.int .i64) e),(1, .box qya (inj false qya c))]
noncomputable def qkI (x:qja) (b:List Int) (e:Int) (c:qBa):Tr:=
 rg (qGa eC0) (st0 (qFG x b) (qCy e c)) fun σ=>rg (qGa eC1) σ fun σ=>rg (qGa eC2) σ fun σ=>rg (qGa eC4) σ lf0
def qvC (s:Pos):Option (List Int×St):=
 match s.st.look 11,qsb s.st.heap 64,keepSt s.st [6,7] true true with
 | .one (.func 210 [64]),some (.box t y),some σ'=>if h:t= .slice (.int .u8)∧qze (qzD s.st [6,7] true) 64=none then (match (h.1▸y:qbf (.slice (.int .u8))) with
   | .pure false r=>some (r,σ')
   |_=>none) else none
 |_,_,_=>none
set_option maxRecDepth 100000 in
theorem qDG (x:qja) (b:List Int) (e:Int) (c:qBa):den qvC noL (qkI x b e c)=(qZA b).bind fun r=>some (r,qVc x [] e c):=by kernel_rfl
noncomputable def qDy (σ:St):Tr:=rg (qGa eB) σ fun σ1=>rg (qGa eB2) σ1 fun σ2=>match σ2.look 19 with
 | .one (.bool b)=> .bit b (rg (qoQ eB3) σ2 qwL) (qwL σ2)
 |_=> .dead
set_option maxRecDepth 100000 in
theorem qOE (x:qja) (l:List Bool) (e:Int) (c:qBa) (b:Bool):den stL noL (qDy (qlq x l e c b))=(
gd ((l++[b]).length*1≤140737488355328)<|
if ((wi (l++[b]).length)==(2000:Int))=true then
(qeh x (l++[b]) e c).bind fun r=>some (qVc r.1 r.2.1 r.2.2.2.1 r.2.2.2.2)
else some (qVc x (l++[b]) e c)):=by kernel_rfl
set_option maxRecDepth 100000 in
theorem qEG (x:qja) (l:List Bool) (e:Int) (c:qBa):den stL noL (rg eR8 (qVc x l e c) (qGN []))=(qeh x l e c).bind fun r=>some (qlI r.2.2.2.1 r.2.2.2.2):=by kernel_rfl
end each
section each
theorem qME {s s':qMl} {b:Bool} (h:qUh s b=some s'):den stL noL (qDy (qlq s.1 s.2.1 s.2.2.1 s.2.2.2 b))=some (qVc s'.1 s'.2.1 s'.2.2.1 s'.2.2.2):=by
 rw [qOE]
 unfold qUh at h
 obtain ⟨h0,h⟩:=qnp h
 rw [qda h0]
 split at h
 ·rename_i hc
  rw [if_pos hc]
  simp only [wib] at h
  obtain ⟨r,hr,h⟩:=h
  simp only [wc] at h;subst h
  rw [hr];rfl
 ·rename_i hc
  rw [if_neg hc]
  simp only [wc] at h;subst h
  rfl
theorem qmu (x:qja) (l:List Bool) (e:Int) (c:qBa):∀k o,qsb (qVc x l e c).heap k=some o→qiJ o=true:=by
 intro k o h
 unfold qsb at h
 split at h
 ·rename_i ob hl
  subst h
  have:=qgc hl
  simp only [waa,wl,List.not_mem_nil,or_false,wc] at this
  rcases this with ⟨_,rfl⟩|⟨_,rfl⟩|⟨_,rfl⟩|⟨_,rfl⟩|⟨_,rfl⟩|⟨_,rfl⟩|⟨_,rfl⟩ <;> rfl
 ·cases h
def qNQ:Code→Option (Nat×Nat)
 | .region _ ops false=>match ops.toList with
   |[o]=>match o.op,o.dst,o.guard with
    | .assign (.tmp t),some d,none=>some (d,t)
    |_,_,_=>none
   |_=>none
 |_=>none
theorem qeR {F:Fence} (hF:∀f,F.fn f) {n:Nat} {P:Program} {cd:Code} {d t:Nat} (h:qNQ cd=some (d,t)) {Kx:Act→World→Prop} {Q:Exit→Act→World→Prop} {a:Act} {w:World} (hk:Kx (a.put (some d) (a.eval (.tmp t))) w):
  cd.wpIn F n P (Exit.then Kx Q) a w:=by
 unfold qNQ at h
 split at h
 ·rename_i id ops
  split at h
  ·rename_i o ho
   split at h
   ·rename_i t' d' h1 h2 h3
    simp only [wc,wl] at h
    obtain ⟨rfl,rfl⟩:=h
    have hops:ops=#[o]:=by apply Array.ext';simpa using ho
    subst hops
    refine wpIn_region ?_
    show wpOpsIn F n P #[o] _ [0] a w
    have hw:wvb o (yielded #[o] a.tmps)=true:=by unfold wvb;rw [h3]
    have hg:(#[o]:Array Oper)[0]?=some o:=rfl
    simp only [wpOpsIn,hg,hw,if_true]
    refine ⟨fun f _=>hF f,?_⟩
    rw [Oper.semAt_eq _ _ _ (by rw [h1];intro c hc;cases hc)]
    have:(execOp a.eval o).run P w= .ok (.value (a.eval (.tmp t'))) w:=by simp [execOp,h1]
    rw [this]
    show Exit.then Kx Q .normal (a.put o.dst _) w
    rw [h2];exact hk
   ·cases h
  ·cases h
 ·cases h
theorem qoK {P:Program} {GT:qyi} {f:Nat} {fn:Func} {args:List AV} {pre:List (Nat×Obj)} {w:World} {F G:Nat→Prop} {K:Kn} {vs:List Value} (hf:P.funcs[f]?=some fn) (hnt:args.length≤fn.ntmps) (hp:pre.all (fun p=>decide (p.1<8))=true)
  (hglob:Glob P GT w) (hinv:Inv ⟨w,F,G,(ngOf GT),[]⟩ (lookL pre) K w) (hK:∀l,lookL pre l=none→K l=none) (hargs:VRdL w (NN ⟨w,F,G,(ngOf GT),[]⟩ (lookL pre) K w) K args vs):
  RelS ⟨w,F,G,(ngOf GT),[]⟩ P GT (qwh P f) (st0 args pre) K {tmps:=vs.toArray++Array.replicate (fn.ntmps - vs.toArray.size) undef,defers:=[]} w:=by
 have hlen:=hargs.len
 have htf:qwh P f=fn.ntmps:=by simp [qwh,hf]
 rw [htf]
 refine ⟨⟨?_,fun t=>?_,?_,rfl,hglob.1,rfl,hglob⟩,fun l hl=>?_⟩
 ·show Inv _ (qsb (qMc pre)) K w
  rw [qlk];exact hinv
 ·show TVRd w (NN _ (qsb (qMc pre)) K w) K _ _
  rw [qlk]
  simp only [St.look,st0,qYt,Nat.zero_le,if_true,Nat.sub_zero]
  cases ht:args[t]? with
  |none=>trivial
  |some v=>
   simp only [Option.map_some]
   obtain ⟨u,hu,hr⟩:=hargs.get ht
   have:({tmps:=vs.toArray++Array.replicate (fn.ntmps - vs.toArray.size) undef,defers:=[]}:Act).eval (.tmp t)=u:=by
    have htl:t<vs.length:=(List.getElem?_eq_some_iff.1 hu).1
    simp only [Act.eval,Array.getD_eq_getD_getElem?]
    rw [Array.getElem?_append_left (by simpa using htl)]
    simp [hu]
   rw [this];exact hr
 ·simp only [Array.size_append,wKa,Array.size_replicate]
  omega
 ·refine hK l (qOm (fun hm=>?_))
  obtain ⟨p,h1,h2⟩:=List.mem_map.1 hm
  have:=List.all_eq_true.1 hp p h1
  simp only [decide_eq_true_eq] at this
  have h15:(st0 args pre).next≤l:=hl
  have:(st0 args pre).next=8:=rfl
  omega
theorem qRA {ts:List Nat} {σ σ':St} (h:den stL noL (qGN ts σ)=some σ'):keepSt σ ts true true=some σ':=by
 unfold qGN at h
 split at h
 ·rename_i σ1 h1
  simp only [lf0,den,stL,wc] at h
  subst h;exact h1
 ·cases h
theorem qqJ {σ σ':St} (h:den stL noL (qwL σ)=some σ'):keepSt σ [6,7] true true=some σ'∧qze (qzD σ [6,7] true) 8=some 8∧qze (qzD σ [6,7] true) 9=some 9:=by
 unfold qwL at h
 split at h
 ·rename_i hc
  simp only [wz,beq_iff_eq] at hc
  exact ⟨qRA h,hc⟩
 ·cases h
variable {c0:Cx}
def qrF (c0:Cx) (s s':qMl) (K:Kn) (a:Act) (W W':World):Prop:=
 KeepsOthers W W'∧(∀b,NN c0 (qsb (qVc s.1 s.2.1 s.2.2.1 s.2.2.2).heap) K W false b→W'.heap[b]?=W.heap[b]?)∧
 ∃K',RelS c0 wg GT (qwh wg 124) (qVc s'.1 s'.2.1 s'.2.2.1 s'.2.2.2) K' a W'∧(∀l,l<8→∀gh,K l=some gh→K' l=some gh)∧
  ∀b,NN c0 (qsb (qVc s.1 s.2.1 s.2.2.1 s.2.2.2).heap) K W false b→NN c0 (qsb (qVc s'.1 s'.2.1 s'.2.2.1 s'.2.2.2).heap) K' W' false b
theorem qar {s s':qMl} {b:Bool} {K K2:Kn} {a a1 a2:Act} {W W':World} {σ2:St} (R0:RelS c0 wg GT (qwh wg 124) (qVc s.1 s.2.1 s.2.2.1 s.2.2.2) K a W)
  (R8:RelS c0 wg GT (qwh wg 124) (qlq s.1 s.2.1 s.2.2.1 s.2.2.2 b) K a1 W) (hG:∀b,c0.G b→qkc (qsb (qVc s.1 s.2.1 s.2.2.1 s.2.2.2).heap) K b)
  (h:den stL noL (qwL σ2)=some (qVc s'.1 s'.2.1 s'.2.2.1 s'.2.2.2)) (hsz:W.heap.size≤W'.heap.size) (R2:RelS c0 wg GT (qwh wg 124) σ2 K2 a2 W')
  (hk:KeepK W W' (NN c0 (qsb (qlq s.1 s.2.1 s.2.2.1 s.2.2.2 b).heap) K W) (NN c0 (qsb σ2.heap) K2 W') K K2):qrF c0 s s' K a W W':=by
 obtain ⟨h1,h2,h3⟩:=qqJ h
 obtain ⟨K',R',g1,g2,g3,_⟩:=R2.keepSt h1
 refine ⟨hk.others R8 R2 (qmu _ _ _ _) hG hsz,fun b hb=>((hk.n false).k b hb).2,K',?_,fun l hl gh hgh=>?_,fun b hb=>g2 b ((hk.n false).k b hb).1⟩
 ·have ha:a.tmps.size=a2.tmps.size:=R0.rel.size.trans R2.rel.size.symm
  refine R'.act (σ':=qVc s'.1 s'.2.1 s'.2.2.1 s'.2.2.2) rfl rfl ha (R0.rel.defers.trans R2.rel.defers.symm) (fun t=>?_)
  have h0:=R0.rel.tmps t
  simp only [St.look,lookL] at h0 ⊢
  by_cases h6:6=t
  ·subst h6
   simp only [if_true] at h0 ⊢
   obtain ⟨gh,pl,po,k1,k2⟩:=h0
   exact ⟨gh,pl,po,(g3 8 8 h2).trans (hk.k 8 gh k1),k2⟩
  ·simp only [h6,if_false] at h0 ⊢
   by_cases h7:7=t
   ·subst h7
    simp only [if_true] at h0 ⊢
    obtain ⟨sh,pl,k1,k2⟩:=h0
    exact ⟨sh,pl,(g3 9 9 h3).trans (hk.k 9 _ k1),k2⟩
   ·simp only [h7,if_false]
    trivial
 ·rw [g1 l hl];exact hk.k l gh hgh
theorem qAJ {l n:Nat} {s s':qMl} {b:Bool} (hstep:qUh s b=some s') {K:Kn} {a a1:Act} {W:World} (R0:RelS c0 wg GT (qwh wg 124) (qVc s.1 s.2.1 s.2.2.1 s.2.2.2) K a W)
  (R8:RelS c0 wg GT (qwh wg 124) (qlq s.1 s.2.1 s.2.2.1 s.2.2.2 b) K a1 W) (hG:∀b,c0.G b→qkc (qsb (qVc s.1 s.2.1 s.2.2.1 s.2.2.2).heap) K b)
  {Q:Exit→Act→World→Prop} (hQ:∀a' W',qrF c0 s s' K a W W'→Q .normal a' W'):(rfB eRF).wpIn (Fence.wide.inRound l) n wg Q a1 W:=by
 have h0:=qME hstep
 unfold qDy at h0
 refine qgF (by kernel_rfl) ?_
 refine qlr (by kernel_rfl) ?_
 refine qQo (fun _=>trivial) rfl qzF (fun f hf=>by cases hf) (by kernel_rfl) h0 R8 ?_
 intro σ1 K1 a2 W1 h1 R1 z1 k1
 show Code.wpIn _ _ _ (qba (cIn (rfB eRF))) _ a2 W1
 refine qlr (by kernel_rfl) ?_
 refine qQo (fun _=>trivial) rfl qzF (fun f hf=>by cases hf) (by kernel_rfl) h1 R1 ?_
 intro σ2 K2 a3 W2 h2 R2 z2 k2
 show Code.wpIn _ _ _ (qba (qba (cIn (rfB eRF)))) _ a3 W2
 split at h2
 ·rename_i bv hbv
  have he:a3.eval (qYP (qba (qba (cIn (rfB eRF)))))= .bool bv:=by
   have h19:qYP (qba (qba (cIn (rfB eRF))))= .tmp 19:=by kernel_rfl
   rw [h19]
   have:=R2.rel.tmps 19
   rw [hbv] at this
   exact this
  refine qTN (by kernel_rfl) he ?_
  simp only [den] at h2
  by_cases hb:bv=true
  ·subst hb
   simp only [if_true] at h2 ⊢
   refine qQo (fun _=>trivial) rfl qzF (fun f hf=>by cases hf) (by kernel_rfl) h2 R2 ?_
   intro σ3 K3 a4 W3 h3 R3 z3 k3
   exact hQ _ _ (qar R0 R8 hG h3 (wma z1 (wma z2 z3)) R3 ((k1.trans k2).trans k3))
  ·simp only [Bool.not_eq_true] at hb;subst hb
   simp only [Bool.false_eq_true,if_false] at h2 ⊢
   have hsk:qmS (qba (qba (cIn (rfB eRF))))= .skip:=by kernel_rfl
   rw [hsk]
   exact wpIn_skip (hQ _ _ (qar R0 R8 hG h2 (wma z1 z2) R2 (k1.trans k2)))
 ·cases h2
theorem quC {s:Pos} {b:List Int} {σ':St} (h:qvC s=some (b,σ')):s.st.look 11= .one (.func 210 [64])∧qsb s.st.heap 64=some (.box (.slice (.int .u8)) (.pure false b))∧keepSt s.st [6,7] true true=some σ'∧qze (qzD s.st [6,7] true) 64=none:=by
 unfold qvC at h
 split at h
 ·rename_i t y σ1 h1 h2 h3
  split at h
  ·rename_i ht
   obtain ⟨rfl,hn⟩:=ht
   split at h
   ·rename_i r hr
    simp only [wc,wl] at h
    obtain ⟨rfl,rfl⟩:=h
    simp only at hr
    subst hr
    exact ⟨h1,h2,h3,hn⟩
   ·cases h
  ·cases h
 ·cases h
@[reducible] def qEy (a:Act) (b:Bool):Act:=({tmps:=a.tmps.setIfInBounds 12 (.bool b),defers:=[]}:Act).put (some 8) (.bool b)
theorem qWL {s:qMl} {b:Bool} {K:Kn} {a:Act} {W:World} (hd:c0.df=[]) (R0:RelS c0 wg GT (qwh wg 124) (qVc s.1 s.2.1 s.2.2.1 s.2.2.2) K a W):
  RelS c0 wg GT (qwh wg 124) (qlq s.1 s.2.1 s.2.2.1 s.2.2.2 b) K (qEy a b) W:=by
 have hnt:qwh wg 124=24:=by kernel_rfl
 have hs:a.tmps.size=24:=R0.rel.size.trans hnt
 refine R0.act rfl rfl (by simp [Act.put]) (by simp [Act.put];rw [R0.rel.defers,hd]) (fun t=>?_)
 have h0:=R0.rel.tmps t
 simp only [St.look,lookL] at h0 ⊢
 by_cases h8:8=t
 ·subst h8
  simp only [if_true]
  show (qEy a b).eval (.tmp 8)= .bool b
  simp [Act.eval,Act.put,hs]
 ·simp only [h8,if_false]
  by_cases h6:6=t
  ·subst h6
   simp only [if_true] at h0 ⊢
   have:(qEy a b).eval (.tmp 6)=a.eval (.tmp 6):=by simp [Act.eval,Act.put,hs]
   rw [this];exact h0
  ·simp only [h6,if_false] at h0 ⊢
   by_cases h7:7=t
   ·subst h7
    simp only [if_true] at h0 ⊢
    have:(qEy a b).eval (.tmp 7)=a.eval (.tmp 7):=by simp [Act.eval,Act.put,hs]
    rw [this];exact h0
   ·simp only [h7,if_false]
    trivial
end each
section each
theorem qGQ (e:Int) (c:qBa):qsb (qlI e c).heap=lookL [(0, .box (.int .i64) e),(1, .box qya (inj false qya c))]:=by
 rw [←qlk];rfl
set_option maxRecDepth 100000 in
theorem qXL {x:qja} {b:List Int} {e:Int} {c:qBa} {r:qWA} (h:qmk x b e c=some r):
  CallOK wg GT 124 (qFG x b) (qCy e c) (.tup []) [(0, .box (.int .i64) r.1),(1, .box qya (inj false qya r.2))]:=by
 unfold qmk at h
 obtain ⟨hlen,h⟩:=qnp h
 obtain ⟨hall,h⟩:=qnp h
 simp only [wib] at h
 obtain ⟨sf,hsf,rf,hrf,h⟩:=h
 simp only [wc] at h;subst h
 intro w F G K0 vs hglob hinv hG hK hF hargs
 have hlenv:=hargs.len
 have hfn:qJP wg 124 3=true:=by kernel_rfl
 have hf:=Tryz.func124
 generalize hfg:Tryz.f124=fn at hf
 clear hfg
 unfold qJP at hfn
 rw [hf] at hfn
 simp only [wz,Bool.not_eq_true',decide_eq_true_eq] at hfn
 obtain ⟨⟨hbd,hnm⟩,hnt⟩:=hfn
 obtain ⟨body,hb⟩:=wGa.1 hbd
 have hbody:body=eC0:=by simp [eC0,qha,hf,hb]
 have hcf:(callFunc 124 vs.toArray).run wg w= .ok (.enter 124 vs.toArray) w:=by
  have hnm':¬fn.name= "runtime.NumGoroutine" :=by simpa using hnm
  simp [callFunc,hf,hnm',hb]
 unfold qfr
 rw [hcf]
 have R0:=qoK (args:=qFG x b) (pre:=qCy e c) hf hnt rfl hglob hinv hK hargs
 refine (callsIn_wide (n:=3)).1 (callsIn_of_wp_marks hf hb trivial ?_ rfl)
 rw [hbody]
 have hG0:∀q,(⟨w,F,G,(ngOf GT),[]⟩:Cx).G q→qkc (lookL (qCy e c)) K0 q:=hG
 have hpost:∀v w',(∃K',(∀l gh,K0 l=some gh→K' l=some gh)∧Inv ⟨w,F,G,(ngOf GT),[]⟩ (lookL [(0, .box (.int .i64) rf.2.2.2.1),(1, .box qya (inj false qya rf.2.2.2.2))]) K' w'∧
   TVRd w' (NN ⟨w,F,G,(ngOf GT),[]⟩ (lookL [(0, .box (.int .i64) rf.2.2.2.1),(1, .box qya (inj false qya rf.2.2.2.2))]) K' w') K' (.tup []) v)→(∃v',Ending.returned v= .returned v'∧(∃K',(∀l gh,K0 l=some gh→K' l=some gh)∧Inv ⟨w,F,G,(ngOf GT),[]⟩ (lookL [(0, .box (.int .i64) rf.2.2.2.1),(1, .box qya (inj false qya rf.2.2.2.2))]) K' w'∧
   TVRd w' (NN ⟨w,F,G,(ngOf GT),[]⟩ (lookL [(0, .box (.int .i64) rf.2.2.2.1),(1, .box qya (inj false qya rf.2.2.2.2))]) K' w') K' (.tup []) v')):=fun v w' hh=>⟨v,rfl,hh⟩
 have hK8:∀l,8≤l→K0 l=none:=by
  intro l hl
  refine hK l (qOm (fun hm=>?_))
  simp at hm;omega
 generalize hc0:(⟨w,F,G,(ngOf GT),[]⟩:Cx)=c0 at R0 hG0 hpost
 have hdf:c0.df=[]:=by rw [←hc0]
 have hw0:c0.w0=w:=by rw [←hc0]
 have hpre:=qDG x b e c
 rw [qPC] at hpre
 simp only [wq] at hpre
 unfold qkI at hpre
 refine qlr (by kernel_rfl) ?_
 refine qQo (fun _=>trivial) rfl qbs (fun f hf=>by cases hf) (by kernel_rfl) hpre R0 ?_
 intro σ1 K1 a1 W1 h1 R1 z1 k1
 show Code.wpIn _ _ _ eC1 _ a1 W1
 refine qlr (by kernel_rfl) ?_
 refine qQo (fun _=>trivial) rfl qbs (fun f hf=>by cases hf) (by kernel_rfl) h1 R1 ?_
 intro σ2 K2 a2 W2 h2 R2 z2 k2
 show Code.wpIn _ _ _ eC2 _ a2 W2
 refine qlr (by kernel_rfl) ?_
 refine qQo (fun _=>trivial) rfl qbs (fun f hf=>by cases hf) (by kernel_rfl) h2 R2 ?_
 intro σ3 K3 a3 W3 h3 R3 z3 k3
 show Code.wpIn _ _ _ eC3 _ a3 W3
 refine qlr (by kernel_rfl) ?_
 refine qlr (by kernel_rfl) ?_
 refine qQo (fun _=>trivial) rfl qbs (fun f hf=>by cases hf) (by kernel_rfl) h3 R3 ?_
 intro σ4 K4 a4 W4 h4 R4 z4 k4
 show Code.wpIn _ _ _ (qba eC4) _ a4 W4
 refine qgF (by kernel_rfl) ?_
 have hrf0:cIn (qba eC4)= .rangeFunc (rfF eRF) (rfP eRF) (rfA eRF) (rfB eRF):=rfC (c:=eRF) (by kernel_rfl)
 rw [hrf0]
 simp only [lf0,den] at h4
 obtain ⟨l11,l64,hkp,hn64⟩:=quC h4
 simp only at l11 l64 hkp hn64
 have hsz4:w.heap.size≤W4.heap.size:=wma z1 (wma z2 (wma z3 z4))
 have t11:=R4.rel.tmps 11
 rw [l11] at t11
 obtain ⟨us,t1,gh,p,ur,g1,g2,t2,t3⟩:=t11
 simp only [capsRd] at t3
 subst t3;subst t2
 obtain ⟨gh',e1,e2,p',cs,e3,e4,e5⟩:=R4.rel.inv.objs 64 _ l64
 rw [g1] at e1;injection e1 with e1;subst e1
 rw [g2] at e3;injection e3 with e3;subst e3
 obtain ⟨A0,cap,rfl,hle,hbytes⟩:=e5
 have hBs:W4.cell? ⟨p.blk,p.ob,none⟩=some (.slice A0 b.length cap):=by simpa using e4.cells 0 _ rfl
 have hpb:=(R4.rel.inv.own 64 _ gh p l64 g1 (.inl g2)).1
 obtain ⟨K5,R5,q1,q2,q3,q4⟩:=R4.keepSt hkp
 have hNB:NN c0 (qsb (qVc x [] e c).heap) K5 W4 false p.blk:=q4 64 _ gh p hn64 l64 g1 (.inl g2)
 obtain ⟨bb,hH,hNb⟩:∃bb,qeP W4 bb A0 b∧NN c0 (qsb (qVc x [] e c).heap) K5 W4 false bb:=by
  rcases hbytes with rfl|⟨b',o,cl,hA,hN,hc,hcat⟩
  ·exact ⟨p.blk, .inl rfl,hNB⟩
  ·refine ⟨b', .inr ⟨o,hA,fun j hj=>?_⟩,q2 b' hN⟩
   have hcl:=qvm hcat
   refine hc j _ ?_
   rw [hcl,List.getElem?_map,wx hj];rfl
 have hK05:∀l,l<8→∀g,K0 l=some g→K5 l=some g:=fun l hl g hg=>by rw [q1 l hl];exact (((k1.trans k2).trans k3).trans k4).k l g hg
 have hG5:∀(s:qMl) (K:Kn),(∀l,l<8→∀g,K0 l=some g→K l=some g)→∀q,c0.G q→qkc (qsb (qVc s.1 s.2.1 s.2.2.1 s.2.2.2).heap) K q:=by
  intro s K hk q hq
  obtain ⟨l,o,g,pp,h1,h2,h3,h4⟩:=hG0 q hq
  have hm:=qgc h1
  simp only [qCy,waa,wl,List.not_mem_nil,or_false] at hm
  rcases hm with ⟨rfl,_⟩|⟨rfl,_⟩
  ·exact ⟨0,_,g,pp,rfl,hk 0 (by omega) g h2,h3,h4⟩
  ·exact ⟨1,_,g,pp,rfl,hk 1 (by omega) g h2,h3,h4⟩
 have hps:rfP eRF=#[12]:=by kernel_rfl
 refine wpIn_rangeFunc_ownF (α:=Bool) rfl (by omega) (gf:=210) (lb:=#[.pointer (some ⟨p.blk,p.ob,none⟩)]) ?hg trivial ?eg (encs:=fun x:Bool=>#[.bool x]) (Kp:=KpM (fun q=>q=p.blk∨q=bb)) (S:=fun xs=>xs=qVv b) (Sp:=fun _=>True) (N:=8*b.length) (w0:=W4)
  (qQJ (3 - 1) (by omega) p.blk p.ob bb cap A0 b hlen _ (.inl rfl) (.inr rfl) W4 hpb hNb.1 hBs hH) (fun h k=>h.trans k) ?hKb (Below.refl _ _) ?hps
  (fun pre W=>∃s K,qgj pre (x,[],e,c)=some s∧RelS c0 wg GT (qwh wg 124) (qVc s.1 s.2.1 s.2.2.1 s.2.2.2) K a4 W∧(∀l,l<8→∀g,K0 l=some g→K l=some g)∧
   NN c0 (qsb (qVc s.1 s.2.1 s.2.2.1 s.2.2.2).heap) K W false p.blk∧NN c0 (qsb (qVc s.1 s.2.1 s.2.2.1 s.2.2.2).heap) K W false bb)
  (fun _ _ _=>False) ?hI (fun _ _ _ _ _ h _ _=>h) ?h0 (fun bit=>qEy a4 bit) ?assign ?body ?done ?stop
 case hg=>
  have h11:rfF eRF= .tmp 11:=by kernel_rfl
  rw [h11,t1]
 case eg=>exact enters_of Tryz.func210 (by kernel_rfl) rfl
 case hKb=>
  intro W l o o' _ ho hoc _ q v _ hv
  exact cell_kept hv (grownBy_putObj' W l o') (fun r e=>by cases e;exact ⟨o,ho,hoc⟩)
 case hps=>intro x;rw [hps];rfl
 case hI=>
  rintro pre W W' row ⟨s,K,hs,R,hk,n1,n2⟩ hg hr
  refine ⟨s,K,hs,R.abide hg (fun r e=>⟨?_,(hr r e).2⟩) (qmu _ _ _ _),hk,⟨wga n1.1 hg.size,n1.2⟩,⟨wga n2.1 hg.size,n2.2⟩⟩
  rw [hw0]
  exact wma hsz4 (hr r e).1
 case h0=>exact ⟨(x,[],e,c),K5,rfl,R5,hK05,hNB,hNb⟩
 case assign=>
  intro l bit W Kx hKx
  rw [hps]
  refine qeR (fun _=>trivial) (d:=8) (t:=12) (by kernel_rfl) ?_
  have hsz:a4.tmps.size=24:=R4.rel.size.trans (by kernel_rfl)
  have:({tmps:=(#[12].zip #[Value.bool bit]).foldl (fun t (x:Nat×Value)=>t.setIfInBounds x.1 x.2) a4.tmps,defers:=[]}:Act).eval (.tmp 12)= .bool bit:=by
   simp [Act.eval,hsz]
  rw [this]
  simpa using hKx
 case body=>
  rintro l pre bit W ⟨s,K,hs,R,hk,n1,n2⟩ hlt
  have hok:=hall (pre++[bit]) (by simp;omega)
  rw [qJn,hs] at hok
  simp only [wq] at hok
  obtain ⟨s',hstep⟩:=wGa.1 hok
  refine qAJ hstep R (qWL hdf R) (hG5 s K hk) ?_
  rintro a' W' ⟨hko,hsame,K',R',hm,hn⟩
  refine ⟨hko,fun q v hq hv=>?_,s',K',by rw [qJn,hs];exact hstep,R',fun l hl g hg=>hm l hl g (hk l hl g hg),hn _ n1,hn _ n2⟩
  rw [World.cell?_of_block (a:=q) (hsame q.block (by rcases hq with hq|hq <;> rw [hq] <;> assumption))]
  exact hv
 case stop=>rintro D cd pre W _ _ h _;exact h.elim
 case done=>
  rintro D xs W hD rfl ⟨s,K,hs,R,hk,n1,n2⟩ hdef
  rw [hs] at hsf
  simp only [wc] at hsf;subst hsf
  have hend:=qEG s.1 s.2.1 s.2.2.1 s.2.2.2
  rw [hrf] at hend
  simp only [wq] at hend
  have had:a4.defers=[]:=R4.rel.defers.trans hdf
  rw [had]
  have Rd:=R.df [{target:= .collected D,args:=#[]}]
  show Code.wpIn _ _ _ eR8 _ _ W
  refine qQo (fun _=>trivial) rfl qbs (fun f hf=>by cases hf) (by kernel_rfl) hend Rd ?_
  intro σ6 K6 a6 W6 h6 R6 z6 k6
  have hk6:=qRA h6
  obtain ⟨K7,R7,r1,_⟩:=R6.keepSt hk6
  have hD6:W6.heap[D]?=some (.deferred (some [])):=(k6.others Rd R6 (qmu _ _ _ _) (hG5 s K hk) z6).same D _ hdef rfl
  show LeavesInM _ _ _ fn a6.tmps _ a6.defers .returning W6
  rw [R6.rel.defers]
  refine ⟨by simp, .inl ⟨D,_,rfl,run_takeDeferred hD6,?_⟩⟩
  have R8:=R7.abide (grownBy_putObj' W6 D (.deferred none)) (fun r hr=>by
   injection hr with hr;subst hr
   exact ⟨by show c0.w0.heap.size≤D;rw [hw0];exact wma hsz4 hD,_,hD6,rfl⟩) (fun k o hk=>by
   unfold qsb at hk
   split at hk
   ·rename_i ob hl
    subst hk
    have:=qgc hl
    simp only [waa,wl,List.not_mem_nil,or_false,wc] at this
    rcases this with ⟨_,rfl⟩|⟨_,rfl⟩ <;> rfl
   ·cases hk)
  have hrs:fn.results.toList=[]:=by
   have:qmP wg 124=[]:=by kernel_rfl
   simpa [qmP,hf] using this
  obtain ⟨v,hv1,hv2⟩:=qrH R8 (fn:=fn) (res:= .tup []) (by rw [hrs];rfl)
  refine ⟨v,hv1,hpost v _ ⟨K7,fun l g hg=>?_,?_,?_⟩⟩
  ·by_cases hl:l<8
   ·rw [r1 l hl];exact k6.k l g (hk l hl g hg)
   ·rw [hK8 l (by omega)] at hg;cases hg
  ·have:=R8.rel.inv
   rw [qGQ] at this
   have:=this.df []
   rw [hc0] at*
   rw [←hdf] at this
   exact this
  ·exact hv2
noncomputable def qMn (avs:List AV) (pre:List (Nat×Obj)):Option qWA:=
 match avs,pre with
 |[.agg t x, .sl t2 fr b, .func g [0,1]],[(0, .box t3 e),(1, .box t4 c)]=>
  if h:t=qla∧t2= .int .u8∧fr=false∧g=125∧t3= .int .i64∧t4=qya then
   match unj qla (h.1▸x),unj qya (h.2.2.2.2.2▸c) with
   |some x',some c'=>if qmt false qla (h.1▸x)&&qmt false qya (h.2.2.2.2.2▸c) then qmk x' (h.2.1▸b:List (pden (.int .u8))) (h.2.2.2.2.1▸e:qbf (.int .i64)) c' else none
   |_,_=>none
  else none
 |_,_=>none
def qNE (r:qWA):List (Nat×Obj):=[(0, .box (.int .i64) r.1),(1, .box qya (inj false qya r.2))]
set_option maxRecDepth 100000 in
theorem qOC {avs:List AV} {pre:List (Nat×Obj)} {r:qWA} (h:qMn avs pre=some r):CallOK wg GT 124 avs pre (.tup []) (qNE r):=by
 unfold qMn at h
 split at h
 ·rename_i t x t2 fr b g t3 e t4 c
  split at h
  ·rename_i hh
   obtain ⟨rfl,rfl,rfl,rfl,rfl,rfl⟩:=hh
   split at h
   ·rename_i x' c' hx hc
    split at h
    ·rename_i hf
     simp only [wz] at hf
     have ex:=qey hx hf.1
     have ec:=qey hc hf.2
     simp only at ex ec h
     have:=qXL h
     rw [←ex,←ec]
     exact this
    ·cases h
   ·cases h
  ·cases h
 ·cases h
end each
end Go.Ab

set_option linter.unusedVariables false
set_option maxRecDepth 20000
namespace Go.Ab
open Go Go.Proofs
noncomputable def qbF (acc:List AV→Bool):Summ wg GT:={f:=124,acc:=acc,rows:=false,nils:=false,R:=qWA,fn:=qMn,res:=fun _=> .tup [],post:=qNE,drop:=false,ok:=fun _ _ _ h=>qOC h}
noncomputable def vMd:FN:={f:=165,cuts:=[],tab:=[SS vd],fm:=⟨true,[.val (.slice (.int .u8)) [.nw]]⟩}
noncomputable def qAy (a0:qBa):Option (List Int):=vMd.call [(.agg qya (inj false qya a0))] []
theorem qdA (a0:qBa):qAy a0=(
(qub a0.2.2.1).bind fun r1=>
gd (0≤(24:Int))<|
gd (0≤(16:Int))<|
gd (0≤(8:Int))<|
letI c:=(r1++[(wd .u8 (wX a0.1 (16777216:Int))),(wd .u8 (wX a0.1 (65536:Int))),(wd .u8 (wX a0.1 (256:Int))),(wd .u8 a0.1)])
gd ((we c)*1≤140737488355328)<|
some c):=CE
noncomputable def vCd:FN:={f:=127,cuts:=[],tab:=[SS vrb,SS vMd],fm:=⟨true,[.val (.slice (.int .u8)) [.nw], .val (.int .i64) []]⟩}
noncomputable def qLr (a0:qBa):Option (List Int×Int):=vCd.call [(.agg qya (inj false qya a0))] []
theorem qgA (a0:qBa):qLr a0=(
(qdk a0).bind fun r1=>
if (r1 != (0:Int))=true then
some ([],r1)
else
if (decide ((wi (we a0.2.2.1))>(19996:Int)))=true then
some ([],(4:Int))
else
(qAy a0).bind fun r2=>
some (r2,(0:Int))):=CE
noncomputable def vcd:FN:={f:=80,cuts:=[],tab:=[(SS vmc).dropping,SS vGd,(qbF (fun _=>true)).dropping,SS vCd],fm:=⟨true,[.val (.slice (.int .u8)) [.nw], .val (.int .i64) []]⟩}
noncomputable def qAp (a0:Int) (a1:List Int):Option (List Int×Int):=vcd.call [(.int .i64 a0),(.sl (.int .u8) false a1)] []
theorem qTy (a0:Int) (a1:List Int):qAp a0 a1=(
(qQr a0 (wi (we a1))).bind fun r1=>
if (r1.2 != (0:Int))=true then
some ([],r1.2)
else
(qBy).bind fun r2=>
(qmk r1.1 a1 r1.2 r2).bind fun r3=>
if (r3.1 != (0:Int))=true then
some ([],(4:Int))
else
(qLr r3.2).bind fun r4=>
some (r4)):=CE
noncomputable def vGa:FN:={f:=166,cuts:=[⟨(3,3),[3,18,19],false,false,[],[],[]⟩,⟨(6,7),[3,4,5,18,19,25,26],false,false,[],[],[]⟩],tab:=[],fm:=⟨true,[.val (.slice (.int .u8)) [.nw]]⟩}
noncomputable def qip (a0:qga):Option (List Int):=vGa.call [(.agg qsa (inj false qsa a0))] []
noncomputable def qod (v18:(List Int)) (v19:Int) (h8:List Int):Option (List Int):=vGa.sem ⟨[.code (cIn (cIn (qba (qGa (qba (qba (qha wg 166))))))), .inLoop (cIn (cIn (qba (qGa (qba (qba (qha wg 166))))))), .inBlock 0, .code (qba (qba (qba (qha wg 166))))],⟨[(3,(.one (.ref (.int .u8) 8 0 (we h8) true))),(18,(.one (.agg (.arr 5 (.int .i64)) v18))),(19,(.one (.int .i64 v19)))],[(8,some (.row (.int .u8) true h8))],9⟩⟩
noncomputable def qKk (v4:Int) (v5:Int) (v18:(List Int)) (v19:Int) (v25:Int) (v26:Int) (h8:List Int):Option (List Int):=vGa.sem ⟨[.code (cIn (cIn (qba (qba (cIn (qGa (qba (qba (cIn (cIn (qba (qGa (qba (qba (qha wg 166))))))))))))))), .inLoop (cIn (cIn (qba (qba (cIn (qGa (qba (qba (cIn (cIn (qba (qGa (qba (qba (qha wg 166))))))))))))))), .inBlock 2, .inBlock 1, .code (qba (qba (qba (cIn (cIn (qba (qGa (qba (qba (qha wg 166)))))))))), .inLoop (cIn (cIn (qba (qGa (qba (qba (qha wg 166))))))), .inBlock 0, .code (qba (qba (qba (qha wg 166))))],⟨[(3,(.one (.ref (.int .u8) 8 0 (we h8) true))),(4,(.one (.int .i64 v4))),(5,(.one (.int .i64 v5))),(18,(.one (.agg (.arr 5 (.int .i64)) v18))),(19,(.one (.int .i64 v19))),(25,(.one (.int .i64 v25))),(26,(.one (.int .i64 v26)))],[(8,some (.row (.int .u8) true h8))],9⟩⟩
theorem qfy (a0:qga):qip a0=(
qod (wF (wF (wF (wF (wF (wo 5 (0:Int)) 0 (wd .i64 a0.1)) 1 a0.2.1) 2 a0.2.2.1) 3 a0.2.2.2.1) 4 a0.2.2.2.2.1) (0:Int) []):=CE
theorem qOh (v18:(List Int)) (v19:Int) (h8:List Int):qod v18 v19 h8=(
if (decide (v19<(5:Int)))=true then
gd (0≤v19)<|
gd (v19<(5:Int))<|
gd (0≤v19)<|
gd (v19<(5:Int))<|
letI c:=(wn v19)
qKk v19 (wk v18 c (0:Int)) v18 v19 (wk G_widths c (0:Int)) (0:Int) h8
else
some (h8)):=SE
theorem qOd (v4:Int) (v5:Int) (v18:(List Int)) (v19:Int) (v25:Int) (v26:Int) (h8:List Int):qKk v4 v5 v18 v19 v25 v26 h8=(
if (decide (v26<v25))=true then
gd (0≤v4)<|
gd (v4<(5:Int))<|
letI c:=(wd .i64 ((8:Int)*(wd .i64 ((wd .i64 ((wk G_widths (wn v4) (0:Int)) - (1:Int))) - v26))))
gd (0≤c)<|
letI d:=(h8++[(wd .u8 (qcl .i64 v5 c))])
gd ((we d)*1≤140737488355328)<|
qKk v4 v5 v18 v19 v25 (wd .i64 (v26+(1:Int))) d
else
qod v18 (wd .i64 (v19+(1:Int))) h8):=SE
noncomputable def vNc:FN:={f:=128,cuts:=[],tab:=[SS vGa,SS vBa],fm:=⟨true,[.val (.arr 20 (.int .u8)) []]⟩}
noncomputable def qFn (a0:qga) (a1:List Int):Option ((List Int)):=vNc.call [(.agg qsa (inj false qsa a0)),(.sl (.int .u8) false a1)] []
theorem qIv (a0:qga) (a1:List Int):qFn a0 a1=(
(qip a0).bind fun r1=>
gd ((we (r1++a1))*1≤140737488355328)<|
(qAt (r1++a1)).bind fun r2=>
some (r2.1)):=CE
noncomputable def vqd:FN:={f:=81,cuts:=[],tab:=[SS via,SS vNc],fm:=⟨true,[.val .bool [], .val (.int .i64) []]⟩}
noncomputable def qtj (a0:qga) (a1:List Int):Option (Bool×Int):=vqd.call [(.agg qsa (inj false qsa a0)),(.sl (.int .u8) false a1)] []
theorem qjp (a0:qga) (a1:List Int):qtj a0 a1=(
(qch a0).bind fun r1=>
if (r1 != (0:Int))=true then
some (false,r1)
else
if ((wi (we a1))==a0.2.2.2.1)=true then
(qFn a0 a1).bind fun r2=>
some ((peq (.arr 20 (.int .u8)) r2 a0.2.2.2.2.2.1),(0:Int))
else
some (false,(0:Int))):=CE
noncomputable def vge:FN:={f:=42,cuts:=[],tab:=[SS vQd,SS vSc,SS vXa,SS vEa,SS vcd,SS vlc,SS vqd],fm:=⟨true,[.val (.slice (.int .u8)) [.nw], .val (.int .i64) []]⟩}
noncomputable def qxg (a0:Int) (a1:qca):Option (List Int×Int):=vge.call [(.int .i64 a0),(.agg qpa (inj false qpa a1))] []
theorem qcv (a0:Int) (a1:qca):qxg a0 a1=(
(qTr a1).bind fun r1=>
if (r1 != (0:Int))=true then
some ([],r1)
else
(qOn a0).bind fun r2=>
if (not r2)=true then
some ([],(2:Int))
else
(qLi a1.2.1).bind fun r3=>
if (a1.1.1==(2:Int))=true then
(qBp a0 a1.2.1 a1.1.2.2.2.1).bind fun r4=>
if (r4.2 != (0:Int))=true then
some ([],(12:Int))
else
(qAp a0 r4.1).bind fun r5=>
if (r5.2 != (0:Int))=true then
some ([],(12:Int))
else
(qSr r5.1 a1.2.1).bind fun r6=>
if (not r6)=true then
some ([],(12:Int))
else
(qtj a1.1 r4.1).bind fun r7=>
if (not r7.1)=true then
some ([],(22:Int))
else
some (r4.1,(0:Int))
else
(qtj a1.1 r3).bind fun r8=>
if (not r8.1)=true then
some ([],(22:Int))
else
some (r3,(0:Int))):=CE
noncomputable def vL:FN:={f:=18,cuts:=[⟨(3,3),[0,1,6,17,18,19],false,false,[],[],[]⟩,⟨(11,3),[1,6,11,41,42],false,false,[],[],[]⟩],tab:=[SS vge],fm:=⟨true,[.val (.slice qKa) [.nw], .val (.int .i64) []]⟩}
noncomputable def qVb (a0:Int) (a1:List qca):Option (List qoa×Int):=vL.call [(.int .i64 a0),(.sl qpa false a1)] []
noncomputable def qVe (v0:Int) (v1:List qca) (v17:List qca) (v18:Int) (v19:Int) (n8:Nat) (h8:List qma):Option (List qoa×Int):=vL.sem ⟨[.code (cIn (cIn (qba (qGa (qba (qba (qha wg 18))))))), .inLoop (cIn (cIn (qba (qGa (qba (qba (qha wg 18))))))), .inBlock 0, .code (qba (qba (qba (qha wg 18))))],⟨[(0,(.one (.int .i64 v0))),(1,(.one (.sl qpa false v1))),(6,(.one (.chan 8))),(17,(.one (.sl qpa false v17))),(18,(.one (.int .i64 v18))),(19,(.one (.int .i64 v19)))],[(8,some (.chan qna true n8 h8 false))],9⟩⟩
noncomputable def qUc (v1:List qca) (v41:Int) (v42:Int) (n8:Nat) (h8:List qma) (h9:List qoa):Option (List qoa×Int):=vL.sem ⟨[.code (cIn (cIn (qba (qGa (qba (qba (qba (qba (qba (qha wg 18)))))))))), .inLoop (cIn (cIn (qba (qGa (qba (qba (qba (qba (qba (qha wg 18)))))))))), .inBlock 2, .code (qba (qba (qba (qba (qba (qba (qha wg 18)))))))],⟨[(1,(.one (.sl qpa false v1))),(6,(.one (.chan 8))),(11,(.one (.ref qKa 9 0 (we h9) true))),(41,(.one (.int .i64 v41))),(42,(.one (.int .i64 v42)))],[(8,some (.chan qna true n8 h8 true)),(9,some (.row qKa true h9))],10⟩⟩
theorem qho (a0:Int) (a1:List qca):qVb a0 a1=(
letI d:=(we a1)
letI c:=(wi d)
gd (0≤c)<|
gd (c≤9223372036854775807)<|
gd (40*c≤281474976710544)<|
qVe a0 a1 a1 c (0:Int) d []):=CE
theorem qJe (v0:Int) (v1:List qca) (v17:List qca) (v18:Int) (v19:Int) (n8:Nat) (h8:List qma):qVe v0 v1 v17 v18 v19 n8 h8=(
if (decide (v19<v18))=true then
gd (0≤v19)<|
gd (v19<(wi (we v17)))<|
(qxg v0 (wk v17 (wn v19) (qqa qpa))).bind fun r1=>
gd ((we h8)<n8)<|
qVe v0 v1 v17 v18 (wd .i64 (v19+(1:Int))) n8 (h8++[(v19,(r1.1,(r1.2,())))])
else
letI d:=(we v1)
letI c:=(wi d)
gd (c=c)<|
gd (0≤c)<|
gd (c*48≤140737488355328)<|
gd (c≤9223372036854775807)<|
qUc v1 c (0:Int) n8 h8 (wo d (qqa qKa))):=SE
theorem qIe (v1:List qca) (v41:Int) (v42:Int) (n8:Nat) (h8:List qma) (h9:List qoa):qUc v1 v41 v42 n8 h8 h9=(
if (decide (v42<v41))=true then
gd (0<(we h8))<|
letI c:=(wk h8 0 (qqa qna))
if (c.2.2.1 != (0:Int))=true then
some ([],c.2.2.1)
else
gd (0≤c.1)<|
gd (c.1<(wi (we v1)))<|
gd (0≤c.1)<|
gd (c.1<(wi (we h9)))<|
letI e:=(wn c.1)
letI d:=(wk v1 e (qqa qpa))
qUc v1 v41 (wd .i64 (v42+(1:Int))) n8 (wW 1 h8) (wF h9 (0+e) ((d.1.2.1,(d.1.2.2.1,(d.1.2.2.2.1,()))),(c.2.1,())))
else
some (h9,(0:Int))):=SE
noncomputable def vya:FN:={f:=9,cuts:=[⟨(12,3),[6,7,15,61,62,63],false,false,[],[],[]⟩],tab:=[(SS vSb).dropping,(qPe (fun _=>true)).dropping,SS vL],fm:=⟨true,[.val (.slice (.int .u8)) [.nw], .val (.int .i64) []]⟩}
noncomputable def qdd (a0:List Int) (a1:ByteArray) (a2:Int) (a3:Int):Option (List Int×Int):=vya.call [(.sl (.int .u8) false a0),(.str a1),(.int .i64 a2),(.int .i64 a3)] []
noncomputable def qWe (v62:Int) (v63:Int) (b8:Int) (b9:Int) (h10:List Int) (h11:List qoa):Option (List Int×Int):=vya.sem ⟨[.code (cIn (cIn (qba (qGa (qba (qba (qba (qba (qba (qba (qba (qba (qha wg 9))))))))))))), .inLoop (cIn (cIn (qba (qGa (qba (qba (qba (qba (qba (qba (qba (qba (qha wg 9))))))))))))), .inBlock 0, .code (qba (qba (qba (qba (qba (qba (qba (qba (qba (qha wg 9))))))))))],⟨[(6,(.one (.ptr (.int .i64) 8 []))),(7,(.one (.ptr (.int .i64) 9 []))),(15,(.one (.ref (.int .u8) 10 0 (we h10) true))),(61,(.one (.ref qKa 11 0 (we h11) true))),(62,(.one (.int .i64 v62))),(63,(.one (.int .i64 v63)))],[(8,some (.box (.int .i64) b8)),(9,some (.box (.int .i64) b9)),(10,some (.row (.int .u8) true h10)),(11,some (.row qKa true h11))],12⟩⟩
theorem qio (a0:List Int) (a1:ByteArray) (a2:Int) (a3:Int):qdd a0 a1 a2 a3=(
(qxj a0 a1).bind fun r1=>
if (r1.2.2.2 != (0:Int))=true then
some ([],r1.2.2.2)
else
if (decide (a2<(0:Int)))=true then
some ([],(2:Int))
else
if (decide (a3<a2))=true then
some ([],(2:Int))
else
gd (0≤r1.2.1)<|
gd (r1.2.1<(wi (we r1.1.2.1)))<|
if (decide (a3>(wk r1.1.2.1 (wn r1.2.1) (qqa qfa)).2.1))=true then
some ([],(2:Int))
else
(qyb r1.2.2.1.2.1 r1.2.2.1.2.2 r1.2.2.1.1 a2 a3).bind fun r2=>
(qVb r1.1.1.1 (wK r2.1.2 (wW r2.1.1 r2.2.1))).bind fun r3=>
if (r3.2 != (0:Int))=true then
some ([],r3.2)
else
qWe (wi (we r3.1)) (0:Int) r2.2.2.1 r2.2.2.2 [] r3.1):=CE
theorem qRk (v62:Int) (v63:Int) (b8:Int) (b9:Int) (h10:List Int) (h11:List qoa):qWe v62 v63 b8 b9 h10 h11=(
if (decide (v63<v62))=true then
gd (0≤v63)<|
gd (v63<(wi (we h11)))<|
letI c:=(wk h11 (0+(wn v63)) (qqa qKa))
letI e:=(wd .i64 (b8 - c.1.2.1))
gd (0≤(if (0:Int)>e then (0:Int) else e))<|
letI g:=(wd .i64 (b9 - c.1.2.1))
letI f:=(wi (we c.2.1))
gd ((if (0:Int)>e then (0:Int) else e)≤(if f<g then f else g))<|
gd ((if f<g then f else g)≤f)<|
letI i:=(wn (if (0:Int)>e then (0:Int) else e))
letI d:=(h10++(wK ((wn (if f<g then f else g)) - i) (wW i c.2.1)))
gd ((we d)*1≤140737488355328)<|
qWe v62 (wd .i64 (v63+(1:Int))) b8 b9 d h11
else
some (h10,(0:Int))):=SE
noncomputable def vjd:FN:={f:=44,cuts:=[],tab:=[],fm:=⟨true,[.val .bool []]⟩}
noncomputable def qBo (a0:List Int) (a1:qea):Option (Bool):=vjd.call [(.sl (.int .i64) false a0),(.agg qka (inj false qka a1))] []
theorem qEw (a0:List Int) (a1:qea):qBo a0 a1=(
if (decide (a1.1≥(0:Int)))=true then
letI c:=(wi (we a0))
if (decide (a1.1<c))=true then
if (decide (a1.2.1≥(0:Int)))=true then
if (decide (a1.2.2.1>(0:Int)))=true then
gd (0≤a1.1)<|
gd (a1.1<c)<|
letI d:=(wk a0 (wn a1.1) (0:Int))
if (decide (a1.2.1≤d))=true then
gd (0≤a1.1)<|
gd (a1.1<c)<|
some (decide (a1.2.2.1≤(wd .i64 (d - a1.2.1))))
else
some (false)
else
some (false)
else
some (false)
else
some (false)
else
some (false)):=CE
noncomputable def vda:FN:={f:=45,cuts:=[⟨(3,3),[0,1,5,17,18,19],false,false,[8],[],[]⟩,⟨(8,3),[0,5,32,33,34],false,false,[8],[],[]⟩,⟨(12,7),[0,5,10,32,33,34,41,42,43],false,false,[8],[],[]⟩],tab:=[],fm:=⟨true,[.val .bool [], .fams 0 .str (.int .u8)]⟩}
noncomputable def qhn (a1:List qoa) (h0:List (ByteArray×List Int)):Option (Bool×List (ByteArray×List Int)):=vda.call [(.ref qua 0 0 (we (qdh (a:= .str) (e:=(.int .u8)) h0)) true),(.sl qKa false a1)] [(0,(.famS .str (.int .u8) h0))]
noncomputable def qFg (v1:List qoa) (v18:Int) (v19:Int) (h0:List (ByteArray×List Int)) (h8:List (List Bool)):Option (Bool×List (ByteArray×List Int)):=vda.sem ⟨[.code (cIn (cIn (qba (qGa (qba (qba (qha wg 45))))))), .inLoop (cIn (cIn (qba (qGa (qba (qba (qha wg 45))))))), .inBlock 0, .code (qba (qba (qba (qha wg 45))))],⟨[(0,(.one (.ref qua 0 0 (we (qdh (a:= .str) (e:=(.int .u8)) h0)) true))),(1,(.one (.sl qKa false v1))),(5,(.one (.ref (.slice .bool) 8 0 (we h8) true))),(17,(.one (.ref qua 0 0 (we (qdh (a:= .str) (e:=(.int .u8)) h0)) true))),(18,(.one (.int .i64 v18))),(19,(.one (.int .i64 v19)))],[(0,some (.famS .str (.int .u8) h0)),(8,some (.fam .bool h8))],10⟩⟩
noncomputable def qJd (v32:List qoa) (v33:Int) (v34:Int) (h0:List (ByteArray×List Int)) (h8:List (List Bool)):Option (Bool×List (ByteArray×List Int)):=vda.sem ⟨[.code (cIn (cIn (qba (qGa (qba (qba (qba (qha wg 45)))))))), .inLoop (cIn (cIn (qba (qGa (qba (qba (qba (qha wg 45)))))))), .inBlock 2, .code (qba (qba (qba (qba (qha wg 45)))))],⟨[(0,(.one (.ref qua 0 0 (we (qdh (a:= .str) (e:=(.int .u8)) h0)) true))),(5,(.one (.ref (.slice .bool) 8 0 (we h8) true))),(32,(.one (.sl qKa false v32))),(33,(.one (.int .i64 v33))),(34,(.one (.int .i64 v34)))],[(0,some (.famS .str (.int .u8) h0)),(8,some (.fam .bool h8))],10⟩⟩
noncomputable def qNe (v32:List qoa) (v33:Int) (v34:Int) (v41:List Int) (v42:Int) (v43:Int) (h0:List (ByteArray×List Int)) (h8:List (List Bool)) (b9:qea):Option (Bool×List (ByteArray×List Int)):=vda.sem ⟨[.code (cIn (cIn (qba (qba (qba (cIn (qGa (qba (qba (cIn (cIn (qba (qGa (qba (qba (qba (qha wg 45))))))))))))))))), .inLoop (cIn (cIn (qba (qba (qba (cIn (qGa (qba (qba (cIn (cIn (qba (qGa (qba (qba (qba (qha wg 45))))))))))))))))), .inBlock 4, .inBlock 3, .code (qba (qba (qba (cIn (cIn (qba (qGa (qba (qba (qba (qha wg 45))))))))))), .inLoop (cIn (cIn (qba (qGa (qba (qba (qba (qha wg 45)))))))), .inBlock 2, .code (qba (qba (qba (qba (qha wg 45)))))],⟨[(0,(.one (.ref qua 0 0 (we (qdh (a:= .str) (e:=(.int .u8)) h0)) true))),(5,(.one (.ref (.slice .bool) 8 0 (we h8) true))),(10,(.one (.ptr qka 9 []))),(32,(.one (.sl qKa false v32))),(33,(.one (.int .i64 v33))),(34,(.one (.int .i64 v34))),(41,(.one (.sl (.int .u8) false v41))),(42,(.one (.int .i64 v42))),(43,(.one (.int .i64 v43)))],[(0,some (.famS .str (.int .u8) h0)),(8,some (.fam .bool h8)),(9,some (.box qka (inj false qka b9)))],11⟩⟩
theorem qkv (a1:List qoa) (h0:List (ByteArray×List Int)):qhn a1 h0=(
gd ((wi (we (qdh (a:= .str) (e:=(.int .u8)) h0)))=(wi (we (qdh (a:= .str) (e:=(.int .u8)) h0))))<|
gd (0≤(wi (we (qdh (a:= .str) (e:=(.int .u8)) h0))))<|
gd ((wi (we (qdh (a:= .str) (e:=(.int .u8)) h0)))*24≤140737488355328)<|
gd ((wi (we (qdh (a:= .str) (e:=(.int .u8)) h0)))≤9223372036854775807)<|
qFg a1 (wi (we (qdh (a:= .str) (e:=(.int .u8)) h0))) (0:Int) h0 (wo (we (qdh (a:= .str) (e:=(.int .u8)) h0)) [])):=CE
theorem quk (v1:List qoa) (v18:Int) (v19:Int) (h0:List (ByteArray×List Int)) (h8:List (List Bool)):qFg v1 v18 v19 h0 h8=(
if (decide (v19<v18))=true then
gd (0≤v19)<|
gd (v19<(wi (we (qdh (a:= .str) (e:=(.int .u8)) h0))))<|
letI c:=(0+(wn v19))
gd ((wi (we (wk h0 c (wD,[])).2))=(wi (we (wk h0 c (wD,[])).2)))<|
gd (0≤(wi (we (wk h0 c (wD,[])).2)))<|
gd ((wi (we (wk h0 c (wD,[])).2))*1≤140737488355328)<|
gd ((wi (we (wk h0 c (wD,[])).2))≤9223372036854775807)<|
gd (0≤v19)<|
gd (v19<(wi (we h8)))<|
qFg v1 v18 (wd .i64 (v19+(1:Int))) h0 (wF h8 c (wo (we (wk h0 c (wD,[])).2) false))
else
qJd v1 (wi (we v1)) (0:Int) h0 h8):=SE
theorem qtk (v32:List qoa) (v33:Int) (v34:Int) (h0:List (ByteArray×List Int)) (h8:List (List Bool)):qJd v32 v33 v34 h0 h8=(
if (decide (v34<v33))=true then
gd (0≤v34)<|
gd (v34<(wi (we v32)))<|
letI c:=(wk v32 (wn v34) (qqa qKa))
qNe v32 v33 v34 c.2.1 (wi (we c.2.1)) (0:Int) h0 h8 c.1
else
some (true,h0)):=SE
theorem qsk (v32:List qoa) (v33:Int) (v34:Int) (v41:List Int) (v42:Int) (v43:Int) (h0:List (ByteArray×List Int)) (h8:List (List Bool)) (b9:qea):qNe v32 v33 v34 v41 v42 v43 h0 h8 b9=(
if (decide (v43<v42))=true then
gd (0≤v43)<|
gd (v43<(wi (we v41)))<|
gd (0≤b9.1)<|
letI i:=(wi (we h8))
gd (b9.1<i)<|
letI d:=(0+(wn b9.1))
gd (0<(we (wk h8 d [])))<|
letI c:=(wd .i64 (b9.2.1+v43))
gd (0≤c)<|
gd (c<(wi (we (wk h8 d []))))<|
letI j:=(wd .i64 (v43+(1:Int)))
letI g:=(wk v41 (wn v43) (0:Int))
letI f:=(0+(wn c))
if (wk (wk h8 d []) f false)=true then
gd (0≤b9.1)<|
gd (b9.1<(wi (we (qdh (a:= .str) (e:=(.int .u8)) h0))))<|
gd (0<(we (wk h0 d (wD,[])).2))<|
gd (0≤c)<|
gd (c<(wi (we (wk h0 d (wD,[])).2)))<|
if ((wk (wk h0 d (wD,[])).2 f (0:Int)) != g)=true then
some (false,h0)
else
gd (0≤b9.1)<|
gd (b9.1<i)<|
gd (0<(we (wk h8 d [])))<|
gd (0≤b9.1)<|
gd (b9.1<(wi (we (qdh (a:= .str) (e:=(.int .u8)) h0))))<|
gd (0<(we (wk h0 d (wD,[])).2))<|
gd (0≤c)<|
gd (c<(wi (we (wk h8 d []))))<|
gd (0≤c)<|
gd (c<(wi (we (wk h0 d (wD,[])).2)))<|
qNe v32 v33 v34 v41 v42 j (wF h0 d ((wk h0 d (wD,[])).1,(wF (wk h0 d (wD,[])).2 f g))) (wF h8 d (wF (wk h8 d []) f true)) b9
else
gd (0≤b9.1)<|
gd (b9.1<i)<|
gd (0<(we (wk h8 d [])))<|
gd (0≤b9.1)<|
gd (b9.1<(wi (we (qdh (a:= .str) (e:=(.int .u8)) h0))))<|
gd (0<(we (wk h0 d (wD,[])).2))<|
gd (0≤c)<|
gd (c<(wi (we (wk h8 d []))))<|
gd (0≤c)<|
gd (c<(wi (we (wk h0 d (wD,[])).2)))<|
qNe v32 v33 v34 v41 v42 j (wF h0 d ((wk h0 d (wD,[])).1,(wF (wk h0 d (wD,[])).2 f g))) (wF h8 d (wF (wk h8 d []) f true)) b9
else
qJd v32 v33 (wd .i64 (v34+(1:Int))) h0 h8):=SE
noncomputable def qFw (acc:List AV→Bool):Summ wg GT:=vda.summ mixed acc true false
noncomputable def vP:FN:={f:=85,cuts:=[],tab:=[],fm:=⟨true,[.val (.slice qka) [.nw]]⟩}
noncomputable def qsc (a0:List qea):Option (List qea):=vP.call [(.sl qka false a0)] []
theorem qMg (a0:List qea):qsc a0=(
qkF (fun (r1:Bool)=>r1=true→a0=[]) fun (r1:Bool)=>
if r1=true then
some ([])
else
gd ((we ([]++a0))*24≤140737488355328)<|
some ([]++a0)):=CE
noncomputable def vTc:FN:={f:=131,cuts:=[],tab:=[],fm:=⟨true,[.val .bool []]⟩}
noncomputable def qgk (a0:Int):Option (Bool):=vTc.call [(.int .i64 a0)] []
theorem qSv (a0:Int):qgk a0=(
some (a0 != a0)):=CE
noncomputable def vrc:FN:={f:=89,cuts:=[],tab:=[SS vTc],fm:=⟨true,[.val (.int .i64) []]⟩}
noncomputable def qYh (a0:Int) (a1:Int):Option (Int):=vrc.call [(.int .i64 a0),(.int .i64 a1)] []
theorem qbt (a0:Int) (a1:Int):qYh a0 a1=(
(qgk a0).bind fun r1=>
(qgk a1).bind fun r2=>
if r1=true then
if r2=true then
some (0:Int)
else
some (-1:Int)
else
if r2=true then
some (1:Int)
else
if (decide (a0<a1))=true then
some (-1:Int)
else
if (decide (a0>a1))=true then
some (1:Int)
else
some (0:Int)):=CE
noncomputable def vEc:FN:={f:=88,cuts:=[⟨(3,3),[3,6,7,8],false,false,[],[],[]⟩],tab:=[],fm:=⟨true,[.val (.int .i64) []]⟩}
noncomputable def qsu (a0:List Int):Option (Int):=vEc.call [(.sl (.int .i64) false a0)] []
noncomputable def qYf (v3:Int) (v6:List Int) (v7:Int) (v8:Int):Option (Int):=vEc.sem ⟨[.code (cIn (cIn (qba (qGa (qba (qba (qha wg 88))))))), .inLoop (cIn (cIn (qba (qGa (qba (qba (qha wg 88))))))), .inBlock 0, .code (qba (qba (qba (qha wg 88))))],⟨[(3,(.one (.int .i64 v3))),(6,(.one (.sl (.int .i64) false v6))),(7,(.one (.int .i64 v7))),(8,(.one (.int .i64 v8)))],[],8⟩⟩
theorem qQC (a0:List Int):qsu a0=(
qYf (0:Int) a0 (wi (we a0)) (0:Int)):=CE
theorem qJj (v3:Int) (v6:List Int) (v7:Int) (v8:Int):qYf v3 v6 v7 v8=(
if (decide (v8<v7))=true then
gd (0≤v8)<|
gd (v8<(wi (we v6)))<|
letI c:=(wk v6 (wn v8) (0:Int))
if (c != v3)=true then
some c
else
qYf v3 v6 v7 (wd .i64 (v8+(1:Int)))
else
some (v3)):=SE
noncomputable def vQ:FN:={f:=87,cuts:=[],tab:=[SS vrc,SS vEc],fm:=⟨true,[.val (.int .i64) []]⟩}
noncomputable def qnd (a0:qea) (a1:qea):Option (Int):=vQ.call [(.agg qka (inj false qka a0)),(.agg qka (inj false qka a1))] []
theorem qfs (a0:qea) (a1:qea):qnd a0 a1=(
(qYh a0.1 a1.1).bind fun r1=>
(qYh a0.2.1 a1.2.1).bind fun r2=>
(qsu [r1,r2]).bind fun r3=>
some (r3)):=CE
noncomputable def vc:FN:={f:=167,cuts:=[⟨(1,2),[0,1,2,3,8],false,false,[],[],[]⟩,⟨(4,6),[0,1,2,3,8,9],false,false,[],[],[]⟩],tab:=[SS vQ],fm:=⟨false,[.row 0 qka]⟩}
noncomputable def qJb (a1:Int) (a2:Int) (h0:List qea):Option (List qea):=vc.call [(.ref qka 0 0 (we h0) true),(.int .i64 a1),(.int .i64 a2),(.func 87 [])] [(0,(.row qka false h0))]
noncomputable def qWa (v1:Int) (v2:Int) (v8:Int) (h0:List qea):Option (List qea):=vc.sem ⟨[.code (cIn (cIn (qba (qha wg 167)))), .inLoop (cIn (cIn (qba (qha wg 167)))), .inBlock 0],⟨[(0,(.one (.ref qka 0 0 (we h0) true))),(1,(.one (.int .i64 v1))),(2,(.one (.int .i64 v2))),(3,(.one (.func 87 []))),(8,(.one (.int .i64 v8)))],[(0,some (.row qka false h0))],9⟩⟩
noncomputable def qxb (v1:Int) (v2:Int) (v8:Int) (v9:Int) (h0:List qea):Option (List qea):=vc.sem ⟨[.code (cIn (cIn (qba (cIn (qGa (qba (cIn (cIn (qba (qha wg 167)))))))))), .inLoop (cIn (cIn (qba (cIn (qGa (qba (cIn (cIn (qba (qha wg 167)))))))))), .inBlock 2, .inBlock 1, .code (qba (qba (cIn (cIn (qba (qha wg 167)))))), .inLoop (cIn (cIn (qba (qha wg 167)))), .inBlock 0],⟨[(0,(.one (.ref qka 0 0 (we h0) true))),(1,(.one (.int .i64 v1))),(2,(.one (.int .i64 v2))),(3,(.one (.func 87 []))),(8,(.one (.int .i64 v8))),(9,(.one (.int .i64 v9)))],[(0,some (.row qka false h0))],9⟩⟩
theorem qqf (a1:Int) (a2:Int) (h0:List qea):qJb a1 a2 h0=(
qWa a1 a2 (wd .i64 (a1+(1:Int))) h0):=CE
theorem qqb (v1:Int) (v2:Int) (v8:Int) (h0:List qea):qWa v1 v2 v8 h0=(
if (decide (v8<v2))=true then
qxb v1 v2 v8 v8 h0
else
some (h0)):=SE
theorem qDe (v1:Int) (v2:Int) (v8:Int) (v9:Int) (h0:List qea):qxb v1 v2 v8 v9 h0=(
letI g:=(wd .i64 (v8+(1:Int)))
if (decide (v9>v1))=true then
gd (0≤v9)<|
letI d:=(wi (we h0))
gd (v9<d)<|
letI c:=(wd .i64 (v9 - (1:Int)))
gd (0≤c)<|
gd (c<d)<|
letI k:=(qqa qka)
letI j:=(0+(wn c))
letI i:=(0+(wn v9))
letI f:=(wk h0 j k)
letI e:=(wk h0 i k)
(qnd e f).bind fun r1=>
if (decide (r1<(0:Int)))=true then
gd (0≤c)<|
gd (c<d)<|
gd (0≤v9)<|
gd (v9<d)<|
gd (0≤v9)<|
gd (v9<d)<|
gd (0≤c)<|
gd (c<d)<|
qxb v1 v2 v8 c (wF (wF h0 i f) j e)
else
qWa v1 v2 g h0
else
qWa v1 v2 g h0):=SE
noncomputable def quf (acc:List AV→Bool):Summ wg GT:=vc.summ mixed acc true false
noncomputable def vW:FN:={f:=267,cuts:=[],tab:=[SS vQ],fm:=⟨false,[.val (.int .i64) [], .val (.int .i64) [], .row 0 qka, .box 1 (.int .i64) []]⟩}
noncomputable def qmb (a1:Int) (a2:Int) (h0:List qea) (b1:Int):Option (Int×Int×List qea×Int):=vW.call [(.ref qka 0 0 (we h0) true),(.int .i64 a1),(.int .i64 a2),(.ptr (.int .i64) 1 []),(.func 87 [])] [(0,(.row qka false h0)),(1,(.box (.int .i64) b1))]
theorem qAh (a1:Int) (a2:Int) (h0:List qea) (b1:Int):qmb a1 a2 h0 b1=(
gd (0≤a2)<|
letI c:=(wi (we h0))
gd (a2<c)<|
gd (0≤a1)<|
gd (a1<c)<|
letI d:=(qqa qka)
(qnd (wk h0 (0+(wn a2)) d) (wk h0 (0+(wn a1)) d)).bind fun r1=>
if (decide (r1<(0:Int)))=true then
some (a2,(a1,(h0,(wd .i64 (b1+(1:Int))))))
else
some (a1,(a2,(h0,b1)))):=CE
noncomputable def qui (acc:List AV→Bool):Summ wg GT:=vW.summ mixed acc true false
noncomputable def vX:FN:={f:=216,cuts:=[],tab:=[(qui (fun _=>true)).dropping],fm:=⟨false,[.val (.int .i64) [], .row 0 qka, .box 1 (.int .i64) []]⟩}
noncomputable def qnb (a1:Int) (a2:Int) (a3:Int) (h0:List qea) (b1:Int):Option (Int×List qea×Int):=vX.call [(.ref qka 0 0 (we h0) true),(.int .i64 a1),(.int .i64 a2),(.int .i64 a3),(.ptr (.int .i64) 1 []),(.func 87 [])] [(0,(.row qka false h0)),(1,(.box (.int .i64) b1))]
theorem qBh (a1:Int) (a2:Int) (a3:Int) (h0:List qea) (b1:Int):qnb a1 a2 a3 h0 b1=(
(qmb a1 a2 h0 b1).bind fun r1=>
(qmb r1.2.1 a3 r1.2.2.1 r1.2.2.2).bind fun r2=>
(qmb r1.1 r2.1 r2.2.2.1 r2.2.2.2).bind fun r3=>
some (r3.2)):=CE
noncomputable def qbe (acc:List AV→Bool):Summ wg GT:=vX.summ mixed acc true false
noncomputable def vB:FN:={f:=215,cuts:=[],tab:=[(qbe (fun _=>true)).dropping],fm:=⟨false,[.val (.int .i64) [], .row 0 qka, .box 1 (.int .i64) []]⟩}
noncomputable def qab (a1:Int) (h0:List qea) (b1:Int):Option (Int×List qea×Int):=vB.call [(.ref qka 0 0 (we h0) true),(.int .i64 a1),(.ptr (.int .i64) 1 []),(.func 87 [])] [(0,(.row qka false h0)),(1,(.box (.int .i64) b1))]
theorem qZe (a1:Int) (h0:List qea) (b1:Int):qab a1 h0 b1=(
(qnb (wd .i64 (a1 - (1:Int))) a1 (wd .i64 (a1+(1:Int))) h0 b1).bind fun r1=>
some (r1)):=CE
noncomputable def qpf (acc:List AV→Bool):Summ wg GT:=vB.summ mixed acc true false
noncomputable def vH:FN:={f:=170,cuts:=[],tab:=[(qpf (fun _=>true)).dropping,(qbe (fun _=>true)).dropping],fm:=⟨false,[.val (.int .i64) [], .val (.int .i64) [], .row 0 qka]⟩}
noncomputable def qYb (a1:Int) (a2:Int) (h0:List qea):Option (Int×Int×List qea):=vH.call [(.ref qka 0 0 (we h0) true),(.int .i64 a1),(.int .i64 a2),(.func 87 [])] [(0,(.row qka false h0))]
theorem qSf (a1:Int) (a2:Int) (h0:List qea):qYb a1 a2 h0=(
gd ((4:Int)≠0)<|
gd ((4:Int)≠0)<|
gd ((4:Int)≠0)<|
letI g:=(wd .i64 (a2 - a1))
letI c:=(wd .i64 (Int.tdiv g (4:Int)))
letI d:=(wd .i64 (a1+(wd .i64 (c*(2:Int)))))
if (decide (g≥(8:Int)))=true then
letI f:=(wd .i64 (a1+(wd .i64 (c*(3:Int)))))
letI e:=(wd .i64 (a1+(wd .i64 (c*(1:Int)))))
if (decide (g≥(50:Int)))=true then
(qab e h0 (0:Int)).bind fun r1=>
(qab d r1.2.1 r1.2.2).bind fun r2=>
(qab f r2.2.1 r2.2.2).bind fun r3=>
(qnb r1.1 r2.1 r3.1 r3.2.1 r3.2.2).bind fun r4=>
if (r4.2.2==(0:Int))=true then
some (r4.1,((1:Int),r4.2.1))
else
if (r4.2.2==(12:Int))=true then
some (r4.1,((2:Int),r4.2.1))
else
some (r4.1,((0:Int),r4.2.1))
else
(qnb e d f h0 (0:Int)).bind fun r5=>
if (r5.2.2==(0:Int))=true then
some (r5.1,((1:Int),r5.2.1))
else
if (r5.2.2==(12:Int))=true then
some (r5.1,((2:Int),r5.2.1))
else
some (r5.1,((0:Int),r5.2.1))
else
some (d,((1:Int),h0))):=CE
noncomputable def qhg (acc:List AV→Bool):Summ wg GT:=vH.summ mixed acc true false
noncomputable def va:FN:={f:=172,cuts:=[⟨(3,3),[0,1,2,3,9,10],false,false,[],[],[]⟩,⟨(5,8),[0,1,2,3,9,10],false,false,[],[],[]⟩,⟨(14,8),[0,1,2,3,9,10,11],false,false,[],[],[]⟩,⟨(20,7),[0,1,2,3,9,10,12],false,false,[],[],[]⟩],tab:=[SS vQ],fm:=⟨false,[.val .bool [], .row 0 qka]⟩}
noncomputable def qlb (a1:Int) (a2:Int) (h0:List qea):Option (Bool×List qea):=va.call [(.ref qka 0 0 (we h0) true),(.int .i64 a1),(.int .i64 a2),(.func 87 [])] [(0,(.row qka false h0))]
noncomputable def qYa (v1:Int) (v2:Int) (v9:Int) (v10:Int) (h0:List qea):Option (Bool×List qea):=va.sem ⟨[.code (cIn (cIn (qba (qGa (qba (qba (qha wg 172))))))), .inLoop (cIn (cIn (qba (qGa (qba (qba (qha wg 172))))))), .inBlock 0, .code (qba (qba (qba (qha wg 172))))],⟨[(0,(.one (.ref qka 0 0 (we h0) true))),(1,(.one (.int .i64 v1))),(2,(.one (.int .i64 v2))),(3,(.one (.func 87 []))),(9,(.one (.int .i64 v9))),(10,(.one (.int .i64 v10)))],[(0,some (.row qka false h0))],9⟩⟩
noncomputable def qXa (v1:Int) (v2:Int) (v9:Int) (v10:Int) (h0:List qea):Option (Bool×List qea):=va.sem ⟨[.code (cIn (cIn (qGa (cIn (qGa (qba (cIn (cIn (qba (qGa (qba (qba (qha wg 172))))))))))))), .inLoop (cIn (cIn (qGa (cIn (qGa (qba (cIn (cIn (qba (qGa (qba (qba (qha wg 172))))))))))))), .inBlock 2, .code (qba (cIn (qGa (qba (cIn (cIn (qba (qGa (qba (qba (qha wg 172))))))))))), .inBlock 1, .code (qba (qba (cIn (cIn (qba (qGa (qba (qba (qha wg 172))))))))), .inLoop (cIn (cIn (qba (qGa (qba (qba (qha wg 172))))))), .inBlock 0, .code (qba (qba (qba (qha wg 172))))],⟨[(0,(.one (.ref qka 0 0 (we h0) true))),(1,(.one (.int .i64 v1))),(2,(.one (.int .i64 v2))),(3,(.one (.func 87 []))),(9,(.one (.int .i64 v9))),(10,(.one (.int .i64 v10)))],[(0,some (.row qka false h0))],9⟩⟩
noncomputable def qNb (v1:Int) (v2:Int) (v9:Int) (v10:Int) (v11:Int) (h0:List qea):Option (Bool×List qea):=va.sem ⟨[.code (cIn (cIn (qba (qoQ (qba (qGa (qba (qba (qba (qba (cIn (qGa (qba (cIn (cIn (qba (qGa (qba (qba (qha wg 172)))))))))))))))))))), .inLoop (cIn (cIn (qba (qoQ (qba (qGa (qba (qba (qba (qba (cIn (qGa (qba (cIn (cIn (qba (qGa (qba (qba (qha wg 172)))))))))))))))))))), .inBlock 4, .code (qba (qba (qba (qba (qba (cIn (qGa (qba (cIn (cIn (qba (qGa (qba (qba (qha wg 172))))))))))))))), .inBlock 1, .code (qba (qba (cIn (cIn (qba (qGa (qba (qba (qha wg 172))))))))), .inLoop (cIn (cIn (qba (qGa (qba (qba (qha wg 172))))))), .inBlock 0, .code (qba (qba (qba (qha wg 172))))],⟨[(0,(.one (.ref qka 0 0 (we h0) true))),(1,(.one (.int .i64 v1))),(2,(.one (.int .i64 v2))),(3,(.one (.func 87 []))),(9,(.one (.int .i64 v9))),(10,(.one (.int .i64 v10))),(11,(.one (.int .i64 v11)))],[(0,some (.row qka false h0))],9⟩⟩
noncomputable def qMb (v1:Int) (v2:Int) (v9:Int) (v10:Int) (v12:Int) (h0:List qea):Option (Bool×List qea):=va.sem ⟨[.code (cIn (cIn (qba (qoQ (qba (qba (qba (qba (qba (qba (cIn (qGa (qba (cIn (cIn (qba (qGa (qba (qba (qha wg 172)))))))))))))))))))), .inLoop (cIn (cIn (qba (qoQ (qba (qba (qba (qba (qba (qba (cIn (qGa (qba (cIn (cIn (qba (qGa (qba (qba (qha wg 172)))))))))))))))))))), .inBlock 6, .inBlock 1, .code (qba (qba (cIn (cIn (qba (qGa (qba (qba (qha wg 172))))))))), .inLoop (cIn (cIn (qba (qGa (qba (qba (qha wg 172))))))), .inBlock 0, .code (qba (qba (qba (qha wg 172))))],⟨[(0,(.one (.ref qka 0 0 (we h0) true))),(1,(.one (.int .i64 v1))),(2,(.one (.int .i64 v2))),(3,(.one (.func 87 []))),(9,(.one (.int .i64 v9))),(10,(.one (.int .i64 v10))),(12,(.one (.int .i64 v12)))],[(0,some (.row qka false h0))],9⟩⟩
theorem qXd (a1:Int) (a2:Int) (h0:List qea):qlb a1 a2 h0=(
qYa a1 a2 (wd .i64 (a1+(1:Int))) (0:Int) h0):=CE
theorem qzd (v1:Int) (v2:Int) (v9:Int) (v10:Int) (h0:List qea):qYa v1 v2 v9 v10 h0=(
if (decide (v10<(5:Int)))=true then
qXa v1 v2 v9 v10 h0
else
some (false,h0)):=SE
theorem qGb (v1:Int) (v2:Int) (v9:Int) (v10:Int) (h0:List qea):qXa v1 v2 v9 v10 h0=(
letI o:=(qqa qka)
letI n:=(0+(wn v9))
letI m:=(wd .i64 (v10+(1:Int)))
letI l:=(decide ((wd .i64 (v2 - v9))≥(2:Int)))
letI k:=(decide ((wd .i64 (v9 - v1))≥(2:Int)))
letI j:=(decide ((wd .i64 (v2 - v1))<(50:Int)))
letI g:=(wk h0 n o)
letI f:=(wd .i64 (v9+(1:Int)))
letI e:=(wi (we h0))
letI d:=(wd .i64 (v9 - (1:Int)))
letI p:=(0+(wn d))
letI i:=(wk h0 p o)
letI c:=(wF (wF h0 n i) p g)
if (decide (v9<v2))=true then
gd (0≤v9)<|
gd (v9<e)<|
gd (0≤d)<|
gd (d<e)<|
(qnd g i).bind fun r1=>
if (not (decide (r1<(0:Int))))=true then
qXa v1 v2 f v10 h0
else
if (v9==v2)=true then
some (true,h0)
else
if j=true then
some (false,h0)
else
gd (0≤d)<|
gd (d<e)<|
gd (0≤v9)<|
gd (v9<e)<|
gd (0≤v9)<|
gd (v9<e)<|
gd (0≤d)<|
gd (d<e)<|
if k=true then
qNb v1 v2 v9 v10 d c
else
if l=true then
qMb v1 v2 v9 v10 f c
else
qYa v1 v2 v9 m c
else
if (v9==v2)=true then
some (true,h0)
else
if j=true then
some (false,h0)
else
gd (0≤d)<|
gd (d<e)<|
gd (0≤v9)<|
gd (v9<e)<|
gd (0≤v9)<|
gd (v9<e)<|
gd (0≤d)<|
gd (d<e)<|
if k=true then
qNb v1 v2 v9 v10 d c
else
if l=true then
qMb v1 v2 v9 v10 f c
else
qYa v1 v2 v9 m c):=SE
noncomputable def qce (acc:List AV→Bool):Summ wg GT:=va.summ mixed acc true false
noncomputable def vw:FN:={f:=129,cuts:=[⟨(2,2),[0,1,2,3,4,10,11],false,false,[],[],[]⟩],tab:=[(quf (fun _=>true)).dropping,(qhg (fun _=>true)).dropping,(qce (fun _=>true)).dropping,SS vQ],fm:=⟨false,[.row 0 qka]⟩}
noncomputable def qHb (a1:Int) (a2:Int) (a3:Int) (h0:List qea):Option (List qea):=vw.call [(.ref qka 0 0 (we h0) true),(.int .i64 a1),(.int .i64 a2),(.int .i64 a3),(.func 87 [])] [(0,(.row qka false h0))]
noncomputable def qBd (v1:Int) (v2:Int) (v3:Int) (v10:Bool) (v11:Bool) (h0:List qea):Option (List qea):=vw.sem ⟨[.code (cIn (cIn (qba (qba (qha wg 129))))), .inLoop (cIn (cIn (qba (qba (qha wg 129))))), .inBlock 0],⟨[(0,(.one (.ref qka 0 0 (we h0) true))),(1,(.one (.int .i64 v1))),(2,(.one (.int .i64 v2))),(3,(.one (.int .i64 v3))),(4,(.one (.func 87 []))),(10,(.one (.bool v10))),(11,(.one (.bool v11)))],[(0,some (.row qka false h0))],9⟩⟩
theorem qAd (a1:Int) (a2:Int) (a3:Int) (h0:List qea):qHb a1 a2 a3 h0=(
qBd a1 a2 a3 true true h0):=CE
theorem qXc (v1:Int) (v2:Int) (v3:Int) (v10:Bool) (v11:Bool) (h0:List qea):qBd v1 v2 v3 v10 v11 h0=(
if (decide ((wd .i64 (v2 - v1))≤(12:Int)))=true then
(qJb v1 v2 h0).bind fun r1=>
some (r1)
else
if (v3==(0:Int))=true then
none
else
if (not v10)=true then
none
else
(qYb v1 v2 h0).bind fun r2=>
if (r2.2.1==(2:Int))=true then
none
else
letI i:=(0+(wn r2.1))
letI g:=(qqa qka)
letI f:=(decide (v1>(0:Int)))
letI e:=(wi (we h0))
letI c:=(wd .i64 (v1 - (1:Int)))
letI j:=(0+(wn c))
letI d:=(qnd (wk r2.2.2 j g) (wk r2.2.2 i g))
if v10=true then
if v11=true then
if (r2.2.1==(1:Int))=true then
(qlb v1 v2 r2.2.2).bind fun r3=>
if r3.1=true then
some (r3.2)
else
if f=true then
gd (0≤c)<|
gd (c<e)<|
gd (0≤r2.1)<|
gd (r2.1<e)<|
(qnd (wk r3.2 j g) (wk r3.2 i g)).bind fun r4=>
if (not (decide (r4<(0:Int))))=true then
none
else
none
else
none
else
if f=true then
gd (0≤c)<|
gd (c<e)<|
gd (0≤r2.1)<|
gd (r2.1<e)<|
d.bind fun r5=>
if (not (decide (r5<(0:Int))))=true then
none
else
none
else
none
else
if f=true then
gd (0≤c)<|
gd (c<e)<|
gd (0≤r2.1)<|
gd (r2.1<e)<|
d.bind fun r6=>
if (not (decide (r6<(0:Int))))=true then
none
else
none
else
none
else
if f=true then
gd (0≤c)<|
gd (c<e)<|
gd (0≤r2.1)<|
gd (r2.1<e)<|
d.bind fun r7=>
if (not (decide (r7<(0:Int))))=true then
none
else
none
else
none):=SE
noncomputable def qzh (acc:List AV→Bool):Summ wg GT:=vw.summ mixed acc true false
noncomputable def vI:FN:={f:=86,cuts:=[],tab:=[SS vxa,(qzh (fun _=>true)).dropping],fm:=⟨false,[.row 0 qka]⟩}
noncomputable def qQa (h0:List qea):Option (List qea):=vI.call [(.ref qka 0 0 (we h0) true),(.func 87 [])] [(0,(.row qka false h0))]
theorem qPc (h0:List qea):qQa h0=(
letI c:=(wi (we h0))
(qHe (wd .u64 c)).bind fun r1=>
(qHb (0:Int) c r1 h0).bind fun r2=>
some (r2)):=CE
noncomputable def qig (acc:List AV→Bool):Summ wg GT:=vI.summ mixed acc true false
noncomputable def vca:FN:={f:=46,cuts:=[⟨(5,3),[1,5,15,16,17],false,false,[],[],[1]⟩,⟨(9,7),[1,5,6,8,15,16,17,27,28,29],false,false,[],[],[]⟩],tab:=[SS vP,(qig (fun _=>true)).dropping],fm:=⟨true,[.val (.slice qka) [.nw]]⟩}
noncomputable def qgn (a0:List Int) (a1:List qea):Option (List qea):=vca.call [(.sl (.int .i64) false a0),(.sl qka false a1)] []
noncomputable def qSc (v1n:Nat) (v15:List Int) (v16:Int) (v17:Int) (h8:List qea) (h9:List qea):Option (List qea):=vca.sem ⟨[.code (cIn (cIn (qba (qGa (qba (qba (qba (qba (qha wg 46))))))))), .inLoop (cIn (cIn (qba (qGa (qba (qba (qba (qba (qha wg 46))))))))), .inBlock 0, .code (qba (qba (qba (qba (qba (qha wg 46))))))],⟨[(1,(.one (.ref qka 8 0 v1n false))),(5,(.one (.ref qka 9 0 (we h9) true))),(15,(.one (.sl (.int .i64) false v15))),(16,(.one (.int .i64 v16))),(17,(.one (.int .i64 v17)))],[(8,some (.row qka false h8)),(9,some (.row qka true h9))],10⟩⟩
noncomputable def qId (v1n:Nat) (v6:Int) (v8:Int) (v15:List Int) (v16:Int) (v17:Int) (v28:Int) (v29:Int) (h8:List qea) (h9:List qea):Option (List qea):=vca.sem ⟨[.code (cIn (cIn (qba (qba (qba (cIn (qGa (qba (qba (cIn (cIn (qba (qGa (qba (qba (qba (qba (qha wg 46)))))))))))))))))), .inLoop (cIn (cIn (qba (qba (qba (cIn (qGa (qba (qba (cIn (cIn (qba (qGa (qba (qba (qba (qba (qha wg 46)))))))))))))))))), .inBlock 2, .inBlock 1, .code (qba (qba (qba (cIn (cIn (qba (qGa (qba (qba (qba (qba (qha wg 46)))))))))))), .inLoop (cIn (cIn (qba (qGa (qba (qba (qba (qba (qha wg 46))))))))), .inBlock 0, .code (qba (qba (qba (qba (qba (qha wg 46))))))],⟨[(1,(.one (.ref qka 8 0 v1n false))),(5,(.one (.ref qka 9 0 (we h9) true))),(6,(.one (.int .i64 v6))),(8,(.one (.int .i64 v8))),(15,(.one (.sl (.int .i64) false v15))),(16,(.one (.int .i64 v16))),(17,(.one (.int .i64 v17))),(27,(.one (.ref qka 8 0 (we h8) true))),(28,(.one (.int .i64 v28))),(29,(.one (.int .i64 v29)))],[(8,some (.row qka false h8)),(9,some (.row qka true h9))],10⟩⟩
noncomputable def qHd (v1n:Nat) (v6:Int) (v8:Int) (v15:List Int) (v16:Int) (v17:Int) (v28:Int) (v29:Int) (h8:List qea) (h9:List qea) (h10:List qea):Option (List qea):=vca.sem ⟨[.code (cIn (cIn (qba (qba (qba (cIn (qGa (qba (qba (cIn (cIn (qba (qGa (qba (qba (qba (qba (qha wg 46)))))))))))))))))), .inLoop (cIn (cIn (qba (qba (qba (cIn (qGa (qba (qba (cIn (cIn (qba (qGa (qba (qba (qba (qba (qha wg 46)))))))))))))))))), .inBlock 2, .inBlock 1, .code (qba (qba (qba (cIn (cIn (qba (qGa (qba (qba (qba (qba (qha wg 46)))))))))))), .inLoop (cIn (cIn (qba (qGa (qba (qba (qba (qba (qha wg 46))))))))), .inBlock 0, .code (qba (qba (qba (qba (qba (qha wg 46))))))],⟨[(1,(.one (.ref qka 8 0 v1n false))),(5,(.one (.ref qka 9 0 (we h9) true))),(6,(.one (.int .i64 v6))),(8,(.one (.int .i64 v8))),(15,(.one (.sl (.int .i64) false v15))),(16,(.one (.int .i64 v16))),(17,(.one (.int .i64 v17))),(27,(.one (.ref qka 10 0 (we h10) true))),(28,(.one (.int .i64 v28))),(29,(.one (.int .i64 v29)))],[(8,some (.row qka false h8)),(9,some (.row qka true h9)),(10,some (.row qka false h10))],11⟩⟩
theorem qjv (a0:List Int) (a1:List qea):qgn a0 a1=(
(qsc a1).bind fun r1=>
(qQa r1).bind fun r2=>
qSc (we r2) a0 (wi (we a0)) (0:Int) r2 []):=CE
theorem qrk (v1n:Nat) (v15:List Int) (v16:Int) (v17:Int) (h8:List qea) (h9:List qea):qSc v1n v15 v16 v17 h8 h9=(
if (decide (v17<v16))=true then
gd (0≤v17)<|
gd (v17<(wi (we v15)))<|
qkF (fun (r3:Bool)=>True) fun (r3:Bool)=>
if r3=true then
gd (v1n≤(we ((wK v1n h8)++[(v17,((wk v15 (wn v17) (0:Int)),((0:Int),())))])))<|
gd (v1n≤(we ((wK v1n h8)++[(v17,((wk v15 (wn v17) (0:Int)),((0:Int),())))])))<|
qId v1n v17 (0:Int) v15 v16 v17 (wi (we ((wK v1n h8)++[(v17,((wk v15 (wn v17) (0:Int)),((0:Int),())))]))) (0:Int) ((wK v1n h8)++[(v17,((wk v15 (wn v17) (0:Int)),((0:Int),())))]) h9
else
gd ((we ((wK v1n h8)++[(v17,((wk v15 (wn v17) (0:Int)),((0:Int),())))]))*24≤140737488355328)<|
qHd v1n v17 (0:Int) v15 v16 v17 (wi (we ((wK v1n h8)++[(v17,((wk v15 (wn v17) (0:Int)),((0:Int),())))]))) (0:Int) h8 h9 ((wK v1n h8)++[(v17,((wk v15 (wn v17) (0:Int)),((0:Int),())))])
else
some (h9)):=SE
theorem qqk (v1n:Nat) (v6:Int) (v8:Int) (v15:List Int) (v16:Int) (v17:Int) (v28:Int) (v29:Int) (h8:List qea) (h9:List qea):qId v1n v6 v8 v15 v16 v17 v28 v29 h8 h9=(
if (decide (v29<v28))=true then
gd (0≤v29)<|
gd (v29<(wi (we h8)))<|
letI e:=(wd .i64 (v29+(1:Int)))
letI c:=(wk h8 (0+(wn v29)) (qqa qka))
if (c.1 != v6)=true then
qId v1n v6 v8 v15 v16 v17 v28 e h8 h9
else
letI d:=(wd .i64 (c.2.1+c.2.2.1))
if (decide (c.2.1>v8))=true then
letI f:=(wd .i64 (c.2.1 - v8))
gd ((we (h9++[(v6,(v8,(f,())))]))*24≤140737488355328)<|
qId v1n v6 (if d>v8 then d else v8) v15 v16 v17 v28 e h8 (h9++[(v6,(v8,(f,())))])
else
qId v1n v6 (if d>v8 then d else v8) v15 v16 v17 v28 e h8 h9
else
qSc v1n v15 v16 (wd .i64 (v17+(1:Int))) h8 h9):=SE
theorem qpk (v1n:Nat) (v6:Int) (v8:Int) (v15:List Int) (v16:Int) (v17:Int) (v28:Int) (v29:Int) (h8:List qea) (h9:List qea) (h10:List qea):qHd v1n v6 v8 v15 v16 v17 v28 v29 h8 h9 h10=(
if (decide (v29<v28))=true then
gd (0≤v29)<|
gd (v29<(wi (we h10)))<|
letI e:=(wd .i64 (v29+(1:Int)))
letI c:=(wk h10 (0+(wn v29)) (qqa qka))
if (c.1 != v6)=true then
qHd v1n v6 v8 v15 v16 v17 v28 e h8 h9 h10
else
letI d:=(wd .i64 (c.2.1+c.2.2.1))
if (decide (c.2.1>v8))=true then
letI f:=(wd .i64 (c.2.1 - v8))
gd ((we (h9++[(v6,(v8,(f,())))]))*24≤140737488355328)<|
qHd v1n v6 (if d>v8 then d else v8) v15 v16 v17 v28 e h8 (h9++[(v6,(v8,(f,())))]) h10
else
qHd v1n v6 (if d>v8 then d else v8) v15 v16 v17 v28 e h8 h9 h10
else
qSc v1n v15 v16 (wd .i64 (v17+(1:Int))) h8 h9):=SE
noncomputable def vua:FN:={f:=19,cuts:=[⟨(9,3),[0,1,7,8,26,27,28],false,false,[9],[],[]⟩,⟨(16,3),[0,1,7,8,11,47,48,49],false,false,[9],[],[]⟩,⟨(27,3),[0,8,82,83,84],false,false,[],[8],[]⟩],tab:=[SS vG,SS vjd,qFw (fun _=>true),SS vca,SS vBa],fm:=⟨true,[.val (.slice qua) [.nw], .val (.int .i64) []]⟩}
noncomputable def qWc (a0:List qaa) (a1:List qoa):Option (List qva×Int):=vua.call [(.sl qfa false a0),(.sl qKa false a1)] []
noncomputable def qhl (v0:List qaa) (v1:List qoa) (v26:List qaa) (v27:Int) (v28:Int) (h8:List Int) (h9:List (ByteArray×List Int)):Option (List qva×Int):=vua.sem ⟨[.code (cIn (cIn (qba (qGa (qba (qba (qba (qba (qba (qha wg 19)))))))))), .inLoop (cIn (cIn (qba (qGa (qba (qba (qba (qba (qba (qha wg 19)))))))))), .inBlock 0, .code (qba (qba (qba (qba (qba (qba (qha wg 19)))))))],⟨[(0,(.one (.sl qfa false v0))),(1,(.one (.sl qKa false v1))),(7,(.one (.ref (.int .i64) 8 0 (we h8) true))),(8,(.one (.ref qua 9 0 (we (qdh (a:= .str) (e:=(.int .u8)) h9)) true))),(26,(.one (.sl qfa false v26))),(27,(.one (.int .i64 v27))),(28,(.one (.int .i64 v28)))],[(8,some (.row (.int .i64) true h8)),(9,some (.famS .str (.int .u8) h9))],10⟩⟩
noncomputable def qsf (v0:List qaa) (v1:List qoa) (v47:List qoa) (v48:Int) (v49:Int) (h8:List Int) (h9:List (ByteArray×List Int)) (h10:List qea):Option (List qva×Int):=vua.sem ⟨[.code (cIn (cIn (qba (qGa (qba (qba (qba (qba (qba (qba (qba (qha wg 19)))))))))))), .inLoop (cIn (cIn (qba (qGa (qba (qba (qba (qba (qba (qba (qba (qha wg 19)))))))))))), .inBlock 2, .code (qba (qba (qba (qba (qba (qba (qba (qba (qha wg 19)))))))))],⟨[(0,(.one (.sl qfa false v0))),(1,(.one (.sl qKa false v1))),(7,(.one (.ref (.int .i64) 8 0 (we h8) true))),(8,(.one (.ref qua 9 0 (we (qdh (a:= .str) (e:=(.int .u8)) h9)) true))),(11,(.one (.ref qka 10 0 (we h10) true))),(47,(.one (.sl qKa false v47))),(48,(.one (.int .i64 v48))),(49,(.one (.int .i64 v49)))],[(8,some (.row (.int .i64) true h8)),(9,some (.famS .str (.int .u8) h9)),(10,some (.row qka true h10))],11⟩⟩
noncomputable def qij (v0:List qaa) (v83:Int) (v84:Int) (h8:List qva):Option (List qva×Int):=vua.sem ⟨[.code (cIn (cIn (qba (qGa (qba (qba (qba (qba (qba (qba (qba (qba (qba (qba (qha wg 19))))))))))))))), .inLoop (cIn (cIn (qba (qGa (qba (qba (qba (qba (qba (qba (qba (qba (qba (qba (qha wg 19))))))))))))))), .inBlock 4, .code (qba (qba (qba (qba (qba (qba (qba (qba (qba (qba (qba (qha wg 19))))))))))))],⟨[(0,(.one (.sl qfa false v0))),(8,(.one (.ref qua 8 0 (we h8) true))),(82,(.one (.ref qua 8 0 (we h8) true))),(83,(.one (.int .i64 v83))),(84,(.one (.int .i64 v84)))],[(8,some (.row qua true h8))],9⟩⟩
theorem qiD (a0:List qaa) (a1:List qoa):qWc a0 a1=(
(qKf a0).bind fun r1=>
if (r1 != (0:Int))=true then
some ([],r1)
else
if (decide ((wi (we a1))>(600:Int)))=true then
some ([],(4:Int))
else
qhl a0 a1 a0 (wi (we a0)) (0:Int) [] []):=CE
theorem qEo (v0:List qaa) (v1:List qoa) (v26:List qaa) (v27:Int) (v28:Int) (h8:List Int) (h9:List (ByteArray×List Int)):qhl v0 v1 v26 v27 v28 h8 h9=(
if (decide (v28<v27))=true then
gd (0≤v28)<|
gd (v28<(wi (we v26)))<|
letI c:=(wk v26 (wn v28) (qqa qfa))
letI e:=(h8++[c.2.1])
gd ((we e)*8≤140737488355328)<|
gd (c.2.1=c.2.1)<|
gd (0≤c.2.1)<|
gd (c.2.1*1≤140737488355328)<|
gd (c.2.1≤9223372036854775807)<|
letI d:=(h9++[(c.1,(wo (wn c.2.1) (0:Int)))])
gd ((we d)*40≤140737488355328)<|
qhl v0 v1 v26 v27 (wd .i64 (v28+(1:Int))) e d
else
qsf v0 v1 v1 (wi (we v1)) (0:Int) h8 h9 []):=SE
theorem qDo (v0:List qaa) (v1:List qoa) (v47:List qoa) (v48:Int) (v49:Int) (h8:List Int) (h9:List (ByteArray×List Int)) (h10:List qea):qsf v0 v1 v47 v48 v49 h8 h9 h10=(
if (decide (v49<v48))=true then
gd (0≤v49)<|
gd (v49<(wi (we v47)))<|
letI c:=(wk v47 (wn v49) (qqa qKa))
(qBo h8 c.1).bind fun r2=>
if (not r2)=true then
some ([],(8:Int))
else
if ((wi (we c.2.1)) != c.1.2.2.1)=true then
some ([],(8:Int))
else
gd ((we (h10++[c.1]))*24≤140737488355328)<|
qsf v0 v1 v47 v48 (wd .i64 (v49+(1:Int))) h8 h9 (h10++[c.1])
else
(qhn v1 h9).bind fun r3=>
if (not r3.1)=true then
some ([],(14:Int))
else
(qgn h8 h10).bind fun r4=>
if (decide ((wi (we r4))>(0:Int)))=true then
some ([],(40:Int))
else
qij v0 (wi (we (qdh (a:= .str) (e:=(.int .u8)) h9))) (0:Int) (qdh (a:= .str) (e:=(.int .u8)) r3.2)):=SE
theorem qCo (v0:List qaa) (v83:Int) (v84:Int) (h8:List qva):qij v0 v83 v84 h8=(
if (decide (v84<v83))=true then
gd (0≤v84)<|
gd (v84<(wi (we h8)))<|
letI c:=(wn v84)
(qAt (wk h8 (0+c) (qqa qua)).2.1).bind fun r5=>
gd (0≤v84)<|
gd (v84<(wi (we v0)))<|
if (not (peq (.arr 20 (.int .u8)) r5.1 (wk v0 c (qqa qfa)).2.2.1))=true then
some ([],(22:Int))
else
qij v0 v83 (wd .i64 (v84+(1:Int))) h8
else
some (h8,(0:Int))):=SE
noncomputable def vQa:FN:={f:=7,cuts:=[],tab:=[SS vHa,SS vL,SS vua],fm:=⟨true,[.val (.slice qua) [.nw], .val (.int .i64) []]⟩}
noncomputable def qTb (a0:List Int):Option (List qva×Int):=vQa.call [(.sl (.int .u8) false a0)] []
theorem qif (a0:List Int):qTb a0=(
(qid a0).bind fun r1=>
if (r1.2.2 != (0:Int))=true then
some ([],r1.2.2)
else
(qVb r1.1.1.1 r1.2.1).bind fun r2=>
if (r2.2 != (0:Int))=true then
some ([],r2.2)
else
(qWc r1.1.2.1 r2.1).bind fun r3=>
some (r3)):=CE
noncomputable def vZa:FN:={f:=8,cuts:=[⟨(8,3),[4,6,7,10,38,39],false,false,[],[],[]⟩],tab:=[(SS vSb).dropping,SS vL,SS vua],fm:=⟨true,[.val qua [], .val (.int .i64) []]⟩}
noncomputable def qKe (a0:List Int) (a1:ByteArray):Option (qva×Int):=vZa.call [(.sl (.int .u8) false a0),(.str a1)] []
noncomputable def qug (v7:Int) (v38:Int) (v39:Int) (b8a:ByteArray) (b8bb:Unit) (b9:qza) (h10:List qoa) (h11:List Int):Option (qva×Int):=vZa.sem ⟨[.code (cIn (cIn (qba (qGa (qba (qba (qba (qba (qba (qha wg 8)))))))))), .inLoop (cIn (cIn (qba (qGa (qba (qba (qba (qba (qba (qha wg 8)))))))))), .inBlock 0, .code (qba (qba (qba (qba (qba (qba (qha wg 8)))))))],⟨[(4,(.one (.ptr qua 8 []))),(6,(.one (.ptr qJa 9 []))),(7,(.one (.int .i64 v7))),(10,(.one (.ref qKa 10 0 (we h10) true))),(38,(.one (.int .i64 v38))),(39,(.one (.int .i64 v39)))],[(8,some (.box qua (b8a,((SV.ref 11 0 (we h11) true),b8bb)))),(9,some (.box qJa (inj false qJa b9))),(10,some (.row qKa true h10)),(11,some (.row (.int .u8) true h11))],12⟩⟩
theorem qZq (a0:List Int) (a1:ByteArray):qKe a0 a1=(
(qxj a0 a1).bind fun r1=>
if (r1.2.2.2 != (0:Int))=true then
some ((wD,([],())),r1.2.2.2)
else
(qVb r1.1.1.1 (wK r1.2.2.1.2.2 (wW r1.2.2.1.2.1 r1.2.2.1.1))).bind fun r2=>
if (r2.2 != (0:Int))=true then
some ((wD,([],())),r2.2)
else
qug r1.2.1 (wi (we r2.1)) (0:Int) wD () r1.1 r2.1 []):=CE
theorem qVm (v7:Int) (v38:Int) (v39:Int) (b8a:ByteArray) (b8bb:Unit) (b9:qza) (h10:List qoa) (h11:List Int):qug v7 v38 v39 b8a b8bb b9 h10 h11=(
if (decide (v39<v38))=true then
gd (0≤v39)<|
gd (v39<(wi (we h10)))<|
letI e:=(0+(wn v39))
letI d:=(wk h10 e (qqa qKa))
qug v7 v38 (wd .i64 (v39+(1:Int))) b8a b8bb b9 (wF h10 e (((0:Int),d.1.2),d.2)) h11
else
gd (0≤v7)<|
letI c:=(wd .i64 (v7+(1:Int)))
gd (v7≤c)<|
gd (c≤(wi (we b9.2.1)))<|
(qWc (wK ((wn c) - (wn v7)) (wW (wn v7) b9.2.1)) h10).bind fun r3=>
if (r3.2 != (0:Int))=true then
some ((wD,([],())),r3.2)
else
gd (0≤(0:Int))<|
gd ((0:Int)<(wi (we r3.1)))<|
some ((wk r3.1 0 (qqa qua)),(0:Int))):=SE
noncomputable def vyb:FN:={f:=5,cuts:=[],tab:=[SS vN,SS vya,SS vQa,SS vZa],fm:=⟨true,[.val .bool []]⟩}
noncomputable def qti:Option (Bool):=vyb.call [] []
theorem qUp:qti=(
(qZb (qdh (a:= .str) (e:=(.int .u8)) [((wDa #[97]),[(7:Int),(8:Int)])])).bind fun r1=>
(qdd r1 (wDa #[97]) (1:Int) (2:Int)).bind fun r2=>
(qdd r1 (wDa #[97]) (1:Int) (3:Int)).bind fun r3=>
(qZb []).bind fun r4=>
(qTb r4).bind fun r5=>
(qZb []).bind fun r6=>
(qKe r6 (wDa #[97])).bind fun r7=>
if (r2.2==(0:Int))=true then
if ((wO (qng r2.1))==(wO (qng [(8:Int)])))=true then
if (r3.2==(2:Int))=true then
if (r5.2==(0:Int))=true then
if ((wi (we r5.1))==(0:Int))=true then
some (r7.2==(6:Int))
else
some (false)
else
some (false)
else
some (false)
else
some (false)
else
some (false)):=CE
noncomputable def voa:FN:={f:=147,cuts:=[],tab:=[],fm:=⟨true,[.val .bool []]⟩}
noncomputable def qei (a0:Int):Option (Bool):=voa.call [(.int .i64 a0)] []
theorem qCj (a0:Int):qei a0=(
if (decide (a0≥(16:Int)))=true then
some (decide (a0≤(4096:Int)))
else
some (false)):=CE
noncomputable def vpb:FN:={f:=111,cuts:=[],tab:=[SS voa],fm:=⟨true,[.val (.int .i64) []]⟩}
noncomputable def qci (a0:qia):Option (Int):=vpb.call [(.agg qwa (inj false qwa a0))] []
theorem qHp (a0:qia):qci a0=(
if (decide (a0.1<(0:Int)))=true then
some (2:Int)
else
if (decide (a0.1>(7:Int)))=true then
some (2:Int)
else
(qei a0.2.1).bind fun r1=>
if (not r1)=true then
some (2:Int)
else
some (0:Int)):=CE
noncomputable def vC:FN:={f:=148,cuts:=[⟨(5,3),[0,3,4],false,false,[],[],[]⟩,⟨(14,3),[0,6],false,false,[],[],[]⟩,⟨(17,7),[0,6,7],false,false,[],[],[]⟩],tab:=[SS vaa,SS vi],fm:=⟨true,[.val (.int .i64) []]⟩}
noncomputable def qfi (a0:List qaa):Option (Int):=vC.call [(.sl qfa false a0)] []
noncomputable def qIc (v0:List qaa) (v3:Int) (v4:Int):Option (Int):=vC.sem ⟨[.code (cIn (cIn (qba (qGa (qba (qba (qba (qha wg 148)))))))), .inLoop (cIn (cIn (qba (qGa (qba (qba (qba (qha wg 148)))))))), .inBlock 0, .code (qba (qba (qba (qba (qha wg 148)))))],⟨[(0,(.one (.sl qfa false v0))),(3,(.one (.int .i64 v3))),(4,(.one (.int .i64 v4)))],[],8⟩⟩
noncomputable def qHc (v0:List qaa) (v6:Int):Option (Int):=vC.sem ⟨[.code (cIn (cIn (qba (qGa (qba (qba (qba (qba (qba (qha wg 148)))))))))), .inLoop (cIn (cIn (qba (qGa (qba (qba (qba (qba (qba (qha wg 148)))))))))), .inBlock 2, .code (qba (qba (qba (qba (qba (qba (qha wg 148)))))))],⟨[(0,(.one (.sl qfa false v0))),(6,(.one (.int .i64 v6)))],[],8⟩⟩
noncomputable def qRd (v0:List qaa) (v6:Int) (v7:Int):Option (Int):=vC.sem ⟨[.code (cIn (cIn (qba (cIn (qGa (qba (cIn (cIn (qba (qGa (qba (qba (qba (qba (qba (qha wg 148)))))))))))))))), .inLoop (cIn (cIn (qba (cIn (qGa (qba (cIn (cIn (qba (qGa (qba (qba (qba (qba (qba (qha wg 148)))))))))))))))), .inBlock 4, .inBlock 3, .code (qba (qba (cIn (cIn (qba (qGa (qba (qba (qba (qba (qba (qha wg 148)))))))))))), .inLoop (cIn (cIn (qba (qGa (qba (qba (qba (qba (qba (qha wg 148)))))))))), .inBlock 2, .code (qba (qba (qba (qba (qba (qba (qha wg 148)))))))],⟨[(0,(.one (.sl qfa false v0))),(6,(.one (.int .i64 v6))),(7,(.one (.int .i64 v7)))],[],8⟩⟩
theorem qKp (a0:List qaa):qfi a0=(
if (decide ((wi (we a0))>(16:Int)))=true then
some (4:Int)
else
qIc a0 (0:Int) (0:Int)):=CE
theorem qjh (v0:List qaa) (v3:Int) (v4:Int):qIc v0 v3 v4=(
letI f:=(wi (we v0))
if (decide (v4<f))=true then
gd (0≤v4)<|
gd (v4<f)<|
letI c:=(wk v0 (wn v4) (qqa qfa))
(qag c.1).bind fun r1=>
if (not r1)=true then
some (8:Int)
else
if (decide (c.2.1<(0:Int)))=true then
some (8:Int)
else
if (decide (c.2.1>(8192:Int)))=true then
some (8:Int)
else
letI e:=(wd .i64 (v3+c.2.1))
letI d:=(wd .i64 (v4+(1:Int)))
if (c.2.1==(0:Int))=true then
(qKc []).bind fun r2=>
if (not (peq (.arr 20 (.int .u8)) c.2.2.1 r2))=true then
some (8:Int)
else
qIc v0 e d
else
qIc v0 e d
else
if (decide (v3>(8192:Int)))=true then
some (4:Int)
else
qHc v0 (0:Int)):=SE
theorem qih (v0:List qaa) (v6:Int):qHc v0 v6=(
if (decide (v6<(wi (we v0))))=true then
qRd v0 v6 (0:Int)
else
some (0:Int)):=SE
theorem qhh (v0:List qaa) (v6:Int) (v7:Int):qRd v0 v6 v7=(
if (decide (v7<v6))=true then
gd (0≤v7)<|
letI c:=(wi (we v0))
gd (v7<c)<|
gd (0≤v6)<|
gd (v6<c)<|
letI d:=(qqa qfa)
if ((wO (wk v0 (wn v7) d).1)==(wO (wk v0 (wn v6) d).1))=true then
some (14:Int)
else
qRd v0 v6 (wd .i64 (v7+(1:Int)))
else
qHc v0 (wd .i64 (v6+(1:Int)))):=SE
noncomputable def vZ:FN:={f:=112,cuts:=[⟨(8,3),[0,1,7,8,9],false,false,[],[],[]⟩,⟨(15,8),[0,1,7,8,9,10,11,12],false,false,[],[],[]⟩],tab:=[SS vC],fm:=⟨true,[.val (.slice qfa) [.nw], .val (.int .i64) [], .val (.int .i64) []]⟩}
noncomputable def qOi (a0:List Int) (a1:Int):Option (List qaa×Int×Int):=vZ.call [(.sl (.int .u8) false a0),(.int .i64 a1)] []
noncomputable def qZc (v0:List Int) (v1:Int) (v8:Int) (v9:Int) (h8:List qaa):Option (List qaa×Int×Int):=vZ.sem ⟨[.code (cIn (cIn (qba (qGa (qba (qba (qba (qba (qba (qha wg 112)))))))))), .inLoop (cIn (cIn (qba (qGa (qba (qba (qba (qba (qba (qha wg 112)))))))))), .inBlock 0, .code (qba (qba (qba (qba (qba (qba (qha wg 112)))))))],⟨[(0,(.one (.sl (.int .u8) false v0))),(1,(.one (.int .i64 v1))),(7,(.one (.ref qfa 8 0 (we h8) true))),(8,(.one (.int .i64 v8))),(9,(.one (.int .i64 v9)))],[(8,some (.row qfa true h8))],9⟩⟩
noncomputable def qhe (v0:List Int) (v1:Int) (v8:Int) (v9:Int) (v10:Int) (v12:Int) (h8:List qaa) (b9:qaa):Option (List qaa×Int×Int):=vZ.sem ⟨[.code (cIn (cIn (qba (qGa (qba (qba (qba (cIn (qGa (qba (cIn (cIn (qba (qGa (qba (qba (qba (qba (qba (qha wg 112)))))))))))))))))))), .inLoop (cIn (cIn (qba (qGa (qba (qba (qba (cIn (qGa (qba (cIn (cIn (qba (qGa (qba (qba (qba (qba (qba (qha wg 112)))))))))))))))))))), .inBlock 2, .code (qba (qba (qba (qba (cIn (qGa (qba (cIn (cIn (qba (qGa (qba (qba (qba (qba (qba (qha wg 112))))))))))))))))), .inBlock 1, .code (qba (qba (cIn (cIn (qba (qGa (qba (qba (qba (qba (qba (qha wg 112)))))))))))), .inLoop (cIn (cIn (qba (qGa (qba (qba (qba (qba (qba (qha wg 112)))))))))), .inBlock 0, .code (qba (qba (qba (qba (qba (qba (qha wg 112)))))))],⟨[(0,(.one (.sl (.int .u8) false v0))),(1,(.one (.int .i64 v1))),(7,(.one (.ref qfa 8 0 (we h8) true))),(8,(.one (.int .i64 v8))),(9,(.one (.int .i64 v9))),(10,(.one (.int .i64 v10))),(11,(.one (.ptr qfa 9 []))),(12,(.one (.int .i64 v12)))],[(8,some (.row qfa true h8)),(9,some (.box qfa (inj false qfa b9)))],10⟩⟩
theorem qvq (a0:List Int) (a1:Int):qOi a0 a1=(
if (decide (a1<(0:Int)))=true then
some ([],((0:Int),(2:Int)))
else
if (decide (a1>(16:Int)))=true then
some ([],((0:Int),(2:Int)))
else
if (decide ((wi (we a0))>(50000:Int)))=true then
some ([],((0:Int),(4:Int)))
else
qZc a0 a1 (0:Int) (0:Int) []):=CE
theorem qhi (v0:List Int) (v1:Int) (v8:Int) (v9:Int) (h8:List qaa):qZc v0 v1 v8 v9 h8=(
if (decide (v9<v1))=true then
letI e:=(wi (we v0))
if (decide (v8≥e))=true then
some ([],((0:Int),(18:Int)))
else
gd (0≤v8)<|
gd (v8<e)<|
letI d:=(wd .i64 (wk v0 (wn v8) (0:Int)))
if (decide ((wd .i64 ((wd .i64 (e - v8)) - (1:Int)))<(wd .i64 (d+(22:Int)))))=true then
some ([],((0:Int),(18:Int)))
else
gd (0≤v8)<|
gd (v8<e)<|
letI f:=(wd .i64 (v8+(1:Int)))
gd (0≤f)<|
letI c:=(wd .i64 (f+d))
gd (f≤c)<|
gd (c≤e)<|
gd (0≤c)<|
gd (c<e)<|
gd (0≤(8:Int))<|
letI g:=(wd .i64 ((wd .i64 (v8+(2:Int)))+d))
gd (0≤g)<|
gd (g<e)<|
qhe v0 v1 v8 v9 d (0:Int) h8 ((qng (wK ((wn c) - (wn f)) (wW (wn f) v0))),((wd .i64 ((wd .i64 ((wd .i64 (wk v0 (wn c) (0:Int)))*(256:Int)))+(wd .i64 (wk v0 (wn g) (0:Int))))),((wo 20 (0:Int)),())))
else
(qfi h8).bind fun r1=>
if (r1 != (0:Int))=true then
some ([],((0:Int),(12:Int)))
else
some (h8,(v8,(0:Int)))):=SE
theorem qgi (v0:List Int) (v1:Int) (v8:Int) (v9:Int) (v10:Int) (v12:Int) (h8:List qaa) (b9:qaa):qhe v0 v1 v8 v9 v10 v12 h8 b9=(
if (decide (v12<(20:Int)))=true then
letI c:=(wd .i64 ((wd .i64 ((wd .i64 (v8+(3:Int)))+v10))+v12))
gd (0≤c)<|
gd (c<(wi (we v0)))<|
gd (0≤v12)<|
gd (v12<(20:Int))<|
qhe v0 v1 v8 v9 v10 (wd .i64 (v12+(1:Int))) h8 (b9.1,(b9.2.1,((wF b9.2.2.1 (wn v12) (wk v0 (wn c) (0:Int))),b9.2.2.2)))
else
gd ((we (h8++[b9]))*48≤140737488355328)<|
qZc v0 v1 (wd .i64 (v8+(wd .i64 (v10+(23:Int))))) (wd .i64 (v9+(1:Int))) (h8++[b9])):=SE
noncomputable def vFb:FN:={f:=68,cuts:=[],tab:=[SS vpb,SS vZ,SS vi],fm:=⟨true,[.val qwa [], .val (.slice qfa) [.nw], .val (.int .i64) [], .val (.int .i64) []]⟩}
noncomputable def qNi (a0:List Int):Option (qia×List qaa×Int×Int):=vFb.call [(.sl (.int .u8) false a0)] []
theorem qtq (a0:List Int):qNi a0=(
letI c:=(wi (we a0))
if (decide (c>(50000:Int)))=true then
some (((0:Int),((0:Int),())),([],((0:Int),(4:Int))))
else
if (decide (c<(8:Int)))=true then
some (((0:Int),((0:Int),())),([],((0:Int),(18:Int))))
else
gd (0≤(4:Int))<|
gd ((4:Int)<c)<|
gd (0≤(5:Int))<|
gd ((5:Int)<c)<|
gd (0≤(8:Int))<|
gd (0≤(6:Int))<|
gd ((6:Int)<c)<|
gd (0≤(4:Int))<|
gd ((4:Int)≤c)<|
if (not ((wO (qng (wK 4 a0)))==(wO (wDa #[66,76,70,1]))))=true then
some (((0:Int),((0:Int),())),([],((0:Int),(12:Int))))
else
letI g:=(wd .i64 (wk a0 4 (0:Int)))
letI e:=(wd .i64 ((wd .i64 ((wd .i64 (wk a0 5 (0:Int)))*(256:Int)))+(wd .i64 (wk a0 6 (0:Int)))))
(qci (g,(e,()))).bind fun r1=>
if (r1 != (0:Int))=true then
some (((0:Int),((0:Int),())),([],((0:Int),(12:Int))))
else
gd (0≤(7:Int))<|
gd ((7:Int)<c)<|
letI i:=(wk a0 7 (0:Int))
if (decide (i>(16:Int)))=true then
some (((0:Int),((0:Int),())),([],((0:Int),(12:Int))))
else
gd (0≤(8:Int))<|
gd ((8:Int)≤c)<|
gd (0≤(7:Int))<|
gd ((7:Int)<c)<|
(qOi (wW 8 a0) (wd .i64 i)).bind fun r2=>
if (r2.2.2 != (0:Int))=true then
some (((0:Int),((0:Int),())),([],((0:Int),r2.2.2)))
else
if (decide ((wd .i64 ((wd .i64 (c - (8:Int))) - r2.2.1))<(20:Int)))=true then
some (((0:Int),((0:Int),())),([],((0:Int),(18:Int))))
else
letI d:=(wd .i64 ((8:Int)+r2.2.1))
gd (0≤d)<|
gd (d≤c)<|
(qKc (wK (wn d) a0)).bind fun r3=>
gd (0≤d)<|
letI f:=(wd .i64 ((28:Int)+r2.2.1))
gd (d≤f)<|
gd (f≤c)<|
if (not ((wO (qng (wK 20 (wW 0 r3))))==(wO (qng (wK ((wn f) - (wn d)) (wW (wn d) a0))))))=true then
some (((0:Int),((0:Int),())),([],((0:Int),(22:Int))))
else
some ((g,(e,())),(r2.1,(f,(0:Int))))):=CE
noncomputable def vS:FN:={f:=149,cuts:=[⟨(2,3),[0,3],false,false,[],[],[]⟩,⟨(10,3),[0,4,5],false,false,[],[],[]⟩],tab:=[],fm:=⟨true,[.val (.int .i64) []]⟩}
noncomputable def qdi (a0:List Int):Option (Int):=vS.call [(.sl (.int .i64) false a0)] []
noncomputable def qQd (v0:List Int) (v3:Int):Option (Int):=vS.sem ⟨[.code (cIn (cIn (qba (qGa (qba (qha wg 149)))))), .inLoop (cIn (cIn (qba (qGa (qba (qha wg 149)))))), .inBlock 0, .code (qba (qba (qha wg 149)))],⟨[(0,(.one (.sl (.int .i64) false v0))),(3,(.one (.int .i64 v3)))],[],8⟩⟩
noncomputable def qGc (v0:List Int) (v4:Int) (v5:Int):Option (Int):=vS.sem ⟨[.code (cIn (cIn (qba (qGa (qba (qba (qba (qba (qha wg 149))))))))), .inLoop (cIn (cIn (qba (qGa (qba (qba (qba (qba (qha wg 149))))))))), .inBlock 2, .code (qba (qba (qba (qba (qba (qha wg 149))))))],⟨[(0,(.one (.sl (.int .i64) false v0))),(4,(.one (.int .i64 v4))),(5,(.one (.int .i64 v5)))],[],8⟩⟩
theorem qJp (a0:List Int):qdi a0=(
qQd a0 (0:Int)):=CE
theorem qgh (v0:List Int) (v3:Int):qQd v0 v3=(
letI c:=(wi (we v0))
if (decide (v3<c))=true then
gd (0≤v3)<|
gd (v3<c)<|
if (decide ((wk v0 (wn v3) (0:Int))<(0:Int)))=true then
some (8:Int)
else
qQd v0 (wd .i64 (v3+(1:Int)))
else
if (decide (c>(16:Int)))=true then
some (4:Int)
else
qGc v0 (8192:Int) (0:Int)):=SE
theorem qfh (v0:List Int) (v4:Int) (v5:Int):qGc v0 v4 v5=(
letI c:=(wi (we v0))
if (decide (v5<c))=true then
gd (0≤v5)<|
gd (v5<c)<|
letI d:=(wk v0 (wn v5) (0:Int))
if (decide (d>v4))=true then
some (4:Int)
else
gd (0≤v5)<|
gd (v5<c)<|
qGc v0 (wd .i64 (v4 - d)) (wd .i64 (v5+(1:Int)))
else
some (0:Int)):=SE
noncomputable def vM:FN:={f:=150,cuts:=[⟨(3,3),[0,1,5,6],false,false,[],[],[]⟩,⟨(6,7),[0,1,5,6,7],false,false,[],[],[]⟩],tab:=[],fm:=⟨true,[.val (.slice qka) [.nw]]⟩}
noncomputable def qUg (a0:List Int) (a1:Int):Option (List qea):=vM.call [(.sl (.int .i64) false a0),(.int .i64 a1)] []
noncomputable def qtc (v0:List Int) (v1:Int) (v6:Int) (h8:List qea):Option (List qea):=vM.sem ⟨[.code (cIn (cIn (qba (qGa (qba (qba (qha wg 150))))))), .inLoop (cIn (cIn (qba (qGa (qba (qba (qha wg 150))))))), .inBlock 0, .code (qba (qba (qba (qha wg 150))))],⟨[(0,(.one (.sl (.int .i64) false v0))),(1,(.one (.int .i64 v1))),(5,(.one (.ref qka 8 0 (we h8) true))),(6,(.one (.int .i64 v6)))],[(8,some (.row qka true h8))],9⟩⟩
noncomputable def qwd (v0:List Int) (v1:Int) (v6:Int) (v7:Int) (h8:List qea):Option (List qea):=vM.sem ⟨[.code (cIn (cIn (qba (cIn (qGa (qba (cIn (cIn (qba (qGa (qba (qba (qha wg 150))))))))))))), .inLoop (cIn (cIn (qba (cIn (qGa (qba (cIn (cIn (qba (qGa (qba (qba (qha wg 150))))))))))))), .inBlock 2, .inBlock 1, .code (qba (qba (cIn (cIn (qba (qGa (qba (qba (qha wg 150))))))))), .inLoop (cIn (cIn (qba (qGa (qba (qba (qha wg 150))))))), .inBlock 0, .code (qba (qba (qba (qha wg 150))))],⟨[(0,(.one (.sl (.int .i64) false v0))),(1,(.one (.int .i64 v1))),(5,(.one (.ref qka 8 0 (we h8) true))),(6,(.one (.int .i64 v6))),(7,(.one (.int .i64 v7)))],[(8,some (.row qka true h8))],9⟩⟩
theorem qro (a0:List Int) (a1:Int):qUg a0 a1=(
qtc a0 a1 (0:Int) []):=CE
theorem qBg (v0:List Int) (v1:Int) (v6:Int) (h8:List qea):qtc v0 v1 v6 h8=(
if (decide (v6<(wi (we v0))))=true then
qwd v0 v1 v6 (0:Int) h8
else
some (h8)):=SE
theorem qAg (v0:List Int) (v1:Int) (v6:Int) (v7:Int) (h8:List qea):qwd v0 v1 v6 v7 h8=(
gd (0≤v6)<|
letI e:=(wi (we v0))
gd (v6<e)<|
letI d:=(wk v0 (wn v6) (0:Int))
if (decide (v7<d))=true then
gd (0≤v6)<|
gd (v6<e)<|
letI c:=(wd .i64 (d - v7))
gd ((we (h8++[(v6,(v7,((if c<v1 then c else v1),())))]))*24≤140737488355328)<|
qwd v0 v1 v6 (wd .i64 (v7+v1)) (h8++[(v6,(v7,((if c<v1 then c else v1),())))])
else
qtc v0 v1 (wd .i64 (v6+(1:Int))) h8):=SE
noncomputable def vgb:FN:={f:=113,cuts:=[],tab:=[SS vS,SS voa,SS vM],fm:=⟨true,[.val (.slice qka) [.nw], .val (.int .i64) []]⟩}
noncomputable def qVg (a0:List Int) (a1:Int):Option (List qea×Int):=vgb.call [(.sl (.int .i64) false a0),(.int .i64 a1)] []
theorem qso (a0:List Int) (a1:Int):qVg a0 a1=(
letI c:=(qdi a0)
c.bind fun r1=>
if (r1 != (0:Int))=true then
c.bind fun r2=>
some ([],r2)
else
(qei a1).bind fun r3=>
if (not r3)=true then
some ([],(2:Int))
else
(qUg a0 a1).bind fun r4=>
some (r4,(0:Int))):=CE
noncomputable def vja:FN:={f:=69,cuts:=[⟨(3,3),[1,2,5,6],false,false,[],[],[]⟩],tab:=[SS vgb],fm:=⟨true,[.val (.slice qka) [.nw]]⟩}
noncomputable def qSg (a0:qia) (a1:List qaa):Option (List qea):=vja.call [(.agg qwa (inj false qwa a0)),(.sl qfa false a1)] []
noncomputable def qud (v1:List qaa) (v6:Int) (b8:qia) (h9:List Int):Option (List qea):=vja.sem ⟨[.code (cIn (cIn (qba (qGa (qba (qba (qha wg 69))))))), .inLoop (cIn (cIn (qba (qGa (qba (qba (qha wg 69))))))), .inBlock 0, .code (qba (qba (qba (qha wg 69))))],⟨[(1,(.one (.sl qfa false v1))),(2,(.one (.ptr qwa 8 []))),(5,(.one (.ref (.int .i64) 9 0 (we h9) true))),(6,(.one (.int .i64 v6)))],[(8,some (.box qwa (inj false qwa b8))),(9,some (.row (.int .i64) true h9))],10⟩⟩
theorem qpo (a0:qia) (a1:List qaa):qSg a0 a1=(
qud a1 (0:Int) a0 []):=CE
theorem qyg (v1:List qaa) (v6:Int) (b8:qia) (h9:List Int):qud v1 v6 b8 h9=(
letI d:=(wi (we v1))
if (decide (v6<d))=true then
gd (0≤v6)<|
gd (v6<d)<|
letI c:=(h9++[(wk v1 (wn v6) (qqa qfa)).2.1])
gd ((we c)*8≤140737488355328)<|
qud v1 (wd .i64 (v6+(1:Int))) b8 c
else
(qVg h9 b8.2.1).bind fun r1=>
some (r1.1)):=SE
noncomputable def vlb:FN:={f:=137,cuts:=[],tab:=[],fm:=⟨true,[.val (.int .i64) []]⟩}
noncomputable def qoi (a0:qga):Option (Int):=vlb.call [(.agg qsa (inj false qsa a0))] []
theorem qQp (a0:qga):qoi a0=(
if (decide (a0.2.1<(0:Int)))=true then
some (8:Int)
else
if (decide (a0.2.1≥(16:Int)))=true then
some (8:Int)
else
if (decide (a0.2.2.2.1<(1:Int)))=true then
some (8:Int)
else
if (decide (a0.2.2.2.1>(4096:Int)))=true then
some (8:Int)
else
if (decide (a0.2.2.1<(0:Int)))=true then
some (8:Int)
else
if (decide (a0.2.2.1>(wd .i64 ((8192:Int) - a0.2.2.2.1))))=true then
some (8:Int)
else
letI f:=(a0.1==(2:Int))
letI e:=(decide (a0.2.2.2.2.1≥(1:Int)))
letI d:=(not (decide (a0.2.2.2.2.1<a0.2.2.2.1)))
if (a0.1==(1:Int))=true then
letI c:=(not (a0.2.2.2.2.1==a0.2.2.2.1))
if f=true then
if e=true then
if c=true then
if d=true then
some (8:Int)
else
some (0:Int)
else
some (0:Int)
else
if c=true then
some (8:Int)
else
some (0:Int)
else
if c=true then
some (8:Int)
else
some (0:Int)
else
if f=true then
if e=true then
if d=true then
some (8:Int)
else
some (0:Int)
else
some (8:Int)
else
some (8:Int)):=CE
noncomputable def vpa:FN:={f:=97,cuts:=[⟨(5,3),[0,2,4,5],false,false,[],[],[]⟩],tab:=[SS vlb],fm:=⟨true,[.val qsa [], .val (.int .i64) []]⟩}
noncomputable def qmi (a0:List Int):Option (qga×Int):=vpa.call [(.sl (.int .u8) false a0)] []
noncomputable def qVd (v0:List Int) (v5:Int) (b8:qga) (b9:qga):Option (qga×Int):=vpa.sem ⟨[.code (cIn (cIn (qba (qGa (qba (qba (qba (qha wg 97)))))))), .inLoop (cIn (cIn (qba (qGa (qba (qba (qba (qha wg 97)))))))), .inBlock 0, .code (qba (qba (qba (qba (qha wg 97)))))],⟨[(0,(.one (.sl (.int .u8) false v0))),(2,(.one (.ptr qsa 8 []))),(4,(.one (.ptr qsa 9 []))),(5,(.one (.int .i64 v5)))],[(8,some (.box qsa (inj false qsa b8))),(9,some (.box qsa (inj false qsa b9)))],10⟩⟩
theorem qOp (a0:List Int):qmi a0=(
letI d:=(wo 20 (0:Int))
letI c:=(wi (we a0))
if (c != (28:Int))=true then
some (((0:Int),((0:Int),((0:Int),((0:Int),((0:Int),(d,())))))),(12:Int))
else
gd (0≤(0:Int))<|
gd ((0:Int)<c)<|
gd (0≤(1:Int))<|
gd ((1:Int)<c)<|
gd (0≤(2:Int))<|
gd ((2:Int)<c)<|
gd (0≤(8:Int))<|
gd (0≤(3:Int))<|
gd ((3:Int)<c)<|
gd (0≤(4:Int))<|
gd ((4:Int)<c)<|
gd (0≤(8:Int))<|
gd (0≤(5:Int))<|
gd ((5:Int)<c)<|
gd (0≤(6:Int))<|
gd ((6:Int)<c)<|
gd (0≤(8:Int))<|
gd (0≤(7:Int))<|
gd ((7:Int)<c)<|
qVd a0 (0:Int) ((0:Int),((0:Int),((0:Int),((0:Int),((0:Int),(d,())))))) ((wk a0 0 (0:Int)),((wd .i64 (wk a0 1 (0:Int))),((wd .i64 ((wd .i64 ((wd .i64 (wk a0 2 (0:Int)))*(256:Int)))+(wd .i64 (wk a0 3 (0:Int))))),((wd .i64 ((wd .i64 ((wd .i64 (wk a0 4 (0:Int)))*(256:Int)))+(wd .i64 (wk a0 5 (0:Int))))),((wd .i64 ((wd .i64 ((wd .i64 (wk a0 6 (0:Int)))*(256:Int)))+(wd .i64 (wk a0 7 (0:Int))))),(d,()))))))):=CE
theorem qph (v0:List Int) (v5:Int) (b8:qga) (b9:qga):qVd v0 v5 b8 b9=(
if (decide (v5<(20:Int)))=true then
letI c:=(wd .i64 ((8:Int)+v5))
gd (0≤c)<|
gd (c<(wi (we v0)))<|
gd (0≤v5)<|
gd (v5<(20:Int))<|
qVd v0 (wd .i64 (v5+(1:Int))) b8 (b9.1,(b9.2.1,(b9.2.2.1,(b9.2.2.2.1,(b9.2.2.2.2.1,((wF b9.2.2.2.2.2.1 (wn v5) (wk v0 (wn c) (0:Int))),b9.2.2.2.2.2.2))))))
else
(qoi b9).bind fun r1=>
if (r1 != (0:Int))=true then
some (((0:Int),((0:Int),((0:Int),((0:Int),((0:Int),((wo 20 (0:Int)),())))))),(12:Int))
else
some (b9,(0:Int))):=SE
noncomputable def vha:FN:={f:=96,cuts:=[⟨(5,3),[0,1,5,6],false,false,[],[],[]⟩],tab:=[SS vqa],fm:=⟨true,[.val .bool []]⟩}
noncomputable def qXg (a0:List Int) (a1:Int):Option (Bool):=vha.call [(.sl (.int .u8) false a0),(.int .i64 a1)] []
noncomputable def qxd (v0:List Int) (v1:Int) (v6:Int) (h8:List Int):Option (Bool):=vha.sem ⟨[.code (cIn (cIn (qba (qGa (qba (qba (qba (qha wg 96)))))))), .inLoop (cIn (cIn (qba (qGa (qba (qba (qba (qha wg 96)))))))), .inBlock 0, .code (qba (qba (qba (qba (qha wg 96)))))],⟨[(0,(.one (.sl (.int .u8) false v0))),(1,(.one (.int .i64 v1))),(5,(.one (.ref (.int .u8) 8 0 (we h8) true))),(6,(.one (.int .i64 v6)))],[(8,some (.row (.int .u8) true h8))],9⟩⟩
theorem qwo (a0:List Int) (a1:Int):qXg a0 a1=(
(qmf).bind fun r1=>
if (decide (a1<(0:Int)))=true then
some (false)
else
letI c:=(wi (we a0))
if (decide (a1>c))=true then
some (false)
else
if (decide ((wd .i64 (c - a1))<(13:Int)))=true then
some (false)
else
qxd a0 a1 (0:Int) r1):=CE
theorem qCg (v0:List Int) (v1:Int) (v6:Int) (h8:List Int):qxd v0 v1 v6 h8=(
if (decide (v6<(13:Int)))=true then
letI c:=(wd .i64 (v1+v6))
gd (0≤c)<|
gd (c<(wi (we v0)))<|
gd (0≤v6)<|
gd (v6<(wi (we h8)))<|
if ((wk v0 (wn c) (0:Int)) != (wk h8 (0+(wn v6)) (0:Int)))=true then
some (false)
else
qxd v0 v1 (wd .i64 (v6+(1:Int))) h8
else
some (true)):=SE
noncomputable def vhb:FN:={f:=55,cuts:=[],tab:=[SS vpa,SS vha],fm:=⟨true,[.val qpa [], .val (.int .i64) [], .val (.int .i64) []]⟩}
noncomputable def qWk (a0:List Int):Option (qca×Int×Int):=vhb.call [(.sl (.int .u8) false a0)] []
theorem qvo (a0:List Int):qWk a0=(
letI e:=(wi (we a0))
letI d:=(wo 20 (0:Int))
if (decide (e<(41:Int)))=true then
some ((((0:Int),((0:Int),((0:Int),((0:Int),((0:Int),(d,())))))),([],())),((0:Int),(18:Int)))
else
gd (0≤(13:Int))<|
gd ((13:Int)≤(41:Int))<|
gd ((41:Int)≤e)<|
(qmi (wK 28 (wW 13 a0))).bind fun r1=>
(qXg a0 (0:Int)).bind fun r2=>
if (not r2)=true then
some ((((0:Int),((0:Int),((0:Int),((0:Int),((0:Int),(d,())))))),([],())),((0:Int),(12:Int)))
else
if (r1.2 != (0:Int))=true then
some ((((0:Int),((0:Int),((0:Int),((0:Int),((0:Int),(d,())))))),([],())),((0:Int),(12:Int)))
else
if (decide ((wd .i64 (e - (41:Int)))<r1.1.2.2.2.2.1))=true then
some ((((0:Int),((0:Int),((0:Int),((0:Int),((0:Int),(d,())))))),([],())),((0:Int),(18:Int)))
else
gd (0≤(41:Int))<|
letI c:=(wd .i64 ((41:Int)+r1.1.2.2.2.2.1))
gd ((41:Int)≤c)<|
gd (c≤e)<|
letI f:=(wK ((wn c) - 41) (wW 41 a0))
gd ((we ([]++f))*1≤140737488355328)<|
some ((r1.1,(([]++f),())),(c,(0:Int)))):=CE
noncomputable def vGb:FN:={f:=70,cuts:=[],tab:=[SS vhb],fm:=⟨true,[.val qpa [], .val (.int .i64) [], .val (.int .i64) []]⟩}
noncomputable def qPi (a0:List Int):Option (qca×Int×Int):=vGb.call [(.sl (.int .u8) false a0)] []
theorem qxq (a0:List Int):qPi a0=(
if (decide ((wi (we a0))>(50000:Int)))=true then
some ((((0:Int),((0:Int),((0:Int),((0:Int),((0:Int),((wo 20 (0:Int)),())))))),([],())),((0:Int),(4:Int)))
else
(qWk a0).bind fun r1=>
some (r1)):=CE
noncomputable def vtc:FN:={f:=71,cuts:=[],tab:=[],fm:=⟨true,[.val .bool []]⟩}
noncomputable def qUk (a0:qga) (a1:qea):Option (Bool):=vtc.call [(.agg qsa (inj false qsa a0)),(.agg qka (inj false qka a1))] []
theorem qit (a0:qga) (a1:qea):qUk a0 a1=(
if (a0.2.1==a1.1)=true then
if (a0.2.2.1==a1.2.1)=true then
some (a0.2.2.2.1==a1.2.2.1)
else
some (false)
else
some (false)):=CE
noncomputable def vla:FN:={f:=38,cuts:=[⟨(8,3),[0,2,7,9,10,11,12],false,false,[],[],[]⟩],tab:=[SS vFb,SS vja,SS vGb,SS vtc],fm:=⟨true,[.val qJa [], .val (.slice qpa) [.nw], .val (.int .i64) []]⟩}
noncomputable def qTg (a0:List Int):Option (qza×List qca×Int):=vla.call [(.sl (.int .u8) false a0)] []
noncomputable def qvd (v0:List Int) (v7:Int) (v12:Int) (b8a:qia) (b8bbb:Unit) (b9a:qia) (b9bbb:Unit) (h10:List qca) (h11:List qea) (h12:List qaa) (h13:List qga) (h14:List qaa) (h15:List qga):Option (qza×List qca×Int):=vla.sem ⟨[.code (cIn (cIn (qba (qGa (qba (qba (qba (qba (qba (qba (qha wg 38))))))))))), .inLoop (cIn (cIn (qba (qGa (qba (qba (qba (qba (qba (qba (qha wg 38))))))))))), .inBlock 0, .code (qba (qba (qba (qba (qba (qba (qba (qha wg 38))))))))],⟨[(0,(.one (.sl (.int .u8) false v0))),(2,(.one (.ptr qJa 8 []))),(7,(.one (.int .i64 v7))),(9,(.one (.ptr qJa 9 []))),(10,(.one (.ref qpa 10 0 (we h10) true))),(11,(.one (.ref qka 11 0 (we h11) true))),(12,(.one (.int .i64 v12)))],[(8,some (.box qJa ((inj false qwa b8a),((SV.ref 12 0 (we h12) true),((SV.ref 13 0 (we h13) true),b8bbb))))),(9,some (.box qJa ((inj false qwa b9a),((SV.ref 14 0 (we h14) true),((SV.ref 15 0 (we h15) true),b9bbb))))),(10,some (.row qpa true h10)),(11,some (.row qka true h11)),(12,some (.row qfa true h12)),(13,some (.row qsa true h13)),(14,some (.row qfa true h14)),(15,some (.row qsa true h15))],16⟩⟩
theorem qqo (a0:List Int):qTg a0=(
(qNi a0).bind fun r1=>
if (r1.2.2.2 != (0:Int))=true then
some ((((0:Int),((0:Int),())),([],([],()))),([],r1.2.2.2))
else
(qSg r1.1 r1.2.1).bind fun r2=>
qvd a0 r1.2.2.1 (0:Int) ((0:Int),((0:Int),())) () r1.1 () [] r2 [] [] r1.2.1 []):=CE
theorem qzg (v0:List Int) (v7:Int) (v12:Int) (b8a:qia) (b8bbb:Unit) (b9a:qia) (b9bbb:Unit) (h10:List qca) (h11:List qea) (h12:List qaa) (h13:List qga) (h14:List qaa) (h15:List qga):qvd v0 v7 v12 b8a b8bbb b9a b9bbb h10 h11 h12 h13 h14 h15=(
letI d:=(wi (we v0))
letI c:=(wi (we h11))
if (decide (v12<c))=true then
gd (0≤v7)<|
gd (v7≤d)<|
(qPi (wW (wn v7) v0)).bind fun r3=>
if (r3.2.2 != (0:Int))=true then
some ((((0:Int),((0:Int),())),([],([],()))),([],r3.2.2))
else
gd (0≤v12)<|
gd (v12<c)<|
(qUk r3.1.1 (wk h11 (0+(wn v12)) (qqa qka))).bind fun r4=>
if (not r4)=true then
some ((((0:Int),((0:Int),())),([],([],()))),([],(32:Int)))
else
letI e:=(h15++[r3.1.1])
gd ((we e)*64≤140737488355328)<|
letI f:=(h10++[r3.1])
gd ((we f)*88≤140737488355328)<|
qvd v0 (wd .i64 (v7+r3.2.1)) (wd .i64 (v12+(1:Int))) b8a b8bbb b9a b9bbb f h11 h12 h13 h14 e
else
if (v7 != d)=true then
some ((((0:Int),((0:Int),())),([],([],()))),([],(12:Int)))
else
some ((b9a,(h14,(h15,b9bbb))),(h10,(0:Int)))):=SE
noncomputable def vCb:FN:={f:=16,cuts:=[],tab:=[SS vla],fm:=⟨true,[.val qJa [], .val (.int .i64) []]⟩}
noncomputable def qMi (a0:List Int):Option (qza×Int):=vCb.call [(.sl (.int .u8) false a0)] []
theorem qsq (a0:List Int):qMi a0=(
(qTg a0).bind fun r1=>
some (r1.1,r1.2.2)):=CE
noncomputable def vDa:FN:={f:=6,cuts:=[⟨(4,3),[0,3,5,6],false,false,[],[],[]⟩],tab:=[SS vCb],fm:=⟨true,[.val .bool []]⟩}
noncomputable def qKj (a0:List Int):Option (Bool):=vDa.call [(.sl (.int .u8) false a0)] []
noncomputable def qqd (v0:List Int) (v5:Int) (v6:Int) (b8:qza):Option (Bool):=vDa.sem ⟨[.code (cIn (cIn (qba (qGa (qba (qba (qba (qha wg 6)))))))), .inLoop (cIn (cIn (qba (qGa (qba (qba (qba (qha wg 6)))))))), .inBlock 0, .code (qba (qba (qba (qba (qha wg 6)))))],⟨[(0,(.one (.sl (.int .u8) false v0))),(3,(.one (.ptr qJa 8 []))),(5,(.one (.int .i64 v5))),(6,(.one (.int .i64 v6)))],[(8,some (.box qJa (inj true qJa b8)))],9⟩⟩
theorem qVr (a0:List Int):qKj a0=(
(qMi a0).bind fun r1=>
qqd a0 (0:Int) (0:Int) r1.1):=CE
theorem qwi (v0:List Int) (v5:Int) (v6:Int) (b8:qza):qqd v0 v5 v6 b8=(
letI c:=(wi (we b8.2.2.1))
if (decide (v6<c))=true then
gd (0≤v6)<|
gd (v6<c)<|
letI e:=(wd .i64 (v6+(1:Int)))
letI d:=(wk b8.2.2.1 (wn v6) (qqa qsa))
if (d.1==(2:Int))=true then
gd (0≤v6)<|
gd (v6<c)<|
qqd v0 (wd .i64 (v5+d.2.2.2.1)) e b8
else
qqd v0 v5 e b8
else
if (decide ((wi (we v0))≤(3000:Int)))=true then
some (decide (v5≤(80:Int)))
else
some (false)):=SE
noncomputable def bitloftlaw32_ExtractOne_I:FN:={f:=3,cuts:=[],tab:=[SS vyb,SS vDa,SS vQa,SS vZa,SS vya],fm:=⟨true,[.val .bool []]⟩}
noncomputable def qMe (a0:List Int) (a1:Int) (a2:Int) (a3:Int):Option (Bool):=bitloftlaw32_ExtractOne_I.call [(.sl (.int .u8) false a0),(.int .i64 a1),(.int .i64 a2),(.int .i64 a3)] []
theorem qdl (a0:List Int) (a1:Int) (a2:Int) (a3:Int):qMe a0 a1 a2 a3=(
(qti).bind fun r1=>
(qKj a0).bind fun r2=>
if (not r2)=true then
some (r1)
else
if (not r1)=true then
some (r1)
else
(qTb a0).bind fun r3=>
if (r3.2 != (0:Int))=true then
some (r1)
else
if (decide (a1<(0:Int)))=true then
some (r1)
else
letI d:=(wi (we r3.1))
if (decide (a1≥d))=true then
some (r1)
else
gd (0≤a1)<|
gd (a1<d)<|
letI c:=(wk r3.1 (0+(wn a1)) (qqa qua))
(qKe a0 c.1).bind fun r4=>
gd (0≤a1)<|
gd (a1<d)<|
gd (c.1.size+(wDa #[63]).size≤140737488355328)<|
(qKe a0 (c.1++(wDa #[63]))).bind fun r5=>
gd (0≤a1)<|
gd (a1<d)<|
gd (0≤a1)<|
gd (a1<d)<|
(qdd a0 c.1 a2 a3).bind fun r6=>
if (r4.2 != (0:Int))=true then
some (false)
else
gd (0≤a1)<|
gd (a1<d)<|
if (not ((wO r4.1.1)==(wO c.1)))=true then
some (false)
else
gd (0≤a1)<|
gd (a1<d)<|
if (not ((wO (qng r4.1.2.1))==(wO (qng c.2.1))))=true then
some (false)
else
letI k:=(decide (a3<a2))
letI j:=(r6.2==(0:Int))
letI i:=(decide (a2<(0:Int)))
letI g:=(r6.2==(2:Int))
letI f:=(wi (we c.2.1))
letI l:=(decide (a3>f))
letI e:=((wO (qng r6.1))==(wO (qng (wK ((wn a3) - (wn a2)) (wW (wn a2) c.2.1)))))
if (d==(1:Int))=true then
if (r5.2 != (6:Int))=true then
some (false)
else
if i=true then
if r1=true then
some g
else
some (false)
else
if k=true then
if r1=true then
some g
else
some (false)
else
if l=true then
if r1=true then
some g
else
some (false)
else
if r1=true then
if j=true then
gd (0≤a1)<|
gd (a1<d)<|
gd (0≤a2)<|
gd (a2≤a3)<|
gd (a3≤f)<|
some e
else
some (false)
else
some (false)
else
if i=true then
if r1=true then
some g
else
some (false)
else
if k=true then
if r1=true then
some g
else
some (false)
else
if l=true then
if r1=true then
some g
else
some (false)
else
if r1=true then
if j=true then
gd (0≤a1)<|
gd (a1<d)<|
gd (0≤a2)<|
gd (a2≤a3)<|
gd (a3≤f)<|
some e
else
some (false)
else
some (false)):=CE
end Go.Ab
