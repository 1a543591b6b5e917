/-
  An abstract machine over the model's code and its soundness; what the functions compute, as plain functions (printed by a program of this repo's own, checked here by the kernel); plain laws of them: part 5. Helper text, no statement of the claim stands here.
-/
import Derived.Test.YtdgenbliehokjaaGreatDoorTxtPd
import Derived.RangeFuncBox
import Derived.RangeFuncLeaves
import Derived.Shelf.Abstract
import Derived.WalkKit
import Derived.OwnWalkIn
import Derived.TacticsInMore
import Derived.LoopNIn
import Derived.LoopIn
open Bool renaming and_eq_true → wA
open ByteArray renaming empty → wD, toList → wja
open Go.IntKind renaming wrap → wd
open Go.Proofs.Tryz renaming prog → wg
open Go.Region renaming wanted → wtb
open Int renaming fdiv → wR, ofNat → wi, toNat → wo
open List renaming cons_append → wca, drop → wY, flatMap_cons → wUa, getD → wm, getElem?_eq_getElem → wx, length → we, length_append → wn, length_cons → wz, length_nil → wX, length_take → wM, mem_cons → wZ, nil_append → wV, replicate → wl, set → wC, size_toArray → wMa, take → wL, take_of_length_le → wQ
open Nat renaming le_trans → wma, lt_of_lt_of_le → wfa
open Option renaming bind_eq_some_iff → wib, bind_some → wq, isSome_iff_exists → wHa
open Option.some renaming injEq → wc
open Prod.mk renaming injEq → wk
/-
  codec.each: walked by hand, the rounds by the abstract machine.
-/
set_option linter.unusedVariables false
namespace Go.Ab
open Go Go.Proofs Go.RowKit Go.Shelf
attribute [local go_sem] Oper.semAt_some
def KpM (M:Nat→Prop) (W W':World):Prop:=∀p v,M p.block→W.cell? p=some v→W'.cell? p=some v
theorem KpM.refl (M:Nat→Prop) (W:World):KpM M W W:=fun _ _ _ h=>h
theorem KpM.trans {M:Nat→Prop} {A B C:World} (h:KpM M A B) (k:KpM M B C):KpM M A C:=fun p v hm hv=>k p v hm (h p v hm hv)
def qUR (z:Int) (j:Nat):Bool:=bits BinOp.and IntKind.u8 (z/2 ^ (7 - j)) 1==1
def qkA (z:Int):List Bool:=(List.range 8).map (qUR z)
def qMv (zs:List Int):List Bool:=zs.flatMap qkA
theorem qdt (z:Int):(qkA z).length=8:=by simp [qkA]
theorem qLy:∀(zs:List Int),(qMv zs).length=8*zs.length
 |[]=>rfl
 |z::r=>by
  have:=qLy r
  simp only [qMv,wUa,wn,qdt,wz] at this ⊢
  omega
theorem qZJ (z:Int) {j:Nat} (h:j<8):(qkA z).take (j+1)=(qkA z).take j++[qUR z j]:=by
 rw [List.take_succ_eq_append_getElem (by rw [qdt];exact h)]
 simp [qkA]
theorem qYJ (zs:List Int) {k:Nat} (h:k<zs.length):qMv (zs.take (k+1))=qMv (zs.take k)++qkA (zs[k]'h):=by
 unfold qMv
 rw [List.take_succ_eq_append_getElem h,List.flatMap_append]
 simp only [wUa,List.flatMap_nil,List.append_nil]
set_option maxRecDepth 100000 in
set_option maxHeartbeats 4000000 in
theorem qeO (n:Nat) (hn:1≤n) (l Bs Bo b off len cap:Nat) (zs:List Int) (hreach:len*8≤140737488351232) (M:Nat→Prop) (hM1:M Bs) (hM2:M b) (hl:zs.length=len) (J Jx:List Bool→World→Prop)
  (hY:∀pre x W,J pre W→pre.length<8*len→YieldAt Fence.wide (n - 1) wg l #[.bool x] W fun e W'=>
   (e= .returned (.bool true)∧J (pre++[x]) W'∧KpM M W W')∨(e= .returned (.bool false)∧Jx (pre++[x]) W'))
  (W:World) (hBs:W.cell? ⟨Bs,Bo,none⟩=some (.slice (some ⟨b,off,none⟩) len cap)) (hc:∀j,j<len→W.cell? ⟨b,off+j,none⟩=some (.int .u8 (zs[j]?.getD 0))) (h0:J [] W):
  CallsIn Fence.wide n wg 210 #[.func (.yield l) #[] #[], .pointer (some ⟨Bs,Bo,none⟩)] W fun e W'=>(∃v,e= .returned v)∧(J (qMv zs) W'∨∃pre,Jx pre W'):=by
 refine callsIn_of_wp Tryz.func210 rfl trivial ?_ rfl
 simp only [Tryz.ntmps210,wMa,wz,wX,Nat.reduceAdd,Nat.reduceSub,Array.replicate_succ,Array.replicate_zero,List.push_toArray,List.append_toArray,wV,wca]
 gi_wp2
 gi_loopw [8,4,5] (fun i c4 c5 wr=>∃k:Nat,k≤len∧i= .int .i64 k∧J (qMv (zs.take k)) wr∧KpM M W wr)
  (fun i _ _ _=>len - (intOf i).toNat)
 case atStart=>exact ⟨0,Nat.zero_le _,rfl,h0,KpM.refl _ _⟩
 case round=>
  obtain ⟨k,hk,rfl,hJs,hnx⟩:=hrel
  by_cases hlt:k<len
  ·have hk':k<zs.length:=by omega
   have hcx:wr.cell? ⟨b,off+k,none⟩=some (.int .u8 (zs[k]?.getD 0)):=hnx _ _ hM2 (hc k hlt)
   rw [wx hk'] at hcx
   simp only [Option.getD_some] at hcx
   have htake:=qYJ zs hk'
   generalize zs[k]=z at hcx htake
   gi_wp2
   gi_loopw [5] (fun c5 wr2=>∃j:Nat,j≤8∧c5= .int .i64 (7 - (j:Int))∧J (qMv (zs.take k)++(qkA z).take j) wr2∧KpM M W wr2) (fun c5 _=>(intOf c5+1).toNat)
   case atStart=>exact ⟨0,by omega,rfl,by simpa using hJs,hnx⟩
   case round=>
    obtain ⟨j,hj,rfl,hJq,hnx2⟩:=hrel
    by_cases hj8:j<8
    ·have hj0:(0:Int)≤7 - (j:Int):=by omega
     obtain ⟨fn,tmps,assign,body,hy,hR⟩:=hY _ (qUR z j) wr hJq (by rw [wn,qLy,wM,wM,qdt];omega)
     unfold qUR at hy
     gi_wp2
     refine hR.mono ?_
     rintro e W3 (⟨rfl,hJ3,hk3⟩|⟨rfl,hJx3⟩)
     ·gi_wp2
      go_roundw
      case rel=>
       refine ⟨j+1,by omega,?_,?_,hnx2.trans hk3⟩
       ·simp;omega
       ·rw [qZJ z hj8,←List.append_assoc];exact hJ3
      case measure=>simp [intOf];omega
     ·gi_wp2
      refine bodyPost_ret (results_none rfl _ _ _) rfl ?_
      exact ⟨⟨_,rfl⟩, .inr ⟨_,hJx3⟩⟩
    ·obtain rfl:j=8:=by omega
     gi_wp2
     go_roundw
     case rel=>
      refine ⟨k+1,by omega,by simp,?_,hnx2⟩
      rw [htake]
      have:(qkA z).take 8=qkA z:=wQ (by rw [qdt];omega)
      rw [←this];exact hJq
     case measure=>simp [intOf];omega
  ·obtain rfl:k=len:=by omega
   gi_wp2
   go_end0
   refine ⟨⟨_,rfl⟩, .inl ?_⟩
   rwa [wQ (by omega)] at hJs
set_option maxRecDepth 100000 in
set_option maxHeartbeats 4000000 in
theorem qJM (n:Nat) (l Bs Bo cap:Nat) (A0:Option Addr) (J:List Bool→World→Prop)
  (W:World) (hBs:W.cell? ⟨Bs,Bo,none⟩=some (.slice A0 0 cap)) (h0:J [] W):
  CallsIn Fence.wide n wg 210 #[.func (.yield l) #[] #[], .pointer (some ⟨Bs,Bo,none⟩)] W fun e W'=>(∃v,e= .returned v)∧J [] W':=by
 refine callsIn_of_wp Tryz.func210 rfl trivial ?_ rfl
 simp only [Tryz.ntmps210,wMa,wz,wX,Nat.reduceAdd,Nat.reduceSub,Array.replicate_succ,Array.replicate_zero,List.push_toArray,List.append_toArray,wV,wca]
 gi_wp2
 gi_loopw [8] (fun i wr=>i= .int .i64 0∧J [] wr) (fun _ _=>0)
 case atStart=>exact ⟨rfl,h0⟩
 case round=>
  obtain ⟨rfl,hJs⟩:=hrel
  gi_wp2
  go_end0
  exact ⟨⟨_,rfl⟩,hJs⟩
def qrP (w:World) (b:Nat) (A0:Option Addr) (zs:List Int):Prop:=zs=[]∨∃o,A0=some ⟨b,o,none⟩∧∀j,j<zs.length→w.cell? ⟨b,o+j,none⟩=some (.int .u8 (zs[j]?.getD 0))
theorem qXJ (n:Nat) (hn:1≤n) (Bs Bo b cap:Nat) (A0:Option Addr) (zs:List Int) (hreach:zs.length*8≤140737488351232) (M:Nat→Prop) (hM1:M Bs) (hM2:M b) (w:World) (h1:Bs<w.heap.size) (h2:b<w.heap.size)
  (hBs:w.cell? ⟨Bs,Bo,none⟩=some (.slice A0 zs.length cap)) (hc:qrP w b A0 zs):
  SeqStopsK Fence.wide n wg 210 #[.pointer (some ⟨Bs,Bo,none⟩)] (fun x:Bool=>#[.bool x]) (KpM M) (fun xs=>xs=qMv zs) (fun _=>True) (8*zs.length) w:=fun l J Jx W hW _ _ hY h0=>by
 have hBs':=(hW.cell (p:=⟨Bs,Bo,none⟩) h1).trans hBs
 rcases hc with rfl|⟨o,rfl,hc⟩
 ·refine (qJM n l Bs Bo cap A0 J W hBs' h0).mono ?_
  rintro e W' ⟨he,hj⟩
  exact ⟨he, .inl ⟨_,rfl,hj⟩⟩
 ·refine (qeO n hn l Bs Bo b o zs.length cap zs hreach M hM1 hM2 rfl J Jx hY W hBs' (fun j hj=>(hW.cell (p:=⟨b,o+j,none⟩) h2).trans (hc j hj)) h0).mono ?_
  rintro e W' ⟨he,hj|⟨pre,hj⟩⟩
  ·exact ⟨he, .inl ⟨_,rfl,hj⟩⟩
  ·exact ⟨he, .inr ⟨pre,trivial,hj⟩⟩
section each
@[reducible] def qad (x:qia) (l:List Bool) (e:Int) (c:qAa):St:=
 ⟨[(6, .one (.ptr (.slice .bool) 8 [])),(7, .one (.cptr 9))],[(0,some (.box (.int .i64) e)),(1,some (.box qya (inj false qya c))),(8,some (.box (.slice .bool) (.ref 10 0 l.length true))),(9,some (.cell (.func 160 [11,8,12]))),(10,some (.row .bool false l)),(11,some (.box qka (inj false qka x))),(12,some (.cell (.func 125 [0,1])))],15⟩
@[reducible] def qlq (x:qia) (l:List Bool) (e:Int) (c:qAa) (b:Bool):St:=
 ⟨(8, .one (.bool b))::(qad x l e c).tmps,(qad x l e c).heap,15⟩
@[reducible] def qnI (e:Int) (c:qAa):St:=⟨[],[(0,some (.box (.int .i64) e)),(1,some (.box qya (inj false qya c)))],10⟩
@[reducible] def qPl:Type:=qia×List Bool×Int×qAa
@[reducible] def qLA:Type:=Int×qAa
noncomputable def qPh (s:qPl) (b:Bool):Option qPl:=
 gd ((s.2.1++[b]).length*1≤140737488355328)<|
 if ((wi (s.2.1++[b]).length)==(2000:Int))=true then
  (qdh s.1 (s.2.1++[b]) s.2.2.1 s.2.2.2).bind fun r=>some (r.1,r.2.1,r.2.2.2.1,r.2.2.2.2)
 else some (s.1,s.2.1++[b],s.2.2.1,s.2.2.2)
noncomputable def qWi:List Bool→qPl→Option qPl
 |[],s=>some s
 |b::l,s=>(qPh s b).bind (qWi l)
theorem qQn:∀(l:List Bool) (b:Bool) (s:qPl),qWi (l++[b]) s=(qWi l s).bind fun t=>qPh t b
 |[],b,s=>by
  simp only [wV,qWi,wq]
  cases qPh s b <;> rfl
 |a::l,b,s=>by
  simp only [wca,qWi]
  cases qPh s a with
  |none=>rfl
  |some t=>exact qQn l b t
noncomputable def qek (x:qia) (b:List Int) (e:Int) (c:qAa):Option qLA:=
 gd (b.length*8≤140737488351232)<|
 gd (∀l:List Bool,l.length≤8*b.length→(qWi l (x,[],e,c)).isSome=true)<|
 (qWi (qMv b) (x,[],e,c)).bind fun s=>
 (qdh s.1 s.2.1 s.2.2.1 s.2.2.2).bind fun r=>some (r.2.2.2.1,r.2.2.2.2)
noncomputable def qXN:List (Summ wg GT):=[SS vbe,(SS vEb).dropping]
@[reducible] noncomputable def rg (cd:Code) (σ:St) (k:St→Tr):Tr:=qTo wg GT (qrh wg 124) [] qXN (qSS cd) false σ k
def stL:Pos→Option St:=fun s=>some s.st
def noL {R:Type}:Pos→Option R:=fun _=>none
def lf0 (σ:St):Tr:= .leaf ⟨[],σ⟩
def qON (ts:List Nat) (σ:St):Tr:=match keepSt σ ts true true with
 |some σ'=>lf0 σ'
 |none=> .dead
def qGL (σ:St):Tr:=if (qDe (qoD σ [6,7] true) 8==some 8)&&(qDe (qoD σ [6,7] true) 9==some 9) then qON [6,7] σ else .dead
@[reducible] noncomputable def eC0:Code:=qea wg 124
@[reducible] noncomputable def eC1:Code:=qaa eC0
@[reducible] noncomputable def eC2:Code:=qaa eC1
@[reducible] noncomputable def eC3:Code:=qaa eC2
@[reducible] noncomputable def eC4:Code:=qHa eC3
@[reducible] noncomputable def eR8:Code:=qaa eC3
@[reducible] noncomputable def eRF:Code:=cIn (qaa eC4)
@[reducible] noncomputable def eB:Code:=cIn (rfB eRF)
@[reducible] noncomputable def eB2:Code:=qaa eB
@[reducible] noncomputable def eB3:Code:=qaa eB2
@[reducible] def qzG (x:qia) (b:List Int):List AV:=[.agg qka (inj false qka x), .sl (.int .u8) false b, .func 125 [0,1]]
@[reducible] def qpy (e:Int) (c:qAa):List (Nat×Obj):=[(0, .box (.int .i64) e),(1, .box qya (inj false qya c))]
noncomputable def qmI (x:qia) (b:List Int) (e:Int) (c:qAa):Tr:=
 rg (qHa eC0) (st0 (qzG x b) (qpy e c)) fun σ=>rg (qHa eC1) σ fun σ=>rg (qHa eC2) σ fun σ=>rg (qHa eC4) σ lf0
def qlC (s:Pos):Option (List Int×St):=
 match s.st.look 11,qvb s.st.heap 64,keepSt s.st [6,7] true true with
 | .one (.func 210 [64]),some (.box t y),some σ'=>if h:t= .slice (.int .u8)∧qDe (qoD s.st [6,7] true) 64=none then (match (h.1▸y:qgf (.slice (.int .u8))) with
   | .pure false r=>some (r,σ')
   |_=>none) else none
 |_,_,_=>none
set_option maxRecDepth 100000 in
theorem qxG (x:qia) (b:List Int) (e:Int) (c:qAa):den qlC noL (qmI x b e c)=(qNA b).bind fun r=>some (r,qad x [] e c):=by kernel_rfl
noncomputable def qqy (σ:St):Tr:=rg (qHa eB) σ fun σ1=>rg (qHa eB2) σ1 fun σ2=>match σ2.look 19 with
 | .one (.bool b)=> .bit b (rg (qJQ eB3) σ2 qGL) (qGL σ2)
 |_=> .dead
set_option maxRecDepth 100000 in
theorem qCE (x:qia) (l:List Bool) (e:Int) (c:qAa) (b:Bool):den stL noL (qqy (qlq x l e c b))=(
gd ((l++[b]).length*1≤140737488355328)<|
if ((wi (l++[b]).length)==(2000:Int))=true then
(qdh x (l++[b]) e c).bind fun r=>some (qad r.1 r.2.1 r.2.2.2.1 r.2.2.2.2)
else some (qad x (l++[b]) e c)):=by kernel_rfl
set_option maxRecDepth 100000 in
theorem qyG (x:qia) (l:List Bool) (e:Int) (c:qAa):den stL noL (rg eR8 (qad x l e c) (qON []))=(qdh x l e c).bind fun r=>some (qnI r.2.2.2.1 r.2.2.2.2):=by kernel_rfl
end each
section each
theorem qAE {s s':qPl} {b:Bool} (h:qPh s b=some s'):den stL noL (qqy (qlq s.1 s.2.1 s.2.2.1 s.2.2.2 b))=some (qad s'.1 s'.2.1 s'.2.2.1 s'.2.2.2):=by
 rw [qCE]
 unfold qPh at h
 obtain ⟨h0,h⟩:=qAj h
 rw [qfa h0]
 split at h
 ·rename_i hc
  rw [if_pos hc]
  simp only [wib] at h
  obtain ⟨r,hr,h⟩:=h
  simp only [wc] at h;subst h
  rw [hr];rfl
 ·rename_i hc
  rw [if_neg hc]
  simp only [wc] at h;subst h
  rfl
theorem qgu (x:qia) (l:List Bool) (e:Int) (c:qAa):∀k o,qvb (qad x l e c).heap k=some o→qnJ o=true:=by
 intro k o h
 unfold qvb at h
 split at h
 ·rename_i ob hl
  subst h
  have:=qlc hl
  simp only [wZ,wk,List.not_mem_nil,or_false,wc] at this
  rcases this with ⟨_,rfl⟩|⟨_,rfl⟩|⟨_,rfl⟩|⟨_,rfl⟩|⟨_,rfl⟩|⟨_,rfl⟩|⟨_,rfl⟩ <;> rfl
 ·cases h
def qmR:Code→Option (Nat×Nat)
 | .region _ ops false=>match ops.toList with
   |[o]=>match o.op,o.dst,o.guard with
    | .assign (.tmp t),some d,none=>some (d,t)
    |_,_,_=>none
   |_=>none
 |_=>none
theorem qFR {F:Fence} (hF:∀f,F.fn f) {n:Nat} {P:Program} {cd:Code} {d t:Nat} (h:qmR cd=some (d,t)) {Kx:Act→World→Prop} {Q:Exit→Act→World→Prop} {a:Act} {w:World} (hk:Kx (a.put (some d) (a.eval (.tmp t))) w):
  cd.wpIn F n P (Exit.then Kx Q) a w:=by
 unfold qmR at h
 split at h
 ·rename_i id ops
  split at h
  ·rename_i o ho
   split at h
   ·rename_i t' d' h1 h2 h3
    simp only [wc,wk] at h
    obtain ⟨rfl,rfl⟩:=h
    have hops:ops=#[o]:=by apply Array.ext';simpa using ho
    subst hops
    refine wpIn_region ?_
    show wpOpsIn F n P #[o] _ [0] a w
    have hw:wtb o (yielded #[o] a.tmps)=true:=by unfold wtb;rw [h3]
    have hg:(#[o]:Array Oper)[0]?=some o:=rfl
    simp only [wpOpsIn,hg,hw,if_true]
    refine ⟨fun f _=>hF f,?_⟩
    rw [Oper.semAt_eq _ _ _ (by rw [h1];intro c hc;cases hc)]
    have:(execOp a.eval o).run P w= .ok (.value (a.eval (.tmp t'))) w:=by simp [execOp,h1]
    rw [this]
    show Exit.then Kx Q .normal (a.put o.dst _) w
    rw [h2];exact hk
   ·cases h
  ·cases h
 ·cases h
theorem qzK {P:Program} {GT:qmi} {f:Nat} {fn:Func} {args:List AV} {pre:List (Nat×Obj)} {w:World} {F G:Nat→Prop} {K:Kn} {vs:List Value} (hf:P.funcs[f]?=some fn) (hnt:args.length≤fn.ntmps) (hp:pre.all (fun p=>decide (p.1<8))=true)
  (hglob:Glob P GT w) (hinv:Inv ⟨w,F,G,(ngOf GT),[]⟩ (lookL pre) K w) (hK:∀l,lookL pre l=none→K l=none) (hargs:VRdL w (NN ⟨w,F,G,(ngOf GT),[]⟩ (lookL pre) K w) K args vs):
  RelS ⟨w,F,G,(ngOf GT),[]⟩ P GT (qrh P f) (st0 args pre) K {tmps:=vs.toArray++Array.replicate (fn.ntmps - vs.toArray.size) undef,defers:=[]} w:=by
 have hlen:=hargs.len
 have htf:qrh P f=fn.ntmps:=by simp [qrh,hf]
 rw [htf]
 refine ⟨⟨?_,fun t=>?_,?_,rfl,hglob.1,rfl,hglob⟩,fun l hl=>?_⟩
 ·show Inv _ (qvb (qRc pre)) K w
  rw [qdk];exact hinv
 ·show TVRd w (NN _ (qvb (qRc pre)) K w) K _ _
  rw [qdk]
  simp only [St.look,st0,qRt,Nat.zero_le,if_true,Nat.sub_zero]
  cases ht:args[t]? with
  |none=>trivial
  |some v=>
   simp only [Option.map_some]
   obtain ⟨u,hu,hr⟩:=hargs.get ht
   have:({tmps:=vs.toArray++Array.replicate (fn.ntmps - vs.toArray.size) undef,defers:=[]}:Act).eval (.tmp t)=u:=by
    have htl:t<vs.length:=(List.getElem?_eq_some_iff.1 hu).1
    simp only [Act.eval,Array.getD_eq_getD_getElem?]
    rw [Array.getElem?_append_left (by simpa using htl)]
    simp [hu]
   rw [this];exact hr
 ·simp only [Array.size_append,wMa,Array.size_replicate]
  omega
 ·refine hK l (qTm (fun hm=>?_))
  obtain ⟨p,h1,h2⟩:=List.mem_map.1 hm
  have:=List.all_eq_true.1 hp p h1
  simp only [decide_eq_true_eq] at this
  have h15:(st0 args pre).next≤l:=hl
  have:(st0 args pre).next=8:=rfl
  omega
theorem qGA {ts:List Nat} {σ σ':St} (h:den stL noL (qON ts σ)=some σ'):keepSt σ ts true true=some σ':=by
 unfold qON at h
 split at h
 ·rename_i σ1 h1
  simp only [lf0,den,stL,wc] at h
  subst h;exact h1
 ·cases h
theorem qwJ {σ σ':St} (h:den stL noL (qGL σ)=some σ'):keepSt σ [6,7] true true=some σ'∧qDe (qoD σ [6,7] true) 8=some 8∧qDe (qoD σ [6,7] true) 9=some 9:=by
 unfold qGL at h
 split at h
 ·rename_i hc
  simp only [wA,beq_iff_eq] at hc
  exact ⟨qGA h,hc⟩
 ·cases h
variable {c0:Cx}
def qhF (c0:Cx) (s s':qPl) (K:Kn) (a:Act) (W W':World):Prop:=
 KeepsOthers W W'∧(∀b,NN c0 (qvb (qad s.1 s.2.1 s.2.2.1 s.2.2.2).heap) K W false b→W'.heap[b]?=W.heap[b]?)∧
 ∃K',RelS c0 wg GT (qrh wg 124) (qad s'.1 s'.2.1 s'.2.2.1 s'.2.2.2) K' a W'∧(∀l,l<8→∀gh,K l=some gh→K' l=some gh)∧
  ∀b,NN c0 (qvb (qad s.1 s.2.1 s.2.2.1 s.2.2.2).heap) K W false b→NN c0 (qvb (qad s'.1 s'.2.1 s'.2.2.1 s'.2.2.2).heap) K' W' false b
theorem qZq {s s':qPl} {b:Bool} {K K2:Kn} {a a1 a2:Act} {W W':World} {σ2:St} (R0:RelS c0 wg GT (qrh wg 124) (qad s.1 s.2.1 s.2.2.1 s.2.2.2) K a W)
  (R8:RelS c0 wg GT (qrh wg 124) (qlq s.1 s.2.1 s.2.2.1 s.2.2.2 b) K a1 W) (hG:∀b,c0.G b→qqc (qvb (qad s.1 s.2.1 s.2.2.1 s.2.2.2).heap) K b)
  (h:den stL noL (qGL σ2)=some (qad s'.1 s'.2.1 s'.2.2.1 s'.2.2.2)) (hsz:W.heap.size≤W'.heap.size) (R2:RelS c0 wg GT (qrh wg 124) σ2 K2 a2 W')
  (hk:KeepK W W' (NN c0 (qvb (qlq s.1 s.2.1 s.2.2.1 s.2.2.2 b).heap) K W) (NN c0 (qvb σ2.heap) K2 W') K K2):qhF c0 s s' K a W W':=by
 obtain ⟨h1,h2,h3⟩:=qwJ h
 obtain ⟨K',R',g1,g2,g3,_⟩:=R2.keepSt h1
 refine ⟨hk.others R8 R2 (qgu _ _ _ _) hG hsz,fun b hb=>((hk.n false).k b hb).2,K',?_,fun l hl gh hgh=>?_,fun b hb=>g2 b ((hk.n false).k b hb).1⟩
 ·have ha:a.tmps.size=a2.tmps.size:=R0.rel.size.trans R2.rel.size.symm
  refine R'.act (σ':=qad s'.1 s'.2.1 s'.2.2.1 s'.2.2.2) rfl rfl ha (R0.rel.defers.trans R2.rel.defers.symm) (fun t=>?_)
  have h0:=R0.rel.tmps t
  simp only [St.look,lookL] at h0 ⊢
  by_cases h6:6=t
  ·subst h6
   simp only [if_true] at h0 ⊢
   obtain ⟨gh,pl,po,k1,k2⟩:=h0
   exact ⟨gh,pl,po,(g3 8 8 h2).trans (hk.k 8 gh k1),k2⟩
  ·simp only [h6,if_false] at h0 ⊢
   by_cases h7:7=t
   ·subst h7
    simp only [if_true] at h0 ⊢
    obtain ⟨sh,pl,k1,k2⟩:=h0
    exact ⟨sh,pl,(g3 9 9 h3).trans (hk.k 9 _ k1),k2⟩
   ·simp only [h7,if_false]
    trivial
 ·rw [g1 l hl];exact hk.k l gh hgh
theorem qHJ {l n:Nat} {s s':qPl} {b:Bool} (hstep:qPh s b=some s') {K:Kn} {a a1:Act} {W:World} (R0:RelS c0 wg GT (qrh wg 124) (qad s.1 s.2.1 s.2.2.1 s.2.2.2) K a W)
  (R8:RelS c0 wg GT (qrh wg 124) (qlq s.1 s.2.1 s.2.2.1 s.2.2.2 b) K a1 W) (hG:∀b,c0.G b→qqc (qvb (qad s.1 s.2.1 s.2.2.1 s.2.2.2).heap) K b)
  {Q:Exit→Act→World→Prop} (hQ:∀a' W',qhF c0 s s' K a W W'→Q .normal a' W'):(rfB eRF).wpIn (Fence.wide.inRound l) n wg Q a1 W:=by
 have h0:=qAE hstep
 unfold qqy at h0
 refine qVE (by kernel_rfl) ?_
 refine qkr (by kernel_rfl) ?_
 refine qUo (fun _=>trivial) rfl qqF (fun f hf=>by cases hf) (by kernel_rfl) h0 R8 ?_
 intro σ1 K1 a2 W1 h1 R1 z1 k1
 show Code.wpIn _ _ _ (qaa (cIn (rfB eRF))) _ a2 W1
 refine qkr (by kernel_rfl) ?_
 refine qUo (fun _=>trivial) rfl qqF (fun f hf=>by cases hf) (by kernel_rfl) h1 R1 ?_
 intro σ2 K2 a3 W2 h2 R2 z2 k2
 show Code.wpIn _ _ _ (qaa (qaa (cIn (rfB eRF)))) _ a3 W2
 split at h2
 ·rename_i bv hbv
  have he:a3.eval (qpQ (qaa (qaa (cIn (rfB eRF)))))= .bool bv:=by
   have h19:qpQ (qaa (qaa (cIn (rfB eRF))))= .tmp 19:=by kernel_rfl
   rw [h19]
   have:=R2.rel.tmps 19
   rw [hbv] at this
   exact this
  refine qbO (by kernel_rfl) he ?_
  simp only [den] at h2
  by_cases hb:bv=true
  ·subst hb
   simp only [if_true] at h2 ⊢
   refine qUo (fun _=>trivial) rfl qqF (fun f hf=>by cases hf) (by kernel_rfl) h2 R2 ?_
   intro σ3 K3 a4 W3 h3 R3 z3 k3
   exact hQ _ _ (qZq R0 R8 hG h3 (wma z1 (wma z2 z3)) R3 ((k1.trans k2).trans k3))
  ·simp only [Bool.not_eq_true] at hb;subst hb
   simp only [Bool.false_eq_true,if_false] at h2 ⊢
   have hsk:qWS (qaa (qaa (cIn (rfB eRF))))= .skip:=by kernel_rfl
   rw [hsk]
   exact wpIn_skip (hQ _ _ (qZq R0 R8 hG h2 (wma z1 z2) R2 (k1.trans k2)))
 ·cases h2
theorem qkC {s:Pos} {b:List Int} {σ':St} (h:qlC s=some (b,σ')):s.st.look 11= .one (.func 210 [64])∧qvb s.st.heap 64=some (.box (.slice (.int .u8)) (.pure false b))∧keepSt s.st [6,7] true true=some σ'∧qDe (qoD s.st [6,7] true) 64=none:=by
 unfold qlC at h
 split at h
 ·rename_i t y σ1 h1 h2 h3
  split at h
  ·rename_i ht
   obtain ⟨rfl,hn⟩:=ht
   split at h
   ·rename_i r hr
    simp only [wc,wk] at h
    obtain ⟨rfl,rfl⟩:=h
    simp only at hr
    subst hr
    exact ⟨h1,h2,h3,hn⟩
   ·cases h
  ·cases h
 ·cases h
@[reducible] def qry (a:Act) (b:Bool):Act:=({tmps:=a.tmps.setIfInBounds 12 (.bool b),defers:=[]}:Act).put (some 8) (.bool b)
theorem qhM {s:qPl} {b:Bool} {K:Kn} {a:Act} {W:World} (hd:c0.df=[]) (R0:RelS c0 wg GT (qrh wg 124) (qad s.1 s.2.1 s.2.2.1 s.2.2.2) K a W):
  RelS c0 wg GT (qrh wg 124) (qlq s.1 s.2.1 s.2.2.1 s.2.2.2 b) K (qry a b) W:=by
 have hnt:qrh wg 124=24:=by kernel_rfl
 have hs:a.tmps.size=24:=R0.rel.size.trans hnt
 refine R0.act rfl rfl (by simp [Act.put]) (by simp [Act.put];rw [R0.rel.defers,hd]) (fun t=>?_)
 have h0:=R0.rel.tmps t
 simp only [St.look,lookL] at h0 ⊢
 by_cases h8:8=t
 ·subst h8
  simp only [if_true]
  show (qry a b).eval (.tmp 8)= .bool b
  simp [Act.eval,Act.put,hs]
 ·simp only [h8,if_false]
  by_cases h6:6=t
  ·subst h6
   simp only [if_true] at h0 ⊢
   have:(qry a b).eval (.tmp 6)=a.eval (.tmp 6):=by simp [Act.eval,Act.put,hs]
   rw [this];exact h0
  ·simp only [h6,if_false] at h0 ⊢
   by_cases h7:7=t
   ·subst h7
    simp only [if_true] at h0 ⊢
    have:(qry a b).eval (.tmp 7)=a.eval (.tmp 7):=by simp [Act.eval,Act.put,hs]
    rw [this];exact h0
   ·simp only [h7,if_false]
    trivial
end each
section each
theorem qfR (e:Int) (c:qAa):qvb (qnI e c).heap=lookL [(0, .box (.int .i64) e),(1, .box qya (inj false qya c))]:=by
 rw [←qdk];rfl
set_option maxRecDepth 100000 in
theorem qiM {x:qia} {b:List Int} {e:Int} {c:qAa} {r:qLA} (h:qek x b e c=some r):
  CallOK wg GT 124 (qzG x b) (qpy e c) (.tup []) [(0, .box (.int .i64) r.1),(1, .box qya (inj false qya r.2))]:=by
 unfold qek at h
 obtain ⟨hlen,h⟩:=qAj h
 obtain ⟨hall,h⟩:=qAj h
 simp only [wib] at h
 obtain ⟨sf,hsf,rf,hrf,h⟩:=h
 simp only [wc] at h;subst h
 intro w F G K0 vs hglob hinv hG hK hF hargs
 have hlenv:=hargs.len
 have hfn:qbQ wg 124 3=true:=by kernel_rfl
 have hf:=Tryz.func124
 generalize hfg:Tryz.f124=fn at hf
 clear hfg
 unfold qbQ at hfn
 rw [hf] at hfn
 simp only [wA,Bool.not_eq_true',decide_eq_true_eq] at hfn
 obtain ⟨⟨hbd,hnm⟩,hnt⟩:=hfn
 obtain ⟨body,hb⟩:=wHa.1 hbd
 have hbody:body=eC0:=by simp [eC0,qea,hf,hb]
 have hcf:(callFunc 124 vs.toArray).run wg w= .ok (.enter 124 vs.toArray) w:=by
  have hnm':¬fn.name= "runtime.NumGoroutine" :=by simpa using hnm
  simp [callFunc,hf,hnm',hb]
 unfold qer
 rw [hcf]
 have R0:=qzK (args:=qzG x b) (pre:=qpy e c) hf hnt rfl hglob hinv hK hargs
 refine (callsIn_wide (n:=3)).1 (callsIn_of_wp_marks hf hb trivial ?_ rfl)
 rw [hbody]
 have hG0:∀q,(⟨w,F,G,(ngOf GT),[]⟩:Cx).G q→qqc (lookL (qpy e c)) K0 q:=hG
 have hpost:∀v w',(∃K',(∀l gh,K0 l=some gh→K' l=some gh)∧Inv ⟨w,F,G,(ngOf GT),[]⟩ (lookL [(0, .box (.int .i64) rf.2.2.2.1),(1, .box qya (inj false qya rf.2.2.2.2))]) K' w'∧
   TVRd w' (NN ⟨w,F,G,(ngOf GT),[]⟩ (lookL [(0, .box (.int .i64) rf.2.2.2.1),(1, .box qya (inj false qya rf.2.2.2.2))]) K' w') K' (.tup []) v)→(∃v',Ending.returned v= .returned v'∧(∃K',(∀l gh,K0 l=some gh→K' l=some gh)∧Inv ⟨w,F,G,(ngOf GT),[]⟩ (lookL [(0, .box (.int .i64) rf.2.2.2.1),(1, .box qya (inj false qya rf.2.2.2.2))]) K' w'∧
   TVRd w' (NN ⟨w,F,G,(ngOf GT),[]⟩ (lookL [(0, .box (.int .i64) rf.2.2.2.1),(1, .box qya (inj false qya rf.2.2.2.2))]) K' w') K' (.tup []) v')):=fun v w' hh=>⟨v,rfl,hh⟩
 have hK8:∀l,8≤l→K0 l=none:=by
  intro l hl
  refine hK l (qTm (fun hm=>?_))
  simp at hm;omega
 generalize hc0:(⟨w,F,G,(ngOf GT),[]⟩:Cx)=c0 at R0 hG0 hpost
 have hdf:c0.df=[]:=by rw [←hc0]
 have hw0:c0.w0=w:=by rw [←hc0]
 have hpre:=qxG x b e c
 rw [qEC] at hpre
 simp only [wq] at hpre
 unfold qmI at hpre
 refine qkr (by kernel_rfl) ?_
 refine qUo (fun _=>trivial) rfl qZr (fun f hf=>by cases hf) (by kernel_rfl) hpre R0 ?_
 intro σ1 K1 a1 W1 h1 R1 z1 k1
 show Code.wpIn _ _ _ eC1 _ a1 W1
 refine qkr (by kernel_rfl) ?_
 refine qUo (fun _=>trivial) rfl qZr (fun f hf=>by cases hf) (by kernel_rfl) h1 R1 ?_
 intro σ2 K2 a2 W2 h2 R2 z2 k2
 show Code.wpIn _ _ _ eC2 _ a2 W2
 refine qkr (by kernel_rfl) ?_
 refine qUo (fun _=>trivial) rfl qZr (fun f hf=>by cases hf) (by kernel_rfl) h2 R2 ?_
 intro σ3 K3 a3 W3 h3 R3 z3 k3
 show Code.wpIn _ _ _ eC3 _ a3 W3
 refine qkr (by kernel_rfl) ?_
 refine qkr (by kernel_rfl) ?_
 refine qUo (fun _=>trivial) rfl qZr (fun f hf=>by cases hf) (by kernel_rfl) h3 R3 ?_
 intro σ4 K4 a4 W4 h4 R4 z4 k4
 show Code.wpIn _ _ _ (qaa eC4) _ a4 W4
 refine qVE (by kernel_rfl) ?_
 have hrf0:cIn (qaa eC4)= .rangeFunc (rfF eRF) (rfP eRF) (rfA eRF) (rfB eRF):=rfC (c:=eRF) (by kernel_rfl)
 rw [hrf0]
 simp only [lf0,den] at h4
 obtain ⟨l11,l64,hkp,hn64⟩:=qkC h4
 simp only at l11 l64 hkp hn64
 have hsz4:w.heap.size≤W4.heap.size:=wma z1 (wma z2 (wma z3 z4))
 have t11:=R4.rel.tmps 11
 rw [l11] at t11
 obtain ⟨us,t1,gh,p,ur,g1,g2,t2,t3⟩:=t11
 simp only [capsRd] at t3
 subst t3;subst t2
 obtain ⟨gh',e1,e2,p',cs,e3,e4,e5⟩:=R4.rel.inv.objs 64 _ l64
 rw [g1] at e1;injection e1 with e1;subst e1
 rw [g2] at e3;injection e3 with e3;subst e3
 obtain ⟨A0,cap,rfl,hle,hbytes⟩:=e5
 have hBs:W4.cell? ⟨p.blk,p.ob,none⟩=some (.slice A0 b.length cap):=by simpa using e4.cells 0 _ rfl
 have hpb:=(R4.rel.inv.own 64 _ gh p l64 g1 (.inl g2)).1
 obtain ⟨K5,R5,q1,q2,q3,q4⟩:=R4.keepSt hkp
 have hNB:NN c0 (qvb (qad x [] e c).heap) K5 W4 false p.blk:=q4 64 _ gh p hn64 l64 g1 (.inl g2)
 obtain ⟨bb,hH,hNb⟩:∃bb,qrP W4 bb A0 b∧NN c0 (qvb (qad x [] e c).heap) K5 W4 false bb:=by
  rcases hbytes with rfl|⟨b',o,cl,hA,hN,hc,hcat⟩
  ·exact ⟨p.blk, .inl rfl,hNB⟩
  ·refine ⟨b', .inr ⟨o,hA,fun j hj=>?_⟩,q2 b' hN⟩
   have hcl:=qYi hcat
   refine hc j _ ?_
   rw [hcl,List.getElem?_map,wx hj];rfl
 have hK05:∀l,l<8→∀g,K0 l=some g→K5 l=some g:=fun l hl g hg=>by rw [q1 l hl];exact (((k1.trans k2).trans k3).trans k4).k l g hg
 have hG5:∀(s:qPl) (K:Kn),(∀l,l<8→∀g,K0 l=some g→K l=some g)→∀q,c0.G q→qqc (qvb (qad s.1 s.2.1 s.2.2.1 s.2.2.2).heap) K q:=by
  intro s K hk q hq
  obtain ⟨l,o,g,pp,h1,h2,h3,h4⟩:=hG0 q hq
  have hm:=qlc h1
  simp only [qpy,wZ,wk,List.not_mem_nil,or_false] at hm
  rcases hm with ⟨rfl,_⟩|⟨rfl,_⟩
  ·exact ⟨0,_,g,pp,rfl,hk 0 (by omega) g h2,h3,h4⟩
  ·exact ⟨1,_,g,pp,rfl,hk 1 (by omega) g h2,h3,h4⟩
 have hps:rfP eRF=#[12]:=by kernel_rfl
 refine wpIn_rangeFunc_ownF (α:=Bool) rfl (by omega) (gf:=210) (lb:=#[.pointer (some ⟨p.blk,p.ob,none⟩)]) ?hg trivial ?eg (encs:=fun x:Bool=>#[.bool x]) (Kp:=KpM (fun q=>q=p.blk∨q=bb)) (S:=fun xs=>xs=qMv b) (Sp:=fun _=>True) (N:=8*b.length) (w0:=W4)
  (qXJ (3 - 1) (by omega) p.blk p.ob bb cap A0 b hlen _ (.inl rfl) (.inr rfl) W4 hpb hNb.1 hBs hH) (fun h k=>h.trans k) ?hKb (Below.refl _ _) ?hps
  (fun pre W=>∃s K,qWi pre (x,[],e,c)=some s∧RelS c0 wg GT (qrh wg 124) (qad s.1 s.2.1 s.2.2.1 s.2.2.2) K a4 W∧(∀l,l<8→∀g,K0 l=some g→K l=some g)∧
   NN c0 (qvb (qad s.1 s.2.1 s.2.2.1 s.2.2.2).heap) K W false p.blk∧NN c0 (qvb (qad s.1 s.2.1 s.2.2.1 s.2.2.2).heap) K W false bb)
  (fun _ _ _=>False) ?hI (fun _ _ _ _ _ h _ _=>h) ?h0 (fun bit=>qry a4 bit) ?assign ?body ?done ?stop
 case hg=>
  have h11:rfF eRF= .tmp 11:=by kernel_rfl
  rw [h11,t1]
 case eg=>exact enters_of Tryz.func210 (by kernel_rfl) rfl
 case hKb=>
  intro W l o o' _ ho hoc _ q v _ hv
  exact cell_kept hv (grownBy_putObj' W l o') (fun r e=>by cases e;exact ⟨o,ho,hoc⟩)
 case hps=>intro x;rw [hps];rfl
 case hI=>
  rintro pre W W' row ⟨s,K,hs,R,hk,n1,n2⟩ hg hr
  refine ⟨s,K,hs,R.abide hg (fun r e=>⟨?_,(hr r e).2⟩) (qgu _ _ _ _),hk,⟨wfa n1.1 hg.size,n1.2⟩,⟨wfa n2.1 hg.size,n2.2⟩⟩
  rw [hw0]
  exact wma hsz4 (hr r e).1
 case h0=>exact ⟨(x,[],e,c),K5,rfl,R5,hK05,hNB,hNb⟩
 case assign=>
  intro l bit W Kx hKx
  rw [hps]
  refine qFR (fun _=>trivial) (d:=8) (t:=12) (by kernel_rfl) ?_
  have hsz:a4.tmps.size=24:=R4.rel.size.trans (by kernel_rfl)
  have:({tmps:=(#[12].zip #[Value.bool bit]).foldl (fun t (x:Nat×Value)=>t.setIfInBounds x.1 x.2) a4.tmps,defers:=[]}:Act).eval (.tmp 12)= .bool bit:=by
   simp [Act.eval,hsz]
  rw [this]
  simpa using hKx
 case body=>
  rintro l pre bit W ⟨s,K,hs,R,hk,n1,n2⟩ hlt
  have hok:=hall (pre++[bit]) (by simp;omega)
  rw [qQn,hs] at hok
  simp only [wq] at hok
  obtain ⟨s',hstep⟩:=wHa.1 hok
  refine qHJ hstep R (qhM hdf R) (hG5 s K hk) ?_
  rintro a' W' ⟨hko,hsame,K',R',hm,hn⟩
  refine ⟨hko,fun q v hq hv=>?_,s',K',by rw [qQn,hs];exact hstep,R',fun l hl g hg=>hm l hl g (hk l hl g hg),hn _ n1,hn _ n2⟩
  rw [World.cell?_of_block (a:=q) (hsame q.block (by rcases hq with hq|hq <;> rw [hq] <;> assumption))]
  exact hv
 case stop=>rintro D cd pre W _ _ h _;exact h.elim
 case done=>
  rintro D xs W hD rfl ⟨s,K,hs,R,hk,n1,n2⟩ hdef
  rw [hs] at hsf
  simp only [wc] at hsf;subst hsf
  have hend:=qyG s.1 s.2.1 s.2.2.1 s.2.2.2
  rw [hrf] at hend
  simp only [wq] at hend
  have had:a4.defers=[]:=R4.rel.defers.trans hdf
  rw [had]
  have Rd:=R.df [{target:= .collected D,args:=#[]}]
  show Code.wpIn _ _ _ eR8 _ _ W
  refine qUo (fun _=>trivial) rfl qZr (fun f hf=>by cases hf) (by kernel_rfl) hend Rd ?_
  intro σ6 K6 a6 W6 h6 R6 z6 k6
  have hk6:=qGA h6
  obtain ⟨K7,R7,r1,_⟩:=R6.keepSt hk6
  have hD6:W6.heap[D]?=some (.deferred (some [])):=(k6.others Rd R6 (qgu _ _ _ _) (hG5 s K hk) z6).same D _ hdef rfl
  show LeavesInM _ _ _ fn a6.tmps _ a6.defers .returning W6
  rw [R6.rel.defers]
  refine ⟨by simp, .inl ⟨D,_,rfl,run_takeDeferred hD6,?_⟩⟩
  have R8:=R7.abide (grownBy_putObj' W6 D (.deferred none)) (fun r hr=>by
   injection hr with hr;subst hr
   exact ⟨by show c0.w0.heap.size≤D;rw [hw0];exact wma hsz4 hD,_,hD6,rfl⟩) (fun k o hk=>by
   unfold qvb at hk
   split at hk
   ·rename_i ob hl
    subst hk
    have:=qlc hl
    simp only [wZ,wk,List.not_mem_nil,or_false,wc] at this
    rcases this with ⟨_,rfl⟩|⟨_,rfl⟩ <;> rfl
   ·cases hk)
  have hrs:fn.results.toList=[]:=by
   have:qCP wg 124=[]:=by kernel_rfl
   simpa [qCP,hf] using this
  obtain ⟨v,hv1,hv2⟩:=qpH R8 (fn:=fn) (res:= .tup []) (by rw [hrs];rfl)
  refine ⟨v,hv1,hpost v _ ⟨K7,fun l g hg=>?_,?_,?_⟩⟩
  ·by_cases hl:l<8
   ·rw [r1 l hl];exact k6.k l g (hk l hl g hg)
   ·rw [hK8 l (by omega)] at hg;cases hg
  ·have:=R8.rel.inv
   rw [qfR] at this
   have:=this.df []
   rw [hc0] at*
   rw [←hdf] at this
   exact this
  ·exact hv2
noncomputable def qTn (avs:List AV) (pre:List (Nat×Obj)):Option qLA:=
 match avs,pre with
 |[.agg t x, .sl t2 fr b, .func g [0,1]],[(0, .box t3 e),(1, .box t4 c)]=>
  if h:t=qka∧t2= .int .u8∧fr=false∧g=125∧t3= .int .i64∧t4=qya then
   match unj qka (h.1▸x),unj qya (h.2.2.2.2.2▸c) with
   |some x',some c'=>if qht false qka (h.1▸x)&&qht false qya (h.2.2.2.2.2▸c) then qek x' (h.2.1▸b:List (pden (.int .u8))) (h.2.2.2.2.1▸e:qgf (.int .i64)) c' else none
   |_,_=>none
  else none
 |_,_=>none
def qBE (r:qLA):List (Nat×Obj):=[(0, .box (.int .i64) r.1),(1, .box qya (inj false qya r.2))]
set_option maxRecDepth 100000 in
theorem qDC {avs:List AV} {pre:List (Nat×Obj)} {r:qLA} (h:qTn avs pre=some r):CallOK wg GT 124 avs pre (.tup []) (qBE r):=by
 unfold qTn at h
 split at h
 ·rename_i t x t2 fr b g t3 e t4 c
  split at h
  ·rename_i hh
   obtain ⟨rfl,rfl,rfl,rfl,rfl,rfl⟩:=hh
   split at h
   ·rename_i x' c' hx hc
    split at h
    ·rename_i hf
     simp only [wA] at hf
     have ex:=qRx hx hf.1
     have ec:=qRx hc hf.2
     simp only at ex ec h
     have:=qiM h
     rw [←ex,←ec]
     exact this
    ·cases h
   ·cases h
  ·cases h
 ·cases h
end each
end Go.Ab

set_option linter.unusedVariables false
set_option maxRecDepth 20000
namespace Go.Ab
open Go Go.Proofs
noncomputable def qPE (acc:List AV→Bool):Summ wg GT:={f:=124,acc:=acc,rows:=false,nils:=false,R:=qLA,fn:=qTn,res:=fun _=> .tup [],post:=qBE,drop:=false,ok:=fun _ _ _ h=>qDC h}
noncomputable def vDd:FN:={f:=165,cuts:=[],tab:=[SS ve],fm:=⟨true,[.val (.slice (.int .u8)) [.nw]]⟩}
noncomputable def qny (a0:qAa):Option (List Int):=vDd.call [(.agg qya (inj false qya a0))] []
theorem qSz (a0:qAa):qny a0=(
(qxb a0.2.2.1).bind fun r1=>
gd (0≤(24:Int))<|
gd (0≤(16:Int))<|
gd (0≤(8:Int))<|
letI c:=(r1++[(wd .u8 (wR a0.1 (16777216:Int))),(wd .u8 (wR a0.1 (65536:Int))),(wd .u8 (wR a0.1 (256:Int))),(wd .u8 a0.1)])
gd ((we c)*1≤140737488355328)<|
some c):=CE
noncomputable def vTd:FN:={f:=127,cuts:=[],tab:=[SS vjb,SS vDd],fm:=⟨true,[.val (.slice (.int .u8)) [.nw], .val (.int .i64) []]⟩}
noncomputable def qLr (a0:qAa):Option (List Int×Int):=vTd.call [(.agg qya (inj false qya a0))] []
theorem qVz (a0:qAa):qLr a0=(
(qWj a0).bind fun r1=>
if (r1 != (0:Int))=true then
some ([],r1)
else
if (decide ((wi (we a0.2.2.1))>(19996:Int)))=true then
some ([],(4:Int))
else
(qny a0).bind fun r2=>
some (r2,(0:Int))):=CE
noncomputable def ved:FN:={f:=80,cuts:=[],tab:=[(SS vec).dropping,SS vzd,(qPE (fun _=>true)).dropping,SS vTd],fm:=⟨true,[.val (.slice (.int .u8)) [.nw], .val (.int .i64) []]⟩}
noncomputable def qBp (a0:Int) (a1:List Int):Option (List Int×Int):=ved.call [(.int .i64 a0),(.sl (.int .u8) false a1)] []
theorem qGy (a0:Int) (a1:List Int):qBp a0 a1=(
(qQr a0 (wi (we a1))).bind fun r1=>
if (r1.2 != (0:Int))=true then
some ([],r1.2)
else
(qoy).bind fun r2=>
(qek r1.1 a1 r1.2 r2).bind fun r3=>
if (r3.1 != (0:Int))=true then
some ([],(4:Int))
else
(qLr r3.2).bind fun r4=>
some (r4)):=CE
noncomputable def vMa:FN:={f:=166,cuts:=[⟨(3,3),[3,18,19],false,false,[],[],[]⟩,⟨(6,7),[3,4,5,18,19,25,26],false,false,[],[],[]⟩],tab:=[],fm:=⟨true,[.val (.slice (.int .u8)) [.nw]]⟩}
noncomputable def qlp (a0:qga):Option (List Int):=vMa.call [(.agg qva (inj false qva a0))] []
noncomputable def qsd (v18:(List Int)) (v19:Int) (h8:List Int):Option (List Int):=vMa.sem ⟨[.code (cIn (cIn (qaa (qHa (qaa (qaa (qea wg 166))))))), .inLoop (cIn (cIn (qaa (qHa (qaa (qaa (qea wg 166))))))), .inBlock 0, .code (qaa (qaa (qaa (qea wg 166))))],⟨[(3,(.one (.ref (.int .u8) 8 0 (we h8) true))),(18,(.one (.agg (.arr 5 (.int .i64)) v18))),(19,(.one (.int .i64 v19)))],[(8,some (.row (.int .u8) true h8))],9⟩⟩
noncomputable def qJk (v4:Int) (v5:Int) (v18:(List Int)) (v19:Int) (v25:Int) (v26:Int) (h8:List Int):Option (List Int):=vMa.sem ⟨[.code (cIn (cIn (qaa (qaa (cIn (qHa (qaa (qaa (cIn (cIn (qaa (qHa (qaa (qaa (qea wg 166))))))))))))))), .inLoop (cIn (cIn (qaa (qaa (cIn (qHa (qaa (qaa (cIn (cIn (qaa (qHa (qaa (qaa (qea wg 166))))))))))))))), .inBlock 2, .inBlock 1, .code (qaa (qaa (qaa (cIn (cIn (qaa (qHa (qaa (qaa (qea wg 166)))))))))), .inLoop (cIn (cIn (qaa (qHa (qaa (qaa (qea wg 166))))))), .inBlock 0, .code (qaa (qaa (qaa (qea wg 166))))],⟨[(3,(.one (.ref (.int .u8) 8 0 (we h8) true))),(4,(.one (.int .i64 v4))),(5,(.one (.int .i64 v5))),(18,(.one (.agg (.arr 5 (.int .i64)) v18))),(19,(.one (.int .i64 v19))),(25,(.one (.int .i64 v25))),(26,(.one (.int .i64 v26)))],[(8,some (.row (.int .u8) true h8))],9⟩⟩
theorem qSx (a0:qga):qlp a0=(
qsd (wC (wC (wC (wC (wC (wl 5 (0:Int)) 0 (wd .i64 a0.1)) 1 a0.2.1) 2 a0.2.2.1) 3 a0.2.2.2.1) 4 a0.2.2.2.2.1) (0:Int) []):=CE
theorem qJh (v18:(List Int)) (v19:Int) (h8:List Int):qsd v18 v19 h8=(
if (decide (v19<(5:Int)))=true then
gd (0≤v19)<|
gd (v19<(5:Int))<|
gd (0≤v19)<|
gd (v19<(5:Int))<|
letI c:=(wo v19)
qJk v19 (wm v18 c (0:Int)) v18 v19 (wm G_widths c (0:Int)) (0:Int) h8
else
some (h8)):=SE
theorem qRd (v4:Int) (v5:Int) (v18:(List Int)) (v19:Int) (v25:Int) (v26:Int) (h8:List Int):qJk v4 v5 v18 v19 v25 v26 h8=(
if (decide (v26<v25))=true then
gd (0≤v4)<|
gd (v4<(5:Int))<|
letI c:=(wd .i64 ((8:Int)*(wd .i64 ((wd .i64 ((wm G_widths (wo v4) (0:Int)) - (1:Int))) - v26))))
gd (0≤c)<|
letI d:=(h8++[(wd .u8 (qZk .i64 v5 c))])
gd ((we d)*1≤140737488355328)<|
qJk v4 v5 v18 v19 v25 (wd .i64 (v26+(1:Int))) d
else
qsd v18 (wd .i64 (v19+(1:Int))) h8):=SE
noncomputable def vQc:FN:={f:=128,cuts:=[],tab:=[SS vMa,SS vEa],fm:=⟨true,[.val (.arr 20 (.int .u8)) []]⟩}
noncomputable def qLn (a0:qga) (a1:List Int):Option ((List Int)):=vQc.call [(.agg qva (inj false qva a0)),(.sl (.int .u8) false a1)] []
theorem qyv (a0:qga) (a1:List Int):qLn a0 a1=(
(qlp a0).bind fun r1=>
gd ((we (r1++a1))*1≤140737488355328)<|
(qxt (r1++a1)).bind fun r2=>
some (r2.1)):=CE
noncomputable def vjd:FN:={f:=81,cuts:=[],tab:=[SS vla,SS vQc],fm:=⟨true,[.val .bool [], .val (.int .i64) []]⟩}
noncomputable def qlj (a0:qga) (a1:List Int):Option (Bool×Int):=vjd.call [(.agg qva (inj false qva a0)),(.sl (.int .u8) false a1)] []
theorem qmp (a0:qga) (a1:List Int):qlj a0 a1=(
(qch a0).bind fun r1=>
if (r1 != (0:Int))=true then
some (false,r1)
else
if ((wi (we a1))==a0.2.2.2.1)=true then
(qLn a0 a1).bind fun r2=>
some ((peq (.arr 20 (.int .u8)) r2 a0.2.2.2.2.2.1),(0:Int))
else
some (false,(0:Int))):=CE
noncomputable def vWc:FN:={f:=42,cuts:=[],tab:=[SS vFd,SS vVc,SS vab,SS vOa,SS ved,SS vZb,SS vjd],fm:=⟨true,[.val (.slice (.int .u8)) [.nw], .val (.int .i64) []]⟩}
noncomputable def qYf (a0:Int) (a1:qda):Option (List Int×Int):=vWc.call [(.int .i64 a0),(.agg qpa (inj false qpa a1))] []
theorem qVu (a0:Int) (a1:qda):qYf a0 a1=(
(qTr a1).bind fun r1=>
if (r1 != (0:Int))=true then
some ([],r1)
else
(qVn a0).bind fun r2=>
if (not r2)=true then
some ([],(2:Int))
else
(qDi a1.2.1).bind fun r3=>
if (a1.1.1==(2:Int))=true then
(qCp a0 a1.2.1 a1.1.2.2.2.1).bind fun r4=>
if (r4.2 != (0:Int))=true then
some ([],(12:Int))
else
(qBp a0 r4.1).bind fun r5=>
if (r5.2 != (0:Int))=true then
some ([],(12:Int))
else
(qSr r5.1 a1.2.1).bind fun r6=>
if (not r6)=true then
some ([],(12:Int))
else
(qlj a1.1 r4.1).bind fun r7=>
if (not r7.1)=true then
some ([],(22:Int))
else
some (r4.1,(0:Int))
else
(qlj a1.1 r3).bind fun r8=>
if (not r8.1)=true then
some ([],(22:Int))
else
some (r3,(0:Int))):=CE
noncomputable def vO:FN:={f:=18,cuts:=[⟨(3,3),[0,1,6,17,18,19],false,false,[],[],[]⟩,⟨(11,3),[1,6,11,41,42],false,false,[],[],[]⟩],tab:=[SS vWc],fm:=⟨true,[.val (.slice qJa) [.nw], .val (.int .i64) []]⟩}
noncomputable def qbc (a0:Int) (a1:List qda):Option (List qoa×Int):=vO.call [(.int .i64 a0),(.sl qpa false a1)] []
noncomputable def qYe (v0:Int) (v1:List qda) (v17:List qda) (v18:Int) (v19:Int) (n8:Nat) (h8:List qma):Option (List qoa×Int):=vO.sem ⟨[.code (cIn (cIn (qaa (qHa (qaa (qaa (qea wg 18))))))), .inLoop (cIn (cIn (qaa (qHa (qaa (qaa (qea wg 18))))))), .inBlock 0, .code (qaa (qaa (qaa (qea wg 18))))],⟨[(0,(.one (.int .i64 v0))),(1,(.one (.sl qpa false v1))),(6,(.one (.chan 8))),(17,(.one (.sl qpa false v17))),(18,(.one (.int .i64 v18))),(19,(.one (.int .i64 v19)))],[(8,some (.chan qna true n8 h8 false))],9⟩⟩
noncomputable def qZc (v1:List qda) (v41:Int) (v42:Int) (n8:Nat) (h8:List qma) (h9:List qoa):Option (List qoa×Int):=vO.sem ⟨[.code (cIn (cIn (qaa (qHa (qaa (qaa (qaa (qaa (qaa (qea wg 18)))))))))), .inLoop (cIn (cIn (qaa (qHa (qaa (qaa (qaa (qaa (qaa (qea wg 18)))))))))), .inBlock 2, .code (qaa (qaa (qaa (qaa (qaa (qaa (qea wg 18)))))))],⟨[(1,(.one (.sl qpa false v1))),(6,(.one (.chan 8))),(11,(.one (.ref qJa 9 0 (we h9) true))),(41,(.one (.int .i64 v41))),(42,(.one (.int .i64 v42)))],[(8,some (.chan qna true n8 h8 true)),(9,some (.row qJa true h9))],10⟩⟩
theorem qso (a0:Int) (a1:List qda):qbc a0 a1=(
letI d:=(we a1)
letI c:=(wi d)
gd (0≤c)<|
gd (c≤9223372036854775807)<|
gd (40*c≤281474976710544)<|
qYe a0 a1 a1 c (0:Int) d []):=CE
theorem qNe (v0:Int) (v1:List qda) (v17:List qda) (v18:Int) (v19:Int) (n8:Nat) (h8:List qma):qYe v0 v1 v17 v18 v19 n8 h8=(
if (decide (v19<v18))=true then
gd (0≤v19)<|
gd (v19<(wi (we v17)))<|
(qYf v0 (wm v17 (wo v19) (qra qpa))).bind fun r1=>
gd ((we h8)<n8)<|
qYe v0 v1 v17 v18 (wd .i64 (v19+(1:Int))) n8 (h8++[(v19,(r1.1,(r1.2,())))])
else
letI d:=(we v1)
letI c:=(wi d)
gd (c=c)<|
gd (0≤c)<|
gd (c*48≤140737488355328)<|
gd (c≤9223372036854775807)<|
qZc v1 c (0:Int) n8 h8 (wl d (qra qJa))):=SE
theorem qMe (v1:List qda) (v41:Int) (v42:Int) (n8:Nat) (h8:List qma) (h9:List qoa):qZc v1 v41 v42 n8 h8 h9=(
if (decide (v42<v41))=true then
gd (0<(we h8))<|
letI c:=(wm h8 0 (qra qna))
if (c.2.2.1 != (0:Int))=true then
some ([],c.2.2.1)
else
gd (0≤c.1)<|
gd (c.1<(wi (we v1)))<|
gd (0≤c.1)<|
gd (c.1<(wi (we h9)))<|
letI e:=(wo c.1)
letI d:=(wm v1 e (qra qpa))
qZc v1 v41 (wd .i64 (v42+(1:Int))) n8 (wY 1 h8) (wC h9 (0+e) ((d.1.2.1,(d.1.2.2.1,(d.1.2.2.2.1,()))),(c.2.1,())))
else
some (h9,(0:Int))):=SE
noncomputable def vNc:FN:={f:=9,cuts:=[⟨(12,3),[6,7,15,61,62,63],false,false,[],[],[]⟩],tab:=[(SS vJb).dropping,(qSe (fun _=>true)).dropping,SS vO],fm:=⟨true,[.val (.slice (.int .u8)) [.nw], .val (.int .i64) []]⟩}
noncomputable def qNn (a0:List Int) (a1:ByteArray) (a2:Int) (a3:Int):Option (List Int×Int):=vNc.call [(.sl (.int .u8) false a0),(.str a1),(.int .i64 a2),(.int .i64 a3)] []
noncomputable def qZe (v62:Int) (v63:Int) (b8:Int) (b9:Int) (h10:List Int) (h11:List qoa):Option (List Int×Int):=vNc.sem ⟨[.code (cIn (cIn (qaa (qHa (qaa (qaa (qaa (qaa (qaa (qaa (qaa (qaa (qea wg 9))))))))))))), .inLoop (cIn (cIn (qaa (qHa (qaa (qaa (qaa (qaa (qaa (qaa (qaa (qaa (qea wg 9))))))))))))), .inBlock 0, .code (qaa (qaa (qaa (qaa (qaa (qaa (qaa (qaa (qaa (qea wg 9))))))))))],⟨[(6,(.one (.ptr (.int .i64) 8 []))),(7,(.one (.ptr (.int .i64) 9 []))),(15,(.one (.ref (.int .u8) 10 0 (we h10) true))),(61,(.one (.ref qJa 11 0 (we h11) true))),(62,(.one (.int .i64 v62))),(63,(.one (.int .i64 v63)))],[(8,some (.box (.int .i64) b8)),(9,some (.box (.int .i64) b9)),(10,some (.row (.int .u8) true h10)),(11,some (.row qJa true h11))],12⟩⟩
theorem qBv (a0:List Int) (a1:ByteArray) (a2:Int) (a3:Int):qNn a0 a1 a2 a3=(
(qOl a0 a1).bind fun r1=>
if (r1.2.2.2 != (0:Int))=true then
some ([],r1.2.2.2)
else
if (decide (a2<(0:Int)))=true then
some ([],(2:Int))
else
if (decide (a3<a2))=true then
some ([],(2:Int))
else
gd (0≤r1.2.1)<|
gd (r1.2.1<(wi (we r1.1.2.1)))<|
if (decide (a3>(wm r1.1.2.1 (wo r1.2.1) (qra qla)).2.1))=true then
some ([],(2:Int))
else
(qBb r1.2.2.1.2.1 r1.2.2.1.2.2 r1.2.2.1.1 a2 a3).bind fun r2=>
(qbc r1.1.1.1 (wL r2.1.2 (wY r2.1.1 r2.2.1))).bind fun r3=>
if (r3.2 != (0:Int))=true then
some ([],r3.2)
else
qZe (wi (we r3.1)) (0:Int) r2.2.2.1 r2.2.2.2 [] r3.1):=CE
theorem qQk (v62:Int) (v63:Int) (b8:Int) (b9:Int) (h10:List Int) (h11:List qoa):qZe v62 v63 b8 b9 h10 h11=(
if (decide (v63<v62))=true then
gd (0≤v63)<|
gd (v63<(wi (we h11)))<|
letI c:=(wm h11 (0+(wo v63)) (qra qJa))
letI e:=(wd .i64 (b8 - c.1.2.1))
gd (0≤(if (0:Int)>e then (0:Int) else e))<|
letI g:=(wd .i64 (b9 - c.1.2.1))
letI f:=(wi (we c.2.1))
gd ((if (0:Int)>e then (0:Int) else e)≤(if f<g then f else g))<|
gd ((if f<g then f else g)≤f)<|
letI i:=(wo (if (0:Int)>e then (0:Int) else e))
letI d:=(h10++(wL ((wo (if f<g then f else g)) - i) (wY i c.2.1)))
gd ((we d)*1≤140737488355328)<|
qZe v62 (wd .i64 (v63+(1:Int))) b8 b9 d h11
else
some (h10,(0:Int))):=SE
noncomputable def vpd:FN:={f:=44,cuts:=[],tab:=[],fm:=⟨true,[.val .bool []]⟩}
noncomputable def qGo (a0:List Int) (a1:qca):Option (Bool):=vpd.call [(.sl (.int .i64) false a0),(.agg qja (inj false qja a1))] []
theorem qsw (a0:List Int) (a1:qca):qGo a0 a1=(
if (decide (a1.1≥(0:Int)))=true then
letI c:=(wi (we a0))
if (decide (a1.1<c))=true then
if (decide (a1.2.1≥(0:Int)))=true then
if (decide (a1.2.2.1>(0:Int)))=true then
gd (0≤a1.1)<|
gd (a1.1<c)<|
letI d:=(wm a0 (wo a1.1) (0:Int))
if (decide (a1.2.1≤d))=true then
gd (0≤a1.1)<|
gd (a1.1<c)<|
some (decide (a1.2.2.1≤(wd .i64 (d - a1.2.1))))
else
some (false)
else
some (false)
else
some (false)
else
some (false)
else
some (false)):=CE
noncomputable def vba:FN:={f:=45,cuts:=[⟨(3,3),[0,1,5,17,18,19],false,false,[8],[],[]⟩,⟨(8,3),[0,5,32,33,34],false,false,[8],[],[]⟩,⟨(12,7),[0,5,10,32,33,34,41,42,43],false,false,[8],[],[]⟩],tab:=[],fm:=⟨true,[.val .bool [], .fams 0 .str (.int .u8)]⟩}
noncomputable def qnn (a1:List qoa) (h0:List (ByteArray×List Int)):Option (Bool×List (ByteArray×List Int)):=vba.call [(.ref qwa 0 0 (we (qAi (a:= .str) (e:=(.int .u8)) h0)) true),(.sl qJa false a1)] [(0,(.famS .str (.int .u8) h0))]
noncomputable def qGg (v1:List qoa) (v18:Int) (v19:Int) (h0:List (ByteArray×List Int)) (h8:List (List Bool)):Option (Bool×List (ByteArray×List Int)):=vba.sem ⟨[.code (cIn (cIn (qaa (qHa (qaa (qaa (qea wg 45))))))), .inLoop (cIn (cIn (qaa (qHa (qaa (qaa (qea wg 45))))))), .inBlock 0, .code (qaa (qaa (qaa (qea wg 45))))],⟨[(0,(.one (.ref qwa 0 0 (we (qAi (a:= .str) (e:=(.int .u8)) h0)) true))),(1,(.one (.sl qJa false v1))),(5,(.one (.ref (.slice .bool) 8 0 (we h8) true))),(17,(.one (.ref qwa 0 0 (we (qAi (a:= .str) (e:=(.int .u8)) h0)) true))),(18,(.one (.int .i64 v18))),(19,(.one (.int .i64 v19)))],[(0,some (.famS .str (.int .u8) h0)),(8,some (.fam .bool h8))],10⟩⟩
noncomputable def qLd (v32:List qoa) (v33:Int) (v34:Int) (h0:List (ByteArray×List Int)) (h8:List (List Bool)):Option (Bool×List (ByteArray×List Int)):=vba.sem ⟨[.code (cIn (cIn (qaa (qHa (qaa (qaa (qaa (qea wg 45)))))))), .inLoop (cIn (cIn (qaa (qHa (qaa (qaa (qaa (qea wg 45)))))))), .inBlock 2, .code (qaa (qaa (qaa (qaa (qea wg 45)))))],⟨[(0,(.one (.ref qwa 0 0 (we (qAi (a:= .str) (e:=(.int .u8)) h0)) true))),(5,(.one (.ref (.slice .bool) 8 0 (we h8) true))),(32,(.one (.sl qJa false v32))),(33,(.one (.int .i64 v33))),(34,(.one (.int .i64 v34)))],[(0,some (.famS .str (.int .u8) h0)),(8,some (.fam .bool h8))],10⟩⟩
noncomputable def qQe (v32:List qoa) (v33:Int) (v34:Int) (v41:List Int) (v42:Int) (v43:Int) (h0:List (ByteArray×List Int)) (h8:List (List Bool)) (b9:qca):Option (Bool×List (ByteArray×List Int)):=vba.sem ⟨[.code (cIn (cIn (qaa (qaa (qaa (cIn (qHa (qaa (qaa (cIn (cIn (qaa (qHa (qaa (qaa (qaa (qea wg 45))))))))))))))))), .inLoop (cIn (cIn (qaa (qaa (qaa (cIn (qHa (qaa (qaa (cIn (cIn (qaa (qHa (qaa (qaa (qaa (qea wg 45))))))))))))))))), .inBlock 4, .inBlock 3, .code (qaa (qaa (qaa (cIn (cIn (qaa (qHa (qaa (qaa (qaa (qea wg 45))))))))))), .inLoop (cIn (cIn (qaa (qHa (qaa (qaa (qaa (qea wg 45)))))))), .inBlock 2, .code (qaa (qaa (qaa (qaa (qea wg 45)))))],⟨[(0,(.one (.ref qwa 0 0 (we (qAi (a:= .str) (e:=(.int .u8)) h0)) true))),(5,(.one (.ref (.slice .bool) 8 0 (we h8) true))),(10,(.one (.ptr qja 9 []))),(32,(.one (.sl qJa false v32))),(33,(.one (.int .i64 v33))),(34,(.one (.int .i64 v34))),(41,(.one (.sl (.int .u8) false v41))),(42,(.one (.int .i64 v42))),(43,(.one (.int .i64 v43)))],[(0,some (.famS .str (.int .u8) h0)),(8,some (.fam .bool h8)),(9,some (.box qja (inj false qja b9)))],11⟩⟩
theorem qdv (a1:List qoa) (h0:List (ByteArray×List Int)):qnn a1 h0=(
gd ((wi (we (qAi (a:= .str) (e:=(.int .u8)) h0)))=(wi (we (qAi (a:= .str) (e:=(.int .u8)) h0))))<|
gd (0≤(wi (we (qAi (a:= .str) (e:=(.int .u8)) h0))))<|
gd ((wi (we (qAi (a:= .str) (e:=(.int .u8)) h0)))*24≤140737488355328)<|
gd ((wi (we (qAi (a:= .str) (e:=(.int .u8)) h0)))≤9223372036854775807)<|
qGg a1 (wi (we (qAi (a:= .str) (e:=(.int .u8)) h0))) (0:Int) h0 (wl (we (qAi (a:= .str) (e:=(.int .u8)) h0)) [])):=CE
theorem qqk (v1:List qoa) (v18:Int) (v19:Int) (h0:List (ByteArray×List Int)) (h8:List (List Bool)):qGg v1 v18 v19 h0 h8=(
if (decide (v19<v18))=true then
gd (0≤v19)<|
gd (v19<(wi (we (qAi (a:= .str) (e:=(.int .u8)) h0))))<|
letI c:=(0+(wo v19))
gd ((wi (we (wm h0 c (wD,[])).2))=(wi (we (wm h0 c (wD,[])).2)))<|
gd (0≤(wi (we (wm h0 c (wD,[])).2)))<|
gd ((wi (we (wm h0 c (wD,[])).2))*1≤140737488355328)<|
gd ((wi (we (wm h0 c (wD,[])).2))≤9223372036854775807)<|
gd (0≤v19)<|
gd (v19<(wi (we h8)))<|
qGg v1 v18 (wd .i64 (v19+(1:Int))) h0 (wC h8 c (wl (we (wm h0 c (wD,[])).2) false))
else
qLd v1 (wi (we v1)) (0:Int) h0 h8):=SE
theorem qpk (v32:List qoa) (v33:Int) (v34:Int) (h0:List (ByteArray×List Int)) (h8:List (List Bool)):qLd v32 v33 v34 h0 h8=(
if (decide (v34<v33))=true then
gd (0≤v34)<|
gd (v34<(wi (we v32)))<|
letI c:=(wm v32 (wo v34) (qra qJa))
qQe v32 v33 v34 c.2.1 (wi (we c.2.1)) (0:Int) h0 h8 c.1
else
some (true,h0)):=SE
theorem qok (v32:List qoa) (v33:Int) (v34:Int) (v41:List Int) (v42:Int) (v43:Int) (h0:List (ByteArray×List Int)) (h8:List (List Bool)) (b9:qca):qQe v32 v33 v34 v41 v42 v43 h0 h8 b9=(
if (decide (v43<v42))=true then
gd (0≤v43)<|
gd (v43<(wi (we v41)))<|
gd (0≤b9.1)<|
letI i:=(wi (we h8))
gd (b9.1<i)<|
letI d:=(0+(wo b9.1))
gd (0<(we (wm h8 d [])))<|
letI c:=(wd .i64 (b9.2.1+v43))
gd (0≤c)<|
gd (c<(wi (we (wm h8 d []))))<|
letI j:=(wd .i64 (v43+(1:Int)))
letI g:=(wm v41 (wo v43) (0:Int))
letI f:=(0+(wo c))
if (wm (wm h8 d []) f false)=true then
gd (0≤b9.1)<|
gd (b9.1<(wi (we (qAi (a:= .str) (e:=(.int .u8)) h0))))<|
gd (0<(we (wm h0 d (wD,[])).2))<|
gd (0≤c)<|
gd (c<(wi (we (wm h0 d (wD,[])).2)))<|
if ((wm (wm h0 d (wD,[])).2 f (0:Int)) != g)=true then
some (false,h0)
else
gd (0≤b9.1)<|
gd (b9.1<i)<|
gd (0<(we (wm h8 d [])))<|
gd (0≤b9.1)<|
gd (b9.1<(wi (we (qAi (a:= .str) (e:=(.int .u8)) h0))))<|
gd (0<(we (wm h0 d (wD,[])).2))<|
gd (0≤c)<|
gd (c<(wi (we (wm h8 d []))))<|
gd (0≤c)<|
gd (c<(wi (we (wm h0 d (wD,[])).2)))<|
qQe v32 v33 v34 v41 v42 j (wC h0 d ((wm h0 d (wD,[])).1,(wC (wm h0 d (wD,[])).2 f g))) (wC h8 d (wC (wm h8 d []) f true)) b9
else
gd (0≤b9.1)<|
gd (b9.1<i)<|
gd (0<(we (wm h8 d [])))<|
gd (0≤b9.1)<|
gd (b9.1<(wi (we (qAi (a:= .str) (e:=(.int .u8)) h0))))<|
gd (0<(we (wm h0 d (wD,[])).2))<|
gd (0≤c)<|
gd (c<(wi (we (wm h8 d []))))<|
gd (0≤c)<|
gd (c<(wi (we (wm h0 d (wD,[])).2)))<|
qQe v32 v33 v34 v41 v42 j (wC h0 d ((wm h0 d (wD,[])).1,(wC (wm h0 d (wD,[])).2 f g))) (wC h8 d (wC (wm h8 d []) f true)) b9
else
qLd v32 v33 (wd .i64 (v34+(1:Int))) h0 h8):=SE
noncomputable def qtw (acc:List AV→Bool):Summ wg GT:=vba.summ mixed acc true false
noncomputable def vQ:FN:={f:=85,cuts:=[],tab:=[],fm:=⟨true,[.val (.slice qja) [.nw]]⟩}
noncomputable def qzc (a0:List qca):Option (List qca):=vQ.call [(.sl qja false a0)] []
theorem qOg (a0:List qca):qzc a0=(
qaF (fun (r1:Bool)=>r1=true→a0=[]) fun (r1:Bool)=>
if r1=true then
some ([])
else
gd ((we ([]++a0))*24≤140737488355328)<|
some ([]++a0)):=CE
noncomputable def vUc:FN:={f:=131,cuts:=[],tab:=[],fm:=⟨true,[.val .bool []]⟩}
noncomputable def qZj (a0:Int):Option (Bool):=vUc.call [(.int .i64 a0)] []
theorem qJv (a0:Int):qZj a0=(
some (a0 != a0)):=CE
noncomputable def voc:FN:={f:=89,cuts:=[],tab:=[SS vUc],fm:=⟨true,[.val (.int .i64) []]⟩}
noncomputable def qTh (a0:Int) (a1:Int):Option (Int):=voc.call [(.int .i64 a0),(.int .i64 a1)] []
theorem qXs (a0:Int) (a1:Int):qTh a0 a1=(
(qZj a0).bind fun r1=>
(qZj a1).bind fun r2=>
if r1=true then
if r2=true then
some (0:Int)
else
some (-1:Int)
else
if r2=true then
some (1:Int)
else
if (decide (a0<a1))=true then
some (-1:Int)
else
if (decide (a0>a1))=true then
some (1:Int)
else
some (0:Int)):=CE
noncomputable def vBc:FN:={f:=88,cuts:=[⟨(3,3),[3,6,7,8],false,false,[],[],[]⟩],tab:=[],fm:=⟨true,[.val (.int .i64) []]⟩}
noncomputable def qmu (a0:List Int):Option (Int):=vBc.call [(.sl (.int .i64) false a0)] []
noncomputable def qhg (v3:Int) (v6:List Int) (v7:Int) (v8:Int):Option (Int):=vBc.sem ⟨[.code (cIn (cIn (qaa (qHa (qaa (qaa (qea wg 88))))))), .inLoop (cIn (cIn (qaa (qHa (qaa (qaa (qea wg 88))))))), .inBlock 0, .code (qaa (qaa (qaa (qea wg 88))))],⟨[(3,(.one (.int .i64 v3))),(6,(.one (.sl (.int .i64) false v6))),(7,(.one (.int .i64 v7))),(8,(.one (.int .i64 v8)))],[],8⟩⟩
theorem qFC (a0:List Int):qmu a0=(
qhg (0:Int) a0 (wi (we a0)) (0:Int)):=CE
theorem qBj (v3:Int) (v6:List Int) (v7:Int) (v8:Int):qhg v3 v6 v7 v8=(
if (decide (v8<v7))=true then
gd (0≤v8)<|
gd (v8<(wi (we v6)))<|
letI c:=(wm v6 (wo v8) (0:Int))
if (c != v3)=true then
some c
else
qhg v3 v6 v7 (wd .i64 (v8+(1:Int)))
else
some (v3)):=SE
noncomputable def vR:FN:={f:=87,cuts:=[],tab:=[SS voc,SS vBc],fm:=⟨true,[.val (.int .i64) []]⟩}
noncomputable def qrd (a0:qca) (a1:qca):Option (Int):=vR.call [(.agg qja (inj false qja a0)),(.agg qja (inj false qja a1))] []
theorem qcs (a0:qca) (a1:qca):qrd a0 a1=(
(qTh a0.1 a1.1).bind fun r1=>
(qTh a0.2.1 a1.2.1).bind fun r2=>
(qmu [r1,r2]).bind fun r3=>
some (r3)):=CE
noncomputable def vc:FN:={f:=167,cuts:=[⟨(1,2),[0,1,2,3,8],false,false,[],[],[]⟩,⟨(4,6),[0,1,2,3,8,9],false,false,[],[],[]⟩],tab:=[SS vR],fm:=⟨false,[.row 0 qja]⟩}
noncomputable def qPb (a1:Int) (a2:Int) (h0:List qca):Option (List qca):=vc.call [(.ref qja 0 0 (we h0) true),(.int .i64 a1),(.int .i64 a2),(.func 87 [])] [(0,(.row qja false h0))]
noncomputable def qWa (v1:Int) (v2:Int) (v8:Int) (h0:List qca):Option (List qca):=vc.sem ⟨[.code (cIn (cIn (qaa (qea wg 167)))), .inLoop (cIn (cIn (qaa (qea wg 167)))), .inBlock 0],⟨[(0,(.one (.ref qja 0 0 (we h0) true))),(1,(.one (.int .i64 v1))),(2,(.one (.int .i64 v2))),(3,(.one (.func 87 []))),(8,(.one (.int .i64 v8)))],[(0,some (.row qja false h0))],9⟩⟩
noncomputable def qAb (v1:Int) (v2:Int) (v8:Int) (v9:Int) (h0:List qca):Option (List qca):=vc.sem ⟨[.code (cIn (cIn (qaa (cIn (qHa (qaa (cIn (cIn (qaa (qea wg 167)))))))))), .inLoop (cIn (cIn (qaa (cIn (qHa (qaa (cIn (cIn (qaa (qea wg 167)))))))))), .inBlock 2, .inBlock 1, .code (qaa (qaa (cIn (cIn (qaa (qea wg 167)))))), .inLoop (cIn (cIn (qaa (qea wg 167)))), .inBlock 0],⟨[(0,(.one (.ref qja 0 0 (we h0) true))),(1,(.one (.int .i64 v1))),(2,(.one (.int .i64 v2))),(3,(.one (.func 87 []))),(8,(.one (.int .i64 v8))),(9,(.one (.int .i64 v9)))],[(0,some (.row qja false h0))],9⟩⟩
theorem qvf (a1:Int) (a2:Int) (h0:List qca):qPb a1 a2 h0=(
qWa a1 a2 (wd .i64 (a1+(1:Int))) h0):=CE
theorem qqb (v1:Int) (v2:Int) (v8:Int) (h0:List qca):qWa v1 v2 v8 h0=(
if (decide (v8<v2))=true then
qAb v1 v2 v8 v8 h0
else
some (h0)):=SE
theorem qHe (v1:Int) (v2:Int) (v8:Int) (v9:Int) (h0:List qca):qAb v1 v2 v8 v9 h0=(
letI g:=(wd .i64 (v8+(1:Int)))
if (decide (v9>v1))=true then
gd (0≤v9)<|
letI d:=(wi (we h0))
gd (v9<d)<|
letI c:=(wd .i64 (v9 - (1:Int)))
gd (0≤c)<|
gd (c<d)<|
letI k:=(qra qja)
letI j:=(0+(wo c))
letI i:=(0+(wo v9))
letI f:=(wm h0 j k)
letI e:=(wm h0 i k)
(qrd e f).bind fun r1=>
if (decide (r1<(0:Int)))=true then
gd (0≤c)<|
gd (c<d)<|
gd (0≤v9)<|
gd (v9<d)<|
gd (0≤v9)<|
gd (v9<d)<|
gd (0≤c)<|
gd (c<d)<|
qAb v1 v2 v8 c (wC (wC h0 i f) j e)
else
qWa v1 v2 g h0
else
qWa v1 v2 g h0):=SE
noncomputable def qzf (acc:List AV→Bool):Summ wg GT:=vc.summ mixed acc true false
noncomputable def vZ:FN:={f:=267,cuts:=[],tab:=[SS vR],fm:=⟨false,[.val (.int .i64) [], .val (.int .i64) [], .row 0 qja, .box 1 (.int .i64) []]⟩}
noncomputable def qmb (a1:Int) (a2:Int) (h0:List qca) (b1:Int):Option (Int×Int×List qca×Int):=vZ.call [(.ref qja 0 0 (we h0) true),(.int .i64 a1),(.int .i64 a2),(.ptr (.int .i64) 1 []),(.func 87 [])] [(0,(.row qja false h0)),(1,(.box (.int .i64) b1))]
theorem qvh (a1:Int) (a2:Int) (h0:List qca) (b1:Int):qmb a1 a2 h0 b1=(
gd (0≤a2)<|
letI c:=(wi (we h0))
gd (a2<c)<|
gd (0≤a1)<|
gd (a1<c)<|
letI d:=(qra qja)
(qrd (wm h0 (0+(wo a2)) d) (wm h0 (0+(wo a1)) d)).bind fun r1=>
if (decide (r1<(0:Int)))=true then
some (a2,(a1,(h0,(wd .i64 (b1+(1:Int))))))
else
some (a1,(a2,(h0,b1)))):=CE
noncomputable def qli (acc:List AV→Bool):Summ wg GT:=vZ.summ mixed acc true false
noncomputable def vX:FN:={f:=216,cuts:=[],tab:=[(qli (fun _=>true)).dropping],fm:=⟨false,[.val (.int .i64) [], .row 0 qja, .box 1 (.int .i64) []]⟩}
noncomputable def qnb (a1:Int) (a2:Int) (a3:Int) (h0:List qca) (b1:Int):Option (Int×List qca×Int):=vX.call [(.ref qja 0 0 (we h0) true),(.int .i64 a1),(.int .i64 a2),(.int .i64 a3),(.ptr (.int .i64) 1 []),(.func 87 [])] [(0,(.row qja false h0)),(1,(.box (.int .i64) b1))]
theorem qwh (a1:Int) (a2:Int) (a3:Int) (h0:List qca) (b1:Int):qnb a1 a2 a3 h0 b1=(
(qmb a1 a2 h0 b1).bind fun r1=>
(qmb r1.2.1 a3 r1.2.2.1 r1.2.2.2).bind fun r2=>
(qmb r1.1 r2.1 r2.2.2.1 r2.2.2.2).bind fun r3=>
some (r3.2)):=CE
noncomputable def qee (acc:List AV→Bool):Summ wg GT:=vX.summ mixed acc true false
noncomputable def vD:FN:={f:=215,cuts:=[],tab:=[(qee (fun _=>true)).dropping],fm:=⟨false,[.val (.int .i64) [], .row 0 qja, .box 1 (.int .i64) []]⟩}
noncomputable def qab (a1:Int) (h0:List qca) (b1:Int):Option (Int×List qca×Int):=vD.call [(.ref qja 0 0 (we h0) true),(.int .i64 a1),(.ptr (.int .i64) 1 []),(.func 87 [])] [(0,(.row qja false h0)),(1,(.box (.int .i64) b1))]
theorem qef (a1:Int) (h0:List qca) (b1:Int):qab a1 h0 b1=(
(qnb (wd .i64 (a1 - (1:Int))) a1 (wd .i64 (a1+(1:Int))) h0 b1).bind fun r1=>
some (r1)):=CE
noncomputable def quf (acc:List AV→Bool):Summ wg GT:=vD.summ mixed acc true false
noncomputable def vJ:FN:={f:=170,cuts:=[],tab:=[(quf (fun _=>true)).dropping,(qee (fun _=>true)).dropping],fm:=⟨false,[.val (.int .i64) [], .val (.int .i64) [], .row 0 qja]⟩}
noncomputable def qec (a1:Int) (a2:Int) (h0:List qca):Option (Int×Int×List qca):=vJ.call [(.ref qja 0 0 (we h0) true),(.int .i64 a1),(.int .i64 a2),(.func 87 [])] [(0,(.row qja false h0))]
theorem qag (a1:Int) (a2:Int) (h0:List qca):qec a1 a2 h0=(
gd ((4:Int)≠0)<|
gd ((4:Int)≠0)<|
gd ((4:Int)≠0)<|
letI g:=(wd .i64 (a2 - a1))
letI c:=(wd .i64 (Int.tdiv g (4:Int)))
letI d:=(wd .i64 (a1+(wd .i64 (c*(2:Int)))))
if (decide (g≥(8:Int)))=true then
letI f:=(wd .i64 (a1+(wd .i64 (c*(3:Int)))))
letI e:=(wd .i64 (a1+(wd .i64 (c*(1:Int)))))
if (decide (g≥(50:Int)))=true then
(qab e h0 (0:Int)).bind fun r1=>
(qab d r1.2.1 r1.2.2).bind fun r2=>
(qab f r2.2.1 r2.2.2).bind fun r3=>
(qnb r1.1 r2.1 r3.1 r3.2.1 r3.2.2).bind fun r4=>
if (r4.2.2==(0:Int))=true then
some (r4.1,((1:Int),r4.2.1))
else
if (r4.2.2==(12:Int))=true then
some (r4.1,((2:Int),r4.2.1))
else
some (r4.1,((0:Int),r4.2.1))
else
(qnb e d f h0 (0:Int)).bind fun r5=>
if (r5.2.2==(0:Int))=true then
some (r5.1,((1:Int),r5.2.1))
else
if (r5.2.2==(12:Int))=true then
some (r5.1,((2:Int),r5.2.1))
else
some (r5.1,((0:Int),r5.2.1))
else
some (d,((1:Int),h0))):=CE
noncomputable def qog (acc:List AV→Bool):Summ wg GT:=vJ.summ mixed acc true false
noncomputable def va:FN:={f:=172,cuts:=[⟨(3,3),[0,1,2,3,9,10],false,false,[],[],[]⟩,⟨(5,8),[0,1,2,3,9,10],false,false,[],[],[]⟩,⟨(14,8),[0,1,2,3,9,10,11],false,false,[],[],[]⟩,⟨(20,7),[0,1,2,3,9,10,12],false,false,[],[],[]⟩],tab:=[SS vR],fm:=⟨false,[.val .bool [], .row 0 qja]⟩}
noncomputable def qlb (a1:Int) (a2:Int) (h0:List qca):Option (Bool×List qca):=va.call [(.ref qja 0 0 (we h0) true),(.int .i64 a1),(.int .i64 a2),(.func 87 [])] [(0,(.row qja false h0))]
noncomputable def qYa (v1:Int) (v2:Int) (v9:Int) (v10:Int) (h0:List qca):Option (Bool×List qca):=va.sem ⟨[.code (cIn (cIn (qaa (qHa (qaa (qaa (qea wg 172))))))), .inLoop (cIn (cIn (qaa (qHa (qaa (qaa (qea wg 172))))))), .inBlock 0, .code (qaa (qaa (qaa (qea wg 172))))],⟨[(0,(.one (.ref qja 0 0 (we h0) true))),(1,(.one (.int .i64 v1))),(2,(.one (.int .i64 v2))),(3,(.one (.func 87 []))),(9,(.one (.int .i64 v9))),(10,(.one (.int .i64 v10)))],[(0,some (.row qja false h0))],9⟩⟩
noncomputable def qXa (v1:Int) (v2:Int) (v9:Int) (v10:Int) (h0:List qca):Option (Bool×List qca):=va.sem ⟨[.code (cIn (cIn (qHa (cIn (qHa (qaa (cIn (cIn (qaa (qHa (qaa (qaa (qea wg 172))))))))))))), .inLoop (cIn (cIn (qHa (cIn (qHa (qaa (cIn (cIn (qaa (qHa (qaa (qaa (qea wg 172))))))))))))), .inBlock 2, .code (qaa (cIn (qHa (qaa (cIn (cIn (qaa (qHa (qaa (qaa (qea wg 172))))))))))), .inBlock 1, .code (qaa (qaa (cIn (cIn (qaa (qHa (qaa (qaa (qea wg 172))))))))), .inLoop (cIn (cIn (qaa (qHa (qaa (qaa (qea wg 172))))))), .inBlock 0, .code (qaa (qaa (qaa (qea wg 172))))],⟨[(0,(.one (.ref qja 0 0 (we h0) true))),(1,(.one (.int .i64 v1))),(2,(.one (.int .i64 v2))),(3,(.one (.func 87 []))),(9,(.one (.int .i64 v9))),(10,(.one (.int .i64 v10)))],[(0,some (.row qja false h0))],9⟩⟩
noncomputable def qTb (v1:Int) (v2:Int) (v9:Int) (v10:Int) (v11:Int) (h0:List qca):Option (Bool×List qca):=va.sem ⟨[.code (cIn (cIn (qaa (qJQ (qaa (qHa (qaa (qaa (qaa (qaa (cIn (qHa (qaa (cIn (cIn (qaa (qHa (qaa (qaa (qea wg 172)))))))))))))))))))), .inLoop (cIn (cIn (qaa (qJQ (qaa (qHa (qaa (qaa (qaa (qaa (cIn (qHa (qaa (cIn (cIn (qaa (qHa (qaa (qaa (qea wg 172)))))))))))))))))))), .inBlock 4, .code (qaa (qaa (qaa (qaa (qaa (cIn (qHa (qaa (cIn (cIn (qaa (qHa (qaa (qaa (qea wg 172))))))))))))))), .inBlock 1, .code (qaa (qaa (cIn (cIn (qaa (qHa (qaa (qaa (qea wg 172))))))))), .inLoop (cIn (cIn (qaa (qHa (qaa (qaa (qea wg 172))))))), .inBlock 0, .code (qaa (qaa (qaa (qea wg 172))))],⟨[(0,(.one (.ref qja 0 0 (we h0) true))),(1,(.one (.int .i64 v1))),(2,(.one (.int .i64 v2))),(3,(.one (.func 87 []))),(9,(.one (.int .i64 v9))),(10,(.one (.int .i64 v10))),(11,(.one (.int .i64 v11)))],[(0,some (.row qja false h0))],9⟩⟩
noncomputable def qSb (v1:Int) (v2:Int) (v9:Int) (v10:Int) (v12:Int) (h0:List qca):Option (Bool×List qca):=va.sem ⟨[.code (cIn (cIn (qaa (qJQ (qaa (qaa (qaa (qaa (qaa (qaa (cIn (qHa (qaa (cIn (cIn (qaa (qHa (qaa (qaa (qea wg 172)))))))))))))))))))), .inLoop (cIn (cIn (qaa (qJQ (qaa (qaa (qaa (qaa (qaa (qaa (cIn (qHa (qaa (cIn (cIn (qaa (qHa (qaa (qaa (qea wg 172)))))))))))))))))))), .inBlock 6, .inBlock 1, .code (qaa (qaa (cIn (cIn (qaa (qHa (qaa (qaa (qea wg 172))))))))), .inLoop (cIn (cIn (qaa (qHa (qaa (qaa (qea wg 172))))))), .inBlock 0, .code (qaa (qaa (qaa (qea wg 172))))],⟨[(0,(.one (.ref qja 0 0 (we h0) true))),(1,(.one (.int .i64 v1))),(2,(.one (.int .i64 v2))),(3,(.one (.func 87 []))),(9,(.one (.int .i64 v9))),(10,(.one (.int .i64 v10))),(12,(.one (.int .i64 v12)))],[(0,some (.row qja false h0))],9⟩⟩
theorem qae (a1:Int) (a2:Int) (h0:List qca):qlb a1 a2 h0=(
qYa a1 a2 (wd .i64 (a1+(1:Int))) (0:Int) h0):=CE
theorem qBd (v1:Int) (v2:Int) (v9:Int) (v10:Int) (h0:List qca):qYa v1 v2 v9 v10 h0=(
if (decide (v10<(5:Int)))=true then
qXa v1 v2 v9 v10 h0
else
some (false,h0)):=SE
theorem qKb (v1:Int) (v2:Int) (v9:Int) (v10:Int) (h0:List qca):qXa v1 v2 v9 v10 h0=(
letI o:=(qra qja)
letI n:=(0+(wo v9))
letI m:=(wd .i64 (v10+(1:Int)))
letI l:=(decide ((wd .i64 (v2 - v9))≥(2:Int)))
letI k:=(decide ((wd .i64 (v9 - v1))≥(2:Int)))
letI j:=(decide ((wd .i64 (v2 - v1))<(50:Int)))
letI g:=(wm h0 n o)
letI f:=(wd .i64 (v9+(1:Int)))
letI e:=(wi (we h0))
letI d:=(wd .i64 (v9 - (1:Int)))
letI p:=(0+(wo d))
letI i:=(wm h0 p o)
letI c:=(wC (wC h0 n i) p g)
if (decide (v9<v2))=true then
gd (0≤v9)<|
gd (v9<e)<|
gd (0≤d)<|
gd (d<e)<|
(qrd g i).bind fun r1=>
if (not (decide (r1<(0:Int))))=true then
qXa v1 v2 f v10 h0
else
if (v9==v2)=true then
some (true,h0)
else
if j=true then
some (false,h0)
else
gd (0≤d)<|
gd (d<e)<|
gd (0≤v9)<|
gd (v9<e)<|
gd (0≤v9)<|
gd (v9<e)<|
gd (0≤d)<|
gd (d<e)<|
if k=true then
qTb v1 v2 v9 v10 d c
else
if l=true then
qSb v1 v2 v9 v10 f c
else
qYa v1 v2 v9 m c
else
if (v9==v2)=true then
some (true,h0)
else
if j=true then
some (false,h0)
else
gd (0≤d)<|
gd (d<e)<|
gd (0≤v9)<|
gd (v9<e)<|
gd (0≤v9)<|
gd (v9<e)<|
gd (0≤d)<|
gd (d<e)<|
if k=true then
qTb v1 v2 v9 v10 d c
else
if l=true then
qSb v1 v2 v9 v10 f c
else
qYa v1 v2 v9 m c):=SE
noncomputable def qfe (acc:List AV→Bool):Summ wg GT:=va.summ mixed acc true false
noncomputable def vx:FN:={f:=129,cuts:=[⟨(2,2),[0,1,2,3,4,10,11],false,false,[],[],[]⟩],tab:=[(qzf (fun _=>true)).dropping,(qog (fun _=>true)).dropping,(qfe (fun _=>true)).dropping,SS vR],fm:=⟨false,[.row 0 qja]⟩}
noncomputable def qLb (a1:Int) (a2:Int) (a3:Int) (h0:List qca):Option (List qca):=vx.call [(.ref qja 0 0 (we h0) true),(.int .i64 a1),(.int .i64 a2),(.int .i64 a3),(.func 87 [])] [(0,(.row qja false h0))]
noncomputable def qDd (v1:Int) (v2:Int) (v3:Int) (v10:Bool) (v11:Bool) (h0:List qca):Option (List qca):=vx.sem ⟨[.code (cIn (cIn (qaa (qaa (qea wg 129))))), .inLoop (cIn (cIn (qaa (qaa (qea wg 129))))), .inBlock 0],⟨[(0,(.one (.ref qja 0 0 (we h0) true))),(1,(.one (.int .i64 v1))),(2,(.one (.int .i64 v2))),(3,(.one (.int .i64 v3))),(4,(.one (.func 87 []))),(10,(.one (.bool v10))),(11,(.one (.bool v11)))],[(0,some (.row qja false h0))],9⟩⟩
theorem qCd (a1:Int) (a2:Int) (a3:Int) (h0:List qca):qLb a1 a2 a3 h0=(
qDd a1 a2 a3 true true h0):=CE
theorem qcd (v1:Int) (v2:Int) (v3:Int) (v10:Bool) (v11:Bool) (h0:List qca):qDd v1 v2 v3 v10 v11 h0=(
if (decide ((wd .i64 (v2 - v1))≤(12:Int)))=true then
(qPb v1 v2 h0).bind fun r1=>
some (r1)
else
if (v3==(0:Int))=true then
none
else
if (not v10)=true then
none
else
(qec v1 v2 h0).bind fun r2=>
if (r2.2.1==(2:Int))=true then
none
else
letI i:=(0+(wo r2.1))
letI g:=(qra qja)
letI f:=(decide (v1>(0:Int)))
letI e:=(wi (we h0))
letI c:=(wd .i64 (v1 - (1:Int)))
letI j:=(0+(wo c))
letI d:=(qrd (wm r2.2.2 j g) (wm r2.2.2 i g))
if v10=true then
if v11=true then
if (r2.2.1==(1:Int))=true then
(qlb v1 v2 r2.2.2).bind fun r3=>
if r3.1=true then
some (r3.2)
else
if f=true then
gd (0≤c)<|
gd (c<e)<|
gd (0≤r2.1)<|
gd (r2.1<e)<|
(qrd (wm r3.2 j g) (wm r3.2 i g)).bind fun r4=>
if (not (decide (r4<(0:Int))))=true then
none
else
none
else
none
else
if f=true then
gd (0≤c)<|
gd (c<e)<|
gd (0≤r2.1)<|
gd (r2.1<e)<|
d.bind fun r5=>
if (not (decide (r5<(0:Int))))=true then
none
else
none
else
none
else
if f=true then
gd (0≤c)<|
gd (c<e)<|
gd (0≤r2.1)<|
gd (r2.1<e)<|
d.bind fun r6=>
if (not (decide (r6<(0:Int))))=true then
none
else
none
else
none
else
if f=true then
gd (0≤c)<|
gd (c<e)<|
gd (0≤r2.1)<|
gd (r2.1<e)<|
d.bind fun r7=>
if (not (decide (r7<(0:Int))))=true then
none
else
none
else
none):=SE
noncomputable def quh (acc:List AV→Bool):Summ wg GT:=vx.summ mixed acc true false
noncomputable def vI:FN:={f:=86,cuts:=[],tab:=[SS vxa,(quh (fun _=>true)).dropping],fm:=⟨false,[.row 0 qja]⟩}
noncomputable def qOa (h0:List qca):Option (List qca):=vI.call [(.ref qja 0 0 (we h0) true),(.func 87 [])] [(0,(.row qja false h0))]
theorem qTc (h0:List qca):qOa h0=(
letI c:=(wi (we h0))
(qLe (wd .u64 c)).bind fun r1=>
(qLb (0:Int) c r1 h0).bind fun r2=>
some (r2)):=CE
noncomputable def qpg (acc:List AV→Bool):Summ wg GT:=vI.summ mixed acc true false
noncomputable def vda:FN:={f:=46,cuts:=[⟨(5,3),[1,5,15,16,17],false,false,[],[],[1]⟩,⟨(9,7),[1,5,6,8,15,16,17,27,28,29],false,false,[],[],[]⟩],tab:=[SS vQ,(qpg (fun _=>true)).dropping],fm:=⟨true,[.val (.slice qja) [.nw]]⟩}
noncomputable def qmn (a0:List Int) (a1:List qca):Option (List qca):=vda.call [(.sl (.int .i64) false a0),(.sl qja false a1)] []
noncomputable def qXc (v1n:Nat) (v15:List Int) (v16:Int) (v17:Int) (h8:List qca) (h9:List qca):Option (List qca):=vda.sem ⟨[.code (cIn (cIn (qaa (qHa (qaa (qaa (qaa (qaa (qea wg 46))))))))), .inLoop (cIn (cIn (qaa (qHa (qaa (qaa (qaa (qaa (qea wg 46))))))))), .inBlock 0, .code (qaa (qaa (qaa (qaa (qaa (qea wg 46))))))],⟨[(1,(.one (.ref qja 8 0 v1n false))),(5,(.one (.ref qja 9 0 (we h9) true))),(15,(.one (.sl (.int .i64) false v15))),(16,(.one (.int .i64 v16))),(17,(.one (.int .i64 v17)))],[(8,some (.row qja false h8)),(9,some (.row qja true h9))],10⟩⟩
noncomputable def qKd (v1n:Nat) (v6:Int) (v8:Int) (v15:List Int) (v16:Int) (v17:Int) (v28:Int) (v29:Int) (h8:List qca) (h9:List qca):Option (List qca):=vda.sem ⟨[.code (cIn (cIn (qaa (qaa (qaa (cIn (qHa (qaa (qaa (cIn (cIn (qaa (qHa (qaa (qaa (qaa (qaa (qea wg 46)))))))))))))))))), .inLoop (cIn (cIn (qaa (qaa (qaa (cIn (qHa (qaa (qaa (cIn (cIn (qaa (qHa (qaa (qaa (qaa (qaa (qea wg 46)))))))))))))))))), .inBlock 2, .inBlock 1, .code (qaa (qaa (qaa (cIn (cIn (qaa (qHa (qaa (qaa (qaa (qaa (qea wg 46)))))))))))), .inLoop (cIn (cIn (qaa (qHa (qaa (qaa (qaa (qaa (qea wg 46))))))))), .inBlock 0, .code (qaa (qaa (qaa (qaa (qaa (qea wg 46))))))],⟨[(1,(.one (.ref qja 8 0 v1n false))),(5,(.one (.ref qja 9 0 (we h9) true))),(6,(.one (.int .i64 v6))),(8,(.one (.int .i64 v8))),(15,(.one (.sl (.int .i64) false v15))),(16,(.one (.int .i64 v16))),(17,(.one (.int .i64 v17))),(27,(.one (.ref qja 8 0 (we h8) true))),(28,(.one (.int .i64 v28))),(29,(.one (.int .i64 v29)))],[(8,some (.row qja false h8)),(9,some (.row qja true h9))],10⟩⟩
noncomputable def qJd (v1n:Nat) (v6:Int) (v8:Int) (v15:List Int) (v16:Int) (v17:Int) (v28:Int) (v29:Int) (h8:List qca) (h9:List qca) (h10:List qca):Option (List qca):=vda.sem ⟨[.code (cIn (cIn (qaa (qaa (qaa (cIn (qHa (qaa (qaa (cIn (cIn (qaa (qHa (qaa (qaa (qaa (qaa (qea wg 46)))))))))))))))))), .inLoop (cIn (cIn (qaa (qaa (qaa (cIn (qHa (qaa (qaa (cIn (cIn (qaa (qHa (qaa (qaa (qaa (qaa (qea wg 46)))))))))))))))))), .inBlock 2, .inBlock 1, .code (qaa (qaa (qaa (cIn (cIn (qaa (qHa (qaa (qaa (qaa (qaa (qea wg 46)))))))))))), .inLoop (cIn (cIn (qaa (qHa (qaa (qaa (qaa (qaa (qea wg 46))))))))), .inBlock 0, .code (qaa (qaa (qaa (qaa (qaa (qea wg 46))))))],⟨[(1,(.one (.ref qja 8 0 v1n false))),(5,(.one (.ref qja 9 0 (we h9) true))),(6,(.one (.int .i64 v6))),(8,(.one (.int .i64 v8))),(15,(.one (.sl (.int .i64) false v15))),(16,(.one (.int .i64 v16))),(17,(.one (.int .i64 v17))),(27,(.one (.ref qja 10 0 (we h10) true))),(28,(.one (.int .i64 v28))),(29,(.one (.int .i64 v29)))],[(8,some (.row qja false h8)),(9,some (.row qja true h9)),(10,some (.row qja false h10))],11⟩⟩
theorem qcv (a0:List Int) (a1:List qca):qmn a0 a1=(
(qzc a1).bind fun r1=>
(qOa r1).bind fun r2=>
qXc (we r2) a0 (wi (we a0)) (0:Int) r2 []):=CE
theorem qnk (v1n:Nat) (v15:List Int) (v16:Int) (v17:Int) (h8:List qca) (h9:List qca):qXc v1n v15 v16 v17 h8 h9=(
if (decide (v17<v16))=true then
gd (0≤v17)<|
gd (v17<(wi (we v15)))<|
qaF (fun (r3:Bool)=>True) fun (r3:Bool)=>
if r3=true then
gd (v1n≤(we ((wL v1n h8)++[(v17,((wm v15 (wo v17) (0:Int)),((0:Int),())))])))<|
gd (v1n≤(we ((wL v1n h8)++[(v17,((wm v15 (wo v17) (0:Int)),((0:Int),())))])))<|
qKd v1n v17 (0:Int) v15 v16 v17 (wi (we ((wL v1n h8)++[(v17,((wm v15 (wo v17) (0:Int)),((0:Int),())))]))) (0:Int) ((wL v1n h8)++[(v17,((wm v15 (wo v17) (0:Int)),((0:Int),())))]) h9
else
gd ((we ((wL v1n h8)++[(v17,((wm v15 (wo v17) (0:Int)),((0:Int),())))]))*24≤140737488355328)<|
qJd v1n v17 (0:Int) v15 v16 v17 (wi (we ((wL v1n h8)++[(v17,((wm v15 (wo v17) (0:Int)),((0:Int),())))]))) (0:Int) h8 h9 ((wL v1n h8)++[(v17,((wm v15 (wo v17) (0:Int)),((0:Int),())))])
else
some (h9)):=SE
theorem qmk (v1n:Nat) (v6:Int) (v8:Int) (v15:List Int) (v16:Int) (v17:Int) (v28:Int) (v29:Int) (h8:List qca) (h9:List qca):qKd v1n v6 v8 v15 v16 v17 v28 v29 h8 h9=(
if (decide (v29<v28))=true then
gd (0≤v29)<|
gd (v29<(wi (we h8)))<|
letI e:=(wd .i64 (v29+(1:Int)))
letI c:=(wm h8 (0+(wo v29)) (qra qja))
if (c.1 != v6)=true then
qKd v1n v6 v8 v15 v16 v17 v28 e h8 h9
else
letI d:=(wd .i64 (c.2.1+c.2.2.1))
if (decide (c.2.1>v8))=true then
letI f:=(wd .i64 (c.2.1 - v8))
gd ((we (h9++[(v6,(v8,(f,())))]))*24≤140737488355328)<|
qKd v1n v6 (if d>v8 then d else v8) v15 v16 v17 v28 e h8 (h9++[(v6,(v8,(f,())))])
else
qKd v1n v6 (if d>v8 then d else v8) v15 v16 v17 v28 e h8 h9
else
qXc v1n v15 v16 (wd .i64 (v17+(1:Int))) h8 h9):=SE
theorem qlk (v1n:Nat) (v6:Int) (v8:Int) (v15:List Int) (v16:Int) (v17:Int) (v28:Int) (v29:Int) (h8:List qca) (h9:List qca) (h10:List qca):qJd v1n v6 v8 v15 v16 v17 v28 v29 h8 h9 h10=(
if (decide (v29<v28))=true then
gd (0≤v29)<|
gd (v29<(wi (we h10)))<|
letI e:=(wd .i64 (v29+(1:Int)))
letI c:=(wm h10 (0+(wo v29)) (qra qja))
if (c.1 != v6)=true then
qJd v1n v6 v8 v15 v16 v17 v28 e h8 h9 h10
else
letI d:=(wd .i64 (c.2.1+c.2.2.1))
if (decide (c.2.1>v8))=true then
letI f:=(wd .i64 (c.2.1 - v8))
gd ((we (h9++[(v6,(v8,(f,())))]))*24≤140737488355328)<|
qJd v1n v6 (if d>v8 then d else v8) v15 v16 v17 v28 e h8 (h9++[(v6,(v8,(f,())))]) h10
else
qJd v1n v6 (if d>v8 then d else v8) v15 v16 v17 v28 e h8 h9 h10
else
qXc v1n v15 v16 (wd .i64 (v17+(1:Int))) h8 h9):=SE
noncomputable def vua:FN:={f:=19,cuts:=[⟨(9,3),[0,1,7,8,26,27,28],false,false,[9],[],[]⟩,⟨(16,3),[0,1,7,8,11,47,48,49],false,false,[9],[],[]⟩,⟨(27,3),[0,8,82,83,84],false,false,[],[8],[]⟩],tab:=[SS vH,SS vpd,qtw (fun _=>true),SS vda,SS vEa],fm:=⟨true,[.val (.slice qwa) [.nw], .val (.int .i64) []]⟩}
noncomputable def qbd (a0:List qba) (a1:List qoa):Option (List qxa×Int):=vua.call [(.sl qla false a0),(.sl qJa false a1)] []
noncomputable def qgl (v0:List qba) (v1:List qoa) (v26:List qba) (v27:Int) (v28:Int) (h8:List Int) (h9:List (ByteArray×List Int)):Option (List qxa×Int):=vua.sem ⟨[.code (cIn (cIn (qaa (qHa (qaa (qaa (qaa (qaa (qaa (qea wg 19)))))))))), .inLoop (cIn (cIn (qaa (qHa (qaa (qaa (qaa (qaa (qaa (qea wg 19)))))))))), .inBlock 0, .code (qaa (qaa (qaa (qaa (qaa (qaa (qea wg 19)))))))],⟨[(0,(.one (.sl qla false v0))),(1,(.one (.sl qJa false v1))),(7,(.one (.ref (.int .i64) 8 0 (we h8) true))),(8,(.one (.ref qwa 9 0 (we (qAi (a:= .str) (e:=(.int .u8)) h9)) true))),(26,(.one (.sl qla false v26))),(27,(.one (.int .i64 v27))),(28,(.one (.int .i64 v28)))],[(8,some (.row (.int .i64) true h8)),(9,some (.famS .str (.int .u8) h9))],10⟩⟩
noncomputable def qxf (v0:List qba) (v1:List qoa) (v47:List qoa) (v48:Int) (v49:Int) (h8:List Int) (h9:List (ByteArray×List Int)) (h10:List qca):Option (List qxa×Int):=vua.sem ⟨[.code (cIn (cIn (qaa (qHa (qaa (qaa (qaa (qaa (qaa (qaa (qaa (qea wg 19)))))))))))), .inLoop (cIn (cIn (qaa (qHa (qaa (qaa (qaa (qaa (qaa (qaa (qaa (qea wg 19)))))))))))), .inBlock 2, .code (qaa (qaa (qaa (qaa (qaa (qaa (qaa (qaa (qea wg 19)))))))))],⟨[(0,(.one (.sl qla false v0))),(1,(.one (.sl qJa false v1))),(7,(.one (.ref (.int .i64) 8 0 (we h8) true))),(8,(.one (.ref qwa 9 0 (we (qAi (a:= .str) (e:=(.int .u8)) h9)) true))),(11,(.one (.ref qja 10 0 (we h10) true))),(47,(.one (.sl qJa false v47))),(48,(.one (.int .i64 v48))),(49,(.one (.int .i64 v49)))],[(8,some (.row (.int .i64) true h8)),(9,some (.famS .str (.int .u8) h9)),(10,some (.row qja true h10))],11⟩⟩
noncomputable def qZi (v0:List qba) (v83:Int) (v84:Int) (h8:List qxa):Option (List qxa×Int):=vua.sem ⟨[.code (cIn (cIn (qaa (qHa (qaa (qaa (qaa (qaa (qaa (qaa (qaa (qaa (qaa (qaa (qea wg 19))))))))))))))), .inLoop (cIn (cIn (qaa (qHa (qaa (qaa (qaa (qaa (qaa (qaa (qaa (qaa (qaa (qaa (qea wg 19))))))))))))))), .inBlock 4, .code (qaa (qaa (qaa (qaa (qaa (qaa (qaa (qaa (qaa (qaa (qaa (qea wg 19))))))))))))],⟨[(0,(.one (.sl qla false v0))),(8,(.one (.ref qwa 8 0 (we h8) true))),(82,(.one (.ref qwa 8 0 (we h8) true))),(83,(.one (.int .i64 v83))),(84,(.one (.int .i64 v84)))],[(8,some (.row qwa true h8))],9⟩⟩
theorem qXC (a0:List qba) (a1:List qoa):qbd a0 a1=(
(qPf a0).bind fun r1=>
if (r1 != (0:Int))=true then
some ([],r1)
else
if (decide ((wi (we a1))>(600:Int)))=true then
some ([],(4:Int))
else
qgl a0 a1 a0 (wi (we a0)) (0:Int) [] []):=CE
theorem qJo (v0:List qba) (v1:List qoa) (v26:List qba) (v27:Int) (v28:Int) (h8:List Int) (h9:List (ByteArray×List Int)):qgl v0 v1 v26 v27 v28 h8 h9=(
if (decide (v28<v27))=true then
gd (0≤v28)<|
gd (v28<(wi (we v26)))<|
letI c:=(wm v26 (wo v28) (qra qla))
letI e:=(h8++[c.2.1])
gd ((we e)*8≤140737488355328)<|
gd (c.2.1=c.2.1)<|
gd (0≤c.2.1)<|
gd (c.2.1*1≤140737488355328)<|
gd (c.2.1≤9223372036854775807)<|
letI d:=(h9++[(c.1,(wl (wo c.2.1) (0:Int)))])
gd ((we d)*40≤140737488355328)<|
qgl v0 v1 v26 v27 (wd .i64 (v28+(1:Int))) e d
else
qxf v0 v1 v1 (wi (we v1)) (0:Int) h8 h9 []):=SE
theorem qIo (v0:List qba) (v1:List qoa) (v47:List qoa) (v48:Int) (v49:Int) (h8:List Int) (h9:List (ByteArray×List Int)) (h10:List qca):qxf v0 v1 v47 v48 v49 h8 h9 h10=(
if (decide (v49<v48))=true then
gd (0≤v49)<|
gd (v49<(wi (we v47)))<|
letI c:=(wm v47 (wo v49) (qra qJa))
(qGo h8 c.1).bind fun r2=>
if (not r2)=true then
some ([],(8:Int))
else
if ((wi (we c.2.1)) != c.1.2.2.1)=true then
some ([],(8:Int))
else
gd ((we (h10++[c.1]))*24≤140737488355328)<|
qxf v0 v1 v47 v48 (wd .i64 (v49+(1:Int))) h8 h9 (h10++[c.1])
else
(qnn v1 h9).bind fun r3=>
if (not r3.1)=true then
some ([],(14:Int))
else
(qmn h8 h10).bind fun r4=>
if (decide ((wi (we r4))>(0:Int)))=true then
some ([],(40:Int))
else
qZi v0 (wi (we (qAi (a:= .str) (e:=(.int .u8)) h9))) (0:Int) (qAi (a:= .str) (e:=(.int .u8)) r3.2)):=SE
theorem qHo (v0:List qba) (v83:Int) (v84:Int) (h8:List qxa):qZi v0 v83 v84 h8=(
if (decide (v84<v83))=true then
gd (0≤v84)<|
gd (v84<(wi (we h8)))<|
letI c:=(wo v84)
(qxt (wm h8 (0+c) (qra qwa)).2.1).bind fun r5=>
gd (0≤v84)<|
gd (v84<(wi (we v0)))<|
if (not (peq (.arr 20 (.int .u8)) r5.1 (wm v0 c (qra qla)).2.2.1))=true then
some ([],(22:Int))
else
qZi v0 v83 (wd .i64 (v84+(1:Int))) h8
else
some (h8,(0:Int))):=SE
noncomputable def vSa:FN:={f:=7,cuts:=[],tab:=[SS vHa,SS vO,SS vua],fm:=⟨true,[.val (.slice qwa) [.nw], .val (.int .i64) []]⟩}
noncomputable def qIb (a0:List Int):Option (List qxa×Int):=vSa.call [(.sl (.int .u8) false a0)] []
theorem qnf (a0:List Int):qIb a0=(
(qSd a0).bind fun r1=>
if (r1.2.2 != (0:Int))=true then
some ([],r1.2.2)
else
(qbc r1.1.1.1 r1.2.1).bind fun r2=>
if (r2.2 != (0:Int))=true then
some ([],r2.2)
else
(qbd r1.1.2.1 r2.1).bind fun r3=>
some (r3)):=CE
noncomputable def vJd:FN:={f:=8,cuts:=[⟨(8,3),[4,6,7,10,38,39],false,false,[],[],[]⟩],tab:=[(SS vJb).dropping,SS vO,SS vua],fm:=⟨true,[.val qwa [], .val (.int .i64) []]⟩}
noncomputable def qJr (a0:List Int) (a1:ByteArray):Option (qxa×Int):=vJd.call [(.sl (.int .u8) false a0),(.str a1)] []
noncomputable def qBg (v7:Int) (v38:Int) (v39:Int) (b8a:ByteArray) (b8bb:Unit) (b9:qCa) (h10:List qoa) (h11:List Int):Option (qxa×Int):=vJd.sem ⟨[.code (cIn (cIn (qaa (qHa (qaa (qaa (qaa (qaa (qaa (qea wg 8)))))))))), .inLoop (cIn (cIn (qaa (qHa (qaa (qaa (qaa (qaa (qaa (qea wg 8)))))))))), .inBlock 0, .code (qaa (qaa (qaa (qaa (qaa (qaa (qea wg 8)))))))],⟨[(4,(.one (.ptr qwa 8 []))),(6,(.one (.ptr qcb 9 []))),(7,(.one (.int .i64 v7))),(10,(.one (.ref qJa 10 0 (we h10) true))),(38,(.one (.int .i64 v38))),(39,(.one (.int .i64 v39)))],[(8,some (.box qwa (b8a,((SV.ref 11 0 (we h11) true),b8bb)))),(9,some (.box qcb (inj false qcb b9))),(10,some (.row qJa true h10)),(11,some (.row (.int .u8) true h11))],12⟩⟩
theorem qOz (a0:List Int) (a1:ByteArray):qJr a0 a1=(
(qOl a0 a1).bind fun r1=>
if (r1.2.2.2 != (0:Int))=true then
some ((wD,([],())),r1.2.2.2)
else
(qbc r1.1.1.1 (wL r1.2.2.1.2.2 (wY r1.2.2.1.2.1 r1.2.2.1.1))).bind fun r2=>
if (r2.2 != (0:Int))=true then
some ((wD,([],())),r2.2)
else
qBg r1.2.1 (wi (we r2.1)) (0:Int) wD () r1.1 r2.1 []):=CE
theorem qan (v7:Int) (v38:Int) (v39:Int) (b8a:ByteArray) (b8bb:Unit) (b9:qCa) (h10:List qoa) (h11:List Int):qBg v7 v38 v39 b8a b8bb b9 h10 h11=(
if (decide (v39<v38))=true then
gd (0≤v39)<|
gd (v39<(wi (we h10)))<|
letI e:=(0+(wo v39))
letI d:=(wm h10 e (qra qJa))
qBg v7 v38 (wd .i64 (v39+(1:Int))) b8a b8bb b9 (wC h10 e (((0:Int),d.1.2),d.2)) h11
else
gd (0≤v7)<|
letI c:=(wd .i64 (v7+(1:Int)))
gd (v7≤c)<|
gd (c≤(wi (we b9.2.1)))<|
(qbd (wL ((wo c) - (wo v7)) (wY (wo v7) b9.2.1)) h10).bind fun r3=>
if (r3.2 != (0:Int))=true then
some ((wD,([],())),r3.2)
else
gd (0≤(0:Int))<|
gd ((0:Int)<(wi (we r3.1)))<|
some ((wm r3.1 0 (qra qwa)),(0:Int))):=SE
noncomputable def vqb:FN:={f:=137,cuts:=[],tab:=[],fm:=⟨true,[.val (.int .i64) []]⟩}
noncomputable def qfi (a0:qga):Option (Int):=vqb.call [(.agg qva (inj false qva a0))] []
theorem qPp (a0:qga):qfi a0=(
if (decide (a0.2.1<(0:Int)))=true then
some (8:Int)
else
if (decide (a0.2.1≥(16:Int)))=true then
some (8:Int)
else
if (decide (a0.2.2.2.1<(1:Int)))=true then
some (8:Int)
else
if (decide (a0.2.2.2.1>(4096:Int)))=true then
some (8:Int)
else
if (decide (a0.2.2.1<(0:Int)))=true then
some (8:Int)
else
if (decide (a0.2.2.1>(wd .i64 ((8192:Int) - a0.2.2.2.1))))=true then
some (8:Int)
else
letI f:=(a0.1==(2:Int))
letI e:=(decide (a0.2.2.2.2.1≥(1:Int)))
letI d:=(not (decide (a0.2.2.2.2.1<a0.2.2.2.1)))
if (a0.1==(1:Int))=true then
letI c:=(not (a0.2.2.2.2.1==a0.2.2.2.1))
if f=true then
if e=true then
if c=true then
if d=true then
some (8:Int)
else
some (0:Int)
else
some (0:Int)
else
if c=true then
some (8:Int)
else
some (0:Int)
else
if c=true then
some (8:Int)
else
some (0:Int)
else
if f=true then
if e=true then
if d=true then
some (8:Int)
else
some (0:Int)
else
some (8:Int)
else
some (8:Int)):=CE
noncomputable def voa:FN:={f:=97,cuts:=[⟨(5,3),[0,2,4,5],false,false,[],[],[]⟩],tab:=[SS vqb],fm:=⟨true,[.val qva [], .val (.int .i64) []]⟩}
noncomputable def qdi (a0:List Int):Option (qga×Int):=voa.call [(.sl (.int .u8) false a0)] []
noncomputable def qYd (v0:List Int) (v5:Int) (b8:qga) (b9:qga):Option (qga×Int):=voa.sem ⟨[.code (cIn (cIn (qaa (qHa (qaa (qaa (qaa (qea wg 97)))))))), .inLoop (cIn (cIn (qaa (qHa (qaa (qaa (qaa (qea wg 97)))))))), .inBlock 0, .code (qaa (qaa (qaa (qaa (qea wg 97)))))],⟨[(0,(.one (.sl (.int .u8) false v0))),(2,(.one (.ptr qva 8 []))),(4,(.one (.ptr qva 9 []))),(5,(.one (.int .i64 v5)))],[(8,some (.box qva (inj false qva b8))),(9,some (.box qva (inj false qva b9)))],10⟩⟩
theorem qNp (a0:List Int):qdi a0=(
letI d:=(wl 20 (0:Int))
letI c:=(wi (we a0))
if (c != (28:Int))=true then
some (((0:Int),((0:Int),((0:Int),((0:Int),((0:Int),(d,())))))),(12:Int))
else
gd (0≤(0:Int))<|
gd ((0:Int)<c)<|
gd (0≤(1:Int))<|
gd ((1:Int)<c)<|
gd (0≤(2:Int))<|
gd ((2:Int)<c)<|
gd (0≤(8:Int))<|
gd (0≤(3:Int))<|
gd ((3:Int)<c)<|
gd (0≤(4:Int))<|
gd ((4:Int)<c)<|
gd (0≤(8:Int))<|
gd (0≤(5:Int))<|
gd ((5:Int)<c)<|
gd (0≤(6:Int))<|
gd ((6:Int)<c)<|
gd (0≤(8:Int))<|
gd (0≤(7:Int))<|
gd ((7:Int)<c)<|
qYd a0 (0:Int) ((0:Int),((0:Int),((0:Int),((0:Int),((0:Int),(d,())))))) ((wm a0 0 (0:Int)),((wd .i64 (wm a0 1 (0:Int))),((wd .i64 ((wd .i64 ((wd .i64 (wm a0 2 (0:Int)))*(256:Int)))+(wd .i64 (wm a0 3 (0:Int))))),((wd .i64 ((wd .i64 ((wd .i64 (wm a0 4 (0:Int)))*(256:Int)))+(wd .i64 (wm a0 5 (0:Int))))),((wd .i64 ((wd .i64 ((wd .i64 (wm a0 6 (0:Int)))*(256:Int)))+(wd .i64 (wm a0 7 (0:Int))))),(d,()))))))):=CE
theorem qjh (v0:List Int) (v5:Int) (b8:qga) (b9:qga):qYd v0 v5 b8 b9=(
if (decide (v5<(20:Int)))=true then
letI c:=(wd .i64 ((8:Int)+v5))
gd (0≤c)<|
gd (c<(wi (we v0)))<|
gd (0≤v5)<|
gd (v5<(20:Int))<|
qYd v0 (wd .i64 (v5+(1:Int))) b8 (b9.1,(b9.2.1,(b9.2.2.1,(b9.2.2.2.1,(b9.2.2.2.2.1,((wC b9.2.2.2.2.2.1 (wo v5) (wm v0 (wo c) (0:Int))),b9.2.2.2.2.2.2))))))
else
(qfi b9).bind fun r1=>
if (r1 != (0:Int))=true then
some (((0:Int),((0:Int),((0:Int),((0:Int),((0:Int),((wl 20 (0:Int)),())))))),(12:Int))
else
some (b9,(0:Int))):=SE
noncomputable def vN:FN:={f:=96,cuts:=[⟨(5,3),[0,1,5,6],false,false,[],[],[]⟩],tab:=[SS vqa],fm:=⟨true,[.val .bool []]⟩}
noncomputable def qvd (a0:List Int) (a1:Int):Option (Bool):=vN.call [(.sl (.int .u8) false a0),(.int .i64 a1)] []
noncomputable def qAc (v0:List Int) (v1:Int) (v6:Int) (h8:List Int):Option (Bool):=vN.sem ⟨[.code (cIn (cIn (qaa (qHa (qaa (qaa (qaa (qea wg 96)))))))), .inLoop (cIn (cIn (qaa (qHa (qaa (qaa (qaa (qea wg 96)))))))), .inBlock 0, .code (qaa (qaa (qaa (qaa (qea wg 96)))))],⟨[(0,(.one (.sl (.int .u8) false v0))),(1,(.one (.int .i64 v1))),(5,(.one (.ref (.int .u8) 8 0 (we h8) true))),(6,(.one (.int .i64 v6)))],[(8,some (.row (.int .u8) true h8))],9⟩⟩
theorem qoi (a0:List Int) (a1:Int):qvd a0 a1=(
(qqf).bind fun r1=>
if (decide (a1<(0:Int)))=true then
some (false)
else
letI c:=(wi (we a0))
if (decide (a1>c))=true then
some (false)
else
if (decide ((wd .i64 (c - a1))<(13:Int)))=true then
some (false)
else
qAc a0 a1 (0:Int) r1):=CE
theorem qLc (v0:List Int) (v1:Int) (v6:Int) (h8:List Int):qAc v0 v1 v6 h8=(
if (decide (v6<(13:Int)))=true then
letI c:=(wd .i64 (v1+v6))
gd (0≤c)<|
gd (c<(wi (we v0)))<|
gd (0≤v6)<|
gd (v6<(wi (we h8)))<|
if ((wm v0 (wo c) (0:Int)) != (wm h8 (0+(wo v6)) (0:Int)))=true then
some (false)
else
qAc v0 v1 (wd .i64 (v6+(1:Int))) h8
else
some (true)):=SE
noncomputable def vja:FN:={f:=55,cuts:=[],tab:=[SS voa,SS vN],fm:=⟨true,[.val qpa [], .val (.int .i64) [], .val (.int .i64) []]⟩}
noncomputable def qud (a0:List Int):Option (qda×Int×Int):=vja.call [(.sl (.int .u8) false a0)] []
theorem qBo (a0:List Int):qud a0=(
letI e:=(wi (we a0))
letI d:=(wl 20 (0:Int))
if (decide (e<(41:Int)))=true then
some ((((0:Int),((0:Int),((0:Int),((0:Int),((0:Int),(d,())))))),([],())),((0:Int),(18:Int)))
else
gd (0≤(13:Int))<|
gd ((13:Int)≤(41:Int))<|
gd ((41:Int)≤e)<|
(qdi (wL 28 (wY 13 a0))).bind fun r1=>
(qvd a0 (0:Int)).bind fun r2=>
if (not r2)=true then
some ((((0:Int),((0:Int),((0:Int),((0:Int),((0:Int),(d,())))))),([],())),((0:Int),(12:Int)))
else
if (r1.2 != (0:Int))=true then
some ((((0:Int),((0:Int),((0:Int),((0:Int),((0:Int),(d,())))))),([],())),((0:Int),(12:Int)))
else
if (decide ((wd .i64 (e - (41:Int)))<r1.1.2.2.2.2.1))=true then
some ((((0:Int),((0:Int),((0:Int),((0:Int),((0:Int),(d,())))))),([],())),((0:Int),(18:Int)))
else
gd (0≤(41:Int))<|
letI c:=(wd .i64 ((41:Int)+r1.1.2.2.2.2.1))
gd ((41:Int)≤c)<|
gd (c≤e)<|
letI f:=(wL ((wo c) - 41) (wY 41 a0))
gd ((we ([]++f))*1≤140737488355328)<|
some ((r1.1,(([]++f),())),(c,(0:Int)))):=CE
noncomputable def vUd:FN:={f:=70,cuts:=[],tab:=[SS vja],fm:=⟨true,[.val qpa [], .val (.int .i64) [], .val (.int .i64) []]⟩}
noncomputable def qin (a0:List Int):Option (qda×Int×Int):=vUd.call [(.sl (.int .u8) false a0)] []
theorem qLj (a0:List Int):qin a0=(
if (decide ((wi (we a0))>(50000:Int)))=true then
some ((((0:Int),((0:Int),((0:Int),((0:Int),((0:Int),((wl 20 (0:Int)),())))))),([],())),((0:Int),(4:Int)))
else
(qud a0).bind fun r1=>
some (r1)):=CE
noncomputable def vWa:FN:={f:=23,cuts:=[],tab:=[SS vVa,SS vpa,SS vBb,SS vwa],fm:=⟨true,[.val (.slice (.int .u8)) [.nw]]⟩}
noncomputable def qug:Option (List Int):=vWa.call [] []
theorem qYn:qug=(
(qYh (qAi (a:= .str) (e:=(.int .u8)) [((ByteArray.mk #[97]),[(7:Int)])])).bind fun r1=>
(qUd ((0:Int),((16:Int),())) r1.1).bind fun r2=>
(qGi (0:Int) (0:Int) [(7:Int)] [(7:Int)]).bind fun r3=>
(qEi r2 [r3]).bind fun r4=>
some (r4)):=CE
noncomputable def vic:FN:={f:=12,cuts:=[],tab:=[SS vXa,SS vSa],fm:=⟨true,[.val .bool [], .val (.int .i64) []]⟩}
noncomputable def qri (a0:List Int):Option (Bool×Int):=vic.call [(.sl (.int .u8) false a0)] []
theorem qcm (a0:List Int):qri a0=(
(qHk a0).bind fun r1=>
if (r1.2.2.2 != (0:Int))=true then
some (false,r1.2.2.2)
else
(qIb a0).bind fun r2=>
some ((r2.2==(0:Int)),(0:Int))):=CE
noncomputable def vM:FN:={f:=61,cuts:=[⟨(8,3),[7,8],false,false,[],[],[]⟩],tab:=[SS vAa],fm:=⟨true,[.val (.slice (.int .u8)) [.nw]]⟩}
noncomputable def qIc (a0:List Int) (a1:Int):Option (List Int):=vM.call [(.sl (.int .u8) false a0),(.int .i64 a1)] []
noncomputable def qnc (v8:Int) (h8:List Int):Option (List Int):=vM.sem ⟨[.code (cIn (cIn (qHa (qaa (qaa (qaa (qaa (qaa (qaa (qea wg 61)))))))))), .inLoop (cIn (cIn (qHa (qaa (qaa (qaa (qaa (qaa (qaa (qea wg 61)))))))))), .inBlock 0, .code (qaa (qaa (qaa (qaa (qaa (qaa (qaa (qea wg 61))))))))],⟨[(7,(.one (.ref (.int .u8) 8 0 (we h8) true))),(8,(.one (.int .i64 v8)))],[(8,some (.row (.int .u8) true h8))],9⟩⟩
theorem qNj (a0:List Int) (a1:Int):qIc a0 a1=(
if (decide (a1<(0:Int)))=true then
none
else
letI f:=(we a0)
(qeg (wd .u64 (wi f)) (wd .u64 a1)).bind fun r1=>
if (decide (r1.1>(0:Int)))=true then
none
else
if (decide (r1.2>(9223372036854775807:Int)))=true then
none
else
letI c:=(wd .i64 r1.2)
gd (c=c)<|
gd (0≤c)<|
gd (c*1≤140737488355328)<|
gd (c≤9223372036854775807)<|
letI d:=(wl (wo c) (0:Int))
letI e:=(min f (we d))
qnc (wi e) (qsb d 0 (wL e a0))):=CE
theorem qMb (v8:Int) (h8:List Int):qnc v8 h8=(
letI g:=(we h8)
letI d:=(wi g)
if (decide (v8<d))=true then
gd (0≤v8)<|
gd (v8≤d)<|
gd (0≤v8)<|
gd (v8≤d)<|
letI f:=(wo v8)
letI e:=(wL (f - 0) (wY 0 h8))
letI c:=(min (we e) (g - f))
qnc (wd .i64 (v8+(wi c))) (qsb h8 (0+f) (wL c e))
else
some (h8)):=SE
noncomputable def vId:FN:={f:=106,cuts:=[],tab:=[SS vGa,SS vFb,qGC (fun _=>true)],fm:=⟨true,[.val (.int .i64) [], .val (.int .i64) []]⟩}
noncomputable def qQf (a0:List Int) (a1:Int):Option (Int×Int):=vId.call [(.sl (.int .u8) false a0),(.int .i64 a1)] []
theorem qBz (a0:List Int) (a1:Int):qQf a0 a1=(
(qZg a0 a1).bind fun r1=>
if (r1 != (0:Int))=true then
some ((0:Int),r1)
else
gd (0≤a1)<|
gd (a1≤(wi (we a0)))<|
(qDl).bind fun r2=>
(qTk (wY (wo a1) a0) r2).bind fun r3=>
if (decide (r3<(0:Int)))=true then
some ((0:Int),(6:Int))
else
some ((wd .i64 (a1+r3)),(0:Int))):=CE
noncomputable def vFc:FN:={f:=62,cuts:=[⟨(6,3),[0,5,6,7],false,false,[],[],[]⟩],tab:=[SS vGa,SS vId],fm:=⟨true,[.val (.slice (.int .i64)) [.nw], .val (.int .i64) []]⟩}
noncomputable def qiq (a0:List Int):Option (List Int×Int):=vFc.call [(.sl (.int .u8) false a0)] []
noncomputable def qHh (v0:List Int) (v6:Int) (v7:Int) (h8:List Int):Option (List Int×Int):=vFc.sem ⟨[.code (cIn (cIn (qaa (qHa (qaa (qaa (qaa (qea wg 62)))))))), .inLoop (cIn (cIn (qaa (qHa (qaa (qaa (qaa (qea wg 62)))))))), .inBlock 0, .code (qaa (qaa (qaa (qaa (qea wg 62)))))],⟨[(0,(.one (.sl (.int .u8) false v0))),(5,(.one (.ref (.int .i64) 8 0 (we h8) true))),(6,(.one (.int .i64 v6))),(7,(.one (.int .i64 v7)))],[(8,some (.row (.int .i64) true h8))],9⟩⟩
theorem qEB (a0:List Int):qiq a0=(
(qZg a0 (0:Int)).bind fun r1=>
if (r1 != (0:Int))=true then
some ([],r1)
else
(qQf a0 (0:Int)).bind fun r2=>
qHh a0 r2.1 r2.2 []):=CE
theorem qoo (v0:List Int) (v6:Int) (v7:Int) (h8:List Int):qHh v0 v6 v7 h8=(
if (v7==(0:Int))=true then
gd ((we (h8++[v6]))*8≤140737488355328)<|
(qQf v0 (wd .i64 (v6+(13:Int)))).bind fun r3=>
qHh v0 r3.1 r3.2 (h8++[v6])
else
some (h8,(0:Int))):=SE
noncomputable def vn:FN:={f:=63,cuts:=[⟨(2,3),[0,3,7,8],false,false,[],[],[]⟩],tab:=[],fm:=⟨true,[.val (.int .i64) []]⟩}
noncomputable def qyc (a0:List qca) (a1:qca):Option (Int):=vn.call [(.sl qja false a0),(.agg qja (inj false qja a1))] []
noncomputable def qrb (v0:List qca) (v7:Int) (v8:Int) (b8:qca):Option (Int):=vn.sem ⟨[.code (cIn (cIn (qaa (qHa (qaa (qea wg 63)))))), .inLoop (cIn (cIn (qaa (qHa (qaa (qea wg 63)))))), .inBlock 0, .code (qaa (qaa (qea wg 63)))],⟨[(0,(.one (.sl qja false v0))),(3,(.one (.ptr qja 8 []))),(7,(.one (.int .i64 v7))),(8,(.one (.int .i64 v8)))],[(8,some (.box qja (inj false qja b8)))],9⟩⟩
theorem qMg (a0:List qca) (a1:qca):qyc a0 a1=(
qrb a0 (wi (we a0)) (0:Int) a1):=CE
theorem qVc (v0:List qca) (v7:Int) (v8:Int) (b8:qca):qrb v0 v7 v8 b8=(
if (decide (v8<v7))=true then
gd (0≤v8)<|
gd (v8<(wi (we v0)))<|
if (peq qja b8 (wm v0 (wo v8) (qra qja)))=true then
some (v8)
else
qrb v0 v7 (wd .i64 (v8+(1:Int))) b8
else
some (-1:Int)):=SE
noncomputable def vca:FN:={f:=32,cuts:=[⟨(7,3),[0,2,4,8,9,36,37,38],false,false,[],[],[]⟩,⟨(15,3),[0,2,4,8,67,68,69],false,false,[],[],[]⟩],tab:=[SS vXa,SS vka,SS vM,SS vFc,SS vkb,SS vn,SS vWc],fm:=⟨true,[.val qkd [], .val (.int .i64) []]⟩}
noncomputable def qFe (a0:List Int):Option (qig×Int):=vca.call [(.sl (.int .u8) false a0)] []
noncomputable def qFg (v0:List Int) (v37:Int) (v38:Int) (b8a:qha) (b8bbbb:Unit) (b9:qha) (b10a:qha) (b10bbbb:Unit) (h11:List Int) (h12:List qba) (h13:List qba) (h14:List qca) (h15:List Int) (h16:List qca) (h17:List Int):Option (qig×Int):=vca.sem ⟨[.code (cIn (cIn (qaa (qHa (qaa (qaa (qaa (qaa (qaa (qea wg 32)))))))))), .inLoop (cIn (cIn (qaa (qHa (qaa (qaa (qaa (qaa (qaa (qea wg 32)))))))))), .inBlock 0, .code (qaa (qaa (qaa (qaa (qaa (qaa (qea wg 32)))))))],⟨[(0,(.one (.sl (.int .u8) false v0))),(2,(.one (.ptr qkd 8 []))),(4,(.one (.ptr qsa 9 []))),(8,(.one (.ptr qkd 10 []))),(9,(.one (.ref (.int .i64) 11 0 (we h11) true))),(36,(.one (.ref qla 12 0 (we h12) true))),(37,(.one (.int .i64 v37))),(38,(.one (.int .i64 v38)))],[(8,some (.box qkd ((inj false qsa b8a),((SV.ref 13 0 (we h13) true),((SV.ref 14 0 (we h14) true),((SV.ref 15 0 (we h15) true),b8bbbb)))))),(9,some (.box qsa (inj false qsa b9))),(10,some (.box qkd ((inj false qsa b10a),((SV.ref 12 0 (we h12) true),((SV.ref 16 0 (we h16) true),((SV.ref 17 0 (we h17) true),b10bbbb)))))),(11,some (.row (.int .i64) true h11)),(12,some (.row qla true h12)),(13,some (.row qla true h13)),(14,some (.row qja true h14)),(15,some (.row (.int .u8) true h15)),(16,some (.row qja true h16)),(17,some (.row (.int .u8) true h17))],18⟩⟩
noncomputable def qac (v0:List Int) (v68:Int) (v69:Int) (b8a:qha) (b8bbbb:Unit) (b9:qha) (b10a:qha) (b10bbbb:Unit) (h11:List Int) (h12:List qba) (h13:List qca) (h14:List Int) (h15:List qba) (h16:List qca) (h17:List Int):Option (qig×Int):=vca.sem ⟨[.code (cIn (cIn (qaa (qHa (qaa (qaa (qaa (qaa (qaa (qaa (qaa (qaa (qaa (qea wg 32)))))))))))))), .inLoop (cIn (cIn (qaa (qHa (qaa (qaa (qaa (qaa (qaa (qaa (qaa (qaa (qaa (qea wg 32)))))))))))))), .inBlock 2, .code (qaa (qaa (qaa (qaa (qaa (qaa (qaa (qaa (qaa (qaa (qea wg 32)))))))))))],⟨[(0,(.one (.sl (.int .u8) false v0))),(2,(.one (.ptr qkd 8 []))),(4,(.one (.ptr qsa 9 []))),(8,(.one (.ptr qkd 10 []))),(67,(.one (.ref (.int .i64) 11 0 (we h11) true))),(68,(.one (.int .i64 v68))),(69,(.one (.int .i64 v69)))],[(8,some (.box qkd ((inj false qsa b8a),((SV.ref 12 0 (we h12) true),((SV.ref 13 0 (we h13) true),((SV.ref 14 0 (we h14) true),b8bbbb)))))),(9,some (.box qsa (inj false qsa b9))),(10,some (.box qkd ((inj false qsa b10a),((SV.ref 15 0 (we h15) true),((SV.ref 16 0 (we h16) true),((SV.ref 17 0 (we h17) true),b10bbbb)))))),(11,some (.row (.int .i64) true h11)),(12,some (.row qla true h12)),(13,some (.row qja true h13)),(14,some (.row (.int .u8) true h14)),(15,some (.row qla true h15)),(16,some (.row qja true h16)),(17,some (.row (.int .u8) true h17))],18⟩⟩
theorem qdo (a0:List Int):qFe a0=(
(qHk a0).bind fun r1=>
if (r1.2.2.2 != (0:Int))=true then
some ((((0:Int),((0:Int),())),([],([],([],())))),r1.2.2.2)
else
qFg a0 (wi (we r1.2.1)) (0:Int) ((0:Int),((0:Int),())) () r1.1 r1.1 () [] r1.2.1 [] [] [] [] []):=CE
theorem qik (v0:List Int) (v37:Int) (v38:Int) (b8a:qha) (b8bbbb:Unit) (b9:qha) (b10a:qha) (b10bbbb:Unit) (h11:List Int) (h12:List qba) (h13:List qba) (h14:List qca) (h15:List Int) (h16:List qca) (h17:List Int):qFg v0 v37 v38 b8a b8bbbb b9 b10a b10bbbb h11 h12 h13 h14 h15 h16 h17=(
if (decide (v38<v37))=true then
gd (0≤v38)<|
gd (v38<(wi (we h12)))<|
letI c:=(h11++[(wm h12 (0+(wo v38)) (qra qla)).2.1])
gd ((we c)*8≤140737488355328)<|
qFg v0 v37 (wd .i64 (v38+(1:Int))) b8a b8bbbb b9 b10a b10bbbb c h12 h13 h14 h15 h16 h17
else
(qaj h11 b9.2.1).bind fun r2=>
(qIc [(3:Int)] (wi (we r2.1))).bind fun r3=>
(qiq v0).bind fun r4=>
qac v0 (wi (we r4.1)) (0:Int) b8a b8bbbb b9 b10a b10bbbb r4.1 h13 h14 h15 h12 r2.1 r3):=SE
theorem qhk (v0:List Int) (v68:Int) (v69:Int) (b8a:qha) (b8bbbb:Unit) (b9:qha) (b10a:qha) (b10bbbb:Unit) (h11:List Int) (h12:List qba) (h13:List qca) (h14:List Int) (h15:List qba) (h16:List qca) (h17:List Int):qac v0 v68 v69 b8a b8bbbb b9 b10a b10bbbb h11 h12 h13 h14 h15 h16 h17=(
if (decide (v69<v68))=true then
gd (0≤v69)<|
gd (v69<(wi (we h11)))<|
letI d:=(wm h11 (0+(wo v69)) (0:Int))
gd (0≤d)<|
gd (d≤(wi (we v0)))<|
(qfk (wY (wo d) v0)).bind fun r5=>
letI c:=(wd .i64 (v69+(1:Int)))
if (r5.2.2 != (0:Int))=true then
qac v0 v68 c b8a b8bbbb b9 b10a b10bbbb h11 h12 h13 h14 h15 h16 h17
else
(qyc h16 (r5.1.1.2.1,(r5.1.1.2.2.1,(r5.1.1.2.2.2.1,())))).bind fun r6=>
if (decide (r6<(0:Int)))=true then
qac v0 v68 c b8a b8bbbb b9 b10a b10bbbb h11 h12 h13 h14 h15 h16 h17
else
gd (0≤r6)<|
letI e:=(wi (we h17))
gd (r6<e)<|
letI f:=(0+(wo r6))
if ((wm h17 f (0:Int))==(1:Int))=true then
qac v0 v68 c b8a b8bbbb b9 b10a b10bbbb h11 h12 h13 h14 h15 h16 h17
else
gd (0≤r6)<|
gd (r6<e)<|
(qYf b9.1 r5.1).bind fun r7=>
letI g:=(wC h17 f (2:Int))
if (r7.2==(0:Int))=true then
gd (0≤r6)<|
gd (r6<e)<|
qac v0 v68 c b8a b8bbbb b9 b10a b10bbbb h11 h12 h13 h14 h15 h16 (wC g f (1:Int))
else
qac v0 v68 c b8a b8bbbb b9 b10a b10bbbb h11 h12 h13 h14 h15 h16 g
else
some ((b10a,(h15,(h16,(h17,b10bbbb)))),(0:Int))):=SE
noncomputable def vJc:FN:={f:=25,cuts:=[],tab:=[SS vca],fm:=⟨true,[.val (.slice (.int .u8)) [.pu], .val (.int .i64) []]⟩}
noncomputable def qNd (a0:List Int):Option (List Int×Int):=vJc.call [(.sl (.int .u8) false a0)] []
theorem qeo (a0:List Int):qNd a0=(
(qFe a0).bind fun r1=>
some (r1.1.2.2.2.1,r1.2)):=CE
noncomputable def vDb:FN:={f:=26,cuts:=[],tab:=[],fm:=⟨true,[.val .bool []]⟩}
noncomputable def qze (a0:List Int) (a1:List Int):Option (Bool):=vDb.call [(.sl (.int .u8) false a0),(.sl (.int .u8) false a1)] []
theorem qtq (a0:List Int) (a1:List Int):qze a0 a1=(
some ((wja (qjn a0))==(wja (qjn a1)))):=CE
noncomputable def vtb:FN:={f:=10,cuts:=[],tab:=[SS vWa,SS vpa,SS vic,SS vJc,SS vDb],fm:=⟨true,[.val .bool []]⟩}
noncomputable def qki:Option (Bool):=vtb.call [] []
theorem qTp:qki=(
(qug).bind fun r1=>
(qUd ((0:Int),((16:Int),())) []).bind fun r2=>
(qri r2).bind fun r3=>
(qNd r2).bind fun r4=>
(qNd r1).bind fun r5=>
letI d:=(wi (we r1))
letI c:=(wd .i64 (d - (1:Int)))
gd (0≤c)<|
gd (c≤d)<|
(qNd (wL ((wo c) - 0) (wY 0 r1))).bind fun r6=>
gd ((we ([]++r1))*1≤140737488355328)<|
gd (0≤(wd .i64 ((wi (we ([]++r1))) - (1:Int))))<|
gd ((wd .i64 ((wi (we ([]++r1))) - (1:Int)))<(wi (we ([]++r1))))<|
gd (0≤(wd .i64 ((wi (we ([]++r1))) - (1:Int))))<|
gd ((wd .i64 ((wi (we ([]++r1))) - (1:Int)))<(wi (we ([]++r1))))<|
(qNd (wC ([]++r1) (0+(wo (wd .i64 ((wi (we ([]++r1))) - (1:Int))))) (wd .u8 ((wm ([]++r1) (0+(wo (wd .i64 ((wi (we ([]++r1))) - (1:Int))))) (0:Int))+(1:Int))))).bind fun r7=>
if (r3.2==(0:Int))=true then
if r3.1=true then
if (r4.2==(0:Int))=true then
if ((wi (we r4.1))==(0:Int))=true then
if (r5.2==(0:Int))=true then
(qze r5.1 [(1:Int)]).bind fun r8=>
if r8=true then
if (r6.2==(0:Int))=true then
(qze r6.1 [(3:Int)]).bind fun r9=>
if r9=true then
if (r7.2==(0:Int))=true then
(qze r7.1 [(2:Int)]).bind fun r10=>
some (r10)
else
some (false)
else
some (false)
else
some (false)
else
some (false)
else
some (false)
else
some (false)
else
some (false)
else
some (false)
else
some (false)):=CE
noncomputable def via:FN:={f:=54,cuts:=[⟨(3,3),[0,3,4],false,false,[],[],[]⟩],tab:=[SS vN],fm:=⟨true,[.val (.slice (.int .i64)) [.nw]]⟩}
noncomputable def qWg (a0:List Int):Option (List Int):=via.call [(.sl (.int .u8) false a0)] []
noncomputable def qQb (v0:List Int) (v4:Int) (h8:List Int):Option (List Int):=via.sem ⟨[.code (cIn (cIn (qaa (qHa (qaa (qaa (qea wg 54))))))), .inLoop (cIn (cIn (qaa (qHa (qaa (qaa (qea wg 54))))))), .inBlock 0, .code (qaa (qaa (qaa (qea wg 54))))],⟨[(0,(.one (.sl (.int .u8) false v0))),(3,(.one (.ref (.int .i64) 8 0 (we h8) true))),(4,(.one (.int .i64 v4)))],[(8,some (.row (.int .i64) true h8))],9⟩⟩
theorem qCo (a0:List Int):qWg a0=(
qQb a0 (0:Int) []):=CE
theorem qEg (v0:List Int) (v4:Int) (h8:List Int):qQb v0 v4 h8=(
letI d:=(wi (we v0))
if (decide (v4<d))=true then
gd (0≤v4)<|
gd (v4<d)<|
letI c:=(wd .i64 (v4+(1:Int)))
if ((wm v0 (wo v4) (0:Int))==(183:Int))=true then
(qvd v0 v4).bind fun r1=>
if r1=true then
gd ((we (h8++[v4]))*8≤140737488355328)<|
qQb v0 c (h8++[v4])
else
qQb v0 c h8
else
qQb v0 c h8
else
some (h8)):=SE
noncomputable def vS:FN:={f:=27,cuts:=[⟨(4,3),[0,3,4,5],false,false,[],[],[]⟩],tab:=[SS via,SS vja],fm:=⟨true,[.val (.slice qpa) [.nw]]⟩}
noncomputable def qWh (a0:List Int):Option (List qda):=vS.call [(.sl (.int .u8) false a0)] []
noncomputable def qOb (v0:List Int) (v5:Int) (h8:List qda) (h9:List Int):Option (List qda):=vS.sem ⟨[.code (cIn (cIn (qaa (qHa (qaa (qaa (qaa (qea wg 27)))))))), .inLoop (cIn (cIn (qaa (qHa (qaa (qaa (qaa (qea wg 27)))))))), .inBlock 0, .code (qaa (qaa (qaa (qaa (qea wg 27)))))],⟨[(0,(.one (.sl (.int .u8) false v0))),(3,(.one (.ref qpa 8 0 (we h8) true))),(4,(.one (.ref (.int .i64) 9 0 (we h9) true))),(5,(.one (.int .i64 v5)))],[(8,some (.row qpa true h8)),(9,some (.row (.int .i64) true h9))],10⟩⟩
theorem qal (a0:List Int):qWh a0=(
(qWg a0).bind fun r1=>
qOb a0 (0:Int) [] r1):=CE
theorem qbf (v0:List Int) (v5:Int) (h8:List qda) (h9:List Int):qOb v0 v5 h8 h9=(
letI e:=(wi (we h9))
if (decide (v5<e))=true then
gd (0≤v5)<|
gd (v5<e)<|
letI c:=(wm h9 (0+(wo v5)) (0:Int))
gd (0≤c)<|
gd (c≤(wi (we v0)))<|
(qud (wY (wo c) v0)).bind fun r2=>
letI d:=(wd .i64 (v5+(1:Int)))
if (r2.2.2==(0:Int))=true then
gd ((we (h8++[r2.1]))*88≤140737488355328)<|
qOb v0 d (h8++[r2.1]) h9
else
qOb v0 d h8 h9
else
some (h8)):=SE
noncomputable def vBa:FN:={f:=11,cuts:=[⟨(4,3),[0,3,4,5],false,false,[],[],[]⟩],tab:=[SS vS],fm:=⟨true,[.val .bool []]⟩}
noncomputable def qCj (a0:List Int):Option (Bool):=vBa.call [(.sl (.int .u8) false a0)] []
noncomputable def qwd (v0:List Int) (v4:Int) (v5:Int) (h8:List qda):Option (Bool):=vBa.sem ⟨[.code (cIn (cIn (qaa (qHa (qaa (qaa (qaa (qea wg 11)))))))), .inLoop (cIn (cIn (qaa (qHa (qaa (qaa (qaa (qea wg 11)))))))), .inBlock 0, .code (qaa (qaa (qaa (qaa (qea wg 11)))))],⟨[(0,(.one (.sl (.int .u8) false v0))),(3,(.one (.ref qpa 8 0 (we h8) true))),(4,(.one (.int .i64 v4))),(5,(.one (.int .i64 v5)))],[(8,some (.row qpa true h8))],9⟩⟩
theorem qVr (a0:List Int):qCj a0=(
letI c:=(wi (we a0))
gd (0≤(if (3000:Int)<c then (3000:Int) else c))<|
gd ((if (3000:Int)<c then (3000:Int) else c)≤c)<|
(qWh (wL (wo (if (3000:Int)<c then (3000:Int) else c)) a0)).bind fun r1=>
qwd a0 (0:Int) (0:Int) r1):=CE
theorem qpi (v0:List Int) (v4:Int) (v5:Int) (h8:List qda):qwd v0 v4 v5 h8=(
letI d:=(wi (we h8))
if (decide (v5<d))=true then
gd (0≤v5)<|
gd (v5<d)<|
letI e:=(wd .i64 (v5+(1:Int)))
letI c:=(wm h8 (0+(wo v5)) (qra qpa))
if (c.1.1==(2:Int))=true then
gd (0≤v5)<|
gd (v5<d)<|
qwd v0 (wd .i64 (v4+c.1.2.2.2.1)) e h8
else
qwd v0 v4 e h8
else
if (decide ((wi (we v0))≤(3000:Int)))=true then
some (decide (v4≤(80:Int)))
else
some (false)):=SE
noncomputable def vCc:FN:={f:=34,cuts:=[],tab:=[],fm:=⟨true,[.val .bool []]⟩}
noncomputable def qBq (a0:Int):Option (Bool):=vCc.call [(.int .u8 a0)] []
theorem qpt (a0:Int):qBq a0=(
some (a0 != (1:Int))):=CE
noncomputable def vw:FN:={f:=33,cuts:=[⟨(2,3),[0,1,7,8],false,false,[],[],[]⟩],tab:=[SS vCc],fm:=⟨true,[.val (.int .i64) []]⟩}
noncomputable def qne (a0:List Int):Option (Int):=vw.call [(.sl (.int .u8) false a0),(.func 34 [])] []
noncomputable def qtb (v0:List Int) (v7:Int) (v8:Int):Option (Int):=vw.sem ⟨[.code (cIn (cIn (qaa (qHa (qaa (qea wg 33)))))), .inLoop (cIn (cIn (qaa (qHa (qaa (qea wg 33)))))), .inBlock 0, .code (qaa (qaa (qea wg 33)))],⟨[(0,(.one (.sl (.int .u8) false v0))),(1,(.one (.func 34 []))),(7,(.one (.int .i64 v7))),(8,(.one (.int .i64 v8)))],[],8⟩⟩
theorem qlh (a0:List Int):qne a0=(
qtb a0 (wi (we a0)) (0:Int)):=CE
theorem qdd (v0:List Int) (v7:Int) (v8:Int):qtb v0 v7 v8=(
if (decide (v8<v7))=true then
gd (0≤v8)<|
gd (v8<(wi (we v0)))<|
(qBq (wm v0 (wo v8) (0:Int))).bind fun r1=>
if r1=true then
some (v8)
else
qtb v0 v7 (wd .i64 (v8+(1:Int)))
else
some (-1:Int)):=SE
noncomputable def vmd:FN:={f:=14,cuts:=[],tab:=[SS vca,SS vw],fm:=⟨true,[.val (.int .i64) [], .val (.int .i64) []]⟩}
noncomputable def qdl (a0:List Int):Option (Int×Int):=vmd.call [(.sl (.int .u8) false a0)] []
theorem qDo (a0:List Int):qdl a0=(
(qFe a0).bind fun r1=>
if (r1.2 != (0:Int))=true then
some ((0:Int),r1.2)
else
(qne r1.1.2.2.2.1).bind fun r2=>
if (decide (r2<(0:Int)))=true then
some ((0:Int),(6:Int))
else
some (r2,(0:Int))):=CE
noncomputable def bitloftlaw33_VerifyFine_I:FN:={f:=4,cuts:=[],tab:=[SS vtb,SS vBa,SS vic,SS vXa,SS vSa,SS vmd],fm:=⟨true,[.val .bool []]⟩}
noncomputable def qPe (a0:List Int):Option (Bool):=bitloftlaw33_VerifyFine_I.call [(.sl (.int .u8) false a0)] []
theorem qbl (a0:List Int):qPe a0=(
(qki).bind fun r1=>
(qCj a0).bind fun r2=>
if (not r2)=true then
some (r1)
else
if (not r1)=true then
some (r1)
else
(qri a0).bind fun r3=>
(qHk a0).bind fun r4=>
(qIb a0).bind fun r5=>
(qdl a0).bind fun r6=>
if (r3.2 != r4.2.2.2)=true then
some (false)
else
if (r3.2 != (0:Int))=true then
if r1=true then
if (not r3.1)=true then
some (r6.2==r3.2)
else
some (false)
else
some (false)
else
if r1=true then
if (r3.1==(r5.2==(0:Int)))=true then
if (not r3.1)=true then
some (true)
else
some (r6.2==(6:Int))
else
some (false)
else
some (false)):=CE
end Go.Ab
