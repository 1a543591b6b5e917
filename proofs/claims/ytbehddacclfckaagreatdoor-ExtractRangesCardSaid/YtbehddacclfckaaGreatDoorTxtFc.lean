/-
  An abstract machine over the model's code and its soundness; what the functions compute, as plain functions (printed by a program of this repo's own, checked here by the kernel); plain laws of them: part 3. Helper text, no statement of the claim stands here.
-/
import Derived.Test.YtbehddacclfckaaGreatDoorTxtFb
import Derived.Laws.Externs
import Derived.Lib.MakeNoZero
import Derived.WalkKit
import Derived.ProofKit
import Derived.OpenShut
import Derived.ShutString
import Derived.ChangeOld
import Derived.Below
import Derived.SizedLaws
import Derived.LaidMore
import Derived.RangeFuncFrom
import Derived.RangeFuncLeaves
import Derived.RangeFuncCalls
import Derived.OrdersIn
import Derived.Shelf.Vars
/-
  Operations whose answer Go leaves open: a slice held against nil, new memory of whatever bytes.
-/
set_option linter.unusedVariables false
set_option linter.unusedSimpArgs false
namespace Go.Ab
open Go
structure AnyO:Type 1 where
 pre:List Prop
 R:Type
 p:R→Prop
 out:R→Out
def qez (P:Program) (f:Nat):Prop:=∃fn ps t e,P.funcs[f]?=some fn∧(fn.name== "runtime.NumGoroutine")=false∧fn.body.isNone=true∧Extern.findNext fn=none∧
 Extern.find fn=some (Extern.BytealgMakeNoZero.makeNoZero ps #[t])∧P.underlying t=some (.slice e)
def qBB (P:Program) (mnz:List Nat) (ev:Operand→TV) (nl:Nat) (op:Op):Option AnyO:=
 match op with
 | .binOp op T x y _=>match ev1 ev x,ev1 ev y with
   |some (.sl e fr xs),some .nil=>if qhj P T then match op with
     | .eql=>some ⟨[],Bool,fun b=>b=true→xs=[],fun b=>⟨.one (.bool b),[],[]⟩⟩
     | .neq=>some ⟨[],Bool,fun b=>b=false→xs=[],fun b=>⟨.one (.bool b),[],[]⟩⟩
     |_=>none
    else none
   |some (.ref e l off len wh),some .nil=>if qhj P T then match op with
     | .eql=>some ⟨[],Bool,fun b=>b=true→len=0,fun b=>⟨.one (.bool b),[],[]⟩⟩
     | .neq=>some ⟨[],Bool,fun b=>b=false→len=0,fun b=>⟨.one (.bool b),[],[]⟩⟩
     |_=>none
    else none
   |_,_=>none
 | .call {callee:= .value f,args,argTypes:=_}=>match ev1 ev f,evs ev args.toList with
   |some (.func f []),some [.int .i64 n]=>if mnz.contains f then
     some ⟨[0≤n,n≤140737488355328],List Int,fun xs=>xs.length=n.toNat,fun xs=>⟨.one (.ref (.int .u8) nl 0 xs.length true),[(nl,some (.row (.int .u8) true xs))],[]⟩⟩
    else none
   |_,_=>none
 |_=>none
section
variable {c:Cx} {P:Program} {GT:qtg} {H lk:qzb} {K:Kn} {w:World} {ev:Operand→TV} {ρ:Operand→Value} {nl:Nat}
theorem qrr:∀(n t:Nat) (acc:Array Value) (xs:List Int),acc.toList=xs.map (Value.int .u8)→∃ys:List Int,(Extern.BytealgMakeNoZero.digits n t acc).toList=ys.map (Value.int .u8)
 |0,_,acc,xs,h=>⟨xs,h⟩
 |n+1,t,acc,xs,h=>by
  rw [Extern.BytealgMakeNoZero.digits]
  exact qrr n _ _ (xs++[Int.ofNat (t%256)]) (by simp [h])
theorem qBD (ps:Array TypeId) (t e:TypeId) (ht:P.underlying t=some (.slice e)) (n:Nat) (hn:n≤140737488355328):
  ∃(cs:Array Value) (ys:List Int),cs.toList=ys.map (Value.int .u8)∧(Extern.BytealgMakeNoZero.makeNoZero ps #[t] #[.int .i64 n]).run P w= .ok (.slice (some ⟨w.heap.size,0,none⟩) n cs.size) (w.drew.drew.alloc (.cells cs e))∧n≤cs.size:=by
 have hdef:Extern.BytealgMakeNoZero.makeNoZero ps #[t] #[.int .i64 n]=
   (do
    let .slice elem ←underlying t|stuck "bytealg.MakeNoZero: slice type expected"
    if (n:Int)<0||(n:Int)>2 ^ 48 then runtimePanic (.error "makeslice: len out of range")
    let cap ←choose (.appendCap (n:Int).toNat 0 elem)
    askRoom cap
    let bytes ←choose (.extern "internal/bytealg.MakeNoZero.bytes" 0)
    let a ←newRow elem (Extern.BytealgMakeNoZero.digits cap bytes #[])
    pure (.slice (some a) (n:Int).toNat cap)):=rfl
 obtain ⟨ys,hys⟩:=qrr (grownCap w n 0 e) ((Question.extern "internal/bytealg.MakeNoZero.bytes" 0).cut (w.tape (w.drawn+1) (.extern "internal/bytealg.MakeNoZero.bytes" 0))) #[] [] rfl
 refine ⟨_,ys,hys,?_,?_⟩
 ·rw [hdef]
  have h1:¬(n:Int)<0:=by omega
  have h2:¬(281474976710656:Int)<(n:Int):=by omega
  simp [run_underlying ht,h1,h2,Question.forced,newRow,Lib.size_digits,grownCap]
 ·rw [Lib.size_digits]
  simpa using grownCap_ge w n 0 e
theorem qAB (A:At c P GT H lk K w ev ρ nl) {mnz:List Nat} (hm:∀f∈mnz,qez P f) {o:Oper} {a:AnyO} (h:qBB P mnz ev nl o.op=some a) (hc:qVf a.pre):
  Does P o ρ w (fun v w'=>∃x,a.p x∧Lands c H K w nl (a.out x) v w'):=by
 unfold qBB at h
 split at h
 ·rename_i op T x y T' ho
  have hnil:∀{n cp:Nat} {A0:Option Addr} {q:Value},VRd w (NN c H K w) K .nil (ρ y)→ρ x= .slice A0 n cp→qhj P T=true→
    (op= .eql→(execOp ρ o).run P w= .ok (.value (.bool A0.isNone)) w)∧(op= .neq→(execOp ρ o).run P w= .ok (.value (.bool (!A0.isNone))) w):=by
   intro n cp A0 q h2 h1 hd
   simp only [VRd] at h2
   obtain ⟨e',hd'⟩:=qkk hd
   have heq:=qqf 9999 (w:=w) (a:=A0) (n:=n) (c:=cp) hd'
   constructor
   ·rintro rfl
    simp only [execOp,ho,h1,h2]
    rw [Sem.run_bind,Sem.run_bind,qsg]
    simp only [binOp,Op.equal,Op.maxDepth,Sem.run_bind,heq,Result.andThen_ok,Sem.run_pure]
   ·rintro rfl
    simp only [execOp,ho,h1,h2]
    rw [Sem.run_bind,Sem.run_bind,qsg]
    simp only [binOp,Op.equal,Op.maxDepth,Sem.run_bind,heq,Result.andThen_ok,Sem.run_pure]
  split at h
  ·rename_i e fr xs hx hy
   split at h
   ·rename_i hd
    obtain ⟨A0,cap,e1,hl,hb⟩:=A.one hx
    simp only [List.cons.injEq,and_true] at e1
    have hk:A0.isNone=true→xs=[]:=by
     intro hA
     rcases hb with hb|⟨b,o',cl,e2,_⟩
     ·exact hb
     ·subst e2;cases hA
    split at h
    ·simp only [Option.some.injEq] at h;subst h
     refine Does.value ((hnil (q:=undef) (A.one hy) e1 hd).1 rfl) ⟨A0.isNone,hk,Lands.one A.inv rfl⟩
    ·simp only [Option.some.injEq] at h;subst h
     refine Does.value ((hnil (q:=undef) (A.one hy) e1 hd).2 rfl) ⟨!A0.isNone,fun hb=>hk (by simpa using hb),Lands.one A.inv rfl⟩
    ·cases h
   ·cases h
  ·rename_i e l off len wh hx hy
   split at h
   ·rename_i hd
    have hr:∃A0 cp,ρ x= .slice A0 len cp∧(A0.isNone=true→len=0):=by
     obtain ⟨n,pl,h1,h2,h3,h4⟩:=A.one hx
     cases pl with
     |none=>
      obtain ⟨e1,rfl⟩:=h4
      have:len=0:=by omega
      subst this
      exact ⟨none,0,e1,fun _=>rfl⟩
     |some p=>
      obtain ⟨o',cap,e1,_⟩:=h4
      exact ⟨_,cap,e1,fun hA=>by cases hA⟩
    obtain ⟨A0,cp,e1,hk⟩:=hr
    split at h
    ·simp only [Option.some.injEq] at h;subst h
     refine Does.value ((hnil (q:=undef) (A.one hy) e1 hd).1 rfl) ⟨A0.isNone,hk,Lands.one A.inv rfl⟩
    ·simp only [Option.some.injEq] at h;subst h
     refine Does.value ((hnil (q:=undef) (A.one hy) e1 hd).2 rfl) ⟨!A0.isNone,fun hb=>hk (by simpa using hb),Lands.one A.inv rfl⟩
    ·cases h
   ·cases h
  ·cases h
 ·rename_i f args ats ho
  split at h
  ·rename_i g n hf hvs
   split at h
   ·rename_i hg
    simp only [Option.some.injEq] at h;subst h
    obtain ⟨c0,c1,_⟩:=hc
    obtain ⟨fn,ps,t,e,g1,g2,g3,g4,g5,g6⟩:=hm g (by simpa using hg)
    obtain ⟨cvs,h1,h2⟩:=A.one hf
    simp only [capsRd] at h2;subst h2
    have hv:=qHs A hvs
    obtain ⟨u,hu,hun⟩:=hv.one_inv
    simp only [VRd] at hun;subst hun
    obtain ⟨m,rfl⟩:=Int.eq_ofNat_of_zero_le c0
    obtain ⟨cs,ys,hcs,hrun,hle⟩:=qBD (P:=P) (w:=w) ps t e g6 m (by omega)
    have harr:(args.map ρ++#[])=#[Value.int .i64 (m:Int)]:=by
     apply Array.ext';simp [hu]
    have hex:(execOp ρ o).run P w=(callFunc g #[Value.int .i64 (m:Int)]).run P w:=by
     simp only [execOp,ho,resolve,h1,Deferred.ofValue,invoke,pure_bind]
     rw [←harr]
     simp
    rw [run_callFunc_extern g1 g2 g3 g4 g5,hrun] at hex
    refine Does.value hex ⟨ys.take m,?_,?_⟩
    ·have hln:ys.length=cs.size:=by rw [←Array.length_toList,hcs];simp
     simp;omega
    ·have hln:ys.length=cs.size:=by rw [←Array.length_toList,hcs];simp
     have hlt:(ys.take m).length=m:=by simp;omega
     have hab:=InBlk.new w.drew.drew cs e
     rw [hcs] at hab
     have hsp:ys.map (Value.int .u8)=(ys.take m).map (Value.int .u8)++(ys.drop m).map (Value.int .u8):=by rw [←List.map_append,List.take_append_drop]
     rw [hsp] at hab
     have hfn:=A.fresh nl (Nat.le_refl _) (by omega)
     refine ⟨_,qon (w:=w) (w':=w.drew.drew.alloc (.cells cs e)) A.inv A.ng ⟨Nat.le_refl _,by omega⟩ hfn (e:= .int .u8) (fr:=true) (xs:=ys.take m) (p:=⟨w.heap.size,0,cs.size⟩) (cs:=(ys.take m).map (Value.int .u8)) (qcb w.drew.drew _) ⟨Nat.le_refl _,by rw [qPa];exact Nat.lt_succ_self _⟩ hab.front (qAn _),?_⟩
     show RefRd _ _ _ _ _ _ _
     rw [hlt]
     exact qYj (p:=⟨w.heap.size,0,cs.size⟩) rfl hle (.inr (by simp [Ty.sz]))
   ·cases h
  ·cases h
 ·cases h
end
end Go.Ab

/-
  The forms of results: what a function returns, and leaves, as plain values.
-/
set_option linter.unusedVariables false
set_option linter.unusedSimpArgs false
namespace Go.Ab
open Go
inductive SF
 |pu|nw|kp (n:Nat)
inductive FI
 |val (t:Ty) (sf:List SF)
 |err (T:Nat) (k:IntKind)
 |box (j:Nat) (t:Ty) (sf:List SF)
 |row (j:Nat) (e:Ty)
 |map (j:Nat) (k v:Ty)
 |cmap (j n:Nat)
 |fams (j:Nat) (a e:Ty)
 |part (e:Ty)
 |sub (j:Nat) (e:Ty)
 |cst (v:AV)
 |cfn (j f:Nat) (caps:List Nat)
 |clo (f:Nat) (t:Ty)
@[reducible] def FI.den:FI→Type
 | .val t _=>pden t
 | .err _ _=>Option Int
 | .box _ t _=>pden t
 | .row _ e=>List (pden e)
 | .map _ k v=>List (pden k×pden v)
 | .cmap _ _=>Unit
 | .fams _ a e=>List (pden a×List (pden e))
 | .part e=>List (pden e)×Nat×Nat
 | .sub _ _=>Nat×Nat
 | .cst _=>Unit
 | .cfn _ _ _=>Unit
 | .clo _ t=>pden t
@[reducible] def PT:List FI→Type
 |[]=>Unit
 |[a]=>a.den
 |a::b::r=>a.den×PT (b::r)
def qcE (fr:Bool):(t:Ty)→pden t→List SF→Nat→qFd t×List SF×Nat
 | .pair a b,x,sf,k=>match qcE fr a x.1 sf k with
   |(u,sf1,k1)=>match qcE fr b x.2 sf1 k1 with
    |(v,sf2,k2)=>((u,v),sf2,k2)
 | .slice _,xs,sf,k=>match sf with
   | .nw::r=>(.ref k 0 xs.length true,r,k+1)
   | .kp n::r=>(.ref n 0 xs.length true,r,k)
   | .pu::r=>(.pure fr xs,r,k)
   |[]=>(.pure fr xs,[],k)
 | .int _,x,sf,k=>(x,sf,k)
 | .bool,x,sf,k=>(x,sf,k)
 | .str,x,sf,k=>(x,sf,k)
 | .arr _ _,x,sf,k=>(x,sf,k)
 | .unit,x,sf,k=>(x,sf,k)
 | .fn,x,sf,k=>(x,sf,k)
def qPv (fr:Bool):(t:Ty)→pden t→List SF→Nat→List (Nat×Obj)
 | .pair a b,x,sf,k=>match qcE fr a x.1 sf k with
   |(_,sf1,k1)=>qPv fr a x.1 sf k++qPv fr b x.2 sf1 k1
 | .slice e,xs,sf,k=>match sf with
   | .nw::_=>[(k, .row e fr xs)]
   |_=>[]
 |_,_,_,_=>[]
structure Enc where
 vs:List AV
 os:List (Nat×Obj)
 rs:List (Nat×Obj)
 k:Nat
def qIs (fr:Bool):(i:FI)→i.den→Nat→Enc
 | .val t sf,x,k=>match qcE fr t x sf k with
   |(u,_,k')=>⟨[qIv t u],[],qPv fr t x sf k,k'⟩
 | .err T ki,x,k=>⟨[.eri T ki x],[],[],k⟩
 | .box j t sf,x,k=>match qcE fr t x sf k with
   |(u,_,k')=>⟨[],[(j, .box t u)],qPv fr t x sf k,k'⟩
 | .row j e,xs,k=>⟨[],[(j, .row e fr xs)],[],k⟩
 | .map j kt vt,es,k=>⟨[],[(j, .map kt vt es)],[],k⟩
 | .fams j a e,xs,k=>⟨[],[(j, .famS a e xs)],[],k⟩
 | .cmap j n,_,k=>⟨[],[(j, .cell (.mapr n))],[],k⟩
 | .part e,x,k=>⟨[.ref e k x.2.1 x.2.2 false],[],[(k, .row e fr x.1)],k+1⟩
 | .sub j e,x,k=>⟨[.ref e j x.1 x.2 false],[],[],k⟩
 | .cst v,_,k=>⟨[v],[],[],k⟩
 | .cfn j f caps,_,k=>⟨[],[(j, .cell (.func f caps))],[],k⟩
 | .clo f t,x,k=>⟨[.func f [k]],[],[(k, .box t (inj fr t x))],k+1⟩
def qUA (fr:Bool):(is:List FI)→PT is→Nat→Enc
 |[],_,k=>⟨[],[],[],k⟩
 |[a],x,k=>qIs fr a x k
 |a::b::r,x,k=>match qIs fr a x.1 k with
  |e1=>match qUA fr (b::r) x.2 e1.k with
   |e2=>⟨e1.vs++e2.vs,e1.os++e2.os,e1.rs++e2.rs,e2.k⟩
def qOB:List AV→TV
 |[v]=> .one v
 |vs=> .tup vs
structure Fm where
 fr:Bool
 is:List FI
@[reducible] def Fm.R (F:Fm):Type:=PT F.is
def Fm.res (F:Fm) (r:F.R):TV:=qOB (qUA F.fr F.is r 8).vs
def Fm.post (F:Fm) (r:F.R):List (Nat×Obj):=(qUA F.fr F.is r 8).os++(qUA F.fr F.is r 8).rs
def qWy:(t:Ty)→qFd t→List SF→Nat→List (Nat×Nat)×List SF×Nat
 | .pair a b,x,sf,k=>match qWy a x.1 sf k with
   |(r1,sf1,k1)=>match qWy b x.2 sf1 k1 with
    |(r2,sf2,k2)=>(r1++r2,sf2,k2)
 | .slice _,v,sf,k=>match sf with
   | .nw::r=>match v with
     | .ref l _ _ _=>([(k,l)],r,k+1)
     |_=>([],r,k+1)
   |_::r=>([],r,k)
   |[]=>([],[],k)
 | .int _,_,sf,k=>([],sf,k)
 | .bool,_,sf,k=>([],sf,k)
 | .str,_,sf,k=>([],sf,k)
 | .arr _ _,_,sf,k=>([],sf,k)
 | .unit,_,sf,k=>([],sf,k)
 | .fn,_,sf,k=>([],sf,k)
def outA (lk:qzb) (ren:List (Nat×Nat)) (fr:Bool):(t:Ty)→qFd t→List SF→Nat→Option (pden t×List SF×Nat)
 | .pair a b,x,sf,k=>match outA lk ren fr a x.1 sf k with
   |some (u,sf1,k1)=>match outA lk ren fr b x.2 sf1 k1 with
    |some (v,sf2,k2)=>some ((u,v),sf2,k2)
    |none=>none
   |none=>none
 | .slice e,v,sf,k=>match v with
   | .pure f xs=>match sf with
     | .pu::r=>if f||!fr then some (xs,r,k) else none
     |[]=>if f||!fr then some (xs,[],k) else none
     |_=>none
   | .ref l off len wh=>match qyp lk e l with
     |some (f,xs)=>match sf with
      | .nw::r=>if wh&&(qpe ren l==some k)&&(f||!fr)&&(qXj lk e l).isSome then some (xs,r,k+1) else none
      | .kp n::r=>if wh&&(qpe ren l==some n) then some (xs,r,k) else none
      | .pu::r=>if (qpe ren l).isNone&&(f||e.flat||!fr) then some (seg xs off len wh,r,k) else none
      |[]=>if (qpe ren l).isNone&&(f||e.flat||!fr) then some (seg xs off len wh,[],k) else none
     |none=>none
   |_=>none
 | .int _,x,sf,k=>some (x,sf,k)
 | .bool,x,sf,k=>some (x,sf,k)
 | .str,x,sf,k=>some (x,sf,k)
 | .arr _ _,x,sf,k=>some (x,sf,k)
 | .unit,x,sf,k=>some (x,sf,k)
 | .fn,x,sf,k=>some (x,sf,k)
def qlE:AV→Bool
 | .agg _ _=>true
 |_=>false
def qyE:(t:Ty)→qFd t→qFd t→Bool
 | .pair a b,x,y=>qyE a x.1 y.1&&qyE b x.2 y.2
 | .unit,_,_=>true
 | .fn,x,y=>match x,y with
   |some f,some g=>f==g
   |none,none=>true
   |_,_=>false
 |_,_,_=>false
def qTF:AV→AV→Bool
 | .agg t x, .agg t' y=>if h:t'=t then qyE t x (h▸y) else false
 | .func f [], .func g []=>f==g
 | .nilFunc, .nilFunc=>true
 |_,_=>false
def qGr (fr:Bool):(t:Ty)→qFd t→Bool
 | .pair a b,x=>qGr fr a x.1&&qGr fr b x.2
 | .slice _,v=>match v with
   | .pure f _=>f==fr
   |_=>false
 |_,_=>true
def qNt (lk:qzb):FI→List AV→Nat→List (Nat×Nat)×List AV×Nat
 | .val t sf,v::vs,k=>match qSl t v with
   |some x=>match qWy t x sf k with
    |(r,_,k')=>(r,vs,k')
   |none=>([],vs,k)
 | .err _ _,_::vs,k=>([],vs,k)
 | .part _,v::vs,k=>match v with
   | .ref _ l _ _ _=>([(k,l)],vs,k+1)
   |_=>([],vs,k+1)
 | .cst _,_::vs,k=>([],vs,k)
 | .sub _ _,_::vs,k=>([],vs,k)
 | .clo _ _,v::vs,k=>match v with
   | .func _ [l]=>([(k,l)],vs,k+1)
   |_=>([],vs,k+1)
 | .box j t sf,vs,k=>match lk j with
   |some (.box t' x)=>match qWy t' x sf k with
    |(r,_,k')=>(r,vs,k')
   |_=>([],vs,k)
 |_,vs,k=>([],vs,k)
def qnB (lk:qzb):List FI→List AV→Nat→List (Nat×Nat)
 |[],_,_=>[]
 |a::r,vs,k=>match qNt lk a vs k with
  |(r1,vs1,k1)=>r1++qnB lk r vs1 k1
def qGp (lk:qzb) (ren:List (Nat×Nat)) (fr:Bool):(i:FI)→List AV→Nat→Option (i.den×List AV×Nat)
 | .val t sf,v::vs,k=>match qSl t v with
   |some x=>if qlE v==t.agg then match outA lk ren fr t x sf k with
     |some (u,_,k')=>some (u,vs,k')
     |none=>none
    else none
   |none=>none
 | .err T ki, .errno T' ki' n::vs,k=>if T=T'∧ki=ki' then some (some n,vs,k) else none
 | .err T ki, .nilIface::vs,k=>some (none,vs,k)
 | .err T ki, .eri T' ki' x::vs,k=>if T=T'∧ki=ki' then some (x,vs,k) else none
 | .box j t sf,vs,k=>match lk j with
   |some (.box t' x)=>if h:t'=t then match outA lk ren fr t (h▸x) sf k with
     |some (u,_,k')=>some (u,vs,k')
     |none=>none
    else none
   |_=>none
 | .row j e,vs,k=>match qXj lk e j with
   |some (f,xs)=>if f||!fr then some (xs,vs,k) else none
   |none=>none
 | .map j kt vt,vs,k=>match lk j with
   |some (.map k' v' es)=>if h:kt=k'∧vt=v' then some (h.1▸h.2▸es,vs,k) else none
   |_=>none
 | .fams j a e,vs,k=>match lk j with
   |some (.famS a' e' xs)=>if h:a=a'∧e=e' then some (h.1▸h.2▸xs,vs,k) else none
   |_=>none
 | .cmap j n,vs,k=>match lk j with
   |some (.cell (.mapr l))=>if qpe ren l==some n then some ((),vs,k) else none
   |_=>none
 | .part e, .ref e' l off len wh::vs,k=>if e'=e then match qXj lk e l with
   |some (f,xs)=>if (qpe ren l==some k)&&(f||!fr) then some (if wh then (xs,0,xs.length) else (xs,off,len),vs,k+1) else none
   |none=>none
  else none
 | .cst v,u::vs,k=>if qTF u v then some ((),vs,k) else none
 | .sub j e, .ref e' l off len wh::vs,k=>if e'=e then match qXj lk e l with
   |some (_,xs)=>if qpe ren l==some j then some (if wh then (0,xs.length) else (off,len),vs,k) else none
   |none=>none
  else none
 | .cfn j f caps,vs,k=>match lk j with
   |some (.cell (.func g cs))=>if g=f∧qFq ren cs=some caps then some ((),vs,k) else none
   |_=>none
 | .clo f t, .func g [l]::vs,k=>if g=f∧qpe ren l=some k then match lk l with
   |some (.box t' x)=>if h:t'=t then match qod lk ren (!fr) t (h▸x) with
     |some y=>match unj t y with
      |some u=>if qGr fr t y then some (u,vs,k+1) else none
      |none=>none
     |none=>none
    else none
   |_=>none
  else none
 |_,_,_=>none
def qwE (lk:qzb) (ren:List (Nat×Nat)) (fr:Bool):(is:List FI)→List AV→Nat→Option (PT is×List AV×Nat)
 |[],vs,k=>some ((),vs,k)
 |[a],vs,k=>qGp lk ren fr a vs k
 |a::b::r,vs,k=>match qGp lk ren fr a vs k with
  |some (x,vs1,k1)=>match qwE lk ren fr (b::r) vs1 k1 with
   |some (y,vs2,k2)=>some ((x,y),vs2,k2)
   |none=>none
  |none=>none
def FI.own:FI→List (Nat×Nat)
 | .box j _ _| .row j _| .map j _ _| .cmap j _| .fams j _ _| .cfn j _ _=>[(j,j)]
 |_=>[]
def tvs:TV→List AV
 | .one v=>[v]
 | .tup vs=>vs
def Fm.fin (F:Fm) (P:Program) (rs:List ResultVar) (s:Pos):Option F.R:=
 match qQv P s.st rs with
 |some res0=>
  let lk:=qAb s.st.heap
  let ren:=F.is.flatMap FI.own++qnB lk F.is (tvs res0) 8
  if qmy ren 24 then match qwE lk ren F.fr F.is (tvs res0) 8 with
   |some (r,[],_)=>some r
   |_=>none
  else none
 |none=>none
end Go.Ab

/-
  The forms of results: they are what the machine keeps at a function's end.
-/
set_option linter.unusedVariables false
set_option linter.unusedSimpArgs false
namespace Go.Ab
open Go
section
variable {P:Program} {GT:qtg} {lk:qzb} {ren:List (Nat×Nat)} {fr lo:Bool}
theorem qwf:∀{a b:List (Nat×Nat)} {u v:List (Nat×Option Obj)},qkc lk ren lo a=some u→qkc lk ren lo b=some v→qkc lk ren lo (a++b)=some (u++v)
 |[],b,u,v,h,h'=>by simp only [qkc,Option.some.injEq] at h;subst h;exact h'
 |p::a,b,u,v,h,h'=>by
  simp only [qkc,List.cons_append] at h ⊢
  split at h
  ·rename_i o os e1 e2
   split at h
   ·rename_i o' e3
    simp only [Option.some.injEq] at h;subst h
    rw [e1,qwf e2 h']
    simp only [e3,List.cons_append]
   ·cases h
  ·cases h
theorem qji {a b:List (Nat×Obj)}:qUb (a++b)=qUb a++qUb b:=by simp [qUb]
theorem qsn {f fr:Bool} (h:(f||!fr)=true):(f&&!!fr)=fr:=by cases f <;> cases fr <;> simp_all
theorem qbv {f g fr:Bool} (h:(f||g||!fr)=true):((f||g)&&!!fr)=fr:=by cases f <;> cases g <;> cases fr <;> simp_all
theorem qsh {l n:Nat} (h:(qpe ren l==some n)=true):qpe ren l=some n:=by simpa using h
theorem qdt:∀{t:Ty} {x:qFd t} {sf sf':List SF} {k k':Nat} {u:pden t},outA lk ren fr t x sf k=some (u,sf',k')→
  ∃y,qcE fr t u sf k=(y,sf',k')∧qod lk ren (!fr) t x=some y∧∃cs,qWy t x sf k=(cs,sf',k')∧qkc lk ren (!fr) cs=some (qUb (qPv fr t u sf k))
 | .int _,x,sf,sf',k,k',u,h=>by simp only [outA,Option.some.injEq,Prod.mk.injEq] at h;obtain ⟨rfl,rfl,rfl⟩:=h;exact ⟨_,rfl,rfl,_,rfl,rfl⟩
 | .bool,x,sf,sf',k,k',u,h=>by simp only [outA,Option.some.injEq,Prod.mk.injEq] at h;obtain ⟨rfl,rfl,rfl⟩:=h;exact ⟨_,rfl,rfl,_,rfl,rfl⟩
 | .str,x,sf,sf',k,k',u,h=>by simp only [outA,Option.some.injEq,Prod.mk.injEq] at h;obtain ⟨rfl,rfl,rfl⟩:=h;exact ⟨_,rfl,rfl,_,rfl,rfl⟩
 | .arr _ _,x,sf,sf',k,k',u,h=>by simp only [outA,Option.some.injEq,Prod.mk.injEq] at h;obtain ⟨rfl,rfl,rfl⟩:=h;exact ⟨_,rfl,rfl,_,rfl,rfl⟩
 | .unit,x,sf,sf',k,k',u,h=>by simp only [outA,Option.some.injEq,Prod.mk.injEq] at h;obtain ⟨_,rfl,rfl⟩:=h;exact ⟨_,rfl,rfl,_,rfl,rfl⟩
 | .fn,x,sf,sf',k,k',u,h=>by simp only [outA,Option.some.injEq,Prod.mk.injEq] at h;obtain ⟨rfl,rfl,rfl⟩:=h;exact ⟨_,rfl,rfl,_,rfl,rfl⟩
 | .pair a b,x,sf,sf',k,k',u,h=>by
   simp only [outA] at h
   split at h
   ·rename_i u1 sf1 k1 h1
    split at h
    ·rename_i u2 sf2 k2 h2
     simp only [Option.some.injEq,Prod.mk.injEq] at h;obtain ⟨rfl,rfl,rfl⟩:=h
     obtain ⟨y1,a1,a2,c1,a3,a4⟩:=qdt h1
     obtain ⟨y2,b1,b2,c2,b3,b4⟩:=qdt h2
     refine ⟨(y1,y2),by simp only [qcE,a1,b1],by simp only [qod,a2,b2],c1++c2,by simp only [qWy,a3,b3],?_⟩
     simp only [qPv,a1,qji]
     exact qwf a4 b4
    ·cases h
   ·cases h
 | .slice e,x,sf,sf',k,k',u,h=>by
   cases x with
   |pure f xs=>
    simp only [outA] at h
    split at h
    ·split at h
     ·rename_i hf
      simp only [Option.some.injEq,Prod.mk.injEq] at h;obtain ⟨rfl,rfl,rfl⟩:=h
      exact ⟨_,rfl,by simp only [qod,qsn hf],_,rfl,rfl⟩
     ·cases h
    ·split at h
     ·rename_i hf
      simp only [Option.some.injEq,Prod.mk.injEq] at h;obtain ⟨rfl,rfl,rfl⟩:=h
      exact ⟨_,rfl,by simp only [qod,qsn hf],_,rfl,rfl⟩
     ·cases h
    ·cases h
   |ref l off len wh=>
    simp only [outA] at h
    split at h
    ·rename_i f xs hrow
     split at h
     ·split at h
      ·rename_i hc
       simp only [Bool.and_eq_true] at hc
       obtain ⟨⟨⟨rfl,hn⟩,hf⟩,hs⟩:=hc
       simp only [Option.some.injEq,Prod.mk.injEq] at h;obtain ⟨rfl,rfl,rfl⟩:=h
       refine ⟨_,rfl,by simp only [qod,qsh hn,hrow,if_true],_,rfl,?_⟩
       obtain ⟨y,hy⟩:=Option.isSome_iff_exists.1 hs
       have:=qIr hy;rw [hrow] at this;injection this with this;subst this
       simp only [qkc,qyb hy,qqi,qPv,qUb,qsn hf,List.map_cons,List.map_nil]
      ·cases h
     ·split at h
      ·rename_i hc
       simp only [Bool.and_eq_true] at hc
       obtain ⟨rfl,hn⟩:=hc
       simp only [Option.some.injEq,Prod.mk.injEq] at h;obtain ⟨rfl,rfl,rfl⟩:=h
       exact ⟨_,rfl,by simp only [qod,qsh hn,hrow,if_true],_,rfl,rfl⟩
      ·cases h
     ·split at h
      ·rename_i hc
       simp only [Bool.and_eq_true,Option.isNone_iff_eq_none] at hc
       simp only [Option.some.injEq,Prod.mk.injEq] at h;obtain ⟨rfl,rfl,rfl⟩:=h
       exact ⟨_,rfl,by simp only [qod,hc.1,hrow,qbv hc.2],_,rfl,rfl⟩
      ·cases h
     ·split at h
      ·rename_i hc
       simp only [Bool.and_eq_true,Option.isNone_iff_eq_none] at hc
       simp only [Option.some.injEq,Prod.mk.injEq] at h;obtain ⟨rfl,rfl,rfl⟩:=h
       exact ⟨_,rfl,by simp only [qod,hc.1,hrow,qbv hc.2],_,rfl,rfl⟩
      ·cases h
    ·cases h
   |nil=>simp [outA] at h
   |junk=>simp [outA] at h
   |lng n=>simp [outA] at h
theorem qlA {t:Ty} {v:AV} {x y:qFd t} (h:qSl t v=some x) (hg:(qlE v==t.agg)=true) (hk:qod lk ren lo t x=some y):qIe lk ren lo v=some (qIv t y):=by
 cases v with
 |agg t' z=>
  simp only [qSl] at h
  split at h
  ·rename_i e
   subst e
   simp only [Option.some.injEq] at h;subst h
   simp only [qIe,hk]
   cases t' <;> simp [qlE,Ty.agg] at hg <;> rfl
  ·cases h
 |bool b=>
  cases t <;> simp [qSl] at h
  subst h;simp only [qod,Option.some.injEq] at hk;subst hk;rfl
 |int k n=>
  cases t <;> simp [qSl] at h
  obtain ⟨rfl,rfl⟩:=h;simp only [qod,Option.some.injEq] at hk;subst hk;rfl
 |str s=>
  cases t <;> simp [qSl] at h
  subst h;simp only [qod,Option.some.injEq] at hk;subst hk;rfl
 |sl e f xs=>
  cases t <;> simp only [qSl] at h <;> try cases h
  rename_i e'
  split at h
  ·rename_i he;subst he
   simp only [Option.some.injEq] at h;subst h
   simp only [qod,Option.some.injEq] at hk;subst hk;rfl
  ·cases h
 |nil=>
  cases t <;> simp [qSl] at h
  subst h;simp only [qod,Option.some.injEq] at hk;subst hk;rfl
 |ref e l off len wh=>
  cases t <;> simp only [qSl] at h <;> try cases h
  rename_i e'
  split at h
  ·rename_i he;subst he
   simp only [Option.some.injEq] at h;subst h
   cases hn:qpe ren l with
   |none=>
    simp only [qod,hn] at hk
    simp only [qIe,hn]
    split at hk
    ·rename_i hr
     simp only [Option.some.injEq] at hk;subst hk;rfl
    ·cases hk
   |some n=>
    simp only [qod,hn] at hk
    simp only [qIe,hn]
    split at hk
    ·rename_i hw
     split at hk
     ·rename_i hr
      simp only [Option.some.injEq] at hk;subst hk;simp only [hr,hw,if_true];rfl
     ·cases hk
    ·rename_i hw
     simp only [Option.some.injEq] at hk;subst hk;rw [if_neg hw];rfl
  ·cases h
 |func f caps=>
  cases caps with
  |nil=>
   cases t <;> simp [qSl] at h
   subst h;simp only [qod,Option.some.injEq] at hk;subst hk;rfl
  |cons a b=>simp [qSl] at h
 |nilFunc=>
  cases t <;> simp [qSl] at h
  subst h;simp only [qod,Option.some.injEq] at hk;subst hk;rfl
 |_=>simp [qSl] at h
theorem qpn:∀{a b:List AV} {u v:List AV},qkd lk ren lo a=some u→qkd lk ren lo b=some v→qkd lk ren lo (a++b)=some (u++v)
 |[],b,u,v,h,h'=>by simp only [qkd,Option.some.injEq] at h;subst h;exact h'
 |p::a,b,u,v,h,h'=>by
  simp only [qkd,List.cons_append] at h ⊢
  split at h
  ·rename_i o os e1 e2
   simp only [Option.some.injEq] at h;subst h
   simp only [e1,qpn e2 h',List.cons_append]
  ·cases h
theorem qAw:∀{t:Ty} {x y:qFd t},qyE t x y=true→x=y∧qod lk ren lo t x=some x
 | .pair a b,x,y,h=>by
   simp only [qyE,Bool.and_eq_true] at h
   obtain ⟨h1,h2⟩:=qAw h.1
   obtain ⟨h3,h4⟩:=qAw h.2
   exact ⟨Prod.ext h1 h3,by simp only [qod,h2,h4]⟩
 | .unit,_,_,_=>⟨rfl,rfl⟩
 | .fn,x,y,h=>by
   simp only [qyE] at h
   refine ⟨?_,rfl⟩
   split at h
   ·rw [beq_iff_eq] at h;rw [h]
   ·rfl
   ·cases h
 | .int _,_,_,h=>by cases h
 | .bool,_,_,h=>by cases h
 | .str,_,_,h=>by cases h
 | .arr _ _,_,_,h=>by cases h
 | .slice _,_,_,h=>by cases h
theorem qkB {u v:AV} (h:qTF u v=true):qIe lk ren lo u=some v:=by
 unfold qTF at h
 split at h
 ·split at h
  ·rename_i e
   subst e
   obtain ⟨h1,h2⟩:=qAw (lk:=lk) (ren:=ren) (lo:=lo) h
   simp only at h1
   simp only [qIe,←h1,h2]
  ·cases h
 ·rw [beq_iff_eq] at h;subst h;rfl
 ·rfl
 ·cases h
theorem qiw {fr:Bool}:∀{t:Ty} {y:qFd t} {u:pden t},unj t y=some u→qGr fr t y=true→inj fr t u=y
 | .int _,y,u,h,_=>by simp only [unj,Option.some.injEq] at h;subst h;rfl
 | .bool,y,u,h,_=>by simp only [unj,Option.some.injEq] at h;subst h;rfl
 | .str,y,u,h,_=>by simp only [unj,Option.some.injEq] at h;subst h;rfl
 | .arr _ _,y,u,h,_=>by simp only [unj,Option.some.injEq] at h;subst h;rfl
 | .pair a b,y,u,h,hf=>by
   simp only [unj] at h
   split at h
   ·rename_i u1 u2 h1 h2
    simp only [Option.some.injEq] at h;subst h
    simp only [qGr,Bool.and_eq_true] at hf
    simp only [inj,qiw h1 hf.1,qiw h2 hf.2]
   ·cases h
 | .unit,y,u,h,_=>rfl
 | .slice _,y,u,h,hf=>by
   cases y with
   |pure f xs=>
    simp only [unj,Option.some.injEq] at h;subst h
    simp only [qGr,beq_iff_eq] at hf;subst hf;rfl
   |ref l off len wh=>simp [unj] at h
   |nil=>simp [qGr] at hf
   |junk=>simp [unj] at h
   |lng n=>simp [unj] at h
 | .fn,y,u,h,_=>by simp only [unj,Option.some.injEq] at h;subst h;rfl
theorem qeA {i:FI} {vs vs':List AV} {k k':Nat} {r:i.den} (h:qGp lk ren fr i vs k=some (r,vs',k')):
  ∃us us1,vs=us++vs'∧qkd lk ren (!fr) us=some us1∧AVsLe us1 (qIs fr i r k).vs∧(qIs fr i r k).k=k'∧qkc lk ren (!fr) i.own=some (qUb (qIs fr i r k).os)∧∃cs,qNt lk i vs k=(cs,vs',k')∧qkc lk ren (!fr) cs=some (qUb (qIs fr i r k).rs):=by
 cases i with
 |val t sf=>
  cases vs with
  |nil=>simp [qGp] at h
  |cons v vs=>
   simp only [qGp] at h
   split at h
   ·rename_i x hx
    split at h
    ·rename_i hg
     split at h
     ·rename_i u sf' k1 ho
      simp only [Option.some.injEq,Prod.mk.injEq] at h;obtain ⟨rfl,rfl,rfl⟩:=h
      obtain ⟨y,a1,a2,cs,a3,a4⟩:=qdt ho
      refine ⟨[v],[qIv t y],rfl,?_,by simp only [qIs,a1];exact AVsLe.refl _,by simp only [qIs,a1],by simp only [FI.own,qIs,a1];rfl,cs,by simp only [qNt,hx,a3],by simp only [qIs,a1];exact a4⟩
      simp only [qkd,qlA hx hg a2]
     ·cases h
    ·cases h
   ·cases h
 |err T ki=>
  cases vs with
  |nil=>simp [qGp] at h
  |cons v vs=>
   cases v <;> simp only [qGp] at h <;> try cases h
   ·split at h
    ·rename_i hc
     obtain ⟨rfl,rfl⟩:=hc
     simp only [Option.some.injEq,Prod.mk.injEq] at h;obtain ⟨rfl,rfl,rfl⟩:=h
     exact ⟨[_],[_],rfl,rfl,⟨fun _ _ _ _ h=>h,trivial⟩,rfl,rfl,[],rfl,rfl⟩
    ·cases h
   ·exact ⟨[_],[_],rfl,rfl,⟨fun _ _ _ _ h=>h,trivial⟩,rfl,rfl,[],rfl,rfl⟩
   ·split at h
    ·rename_i hc
     obtain ⟨rfl,rfl⟩:=hc
     simp only [Option.some.injEq,Prod.mk.injEq] at h;obtain ⟨rfl,rfl,rfl⟩:=h
     exact ⟨[_],[_],rfl,rfl,⟨fun _ _ _ _ h=>h,trivial⟩,rfl,rfl,[],rfl,rfl⟩
    ·cases h
 |box j t sf=>
  simp only [qGp] at h
  split at h
  ·rename_i t' x hj
   split at h
   ·rename_i ht
    subst ht
    split at h
    ·rename_i u sf' k1 ho
     simp only [Option.some.injEq,Prod.mk.injEq] at h;obtain ⟨rfl,rfl,rfl⟩:=h
     obtain ⟨y,a1,a2,cs,a3,a4⟩:=qdt ho
     refine ⟨[],[],rfl,rfl,by simp only [qIs,a1];trivial,by simp only [qIs,a1],?_,cs,by simp only [qNt,hj,a3],by simp only [qIs,a1];exact a4⟩
     simp only [FI.own,qkc,hj,qqi,qIs,a1,qUb,List.map_cons,List.map_nil,a2]
    ·cases h
   ·cases h
  ·cases h
 |row j e=>
  simp only [qGp] at h
  split at h
  ·rename_i f xs hr
   split at h
   ·rename_i hf
    simp only [Option.some.injEq,Prod.mk.injEq] at h;obtain ⟨rfl,rfl,rfl⟩:=h
    refine ⟨[],[],rfl,rfl,trivial,rfl,?_,[],by simp only [qNt],rfl⟩
    simp only [FI.own,qkc,qyb hr,qqi,qIs,qUb,List.map_cons,List.map_nil,qsn hf]
   ·cases h
  ·cases h
 |map j kt vt=>
  simp only [qGp] at h
  split at h
  ·rename_i k' v' es hj
   split at h
   ·rename_i hc
    obtain ⟨rfl,rfl⟩:=hc
    simp only [Option.some.injEq,Prod.mk.injEq] at h;obtain ⟨rfl,rfl,rfl⟩:=h
    refine ⟨[],[],rfl,rfl,trivial,rfl,?_,[],by simp only [qNt],rfl⟩
    simp only [FI.own,qkc,hj,qqi,qIs,qUb,List.map_cons,List.map_nil]
   ·cases h
  ·cases h
 |fams j a e=>
  simp only [qGp] at h
  split at h
  ·rename_i a' e' xs hj
   split at h
   ·rename_i hc
    obtain ⟨rfl,rfl⟩:=hc
    simp only [Option.some.injEq,Prod.mk.injEq] at h;obtain ⟨rfl,rfl,rfl⟩:=h
    refine ⟨[],[],rfl,rfl,trivial,rfl,?_,[],by simp only [qNt],rfl⟩
    simp only [FI.own,qkc,hj,qqi,qIs,qUb,List.map_cons,List.map_nil]
   ·cases h
  ·cases h
 |cmap j n=>
  simp only [qGp] at h
  split at h
  ·rename_i l hj
   split at h
   ·rename_i hc
    simp only [Option.some.injEq,Prod.mk.injEq] at h;obtain ⟨_,rfl,rfl⟩:=h
    refine ⟨[],[],rfl,rfl,trivial,rfl,?_,[],by simp only [qNt],rfl⟩
    simp only [FI.own,qkc,hj,qqi,qIe,qsh hc,qIs,qUb,List.map_cons,List.map_nil]
   ·cases h
  ·cases h
 |cfn j f caps=>
  simp only [qGp] at h
  split at h
  ·rename_i g cs hj
   split at h
   ·rename_i hc
    obtain ⟨rfl,hc⟩:=hc
    simp only [Option.some.injEq,Prod.mk.injEq] at h;obtain ⟨_,rfl,rfl⟩:=h
    refine ⟨[],[],rfl,rfl,trivial,rfl,?_,[],by simp only [qNt],rfl⟩
    simp only [FI.own,qkc,hj,qqi,qIe,hc,qIs,qUb,List.map_cons,List.map_nil]
   ·cases h
  ·cases h
 |clo f t=>
  cases vs with
  |nil=>simp [qGp] at h
  |cons v vs=>
   cases v with
   |func g caps=>
    cases caps with
    |nil=>simp [qGp] at h
    |cons l r=>
     cases r with
     |cons l2 r=>simp [qGp] at h
     |nil=>
      simp only [qGp] at h
      split at h
      ·rename_i hc
       obtain ⟨rfl,hn⟩:=hc
       split at h
       ·rename_i t' x hlk
        split at h
        ·rename_i ht
         subst ht
         split at h
         ·rename_i y hy
          split at h
          ·rename_i u hu
           split at h
           ·rename_i hfa
            simp only [Option.some.injEq,Prod.mk.injEq] at h;obtain ⟨rfl,rfl,rfl⟩:=h
            refine ⟨[_],[.func g [k]],rfl,by simp only [qkd,qIe,qFq,hn],AVsLe.refl _,rfl,rfl,[(k,l)],rfl,?_⟩
            simp only [qkc,hlk,qqi,hy,qIs,qUb,List.map_cons,List.map_nil,qiw hu hfa]
           ·cases h
          ·cases h
         ·cases h
        ·cases h
       ·cases h
      ·cases h
   |_=>simp [qGp] at h
 |part e=>
  cases vs with
  |nil=>simp [qGp] at h
  |cons v vs=>
   cases v <;> simp only [qGp] at h <;> try cases h
   rename_i e' l off len wh
   split at h
   ·rename_i he
    subst he
    split at h
    ·rename_i f xs hrow
     split at h
     ·rename_i hc
      simp only [Bool.and_eq_true] at hc
      simp only [Option.some.injEq,Prod.mk.injEq] at h;obtain ⟨rfl,rfl,rfl⟩:=h
      have hks:qkc lk ren (!fr) [(k,l)]=some (qUb [(k, .row e' fr xs)]):=by
       simp only [qkc,qyb hrow,qqi,qUb,qsn hc.2,List.map_cons,List.map_nil]
      cases wh with
      |true=>
       refine ⟨[_],[.ref e' k 0 xs.length true],rfl,by simp only [qkd,qIe,qsh hc.1,qIr hrow,if_true],⟨fun w N K v hv=>?_,trivial⟩,rfl,rfl,[(k,l)],rfl,hks⟩
       obtain ⟨n,pl,g1,g2,g3,g4⟩:=hv
       exact ⟨n,pl,g1,g2,(fun h=>by cases h),g4⟩
      |false=>
       exact ⟨[_],[.ref e' k off len false],rfl,by simp only [qkd,qIe,qsh hc.1,Bool.false_eq_true,if_false],AVsLe.refl _,rfl,rfl,[(k,l)],rfl,hks⟩
     ·cases h
    ·cases h
   ·cases h
 |sub j e=>
  cases vs with
  |nil=>simp [qGp] at h
  |cons v vs=>
   cases v <;> simp only [qGp] at h <;> try cases h
   rename_i e' l off len wh
   split at h
   ·rename_i he
    subst he
    split at h
    ·rename_i f xs hrow
     split at h
     ·rename_i hc
      simp only [Option.some.injEq,Prod.mk.injEq] at h;obtain ⟨rfl,rfl,rfl⟩:=h
      cases wh with
      |true=>
       refine ⟨[_],[.ref e' j 0 xs.length true],rfl,by simp only [qkd,qIe,qsh hc,qIr hrow,if_true],⟨fun w N K v hv=>?_,trivial⟩,rfl,rfl,[],rfl,rfl⟩
       obtain ⟨n,pl,g1,g2,g3,g4⟩:=hv
       exact ⟨n,pl,g1,g2,(fun h=>by cases h),g4⟩
      |false=>
       exact ⟨[_],[.ref e' j off len false],rfl,by simp only [qkd,qIe,qsh hc,Bool.false_eq_true,if_false],AVsLe.refl _,rfl,rfl,[],rfl,rfl⟩
     ·cases h
    ·cases h
   ·cases h
 |cst v=>
  cases vs with
  |nil=>simp [qGp] at h
  |cons u vs=>
   simp only [qGp] at h
   split at h
   ·rename_i hc
    simp only [Option.some.injEq,Prod.mk.injEq] at h;obtain ⟨_,rfl,rfl⟩:=h
    exact ⟨[_],[v],rfl,by simp only [qkd,qkB hc],AVsLe.refl _,rfl,rfl,[],rfl,rfl⟩
   ·cases h
theorem qdA:∀{is:List FI} {vs vs':List AV} {k k':Nat} {r:PT is},qwE lk ren fr is vs k=some (r,vs',k')→
  ∃us us1,vs=us++vs'∧qkd lk ren (!fr) us=some us1∧AVsLe us1 (qUA fr is r k).vs∧(qUA fr is r k).k=k'∧qkc lk ren (!fr) (is.flatMap FI.own)=some (qUb (qUA fr is r k).os)∧
   qkc lk ren (!fr) (qnB lk is vs k)=some (qUb (qUA fr is r k).rs)
 |[],vs,vs',k,k',r,h=>by
  simp only [qwE,Option.some.injEq,Prod.mk.injEq] at h;obtain ⟨_,rfl,rfl⟩:=h
  exact ⟨[],[],rfl,rfl,trivial,rfl,rfl,rfl⟩
 |[a],vs,vs',k,k',r,h=>by
  simp only [qwE] at h
  obtain ⟨us,us1,h1,h2,h2',h3,h4,cs,h5,h6⟩:=qeA h
  refine ⟨us,us1,h1,h2,h2',h3,?_,?_⟩
  ·simp only [List.flatMap_cons,List.flatMap_nil,List.append_nil];exact h4
  ·simp only [qnB,h5,List.append_nil];exact h6
 |a::b::q,vs,vs',k,k',r,h=>by
  simp only [qwE] at h
  split at h
  ·rename_i x vs1 k1 ho
   split at h
   ·rename_i y vs2 k2 hl
    simp only [Option.some.injEq,Prod.mk.injEq] at h;obtain ⟨rfl,rfl,rfl⟩:=h
    obtain ⟨us,us1,h1,h2,h2',h3,h4,cs,h5,h6⟩:=qeA ho
    obtain ⟨us',us1',g1,g2,g2',g3,g4,g5⟩:=qdA hl
    subst h3
    refine ⟨us++us',us1++us1',by rw [h1,g1,List.append_assoc],qpn h2 g2,?_,g3,?_,?_⟩
    ·simp only [qUA];exact h2'.append g2'
    ·rw [List.flatMap_cons];simp only [qUA,qji];exact qwf h4 g4
    ·rw [qnB,h5];simp only [qUA,qji];exact qwf h6 g5
   ·cases h
  ·cases h
theorem quA {res:TV} {us:List AV} (ht:qOB (tvs res)=res) (h:qkd lk ren lo (tvs res)=some us):qYl lk ren lo res=some (qOB us):=by
 cases res with
 |one v=>
  simp only [tvs,qkd] at h
  simp only [qYl]
  split at h
  ·rename_i u us' e1 e2
   simp only [Option.some.injEq] at e2 h;subst e2;subst h
   simp only [e1,qOB]
  ·cases h
 |tup vs=>
  simp only [tvs] at h ht
  simp only [qYl,h]
  have:∀u,us≠[u]:=by
   rintro u rfl
   cases vs with
   |nil=>simp [qkd] at h
   |cons a r=>cases r with
    |nil=>simp [qOB] at ht
    |cons b q=>
     simp only [qkd] at h
     split at h
     ·rename_i e1 e2
      split at e2
      ·simp only [Option.some.injEq] at e2;subst e2;simp at h
      ·cases e2
     ·cases h
  unfold qOB
  split
  ·rename_i v;exact absurd rfl (this v)
  ·rfl
theorem qyD:∀{as bs:List AV},AVsLe as bs→TVle (qOB as) (qOB bs)
 |[],[],h=>h
 |[_],[_],h=>h.1
 |_::_::_,_::_::_,h=>h
 |[_],_::_::_,h=>h.2.elim
 |_::_::_,[_],h=>h.2.elim
 |[],_::_,h=>h.elim
 |_::_,[],h=>h.elim
theorem qZB {σ:St} {rs:List ResultVar} {res:TV} (h:qQv P σ rs=some res):qOB (tvs res)=res:=by
 unfold qQv at h
 split at h
 ·simp only [Option.some.injEq] at h;subst h;rfl
 ·rename_i vs hv hn
  simp only [Option.some.injEq] at h;subst h
  simp only [tvs]
  unfold qOB
  split
  ·rename_i v;exact absurd rfl (hv v)
  ·rfl
 ·cases h
theorem Fm.fin_ok {F:Fm} {rs:List ResultVar} {s:Pos} {r:F.R} (h:F.fin P rs s=some r):
  ∃res0 res1 ren nx lo,qQv P s.st rs=some res0∧qmy ren nx=true∧qYl (qAb s.st.heap) ren lo res0=some res1∧TVle res1 (F.res r)∧qkc (qAb s.st.heap) ren lo ren=some (qUb (F.post r)):=by
 unfold Fm.fin at h
 split at h
 ·rename_i res0 hres
  simp only at h
  split at h
  ·rename_i hok
   split at h
   ·rename_i r' k' ho
    simp only [Option.some.injEq] at h;subst h
    obtain ⟨us,us1,h1,h2,h2',h3,h4,h5⟩:=qdA ho
    rw [List.append_nil] at h1
    rw [←h1] at h2
    refine ⟨res0,_,_,_,_,hres,hok,quA (qZB hres) h2,qyD h2',?_⟩
    simp only [Fm.post,qji]
    exact qwf h4 h5
   ·cases h
  ·cases h
 ·cases h
end
end Go.Ab

/-
  What a function computes, as a plain function: the machine's own runs, with what is open left open.
-/
set_option linter.unusedVariables false
set_option linter.unusedSimpArgs false
namespace Go.Ab
open Go
structure Summ (P:Program) (GT:qtg) where
 f:Nat
 acc:List AV→Bool
 rows:Bool
 nils:Bool
 R:Type
 fn:List AV→List (Nat×Obj)→Option R
 res:R→TV
 post:R→List (Nat×Obj)
 drop:Bool:=false
 ok:∀as pre r,fn as pre=some r→CallOK P GT f as pre (res r) (post r)
@[reducible] def Summ.dropping {P:Program} {GT:qtg} (S:Summ P GT):Summ P GT:={S with drop:=true}
def qhC {P:Program} {GT:qtg} (f:Nat) (vs:List AV):List (Summ P GT)→Option (Summ P GT)
 |[]=>none
 |S::r=>if S.f==f&&S.acc vs then some S else qhC f vs r
theorem qVz {P:Program} {GT:qtg} {f:Nat} {vs:List AV}:∀{tab:List (Summ P GT)} {S:Summ P GT},qhC f vs tab=some S→S.f=f
 |[],S,h=>by cases h
 |T::r,S,h=>by
  simp only [qhC] at h
  split at h
  ·rename_i hc
   simp only [Option.some.injEq] at h;subst h
   simp only [Bool.and_eq_true,beq_iff_eq] at hc;exact hc.1
  ·exact qVz h
inductive Tr:Type 1
 |bit (b:Bool) (t e:Tr)
 |safe (p:Prop) (t:Tr)
 |call (R:Type) (v:Option R) (k:R→Tr)
 |any (R:Type) (p:R→Prop) (k:R→Tr)
 |leaf (s:Pos)
 |ret (s:Pos)
 |dead
@[reducible] noncomputable def gd {R:Type} (p:Prop) (x:Option R):Option R:=@ite _ p (Classical.propDecidable p) x none
theorem qea {R:Type} {p:Prop} (h:p) (x:Option R):gd p x=x:=if_pos h
theorem qhr {R:Type} {p:Prop} {x:Option R} {r:R} (h:gd p x=some r):p∧x=some r:=by
 unfold gd at h
 split at h
 ·exact ⟨by assumption,h⟩
 ·cases h
open Classical in
noncomputable def qzB {X R:Type} (p:X→Prop) (f:X→Option R):Option R:=
 if h:(∃x,p x)∧∃r,∀x,p x→f x=some r then some (Classical.choose h.2) else none
theorem qIh {X R:Type} {p:X→Prop} {f:X→Option R} {r:R} (h:qzB p f=some r):∀x,p x→f x=some r:=by
 unfold qzB at h
 split at h
 ·rename_i hh
  simp only [Option.some.injEq] at h
  exact h▸Classical.choose_spec hh.2
 ·cases h
theorem qDr {X R:Type} {p:X→Prop} {f:X→Option R} {r:R} (x:X) (hx:p x) (h:∀x,p x→f x=some r):qzB p f=some r:=by
 have hh:(∃x,p x)∧∃r,∀x,p x→f x=some r:=⟨⟨x,hx⟩,r,h⟩
 unfold qzB
 rw [dif_pos hh]
 have:=Classical.choose_spec hh.2 x hx
 rw [h x hx] at this
 exact this.symm
theorem qyB {X R:Type} {p:X→Prop} {f:X→Option R} {r:R} (h:qzB p f=some r):∃x,p x:=by
 unfold qzB at h
 split at h
 ·rename_i hh;exact hh.1
 ·cases h
noncomputable def den {R:Type} (lf fin:Pos→Option R):Tr→Option R
 | .bit b t e=>if b=true then den lf fin t else den lf fin e
 | .safe p t=>gd p (den lf fin t)
 | .call _ v k=>v.bind fun r=>den lf fin (k r)
 | .any _ p k=>qzB p fun x=>den lf fin (k x)
 | .leaf s=>lf s
 | .ret s=>fin s
 | .dead=>none
def quC (rows:Bool):AV→List Nat
 | .ptr _ l _=>[l]
 | .ifp _ _ l _=>[l]
 | .cslice _ l _=>[l]
 | .cptr l=>[l]
 | .func _ caps=>caps
 | .mapr l=>[l]
 | .ref _ l _ _ _=>if rows then [l] else []
 | .bref _ l _ _ _ _=>if rows then [l] else []
 | .agg t x=>if rows then qrp t x else []
 |_=>[]
def qQF (rows:Bool):Obj→List Nat
 | .box t x=>if rows then qrp t x else []
 | .cell v=>quC rows v
 |_=>[]
def qAs (lk:qzb) (rows:Bool):Nat→List Nat→List Nat→List Nat
 |0,_,acc=>acc
 |_,[],acc=>acc
 |n+1,l::q,acc=>if acc.contains l then qAs lk rows n q acc else qAs lk rows n (q++(match lk l with
  |some o=>qQF rows o
  |none=>[])) (acc++[l])
def qAF:Nat→List Nat→List (Nat×Nat)
 |_,[]=>[]
 |n,l::r=>(n,l)::qAF (n+1) r
def qqv:List Prop→Tr→Tr
 |[],t=>t
 |p::r,t=> .safe p (qqv r t)
def qsr (g:Bool) (v:TV) (k:TV→Tr):Tr:=
 if g then match v with
  | .one (.bool b)=> .bit b (k (.one (.bool true))) (k (.one (.bool false)))
  |_=> .dead
 else k v
section
variable (P:Program) (GT:qtg) (nt:Nat) (mnz:List Nat) (tab:List (Summ P GT))
def qhF (H:qzb) (nl:Nat) (ev:Operand→TV) (op:Op) (k:Out→List Nat→Tr):Tr:=
 match op with
 | .call {callee:= .value f,args,argTypes:=_}=>match ev1 ev f,evs ev args.toList with
   |some (.func f caps),some vs0=>match qBn (qqd H (quy ev op)) caps with
    |some cs=>match qhC f (vs0++cs) tab with
     |some S=>
      let locs:=qAs H S.rows 60 ((vs0++cs).flatMap (quC S.rows)) []
      let ren:=qAF 0 locs
      let use:=(vs0++cs).flatMap qzg++locs.flatMap fun l=>match H l with
       |some o=>qrm o
       |none=>[]
      let L:=quy ev op++(ren.map (·.2)++use)
      match qkd (qqd H L) ren true (vs0++cs),qkc (qqd H L) ren true ren with
      |some pv,some hl=>match qPn hl with
       |some pre=> .call S.R (S.fn ((if S.nils then pv else qDq P (qUh P f) pv)) pre) fun r=>
        match qyr P GT (qqd H L) nl f (vs0++cs) ⟨(if S.nils then pv else qDq P (qUh P f) pv),pre,ren,use,S.res r,S.post r,S.drop⟩ with
        |some out=>k out L
        |none=> .dead
       |none=> .dead
      |_,_=> .dead
     |none=> .dead
    |none=> .dead
   |_,_=> .dead
 |_=> .dead
def opT (ops:List Oper) (T:Nat→TV) (H:qzb) (nl i:Nat) (o:Oper) (k:Ev→Tr):Tr:=
 match qdy ops T o with
 |some false=>k ⟨.one .gone,[],[]⟩
 |none=> .dead
 |some true=>
  if qhD o.op then qhF P GT tab H nl (evT GT T) o.op fun out L=>qsr (qXu ops i) out.v fun v=>k ⟨v,out.upd,L⟩
  else match qeb P GT (evT GT T) (qqd H (quy (evT GT T) o.op)) nl none o.type o.op with
   |some out=>qqv out.conds (qsr (qXu ops i) out.v fun v=>k ⟨v,out.upd,quy (evT GT T) o.op⟩)
   |none=> .dead
def opN (draw:Bool) (ops:List Oper) (T:Nat→TV) (H:qzb) (nl i:Nat) (o:Oper) (k:Ev→Tr):Tr:=
 match (if draw then none else match qdy ops T o with
  |some true=>qBB P mnz (evT GT T) nl o.op
  |_=>none) with
 |some a=>qqv a.pre (.any a.R a.p fun x=>qsr (qXu ops i) (a.out x).v fun v=>k ⟨v,(a.out x).upd,[]⟩)
 |none=>opT P GT tab ops T H nl i o k
def qxE (draw:Bool) (ops:List Oper):Nat→List Oper→St→(St→List (Oper×Ev)→Tr)→Tr
 |_,[],σ,k=>k σ []
 |i,o::r,σ,k=>opN P GT mnz tab draw ops (keepT (o.looksAt ops.toArray) σ.look) (qAb σ.heap) (σ.next+8*i) i o fun e=>
  if qkj nt o.dst then qxE draw ops (i+1) r (σ.put o.dst e) fun σ' tr=>k σ' ((o,e)::tr) else .dead
def qPF (P:Program):Op→Bool
 | .store T _ _=>match P.underlying T with
   |some (.slice _)=>decide (qEc P tyD T=some (.slice .bool))
   |_=>false
 |_=>false
def qTE (P:Program):Op→Bool
 | .call {callee:= .builtin .append,args:=_,argTypes}=>match argTypes.toList with
   |T::_=>decide (qyj P T=some (.pair (.int .i64) (.pair (.int .i64) (.pair (.int .i64) .unit))))
   |_=>false
 |_=>false
def qjG (P:Program) (op:Op):Bool:=qUE op||qPF P op||qTE P op
def qrG (l:Nat) (h:List (Nat×Option Obj)):Bool:=h.all fun p=>match p.2 with
 |some ob=>p.1==l||!(qrm ob).contains l
 |none=>true
def qTD (σ:St) (l:Nat):Bool:=σ.tmps.all (fun p=>qwF [l] p.2)&&σ.heap.all fun p=>match p.2 with
 |some o=>okO [l] o
 |none=>true
def qgG (ops:List Oper) (σ:St) (T:Nat→TV) (H:qzb) (nl i:Nat) (o:Oper) (k:Ev→Tr):Tr:=
 match (if qjG P o.op then qdy ops T o else none) with
 |some true=>if qXu ops i then .dead else match qCw P (evT GT T) H o.op with
  |some out=>qqv out.conds (k ⟨out.v,out.upd,[]⟩)
  |none=>match qTz P (evT GT T) H o.op with
   |some (l,out)=>if qTD σ l then k ⟨out.v,out.upd,[]⟩ else .dead
   |none=>match qlw P (evT GT T) H nl o.op with
    |some (e,l,m,A,B)=>if qrG l σ.heap then match qxF e l m σ.tmps with
      |some cs=> .any Bool (fun _=>True) fun b=> .bit b (qqv cs (k ⟨A.v,A.upd,[]⟩)) (qqv B.conds (k ⟨B.v,B.upd,[]⟩))
      |none=> .dead
     else .dead
    |none=>opT P GT tab ops T H nl i o k
 |_=>opT P GT tab ops T H nl i o k
def qYv (ops:List Oper):Nat→List Oper→St→(St→Tr)→Tr
 |_,[],σ,k=>k σ
 |i,o::r,σ,k=>qgG P GT tab ops σ (keepT (o.looksAt ops.toArray) σ.look) (qAb σ.heap) (σ.next+8*i) i o fun e=>
  if qkj nt o.dst then qYv ops (i+1) r (σ.put o.dst e) k else .dead
def qWs (ops:List Oper) (draw:Bool) (σ:St) (k:St→Tr):Tr:=
 if !draw&&ops.any (fun o=>qjG P o.op) then qYv P GT nt tab ops 0 ops σ fun σ'=>k {σ' with next:=σ.next+8*ops.length}
 else qxE P GT nt mnz tab draw ops 0 ops σ fun σ' tr=>if !draw||qJx ops tr then k {σ' with next:=σ.next+8*ops.length} else .dead
def qVB (s:Pos) (k:Pos→Tr):Tr:=
 match s.todo with
 | .code .skip::q| .code (.label _)::q| .inBlock _::q| .inScope _::q=>k ⟨q,s.st⟩
 | .code (.scope body)::q=>k ⟨.code body:: .inScope body::q,s.st⟩
 | .code (.seq a b)::q=>k ⟨.code a:: .code b::q,s.st⟩
 | .code (.cond c x y)::q=>match evO GT s.st c with
   | .one (.bool b)=> .bit b (k ⟨.code x::q,s.st⟩) (k ⟨.code y::q,s.st⟩)
   |_=> .dead
 | .code (.block id body)::q=>k ⟨.code body:: .inBlock id::q,s.st⟩
 | .code (.loop body)::q| .inLoop body::q=>k ⟨.code body:: .inLoop body::q,s.st⟩
 | .code (.exit id)::q=>match exitTo id q with
   |some q'=>k ⟨q',s.st⟩
   |none=> .dead
 | .code (.goto l)::q=>match gotoIn l q with
   |some q'=>k ⟨q',s.st⟩
   |none=> .dead
 | .code (.region _ ops draw)::q=>qWs P GT nt mnz tab ops.toList draw s.st fun σ=>k ⟨q,σ⟩
 |_=> .dead
structure Cut where
 key:Nat×Nat
 ts:List Nat
 lo:Bool
 pre:Bool:=false
 fams:List Nat:=[]
 rows:List Nat:=[]
 parts:List Nat:=[]
def qUo:Code→Option Nat
 | .region id _ _=>some id
 | .seq a b=>match qUo a with
   |some i=>some i
   |none=>qUo b
 | .cond _ a b=>match qUo a with
   |some i=>some i
   |none=>qUo b
 | .block _ b=>qUo b
 | .loop b=>qUo b
 | .scope b=>qUo b
 |_=>none
def qOF (todo:List Item):Nat×Nat:=
 match todo with
 | .code c::q=>match qUo c with
   |some i=>(i,q.length)
   |none=>(0,0)
 |_=>(0,0)
def qow (key:Nat×Nat):List Cut→Option Cut
 |[]=>none
 |c::r=>if c.key.1==key.1&&c.key.2==key.2 then some c else qow key r
def qRE (σ:St) (ts:List Nat) (lo pre:Bool):Option St:=
 let lk:=qAb σ.heap
 let locs:=qAs lk true 60 ((if pre then (List.range 8).filter fun l=>(lk l).isSome else [])++ts.flatMap fun t=>qej (σ.look t)) []
 let ren:=(locs.filter (·<8)).map (fun l=>(l,l))++qAF 8 (locs.filter fun l=>!(l<8))
 σ.keep ts ren (8+locs.length) lo
def qZE:Option Obj→Option Obj
 |some (.row (.slice e) fr [])=>if e.flat then some (.fam e []) else some (.row (.slice e) fr [])
 |some (.row (.pair a (.pair (.slice e) .unit)) fr [])=>if a.flat&&e.flat then some (.famS a e []) else some (.row (qLm a e) fr [])
 |o=>o
def qwC (ns:List Nat):List (Nat×Option Obj)→List (Nat×Option Obj)
 |[]=>[]
 |p::r=>(if ns.contains p.1 then (p.1,qZE p.2) else p)::qwC ns r
def qXD (σ:St) (ns:List Nat):St:=match ns with
 |[]=>σ
 |ns=>{σ with heap:=qwC ns σ.heap}
def quE:Obj→Option Obj
 | .famS a e xs=>some (.row (qLm a e) true (qRg xs))
 | .fam e xss=>some (.row (.slice e) true xss)
 |_=>none
def qPB (l:Nat) (o:Obj):List (Nat×Option Obj)→List (Nat×Option Obj)
 |[]=>[]
 |p::r=>if p.1=l then (l,some o)::r else p::qPB l o r
def qkq (σ:St) (l:Nat):St:=match qAb σ.heap l with
 |some o=>match quE o with
  |some o'=>if decide (8≤l)&&qTD σ l then {σ with heap:=qPB l o' σ.heap} else σ
  |none=>σ
 |none=>σ
def qDD (σ:St):List Nat→St
 |[]=>σ
 |l::r=>qDD (qkq σ l) r
def qXv:TV→TV
 | .one (.ref e l off n _)=> .one (.ref e l off n false)
 |v=>v
def qcA (σ:St) (ts:List Nat):St:=match ts with
 |[]=>σ
 |ts=>{σ with tmps:=σ.tmps.map fun p=>if ts.contains p.1 then (p.1,qXv p.2) else p}
def qBF (c:Cut) (s:Pos):Tr:=
 match qRE s.st c.ts c.lo c.pre with
 |some σ=> .leaf ⟨s.todo,qcA (qDD (qXD σ c.fams) c.rows) c.parts⟩
 |none=> .dead
def qwA (todo:List Item):Option (List Item):=
 match todo with
 | .code (.loop body)::q| .inLoop body::q=>some (.code body:: .inLoop body::q)
 | .code (.goto l)::q=>gotoIn l q
 |_=>none
def qey (cuts:List Cut):Nat→Bool→Pos→Tr
 |0,_,_=> .dead
 |n+1,first,s=>
  match qEy s.todo with
  |true=> .ret s
  |false=>match qwA s.todo with
   |some todo'=>match qow (qOF todo') cuts with
    |some c=>qBF c ⟨todo',s.st⟩
    |none=>qey cuts n false ⟨todo',s.st⟩
   |none=>match first,s.todo with
    |false, .code (.region id _ _)::q=>match qow (id,q.length) cuts with
     |some c=>qBF c s
     |none=>qVB P GT nt mnz tab s (qey cuts n false)
    |_,_=>qVB P GT nt mnz tab s (qey cuts n false)
end
structure FnI (P:Program) (GT:qtg) where
 f:Nat
 cuts:List Cut
 tab:List (Summ P GT)
 fm:Fm
 mnz:List Nat:=[]
 mnzOk:∀f∈mnz,qez P f:=by intro f h;cases h
section
variable {P:Program} {GT:qtg} (I:FnI P GT)
noncomputable def FnI.go (s:Pos) (lf:Pos→Option I.fm.R):Option I.fm.R:=
 den lf (I.fm.fin P (qEE P I.f)) (qey P GT (qZt P I.f) I.mnz I.tab I.cuts 3000 true s)
inductive FnI.SemR (r:I.fm.R):Pos→Prop
 |mk (s:Pos) (lf:Pos→Option I.fm.R) (h:I.go s lf=some r) (hl:∀s',lf s'=some r→SemR r s'):SemR r s
open Classical in
noncomputable def FnI.sem (s:Pos):Option I.fm.R:=
 if h:∃r,I.SemR r s then some (Classical.choose h) else none
end
def Lfs {R:Type} (lf fin:Pos→Option R) (r:R):Tr→Pos→Prop
 | .bit b t e,s=>if b=true then Lfs lf fin r t s else Lfs lf fin r e s
 | .safe _ t,s=>Lfs lf fin r t s
 | .call R' v k,s=>∃x,v=some x∧Lfs lf fin r (k x) s
 | .any R' p k,s=>∃x,p x∧Lfs lf fin r (k x) s
 | .leaf s',s=>s'=s
 | .ret _,_=>False
 | .dead,_=>False
theorem qil {R:Type} {lf fin:Pos→Option R} {r:R}:∀{t:Tr},den lf fin t=some r→∀s,Lfs lf fin r t s→lf s=some r
 | .bit b t e,h,s,hs=>by
   simp only [den] at h
   simp only [Lfs] at hs
   split at h
   ·rename_i hb;rw [if_pos hb] at hs;exact qil h s hs
   ·rename_i hb;rw [if_neg hb] at hs;exact qil h s hs
 | .safe p t,h,s,hs=>qil (qhr h).2 s hs
 | .call R' v k,h,s,⟨x,hx,hs⟩=>by
   simp only [den,hx,Option.bind_some] at h
   exact qil h s hs
 | .any R' p k,h,s,⟨x,hx,hs⟩=>qil (qIh h x hx) s hs
 | .leaf s',h,s,hs=>by subst hs;exact h
 | .ret _,h,s,hs=>hs.elim
 | .dead,h,s,hs=>hs.elim
theorem qKs {R:Type} {lf lf' fin:Pos→Option R} {r:R}:∀{t:Tr},den lf fin t=some r→(∀s,Lfs lf fin r t s→lf' s=some r)→den lf' fin t=some r
 | .bit b t e,h,hs=>by
   simp only [den] at h ⊢
   split at h
   ·rename_i hb
    rw [if_pos hb]
    exact qKs h (fun s q=>hs s (by simp only [Lfs];rw [if_pos hb];exact q))
   ·rename_i hb
    rw [if_neg hb]
    exact qKs h (fun s q=>hs s (by simp only [Lfs];rw [if_neg hb];exact q))
 | .safe p t,h,hs=>by
   obtain ⟨hp,h⟩:=qhr h
   simp only [den]
   rw [qea hp]
   exact qKs h hs
 | .call R' v k,h,hs=>by
   simp only [den,Option.bind_eq_some_iff] at h ⊢
   obtain ⟨x,hx,h⟩:=h
   exact ⟨x,hx,qKs h (fun s q=>hs s ⟨x,hx,q⟩)⟩
 | .any R' p k,h,hs=>by
   simp only [den] at h ⊢
   obtain ⟨x,hx⟩:=qyB h
   exact qDr x hx (fun y hy=>qKs (qIh h y hy) (fun s q=>hs s ⟨y,hy,q⟩))
 | .leaf s',h,hs=>hs s' rfl
 | .ret _,h,hs=>h
 | .dead,h,hs=>by cases h
theorem qqo {R:Type} {lf lf' fin:Pos→Option R} {r r':R}:∀{t:Tr},den lf fin t=some r→den lf' fin t=some r'→r=r'∨∃s,lf s=some r∧lf' s=some r'
 | .bit b t e,h,h'=>by
   simp only [den] at h h'
   split at h
   ·rename_i hb;rw [if_pos hb] at h';exact qqo h h'
   ·rename_i hb;rw [if_neg hb] at h';exact qqo h h'
 | .safe p t,h,h'=>qqo (qhr h).2 (qhr h').2
 | .call R' v k,h,h'=>by
   simp only [den,Option.bind_eq_some_iff] at h h'
   obtain ⟨x,hx,h⟩:=h
   obtain ⟨x',hx',h'⟩:=h'
   rw [hx] at hx'
   simp only [Option.some.injEq] at hx'
   subst hx'
   exact qqo h h'
 | .any R' p k,h,h'=>by
   simp only [den] at h h'
   obtain ⟨x,hx⟩:=qyB h
   exact qqo (qIh h x hx) (qIh h' x hx)
 | .leaf s',h,h'=> .inr ⟨s',h,h'⟩
 | .ret _,h,h'=>by
   simp only [den] at h h'
   rw [h] at h'
   exact .inl (by simpa using h')
 | .dead,h,h'=>by cases h
section
variable {P:Program} {GT:qtg} {I:FnI P GT}
theorem FnI.SemR.det {r r':I.fm.R} {s:Pos} (h:I.SemR r s):I.SemR r' s→r=r':=by
 induction h with
 |mk s lf h hl ih=>
  rintro ⟨_,lf',h',hl'⟩
  rcases qqo h h' with e|⟨s',h1,h2⟩
  ·exact e
  ·exact ih s' h1 (hl' s' h2)
theorem FnI.sem_iff {s:Pos} {r:I.fm.R}:I.sem s=some r↔I.SemR r s:=by
 unfold FnI.sem
 constructor
 ·intro h
  split at h
  ·rename_i he
   simp only [Option.some.injEq] at h
   exact h▸Classical.choose_spec he
  ·cases h
 ·intro h
  have he:∃r,I.SemR r s:=⟨r,h⟩
  rw [dif_pos he]
  exact congrArg some ((Classical.choose_spec he).det h)
theorem FnI.sem_eq (s:Pos):I.sem s=I.go s I.sem:=by
 have key:∀r,I.sem s=some r↔I.go s I.sem=some r:=by
  intro r
  constructor
  ·intro h
   obtain ⟨_,lf,h,hl⟩:=FnI.sem_iff.1 h
   exact qKs h (fun s' hs=>FnI.sem_iff.2 (hl s' (qil h s' hs)))
  ·intro h
   exact FnI.sem_iff.2 ⟨s,I.sem,h,fun s' hs=>FnI.sem_iff.1 hs⟩
 cases h:I.go s I.sem with
 |some r=>exact (key r).2 h
 |none=>
  cases h':I.sem s with
  |none=>rfl
  |some r=>rw [(key r).1 h'] at h;cases h
variable {nt:Nat} {mnz:List Nat} {tab:List (Summ P GT)} {R:Type} {lf fin:Pos→Option R} {r:R}
theorem qii:∀{a b:List Prop},qVf a→qVf b→qVf (a++b)
 |[],_,_,h=>h
 |_::_,_,h,h'=>⟨h.1,qii h.2 h'⟩
theorem qkl:∀{cs:List Prop} {t:Tr},den lf fin (qqv cs t)=some r→qVf cs∧den lf fin t=some r
 |[],_,h=>⟨trivial,h⟩
 |p::q,t,h=>by
  simp only [qqv,den] at h
  obtain ⟨hp,h⟩:=qhr h
  obtain ⟨h1,h2⟩:=qkl h
  exact ⟨⟨hp,h1⟩,h2⟩
theorem qro {g:Bool} {v:TV} {k:TV→Tr} (h:den lf fin (qsr g v k)=some r):
  ∃v' c os,(∀rest,qxm g v (os++rest)=some (v',c,rest))∧qVf c∧den lf fin (k v')=some r:=by
 unfold qsr at h
 split at h
 ·rename_i hg
  split at h
  ·rename_i b
   simp only [den] at h
   split at h
   ·rename_i hb
    exact ⟨.one (.bool true),[b=true],[.bit true],fun rest=>by simp [qxm,hg],⟨hb,trivial⟩,h⟩
   ·rename_i hb
    simp only [Bool.not_eq_true] at hb
    exact ⟨.one (.bool false),[b=false],[.bit false],fun rest=>by simp [qxm,hg],⟨hb,trivial⟩,h⟩
  ·cases h
 ·rename_i hg
  exact ⟨v,[],[],fun rest=>by simp [qxm,hg],trivial,h⟩
theorem qym {lk lk':qzb} (hs:∀l o,lk l=some o→lk' l=some o):∀{ls:List Nat} {cs:List AV},qBn lk ls=some cs→qBn lk' ls=some cs
 |[],cs,h=>h
 |l::q,cs,h=>by
  simp only [qBn] at h ⊢
  split at h
  ·rename_i h1 h2
   rw [hs _ _ h1,qym hs h2];exact h
  ·rename_i h1 h2
   rw [hs _ _ h1,qym hs h2];exact h
  ·cases h
theorem qjA {ops:List Oper} {T:Nat→TV} {H:qzb} {nl i:Nat} {o:Oper} {k:Ev→Tr} (h:den lf fin (opT P GT tab ops T H nl i o k)=some r):
  ∃e c os,(∀rest,qRA P GT ops T H nl i o (os++rest)=some (e,c,rest))∧qVf c∧den lf fin (k e)=some r:=by
 unfold opT at h
 split at h
 ·rename_i hw
  exact ⟨_,[],[],fun rest=>by simp [qRA,hw],trivial,h⟩
 ·cases h
 ·rename_i hw
  split at h
  ·rename_i hcall
   unfold qhF at h
   split at h
   ·rename_i f args ats hop
    split at h
    ·rename_i f caps vs0 hf hvs
     split at h
     ·rename_i cs hcs
      split at h
      ·rename_i S hS
       simp only at h
       split at h
       ·rename_i pv hl hpv hhl
        split at h
        ·rename_i pre hpre
         simp only [den,Option.bind_eq_some_iff] at h
         obtain ⟨x,hx,h⟩:=h
         split at h
         ·rename_i out hout
          obtain ⟨v',c,os,h1,h2,h3⟩:=qro h
          let oc:COrc:=⟨(if S.nils then pv else qDq P (qUh P f) pv),pre,qAF 0 (qAs H S.rows 60 ((vs0++cs).flatMap (quC S.rows)) []),((vs0++cs).flatMap qzg++(qAs H S.rows 60 ((vs0++cs).flatMap (quC S.rows)) []).flatMap fun l=>match H l with
           |some o=>qrm o
           |none=>[]),S.res x,S.post x,S.drop⟩
          refine ⟨_,c++out.conds, .call oc::os,fun rest=>?_,qii h2 ?_,h3⟩
          ·simp only [qRA,hw,qDz,List.cons_append]
           have ht:qAp o.op (.call oc::(os++rest))=some (some oc,os++rest):=by
            simp only [qAp,hcall,if_true]
           rw [ht]
           simp only [qet,hop,qeb,hf,hvs]
           rw [qym (fun l ob hlo=>?_) hcs]
           ·simp only
            rw [hop] at hout
            rw [hout]
            simp only [h1]
            rfl
           ·rw [hop] at hlo
            unfold qqd at hlo ⊢
            split at hlo
            ·rename_i hm
             simp only [List.contains_eq_mem,List.mem_append,decide_eq_true_eq] at hm ⊢
             rw [if_pos (.inl hm)];exact hlo
            ·cases hlo
          ·have hA:∀as,(if S.nils then pv else qDq P (qUh P f) pv)=as→as=qDq P (qUh P f) pv∨as=pv:=by
            rintro as rfl
            cases S.nils
            ·exact .inl rfl
            ·exact .inr rfl
           unfold qyr at hout
           simp only at hout
           generalize hAs:(if S.nils then pv else qDq P (qUh P f) pv)=as at hout hx
           rw [hpv,hhl] at hout
           simp only at hout
           split at hout
           ·injection hout with hout;subst hout
            refine ⟨hA _ hAs,qGo hpre,?_,trivial⟩
            have:=S.ok _ _ _ hx
            rwa [qVz hS] at this
           ·cases hout
         ·cases h
        ·cases h
       ·cases h
      ·cases h
     ·cases h
    ·cases h
   ·cases h
  ·rename_i hcall
   split at h
   ·rename_i out hout
    obtain ⟨h0,h⟩:=qkl h
    obtain ⟨v',c,os,h1,h2,h3⟩:=qro h
    refine ⟨_,c++out.conds,os,fun rest=>?_,qii h2 h0,h3⟩
    simp only [Bool.not_eq_true] at hcall
    simp only [qRA,hw,qDz,qAp,hcall,qet,List.append_nil,Bool.false_eq_true,if_false]
    rw [hout]
    simp only [h1]
   ·cases h
theorem qoC {ops:List Oper} {T:Nat→TV} {H:qzb} {nl i:Nat} {o:Oper} {k:Ev→Tr}:opN P GT mnz tab true ops T H nl i o k=opT P GT tab ops T H nl i o k:=rfl
theorem qgA {ops:List Oper}:∀{q:List Oper} {i:Nat} {σ:St} {k:St→List (Oper×Ev)→Tr},den lf fin (qxE P GT nt mnz tab true ops i q σ k)=some r→
  ∃σ' c os tr,(∀rest,qVj P GT nt ops i q σ (os++rest)=some (σ',c,rest,tr))∧qVf c∧den lf fin (k σ' tr)=some r
 |[],i,σ,k,h=>⟨σ,[],[],[],fun rest=>rfl,trivial,h⟩
 |o::q,i,σ,k,h=>by
  simp only [qxE,qoC] at h
  obtain ⟨e,c,os,h1,h2,h3⟩:=qjA h
  split at h3
  ·rename_i hd
   obtain ⟨σ',c',os',tr,g1,g2,g3⟩:=qgA h3
   refine ⟨σ',c++c',os++os',_,fun rest=>?_,qii h2 g2,g3⟩
   rw [List.append_assoc]
   simp only [qVj,h1,hd,if_true,g1]
  ·cases h3
theorem qpy {ops:List Oper} {σ:St} {k:St→Tr} (h:den lf fin (qWs P GT nt mnz tab ops true σ k)=some r):
  ∃σ' c os,(∀rest,qUj P GT nt ops true σ (os++rest)=some (σ',c,rest))∧qVf c∧den lf fin (k σ')=some r:=by
 unfold qWs at h
 simp only [Bool.not_true,Bool.false_and,Bool.false_eq_true,if_false] at h
 obtain ⟨σ',c,os,tr,h1,h2,h3⟩:=qgA h
 split at h3
 ·rename_i hd
  refine ⟨_,c,os,fun rest=>?_,h2,h3⟩
  simp only [qUj,h1,Bool.not_true,hd,if_true]
 ·cases h3
theorem qJE (hm:∀f∈mnz,qez P f) {c:Cx} {T:Nat→TV} {H:qzb} {K:Kn} {a:Act} {w:World} {nl:Nat} (R0:Rel c P GT nt T H K a w) {ops:Array Oper} {i:Nat} {o:Oper} {ts:List Nat} {k:Ev→Tr}
  (h:den lf fin (opN P GT mnz tab false ops.toList (Ab.keepT ts T) H nl i o k)=some r) (hdk:∀e,den lf fin (k e)=some r→qkj nt o.dst=true)
  (hf:∀l,nl≤l→l<nl+8→K l=none) {next:Act→World→Prop} {Q:Exit→Act→World→Prop}
  (hn:∀e a' w' K',den lf fin (k e)=some r→Rel c P GT nt (qZs T o.dst e.v) (qab H e.upd) K' a' w'→(∀l,K' l=K l∨(nl≤l∧l<nl+8))→(∀l gh,K l=some gh→K' l=some gh)→next a' w'):
  (if Region.wanted o (yielded ops a.tmps) then o.wp P a w next Q∨(o.asks P a w∧LetsOut Q) else next (a.put o.dst undef) w):=by
 unfold opN at h
 split at h
 ·rename_i y hy
  simp only [Bool.false_eq_true,if_false] at hy
  split at hy
  ·rename_i hw
   rw [qal R0 hw]
   simp only [if_true]
   refine .inl ?_
   obtain ⟨h0,h⟩:=qkl h
   simp only [den] at h
   have A:At c P GT H (qqd H []) K w (Ab.evT GT (Ab.keepT ts T)) a.eval nl:=
    ⟨R0.inv,qNo,fun x=>R0.keepT ts x,hf,R0.ng,R0.glob,R0.gng⟩
   refine qEt (qAB A hm hy h0) ?_
   rintro u w' ⟨x,hx,K',S,hu⟩
   obtain ⟨v',c',os,h1,h2,h3⟩:=qro (qIh h x hx)
   have hv:TVRd w' (NN c (qab H (y.out x).upd) K' w') K' v' u:=by
    have hdec:=h1 []
    unfold qxm at hdec
    split at hdec
    ·split at hdec
     ·rename_i b c'' os'' hb hos
      simp only [Option.some.injEq,Prod.mk.injEq] at hdec
      obtain ⟨rfl,rfl,_⟩:=hdec
      rw [hb] at hu
      have:b=c'':=h2.1
      rw [←this];exact hu
     ·cases hdec
    ·simp only [Option.some.injEq,Prod.mk.injEq] at hdec
     obtain ⟨rfl,rfl,_⟩:=hdec
     exact hu
   exact hn _ _ _ K' h3 (R0.put S hv (hdk _ h3)) S.fresh S.keep.k
  ·cases hy
 ·obtain ⟨e,c',os,h1,h2,h3⟩:=qjA h
  exact qCt R0 (h1 []) h2 (hdk e h3) hf (fun a' w' K' R' q1 q2=>hn e a' w' K' h3 R' q1 q2)
theorem qfA (hm:∀f∈mnz,qez P f) {c:Cx} {ops:Array Oper} {Q:Exit→Act→World→Prop} {n0:Nat}:∀(q:List Oper) (i:Nat) (σ:St) (k:St→List (Oper×Ev)→Tr) (K:Kn) (a:Act) (w:World),
  den lf fin (qxE P GT nt mnz tab false ops.toList i q σ k)=some r→ops.toList.drop i=q→i+q.length=ops.size→σ.next=n0→Rel c P GT nt σ.look (qAb σ.heap) K a w→(∀l,n0+8*i≤l→K l=none)→
  (∀σ' tr a' w' K',den lf fin (k σ' tr)=some r→σ'.next=n0→Rel c P GT nt σ'.look (qAb σ'.heap) K' a' w'→(∀l,n0+8*ops.size≤l→K' l=none)→(∀l gh,K l=some gh→K' l=some gh)→Q .normal a' w')→
  wpOps P ops Q (List.range' i q.length) a w
 |[],i,σ,k,K,a,w,h,hr,hi,hn,R0,hf,hQ=>by
  simp only [List.length_nil] at hi
  exact hQ σ [] a w K h hn R0 (fun l hl=>hf l (by omega)) (fun _ _ h=>h)
 |o::q,i,σ,k,K,a,w,h,hr,hi,hn,R0,hf,hQ=>by
  simp only [qxE] at h
  have hoi:ops[i]?=some o:=by
   rw [←Array.getElem?_toList,←List.head?_drop,hr];rfl
  have hr2:ops.toList.drop (i+1)=q:=by
   rw [←List.tail_drop,hr];rfl
  rw [List.length_cons,List.range'_succ,wpOps_cons]
  unfold wpOp
  rw [hoi]
  refine qJE hm R0 h (fun e he=>?_) (fun l h1 h2=>hf l (by omega)) ?_
  ·split at he
   ·assumption
   ·cases he
  ·intro e a' w' K' he R' hk hmn
   rw [qrq,qPp (dst:=o.dst)] at R'
   split at he
   ·refine qfA hm q (i+1) (σ.put o.dst e) _ K' a' w' he hr2 (by simp only [List.length_cons] at hi;omega) hn R' (fun l hl=>?_) (fun σ' tr a'' w'' K'' g1 g2 R'' h1 h2=>hQ σ' _ a'' w'' K'' g1 g2 R'' h1 (fun l gh hl=>h2 l gh (hmn l gh hl)))
    rcases hk l with h1|h1
    ·rw [h1];exact hf l (by omega)
    ·omega
   ·cases he
theorem qzu {σ:St} {l:Nat} (h:qTD σ l=true) (t:Nat):qwF [l] (σ.look t)=true:=by
 unfold qTD at h
 simp only [Bool.and_eq_true] at h
 unfold St.look
 split
 ·rename_i v hv
  exact List.all_eq_true.1 h.1 (t,v) (qDb hv)
 ·rfl
theorem qpx {σ:St} {l:Nat} (h:qTD σ l=true) {x:Nat} {ob:Obj} (hx:qAb σ.heap x=some ob):okO [l] ob=true:=by
 unfold qTD at h
 simp only [Bool.and_eq_true] at h
 unfold qAb at hx
 split at hx
 ·rename_i o hv
  subst hx
  exact List.all_eq_true.1 h.2 (x,some ob) (qDb hv)
 ·cases hx
theorem qzq {c:Cx} {ops:Array Oper} {n0:Nat} (b:Frame) (cs:List Frame) (todo:List Item):∀(q:List Oper) (i:Nat) (σ:St) (k:St→Tr) (K:Kn) (a:Act) (w:World),
  den lf fin (qYv P GT nt tab ops.toList i q σ k)=some r→ops.toList.drop i=q→i+q.length=ops.size→σ.next=n0→Rel c P GT nt σ.look (qAb σ.heap) K a w→(∀l,n0+8*i≤l→K l=none)→
  ∃σ' K' a' w',den lf fin (k σ')=some r∧σ'.next=n0∧Rel c P GT nt σ'.look (qAb σ'.heap) K' a' w'∧(∀l,n0+8*ops.size≤l→K' l=none)∧(∀l gh,l<8→K l=some gh→K' l=some gh)∧
   Steps P (lone (b.at a (.inRegion ops (List.range' i q.length)::todo)) cs w) (lone (b.at a' todo) cs w')
 |[],i,σ,k,K,a,w,h,hr,hi,hn,R0,hf=>by
  simp only [List.length_nil] at hi
  exact ⟨σ,K,a,w,h,hn,R0,fun l hl=>hf l (by omega),fun _ _ _ h=>h, .one step_region_end⟩
 |o::q,i,σ,k,K,a,w,h,hr,hi,hn,R0,hf=>by
  simp only [qYv] at h
  have hoi:ops[i]?=some o:=by
   rw [←Array.getElem?_toList,←List.head?_drop,hr];rfl
  have hr2:ops.toList.drop (i+1)=q:=by
   rw [←List.tail_drop,hr];rfl
  rw [List.length_cons,List.range'_succ]
  have fin':∀(e:Ev) (a':Act) (w':World) (K':Kn),den lf fin (if qkj nt o.dst then qYv P GT nt tab ops.toList (i+1) q (σ.put o.dst e) k else .dead)=some r→Rel c P GT nt (qZs σ.look o.dst e.v) (qab (qAb σ.heap) e.upd) K' a' w'→
    (∀l,σ.next+8*i+8≤l→K' l=none)→(∀l gh,l<8→K l=some gh→K' l=some gh)→
    Steps P (lone (b.at a (.inRegion ops (i::List.range' (i+1) q.length)::todo)) cs w) (lone (b.at a' (.inRegion ops (List.range' (i+1) q.length)::todo)) cs w')→
    ∃σ' K' a' w',den lf fin (k σ')=some r∧σ'.next=n0∧Rel c P GT nt σ'.look (qAb σ'.heap) K' a' w'∧(∀l,n0+8*ops.size≤l→K' l=none)∧(∀l gh,l<8→K l=some gh→K' l=some gh)∧
     Steps P (lone (b.at a (.inRegion ops (i::List.range' (i+1) q.length)::todo)) cs w) (lone (b.at a' todo) cs w'):=by
   intro e a' w' K' he R' hk hmn hs
   rw [qrq,qPp (dst:=o.dst)] at R'
   split at he
   ·obtain ⟨σ2,K2,a2,w2,g1,g2,g3,g4,g5,g6⟩:=qzq b cs todo q (i+1) (σ.put o.dst e) k K' a' w' he hr2 (by simp only [List.length_cons] at hi;omega) hn R' (fun l hl=>hk l (by omega))
    exact ⟨σ2,K2,a2,w2,g1,g2,g3,g4,fun l gh h8 hl=>g5 l gh h8 (hmn l gh h8 hl),hs.trans g6⟩
   ·cases he
  have hfr:∀l,σ.next+8*i≤l→l<σ.next+8*i+8→K l=none:=fun l h1 _=>hf l (by omega)
  have new_of:∀(K':Kn),(∀l,K' l=K l∨(σ.next+8*i≤l∧l<σ.next+8*i+8))→∀l,σ.next+8*i+8≤l→K' l=none:=fun K' hk l hl=>by
   rcases hk l with h1|h1
   ·rw [h1];exact hf l (by omega)
   ·omega
  have usual:den lf fin (opT P GT tab ops.toList (keepT (o.looksAt ops.toList.toArray) σ.look) (qAb σ.heap) (σ.next+8*i) i o fun e=>
    if qkj nt o.dst then qYv P GT nt tab ops.toList (i+1) q (σ.put o.dst e) k else .dead)=some r→
    ∃σ' K' a' w',den lf fin (k σ')=some r∧σ'.next=n0∧Rel c P GT nt σ'.look (qAb σ'.heap) K' a' w'∧(∀l,n0+8*ops.size≤l→K' l=none)∧(∀l gh,l<8→K l=some gh→K' l=some gh)∧
     Steps P (lone (b.at a (.inRegion ops (i::List.range' (i+1) q.length)::todo)) cs w) (lone (b.at a' todo) cs w'):=fun h=>by
   obtain ⟨e,c',os,h1,h2,h3⟩:=qjA h
   have hd:qkj nt o.dst=true:=by
    split at h3
    ·assumption
    ·cases h3
   have hwp:=qCt (next:=fun a' w'=>∃K',Rel c P GT nt (qZs σ.look o.dst e.v) (qab (qAb σ.heap) e.upd) K' a' w'∧(∀l,K' l=K l∨(σ.next+8*i≤l∧l<σ.next+8*i+8))∧(∀l gh,K l=some gh→K' l=some gh)) (Q:=fun _ _ _=>False) R0 (h1 []) h2 hd hfr (fun a' w' K' R' q1 q2=>⟨K',R',q1,q2⟩)
   obtain ⟨a',w',⟨K',R',q1,q2⟩,hst⟩:=qgt (rest:=List.range' (i+1) q.length) hoi hwp b todo cs
   exact fin' e a' w' K' h3 R' (new_of K' q1) (fun l gh _ hl=>q2 l gh hl) hst
  unfold qgG at h
  split at h
  ·rename_i hw
   split at hw
   ·split at h
    ·cases h
    ·split at h
     ·rename_i out hout
      obtain ⟨h0,h⟩:=qkl h
      have A:At c P GT (qAb σ.heap) (qAb σ.heap) K w (Ab.evT GT (Ab.keepT (o.looksAt ops.toList.toArray) σ.look)) a.eval (σ.next+8*i):=
       ⟨R0.inv,fun _ _ h=>h,fun x=>R0.keepT _ x,hfr,R0.ng,R0.glob,R0.gng⟩
      obtain ⟨v,w',⟨K',S,hv⟩,hst⟩:=qmB (rest:=List.range' (i+1) q.length) hoi (qal R0 hw) (qVy A hout h0) b todo cs
      have hd:qkj nt o.dst=true:=by
       split at h
       ·assumption
       ·cases h
      exact fin' _ _ _ K' h (R0.put S hv hd) (new_of K' S.fresh) (fun l gh _ hl=>S.keep.k l gh hl) (.one hst)
     ·split at h
      ·rename_i l out hout
       split at h
       ·rename_i hok
        have A:At c P GT (qAb σ.heap) (qAb σ.heap) K w (Ab.evT GT (Ab.keepT (o.looksAt ops.toList.toArray) σ.look)) a.eval (σ.next+8*i):=
         ⟨R0.inv,fun _ _ h=>h,fun x=>R0.keepT _ x,hfr,R0.ng,R0.glob,R0.gng⟩
        obtain ⟨h8,hdo⟩:=qQz A hout (fun x ob hx _=>qpx hok hx)
        have hd:qkj nt o.dst=true:=by
         split at h
         ·assumption
         ·cases h
        have hwp:=qEt (next:=fun a' w'=>∃K',Rel c P GT nt (qZs σ.look o.dst out.v) (qab (qAb σ.heap) out.upd) K' a' w'∧Chg (·∈[l]) K K') (Q:=fun _ _ _=>False) hdo (fun v w' ⟨K',S,hv⟩=>⟨K',R0.putC S hv hd (qzu hok),S.chg⟩)
        obtain ⟨a',w',⟨K',R',q1⟩,hst⟩:=qgt (rest:=List.range' (i+1) q.length) hoi (by rw [qal R0 hw,if_pos rfl];exact .inl hwp) b todo cs
        refine fin' _ a' w' K' h R' (fun l' hl'=>?_) (fun l' gh hl' hK=>?_) hst
        ·rcases q1 l' with h1|⟨_,_,_,_,_,_,h1,_⟩
         ·rw [h1];exact hf l' (by omega)
         ·rw [hf l' (by omega)] at h1;cases h1
        ·rcases q1 l' with h1|⟨h1,_⟩
         ·rw [h1];exact hK
         ·rw [List.mem_singleton.1 h1] at hl';omega
       ·cases h
      ·split at h
       ·rename_i e l m oA oB hout
        split at h
        ·rename_i hoks
         split at h
         ·rename_i gs hgs
          simp only [den] at h
          have hA:=qIh h true trivial
          have hB:=qIh h false trivial
          simp only [if_true] at hA
          simp only [Bool.false_eq_true,if_false] at hB
          obtain ⟨ha0,hA⟩:=qkl hA
          obtain ⟨hb0,hB⟩:=qkl hB
          have A:At c P GT (qAb σ.heap) (qAb σ.heap) K w (Ab.evT GT (Ab.keepT (o.looksAt ops.toList.toArray) σ.look)) a.eval (σ.next+8*i):=
           ⟨R0.inv,fun _ _ h=>h,fun x=>R0.keepT _ x,hfr,R0.ng,R0.glob,R0.gng⟩
          obtain ⟨h8,hdo⟩:=qFy A hout hb0 (fun x ob hx hne=>by
           unfold qAb at hx
           split at hx
           ·rename_i o1 hv
            subst hx
            have:=List.all_eq_true.1 hoks (x,some ob) (qDb hv)
            simp only [Bool.or_eq_true,beq_iff_eq,Bool.not_eq_true',List.contains_eq_mem,decide_eq_false_iff_not] at this
            exact this.resolve_left hne
           ·cases hx)
          have hd:qkj nt o.dst=true:=by
           split at hA
           ·assumption
           ·cases hA
          have hlook:∀{K':Kn} {w':World},StpL c (qAb σ.heap) K w oA.upd l K' w'→Grown K K' e l m→∀t u,TVRd w (NN c (qAb σ.heap) K w) K (σ.look t) u→TVRd w' (NN c (qab (qAb σ.heap) oA.upd) K' w') K' (σ.look t) u:=fun S hg t u hr=>by
           unfold St.look at hr ⊢
           split at hr
           ·rename_i v hv
            obtain ⟨a1,h1,h2⟩:=qqx hgs ha0 (t,v) (qDb hv)
            exact qKE S.same S.keep hg h1 h2 hr
           ·trivial
          have hwp:=qEt (next:=fun a' w'=>∃e' K',(den lf fin (if qkj nt o.dst then qYv P GT nt tab ops.toList (i+1) q (σ.put o.dst e') k else .dead)=some r∧Rel c P GT nt (qZs σ.look o.dst e'.v) (qab (qAb σ.heap) e'.upd) K' a' w')∧(∀l,σ.next+8*i+8≤l→K' l=none)∧(∀l gh,l<8→K l=some gh→K' l=some gh)) (Q:=fun _ _ _=>False) hdo (fun v w' hv=>by
           rcases hv with ⟨K',S,hg,hv⟩|⟨K',S,hv⟩
           ·refine ⟨⟨oA.v,oA.upd,[]⟩,K',⟨hA,R0.putL S hv hd (hlook S hg)⟩,fun l' hl'=>?_,fun l' gh hl' hK=>?_⟩
            ·by_cases e1:l'=l
             ·subst e1
              obtain ⟨_,_,h1,_⟩:=hg.at_
              rw [hf l' (by omega)] at h1;cases h1
             ·rw [S.same l' e1];exact hf l' (by omega)
            ·rw [S.same l' (by omega)];exact hK
           ·exact ⟨⟨oB.v,oB.upd,[]⟩,K',⟨hB,R0.put S hv hd⟩,new_of K' S.fresh,fun l' gh _ hl=>S.keep.k l' gh hl⟩)
          obtain ⟨a',w',⟨e',K',⟨he',R'⟩,q1,q2⟩,hst⟩:=qgt (rest:=List.range' (i+1) q.length) hoi (by rw [qal R0 hw,if_pos rfl];exact .inl hwp) b todo cs
          exact fin' e' a' w' K' he' R' q1 q2 hst
         ·cases h
        ·cases h
       ·exact usual h
   ·cases hw
  ·exact usual h
def Leads (P:Program) (GT:qtg) (nt:Nat) (Q:Pos→Prop) (s:Pos):Prop:=
 ∀(c:Cx) (K:Kn) (a:Act) (w:World) (b:Frame) (cs:List Frame),RelS c P GT nt s.st K a w→
  ∃s' K' a' w',Q s'∧RelS c P GT nt s'.st K' a' w'∧(∀l gh,l<8→K l=some gh→K' l=some gh)∧Steps P (lone (b.at a s.todo) cs w) (lone (b.at a' s'.todo) cs w')
theorem Leads.of {Q:Pos→Prop} {s s':Pos} (h:Reach P GT nt s s') (hq:Q s'):Leads P GT nt Q s:=by
 intro c K a w b cs R0
 obtain ⟨K',a',w',h1,h2,h3⟩:=h c K a w b cs R0
 exact ⟨s',K',a',w',hq,h1,h2,h3⟩
theorem Leads.bind {Q Q':Pos→Prop} {s:Pos} (h:Leads P GT nt Q s) (hq:∀s',Q s'→Leads P GT nt Q' s'):Leads P GT nt Q' s:=by
 intro c K a w b cs R0
 obtain ⟨s1,K1,a1,w1,h1,h2,h3,h4⟩:=h c K a w b cs R0
 obtain ⟨s2,K2,a2,w2,g1,g2,g3,g4⟩:=hq s1 h1 c K1 a1 w1 b cs h2
 exact ⟨s2,K2,a2,w2,g1,g2,fun l gh hl hk=>g3 l gh hl (h3 l gh hl hk),h4.trans g4⟩
theorem qTw (hm:P.follows .mixedOrders=true) (hz:∀f∈mnz,qez P f) {s:Pos} {k:Pos→Tr} (h:den lf fin (qVB P GT nt mnz tab s k)=some r):Leads P GT nt (fun s'=>den lf fin (k s')=some r) s:=by
 obtain ⟨todo,σ⟩:=s
 unfold qVB at h
 have go:∀{s':Pos} {os:List Orc} {c:List Prop},qOl P GT nt ⟨todo,σ⟩ os=some (s',c,[])→qVf c→den lf fin (k s')=some r→Leads P GT nt (fun s'=>den lf fin (k s')=some r) ⟨todo,σ⟩:=fun h1 h2 h3=> .of (qNh hm h1 h2) h3
 split at h
 ·rename_i q hk;simp only at hk;subst hk
  exact go (os:=[]) (c:=[]) rfl trivial h
 ·rename_i q hk;simp only at hk;subst hk
  exact go (os:=[]) (c:=[]) rfl trivial h
 ·rename_i q hk;simp only at hk;subst hk
  exact go (os:=[]) (c:=[]) rfl trivial h
 ·rename_i q hk;simp only at hk;subst hk
  exact go (os:=[]) (c:=[]) rfl trivial h
 ·rename_i q hk;simp only at hk;subst hk
  exact go (os:=[]) (c:=[]) rfl trivial h
 ·rename_i q hk;simp only at hk;subst hk
  exact go (os:=[]) (c:=[]) rfl trivial h
 ·rename_i x y q hk;simp only at hk;subst hk
  split at h
  ·rename_i b hb
   simp only at hb
   simp only [den] at h
   split at h
   ·rename_i hbt
    exact go (os:=[.bit true]) (c:=[b=true]) (by simp only [qOl,hb,if_true]) ⟨hbt,trivial⟩ h
   ·rename_i hbt
    simp only [Bool.not_eq_true] at hbt
    exact go (os:=[.bit false]) (c:=[b=false]) (by simp only [qOl,hb,Bool.false_eq_true,if_false]) ⟨hbt,trivial⟩ h
  ·cases h
 ·rename_i q hk;simp only at hk;subst hk
  exact go (os:=[]) (c:=[]) rfl trivial h
 ·rename_i q hk;simp only at hk;subst hk
  exact go (os:=[]) (c:=[]) rfl trivial h
 ·rename_i q hk;simp only at hk;subst hk
  exact go (os:=[]) (c:=[]) rfl trivial h
 ·rename_i q hk;simp only at hk;subst hk
  split at h
  ·rename_i q' he
   exact go (os:=[]) (c:=[]) (by simp only [qOl,he]) trivial h
  ·cases h
 ·rename_i q hk;simp only at hk;subst hk
  split at h
  ·rename_i q' he
   exact go (os:=[]) (c:=[]) (by simp only [qOl,he]) trivial h
  ·cases h
 ·rename_i id ops draw q hk;simp only at hk;subst hk
  cases draw with
  |true=>
   obtain ⟨σ',c,os,h1,h2,h3⟩:=qpy h
   have h1':=h1 []
   rw [List.append_nil] at h1'
   exact go (os:=os) (c:=c) (by simp only [qOl];rw [h1']) h2 h3
  |false=>
   intro c K a w b cs R0
   unfold qWs at h
   split at h
   ·obtain ⟨σ2,K2,a2,w2,g1,g2,g3,g4,g5,g6⟩:=qzq (n0:=σ.next) b cs q ops.toList 0 σ _ K a w h (by simp) (by simp) rfl R0.rel (fun l hl=>R0.fresh l (by omega))
    refine ⟨⟨q,{σ2 with next:=σ.next+8*ops.toList.length}⟩,K2,a2,w2,g1,⟨g3,fun l hl=>g4 l (by simpa using hl)⟩,fun l gh h8 hl=>g5 l gh h8 hl,?_⟩
    refine .head step_region ?_
    rw [List.range_eq_range']
    simpa using g6
   have hwp:(Code.region id ops false).wp P (fun e a' w'=>e= .normal∧∃σ' K',den lf fin (k ⟨q,σ'⟩)=some r∧RelS c P GT nt σ' K' a' w'∧(∀l gh,K l=some gh→K' l=some gh)) a w:=by
    refine wp_region ?_
    have:=qfA hz (Q:=fun e a' w'=>e= .normal∧∃σ' K',den lf fin (k ⟨q,σ'⟩)=some r∧RelS c P GT nt σ' K' a' w'∧(∀l gh,K l=some gh→K' l=some gh)) (n0:=σ.next) ops.toList 0 σ _ K a w h (by simp) (by simp) rfl R0.rel (fun l hl=>R0.fresh l (by omega)) (fun σ' tr a' w' K' g1 g2 R' g3 g4=>?_)
    ·rw [List.range_eq_range']
     simpa using this
    ·simp only [Bool.not_false,Bool.true_or,if_true] at g1
     exact ⟨rfl,{σ' with next:=σ.next+8*ops.toList.length},K',g1,⟨R',fun l hl=>g3 l (by simpa using hl)⟩,g4⟩
   obtain ⟨e,a',w',⟨rfl,σ',K',g1,R',hk⟩,harr⟩:=hwp b q cs
   exact ⟨⟨q,σ'⟩,K',a',w',g1,R',fun l gh _ hl=>hk l gh hl,harr⟩
 ·cases h
theorem qZD {w:World} {N:Bool→Nat→Prop} {K:Kn} {o:Option Obj} {ob:Obj} {gh:Gh} (h:qZE o=some ob):(∀o0,o=some o0→ORd w N K o0 gh)→∃o0,o=some o0∧ORd w N K ob gh:=by
 intro hr
 unfold qZE at h
 split at h
 ·rename_i e fr
  split at h
  ·rename_i hf
   simp only [Option.some.injEq] at h;subst h
   refine ⟨_,rfl,?_⟩
   obtain ⟨h1,h2⟩:=hr _ rfl
   refine ⟨hf,[],h1,⟨fun i j p q hi=>by simp at hi,fun p q _ hq=>by simp at hq⟩,?_⟩
   revert h2
   cases gh.pl with
   |none=>exact fun _=>⟨rfl,rfl⟩
   |some p=>
    rintro ⟨cs,g1,g2⟩
    simp only [Cat] at g2;subst g2
    exact ⟨[],g1,rfl,rfl⟩
  ·simp only [Option.some.injEq] at h;subst h
   exact ⟨_,rfl,hr _ rfl⟩
 ·rename_i a e fr
  split at h
  ·rename_i hf
   simp only [Bool.and_eq_true] at hf
   simp only [Option.some.injEq] at h;subst h
   refine ⟨_,rfl,?_⟩
   obtain ⟨h1,h2⟩:=hr _ rfl
   refine ⟨hf.1,hf.2,[],h1,⟨fun i j p q hi=>by simp at hi,fun p q _ hq=>by simp at hq⟩,?_⟩
   revert h2
   cases gh.pl with
   |none=>exact fun _=>⟨rfl,rfl⟩
   |some p=>
    rintro ⟨cs,g1,g2⟩
    simp only [Cat] at g2;subst g2
    exact ⟨[],g1,rfl,rfl⟩
  ·simp only [Option.some.injEq] at h;subst h
   exact ⟨_,rfl,hr _ rfl⟩
 ·subst h;exact ⟨ob,rfl,hr ob rfl⟩
theorem qfv {ns:List Nat}:∀{h:List (Nat×Option Obj)} {l:Nat},lookL (qwC ns h) l=(if ns.contains l then (lookL h l).map qZE else lookL h l)
 |[],l=>by simp [qwC,lookL]
 |(a,b)::r,l=>by
  simp only [qwC]
  by_cases hl:a=l
  ·subst hl
   by_cases hc:ns.contains a=true
   ·simp only [hc,if_true,lookL,Option.map_some]
   ·simp only [Bool.not_eq_true] at hc;simp only [hc,Bool.false_eq_true,if_false,lookL,if_true]
  ·have ih:=qfv (ns:=ns) (h:=r) (l:=l)
   by_cases hc:ns.contains a=true
   ·simp only [hc,if_true,lookL,hl,if_false];exact ih
   ·simp only [Bool.not_eq_true] at hc;simp only [hc,Bool.false_eq_true,if_false] at ih ⊢;simp only [lookL,hl,if_false];exact ih
theorem qpw {σ:St} {ns:List Nat} (todo:List Item):Reach P GT nt ⟨todo,σ⟩ ⟨todo,qXD σ ns⟩:=by
 intro c K a w b cs R0
 refine ⟨K,a,w,?_,fun l gh _ hk=>hk,Steps.refl _ _⟩
 unfold qXD
 split
 ·exact R0
 ·have hH:∀l o,qAb (qwC ns σ.heap) l=some o→(∃o0,qAb σ.heap l=some o0)∧∀(w:World) (N:Bool→Nat→Prop) (gh:Gh),(∀o0,qAb σ.heap l=some o0→ORd w N K o0 gh)→ORd w N K o gh:=by
   intro l o hl
   unfold qAb at hl ⊢
   rw [qfv] at hl
   by_cases hc:ns.contains l=true
   ·simp only [hc,if_true] at hl
    cases hx:lookL σ.heap l with
    |none=>rw [hx] at hl;cases hl
    |some x=>
     rw [hx] at hl
     simp only [Option.map_some] at hl
     refine ⟨?_,fun w N gh h=>?_⟩
     ·cases x with
      |none=>simp [qZE] at hl
      |some o0=>exact ⟨o0,rfl⟩
     ·obtain ⟨_,_,h2⟩:=qZD hl (fun o0 ho=>h o0 (by rw [ho]))
      exact h2
   ·simp only [hc] at hl
    simp only [Bool.false_eq_true,if_false] at hl
    exact ⟨⟨o,hl⟩,fun w N gh h=>h o hl⟩
  have hlive:∀b,qMb (qAb (qwC ns σ.heap)) K b→qMb (qAb σ.heap) K b:=by
   rintro b ⟨l,o,gh,p,h1,h2⟩
   obtain ⟨⟨o0,h0⟩,_⟩:=hH l o h1
   exact ⟨l,o0,gh,p,h0,h2⟩
  have hN:∀fr b,NN c (qAb σ.heap) K w fr b→NN c (qAb (qwC ns σ.heap)) K w fr b:=fun fr b hb=>⟨hb.1,fun hn=>hb.2.1 (hlive b hn),hb.2.2⟩
  have hk:KeepK w w (NN c (qAb σ.heap) K w) (NN c (qAb (qwC ns σ.heap)) K w) K K:=⟨fun fr=>⟨fun b hb=>⟨hN fr b hb,rfl⟩⟩,fun _ _ h=>h⟩
  refine ⟨⟨⟨fun l o hl=>?_,fun l o gh p h1 h2 h3=>?_,fun l l' o o' gh gh' p p' h1 h2 h3 h4 h5 h6 h7=>?_,R0.rel.inv.fr⟩,fun t=>(R0.rel.tmps t).keep hk,R0.rel.size,R0.rel.defers,R0.rel.ng,R0.rel.gng,R0.rel.glob⟩,R0.fresh⟩
  ·obtain ⟨⟨o0,h0⟩,h1⟩:=hH l o hl
   obtain ⟨gh,g1,g2⟩:=R0.rel.inv.objs l o0 h0
   exact ⟨gh,g1,h1 _ _ _ (fun o1 ho=>by rw [h0] at ho;injection ho with ho;subst ho;exact g2.keep hk (fun _ _=>rfl))⟩
  ·obtain ⟨⟨o0,h0⟩,_⟩:=hH l o h1
   exact R0.rel.inv.own l o0 gh p h0 h2 h3
  ·obtain ⟨⟨o0,h0⟩,_⟩:=hH l o h1
   obtain ⟨⟨o0',h0'⟩,_⟩:=hH l' o' h2
   exact R0.rel.inv.inj l l' o0 o0' gh gh' p p' h0 h0' h3 h4 h5 h6 h7
theorem qgu {l:Nat} {o:Obj}:∀{h:List (Nat×Option Obj)} {x:Nat},(lookL h l).isSome→lookL (qPB l o h) x=if l=x then some (some o) else lookL h x
 |[],x,h=>by simp [lookL] at h
 |(a,b)::r,x,h=>by
  simp only [qPB]
  by_cases h1:a=l
  ·subst h1
   simp only [if_true,lookL]
   by_cases h2:a=x <;> simp [h2]
  ·simp only [h1,if_false,lookL] at h ⊢
   by_cases h2:a=x
   ·subst h2;simp [Ne.symm h1]
   ·simp only [h2,if_false]
    exact qgu h
theorem qeu {w:World} {N:Nat→Prop} {e:Ty} {p:Option Plc} {v:Value} {xs:List (pden e)} (h:Slot w e p v xs) (hf:e.flat=true) (hN:∀q,p=some q→N q.blk):PRd w N (.slice e) xs [v]:=by
 cases p with
 |none=>obtain ⟨rfl,rfl⟩:=h;exact ⟨none,0,rfl,Nat.le_refl _, .inl rfl⟩
 |some p=>
  obtain ⟨o,cap,cl,rfl,h2,h3,h4,h5⟩:=h
  refine ⟨_,cap,rfl,h2,?_⟩
  rcases h3 with h3|⟨rfl,_⟩
  ·subst h3
   exact .inl (List.length_eq_zero_iff.1 (by omega))
  ·exact .inr ⟨p.blk,p.ob,cl,rfl,hN p rfl,h4.cells,h5.imp (fun _ _ q=>q.flat hf)⟩
theorem qHx {w:World} {N:Nat→Prop} {e:Ty} (hf:e.flat=true):∀{xss:List (List (pden e))} {ps:List (Nat×Option Plc)} {cs:List Value},FamRd w e xss ps cs→(∀q,some q∈ps.map (·.2)→N q.blk)→Cat (PRd w N (.slice e)) xss cs
 |[],_,_,h,_=>h.2
 |xs::r,_,_,h,hN=>by
  obtain ⟨p,ps',v,cs',rfl,rfl,h1,h2⟩:=h
  have hs:Slot w e p v xs:=by cases p <;> exact h1
  exact ⟨[v],cs',rfl,qeu hs hf (fun q hq=>hN q (by rw [hq];simp)),qHx hf h2 (fun q hq=>hN q (List.mem_cons_of_mem _ hq))⟩
theorem qev {w:World} {N:Nat→Prop} {a e:Ty} (ha:a.flat=true) (hf:e.flat=true):∀{xs:List (pden a×List (pden e))} {ps:List (Nat×Option Plc)} {cs:List Value},FamSRd w a e xs ps cs→(∀q,some q∈ps.map (·.2)→N q.blk)→Cat (PRd w N (qLm a e)) (qRg xs) cs
 |[],_,_,h,_=>h.2
 |x::r,_,_,h,hN=>by
  obtain ⟨p,ps',c,v,cs',rfl,rfl,h0,h1,h2⟩:=h
  exact ⟨c++[v],cs',by simp,⟨c,[v],rfl,h0.flat ha,[v],[],rfl,qeu h1 hf (fun q hq=>hN q (by rw [hq];simp)),rfl⟩,qev ha hf h2 (fun q hq=>hN q (List.mem_cons_of_mem _ hq))⟩
theorem qED {c:Cx} {H:qzb} {K:Kn} {w:World} {o o':Obj} {gh:Gh} (h:quE o=some o') (ho:ORd w (NN c H K w) K o gh):∃t n ps,gh.sh= .row t n ps∧∀(N:Bool→Nat→Prop) (K':Kn),(∀q,some q∈ps.map (·.2)→N true q.blk)→ORd w N K' o' ⟨.row t n [],gh.pl⟩:=by
 unfold quE at h
 split at h
 ·rename_i a e xs
  simp only [Option.some.injEq] at h;subst h
  obtain ⟨ha,hf,ps,h1,_,h2⟩:=ho
  refine ⟨_,_,ps,h1,fun N K' hN=>?_⟩
  cases hp:gh.pl with
  |none=>rw [hp] at h2;obtain ⟨rfl,rfl⟩:=h2;exact ⟨rfl,rfl⟩
  |some p=>
   rw [hp] at h2
   obtain ⟨cs,h3,h4⟩:=h2
   exact ⟨by simp [qRg],cs,h3,qev ha hf h4 hN⟩
 ·rename_i e xss
  simp only [Option.some.injEq] at h;subst h
  obtain ⟨hf,ps,h1,_,h2⟩:=ho
  refine ⟨_,_,ps,h1,fun N K' hN=>?_⟩
  cases hp:gh.pl with
  |none=>rw [hp] at h2;obtain ⟨rfl,rfl⟩:=h2;exact ⟨rfl,rfl⟩
  |some p=>
   rw [hp] at h2
   obtain ⟨cs,h3,h4⟩:=h2
   exact ⟨rfl,cs,h3,qHx hf h4 hN⟩
 ·cases h
theorem qky {c:Cx} {H:qzb} {K:Kn} {w:World} {o o':Obj} {gh:Gh} (h:quE o=some o') (ho:ORd w (NN c H K w) K o gh):Apart gh.pl gh.sh.ex:=by
 unfold quE at h
 split at h
 ·obtain ⟨ha,hf,ps,h1,h3,h2⟩:=ho
  rw [h1];exact h3
 ·obtain ⟨hf,ps,h1,h3,h2⟩:=ho
  rw [h1];exact h3
 ·cases h
theorem qju {σ:St} {l:Nat} (todo:List Item):Leads P GT nt (fun s'=>s'=⟨todo,qkq σ l⟩) ⟨todo,σ⟩:=by
 have same:qkq σ l=σ→Leads P GT nt (fun s'=>s'=⟨todo,qkq σ l⟩) ⟨todo,σ⟩:=fun h=>by
  rw [h];exact .of (Reach.refl _) rfl
 by_cases hsame:qkq σ l=σ
 ·exact same hsame
 intro c K a w b cs R0
 have hx:∃o o',qAb σ.heap l=some o∧quE o=some o'∧8≤l∧qTD σ l=true∧qkq σ l={σ with heap:=qPB l o' σ.heap}:=by
  unfold qkq at hsame ⊢
  split at hsame
  ·rename_i o ho
   split at hsame
   ·rename_i o' ho'
    split at hsame
    ·rename_i hc
     simp only [Bool.and_eq_true,decide_eq_true_eq] at hc
     exact ⟨o,o',ho,ho',hc.1,hc.2,by simp [ho,ho',hc.1,hc.2]⟩
    ·exact absurd rfl hsame
   ·exact absurd rfl hsame
  ·exact absurd rfl hsame
 obtain ⟨o,o',hl,hro,h8,hok,heq⟩:=hx
 have hv:=R0.rel.inv
 obtain ⟨gh,hK,hob⟩:=hv.objs l o hl
 obtain ⟨t,n,ps,hsh,hnew⟩:=qED hro hob
 have hap:=qky hro hob
 obtain ⟨sh,pl⟩:=gh
 simp only at hsh;subst hsh
 have hup:∀x,qAb (qPB l o' σ.heap) x=if l=x then some o' else qAb σ.heap x:=fun x=>by
  have hs:(lookL σ.heap l).isSome:=by
   unfold qAb at hl
   split at hl
   ·rename_i y hy;rw [hy];rfl
   ·cases hl
  unfold qAb
  rw [qgu hs]
  by_cases h1:l=x <;> simp [h1]
 have hchg:Chg (·∈[l]) K (qRh K l ⟨.row t n [],pl⟩):=fun x=>by
  by_cases e1:x=l
  ·subst e1;exact .inr ⟨List.mem_singleton.2 rfl,_,_,_,_,_,hK,qIa⟩
  ·exact .inl (qle e1)
 have hcase:∀x ob g p,qAb (qPB l o' σ.heap) x=some ob→qRh K l ⟨.row t n [],pl⟩ x=some g→Has g p→(x=l∧pl=some p)∨(x≠l∧qAb σ.heap x=some ob∧K x=some g):=by
  intro x ob g p h1 h2 h3
  rw [hup] at h1
  by_cases e1:l=x
  ·subst e1
   rw [qIa] at h2;injection h2 with h2;subst h2
   rcases h3 with h3|h3
   ·exact .inl ⟨rfl,h3⟩
   ·cases h3
  ·rw [if_neg e1] at h1
   rw [qle (Ne.symm e1)] at h2
   exact .inr ⟨Ne.symm e1,h1,h2⟩
 have hlive:∀b,qMb (qAb (qPB l o' σ.heap)) (qRh K l ⟨.row t n [],pl⟩) b→qMb (qAb σ.heap) K b:=by
  rintro b ⟨x,ob,g,p,h1,h2,h3,h4⟩
  rcases hcase x ob g p h1 h2 h3 with ⟨rfl,h5⟩|⟨_,h5,h6⟩
  ·exact ⟨x,o,_,p,hl,hK, .inl h5,h4⟩
  ·exact ⟨x,ob,g,p,h5,h6,h3,h4⟩
 have hkeep:∀fr,Keep w w (NN c (qAb σ.heap) K w fr) (NN c (qAb (qPB l o' σ.heap)) (qRh K l ⟨.row t n [],pl⟩) w fr):=
  fun fr=>⟨fun b hb=>⟨⟨hb.1,fun hn=>hb.2.1 (hlive b hn),hb.2.2⟩,rfl⟩⟩
 have hfree:∀q,some q∈ps.map (·.2)→NN c (qAb (qPB l o' σ.heap)) (qRh K l ⟨.row t n [],pl⟩) w true q.blk:=fun q hq=>by
  obtain ⟨o1,o2,_⟩:=hv.own l o _ q hl hK (.inr hq)
  refine ⟨o1,?_,o2.imp id .inl⟩
  rintro ⟨x,ob,g,p,h1,h2,h3,h4⟩
  rcases hcase x ob g p h1 h2 h3 with ⟨rfl,h5⟩|⟨hne,h5,h6⟩
  ·exact hap.2 p q h5 hq h4.symm
  ·exact hne (hv.inj x l ob o g _ p q h5 hl h6 hK h3 (.inr hq) h4)
 refine ⟨_,qRh K l ⟨.row t n [],pl⟩,a,w,rfl,?_,fun x gh hx hk=>by rw [qle (by omega)];exact hk,Steps.refl _ _⟩
 rw [heq]
 refine ⟨⟨⟨fun x ob hx=>?_,fun x ob g p h1 h2 h3=>?_,fun x x' ob ob' g g' p p' h1 h2 h3 h4 h5 h6 h7=>?_,hv.fr⟩,fun tt=>?_,R0.rel.size,R0.rel.defers,R0.rel.ng,R0.rel.gng,R0.rel.glob⟩,fun x hx=>?_⟩
 ·rw [hup] at hx
  by_cases e1:l=x
  ·subst e1
   rw [if_pos rfl] at hx;injection hx with hx;subst hx
   exact ⟨_,qIa,hnew _ _ hfree⟩
  ·rw [if_neg e1] at hx
   obtain ⟨g,a1,a2⟩:=hv.objs x ob hx
   exact ⟨g,by rw [qle (Ne.symm e1)];exact a1,a2.chg hchg hkeep (qpx hok hx) (fun _ _=>rfl)⟩
 ·rcases hcase x ob g p h1 h2 h3 with ⟨rfl,h5⟩|⟨_,h5,h6⟩
  ·exact hv.own x o _ p hl hK (.inl h5)
  ·exact hv.own x ob g p h5 h6 h3
 ·rcases hcase x ob g p h1 h3 h5 with ⟨rfl,a1⟩|⟨n1,a1,a2⟩
  ·rcases hcase x' ob' g' p' h2 h4 h6 with ⟨rfl,b1⟩|⟨n2,b1,b2⟩
   ·rfl
   ·exact hv.inj x x' _ _ _ _ p p' hl b1 hK b2 (.inl a1) h6 h7
  ·rcases hcase x' ob' g' p' h2 h4 h6 with ⟨rfl,b1⟩|⟨n2,b1,b2⟩
   ·exact hv.inj x x' _ _ _ _ p p' a1 hl a2 hK h5 (.inl b1) h7
   ·exact hv.inj x x' _ _ _ _ p p' a1 b1 a2 b2 h5 h6 h7
 ·exact (R0.rel.tmps tt).chg hchg hkeep (qzu hok tt)
 ·have h1:=R0.fresh x hx
  by_cases e1:x=l
  ·subst e1;rw [hK] at h1;cases h1
  ·rw [qle e1];exact h1
theorem qjq (todo:List Item):∀{ls:List Nat} {σ:St},Leads P GT nt (fun s'=>s'=⟨todo,qDD σ ls⟩) ⟨todo,σ⟩
 |[],σ=> .of (Reach.refl _) rfl
 |l::r,σ=>(qju (σ:=σ) (l:=l) todo).bind (fun s1 h1=>by subst h1;exact qjq todo)
theorem qjC {w:World} {N:Bool→Nat→Prop} {K:Kn} {a:TV} {v:Value} (h:TVRd w N K a v):TVRd w N K (qXv a) v:=by
 unfold qXv
 split
 ·obtain ⟨n,pl,h1,h2,h3,h4⟩:=h
  exact ⟨n,pl,h1,h2,by simp,h4⟩
 ·exact h
theorem qSq {ts:List Nat}:∀{xs:List (Nat×TV)} {t:Nat},lookL (xs.map fun p=>if ts.contains p.1 then (p.1,qXv p.2) else p) t=if ts.contains t then (lookL xs t).map qXv else lookL xs t
 |[],t=>by simp [lookL]
 |(a,b)::r,t=>by
  have ih:=qSq (ts:=ts) (xs:=r) (t:=t)
  simp only [List.map_cons]
  by_cases h1:ts.contains a=true
  ·simp only [h1,if_true,lookL]
   by_cases h2:a=t
   ·subst h2;simp only [if_true,h1,Option.map_some]
   ·simp only [h2,if_false];exact ih
  ·simp only [Bool.not_eq_true] at h1
   simp only [h1,Bool.false_eq_true,if_false,lookL]
   by_cases h2:a=t
   ·subst h2;simp only [if_true,h1,Bool.false_eq_true,if_false]
   ·simp only [h2,if_false];exact ih
theorem quu {σ:St} {ts:List Nat} (todo:List Item):Reach P GT nt ⟨todo,σ⟩ ⟨todo,qcA σ ts⟩:=by
 intro c K a w b cs R0
 refine ⟨K,a,w,?_,fun l gh _ hk=>hk,Steps.refl _ _⟩
 unfold qcA
 split
 ·exact R0
 ·refine ⟨⟨R0.rel.inv,fun t=>?_,R0.rel.size,R0.rel.defers,R0.rel.ng,R0.rel.gng,R0.rel.glob⟩,R0.fresh⟩
  have h:=R0.rel.tmps t
  have heq:St.look {σ with tmps:=σ.tmps.map fun p=>if ts.contains p.1 then (p.1,qXv p.2) else p} t=if ts.contains t then qXv (σ.look t) else σ.look t:=by
   unfold St.look
   simp only [qSq]
   by_cases h1:ts.contains t=true
   ·simp only [h1,if_true]
    cases hx:lookL σ.tmps t with
    |none=>rfl
    |some v=>rfl
   ·simp only [Bool.not_eq_true] at h1
    simp only [h1,Bool.false_eq_true,if_false]
  rw [heq]
  split
  ·exact qjC h
  ·exact h
theorem qiB {c:Cut} {s:Pos} (h:den lf fin (qBF c s)=some r):Leads P GT nt (fun s'=>lf s'=some r) s:=by
 unfold qBF at h
 split at h
 ·rename_i σ hk
  obtain ⟨todo,σ0⟩:=s
  exact (Leads.of (qCy hk _) rfl).bind (fun s1 h1=>by
   subst h1
   exact (Leads.of (qpw _) rfl).bind (fun s2 h2=>by
    subst h2
    exact (qjq (nt:=nt) todo).bind (fun s3 h3=>by subst h3;exact .of (quu _) h)))
 ·cases h
theorem qvA (hm:P.follows .mixedOrders=true) {todo todo':List Item} {σ:St} (h:qwA todo=some todo'):Reach P GT nt ⟨todo,σ⟩ ⟨todo',σ⟩:=by
 unfold qwA at h
 split at h
 ·simp only [Option.some.injEq] at h;subst h
  exact qNh hm (os:=[]) (cs:=[]) (os':=[]) rfl trivial
 ·simp only [Option.some.injEq] at h;subst h
  exact qNh hm (os:=[]) (cs:=[]) (os':=[]) rfl trivial
 ·exact qNh hm (os:=[]) (cs:=[]) (os':=[]) (by simp only [qOl,h]) trivial
 ·cases h
theorem qzp (hm:P.follows .mixedOrders=true) (hz:∀f∈mnz,qez P f) {cuts:List Cut}:∀{n:Nat} {first:Bool} {s:Pos},den lf fin (qey P GT nt mnz tab cuts n first s)=some r→
  Leads P GT nt (fun s'=>lf s'=some r∨(qEy s'.todo=true∧fin s'=some r)) s
 |0,_,_,h=>by cases h
 |n+1,first,s,h=>by
  simp only [qey] at h
  split at h
  ·rename_i hr
   exact .of (Reach.refl s) (.inr ⟨hr,h⟩)
  ·split at h
   ·rename_i todo' hh
    have h0:Reach P GT nt s ⟨todo',s.st⟩:=qvA hm hh
    split at h
    ·exact (Leads.of h0 rfl).bind (fun s1 h1=>by subst h1;exact (qiB h).bind (fun s2 h2=> .of (Reach.refl _) (.inl h2)))
    ·exact (Leads.of h0 rfl).bind (fun s1 h1=>by subst h1;exact qzp hm hz h)
   ·split at h
    ·split at h
     ·exact (qiB h).bind (fun s2 h2=> .of (Reach.refl _) (.inl h2))
     ·exact (qTw hm hz h).bind (fun s1 h1=>qzp hm hz h1)
    ·exact (qTw hm hz h).bind (fun s1 h1=>qzp hm hz h1)
theorem FnI.semR_ok (hm:P.follows .mixedOrders=true) {s:Pos} {r:I.fm.R} (h:I.SemR r s):Leads P GT (qZt P I.f) (fun s'=>qEy s'.todo=true∧I.fm.fin P (qEE P I.f) s'=some r) s:=by
 induction h with
 |mk s lf h hl ih=>
  refine (qzp hm I.mnzOk h).bind (fun s' hs=>?_)
  rcases hs with hs|hs
  ·exact ih s' hs
  ·exact .of (Reach.refl _) hs
theorem FnI.sem_ends (hm:P.follows .mixedOrders=true) {s:Pos} {r:I.fm.R} (h:I.sem s=some r):qdG P GT (qZt P I.f) (qEE P I.f) s (I.fm.res r) (I.fm.post r):=by
 intro c K a w b cs R0
 obtain ⟨s',K',a',w',⟨h2,h3⟩,R',h4,h5⟩:=FnI.semR_ok hm (FnI.sem_iff.1 h) c K a w b cs R0
 obtain ⟨res0,res1,ren,nx,lo,g1,g2,g3,g3',g4⟩:=Fm.fin_ok h3
 exact ⟨s',res0,res1,ren,nx,lo,K',a',w',R',h4,h5,h2,g1,g2,g3,g3',g4⟩
@[reducible] def FnI.at (I:FnI P GT) (as:List AV) (pre:List (Nat×Obj)):Pos:=⟨[.code (qma P I.f)],st0 as pre⟩
noncomputable def FnI.call (I:FnI P GT) (as:List AV) (pre:List (Nat×Obj)):Option I.fm.R:=
 if qzF P I.f as.length&&pre.all (fun p=>decide (p.1<8)) then I.sem (I.at as pre) else none
theorem FnI.call_ok (hm:P.follows .mixedOrders=true) {as:List AV} {pre:List (Nat×Obj)} {r:I.fm.R} (h:I.call as pre=some r):CallOK P GT I.f as pre (I.fm.res r) (I.fm.post r):=by
 unfold FnI.call at h
 split at h
 ·rename_i hc
  simp only [Bool.and_eq_true] at hc
  exact quB hc.1 hc.2 (FnI.sem_ends hm h)
 ·cases h
noncomputable def FnI.summ (I:FnI P GT) (hm:P.follows .mixedOrders=true) (acc:List AV→Bool) (rows nils:Bool) (drop:Bool:=false):Summ P GT:=
 {f:=I.f,acc:=acc,rows:=rows,nils:=nils,drop:=drop,R:=I.fm.R,fn:=I.call,res:=I.fm.res,post:=I.fm.post,ok:=fun as pre r h=>FnI.call_ok hm h}
theorem FnI.call_eq {as:List AV} {pre:List (Nat×Obj)} (h:(qzF P I.f as.length&&pre.all (fun p=>decide (p.1<8)))=true):I.call as pre=I.go (I.at as pre) I.sem:=by
 unfold FnI.call
 rw [if_pos h]
 exact FnI.sem_eq _
end
end Go.Ab

/-
  From what a law's arguments read as to plain values, and back.
-/
set_option linter.unusedVariables false
set_option linter.unusedSimpArgs false
namespace Go.Ab
open Go
def wfP:(t:Ty)→pden t→Prop
 | .int k,n=>(Lit.int k n).wf=true
 | .bool,_=>True
 | .str,s=>ByteArray.size s≤Go.maxLen
 | .arr n e,xs=>xs.length=n∧∀x∈xs,wfP e x
 | .pair a b,x=>wfP a x.1∧wfP b x.2
 | .unit,_=>True
 | .slice e,xs=>xs.length≤Go.maxLen∧∀x∈xs,wfP e x
 | .fn,_=>True
def qme:Ty→Bool
 | .arr _ e=>qme e
 | .pair a b=>qme a&&qme b
 | .slice e=>qme e&&decide (0<e.sz)
 | .fn=>false
 |_=>true
section
variable {P:Program} {H:Type} {enc:TypeId×Value→H} {w:World} {base:Nat} {spare:Nat→Bool} {held:Bool}
abbrev InW (w:World):Nat→Prop:=fun b=>b<w.heap.size
theorem qQx {b o n:Nat}:Addr.add ⟨b,o,none⟩ n=⟨b,o+n,none⟩:=by
 unfold Addr.add;split <;> simp_all
theorem qPs {m:Nat} {T:TypeId} {t:Ty} (h:qEc P (m+1) T=some t):∃desc,P.underlying T=some desc∧qmi P (qEc P m) desc=some t∧P.cellsOf T=t.sz:=by
 simp only [qEc] at h
 split at h
 ·rename_i desc hd
  split at h
  ·rename_i ty hr
   split at h
   ·rename_i hc
    simp only [Option.some.injEq] at h;subst h
    exact ⟨desc,hd,hr,by simpa using hc⟩
   ·cases h
  ·cases h
 ·cases h
theorem qFv {m:Nat} {T:TypeId} {t:Ty} (h:qEc P m T=some t):P.cellsOf T=t.sz:=by
 cases m with
 |zero=>cases h
 |succ m=>obtain ⟨_,_,_,h⟩:=qPs h;exact h
def Rds (P:Program) (enc:TypeId×Value→H) (w:World) (base:Nat) (spare:Nat→Bool) (held:Bool) (n m:Nat):Prop:=
 ∀(T:TypeId) (t:Ty) (cs:List Value) (y:DataW H×List MemPlace),qme t=true→qEc P m T=some t→DataW.trod enc P w base spare held n T cs=some y→∃x:pden t,PRd w (InW w) t x cs∧wfP t x
theorem qdv {n m:Nat} (G:Rds P enc w base spare held n m) {cs:List Value}:∀{fs:List Field} {ts:List Ty} {o:Nat},qli (qEc P m) fs=some ts→qVh P fs ts o=true→qme (qed ts)=true→cs.length=o+(qed ts).sz→
  (∀f∈fs,∃y,DataW.trod enc P w base spare held n f.type ((cs.drop f.offset).take (P.cellsOf f.type))=some y)→∃x:pden (qed ts),PRd w (InW w) (qed ts) x (cs.drop o)∧wfP (qed ts) x
 |[],ts,o,h1,h2,h3,h4,h5=>by
  simp only [qli,Option.some.injEq] at h1;subst h1
  refine ⟨(),?_,trivial⟩
  show cs.drop o=[]
  rw [List.drop_eq_nil_iff];simp [qed,Ty.sz] at h4;omega
 |f::fs,ts,o,h1,h2,h3,h4,h5=>by
  simp only [qli] at h1
  split at h1
  ·rename_i t ts' e1 e2
   simp only [Option.some.injEq] at h1;subst h1
   simp only [qVh,Bool.and_eq_true,beq_iff_eq] at h2
   simp only [qed,qme,Bool.and_eq_true] at h3
   simp only [qed,Ty.sz] at h4
   obtain ⟨y,hy⟩:=h5 f List.mem_cons_self
   obtain ⟨x1,p1,w1⟩:=G _ _ _ _ h3.1 e1 hy
   obtain ⟨x2,p2,w2⟩:=qdv G e2 h2.2 h3.2 (by omega) (fun g hg=>h5 g (List.mem_cons_of_mem _ hg))
   rw [h2.1,qFv e1] at p1
   refine ⟨(x1,x2),⟨_,_,?_,p1,p2⟩,w1,w2⟩
   exact (List.take_append_drop t.sz (cs.drop o)).symm.trans (by rw [List.drop_drop])
  ·cases h1
theorem qiv {n m:Nat} (G:Rds P enc w base spare held n m) {E:TypeId} {e:Ty} (hE:qEc P m E=some e) (hp:qme e=true) {b o len:Nat} {elems:List (DataW H×List MemPlace)} (hl:elems.length=len)
  (he:∀i,i<len→(w.cells? base (Addr.add ⟨b,o,none⟩ (i*e.sz)) e.sz).bind (DataW.trod enc P w base spare held n E)=elems[i]?):
  ∀k,k≤len→∃(xs:List (pden e)) (cl:List Value),xs.length=k∧cl.length=k*e.sz∧CellsAt w b o cl∧Cat (PRd w (InW w) e) xs cl∧∀x∈xs,wfP e x
 |0,_=>⟨[],[],rfl,by simp,fun j v hj=>by simp at hj,rfl,fun x hx=>by cases hx⟩
 |k+1,hk=>by
  obtain ⟨xs,cl,h1,h2,h3,h4,h5⟩:=qiv G hE hp hl he k (by omega)
  have hi:=he k (by omega)
  rw [List.getElem?_eq_getElem (by omega)] at hi
  obtain ⟨cs,hcs,hy⟩:=Option.bind_eq_some_iff.1 hi
  obtain ⟨x,hx,hw⟩:=G _ _ _ _ hp hE hy
  obtain ⟨g1,g2,g3⟩:=World.cells?_some hcs
  refine ⟨xs++[x],cl++cs,by simp [h1],?_,?_,h4.append ⟨cs,[],by simp,hx,rfl⟩,?_⟩
  ·rw [List.length_append,h2,hx.length,Nat.succ_mul]
  ·intro j v hj
   rw [List.getElem?_append] at hj
   split at hj
   ·exact h3 j v hj
   ·rename_i hjl
    have hjc:j - cl.length<cs.length:=(List.getElem?_eq_some_iff.1 hj).1
    have:=g3 (j - cl.length) (by rw [←g2];exact hjc)
    rw [hj,qQx,qQx] at this
    rw [←this]
    congr 2
    rw [h2];rw [h2] at hjl;omega
  ·intro y hy
   rcases List.mem_append.1 hy with hy|hy
   ·exact h5 y hy
   ·simp only [List.mem_singleton] at hy;subst hy;exact hw
theorem qqB {a:Addr} {v:Value} (h:w.cell? a=some v):a=⟨a.block,a.off,none⟩:=by
 obtain ⟨b,o,sp⟩:=a
 cases sp with
 |none=>rfl
 |some s=>simp [World.cell?] at h;split at h <;> simp at h
theorem qLz:∀(n m:Nat),Rds P enc w base spare held n m
 |0,m,T,t,cs,y,hp,hT,hy=>by simp [DataW.trod] at hy
 |n+1,0,T,t,cs,y,hp,hT,hy=>by cases hT
 |n+1,m+1,T,t,cs,y,hp,hT,hy=>by
  obtain ⟨desc,hd,hr,hs⟩:=qPs hT
  have G:=qLz n m
  unfold qmi at hr
  split at hr
  ·simp only [Option.some.injEq] at hr;subst hr
   obtain ⟨b,rfl,_⟩:=DataW.trod_bool hd hy
   exact ⟨b,rfl,trivial⟩
  ·simp only [Option.some.injEq] at hr;subst hr
   obtain ⟨k,rfl,_,hw⟩:=DataW.trod_int hd hy
   exact ⟨k,rfl,hw⟩
  ·simp only [Option.some.injEq] at hr;subst hr
   obtain ⟨s,rfl,_,hw⟩:=DataW.trod_string hd hy
   exact ⟨s,rfl,hw⟩
  ·rename_i E
   split at hr
   ·rename_i e hE
    simp only [Option.some.injEq] at hr;subst hr
    simp only [qme,Bool.and_eq_true,decide_eq_true_eq] at hp
    rcases DataW.trod_slice hd hy with ⟨rfl,_⟩|⟨a,len,cap,elems,rest,n',hn,rfl,_,_,hlc,hcm,hl,he,_⟩
    ·exact ⟨[],⟨none,0,rfl,Nat.le_refl _, .inl rfl⟩,by simp,fun x hx=>by cases hx⟩
    ·simp only [Nat.add_right_cancel_iff] at hn;subst hn
     rw [qFv hE] at he
     by_cases h0:len=0
     ·subst h0
      exact ⟨[],⟨some a,cap,rfl,Nat.zero_le _, .inl rfl⟩,by simp,fun x hx=>by cases hx⟩
     ·have h1:=he 0 (by omega)
      rw [List.getElem?_eq_getElem (by omega)] at h1
      obtain ⟨cs0,hcs0,_⟩:=Option.bind_eq_some_iff.1 h1
      obtain ⟨q1,q2,q3⟩:=World.cells?_some hcs0
      have h2:=q3 0 (by omega)
      rw [List.getElem?_eq_getElem (by omega)] at h2
      have ha:a=⟨a.block,a.off,none⟩:=qqB (v:=cs0[0]'(by omega)) (by simpa [Addr.add] using h2)
      have hb:=World.cells?_block hcs0 hp.2
      have hb':a.block<w.heap.size:=by simpa [Addr.add] using hb
      rw [ha] at he
      obtain ⟨xs,cl,g1,g2,g3,g4,g5⟩:=qiv G hE hp.1 hl he len (Nat.le_refl _)
      refine ⟨xs,⟨some a,cap,by rw [g1],by omega, .inr ⟨a.block,a.off,cl,by rw [←ha],hb',g3,g4⟩⟩,by omega,g5⟩
   ·cases hr
  ·rename_i k E
   split at hr
   ·rename_i e hE
    simp only [Option.some.injEq] at hr;subst hr
    simp only [qme] at hp
    obtain ⟨xs0,n',hn,_,hlen,hl,he⟩:=DataW.trod_array hd hy
    simp only [Nat.add_right_cancel_iff] at hn;subst hn
    have hes:=qFv hE
    rw [hes] at he
    rw [hs] at hlen
    simp only [Ty.sz] at hlen
    have key:∀j,j≤k→∃xs:List (pden e),xs.length=j∧Cat (PRd w (InW w) e) xs (cs.take (j*e.sz))∧∀x∈xs,wfP e x:=by
     intro j
     induction j with
     |zero=>intro _;exact ⟨[],rfl,by simp [Cat],fun x hx=>by cases hx⟩
     |succ j ih=>
      intro hj
      obtain ⟨xs,h1,h2,h3⟩:=ih (by omega)
      have hi:=he j (by omega)
      rw [List.getElem?_eq_getElem (by omega)] at hi
      obtain ⟨x,hx,hw⟩:=G _ _ _ _ hp hE hi
      refine ⟨xs++[x],by simp [h1],?_,?_⟩
      ·rw [Nat.succ_mul,List.take_add]
       exact h2.append ⟨_,[],by simp,hx,rfl⟩
      ·intro y hy
       rcases List.mem_append.1 hy with hy|hy
       ·exact h3 y hy
       ·simp only [List.mem_singleton] at hy;subst hy;exact hw
    obtain ⟨xs,h1,h2,h3⟩:=key k (Nat.le_refl _)
    rw [List.take_of_length_le (by omega)] at h2
    exact ⟨xs,⟨h1,h2⟩,h1,h3⟩
   ·cases hr
  ·rename_i fs
   split at hr
   ·rename_i ts hts
    split at hr
    ·rename_i hof
     simp only [Option.some.injEq] at hr;subst hr
     obtain ⟨xs0,n',hn,_,hlen,hl,he⟩:=DataW.trod_struct hd hy
     simp only [Nat.add_right_cancel_iff] at hn;subst hn
     rw [hs] at hlen
     obtain ⟨x,hx,hw⟩:=qdv (cs:=cs) G hts hof hp (by omega) (fun f hf=>by
      obtain ⟨i,hi,hfi⟩:=List.mem_iff_getElem.1 hf
      have hi':i<fs.size:=by simpa using hi
      have h1:=he i f (by rw [←Array.getElem?_toList,List.getElem?_eq_getElem hi,hfi])
      rw [List.getElem?_eq_getElem (by omega)] at h1
      exact ⟨_,h1⟩)
     exact ⟨x,by simpa using hx,hw⟩
    ·cases hr
   ·cases hr
  ·cases hr;simp [qme] at hp
  ·cases hr
theorem open_ty {fuel m:Nat} {T:TypeId} {t:Ty} {cs:List Value} {y:DataW H×List MemPlace} (hp:qme t=true) (hT:qEc P m T=some t) (hy:DataW.trod enc P w base spare held fuel T cs=some y):
  ∃x:pden t,PRd w (InW w) t x cs∧wfP t x:=qLz fuel m T t cs y hp hT hy
end
section
variable {P:Program} {H:Type} {enc:TypeId×Value→H} {w:World} {base:Nat} {spare:Nat→Bool} {held:Bool}
theorem laid_arr {fuel:Nat} {T E:TypeId} {n:Nat} {k:IntKind} {zs:List Int} {cs:List Value} {q:List MemPlace} (hT:P.underlying T=some (.array n E)) (hE:P.underlying E=some (.int k)) (hc:P.cellsOf E=1) (hcT:P.cellsOf T=n)
  (h:DataW.trod enc P w base spare held fuel T cs=some (.agg (zs.map fun z=> .lit (.int k z)),q)):cs=zs.map (Value.int k):=by
 obtain ⟨xs,m,_,hx,hlen,hl,he⟩:=DataW.trod_array hT h
 simp only [Prod.mk.injEq,DataW.agg.injEq] at hx
 rw [hcT] at hlen
 have hzl:zs.length=xs.length:=by have:=congrArg List.length hx.1;simpa using this
 refine List.ext_getElem (by simp;omega) (fun i h1 h2=>?_)
 have hi:=he i (by omega)
 rw [hc,List.getElem?_eq_getElem (by omega)] at hi
 obtain ⟨z,e1,e2,_⟩:=DataW.trod_int hE hi
 have e3:cs[i]?=some (.int k z):=by
  have:=congrArg (·[0]?) e1
  simp only [Nat.mul_one,List.getElem?_take,List.getElem?_drop,Nat.add_zero] at this
  simpa using this
 have e4:zs[i]?=some z:=by
  have:=congrArg (·[i]?) hx.1
  simp only [List.getElem?_map] at this
  rw [List.getElem?_eq_getElem (by omega:i<xs.length),e2] at this
  cases hz:zs[i]? with
  |none=>rw [hz] at this;simp at this
  |some z'=>
   rw [hz] at this
   simp only [Option.map_some,Option.some.injEq,DataW.lit.injEq,Lit.int.injEq,true_and] at this
   rw [this]
 simp only [List.getElem_map]
 rw [List.getElem?_eq_getElem h1] at e3
 simp only [Option.some.injEq] at e3
 rw [e3]
 rw [List.getElem?_eq_getElem (by simpa using h2)] at e4
 simp only [Option.some.injEq] at e4
 rw [e4]
theorem glob_arr {g n:Nat} {k:IntKind} {zs:List Int} {cs:List Value} (hcs:cs=zs.map (Value.int k)) (hl:zs.length=n) (hcell:∀i v,cs[i]?=some v→w.cell? ⟨g,i,none⟩=some v):
  ∃cs,CellsAt w g 0 cs∧PRd w (fun _=>False) (.arr n (.int k)) (zs:List Int) cs:=by
 refine ⟨cs,fun j v hj=>by rw [Nat.zero_add];exact hcell j v hj,hl,?_⟩
 subst hcs
 exact qAn zs
end
def qZl:Value→Bool
 | .agg _=>true
 |_=>false
theorem PRd.val {w:World} {N:Bool→Nat→Prop} {K:Kn} (hN:∀b,b<w.heap.size→N false b) (hlow:∀b,N true b→N false b) {t:Ty} {x:pden t} {v:Value} {cs:List Value} (h0:PRd w (InW w) t x cs) (hc:v.cells.toList=cs) (hv:qZl v=t.agg) (hf:qme t=true):VRd w N K (qIv t (inj false t x)) v:=by
 have h:PRd w (N false) t x cs:=h0.keep ⟨fun b hb=>⟨hN b hb,rfl⟩⟩
 clear h0
 cases t with
 |arr n e=>
  cases v <;> simp [Ty.agg,qZl] at hv
  rename_i a
  exact ⟨cs,by simp [Value.cells] at hc;rw [←hc],rfl,qvh (N:=N) hlow false h⟩
 |pair a b=>
  cases v <;> simp [Ty.agg,qZl] at hv
  exact ⟨cs,by simp [Value.cells] at hc;rw [←hc],rfl,qvh (N:=N) hlow false h⟩
 |unit=>
  cases v <;> simp [Ty.agg,qZl] at hv
  exact ⟨cs,by simp [Value.cells] at hc;rw [←hc],rfl,qvh (N:=N) hlow false h⟩
 |int k=>
  simp only [PRd] at h;subst h
  cases v <;> simp [Ty.agg,qZl,Value.cells] at hv hc <;> first|exact hc|skip
  all_goals simp_all [qIv,inj,VRd]
 |bool=>
  simp only [PRd] at h;subst h
  cases v <;> simp [Ty.agg,qZl,Value.cells] at hv hc <;> first|exact hc|skip
  all_goals simp_all [qIv,inj,VRd]
 |str=>
  simp only [PRd] at h;subst h
  cases v <;> simp [Ty.agg,qZl,Value.cells] at hv hc <;> first|exact hc|skip
  all_goals simp_all [qIv,inj,VRd]
 |slice e=>
  obtain ⟨A,cap,rfl,h1,h2⟩:=h
  cases v <;> simp [Ty.agg,qZl,Value.cells] at hv hc
  obtain ⟨rfl,rfl,rfl⟩:=hc
  exact ⟨_,_,rfl,h1,h2⟩
 |fn=>simp [qme] at hf
theorem CallOK.below {P:Program} {GT:qtg} {f:Nat} {args:List AV} {res:TV} {post:List (Nat×Obj)} (h:CallOK P GT f args [] res post) {w:World} (hg:Glob P GT w) {vs:List Value}
  (ha:∀(N:Bool→Nat→Prop) (K:Kn),(∀b,b<w.heap.size→N false b)→(∀b,N true b→N false b)→VRdL w N K args vs) {v:Value} (hr:∀(N:Bool→Nat→Prop) (K:Kn) (w':World) (u:Value),TVRd w' N K res u→u=v) (hb:(P.funcs[f]?).map (·.body.isSome)=some true) (hn:(P.funcs[f]?).map (·.name== "runtime.NumGoroutine")=some false):
  Calls P f vs.toArray w fun e w'=>e= .returned v∧RowKit.Below w.heap.size w w':=by
 have h1:=h w (InW w) (fun _=>False) (fun _=>none) vs hg ⟨(fun l o hl=>by cases hl),(fun l o gh p hl=>by cases hl),(fun l l' o o' gh gh' p p' hl=>by cases hl),⟨rfl,rfl,rfl,Nat.le_refl _,fun _ _ _=>rfl⟩⟩
  (fun b hb=>hb.elim) (fun l hl=>rfl) (fun b hb=>hb) (ha _ _ (fun b hb=>⟨hb,(fun hl=>by obtain ⟨l,o,gh,p,q,_⟩:=hl;cases q), .inr (.inr ⟨rfl, .inl hb⟩)⟩) NN.low)
 unfold qap at h1
 obtain ⟨fn,hf,hbs⟩:=Option.map_eq_some_iff.1 hb
 obtain ⟨fn',hf',hnm⟩:=Option.map_eq_some_iff.1 hn
 rw [hf] at hf';injection hf' with hf';subst hf'
 obtain ⟨body,hbody⟩:=Option.isSome_iff_exists.1 hbs
 have hcf:(callFunc f vs.toArray).run P w= .ok (.enter f vs.toArray) w:=by
  have hnm':¬fn.name= "runtime.NumGoroutine" :=by simpa using hnm
  simp [callFunc,hf,hnm',hbody]
 rw [hcf] at h1
 refine h1.mono ?_
 rintro e w' ⟨u,rfl,K',_,hI,hu⟩
 exact ⟨by rw [hr _ _ _ _ hu],hI.fr.os,hI.fr.tape,hI.fr.output,hI.fr.size,fun k hk=>hI.fr.block k hk (fun h=>h)⟩
theorem okWide_form {P:Program} {w:World} {r:Go.Reach} {base:Nat} {T:TypeId} {m:Nat} {t:Ty} {v:Value} (hT:qEc P (m+1) T=some t) (hnf:qme t=true) (h:Value.okWide P w r base T v):qZl v=t.agg:=by
 obtain ⟨desc,hd,hr,_⟩:=qPs hT
 unfold Value.okWide at h
 rw [hd] at h
 have hcell:Cell.okWide P w r base T v→(match desc with
   | .bool=>true
   | .int _=>true
   | .string=>true
   | .slice _=>true
   |_=>false)=true→qZl v=false:=by
  intro hc hdesc
  cases v with
  |agg cs=>
   exfalso
   unfold Cell.okWide at hc
   rw [hd] at hc
   cases desc <;> simp [Cell.ok,hd] at hc hdesc
  |_=>rfl
 cases desc with
 |bool=>simp only [qmi,Option.some.injEq] at hr;subst hr;exact hcell h rfl
 |int k=>simp only [qmi,Option.some.injEq] at hr;subst hr;exact hcell h rfl
 |string=>simp only [qmi,Option.some.injEq] at hr;subst hr;exact hcell h rfl
 |slice e=>
  simp only [qmi] at hr
  split at hr
  ·simp only [Option.some.injEq] at hr;subst hr;exact hcell h rfl
  ·cases hr
 |array n e=>
  simp only [qmi] at hr
  split at hr
  ·simp only [Option.some.injEq] at hr;subst hr
   obtain ⟨cs,rfl,_⟩:=h;rfl
  ·cases hr
 |struct fs=>
  simp only [qmi] at hr
  split at hr
  ·rename_i ts _
   split at hr
   ·simp only [Option.some.injEq] at hr;subst hr
    obtain ⟨cs,rfl,_⟩:=h
    cases ts <;> rfl
   ·cases hr
  ·cases hr
 |func _ _ _=>simp only [qmi,Option.some.injEq] at hr;subst hr;simp [qme] at hnf
 |_=>simp [qmi] at hr
end Go.Ab

/-
  Functions that are walked by hand: from what a walk tells to what calls ask for.
-/
set_option linter.unusedVariables false
set_option linter.unusedSimpArgs false
namespace Go.Ab
open Go
theorem Inv.more {c:Cx} {H:qzb} {K:Kn} {w w':World} (h:Inv c H K w) (h1:w'.os=w.os) (h2:w'.tape=w.tape) (h3:w'.output=w.output) (hs:w.heap.size≤w'.heap.size) (hb:∀k,k<w.heap.size→w'.heap[k]?=w.heap[k]?):
  Inv c H K w'∧KeepK w w' (NN c H K w) (NN c H K w') K K:=by
 have hk:KeepK w w' (NN c H K w) (NN c H K w') K K:=⟨fun fr=>⟨fun b hb'=>⟨⟨Nat.lt_of_lt_of_le hb'.1 hs,hb'.2.1,hb'.2.2⟩,hb b hb'.1⟩⟩,fun _ _ h=>h⟩
 refine ⟨⟨fun l o hl=>?_,fun l o gh p hl hg hp=>?_,h.inj,?_⟩,hk⟩
 ·obtain ⟨gh,g1,g2⟩:=h.objs l o hl
  exact ⟨gh,g1,g2.keep hk (fun p hp=>hb _ (h.own l o gh p hl g1 hp).1)⟩
 ·obtain ⟨a,b,d⟩:=h.own l o gh p hl hg hp
  exact ⟨Nat.lt_of_lt_of_le a hs,b,d⟩
 ·exact ⟨h1.trans h.fr.os,h2.trans h.fr.tape,h3.trans h.fr.output,Nat.le_trans h.fr.size hs,fun k hk' hG=>(hb k (Nat.lt_of_lt_of_le hk' h.fr.size)).trans (h.fr.block k hk' hG)⟩
theorem qsB {P:Program} {f:Nat} {args:Array Value} {w:World} {R:Value→World→Prop} (hb:(P.funcs[f]?).map (·.body.isSome)=some true) (hn:(P.funcs[f]?).map (·.name== "runtime.NumGoroutine")=some false)
  (h:Calls P f args w fun e w'=>∃v,e= .returned v∧R v w'):qap P f args w R:=by
 obtain ⟨fn,hf,hbs⟩:=Option.map_eq_some_iff.1 hb
 obtain ⟨fn',hf',hnm⟩:=Option.map_eq_some_iff.1 hn
 rw [hf] at hf';injection hf' with hf';subst hf'
 obtain ⟨body,hbody⟩:=Option.isSome_iff_exists.1 hbs
 have hcf:(callFunc f args).run P w= .ok (.enter f args) w:=by
  have hnm':¬fn.name= "runtime.NumGoroutine" :=by simpa using hnm
  simp [callFunc,hf,hnm',hbody]
 unfold qap
 rw [hcf]
 exact h
end Go.Ab

/-
  Plain laws on numbers and lists, for the printed functions.
-/
set_option linter.unusedVariables false
set_option linter.unusedSimpArgs false
namespace Go.Ab
open Go
theorem w64 {x:Int} (h1:-9223372036854775808≤x) (h2:x≤9223372036854775807):IntKind.wrap .i64 x=x:=by
 simp [IntKind.wrap,IntKind.signed,IntKind.bits];omega
theorem wu8 (x:Int):IntKind.wrap .u8 x=x%256:=by
 simp [IntKind.wrap,IntKind.signed,IntKind.bits]
theorem qtF (x:Int):IntKind.wrap .u32 x=x%4294967296:=by
 simp [IntKind.wrap,IntKind.signed,IntKind.bits]
theorem qoG (x:Int):IntKind.wrap .u64 x=x%18446744073709551616:=by
 simp [IntKind.wrap,IntKind.signed,IntKind.bits]
theorem qtn (a:Int) {b:Int} (h:0<b):Int.fdiv a b=a/b:=Int.fdiv_eq_ediv_of_nonneg _ (by omega)
theorem qJv {a b:Int} (h:0≤a):Int.tdiv a b=a/b:=Int.tdiv_eq_ediv_of_nonneg h
theorem qPi {a b:Int} (h:0≤a):Int.tmod a b=a%b:=Int.tmod_eq_emod_of_nonneg h
theorem qvz (a b:Int) (h0:0≤b) (h:b≤63):qwi .i64 a b=a/2 ^ b.toNat:=by
 unfold qwi
 have:min b.toNat (IntKind.bits .i64)=b.toNat:=by simp [IntKind.bits];omega
 rw [this]
 exact Int.fdiv_eq_ediv_of_nonneg _ (by have:(0:Int)<2 ^ b.toNat:=Int.pow_pos (by decide);omega)
theorem qAE {n:Int} (h:(Lit.int .u8 n).wf=true):0≤n∧n<256:=by
 simp [Lit.wf,IntKind.min,IntKind.max,IntKind.signed,IntKind.bits] at h;omega
def Bts (xs:List Int):Prop:=∀x∈xs,0≤x∧x<256
theorem Bts.nil:Bts []:=fun x hx=>by cases hx
theorem Bts.append {a b:List Int} (ha:Bts a) (hb:Bts b):Bts (a++b):=fun x hx=>(List.mem_append.1 hx).elim (ha x) (hb x)
theorem Bts.take {a:List Int} (h:Bts a) (n:Nat):Bts (a.take n):=fun x hx=>h x (List.mem_of_mem_take hx)
theorem Bts.drop {a:List Int} (h:Bts a) (n:Nat):Bts (a.drop n):=fun x hx=>h x (List.mem_of_mem_drop hx)
theorem Bts.cons {a:List Int} {x:Int} (hx:0≤x∧x<256) (h:Bts a):Bts (x::a):=fun y hy=>by
 rcases List.mem_cons.1 hy with rfl|hy
 ·exact hx
 ·exact h y hy
theorem Bts.of_wf {xs:List Int} (h:∀x∈xs,wfP (.int .u8) x):Bts xs:=fun x hx=>qAE (h x hx)
theorem qaj {xs:List Int} (h:Bts xs):qCb (qPb xs)=xs:=by
 unfold qCb qPb
 simp only [List.map_map]
 refine (List.map_congr_left (fun x hx=>?_)).trans (List.map_id xs)
 obtain ⟨h0,h1⟩:=h x hx
 simp only [Function.comp,UInt8.toNat_ofNat',id]
 omega
theorem qps (xs:List Int):(qPb xs).size=xs.length:=by
 show ((xs.map fun n=>UInt8.ofNat n.toNat).toArray).size=_
 simp
theorem qqz {xs ys:List Int} (hx:Bts xs) (hy:Bts ys) (h:qPb xs=qPb ys):xs=ys:=by
 rw [←qaj hx,h,qaj hy]
theorem qSA {xs ys:List Int} (hx:Bts xs) (hy:Bts ys):(ByteArray.toList (qPb xs)==ByteArray.toList (qPb ys))=decide (xs=ys):=by
 rw [Bool.eq_iff_iff,beq_iff_eq,decide_eq_true_eq]
 exact ⟨fun h=>qqz hx hy (toList_inj h),fun h=>by rw [h]⟩
end Go.Ab

/-
  Regions in the rounds of a range over a function, and what abides while its book-keeping turns.
-/
set_option linter.unusedVariables false
set_option linter.unusedSimpArgs false
namespace Go.Ab
open Go
section
variable {c:Cx} {P:Program} {GT:qtg} {H:qzb} {K:Kn} {w w':World}
end
section
variable {c:Cx} {P:Program} {GT:qtg} {nt:Nat} {mnz:List Nat} {tab:List (Summ P GT)} {R:Type} {lf fin:Pos→Option R} {r:R}
theorem Does.mono {o:Oper} {ρ:Operand→Value} {w:World} {R R':Value→World→Prop} (h:Does P o ρ w R) (hr:∀v w',R v w'→R' v w'):Does P o ρ w R':=by
 unfold Does at h ⊢
 split at h
 ·exact hr _ _ h
 ·exact hr _ _ h
 ·refine Calls.mono h ?_
  rintro e w'' ⟨v,e1,h2⟩
  exact ⟨v,e1,hr _ _ h2⟩
 ·exact h.elim
theorem RelS.keep {σ σ':St} {K:Kn} {a:Act} {w:World} {ts:List Nat} {ren:List (Nat×Nat)} {nx:Nat} {lo:Bool} (R0:RelS c P GT nt σ K a w) (h:σ.keep ts ren nx lo=some σ'):
  ∃K',RelS c P GT nt σ' K' a w∧(∀l,l<8→K' l=K l)∧(∀b,NN c (qAb σ.heap) K w false b→NN c (qAb σ'.heap) K' w false b)∧(∀l m,qpe ren l=some m→K' m=K l)∧∀l o gh p,qpe ren l=none→qAb σ.heap l=some o→K l=some gh→Has gh p→NN c (qAb σ'.heap) K' w false p.blk:=by
 unfold St.keep at h
 split at h
 ·rename_i hok
  split at h
  ·rename_i tl hl0 e1 e2
   simp only [Option.some.injEq] at h;subst h
   obtain ⟨K',X,hI,h8,hx⟩:=qZq R0 hok e2
   refine ⟨K',⟨⟨hI,fun t=>?_,R0.rel.size,R0.rel.defers,R0.rel.ng,R0.rel.gng,R0.rel.glob⟩,fun l hl=>hx l hl⟩,h8,fun b hb=>by simpa using X.n false b hb,X.k,fun l o gh p h1 h2 h3 h4=>by simpa using X.gone l o gh p trivial h1 h2 h3 h4 false⟩
   show TVRd w (NN c (qAb hl0) K' w) K' (St.look ⟨tl,hl0,nx⟩ t) _
   unfold St.look
   split
   ·rename_i v hv
    exact qbr X R0.rel.inv (fun _ _ h=>h) (fun _ _=>trivial) (qsm e1 hv) (R0.rel.tmps t)
   ·trivial
  ·cases h
 ·cases h
theorem Inv.df {H:qzb} {K:Kn} {w:World} (h:Inv c H K w) (d:List Deferred):Inv {c with df:=d} H K w:=⟨h.objs,h.own,h.inj,⟨h.fr.os,h.fr.tape,h.fr.output,h.fr.size,h.fr.block⟩⟩
theorem RelS.df {σ:St} {K:Kn} {a:Act} {w:World} (h:RelS c P GT nt σ K a w) (d:List Deferred):RelS {c with df:=d} P GT nt σ K {a with defers:=d} w:=
 ⟨⟨h.rel.inv.df d,h.rel.tmps,h.rel.size,rfl,h.rel.ng,h.rel.gng,h.rel.glob⟩,h.fresh⟩
end
section
variable {F:Fence} {n:Nat} {P:Program} {Q:Exit→Act→World→Prop} {a:Act} {w:World}
end
section
variable {c:Cx} {P:Program} {GT:qtg} {nt:Nat} {mnz:List Nat} {tab:List (Summ P GT)} {R:Type} {lf fin:Pos→Option R} {r:R}
end
end Go.Ab

/-
  A law's row where the world's shape is kept: some int stands in a variable that no one lists.
-/
set_option linter.unusedVariables false
namespace Go.Ab
open Go
variable {H:Type} {enc:TypeId×Value→H}
end Go.Ab
