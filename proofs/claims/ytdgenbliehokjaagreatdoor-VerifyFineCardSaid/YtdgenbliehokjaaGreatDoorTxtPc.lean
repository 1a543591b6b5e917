/-
  An abstract machine over the model's code and its soundness; what the functions compute, as plain functions (printed by a program of this repo's own, checked here by the kernel); plain laws of them: part 3. Helper text, no statement of the claim stands here.
-/
import Derived.Test.YtdgenbliehokjaaGreatDoorTxtPb
import Derived.WalkKit
import Derived.ProofKit
import Derived.OpenShut
import Derived.ShutString
import Derived.ChangeOld
import Derived.Below
import Derived.SizedLaws
import Derived.LaidMore
import Derived.RangeFuncFrom
import Derived.RangeFuncLeaves
import Derived.RangeFuncCalls
import Derived.OrdersIn
import Derived.Shelf.Vars
open Array renaming getElem?_toList → wla
open Bool renaming and_eq_true → wA, false_eq_true → wN, not_eq_true → wbb, not_eq_true' → wRa
open ByteArray renaming toList → wja
open Go.IntKind renaming wrap → wd
open Go.Region renaming wanted → wtb
open Go.Value renaming cells → wub
open List renaming all_eq_true → wwa, append_assoc → wB, append_nil → wW, cons_append → wca, contains_eq_mem → wva, flatMap_cons → wUa, getElem?_eq_getElem → wx, length_cons → wz, length_nil → wX, map_cons → wI, map_nil → wDa, mem_append → wba, mem_cons → wZ, mem_cons_of_mem → wO, mem_singleton → wU, range' → web
open Nat renaming le_refl → ws, le_trans → wma, lt_of_lt_of_le → wfa
open Ne renaming symm → wJa
open Option renaming bind_eq_some_iff → wib, isSome_iff_exists → wHa, map_some → wCa
open Option.some renaming injEq → wc
open Prod.mk renaming injEq → wk
/-
  The forms of results: what a function returns, and leaves, as plain values.
-/
set_option linter.unusedVariables false
set_option linter.unusedSimpArgs false
namespace Go.Ab
open Go
inductive SF
 |pu|nw|kp (n:Nat)
inductive FI
 |val (t:Ty) (sf:List SF)
 |err (T:Nat) (k:IntKind)
 |box (j:Nat) (t:Ty) (sf:List SF)
 |row (j:Nat) (e:Ty)
 |map (j:Nat) (k v:Ty)
 |cmap (j n:Nat)
 |fams (j:Nat) (a e:Ty)
 |part (e:Ty)
 |sub (j:Nat) (e:Ty)
 |cst (v:AV)
 |cfn (j f:Nat) (caps:List Nat)
 |clo (f:Nat) (t:Ty)
@[reducible] def FI.den:FI→Type
 | .val t _=>pden t
 | .err _ _=>Option Int
 | .box _ t _=>pden t
 | .row _ e=>List (pden e)
 | .map _ k v=>List (pden k×pden v)
 | .cmap _ _=>Unit
 | .fams _ a e=>List (pden a×List (pden e))
 | .part e=>List (pden e)×Nat×Nat
 | .sub _ _=>Nat×Nat
 | .cst _=>Unit
 | .cfn _ _ _=>Unit
 | .clo _ t=>pden t
@[reducible] def PT:List FI→Type
 |[]=>Unit
 |[a]=>a.den
 |a::b::r=>a.den×PT (b::r)
def qiQ (fr:Bool):(t:Ty)→pden t→List SF→Nat→qgf t×List SF×Nat
 | .pair a b,x,sf,k=>match qiQ fr a x.1 sf k with
   |(u,sf1,k1)=>match qiQ fr b x.2 sf1 k1 with
    |(v,sf2,k2)=>((u,v),sf2,k2)
 | .slice _,xs,sf,k=>match sf with
   | .nw::r=>(.ref k 0 xs.length true,r,k+1)
   | .kp n::r=>(.ref n 0 xs.length true,r,k)
   | .pu::r=>(.pure fr xs,r,k)
   |[]=>(.pure fr xs,[],k)
 | .int _,x,sf,k=>(x,sf,k)
 | .bool,x,sf,k=>(x,sf,k)
 | .str,x,sf,k=>(x,sf,k)
 | .arr _ _,x,sf,k=>(x,sf,k)
 | .unit,x,sf,k=>(x,sf,k)
 | .fn,x,sf,k=>(x,sf,k)
def qGF (fr:Bool):(t:Ty)→pden t→List SF→Nat→List (Nat×Obj)
 | .pair a b,x,sf,k=>match qiQ fr a x.1 sf k with
   |(_,sf1,k1)=>qGF fr a x.1 sf k++qGF fr b x.2 sf1 k1
 | .slice e,xs,sf,k=>match sf with
   | .nw::_=>[(k, .row e fr xs)]
   |_=>[]
 |_,_,_,_=>[]
structure Enc where
 vs:List AV
 os:List (Nat×Obj)
 rs:List (Nat×Obj)
 k:Nat
def qKA (fr:Bool):(i:FI)→i.den→Nat→Enc
 | .val t sf,x,k=>match qiQ fr t x sf k with
   |(u,_,k')=>⟨[qvF t u],[],qGF fr t x sf k,k'⟩
 | .err T ki,x,k=>⟨[.eri T ki x],[],[],k⟩
 | .box j t sf,x,k=>match qiQ fr t x sf k with
   |(u,_,k')=>⟨[],[(j, .box t u)],qGF fr t x sf k,k'⟩
 | .row j e,xs,k=>⟨[],[(j, .row e fr xs)],[],k⟩
 | .map j kt vt,es,k=>⟨[],[(j, .map kt vt es)],[],k⟩
 | .fams j a e,xs,k=>⟨[],[(j, .famS a e xs)],[],k⟩
 | .cmap j n,_,k=>⟨[],[(j, .cell (.mapr n))],[],k⟩
 | .part e,x,k=>⟨[.ref e k x.2.1 x.2.2 false],[],[(k, .row e fr x.1)],k+1⟩
 | .sub j e,x,k=>⟨[.ref e j x.1 x.2 false],[],[],k⟩
 | .cst v,_,k=>⟨[v],[],[],k⟩
 | .cfn j f caps,_,k=>⟨[],[(j, .cell (.func f caps))],[],k⟩
 | .clo f t,x,k=>⟨[.func f [k]],[],[(k, .box t (inj fr t x))],k+1⟩
def qgM (fr:Bool):(is:List FI)→PT is→Nat→Enc
 |[],_,k=>⟨[],[],[],k⟩
 |[a],x,k=>qKA fr a x k
 |a::b::r,x,k=>match qKA fr a x.1 k with
  |e1=>match qgM fr (b::r) x.2 e1.k with
   |e2=>⟨e1.vs++e2.vs,e1.os++e2.os,e1.rs++e2.rs,e2.k⟩
def qcN:List AV→TV
 |[v]=> .one v
 |vs=> .tup vs
structure Fm where
 fr:Bool
 is:List FI
@[reducible] def Fm.R (F:Fm):Type:=PT F.is
def Fm.res (F:Fm) (r:F.R):TV:=qcN (qgM F.fr F.is r 8).vs
def Fm.post (F:Fm) (r:F.R):List (Nat×Obj):=(qgM F.fr F.is r 8).os++(qgM F.fr F.is r 8).rs
def qUJ:(t:Ty)→qgf t→List SF→Nat→List (Nat×Nat)×List SF×Nat
 | .pair a b,x,sf,k=>match qUJ a x.1 sf k with
   |(r1,sf1,k1)=>match qUJ b x.2 sf1 k1 with
    |(r2,sf2,k2)=>(r1++r2,sf2,k2)
 | .slice _,v,sf,k=>match sf with
   | .nw::r=>match v with
     | .ref l _ _ _=>([(k,l)],r,k+1)
     |_=>([],r,k+1)
   |_::r=>([],r,k)
   |[]=>([],[],k)
 | .int _,_,sf,k=>([],sf,k)
 | .bool,_,sf,k=>([],sf,k)
 | .str,_,sf,k=>([],sf,k)
 | .arr _ _,_,sf,k=>([],sf,k)
 | .unit,_,sf,k=>([],sf,k)
 | .fn,_,sf,k=>([],sf,k)
def outA (lk:qBc) (ren:List (Nat×Nat)) (fr:Bool):(t:Ty)→qgf t→List SF→Nat→Option (pden t×List SF×Nat)
 | .pair a b,x,sf,k=>match outA lk ren fr a x.1 sf k with
   |some (u,sf1,k1)=>match outA lk ren fr b x.2 sf1 k1 with
    |some (v,sf2,k2)=>some ((u,v),sf2,k2)
    |none=>none
   |none=>none
 | .slice e,v,sf,k=>match v with
   | .pure f xs=>match sf with
     | .pu::r=>if f||!fr then some (xs,r,k) else none
     |[]=>if f||!fr then some (xs,[],k) else none
     |_=>none
   | .ref l off len wh=>match qOv lk e l with
     |some (f,xs)=>match sf with
      | .nw::r=>if wh&&(qDe ren l==some k)&&(f||!fr)&&(qSo lk e l).isSome then some (xs,r,k+1) else none
      | .kp n::r=>if wh&&(qDe ren l==some n) then some (xs,r,k) else none
      | .pu::r=>if (qDe ren l).isNone&&(f||e.flat||!fr) then some (seg xs off len wh,r,k) else none
      |[]=>if (qDe ren l).isNone&&(f||e.flat||!fr) then some (seg xs off len wh,[],k) else none
     |none=>none
   |_=>none
 | .int _,x,sf,k=>some (x,sf,k)
 | .bool,x,sf,k=>some (x,sf,k)
 | .str,x,sf,k=>some (x,sf,k)
 | .arr _ _,x,sf,k=>some (x,sf,k)
 | .unit,x,sf,k=>some (x,sf,k)
 | .fn,x,sf,k=>some (x,sf,k)
def qrQ:AV→Bool
 | .agg _ _=>true
 |_=>false
def qIQ:(t:Ty)→qgf t→qgf t→Bool
 | .pair a b,x,y=>qIQ a x.1 y.1&&qIQ b x.2 y.2
 | .unit,_,_=>true
 | .fn,x,y=>match x,y with
   |some f,some g=>f==g
   |none,none=>true
   |_,_=>false
 |_,_,_=>false
def qyS:AV→AV→Bool
 | .agg t x, .agg t' y=>if h:t'=t then qIQ t x (h▸y) else false
 | .func f [], .func g []=>f==g
 | .nilFunc, .nilFunc=>true
 |_,_=>false
def qht (fr:Bool):(t:Ty)→qgf t→Bool
 | .pair a b,x=>qht fr a x.1&&qht fr b x.2
 | .slice _,v=>match v with
   | .pure f _=>f==fr
   |_=>false
 |_,_=>true
def qCC (lk:qBc):FI→List AV→Nat→List (Nat×Nat)×List AV×Nat
 | .val t sf,v::vs,k=>match qMq t v with
   |some x=>match qUJ t x sf k with
    |(r,_,k')=>(r,vs,k')
   |none=>([],vs,k)
 | .err _ _,_::vs,k=>([],vs,k)
 | .part _,v::vs,k=>match v with
   | .ref _ l _ _ _=>([(k,l)],vs,k+1)
   |_=>([],vs,k+1)
 | .cst _,_::vs,k=>([],vs,k)
 | .sub _ _,_::vs,k=>([],vs,k)
 | .clo _ _,v::vs,k=>match v with
   | .func _ [l]=>([(k,l)],vs,k+1)
   |_=>([],vs,k+1)
 | .box j t sf,vs,k=>match lk j with
   |some (.box t' x)=>match qUJ t' x sf k with
    |(r,_,k')=>(r,vs,k')
   |_=>([],vs,k)
 |_,vs,k=>([],vs,k)
def qCM (lk:qBc):List FI→List AV→Nat→List (Nat×Nat)
 |[],_,_=>[]
 |a::r,vs,k=>match qCC lk a vs k with
  |(r1,vs1,k1)=>r1++qCM lk r vs1 k1
def qWv (lk:qBc) (ren:List (Nat×Nat)) (fr:Bool):(i:FI)→List AV→Nat→Option (i.den×List AV×Nat)
 | .val t sf,v::vs,k=>match qMq t v with
   |some x=>if qrQ v==t.agg then match outA lk ren fr t x sf k with
     |some (u,_,k')=>some (u,vs,k')
     |none=>none
    else none
   |none=>none
 | .err T ki, .errno T' ki' n::vs,k=>if T=T'∧ki=ki' then some (some n,vs,k) else none
 | .err T ki, .nilIface::vs,k=>some (none,vs,k)
 | .err T ki, .eri T' ki' x::vs,k=>if T=T'∧ki=ki' then some (x,vs,k) else none
 | .box j t sf,vs,k=>match lk j with
   |some (.box t' x)=>if h:t'=t then match outA lk ren fr t (h▸x) sf k with
     |some (u,_,k')=>some (u,vs,k')
     |none=>none
    else none
   |_=>none
 | .row j e,vs,k=>match qSo lk e j with
   |some (f,xs)=>if f||!fr then some (xs,vs,k) else none
   |none=>none
 | .map j kt vt,vs,k=>match lk j with
   |some (.map k' v' es)=>if h:kt=k'∧vt=v' then some (h.1▸h.2▸es,vs,k) else none
   |_=>none
 | .fams j a e,vs,k=>match lk j with
   |some (.famS a' e' xs)=>if h:a=a'∧e=e' then some (h.1▸h.2▸xs,vs,k) else none
   |_=>none
 | .cmap j n,vs,k=>match lk j with
   |some (.cell (.mapr l))=>if qDe ren l==some n then some ((),vs,k) else none
   |_=>none
 | .part e, .ref e' l off len wh::vs,k=>if e'=e then match qSo lk e l with
   |some (f,xs)=>if (qDe ren l==some k)&&(f||!fr) then some (if wh then (xs,0,xs.length) else (xs,off,len),vs,k+1) else none
   |none=>none
  else none
 | .cst v,u::vs,k=>if qyS u v then some ((),vs,k) else none
 | .sub j e, .ref e' l off len wh::vs,k=>if e'=e then match qSo lk e l with
   |some (_,xs)=>if qDe ren l==some j then some (if wh then (0,xs.length) else (off,len),vs,k) else none
   |none=>none
  else none
 | .cfn j f caps,vs,k=>match lk j with
   |some (.cell (.func g cs))=>if g=f∧qsx ren cs=some caps then some ((),vs,k) else none
   |_=>none
 | .clo f t, .func g [l]::vs,k=>if g=f∧qDe ren l=some k then match lk l with
   |some (.box t' x)=>if h:t'=t then match qff lk ren (!fr) t (h▸x) with
     |some y=>match unj t y with
      |some u=>if qht fr t y then some (u,vs,k+1) else none
      |none=>none
     |none=>none
    else none
   |_=>none
  else none
 |_,_,_=>none
def qGQ (lk:qBc) (ren:List (Nat×Nat)) (fr:Bool):(is:List FI)→List AV→Nat→Option (PT is×List AV×Nat)
 |[],vs,k=>some ((),vs,k)
 |[a],vs,k=>qWv lk ren fr a vs k
 |a::b::r,vs,k=>match qWv lk ren fr a vs k with
  |some (x,vs1,k1)=>match qGQ lk ren fr (b::r) vs1 k1 with
   |some (y,vs2,k2)=>some ((x,y),vs2,k2)
   |none=>none
  |none=>none
def FI.own:FI→List (Nat×Nat)
 | .box j _ _| .row j _| .map j _ _| .cmap j _| .fams j _ _| .cfn j _ _=>[(j,j)]
 |_=>[]
def tvs:TV→List AV
 | .one v=>[v]
 | .tup vs=>vs
def Fm.fin (F:Fm) (P:Program) (rs:List ResultVar) (s:Pos):Option F.R:=
 match qKF P s.st rs with
 |some res0=>
  let lk:=qvb s.st.heap
  let ren:=F.is.flatMap FI.own++qCM lk F.is (tvs res0) 8
  if qfJ ren 24 then match qGQ lk ren F.fr F.is (tvs res0) 8 with
   |some (r,[],_)=>some r
   |_=>none
  else none
 |none=>none
end Go.Ab

/-
  The forms of results: they are what the machine keeps at a function's end.
-/
set_option linter.unusedVariables false
set_option linter.unusedSimpArgs false
namespace Go.Ab
open Go
section
variable {P:Program} {GT:qmi} {lk:qBc} {ren:List (Nat×Nat)} {fr lo:Bool}
theorem qIh:∀{a b:List (Nat×Nat)} {u v:List (Nat×Option Obj)},qGd lk ren lo a=some u→qGd lk ren lo b=some v→qGd lk ren lo (a++b)=some (u++v)
 |[],b,u,v,h,h'=>by simp only [qGd,wc] at h;subst h;exact h'
 |p::a,b,u,v,h,h'=>by
  simp only [qGd,wca] at h ⊢
  split at h
  ·rename_i o os e1 e2
   split at h
   ·rename_i o' e3
    simp only [wc] at h;subst h
    rw [e1,qIh e2 h']
    simp only [e3,wca]
   ·cases h
  ·cases h
theorem qam {a b:List (Nat×Obj)}:qRc (a++b)=qRc a++qRc b:=by simp [qRc]
theorem qLs {f fr:Bool} (h:(f||!fr)=true):(f&&!!fr)=fr:=by cases f <;> cases fr <;> simp_all
theorem qjE {f g fr:Bool} (h:(f||g||!fr)=true):((f||g)&&!!fr)=fr:=by cases f <;> cases g <;> cases fr <;> simp_all
theorem qCk {l n:Nat} (h:(qDe ren l==some n)=true):qDe ren l=some n:=by simpa using h
theorem qqB:∀{t:Ty} {x:qgf t} {sf sf':List SF} {k k':Nat} {u:pden t},outA lk ren fr t x sf k=some (u,sf',k')→
  ∃y,qiQ fr t u sf k=(y,sf',k')∧qff lk ren (!fr) t x=some y∧∃cs,qUJ t x sf k=(cs,sf',k')∧qGd lk ren (!fr) cs=some (qRc (qGF fr t u sf k))
 | .int _,x,sf,sf',k,k',u,h=>by simp only [outA,wc,wk] at h;obtain ⟨rfl,rfl,rfl⟩:=h;exact ⟨_,rfl,rfl,_,rfl,rfl⟩
 | .bool,x,sf,sf',k,k',u,h=>by simp only [outA,wc,wk] at h;obtain ⟨rfl,rfl,rfl⟩:=h;exact ⟨_,rfl,rfl,_,rfl,rfl⟩
 | .str,x,sf,sf',k,k',u,h=>by simp only [outA,wc,wk] at h;obtain ⟨rfl,rfl,rfl⟩:=h;exact ⟨_,rfl,rfl,_,rfl,rfl⟩
 | .arr _ _,x,sf,sf',k,k',u,h=>by simp only [outA,wc,wk] at h;obtain ⟨rfl,rfl,rfl⟩:=h;exact ⟨_,rfl,rfl,_,rfl,rfl⟩
 | .unit,x,sf,sf',k,k',u,h=>by simp only [outA,wc,wk] at h;obtain ⟨_,rfl,rfl⟩:=h;exact ⟨_,rfl,rfl,_,rfl,rfl⟩
 | .fn,x,sf,sf',k,k',u,h=>by simp only [outA,wc,wk] at h;obtain ⟨rfl,rfl,rfl⟩:=h;exact ⟨_,rfl,rfl,_,rfl,rfl⟩
 | .pair a b,x,sf,sf',k,k',u,h=>by
   simp only [outA] at h
   split at h
   ·rename_i u1 sf1 k1 h1
    split at h
    ·rename_i u2 sf2 k2 h2
     simp only [wc,wk] at h;obtain ⟨rfl,rfl,rfl⟩:=h
     obtain ⟨y1,a1,a2,c1,a3,a4⟩:=qqB h1
     obtain ⟨y2,b1,b2,c2,b3,b4⟩:=qqB h2
     refine ⟨(y1,y2),by simp only [qiQ,a1,b1],by simp only [qff,a2,b2],c1++c2,by simp only [qUJ,a3,b3],?_⟩
     simp only [qGF,a1,qam]
     exact qIh a4 b4
    ·cases h
   ·cases h
 | .slice e,x,sf,sf',k,k',u,h=>by
   cases x with
   |pure f xs=>
    simp only [outA] at h
    split at h
    ·split at h
     ·rename_i hf
      simp only [wc,wk] at h;obtain ⟨rfl,rfl,rfl⟩:=h
      exact ⟨_,rfl,by simp only [qff,qLs hf],_,rfl,rfl⟩
     ·cases h
    ·split at h
     ·rename_i hf
      simp only [wc,wk] at h;obtain ⟨rfl,rfl,rfl⟩:=h
      exact ⟨_,rfl,by simp only [qff,qLs hf],_,rfl,rfl⟩
     ·cases h
    ·cases h
   |ref l off len wh=>
    simp only [outA] at h
    split at h
    ·rename_i f xs hrow
     split at h
     ·split at h
      ·rename_i hc
       simp only [wA] at hc
       obtain ⟨⟨⟨rfl,hn⟩,hf⟩,hs⟩:=hc
       simp only [wc,wk] at h;obtain ⟨rfl,rfl,rfl⟩:=h
       refine ⟨_,rfl,by simp only [qff,qCk hn,hrow,if_true],_,rfl,?_⟩
       obtain ⟨y,hy⟩:=wHa.1 hs
       have:=qTy hy;rw [hrow] at this;injection this with this;subst this
       simp only [qGd,qGc hy,qpm,qGF,qRc,qLs hf,wI,wDa]
      ·cases h
     ·split at h
      ·rename_i hc
       simp only [wA] at hc
       obtain ⟨rfl,hn⟩:=hc
       simp only [wc,wk] at h;obtain ⟨rfl,rfl,rfl⟩:=h
       exact ⟨_,rfl,by simp only [qff,qCk hn,hrow,if_true],_,rfl,rfl⟩
      ·cases h
     ·split at h
      ·rename_i hc
       simp only [wA,Option.isNone_iff_eq_none] at hc
       simp only [wc,wk] at h;obtain ⟨rfl,rfl,rfl⟩:=h
       exact ⟨_,rfl,by simp only [qff,hc.1,hrow,qjE hc.2],_,rfl,rfl⟩
      ·cases h
     ·split at h
      ·rename_i hc
       simp only [wA,Option.isNone_iff_eq_none] at hc
       simp only [wc,wk] at h;obtain ⟨rfl,rfl,rfl⟩:=h
       exact ⟨_,rfl,by simp only [qff,hc.1,hrow,qjE hc.2],_,rfl,rfl⟩
      ·cases h
    ·cases h
   |nil=>simp [outA] at h
   |junk=>simp [outA] at h
   |lng n=>simp [outA] at h
theorem qrL {t:Ty} {v:AV} {x y:qgf t} (h:qMq t v=some x) (hg:(qrQ v==t.agg)=true) (hk:qff lk ren lo t x=some y):qTg lk ren lo v=some (qvF t y):=by
 cases v with
 |agg t' z=>
  simp only [qMq] at h
  split at h
  ·rename_i e
   subst e
   simp only [wc] at h;subst h
   simp only [qTg,hk]
   cases t' <;> simp [qrQ,Ty.agg] at hg <;> rfl
  ·cases h
 |bool b=>
  cases t <;> simp [qMq] at h
  subst h;simp only [qff,wc] at hk;subst hk;rfl
 |int k n=>
  cases t <;> simp [qMq] at h
  obtain ⟨rfl,rfl⟩:=h;simp only [qff,wc] at hk;subst hk;rfl
 |str s=>
  cases t <;> simp [qMq] at h
  subst h;simp only [qff,wc] at hk;subst hk;rfl
 |sl e f xs=>
  cases t <;> simp only [qMq] at h <;> try cases h
  rename_i e'
  split at h
  ·rename_i he;subst he
   simp only [wc] at h;subst h
   simp only [qff,wc] at hk;subst hk;rfl
  ·cases h
 |nil=>
  cases t <;> simp [qMq] at h
  subst h;simp only [qff,wc] at hk;subst hk;rfl
 |ref e l off len wh=>
  cases t <;> simp only [qMq] at h <;> try cases h
  rename_i e'
  split at h
  ·rename_i he;subst he
   simp only [wc] at h;subst h
   cases hn:qDe ren l with
   |none=>
    simp only [qff,hn] at hk
    simp only [qTg,hn]
    split at hk
    ·rename_i hr
     simp only [wc] at hk;subst hk;rfl
    ·cases hk
   |some n=>
    simp only [qff,hn] at hk
    simp only [qTg,hn]
    split at hk
    ·rename_i hw
     split at hk
     ·rename_i hr
      simp only [wc] at hk;subst hk;simp only [hr,hw,if_true];rfl
     ·cases hk
    ·rename_i hw
     simp only [wc] at hk;subst hk;rw [if_neg hw];rfl
  ·cases h
 |func f caps=>
  cases caps with
  |nil=>
   cases t <;> simp [qMq] at h
   subst h;simp only [qff,wc] at hk;subst hk;rfl
  |cons a b=>simp [qMq] at h
 |nilFunc=>
  cases t <;> simp [qMq] at h
  subst h;simp only [qff,wc] at hk;subst hk;rfl
 |_=>simp [qMq] at h
theorem qKs:∀{a b:List AV} {u v:List AV},qXe lk ren lo a=some u→qXe lk ren lo b=some v→qXe lk ren lo (a++b)=some (u++v)
 |[],b,u,v,h,h'=>by simp only [qXe,wc] at h;subst h;exact h'
 |p::a,b,u,v,h,h'=>by
  simp only [qXe,wca] at h ⊢
  split at h
  ·rename_i o os e1 e2
   simp only [wc] at h;subst h
   simp only [e1,qKs e2 h',wca]
  ·cases h
theorem qFG:∀{t:Ty} {x y:qgf t},qIQ t x y=true→x=y∧qff lk ren lo t x=some x
 | .pair a b,x,y,h=>by
   simp only [qIQ,wA] at h
   obtain ⟨h1,h2⟩:=qFG h.1
   obtain ⟨h3,h4⟩:=qFG h.2
   exact ⟨Prod.ext h1 h3,by simp only [qff,h2,h4]⟩
 | .unit,_,_,_=>⟨rfl,rfl⟩
 | .fn,x,y,h=>by
   simp only [qIQ] at h
   refine ⟨?_,rfl⟩
   split at h
   ·rw [beq_iff_eq] at h;rw [h]
   ·rfl
   ·cases h
 | .int _,_,_,h=>by cases h
 | .bool,_,_,h=>by cases h
 | .str,_,_,h=>by cases h
 | .arr _ _,_,_,h=>by cases h
 | .slice _,_,_,h=>by cases h
theorem qzM {u v:AV} (h:qyS u v=true):qTg lk ren lo u=some v:=by
 unfold qyS at h
 split at h
 ·split at h
  ·rename_i e
   subst e
   obtain ⟨h1,h2⟩:=qFG (lk:=lk) (ren:=ren) (lo:=lo) h
   simp only at h1
   simp only [qTg,←h1,h2]
  ·cases h
 ·rw [beq_iff_eq] at h;subst h;rfl
 ·rfl
 ·cases h
theorem qRx {fr:Bool}:∀{t:Ty} {y:qgf t} {u:pden t},unj t y=some u→qht fr t y=true→inj fr t u=y
 | .int _,y,u,h,_=>by simp only [unj,wc] at h;subst h;rfl
 | .bool,y,u,h,_=>by simp only [unj,wc] at h;subst h;rfl
 | .str,y,u,h,_=>by simp only [unj,wc] at h;subst h;rfl
 | .arr _ _,y,u,h,_=>by simp only [unj,wc] at h;subst h;rfl
 | .pair a b,y,u,h,hf=>by
   simp only [unj] at h
   split at h
   ·rename_i u1 u2 h1 h2
    simp only [wc] at h;subst h
    simp only [qht,wA] at hf
    simp only [inj,qRx h1 hf.1,qRx h2 hf.2]
   ·cases h
 | .unit,y,u,h,_=>rfl
 | .slice _,y,u,h,hf=>by
   cases y with
   |pure f xs=>
    simp only [unj,wc] at h;subst h
    simp only [qht,beq_iff_eq] at hf;subst hf;rfl
   |ref l off len wh=>simp [unj] at h
   |nil=>simp [qht] at hf
   |junk=>simp [unj] at h
   |lng n=>simp [unj] at h
 | .fn,y,u,h,_=>by simp only [unj,wc] at h;subst h;rfl
theorem qkL {i:FI} {vs vs':List AV} {k k':Nat} {r:i.den} (h:qWv lk ren fr i vs k=some (r,vs',k')):
  ∃us us1,vs=us++vs'∧qXe lk ren (!fr) us=some us1∧AVsLe us1 (qKA fr i r k).vs∧(qKA fr i r k).k=k'∧qGd lk ren (!fr) i.own=some (qRc (qKA fr i r k).os)∧∃cs,qCC lk i vs k=(cs,vs',k')∧qGd lk ren (!fr) cs=some (qRc (qKA fr i r k).rs):=by
 cases i with
 |val t sf=>
  cases vs with
  |nil=>simp [qWv] at h
  |cons v vs=>
   simp only [qWv] at h
   split at h
   ·rename_i x hx
    split at h
    ·rename_i hg
     split at h
     ·rename_i u sf' k1 ho
      simp only [wc,wk] at h;obtain ⟨rfl,rfl,rfl⟩:=h
      obtain ⟨y,a1,a2,cs,a3,a4⟩:=qqB ho
      refine ⟨[v],[qvF t y],rfl,?_,by simp only [qKA,a1];exact AVsLe.refl _,by simp only [qKA,a1],by simp only [FI.own,qKA,a1];rfl,cs,by simp only [qCC,hx,a3],by simp only [qKA,a1];exact a4⟩
      simp only [qXe,qrL hx hg a2]
     ·cases h
    ·cases h
   ·cases h
 |err T ki=>
  cases vs with
  |nil=>simp [qWv] at h
  |cons v vs=>
   cases v <;> simp only [qWv] at h <;> try cases h
   ·split at h
    ·rename_i hc
     obtain ⟨rfl,rfl⟩:=hc
     simp only [wc,wk] at h;obtain ⟨rfl,rfl,rfl⟩:=h
     exact ⟨[_],[_],rfl,rfl,⟨fun _ _ _ _ h=>h,trivial⟩,rfl,rfl,[],rfl,rfl⟩
    ·cases h
   ·exact ⟨[_],[_],rfl,rfl,⟨fun _ _ _ _ h=>h,trivial⟩,rfl,rfl,[],rfl,rfl⟩
   ·split at h
    ·rename_i hc
     obtain ⟨rfl,rfl⟩:=hc
     simp only [wc,wk] at h;obtain ⟨rfl,rfl,rfl⟩:=h
     exact ⟨[_],[_],rfl,rfl,⟨fun _ _ _ _ h=>h,trivial⟩,rfl,rfl,[],rfl,rfl⟩
    ·cases h
 |box j t sf=>
  simp only [qWv] at h
  split at h
  ·rename_i t' x hj
   split at h
   ·rename_i ht
    subst ht
    split at h
    ·rename_i u sf' k1 ho
     simp only [wc,wk] at h;obtain ⟨rfl,rfl,rfl⟩:=h
     obtain ⟨y,a1,a2,cs,a3,a4⟩:=qqB ho
     refine ⟨[],[],rfl,rfl,by simp only [qKA,a1];trivial,by simp only [qKA,a1],?_,cs,by simp only [qCC,hj,a3],by simp only [qKA,a1];exact a4⟩
     simp only [FI.own,qGd,hj,qpm,qKA,a1,qRc,wI,wDa,a2]
    ·cases h
   ·cases h
  ·cases h
 |row j e=>
  simp only [qWv] at h
  split at h
  ·rename_i f xs hr
   split at h
   ·rename_i hf
    simp only [wc,wk] at h;obtain ⟨rfl,rfl,rfl⟩:=h
    refine ⟨[],[],rfl,rfl,trivial,rfl,?_,[],by simp only [qCC],rfl⟩
    simp only [FI.own,qGd,qGc hr,qpm,qKA,qRc,wI,wDa,qLs hf]
   ·cases h
  ·cases h
 |map j kt vt=>
  simp only [qWv] at h
  split at h
  ·rename_i k' v' es hj
   split at h
   ·rename_i hc
    obtain ⟨rfl,rfl⟩:=hc
    simp only [wc,wk] at h;obtain ⟨rfl,rfl,rfl⟩:=h
    refine ⟨[],[],rfl,rfl,trivial,rfl,?_,[],by simp only [qCC],rfl⟩
    simp only [FI.own,qGd,hj,qpm,qKA,qRc,wI,wDa]
   ·cases h
  ·cases h
 |fams j a e=>
  simp only [qWv] at h
  split at h
  ·rename_i a' e' xs hj
   split at h
   ·rename_i hc
    obtain ⟨rfl,rfl⟩:=hc
    simp only [wc,wk] at h;obtain ⟨rfl,rfl,rfl⟩:=h
    refine ⟨[],[],rfl,rfl,trivial,rfl,?_,[],by simp only [qCC],rfl⟩
    simp only [FI.own,qGd,hj,qpm,qKA,qRc,wI,wDa]
   ·cases h
  ·cases h
 |cmap j n=>
  simp only [qWv] at h
  split at h
  ·rename_i l hj
   split at h
   ·rename_i hc
    simp only [wc,wk] at h;obtain ⟨_,rfl,rfl⟩:=h
    refine ⟨[],[],rfl,rfl,trivial,rfl,?_,[],by simp only [qCC],rfl⟩
    simp only [FI.own,qGd,hj,qpm,qTg,qCk hc,qKA,qRc,wI,wDa]
   ·cases h
  ·cases h
 |cfn j f caps=>
  simp only [qWv] at h
  split at h
  ·rename_i g cs hj
   split at h
   ·rename_i hc
    obtain ⟨rfl,hc⟩:=hc
    simp only [wc,wk] at h;obtain ⟨_,rfl,rfl⟩:=h
    refine ⟨[],[],rfl,rfl,trivial,rfl,?_,[],by simp only [qCC],rfl⟩
    simp only [FI.own,qGd,hj,qpm,qTg,hc,qKA,qRc,wI,wDa]
   ·cases h
  ·cases h
 |clo f t=>
  cases vs with
  |nil=>simp [qWv] at h
  |cons v vs=>
   cases v with
   |func g caps=>
    cases caps with
    |nil=>simp [qWv] at h
    |cons l r=>
     cases r with
     |cons l2 r=>simp [qWv] at h
     |nil=>
      simp only [qWv] at h
      split at h
      ·rename_i hc
       obtain ⟨rfl,hn⟩:=hc
       split at h
       ·rename_i t' x hlk
        split at h
        ·rename_i ht
         subst ht
         split at h
         ·rename_i y hy
          split at h
          ·rename_i u hu
           split at h
           ·rename_i hfa
            simp only [wc,wk] at h;obtain ⟨rfl,rfl,rfl⟩:=h
            refine ⟨[_],[.func g [k]],rfl,by simp only [qXe,qTg,qsx,hn],AVsLe.refl _,rfl,rfl,[(k,l)],rfl,?_⟩
            simp only [qGd,hlk,qpm,hy,qKA,qRc,wI,wDa,qRx hu hfa]
           ·cases h
          ·cases h
         ·cases h
        ·cases h
       ·cases h
      ·cases h
   |_=>simp [qWv] at h
 |part e=>
  cases vs with
  |nil=>simp [qWv] at h
  |cons v vs=>
   cases v <;> simp only [qWv] at h <;> try cases h
   rename_i e' l off len wh
   split at h
   ·rename_i he
    subst he
    split at h
    ·rename_i f xs hrow
     split at h
     ·rename_i hc
      simp only [wA] at hc
      simp only [wc,wk] at h;obtain ⟨rfl,rfl,rfl⟩:=h
      have hks:qGd lk ren (!fr) [(k,l)]=some (qRc [(k, .row e' fr xs)]):=by
       simp only [qGd,qGc hrow,qpm,qRc,qLs hc.2,wI,wDa]
      cases wh with
      |true=>
       refine ⟨[_],[.ref e' k 0 xs.length true],rfl,by simp only [qXe,qTg,qCk hc.1,qTy hrow,if_true],⟨fun w N K v hv=>?_,trivial⟩,rfl,rfl,[(k,l)],rfl,hks⟩
       obtain ⟨n,pl,g1,g2,g3,g4⟩:=hv
       exact ⟨n,pl,g1,g2,(fun h=>by cases h),g4⟩
      |false=>
       exact ⟨[_],[.ref e' k off len false],rfl,by simp only [qXe,qTg,qCk hc.1,wN,if_false],AVsLe.refl _,rfl,rfl,[(k,l)],rfl,hks⟩
     ·cases h
    ·cases h
   ·cases h
 |sub j e=>
  cases vs with
  |nil=>simp [qWv] at h
  |cons v vs=>
   cases v <;> simp only [qWv] at h <;> try cases h
   rename_i e' l off len wh
   split at h
   ·rename_i he
    subst he
    split at h
    ·rename_i f xs hrow
     split at h
     ·rename_i hc
      simp only [wc,wk] at h;obtain ⟨rfl,rfl,rfl⟩:=h
      cases wh with
      |true=>
       refine ⟨[_],[.ref e' j 0 xs.length true],rfl,by simp only [qXe,qTg,qCk hc,qTy hrow,if_true],⟨fun w N K v hv=>?_,trivial⟩,rfl,rfl,[],rfl,rfl⟩
       obtain ⟨n,pl,g1,g2,g3,g4⟩:=hv
       exact ⟨n,pl,g1,g2,(fun h=>by cases h),g4⟩
      |false=>
       exact ⟨[_],[.ref e' j off len false],rfl,by simp only [qXe,qTg,qCk hc,wN,if_false],AVsLe.refl _,rfl,rfl,[],rfl,rfl⟩
     ·cases h
    ·cases h
   ·cases h
 |cst v=>
  cases vs with
  |nil=>simp [qWv] at h
  |cons u vs=>
   simp only [qWv] at h
   split at h
   ·rename_i hc
    simp only [wc,wk] at h;obtain ⟨_,rfl,rfl⟩:=h
    exact ⟨[_],[v],rfl,by simp only [qXe,qzM hc],AVsLe.refl _,rfl,rfl,[],rfl,rfl⟩
   ·cases h
theorem qjL:∀{is:List FI} {vs vs':List AV} {k k':Nat} {r:PT is},qGQ lk ren fr is vs k=some (r,vs',k')→
  ∃us us1,vs=us++vs'∧qXe lk ren (!fr) us=some us1∧AVsLe us1 (qgM fr is r k).vs∧(qgM fr is r k).k=k'∧qGd lk ren (!fr) (is.flatMap FI.own)=some (qRc (qgM fr is r k).os)∧
   qGd lk ren (!fr) (qCM lk is vs k)=some (qRc (qgM fr is r k).rs)
 |[],vs,vs',k,k',r,h=>by
  simp only [qGQ,wc,wk] at h;obtain ⟨_,rfl,rfl⟩:=h
  exact ⟨[],[],rfl,rfl,trivial,rfl,rfl,rfl⟩
 |[a],vs,vs',k,k',r,h=>by
  simp only [qGQ] at h
  obtain ⟨us,us1,h1,h2,h2',h3,h4,cs,h5,h6⟩:=qkL h
  refine ⟨us,us1,h1,h2,h2',h3,?_,?_⟩
  ·simp only [wUa,List.flatMap_nil,wW];exact h4
  ·simp only [qCM,h5,wW];exact h6
 |a::b::q,vs,vs',k,k',r,h=>by
  simp only [qGQ] at h
  split at h
  ·rename_i x vs1 k1 ho
   split at h
   ·rename_i y vs2 k2 hl
    simp only [wc,wk] at h;obtain ⟨rfl,rfl,rfl⟩:=h
    obtain ⟨us,us1,h1,h2,h2',h3,h4,cs,h5,h6⟩:=qkL ho
    obtain ⟨us',us1',g1,g2,g2',g3,g4,g5⟩:=qjL hl
    subst h3
    refine ⟨us++us',us1++us1',by rw [h1,g1,wB],qKs h2 g2,?_,g3,?_,?_⟩
    ·simp only [qgM];exact h2'.append g2'
    ·rw [wUa];simp only [qgM,qam];exact qIh h4 g4
    ·rw [qCM,h5];simp only [qgM,qam];exact qIh h6 g5
   ·cases h
  ·cases h
theorem qHL {res:TV} {us:List AV} (ht:qcN (tvs res)=res) (h:qXe lk ren lo (tvs res)=some us):qUq lk ren lo res=some (qcN us):=by
 cases res with
 |one v=>
  simp only [tvs,qXe] at h
  simp only [qUq]
  split at h
  ·rename_i u us' e1 e2
   simp only [wc] at e2 h;subst e2;subst h
   simp only [e1,qcN]
  ·cases h
 |tup vs=>
  simp only [tvs] at h ht
  simp only [qUq,h]
  have:∀u,us≠[u]:=by
   rintro u rfl
   cases vs with
   |nil=>simp [qXe] at h
   |cons a r=>cases r with
    |nil=>simp [qcN] at ht
    |cons b q=>
     simp only [qXe] at h
     split at h
     ·rename_i e1 e2
      split at e2
      ·simp only [wc] at e2;subst e2;simp at h
      ·cases e2
     ·cases h
  unfold qcN
  split
  ·rename_i v;exact absurd rfl (this v)
  ·rfl
theorem qxP:∀{as bs:List AV},AVsLe as bs→TVle (qcN as) (qcN bs)
 |[],[],h=>h
 |[_],[_],h=>h.1
 |_::_::_,_::_::_,h=>h
 |[_],_::_::_,h=>h.2.elim
 |_::_::_,[_],h=>h.2.elim
 |[],_::_,h=>h.elim
 |_::_,[],h=>h.elim
theorem qrN {σ:St} {rs:List ResultVar} {res:TV} (h:qKF P σ rs=some res):qcN (tvs res)=res:=by
 unfold qKF at h
 split at h
 ·simp only [wc] at h;subst h;rfl
 ·rename_i vs hv hn
  simp only [wc] at h;subst h
  simp only [tvs]
  unfold qcN
  split
  ·rename_i v;exact absurd rfl (hv v)
  ·rfl
 ·cases h
theorem uH {F:Fm} {rs:List ResultVar} {s:Pos} {r:F.R} (h:F.fin P rs s=some r):
  ∃res0 res1 ren nx lo,qKF P s.st rs=some res0∧qfJ ren nx=true∧qUq (qvb s.st.heap) ren lo res0=some res1∧TVle res1 (F.res r)∧qGd (qvb s.st.heap) ren lo ren=some (qRc (F.post r)):=by
 unfold Fm.fin at h
 split at h
 ·rename_i res0 hres
  simp only at h
  split at h
  ·rename_i hok
   split at h
   ·rename_i r' k' ho
    simp only [wc] at h;subst h
    obtain ⟨us,us1,h1,h2,h2',h3,h4,h5⟩:=qjL ho
    rw [wW] at h1
    rw [←h1] at h2
    refine ⟨res0,_,_,_,_,hres,hok,qHL (qrN hres) h2,qxP h2',?_⟩
    simp only [Fm.post,qam]
    exact qIh h4 h5
   ·cases h
  ·cases h
 ·cases h
end
end Go.Ab

/-
  What a function computes, as a plain function: the machine's own runs, with what is open left open.
-/
set_option linter.unusedVariables false
set_option linter.unusedSimpArgs false
namespace Go.Ab
open Go
structure Summ (P:Program) (GT:qmi) where
 f:Nat
 acc:List AV→Bool
 rows:Bool
 nils:Bool
 R:Type
 fn:List AV→List (Nat×Obj)→Option R
 res:R→TV
 post:R→List (Nat×Obj)
 drop:Bool:=false
 ok:∀as pre r,fn as pre=some r→CallOK P GT f as pre (res r) (post r)
@[reducible] def Summ.dropping {P:Program} {GT:qmi} (S:Summ P GT):Summ P GT:={S with drop:=true}
def qAN {P:Program} {GT:qmi} (f:Nat) (vs:List AV):List (Summ P GT)→Option (Summ P GT)
 |[]=>none
 |S::r=>if S.f==f&&S.acc vs then some S else qAN f vs r
theorem qbL {P:Program} {GT:qmi} {f:Nat} {vs:List AV}:∀{tab:List (Summ P GT)} {S:Summ P GT},qAN f vs tab=some S→S.f=f
 |[],S,h=>by cases h
 |T::r,S,h=>by
  simp only [qAN] at h
  split at h
  ·rename_i hc
   simp only [wc] at h;subst h
   simp only [wA,beq_iff_eq] at hc;exact hc.1
  ·exact qbL h
inductive Tr:Type 1
 |bit (b:Bool) (t e:Tr)
 |safe (p:Prop) (t:Tr)
 |call (R:Type) (v:Option R) (k:R→Tr)
 |any (R:Type) (p:R→Prop) (k:R→Tr)
 |leaf (s:Pos)
 |ret (s:Pos)
 |dead
@[reducible] noncomputable def gd {R:Type} (p:Prop) (x:Option R):Option R:=@ite _ p (Classical.propDecidable p) x none
theorem qfa {R:Type} {p:Prop} (h:p) (x:Option R):gd p x=x:=if_pos h
theorem qAj {R:Type} {p:Prop} {x:Option R} {r:R} (h:gd p x=some r):p∧x=some r:=by
 unfold gd at h
 split at h
 ·exact ⟨by assumption,h⟩
 ·cases h
open Classical in
noncomputable def qaF {X R:Type} (p:X→Prop) (f:X→Option R):Option R:=
 if h:(∃x,p x)∧∃r,∀x,p x→f x=some r then some (Classical.choose h.2) else none
theorem qwj {X R:Type} {p:X→Prop} {f:X→Option R} {r:R} (h:qaF p f=some r):∀x,p x→f x=some r:=by
 unfold qaF at h
 split at h
 ·rename_i hh
  simp only [wc] at h
  exact h▸Classical.choose_spec hh.2
 ·cases h
theorem qMy {X R:Type} {p:X→Prop} {f:X→Option R} {r:R} (x:X) (hx:p x) (h:∀x,p x→f x=some r):qaF p f=some r:=by
 have hh:(∃x,p x)∧∃r,∀x,p x→f x=some r:=⟨⟨x,hx⟩,r,h⟩
 unfold qaF
 rw [dif_pos hh]
 have:=Classical.choose_spec hh.2 x hx
 rw [h x hx] at this
 exact this.symm
theorem qLM {X R:Type} {p:X→Prop} {f:X→Option R} {r:R} (h:qaF p f=some r):∃x,p x:=by
 unfold qaF at h
 split at h
 ·rename_i hh;exact hh.1
 ·cases h
noncomputable def den {R:Type} (lf fin:Pos→Option R):Tr→Option R
 | .bit b t e=>if b=true then den lf fin t else den lf fin e
 | .safe p t=>gd p (den lf fin t)
 | .call _ v k=>v.bind fun r=>den lf fin (k r)
 | .any _ p k=>qaF p fun x=>den lf fin (k x)
 | .leaf s=>lf s
 | .ret s=>fin s
 | .dead=>none
def qSN (rows:Bool):AV→List Nat
 | .ptr _ l _=>[l]
 | .ifp _ _ l _=>[l]
 | .cslice _ l _=>[l]
 | .cptr l=>[l]
 | .func _ caps=>caps
 | .mapr l=>[l]
 | .ref _ l _ _ _=>if rows then [l] else []
 | .bref _ l _ _ _ _=>if rows then [l] else []
 | .agg t x=>if rows then qxv t x else []
 |_=>[]
def qvS (rows:Bool):Obj→List Nat
 | .box t x=>if rows then qxv t x else []
 | .cell v=>qSN rows v
 |_=>[]
def qVw (lk:qBc) (rows:Bool):Nat→List Nat→List Nat→List Nat
 |0,_,acc=>acc
 |_,[],acc=>acc
 |n+1,l::q,acc=>if acc.contains l then qVw lk rows n q acc else qVw lk rows n (q++(match lk l with
  |some o=>qvS rows o
  |none=>[])) (acc++[l])
def qvR:Nat→List Nat→List (Nat×Nat)
 |_,[]=>[]
 |n,l::r=>(n,l)::qvR (n+1) r
def qNE:List Prop→Tr→Tr
 |[],t=>t
 |p::r,t=> .safe p (qNE r t)
def qvy (g:Bool) (v:TV) (k:TV→Tr):Tr:=
 if g then match v with
  | .one (.bool b)=> .bit b (k (.one (.bool true))) (k (.one (.bool false)))
  |_=> .dead
 else k v
section
variable (P:Program) (GT:qmi) (nt:Nat) (mnz:List Nat) (tab:List (Summ P GT))
def qzR (H:qBc) (nl:Nat) (ev:Operand→TV) (op:Op) (k:Out→List Nat→Tr):Tr:=
 match op with
 | .call {callee:= .value f,args,argTypes:=_}=>match ev1 ev f,evs ev args.toList with
   |some (.func f caps),some vs0=>match qZs (qhe H (qXF ev op)) caps with
    |some cs=>match qAN f (vs0++cs) tab with
     |some S=>
      let locs:=qVw H S.rows 60 ((vs0++cs).flatMap (qSN S.rows)) []
      let ren:=qvR 0 locs
      let use:=(vs0++cs).flatMap qjj++locs.flatMap fun l=>match H l with
       |some o=>qBr o
       |none=>[]
      let L:=qXF ev op++(ren.map (·.2)++use)
      match qXe (qhe H L) ren true (vs0++cs),qGd (qhe H L) ren true ren with
      |some pv,some hl=>match qqt hl with
       |some pre=> .call S.R (S.fn ((if S.nils then pv else qnx P (qul P f) pv)) pre) fun r=>
        match qKy P GT (qhe H L) nl f (vs0++cs) ⟨(if S.nils then pv else qnx P (qul P f) pv),pre,ren,use,S.res r,S.post r,S.drop⟩ with
        |some out=>k out L
        |none=> .dead
       |none=> .dead
      |_,_=> .dead
     |none=> .dead
    |none=> .dead
   |_,_=> .dead
 |_=> .dead
def opT (ops:List Oper) (T:Nat→TV) (H:qBc) (nl i:Nat) (o:Oper) (k:Ev→Tr):Tr:=
 match qQI ops T o with
 |some false=>k ⟨.one .gone,[],[]⟩
 |none=> .dead
 |some true=>
  if qZO o.op then qzR P GT tab H nl (evT GT T) o.op fun out L=>qvy (qfE ops i) out.v fun v=>k ⟨v,out.upd,L⟩
  else match qYb P GT (evT GT T) (qhe H (qXF (evT GT T) o.op)) nl none o.type o.op with
   |some out=>qNE out.conds (qvy (qfE ops i) out.v fun v=>k ⟨v,out.upd,qXF (evT GT T) o.op⟩)
   |none=> .dead
def opN (draw:Bool) (ops:List Oper) (T:Nat→TV) (H:qBc) (nl i:Nat) (o:Oper) (k:Ev→Tr):Tr:=
 match (if draw then none else match qQI ops T o with
  |some true=>qMM P mnz (evT GT T) nl o.op
  |_=>none) with
 |some a=>qNE a.pre (.any a.R a.p fun x=>qvy (qfE ops i) (a.out x).v fun v=>k ⟨v,(a.out x).upd,[]⟩)
 |none=>opT P GT tab ops T H nl i o k
def qHN (draw:Bool) (ops:List Oper):Nat→List Oper→St→(St→List (Oper×Ev)→Tr)→Tr
 |_,[],σ,k=>k σ []
 |i,o::r,σ,k=>opN P GT mnz tab draw ops (keepT (o.looksAt ops.toArray) σ.look) (qvb σ.heap) (σ.next+8*i) i o fun e=>
  if qum nt o.dst then qHN draw ops (i+1) r (σ.put o.dst e) fun σ' tr=>k σ' ((o,e)::tr) else .dead
def qkR (P:Program):Op→Bool
 | .store T _ _=>match P.underlying T with
   |some (.slice _)=>decide (qZd P tyD T=some (.slice .bool))
   |_=>false
 |_=>false
def qXO (P:Program):Op→Bool
 | .call {callee:= .builtin .append,args:=_,argTypes}=>match argTypes.toList with
   |T::_=>decide (qvo P T=some (.pair (.int .i64) (.pair (.int .i64) (.pair (.int .i64) .unit))))
   |_=>false
 |_=>false
def qeT (P:Program) (op:Op):Bool:=qYO op||qkR P op||qXO P op
def qrS:Op→Bool
 | .indexAddr _ _ _=>true
 |_=>false
def spR (P:Program) (ops:List Oper):Bool:=ops.any (fun o=>qYO o.op||qXO P o.op)||(ops.any (fun o=>qkR P o.op)&&ops.any fun o=>qrS o.op)
def qbT (l:Nat) (h:List (Nat×Option Obj)):Bool:=h.all fun p=>match p.2 with
 |some ob=>p.1==l||!(qBr ob).contains l
 |none=>true
def qUP (σ:St) (l:Nat):Bool:=σ.tmps.all (fun p=>qQR [l] p.2)&&σ.heap.all fun p=>match p.2 with
 |some o=>okO [l] o
 |none=>true
def qTS (ops:List Oper) (σ:St) (T:Nat→TV) (H:qBc) (nl i:Nat) (o:Oper) (k:Ev→Tr):Tr:=
 match (if qeT P o.op then qQI ops T o else none) with
 |some true=>if qfE ops i then .dead else match qJG P (evT GT T) H o.op with
  |some out=>qNE out.conds (k ⟨out.v,out.upd,[]⟩)
  |none=>match qaL P (evT GT T) H o.op with
   |some (l,out)=>if qUP σ l then k ⟨out.v,out.upd,[]⟩ else .dead
   |none=>match qjG P (evT GT T) H nl o.op with
    |some (e,l,m,A,B)=>if qbT l σ.heap then match qRR e l m σ.tmps with
      |some cs=> .any Bool (fun _=>True) fun b=> .bit b (qNE cs (k ⟨A.v,A.upd,[]⟩)) (qNE B.conds (k ⟨B.v,B.upd,[]⟩))
      |none=> .dead
     else .dead
    |none=>opT P GT tab ops T H nl i o k
 |_=>opT P GT tab ops T H nl i o k
def qVF (ops:List Oper):Nat→List Oper→St→(St→Tr)→Tr
 |_,[],σ,k=>k σ
 |i,o::r,σ,k=>qTS P GT tab ops σ (keepT (o.looksAt ops.toArray) σ.look) (qvb σ.heap) (σ.next+8*i) i o fun e=>
  if qum nt o.dst then qVF ops (i+1) r (σ.put o.dst e) k else .dead
def qTo (ops:List Oper) (draw:Bool) (σ:St) (k:St→Tr):Tr:=
 if !draw&&spR P ops then qVF P GT nt tab ops 0 ops σ fun σ'=>k {σ' with next:=σ.next+8*ops.length}
 else qHN P GT nt mnz tab draw ops 0 ops σ fun σ' tr=>if !draw||qrI ops tr then k {σ' with next:=σ.next+8*ops.length} else .dead
def qnN (s:Pos) (k:Pos→Tr):Tr:=
 match s.todo with
 | .code .skip::q| .code (.label _)::q| .inBlock _::q| .inScope _::q=>k ⟨q,s.st⟩
 | .code (.scope body)::q=>k ⟨.code body:: .inScope body::q,s.st⟩
 | .code (.seq a b)::q=>k ⟨.code a:: .code b::q,s.st⟩
 | .code (.cond c x y)::q=>match evO GT s.st c with
   | .one (.bool b)=> .bit b (k ⟨.code x::q,s.st⟩) (k ⟨.code y::q,s.st⟩)
   |_=> .dead
 | .code (.block id body)::q=>k ⟨.code body:: .inBlock id::q,s.st⟩
 | .code (.loop body)::q| .inLoop body::q=>k ⟨.code body:: .inLoop body::q,s.st⟩
 | .code (.exit id)::q=>match exitTo id q with
   |some q'=>k ⟨q',s.st⟩
   |none=> .dead
 | .code (.goto l)::q=>match gotoIn l q with
   |some q'=>k ⟨q',s.st⟩
   |none=> .dead
 | .code (.region _ ops draw)::q=>qTo P GT nt mnz tab ops.toList draw s.st fun σ=>k ⟨q,σ⟩
 |_=> .dead
structure Cut where
 key:Nat×Nat
 ts:List Nat
 lo:Bool
 pre:Bool:=false
 fams:List Nat:=[]
 rows:List Nat:=[]
 parts:List Nat:=[]
def qOu:Code→Option Nat
 | .region id _ _=>some id
 | .seq a b=>match qOu a with
   |some i=>some i
   |none=>qOu b
 | .cond _ a b=>match qOu a with
   |some i=>some i
   |none=>qOu b
 | .block _ b=>qOu b
 | .loop b=>qOu b
 | .scope b=>qOu b
 |_=>none
def qpS (todo:List Item):Nat×Nat:=
 match todo with
 | .code c::q=>match qOu c with
   |some i=>(i,q.length)
   |none=>(0,0)
 |_=>(0,0)
def qoG (key:Nat×Nat):List Cut→Option Cut
 |[]=>none
 |c::r=>if c.key.1==key.1&&c.key.2==key.2 then some c else qoG key r
def keepSt (σ:St) (ts:List Nat) (lo pre:Bool):Option St:=
 let lk:=qvb σ.heap
 let locs:=qVw lk true 60 ((if pre then (List.range 8).filter fun l=>(lk l).isSome else [])++ts.flatMap fun t=>qUm (σ.look t)) []
 let ren:=(locs.filter (·<8)).map (fun l=>(l,l))++qvR 8 (locs.filter fun l=>!(l<8))
 σ.keep ts ren (8+locs.length) lo
def qsR:Option Obj→Option Obj
 |some (.row (.slice e) fr [])=>if e.flat then some (.fam e []) else some (.row (.slice e) fr [])
 |some (.row (.pair a (.pair (.slice e) .unit)) fr [])=>if a.flat&&e.flat then some (.famS a e []) else some (.row (qYr a e) fr [])
 |o=>o
def qVN (ns:List Nat):List (Nat×Option Obj)→List (Nat×Option Obj)
 |[]=>[]
 |p::r=>(if ns.contains p.1 then (p.1,qsR p.2) else p)::qVN ns r
def qdQ (σ:St) (ns:List Nat):St:=match ns with
 |[]=>σ
 |ns=>{σ with heap:=qVN ns σ.heap}
def qEQ:Obj→Option Obj
 | .famS a e xs=>some (.row (qYr a e) true (qAi xs))
 | .fam e xss=>some (.row (.slice e) true xss)
 |_=>none
def qdN (l:Nat) (o:Obj):List (Nat×Option Obj)→List (Nat×Option Obj)
 |[]=>[]
 |p::r=>if p.1=l then (l,some o)::r else p::qdN l o r
def qHw (σ:St) (l:Nat):St:=match qvb σ.heap l with
 |some o=>match qEQ o with
  |some o'=>if decide (8≤l)&&qUP σ l then {σ with heap:=qdN l o' σ.heap} else σ
  |none=>σ
 |none=>σ
def qDP (σ:St):List Nat→St
 |[]=>σ
 |l::r=>qDP (qHw σ l) r
def qUF:TV→TV
 | .one (.ref e l off n _)=> .one (.ref e l off n false)
 |v=>v
def qiL (σ:St) (ts:List Nat):St:=match ts with
 |[]=>σ
 |ts=>{σ with tmps:=σ.tmps.map fun p=>if ts.contains p.1 then (p.1,qUF p.2) else p}
def qSR (c:Cut) (s:Pos):Tr:=
 match keepSt s.st c.ts c.lo c.pre with
 |some σ=> .leaf ⟨s.todo,qiL (qDP (qdQ σ c.fams) c.rows) c.parts⟩
 |none=> .dead
def qJL (todo:List Item):Option (List Item):=
 match todo with
 | .code (.loop body)::q| .inLoop body::q=>some (.code body:: .inLoop body::q)
 | .code (.goto l)::q=>gotoIn l q
 |_=>none
def qRI (cuts:List Cut):Nat→Bool→Pos→Tr
 |0,_,_=> .dead
 |n+1,first,s=>
  match qAJ s.todo with
  |true=> .ret s
  |false=>match qJL s.todo with
   |some todo'=>match qoG (qpS todo') cuts with
    |some c=>qSR c ⟨todo',s.st⟩
    |none=>qRI cuts n false ⟨todo',s.st⟩
   |none=>match first,s.todo with
    |false, .code (.region id _ _)::q=>match qoG (id,q.length) cuts with
     |some c=>qSR c s
     |none=>qnN P GT nt mnz tab s (qRI cuts n false)
    |_,_=>qnN P GT nt mnz tab s (qRI cuts n false)
end
structure FnI (P:Program) (GT:qmi) where
 f:Nat
 cuts:List Cut
 tab:List (Summ P GT)
 fm:Fm
 mnz:List Nat:=[]
 mnzOk:∀f∈mnz,qpA P f:=by intro f h;cases h
section
variable {P:Program} {GT:qmi} (I:FnI P GT)
noncomputable def FnI.go (s:Pos) (lf:Pos→Option I.fm.R):Option I.fm.R:=
 den lf (I.fm.fin P (qCP P I.f)) (qRI P GT (qrh P I.f) I.mnz I.tab I.cuts 3000 true s)
inductive FnI.SemR (r:I.fm.R):Pos→Prop
 |mk (s:Pos) (lf:Pos→Option I.fm.R) (h:I.go s lf=some r) (hl:∀s',lf s'=some r→SemR r s'):SemR r s
open Classical in
noncomputable def FnI.sem (s:Pos):Option I.fm.R:=
 if h:∃r,I.SemR r s then some (Classical.choose h) else none
end
def Lfs {R:Type} (lf fin:Pos→Option R) (r:R):Tr→Pos→Prop
 | .bit b t e,s=>if b=true then Lfs lf fin r t s else Lfs lf fin r e s
 | .safe _ t,s=>Lfs lf fin r t s
 | .call R' v k,s=>∃x,v=some x∧Lfs lf fin r (k x) s
 | .any R' p k,s=>∃x,p x∧Lfs lf fin r (k x) s
 | .leaf s',s=>s'=s
 | .ret _,_=>False
 | .dead,_=>False
theorem qmq {R:Type} {lf fin:Pos→Option R} {r:R}:∀{t:Tr},den lf fin t=some r→∀s,Lfs lf fin r t s→lf s=some r
 | .bit b t e,h,s,hs=>by
   simp only [den] at h
   simp only [Lfs] at hs
   split at h
   ·rename_i hb;rw [if_pos hb] at hs;exact qmq h s hs
   ·rename_i hb;rw [if_neg hb] at hs;exact qmq h s hs
 | .safe p t,h,s,hs=>qmq (qAj h).2 s hs
 | .call R' v k,h,s,⟨x,hx,hs⟩=>by
   simp only [den,hx,Option.bind_some] at h
   exact qmq h s hs
 | .any R' p k,h,s,⟨x,hx,hs⟩=>qmq (qwj h x hx) s hs
 | .leaf s',h,s,hs=>by subst hs;exact h
 | .ret _,h,s,hs=>hs.elim
 | .dead,h,s,hs=>hs.elim
theorem qMA {R:Type} {lf lf' fin:Pos→Option R} {r:R}:∀{t:Tr},den lf fin t=some r→(∀s,Lfs lf fin r t s→lf' s=some r)→den lf' fin t=some r
 | .bit b t e,h,hs=>by
   simp only [den] at h ⊢
   split at h
   ·rename_i hb
    rw [if_pos hb]
    exact qMA h (fun s q=>hs s (by simp only [Lfs];rw [if_pos hb];exact q))
   ·rename_i hb
    rw [if_neg hb]
    exact qMA h (fun s q=>hs s (by simp only [Lfs];rw [if_neg hb];exact q))
 | .safe p t,h,hs=>by
   obtain ⟨hp,h⟩:=qAj h
   simp only [den]
   rw [qfa hp]
   exact qMA h hs
 | .call R' v k,h,hs=>by
   simp only [den,wib] at h ⊢
   obtain ⟨x,hx,h⟩:=h
   exact ⟨x,hx,qMA h (fun s q=>hs s ⟨x,hx,q⟩)⟩
 | .any R' p k,h,hs=>by
   simp only [den] at h ⊢
   obtain ⟨x,hx⟩:=qLM h
   exact qMy x hx (fun y hy=>qMA (qwj h y hy) (fun s q=>hs s ⟨y,hy,q⟩))
 | .leaf s',h,hs=>hs s' rfl
 | .ret _,h,hs=>h
 | .dead,h,hs=>by cases h
theorem qhu {R:Type} {lf lf' fin:Pos→Option R} {r r':R}:∀{t:Tr},den lf fin t=some r→den lf' fin t=some r'→r=r'∨∃s,lf s=some r∧lf' s=some r'
 | .bit b t e,h,h'=>by
   simp only [den] at h h'
   split at h
   ·rename_i hb;rw [if_pos hb] at h';exact qhu h h'
   ·rename_i hb;rw [if_neg hb] at h';exact qhu h h'
 | .safe p t,h,h'=>qhu (qAj h).2 (qAj h').2
 | .call R' v k,h,h'=>by
   simp only [den,wib] at h h'
   obtain ⟨x,hx,h⟩:=h
   obtain ⟨x',hx',h'⟩:=h'
   rw [hx] at hx'
   simp only [wc] at hx'
   subst hx'
   exact qhu h h'
 | .any R' p k,h,h'=>by
   simp only [den] at h h'
   obtain ⟨x,hx⟩:=qLM h
   exact qhu (qwj h x hx) (qwj h' x hx)
 | .leaf s',h,h'=> .inr ⟨s',h,h'⟩
 | .ret _,h,h'=>by
   simp only [den] at h h'
   rw [h] at h'
   exact .inl (by simpa using h')
 | .dead,h,h'=>by cases h
section
variable {P:Program} {GT:qmi} {I:FnI P GT}
theorem FnI.SemR.det {r r':I.fm.R} {s:Pos} (h:I.SemR r s):I.SemR r' s→r=r':=by
 induction h with
 |mk s lf h hl ih=>
  rintro ⟨_,lf',h',hl'⟩
  rcases qhu h h' with e|⟨s',h1,h2⟩
  ·exact e
  ·exact ih s' h1 (hl' s' h2)
theorem FnI.sem_iff {s:Pos} {r:I.fm.R}:I.sem s=some r↔I.SemR r s:=by
 unfold FnI.sem
 constructor
 ·intro h
  split at h
  ·rename_i he
   simp only [wc] at h
   exact h▸Classical.choose_spec he
  ·cases h
 ·intro h
  have he:∃r,I.SemR r s:=⟨r,h⟩
  rw [dif_pos he]
  exact congrArg some ((Classical.choose_spec he).det h)
theorem uA (s:Pos):I.sem s=I.go s I.sem:=by
 have key:∀r,I.sem s=some r↔I.go s I.sem=some r:=by
  intro r
  constructor
  ·intro h
   obtain ⟨_,lf,h,hl⟩:=FnI.sem_iff.1 h
   exact qMA h (fun s' hs=>FnI.sem_iff.2 (hl s' (qmq h s' hs)))
  ·intro h
   exact FnI.sem_iff.2 ⟨s,I.sem,h,fun s' hs=>FnI.sem_iff.1 hs⟩
 cases h:I.go s I.sem with
 |some r=>exact (key r).2 h
 |none=>
  cases h':I.sem s with
  |none=>rfl
  |some r=>rw [(key r).1 h'] at h;cases h
variable {nt:Nat} {mnz:List Nat} {tab:List (Summ P GT)} {R:Type} {lf fin:Pos→Option R} {r:R}
theorem qZl:∀{a b:List Prop},qqh a→qqh b→qqh (a++b)
 |[],_,_,h=>h
 |_::_,_,h,h'=>⟨h.1,qZl h.2 h'⟩
theorem qSn:∀{cs:List Prop} {t:Tr},den lf fin (qNE cs t)=some r→qqh cs∧den lf fin t=some r
 |[],_,h=>⟨trivial,h⟩
 |p::q,t,h=>by
  simp only [qNE,den] at h
  obtain ⟨hp,h⟩:=qAj h
  obtain ⟨h1,h2⟩:=qSn h
  exact ⟨⟨hp,h1⟩,h2⟩
theorem qoq {g:Bool} {v:TV} {k:TV→Tr} (h:den lf fin (qvy g v k)=some r):
  ∃v' c os,(∀rest,qRn g v (os++rest)=some (v',c,rest))∧qqh c∧den lf fin (k v')=some r:=by
 unfold qvy at h
 split at h
 ·rename_i hg
  split at h
  ·rename_i b
   simp only [den] at h
   split at h
   ·rename_i hb
    exact ⟨.one (.bool true),[b=true],[.bit true],fun rest=>by simp [qRn,hg],⟨hb,trivial⟩,h⟩
   ·rename_i hb
    simp only [wbb] at hb
    exact ⟨.one (.bool false),[b=false],[.bit false],fun rest=>by simp [qRn,hg],⟨hb,trivial⟩,h⟩
  ·cases h
 ·rename_i hg
  exact ⟨v,[],[],fun rest=>by simp [qRn,hg],trivial,h⟩
theorem qRr {lk lk':qBc} (hs:∀l o,lk l=some o→lk' l=some o):∀{ls:List Nat} {cs:List AV},qZs lk ls=some cs→qZs lk' ls=some cs
 |[],cs,h=>h
 |l::q,cs,h=>by
  simp only [qZs] at h ⊢
  split at h
  ·rename_i h1 h2
   rw [hs _ _ h1,qRr hs h2];exact h
  ·rename_i h1 h2
   rw [hs _ _ h1,qRr hs h2];exact h
  ·cases h
theorem qNH {ops:List Oper} {T:Nat→TV} {H:qBc} {nl i:Nat} {o:Oper} {k:Ev→Tr} (h:den lf fin (opT P GT tab ops T H nl i o k)=some r):
  ∃e c os,(∀rest,qjK P GT ops T H nl i o (os++rest)=some (e,c,rest))∧qqh c∧den lf fin (k e)=some r:=by
 unfold opT at h
 split at h
 ·rename_i hw
  exact ⟨_,[],[],fun rest=>by simp [qjK,hw],trivial,h⟩
 ·cases h
 ·rename_i hw
  split at h
  ·rename_i hcall
   unfold qzR at h
   split at h
   ·rename_i f args ats hop
    split at h
    ·rename_i f caps vs0 hf hvs
     split at h
     ·rename_i cs hcs
      split at h
      ·rename_i S hS
       simp only at h
       split at h
       ·rename_i pv hl hpv hhl
        split at h
        ·rename_i pre hpre
         simp only [den,wib] at h
         obtain ⟨x,hx,h⟩:=h
         split at h
         ·rename_i out hout
          obtain ⟨v',c,os,h1,h2,h3⟩:=qoq h
          let oc:COrc:=⟨(if S.nils then pv else qnx P (qul P f) pv),pre,qvR 0 (qVw H S.rows 60 ((vs0++cs).flatMap (qSN S.rows)) []),((vs0++cs).flatMap qjj++(qVw H S.rows 60 ((vs0++cs).flatMap (qSN S.rows)) []).flatMap fun l=>match H l with
           |some o=>qBr o
           |none=>[]),S.res x,S.post x,S.drop⟩
          refine ⟨_,c++out.conds, .call oc::os,fun rest=>?_,qZl h2 ?_,h3⟩
          ·simp only [qjK,hw,qaJ,wca]
           have ht:qRv o.op (.call oc::(os++rest))=some (some oc,os++rest):=by
            simp only [qRv,hcall,if_true]
           rw [ht]
           simp only [qhx,hop,qYb,hf,hvs]
           rw [qRr (fun l ob hlo=>?_) hcs]
           ·simp only
            rw [hop] at hout
            rw [hout]
            simp only [h1]
            rfl
           ·rw [hop] at hlo
            unfold qhe at hlo ⊢
            split at hlo
            ·rename_i hm
             simp only [wva,wba,decide_eq_true_eq] at hm ⊢
             rw [if_pos (.inl hm)];exact hlo
            ·cases hlo
          ·have hA:∀as,(if S.nils then pv else qnx P (qul P f) pv)=as→as=qnx P (qul P f) pv∨as=pv:=by
            rintro as rfl
            cases S.nils
            ·exact .inl rfl
            ·exact .inr rfl
           unfold qKy at hout
           simp only at hout
           generalize hAs:(if S.nils then pv else qnx P (qul P f) pv)=as at hout hx
           rw [hpv,hhl] at hout
           simp only at hout
           split at hout
           ·injection hout with hout;subst hout
            refine ⟨hA _ hAs,qwu hpre,?_,trivial⟩
            have:=S.ok _ _ _ hx
            rwa [qbL hS] at this
           ·cases hout
         ·cases h
        ·cases h
       ·cases h
      ·cases h
     ·cases h
    ·cases h
   ·cases h
  ·rename_i hcall
   split at h
   ·rename_i out hout
    obtain ⟨h0,h⟩:=qSn h
    obtain ⟨v',c,os,h1,h2,h3⟩:=qoq h
    refine ⟨_,c++out.conds,os,fun rest=>?_,qZl h2 h0,h3⟩
    simp only [wbb] at hcall
    simp only [qjK,hw,qaJ,qRv,hcall,qhx,wW,wN,if_false]
    rw [hout]
    simp only [h1]
   ·cases h
theorem qJN {ops:List Oper} {T:Nat→TV} {H:qBc} {nl i:Nat} {o:Oper} {k:Ev→Tr}:opN P GT mnz tab true ops T H nl i o k=opT P GT tab ops T H nl i o k:=rfl
theorem qmL {ops:List Oper}:∀{q:List Oper} {i:Nat} {σ:St} {k:St→List (Oper×Ev)→Tr},den lf fin (qHN P GT nt mnz tab true ops i q σ k)=some r→
  ∃σ' c os tr,(∀rest,qQo P GT nt ops i q σ (os++rest)=some (σ',c,rest,tr))∧qqh c∧den lf fin (k σ' tr)=some r
 |[],i,σ,k,h=>⟨σ,[],[],[],fun rest=>rfl,trivial,h⟩
 |o::q,i,σ,k,h=>by
  simp only [qHN,qJN] at h
  obtain ⟨e,c,os,h1,h2,h3⟩:=qNH h
  split at h3
  ·rename_i hd
   obtain ⟨σ',c',os',tr,g1,g2,g3⟩:=qmL h3
   refine ⟨σ',c++c',os++os',_,fun rest=>?_,qZl h2 g2,g3⟩
   rw [wB]
   simp only [qQo,h1,hd,if_true,g1]
  ·cases h3
theorem qiJ {ops:List Oper} {σ:St} {k:St→Tr} (h:den lf fin (qTo P GT nt mnz tab ops true σ k)=some r):
  ∃σ' c os,(∀rest,qPo P GT nt ops true σ (os++rest)=some (σ',c,rest))∧qqh c∧den lf fin (k σ')=some r:=by
 unfold qTo at h
 simp only [Bool.not_true,Bool.false_and,wN,if_false] at h
 obtain ⟨σ',c,os,tr,h1,h2,h3⟩:=qmL h
 split at h3
 ·rename_i hd
  refine ⟨_,c,os,fun rest=>?_,h2,h3⟩
  simp only [qPo,h1,Bool.not_true,hd,if_true]
 ·cases h3
theorem qYQ (hm:∀f∈mnz,qpA P f) {c:Cx} {T:Nat→TV} {H:qBc} {K:Kn} {a:Act} {w:World} {nl:Nat} (R0:Rel c P GT nt T H K a w) {ops:Array Oper} {i:Nat} {o:Oper} {ts:List Nat} {k:Ev→Tr}
  (h:den lf fin (opN P GT mnz tab false ops.toList (Ab.keepT ts T) H nl i o k)=some r) (hdk:∀e,den lf fin (k e)=some r→qum nt o.dst=true)
  (hf:∀l,nl≤l→l<nl+8→K l=none) {next:Act→World→Prop} {Q:Exit→Act→World→Prop}
  (hn:∀e a' w' K',den lf fin (k e)=some r→Rel c P GT nt (qYy T o.dst e.v) (qJb H e.upd) K' a' w'→(∀l,K' l=K l∨(nl≤l∧l<nl+8))→(∀l gh,K l=some gh→K' l=some gh)→next a' w'):
  (if wtb o (yielded ops a.tmps) then o.wp P a w next Q∨(o.asks P a w∧LetsOut Q) else next (a.put o.dst undef) w):=by
 unfold opN at h
 split at h
 ·rename_i y hy
  simp only [wN,if_false] at hy
  split at hy
  ·rename_i hw
   rw [qMj R0 hw]
   simp only [if_true]
   refine .inl ?_
   obtain ⟨h0,h⟩:=qSn h
   simp only [den] at h
   have A:At c P GT H (qhe H []) K w (Ab.evT GT (Ab.keepT ts T)) a.eval nl:=
    ⟨R0.inv,qml,fun x=>R0.keepT ts x,hf,R0.ng,R0.glob,R0.gng⟩
   refine qnC (qbF A hm hy h0) ?_
   rintro u w' ⟨x,hx,K',S,hu⟩
   obtain ⟨v',c',os,h1,h2,h3⟩:=qoq (qwj h x hx)
   have hv:TVRd w' (NN c (qJb H (y.out x).upd) K' w') K' v' u:=by
    have hdec:=h1 []
    unfold qRn at hdec
    split at hdec
    ·split at hdec
     ·rename_i b c'' os'' hb hos
      simp only [wc,wk] at hdec
      obtain ⟨rfl,rfl,_⟩:=hdec
      rw [hb] at hu
      have:b=c'':=h2.1
      rw [←this];exact hu
     ·cases hdec
    ·simp only [wc,wk] at hdec
     obtain ⟨rfl,rfl,_⟩:=hdec
     exact hu
   exact hn _ _ _ K' h3 (R0.put S hv (hdk _ h3)) S.fresh S.keep.k
  ·cases hy
 ·obtain ⟨e,c',os,h1,h2,h3⟩:=qNH h
  exact qhC R0 (h1 []) h2 (hdk e h3) hf (fun a' w' K' R' q1 q2=>hn e a' w' K' h3 R' q1 q2)
theorem qlL (hm:∀f∈mnz,qpA P f) {c:Cx} {ops:Array Oper} {Q:Exit→Act→World→Prop} {n0:Nat}:∀(q:List Oper) (i:Nat) (σ:St) (k:St→List (Oper×Ev)→Tr) (K:Kn) (a:Act) (w:World),
  den lf fin (qHN P GT nt mnz tab false ops.toList i q σ k)=some r→ops.toList.drop i=q→i+q.length=ops.size→σ.next=n0→Rel c P GT nt σ.look (qvb σ.heap) K a w→(∀l,n0+8*i≤l→K l=none)→
  (∀σ' tr a' w' K',den lf fin (k σ' tr)=some r→σ'.next=n0→Rel c P GT nt σ'.look (qvb σ'.heap) K' a' w'→(∀l,n0+8*ops.size≤l→K' l=none)→(∀l gh,K l=some gh→K' l=some gh)→Q .normal a' w')→
  wpOps P ops Q (web i q.length) a w
 |[],i,σ,k,K,a,w,h,hr,hi,hn,R0,hf,hQ=>by
  simp only [wX] at hi
  exact hQ σ [] a w K h hn R0 (fun l hl=>hf l (by omega)) (fun _ _ h=>h)
 |o::q,i,σ,k,K,a,w,h,hr,hi,hn,R0,hf,hQ=>by
  simp only [qHN] at h
  have hoi:ops[i]?=some o:=by
   rw [←wla,←List.head?_drop,hr];rfl
  have hr2:ops.toList.drop (i+1)=q:=by
   rw [←List.tail_drop,hr];rfl
  rw [wz,List.range'_succ,wpOps_cons]
  unfold wpOp
  rw [hoi]
  refine qYQ hm R0 h (fun e he=>?_) (fun l h1 h2=>hf l (by omega)) ?_
  ·split at he
   ·assumption
   ·cases he
  ·intro e a' w' K' he R' hk hmn
   rw [qps,qEo (dst:=o.dst)] at R'
   split at he
   ·refine qlL hm q (i+1) (σ.put o.dst e) _ K' a' w' he hr2 (by simp only [wz] at hi;omega) hn R' (fun l hl=>?_) (fun σ' tr a'' w'' K'' g1 g2 R'' h1 h2=>hQ σ' _ a'' w'' K'' g1 g2 R'' h1 (fun l gh hl=>h2 l gh (hmn l gh hl)))
    rcases hk l with h1|h1
    ·rw [h1];exact hf l (by omega)
    ·omega
   ·cases he
theorem qID {σ:St} {l:Nat} (h:qUP σ l=true) (t:Nat):qQR [l] (σ.look t)=true:=by
 unfold qUP at h
 simp only [wA] at h
 unfold St.look
 split
 ·rename_i v hv
  exact wwa.1 h.1 (t,v) (qlc hv)
 ·rfl
theorem qPH {σ:St} {l:Nat} (h:qUP σ l=true) {x:Nat} {ob:Obj} (hx:qvb σ.heap x=some ob):okO [l] ob=true:=by
 unfold qUP at h
 simp only [wA] at h
 unfold qvb at hx
 split at hx
 ·rename_i o hv
  subst hx
  exact wwa.1 h.2 (x,some ob) (qlc hv)
 ·cases hx
theorem qjx {c:Cx} {ops:Array Oper} {n0:Nat} (b:Frame) (cs:List Frame) (todo:List Item):∀(q:List Oper) (i:Nat) (σ:St) (k:St→Tr) (K:Kn) (a:Act) (w:World),
  den lf fin (qVF P GT nt tab ops.toList i q σ k)=some r→ops.toList.drop i=q→i+q.length=ops.size→σ.next=n0→Rel c P GT nt σ.look (qvb σ.heap) K a w→(∀l,n0+8*i≤l→K l=none)→
  ∃σ' K' a' w',den lf fin (k σ')=some r∧σ'.next=n0∧Rel c P GT nt σ'.look (qvb σ'.heap) K' a' w'∧(∀l,n0+8*ops.size≤l→K' l=none)∧(∀l gh,l<8→K l=some gh→K' l=some gh)∧
   Steps P (lone (b.at a (.inRegion ops (web i q.length)::todo)) cs w) (lone (b.at a' todo) cs w')
 |[],i,σ,k,K,a,w,h,hr,hi,hn,R0,hf=>by
  simp only [wX] at hi
  exact ⟨σ,K,a,w,h,hn,R0,fun l hl=>hf l (by omega),fun _ _ _ h=>h, .one step_region_end⟩
 |o::q,i,σ,k,K,a,w,h,hr,hi,hn,R0,hf=>by
  simp only [qVF] at h
  have hoi:ops[i]?=some o:=by
   rw [←wla,←List.head?_drop,hr];rfl
  have hr2:ops.toList.drop (i+1)=q:=by
   rw [←List.tail_drop,hr];rfl
  rw [wz,List.range'_succ]
  have fin':∀(e:Ev) (a':Act) (w':World) (K':Kn),den lf fin (if qum nt o.dst then qVF P GT nt tab ops.toList (i+1) q (σ.put o.dst e) k else .dead)=some r→Rel c P GT nt (qYy σ.look o.dst e.v) (qJb (qvb σ.heap) e.upd) K' a' w'→
    (∀l,σ.next+8*i+8≤l→K' l=none)→(∀l gh,l<8→K l=some gh→K' l=some gh)→
    Steps P (lone (b.at a (.inRegion ops (i::web (i+1) q.length)::todo)) cs w) (lone (b.at a' (.inRegion ops (web (i+1) q.length)::todo)) cs w')→
    ∃σ' K' a' w',den lf fin (k σ')=some r∧σ'.next=n0∧Rel c P GT nt σ'.look (qvb σ'.heap) K' a' w'∧(∀l,n0+8*ops.size≤l→K' l=none)∧(∀l gh,l<8→K l=some gh→K' l=some gh)∧
     Steps P (lone (b.at a (.inRegion ops (i::web (i+1) q.length)::todo)) cs w) (lone (b.at a' todo) cs w'):=by
   intro e a' w' K' he R' hk hmn hs
   rw [qps,qEo (dst:=o.dst)] at R'
   split at he
   ·obtain ⟨σ2,K2,a2,w2,g1,g2,g3,g4,g5,g6⟩:=qjx b cs todo q (i+1) (σ.put o.dst e) k K' a' w' he hr2 (by simp only [wz] at hi;omega) hn R' (fun l hl=>hk l (by omega))
    exact ⟨σ2,K2,a2,w2,g1,g2,g3,g4,fun l gh h8 hl=>g5 l gh h8 (hmn l gh h8 hl),hs.trans g6⟩
   ·cases he
  have hfr:∀l,σ.next+8*i≤l→l<σ.next+8*i+8→K l=none:=fun l h1 _=>hf l (by omega)
  have new_of:∀(K':Kn),(∀l,K' l=K l∨(σ.next+8*i≤l∧l<σ.next+8*i+8))→∀l,σ.next+8*i+8≤l→K' l=none:=fun K' hk l hl=>by
   rcases hk l with h1|h1
   ·rw [h1];exact hf l (by omega)
   ·omega
  have usual:den lf fin (opT P GT tab ops.toList (keepT (o.looksAt ops.toList.toArray) σ.look) (qvb σ.heap) (σ.next+8*i) i o fun e=>
    if qum nt o.dst then qVF P GT nt tab ops.toList (i+1) q (σ.put o.dst e) k else .dead)=some r→
    ∃σ' K' a' w',den lf fin (k σ')=some r∧σ'.next=n0∧Rel c P GT nt σ'.look (qvb σ'.heap) K' a' w'∧(∀l,n0+8*ops.size≤l→K' l=none)∧(∀l gh,l<8→K l=some gh→K' l=some gh)∧
     Steps P (lone (b.at a (.inRegion ops (i::web (i+1) q.length)::todo)) cs w) (lone (b.at a' todo) cs w'):=fun h=>by
   obtain ⟨e,c',os,h1,h2,h3⟩:=qNH h
   have hd:qum nt o.dst=true:=by
    split at h3
    ·assumption
    ·cases h3
   have hwp:=qhC (next:=fun a' w'=>∃K',Rel c P GT nt (qYy σ.look o.dst e.v) (qJb (qvb σ.heap) e.upd) K' a' w'∧(∀l,K' l=K l∨(σ.next+8*i≤l∧l<σ.next+8*i+8))∧(∀l gh,K l=some gh→K' l=some gh)) (Q:=fun _ _ _=>False) R0 (h1 []) h2 hd hfr (fun a' w' K' R' q1 q2=>⟨K',R',q1,q2⟩)
   obtain ⟨a',w',⟨K',R',q1,q2⟩,hst⟩:=qsB (rest:=web (i+1) q.length) hoi hwp b todo cs
   exact fin' e a' w' K' h3 R' (new_of K' q1) (fun l gh _ hl=>q2 l gh hl) hst
  unfold qTS at h
  split at h
  ·rename_i hw
   split at hw
   ·split at h
    ·cases h
    ·split at h
     ·rename_i out hout
      obtain ⟨h0,h⟩:=qSn h
      have A:At c P GT (qvb σ.heap) (qvb σ.heap) K w (Ab.evT GT (Ab.keepT (o.looksAt ops.toList.toArray) σ.look)) a.eval (σ.next+8*i):=
       ⟨R0.inv,fun _ _ h=>h,fun x=>R0.keepT _ x,hfr,R0.ng,R0.glob,R0.gng⟩
      obtain ⟨v,w',⟨K',S,hv⟩,hst⟩:=qBM (rest:=web (i+1) q.length) hoi (qMj R0 hw) (qTJ A hout h0) b todo cs
      have hd:qum nt o.dst=true:=by
       split at h
       ·assumption
       ·cases h
      exact fin' _ _ _ K' h (R0.put S hv hd) (new_of K' S.fresh) (fun l gh _ hl=>S.keep.k l gh hl) (.one hst)
     ·split at h
      ·rename_i l out hout
       split at h
       ·rename_i hok
        have A:At c P GT (qvb σ.heap) (qvb σ.heap) K w (Ab.evT GT (Ab.keepT (o.looksAt ops.toList.toArray) σ.look)) a.eval (σ.next+8*i):=
         ⟨R0.inv,fun _ _ h=>h,fun x=>R0.keepT _ x,hfr,R0.ng,R0.glob,R0.gng⟩
        obtain ⟨h8,hdo⟩:=qYK A hout (fun x ob hx _=>qPH hok hx)
        have hd:qum nt o.dst=true:=by
         split at h
         ·assumption
         ·cases h
        have hwp:=qnC (next:=fun a' w'=>∃K',Rel c P GT nt (qYy σ.look o.dst out.v) (qJb (qvb σ.heap) out.upd) K' a' w'∧Chg (·∈[l]) K K') (Q:=fun _ _ _=>False) hdo (fun v w' ⟨K',S,hv⟩=>⟨K',R0.putC S hv hd (qID hok),S.chg⟩)
        obtain ⟨a',w',⟨K',R',q1⟩,hst⟩:=qsB (rest:=web (i+1) q.length) hoi (by rw [qMj R0 hw,if_pos rfl];exact .inl hwp) b todo cs
        refine fin' _ a' w' K' h R' (fun l' hl'=>?_) (fun l' gh hl' hK=>?_) hst
        ·rcases q1 l' with h1|⟨_,_,_,_,_,_,h1,_⟩
         ·rw [h1];exact hf l' (by omega)
         ·rw [hf l' (by omega)] at h1;cases h1
        ·rcases q1 l' with h1|⟨h1,_⟩
         ·rw [h1];exact hK
         ·rw [wU.1 h1] at hl';omega
       ·cases h
      ·split at h
       ·rename_i e l m oA oB hout
        split at h
        ·rename_i hoks
         split at h
         ·rename_i gs hgs
          simp only [den] at h
          have hA:=qwj h true trivial
          have hB:=qwj h false trivial
          simp only [if_true] at hA
          simp only [wN,if_false] at hB
          obtain ⟨ha0,hA⟩:=qSn hA
          obtain ⟨hb0,hB⟩:=qSn hB
          have A:At c P GT (qvb σ.heap) (qvb σ.heap) K w (Ab.evT GT (Ab.keepT (o.looksAt ops.toList.toArray) σ.look)) a.eval (σ.next+8*i):=
           ⟨R0.inv,fun _ _ h=>h,fun x=>R0.keepT _ x,hfr,R0.ng,R0.glob,R0.gng⟩
          obtain ⟨h8,hdo⟩:=qCJ A hout hb0 (fun x ob hx hne=>by
           unfold qvb at hx
           split at hx
           ·rename_i o1 hv
            subst hx
            have:=wwa.1 hoks (x,some ob) (qlc hv)
            simp only [Bool.or_eq_true,beq_iff_eq,wRa,wva,decide_eq_false_iff_not] at this
            exact this.resolve_left hne
           ·cases hx)
          have hd:qum nt o.dst=true:=by
           split at hA
           ·assumption
           ·cases hA
          have hlook:∀{K':Kn} {w':World},StpL c (qvb σ.heap) K w oA.upd l K' w'→Grown K K' e l m→∀t u,TVRd w (NN c (qvb σ.heap) K w) K (σ.look t) u→TVRd w' (NN c (qJb (qvb σ.heap) oA.upd) K' w') K' (σ.look t) u:=fun S hg t u hr=>by
           unfold St.look at hr ⊢
           split at hr
           ·rename_i v hv
            obtain ⟨a1,h1,h2⟩:=qQH hgs ha0 (t,v) (qlc hv)
            exact qZQ S.same S.keep hg h1 h2 hr
           ·trivial
          have hwp:=qnC (next:=fun a' w'=>∃e' K',(den lf fin (if qum nt o.dst then qVF P GT nt tab ops.toList (i+1) q (σ.put o.dst e') k else .dead)=some r∧Rel c P GT nt (qYy σ.look o.dst e'.v) (qJb (qvb σ.heap) e'.upd) K' a' w')∧(∀l,σ.next+8*i+8≤l→K' l=none)∧(∀l gh,l<8→K l=some gh→K' l=some gh)) (Q:=fun _ _ _=>False) hdo (fun v w' hv=>by
           rcases hv with ⟨K',S,hg,hv⟩|⟨K',S,hv⟩
           ·refine ⟨⟨oA.v,oA.upd,[]⟩,K',⟨hA,R0.putL S hv hd (hlook S hg)⟩,fun l' hl'=>?_,fun l' gh hl' hK=>?_⟩
            ·by_cases e1:l'=l
             ·subst e1
              obtain ⟨_,_,h1,_⟩:=hg.at_
              rw [hf l' (by omega)] at h1;cases h1
             ·rw [S.same l' e1];exact hf l' (by omega)
            ·rw [S.same l' (by omega)];exact hK
           ·exact ⟨⟨oB.v,oB.upd,[]⟩,K',⟨hB,R0.put S hv hd⟩,new_of K' S.fresh,fun l' gh _ hl=>S.keep.k l' gh hl⟩)
          obtain ⟨a',w',⟨e',K',⟨he',R'⟩,q1,q2⟩,hst⟩:=qsB (rest:=web (i+1) q.length) hoi (by rw [qMj R0 hw,if_pos rfl];exact .inl hwp) b todo cs
          exact fin' e' a' w' K' he' R' q1 q2 hst
         ·cases h
        ·cases h
       ·exact usual h
   ·cases hw
  ·exact usual h
def Leads (P:Program) (GT:qmi) (nt:Nat) (Q:Pos→Prop) (s:Pos):Prop:=
 ∀(c:Cx) (K:Kn) (a:Act) (w:World) (b:Frame) (cs:List Frame),RelS c P GT nt s.st K a w→
  ∃s' K' a' w',Q s'∧RelS c P GT nt s'.st K' a' w'∧(∀l gh,l<8→K l=some gh→K' l=some gh)∧Steps P (lone (b.at a s.todo) cs w) (lone (b.at a' s'.todo) cs w')
theorem Leads.of {Q:Pos→Prop} {s s':Pos} (h:Reach P GT nt s s') (hq:Q s'):Leads P GT nt Q s:=by
 intro c K a w b cs R0
 obtain ⟨K',a',w',h1,h2,h3⟩:=h c K a w b cs R0
 exact ⟨s',K',a',w',hq,h1,h2,h3⟩
theorem Leads.bind {Q Q':Pos→Prop} {s:Pos} (h:Leads P GT nt Q s) (hq:∀s',Q s'→Leads P GT nt Q' s'):Leads P GT nt Q' s:=by
 intro c K a w b cs R0
 obtain ⟨s1,K1,a1,w1,h1,h2,h3,h4⟩:=h c K a w b cs R0
 obtain ⟨s2,K2,a2,w2,g1,g2,g3,g4⟩:=hq s1 h1 c K1 a1 w1 b cs h2
 exact ⟨s2,K2,a2,w2,g1,g2,fun l gh hl hk=>g3 l gh hl (h3 l gh hl hk),h4.trans g4⟩
theorem qhH (hm:P.follows .mixedOrders=true) (hz:∀f∈mnz,qpA P f) {s:Pos} {k:Pos→Tr} (h:den lf fin (qnN P GT nt mnz tab s k)=some r):Leads P GT nt (fun s'=>den lf fin (k s')=some r) s:=by
 obtain ⟨todo,σ⟩:=s
 unfold qnN at h
 have go:∀{s':Pos} {os:List Orc} {c:List Prop},qCq P GT nt ⟨todo,σ⟩ os=some (s',c,[])→qqh c→den lf fin (k s')=some r→Leads P GT nt (fun s'=>den lf fin (k s')=some r) ⟨todo,σ⟩:=fun h1 h2 h3=> .of (qel hm h1 h2) h3
 split at h
 ·rename_i q hk;simp only at hk;subst hk
  exact go (os:=[]) (c:=[]) rfl trivial h
 ·rename_i q hk;simp only at hk;subst hk
  exact go (os:=[]) (c:=[]) rfl trivial h
 ·rename_i q hk;simp only at hk;subst hk
  exact go (os:=[]) (c:=[]) rfl trivial h
 ·rename_i q hk;simp only at hk;subst hk
  exact go (os:=[]) (c:=[]) rfl trivial h
 ·rename_i q hk;simp only at hk;subst hk
  exact go (os:=[]) (c:=[]) rfl trivial h
 ·rename_i q hk;simp only at hk;subst hk
  exact go (os:=[]) (c:=[]) rfl trivial h
 ·rename_i x y q hk;simp only at hk;subst hk
  split at h
  ·rename_i b hb
   simp only at hb
   simp only [den] at h
   split at h
   ·rename_i hbt
    exact go (os:=[.bit true]) (c:=[b=true]) (by simp only [qCq,hb,if_true]) ⟨hbt,trivial⟩ h
   ·rename_i hbt
    simp only [wbb] at hbt
    exact go (os:=[.bit false]) (c:=[b=false]) (by simp only [qCq,hb,wN,if_false]) ⟨hbt,trivial⟩ h
  ·cases h
 ·rename_i q hk;simp only at hk;subst hk
  exact go (os:=[]) (c:=[]) rfl trivial h
 ·rename_i q hk;simp only at hk;subst hk
  exact go (os:=[]) (c:=[]) rfl trivial h
 ·rename_i q hk;simp only at hk;subst hk
  exact go (os:=[]) (c:=[]) rfl trivial h
 ·rename_i q hk;simp only at hk;subst hk
  split at h
  ·rename_i q' he
   exact go (os:=[]) (c:=[]) (by simp only [qCq,he]) trivial h
  ·cases h
 ·rename_i q hk;simp only at hk;subst hk
  split at h
  ·rename_i q' he
   exact go (os:=[]) (c:=[]) (by simp only [qCq,he]) trivial h
  ·cases h
 ·rename_i id ops draw q hk;simp only at hk;subst hk
  cases draw with
  |true=>
   obtain ⟨σ',c,os,h1,h2,h3⟩:=qiJ h
   have h1':=h1 []
   rw [wW] at h1'
   exact go (os:=os) (c:=c) (by simp only [qCq];rw [h1']) h2 h3
  |false=>
   intro c K a w b cs R0
   unfold qTo at h
   split at h
   ·obtain ⟨σ2,K2,a2,w2,g1,g2,g3,g4,g5,g6⟩:=qjx (n0:=σ.next) b cs q ops.toList 0 σ _ K a w h (by simp) (by simp) rfl R0.rel (fun l hl=>R0.fresh l (by omega))
    refine ⟨⟨q,{σ2 with next:=σ.next+8*ops.toList.length}⟩,K2,a2,w2,g1,⟨g3,fun l hl=>g4 l (by simpa using hl)⟩,fun l gh h8 hl=>g5 l gh h8 hl,?_⟩
    refine .head step_region ?_
    rw [List.range_eq_range']
    simpa using g6
   have hwp:(Code.region id ops false).wp P (fun e a' w'=>e= .normal∧∃σ' K',den lf fin (k ⟨q,σ'⟩)=some r∧RelS c P GT nt σ' K' a' w'∧(∀l gh,K l=some gh→K' l=some gh)) a w:=by
    refine wp_region ?_
    have:=qlL hz (Q:=fun e a' w'=>e= .normal∧∃σ' K',den lf fin (k ⟨q,σ'⟩)=some r∧RelS c P GT nt σ' K' a' w'∧(∀l gh,K l=some gh→K' l=some gh)) (n0:=σ.next) ops.toList 0 σ _ K a w h (by simp) (by simp) rfl R0.rel (fun l hl=>R0.fresh l (by omega)) (fun σ' tr a' w' K' g1 g2 R' g3 g4=>?_)
    ·rw [List.range_eq_range']
     simpa using this
    ·simp only [Bool.not_false,Bool.true_or,if_true] at g1
     exact ⟨rfl,{σ' with next:=σ.next+8*ops.toList.length},K',g1,⟨R',fun l hl=>g3 l (by simpa using hl)⟩,g4⟩
   obtain ⟨e,a',w',⟨rfl,σ',K',g1,R',hk⟩,harr⟩:=hwp b q cs
   exact ⟨⟨q,σ'⟩,K',a',w',g1,R',fun l gh _ hl=>hk l gh hl,harr⟩
 ·cases h
theorem qfQ {w:World} {N:Bool→Nat→Prop} {K:Kn} {o:Option Obj} {ob:Obj} {gh:Gh} (h:qsR o=some ob):(∀o0,o=some o0→ORd w N K o0 gh)→∃o0,o=some o0∧ORd w N K ob gh:=by
 intro hr
 unfold qsR at h
 split at h
 ·rename_i e fr
  split at h
  ·rename_i hf
   simp only [wc] at h;subst h
   refine ⟨_,rfl,?_⟩
   obtain ⟨h1,h2⟩:=hr _ rfl
   refine ⟨hf,[],h1,⟨fun i j p q hi=>by simp at hi,fun p q _ hq=>by simp at hq⟩,?_⟩
   revert h2
   cases gh.pl with
   |none=>exact fun _=>⟨rfl,rfl⟩
   |some p=>
    rintro ⟨cs,g1,g2⟩
    simp only [Cat] at g2;subst g2
    exact ⟨[],g1,rfl,rfl⟩
  ·simp only [wc] at h;subst h
   exact ⟨_,rfl,hr _ rfl⟩
 ·rename_i a e fr
  split at h
  ·rename_i hf
   simp only [wA] at hf
   simp only [wc] at h;subst h
   refine ⟨_,rfl,?_⟩
   obtain ⟨h1,h2⟩:=hr _ rfl
   refine ⟨hf.1,hf.2,[],h1,⟨fun i j p q hi=>by simp at hi,fun p q _ hq=>by simp at hq⟩,?_⟩
   revert h2
   cases gh.pl with
   |none=>exact fun _=>⟨rfl,rfl⟩
   |some p=>
    rintro ⟨cs,g1,g2⟩
    simp only [Cat] at g2;subst g2
    exact ⟨[],g1,rfl,rfl⟩
  ·simp only [wc] at h;subst h
   exact ⟨_,rfl,hr _ rfl⟩
 ·subst h;exact ⟨ob,rfl,hr ob rfl⟩
theorem qwE {ns:List Nat}:∀{h:List (Nat×Option Obj)} {l:Nat},lookL (qVN ns h) l=(if ns.contains l then (lookL h l).map qsR else lookL h l)
 |[],l=>by simp [qVN,lookL]
 |(a,b)::r,l=>by
  simp only [qVN]
  by_cases hl:a=l
  ·subst hl
   by_cases hc:ns.contains a=true
   ·simp only [hc,if_true,lookL,wCa]
   ·simp only [wbb] at hc;simp only [hc,wN,if_false,lookL,if_true]
  ·have ih:=qwE (ns:=ns) (h:=r) (l:=l)
   by_cases hc:ns.contains a=true
   ·simp only [hc,if_true,lookL,hl,if_false];exact ih
   ·simp only [wbb] at hc;simp only [hc,wN,if_false] at ih ⊢;simp only [lookL,hl,if_false];exact ih
theorem qqG {σ:St} {ns:List Nat} (todo:List Item):Reach P GT nt ⟨todo,σ⟩ ⟨todo,qdQ σ ns⟩:=by
 intro c K a w b cs R0
 refine ⟨K,a,w,?_,fun l gh _ hk=>hk,Steps.refl _ _⟩
 unfold qdQ
 split
 ·exact R0
 ·have hH:∀l o,qvb (qVN ns σ.heap) l=some o→(∃o0,qvb σ.heap l=some o0)∧∀(w:World) (N:Bool→Nat→Prop) (gh:Gh),(∀o0,qvb σ.heap l=some o0→ORd w N K o0 gh)→ORd w N K o gh:=by
   intro l o hl
   unfold qvb at hl ⊢
   rw [qwE] at hl
   by_cases hc:ns.contains l=true
   ·simp only [hc,if_true] at hl
    cases hx:lookL σ.heap l with
    |none=>rw [hx] at hl;cases hl
    |some x=>
     rw [hx] at hl
     simp only [wCa] at hl
     refine ⟨?_,fun w N gh h=>?_⟩
     ·cases x with
      |none=>simp [qsR] at hl
      |some o0=>exact ⟨o0,rfl⟩
     ·obtain ⟨_,_,h2⟩:=qfQ hl (fun o0 ho=>h o0 (by rw [ho]))
      exact h2
   ·simp only [hc] at hl
    simp only [wN,if_false] at hl
    exact ⟨⟨o,hl⟩,fun w N gh h=>h o hl⟩
  have hlive:∀b,qqc (qvb (qVN ns σ.heap)) K b→qqc (qvb σ.heap) K b:=by
   rintro b ⟨l,o,gh,p,h1,h2⟩
   obtain ⟨⟨o0,h0⟩,_⟩:=hH l o h1
   exact ⟨l,o0,gh,p,h0,h2⟩
  have hN:∀fr b,NN c (qvb σ.heap) K w fr b→NN c (qvb (qVN ns σ.heap)) K w fr b:=fun fr b hb=>⟨hb.1,fun hn=>hb.2.1 (hlive b hn),hb.2.2⟩
  have hk:KeepK w w (NN c (qvb σ.heap) K w) (NN c (qvb (qVN ns σ.heap)) K w) K K:=⟨fun fr=>⟨fun b hb=>⟨hN fr b hb,rfl⟩⟩,fun _ _ h=>h⟩
  refine ⟨⟨⟨fun l o hl=>?_,fun l o gh p h1 h2 h3=>?_,fun l l' o o' gh gh' p p' h1 h2 h3 h4 h5 h6 h7=>?_,R0.rel.inv.fr⟩,fun t=>(R0.rel.tmps t).keep hk,R0.rel.size,R0.rel.defers,R0.rel.ng,R0.rel.gng,R0.rel.glob⟩,R0.fresh⟩
  ·obtain ⟨⟨o0,h0⟩,h1⟩:=hH l o hl
   obtain ⟨gh,g1,g2⟩:=R0.rel.inv.objs l o0 h0
   exact ⟨gh,g1,h1 _ _ _ (fun o1 ho=>by rw [h0] at ho;injection ho with ho;subst ho;exact g2.keep hk (fun _ _=>rfl))⟩
  ·obtain ⟨⟨o0,h0⟩,_⟩:=hH l o h1
   exact R0.rel.inv.own l o0 gh p h0 h2 h3
  ·obtain ⟨⟨o0,h0⟩,_⟩:=hH l o h1
   obtain ⟨⟨o0',h0'⟩,_⟩:=hH l' o' h2
   exact R0.rel.inv.inj l l' o0 o0' gh gh' p p' h0 h0' h3 h4 h5 h6 h7
theorem qfD {l:Nat} {o:Obj}:∀{h:List (Nat×Option Obj)} {x:Nat},(lookL h l).isSome→lookL (qdN l o h) x=if l=x then some (some o) else lookL h x
 |[],x,h=>by simp [lookL] at h
 |(a,b)::r,x,h=>by
  simp only [qdN]
  by_cases h1:a=l
  ·subst h1
   simp only [if_true,lookL]
   by_cases h2:a=x <;> simp [h2]
  ·simp only [h1,if_false,lookL] at h ⊢
   by_cases h2:a=x
   ·subst h2;simp [wJa h1]
   ·simp only [h2,if_false]
    exact qfD h
theorem qdD {w:World} {N:Nat→Prop} {e:Ty} {p:Option Plc} {v:Value} {xs:List (pden e)} (h:Slot w e p v xs) (hf:e.flat=true) (hN:∀q,p=some q→N q.blk):PRd w N (.slice e) xs [v]:=by
 cases p with
 |none=>obtain ⟨rfl,rfl⟩:=h;exact ⟨none,0,rfl,ws _, .inl rfl⟩
 |some p=>
  obtain ⟨o,cap,cl,rfl,h2,h3,h4,h5⟩:=h
  refine ⟨_,cap,rfl,h2,?_⟩
  rcases h3 with h3|⟨rfl,_⟩
  ·subst h3
   exact .inl (List.length_eq_zero_iff.1 (by omega))
  ·exact .inr ⟨p.blk,p.ob,cl,rfl,hN p rfl,h4.cells,h5.imp (fun _ _ q=>q.flat hf)⟩
theorem qkI {w:World} {N:Nat→Prop} {e:Ty} (hf:e.flat=true):∀{xss:List (List (pden e))} {ps:List (Nat×Option Plc)} {cs:List Value},FamRd w e xss ps cs→(∀q,some q∈ps.map (·.2)→N q.blk)→Cat (PRd w N (.slice e)) xss cs
 |[],_,_,h,_=>h.2
 |xs::r,_,_,h,hN=>by
  obtain ⟨p,ps',v,cs',rfl,rfl,h1,h2⟩:=h
  have hs:Slot w e p v xs:=by cases p <;> exact h1
  exact ⟨[v],cs',rfl,qdD hs hf (fun q hq=>hN q (by rw [hq];simp)),qkI hf h2 (fun q hq=>hN q (wO _ hq))⟩
theorem qvE {w:World} {N:Nat→Prop} {a e:Ty} (ha:a.flat=true) (hf:e.flat=true):∀{xs:List (pden a×List (pden e))} {ps:List (Nat×Option Plc)} {cs:List Value},FamSRd w a e xs ps cs→(∀q,some q∈ps.map (·.2)→N q.blk)→Cat (PRd w N (qYr a e)) (qAi xs) cs
 |[],_,_,h,_=>h.2
 |x::r,_,_,h,hN=>by
  obtain ⟨p,ps',c,v,cs',rfl,rfl,h0,h1,h2⟩:=h
  exact ⟨c++[v],cs',by simp,⟨c,[v],rfl,h0.flat ha,[v],[],rfl,qdD h1 hf (fun q hq=>hN q (by rw [hq];simp)),rfl⟩,qvE ha hf h2 (fun q hq=>hN q (wO _ hq))⟩
theorem qEP {c:Cx} {H:qBc} {K:Kn} {w:World} {o o':Obj} {gh:Gh} (h:qEQ o=some o') (ho:ORd w (NN c H K w) K o gh):∃t n ps,gh.sh= .row t n ps∧∀(N:Bool→Nat→Prop) (K':Kn),(∀q,some q∈ps.map (·.2)→N true q.blk)→ORd w N K' o' ⟨.row t n [],gh.pl⟩:=by
 unfold qEQ at h
 split at h
 ·rename_i a e xs
  simp only [wc] at h;subst h
  obtain ⟨ha,hf,ps,h1,_,h2⟩:=ho
  refine ⟨_,_,ps,h1,fun N K' hN=>?_⟩
  cases hp:gh.pl with
  |none=>rw [hp] at h2;obtain ⟨rfl,rfl⟩:=h2;exact ⟨rfl,rfl⟩
  |some p=>
   rw [hp] at h2
   obtain ⟨cs,h3,h4⟩:=h2
   exact ⟨by simp [qAi],cs,h3,qvE ha hf h4 hN⟩
 ·rename_i e xss
  simp only [wc] at h;subst h
  obtain ⟨hf,ps,h1,_,h2⟩:=ho
  refine ⟨_,_,ps,h1,fun N K' hN=>?_⟩
  cases hp:gh.pl with
  |none=>rw [hp] at h2;obtain ⟨rfl,rfl⟩:=h2;exact ⟨rfl,rfl⟩
  |some p=>
   rw [hp] at h2
   obtain ⟨cs,h3,h4⟩:=h2
   exact ⟨rfl,cs,h3,qkI hf h4 hN⟩
 ·cases h
theorem qbJ {c:Cx} {H:qBc} {K:Kn} {w:World} {o o':Obj} {gh:Gh} (h:qEQ o=some o') (ho:ORd w (NN c H K w) K o gh):Apart gh.pl gh.sh.ex:=by
 unfold qEQ at h
 split at h
 ·obtain ⟨ha,hf,ps,h1,h3,h2⟩:=ho
  rw [h1];exact h3
 ·obtain ⟨hf,ps,h1,h3,h2⟩:=ho
  rw [h1];exact h3
 ·cases h
theorem qiD {σ:St} {l:Nat} (todo:List Item):Leads P GT nt (fun s'=>s'=⟨todo,qHw σ l⟩) ⟨todo,σ⟩:=by
 have same:qHw σ l=σ→Leads P GT nt (fun s'=>s'=⟨todo,qHw σ l⟩) ⟨todo,σ⟩:=fun h=>by
  rw [h];exact .of (Reach.refl _) rfl
 by_cases hsame:qHw σ l=σ
 ·exact same hsame
 intro c K a w b cs R0
 have hx:∃o o',qvb σ.heap l=some o∧qEQ o=some o'∧8≤l∧qUP σ l=true∧qHw σ l={σ with heap:=qdN l o' σ.heap}:=by
  unfold qHw at hsame ⊢
  split at hsame
  ·rename_i o ho
   split at hsame
   ·rename_i o' ho'
    split at hsame
    ·rename_i hc
     simp only [wA,decide_eq_true_eq] at hc
     exact ⟨o,o',ho,ho',hc.1,hc.2,by simp [ho,ho',hc.1,hc.2]⟩
    ·exact absurd rfl hsame
   ·exact absurd rfl hsame
  ·exact absurd rfl hsame
 obtain ⟨o,o',hl,hro,h8,hok,heq⟩:=hx
 have hv:=R0.rel.inv
 obtain ⟨gh,hK,hob⟩:=hv.objs l o hl
 obtain ⟨t,n,ps,hsh,hnew⟩:=qEP hro hob
 have hap:=qbJ hro hob
 obtain ⟨sh,pl⟩:=gh
 simp only at hsh;subst hsh
 have hup:∀x,qvb (qdN l o' σ.heap) x=if l=x then some o' else qvb σ.heap x:=fun x=>by
  have hs:(lookL σ.heap l).isSome:=by
   unfold qvb at hl
   split at hl
   ·rename_i y hy;rw [hy];rfl
   ·cases hl
  unfold qvb
  rw [qfD hs]
  by_cases h1:l=x <;> simp [h1]
 have hchg:Chg (·∈[l]) K (qjl K l ⟨.row t n [],pl⟩):=fun x=>by
  by_cases e1:x=l
  ·subst e1;exact .inr ⟨wU.2 rfl,_,_,_,_,_,hK,qbb⟩
  ·exact .inl (qrg e1)
 have hcase:∀x ob g p,qvb (qdN l o' σ.heap) x=some ob→qjl K l ⟨.row t n [],pl⟩ x=some g→Has g p→(x=l∧pl=some p)∨(x≠l∧qvb σ.heap x=some ob∧K x=some g):=by
  intro x ob g p h1 h2 h3
  rw [hup] at h1
  by_cases e1:l=x
  ·subst e1
   rw [qbb] at h2;injection h2 with h2;subst h2
   rcases h3 with h3|h3
   ·exact .inl ⟨rfl,h3⟩
   ·cases h3
  ·rw [if_neg e1] at h1
   rw [qrg (wJa e1)] at h2
   exact .inr ⟨wJa e1,h1,h2⟩
 have hlive:∀b,qqc (qvb (qdN l o' σ.heap)) (qjl K l ⟨.row t n [],pl⟩) b→qqc (qvb σ.heap) K b:=by
  rintro b ⟨x,ob,g,p,h1,h2,h3,h4⟩
  rcases hcase x ob g p h1 h2 h3 with ⟨rfl,h5⟩|⟨_,h5,h6⟩
  ·exact ⟨x,o,_,p,hl,hK, .inl h5,h4⟩
  ·exact ⟨x,ob,g,p,h5,h6,h3,h4⟩
 have hkeep:∀fr,Keep w w (NN c (qvb σ.heap) K w fr) (NN c (qvb (qdN l o' σ.heap)) (qjl K l ⟨.row t n [],pl⟩) w fr):=
  fun fr=>⟨fun b hb=>⟨⟨hb.1,fun hn=>hb.2.1 (hlive b hn),hb.2.2⟩,rfl⟩⟩
 have hfree:∀q,some q∈ps.map (·.2)→NN c (qvb (qdN l o' σ.heap)) (qjl K l ⟨.row t n [],pl⟩) w true q.blk:=fun q hq=>by
  obtain ⟨o1,o2,_⟩:=hv.own l o _ q hl hK (.inr hq)
  refine ⟨o1,?_,o2.imp id .inl⟩
  rintro ⟨x,ob,g,p,h1,h2,h3,h4⟩
  rcases hcase x ob g p h1 h2 h3 with ⟨rfl,h5⟩|⟨hne,h5,h6⟩
  ·exact hap.2 p q h5 hq h4.symm
  ·exact hne (hv.inj x l ob o g _ p q h5 hl h6 hK h3 (.inr hq) h4)
 refine ⟨_,qjl K l ⟨.row t n [],pl⟩,a,w,rfl,?_,fun x gh hx hk=>by rw [qrg (by omega)];exact hk,Steps.refl _ _⟩
 rw [heq]
 refine ⟨⟨⟨fun x ob hx=>?_,fun x ob g p h1 h2 h3=>?_,fun x x' ob ob' g g' p p' h1 h2 h3 h4 h5 h6 h7=>?_,hv.fr⟩,fun tt=>?_,R0.rel.size,R0.rel.defers,R0.rel.ng,R0.rel.gng,R0.rel.glob⟩,fun x hx=>?_⟩
 ·rw [hup] at hx
  by_cases e1:l=x
  ·subst e1
   rw [if_pos rfl] at hx;injection hx with hx;subst hx
   exact ⟨_,qbb,hnew _ _ hfree⟩
  ·rw [if_neg e1] at hx
   obtain ⟨g,a1,a2⟩:=hv.objs x ob hx
   exact ⟨g,by rw [qrg (wJa e1)];exact a1,a2.chg hchg hkeep (qPH hok hx) (fun _ _=>rfl)⟩
 ·rcases hcase x ob g p h1 h2 h3 with ⟨rfl,h5⟩|⟨_,h5,h6⟩
  ·exact hv.own x o _ p hl hK (.inl h5)
  ·exact hv.own x ob g p h5 h6 h3
 ·rcases hcase x ob g p h1 h3 h5 with ⟨rfl,a1⟩|⟨n1,a1,a2⟩
  ·rcases hcase x' ob' g' p' h2 h4 h6 with ⟨rfl,b1⟩|⟨n2,b1,b2⟩
   ·rfl
   ·exact hv.inj x x' _ _ _ _ p p' hl b1 hK b2 (.inl a1) h6 h7
  ·rcases hcase x' ob' g' p' h2 h4 h6 with ⟨rfl,b1⟩|⟨n2,b1,b2⟩
   ·exact hv.inj x x' _ _ _ _ p p' a1 hl a2 hK h5 (.inl b1) h7
   ·exact hv.inj x x' _ _ _ _ p p' a1 b1 a2 b2 h5 h6 h7
 ·exact (R0.rel.tmps tt).chg hchg hkeep (qID hok tt)
 ·have h1:=R0.fresh x hx
  by_cases e1:x=l
  ·subst e1;rw [hK] at h1;cases h1
  ·rw [qrg e1];exact h1
theorem qGw (todo:List Item):∀{ls:List Nat} {σ:St},Leads P GT nt (fun s'=>s'=⟨todo,qDP σ ls⟩) ⟨todo,σ⟩
 |[],σ=> .of (Reach.refl _) rfl
 |l::r,σ=>(qiD (σ:=σ) (l:=l) todo).bind (fun s1 h1=>by subst h1;exact qGw todo)
theorem qCN {w:World} {N:Bool→Nat→Prop} {K:Kn} {a:TV} {v:Value} (h:TVRd w N K a v):TVRd w N K (qUF a) v:=by
 unfold qUF
 split
 ·obtain ⟨n,pl,h1,h2,h3,h4⟩:=h
  exact ⟨n,pl,h1,h2,by simp,h4⟩
 ·exact h
theorem qIx {ts:List Nat}:∀{xs:List (Nat×TV)} {t:Nat},lookL (xs.map fun p=>if ts.contains p.1 then (p.1,qUF p.2) else p) t=if ts.contains t then (lookL xs t).map qUF else lookL xs t
 |[],t=>by simp [lookL]
 |(a,b)::r,t=>by
  have ih:=qIx (ts:=ts) (xs:=r) (t:=t)
  simp only [wI]
  by_cases h1:ts.contains a=true
  ·simp only [h1,if_true,lookL]
   by_cases h2:a=t
   ·subst h2;simp only [if_true,h1,wCa]
   ·simp only [h2,if_false];exact ih
  ·simp only [wbb] at h1
   simp only [h1,wN,if_false,lookL]
   by_cases h2:a=t
   ·subst h2;simp only [if_true,h1,wN,if_false]
   ·simp only [h2,if_false];exact ih
theorem qDD {σ:St} {ts:List Nat} (todo:List Item):Reach P GT nt ⟨todo,σ⟩ ⟨todo,qiL σ ts⟩:=by
 intro c K a w b cs R0
 refine ⟨K,a,w,?_,fun l gh _ hk=>hk,Steps.refl _ _⟩
 unfold qiL
 split
 ·exact R0
 ·refine ⟨⟨R0.rel.inv,fun t=>?_,R0.rel.size,R0.rel.defers,R0.rel.ng,R0.rel.gng,R0.rel.glob⟩,R0.fresh⟩
  have h:=R0.rel.tmps t
  have heq:St.look {σ with tmps:=σ.tmps.map fun p=>if ts.contains p.1 then (p.1,qUF p.2) else p} t=if ts.contains t then qUF (σ.look t) else σ.look t:=by
   unfold St.look
   simp only [qIx]
   by_cases h1:ts.contains t=true
   ·simp only [h1,if_true]
    cases hx:lookL σ.tmps t with
    |none=>rfl
    |some v=>rfl
   ·simp only [wbb] at h1
    simp only [h1,wN,if_false]
  rw [heq]
  split
  ·exact qCN h
  ·exact h
theorem qxM {c:Cut} {s:Pos} (h:den lf fin (qSR c s)=some r):Leads P GT nt (fun s'=>lf s'=some r) s:=by
 unfold qSR at h
 split at h
 ·rename_i σ hk
  obtain ⟨todo,σ0⟩:=s
  exact (Leads.of (qyJ hk _) rfl).bind (fun s1 h1=>by
   subst h1
   exact (Leads.of (qqG _) rfl).bind (fun s2 h2=>by
    subst h2
    exact (qGw (nt:=nt) todo).bind (fun s3 h3=>by subst h3;exact .of (qDD _) h)))
 ·cases h
theorem qIL (hm:P.follows .mixedOrders=true) {todo todo':List Item} {σ:St} (h:qJL todo=some todo'):Reach P GT nt ⟨todo,σ⟩ ⟨todo',σ⟩:=by
 unfold qJL at h
 split at h
 ·simp only [wc] at h;subst h
  exact qel hm (os:=[]) (cs:=[]) (os':=[]) rfl trivial
 ·simp only [wc] at h;subst h
  exact qel hm (os:=[]) (cs:=[]) (os':=[]) rfl trivial
 ·exact qel hm (os:=[]) (cs:=[]) (os':=[]) (by simp only [qCq,h]) trivial
 ·cases h
theorem qQv (hm:P.follows .mixedOrders=true) (hz:∀f∈mnz,qpA P f) {cuts:List Cut}:∀{n:Nat} {first:Bool} {s:Pos},den lf fin (qRI P GT nt mnz tab cuts n first s)=some r→
  Leads P GT nt (fun s'=>lf s'=some r∨(qAJ s'.todo=true∧fin s'=some r)) s
 |0,_,_,h=>by cases h
 |n+1,first,s,h=>by
  simp only [qRI] at h
  split at h
  ·rename_i hr
   exact .of (Reach.refl s) (.inr ⟨hr,h⟩)
  ·split at h
   ·rename_i todo' hh
    have h0:Reach P GT nt s ⟨todo',s.st⟩:=qIL hm hh
    split at h
    ·exact (Leads.of h0 rfl).bind (fun s1 h1=>by subst h1;exact (qxM h).bind (fun s2 h2=> .of (Reach.refl _) (.inl h2)))
    ·exact (Leads.of h0 rfl).bind (fun s1 h1=>by subst h1;exact qQv hm hz h)
   ·split at h
    ·split at h
     ·exact (qxM h).bind (fun s2 h2=> .of (Reach.refl _) (.inl h2))
     ·exact (qhH hm hz h).bind (fun s1 h1=>qQv hm hz h1)
    ·exact (qhH hm hz h).bind (fun s1 h1=>qQv hm hz h1)
theorem uE (hm:P.follows .mixedOrders=true) {s:Pos} {r:I.fm.R} (h:I.SemR r s):Leads P GT (qrh P I.f) (fun s'=>qAJ s'.todo=true∧I.fm.fin P (qCP P I.f) s'=some r) s:=by
 induction h with
 |mk s lf h hl ih=>
  refine (qQv hm I.mnzOk h).bind (fun s' hs=>?_)
  rcases hs with hs|hs
  ·exact ih s' hs
  ·exact .of (Reach.refl _) hs
theorem uC (hm:P.follows .mixedOrders=true) {s:Pos} {r:I.fm.R} (h:I.sem s=some r):qNS P GT (qrh P I.f) (qCP P I.f) s (I.fm.res r) (I.fm.post r):=by
 intro c K a w b cs R0
 obtain ⟨s',K',a',w',⟨h2,h3⟩,R',h4,h5⟩:=uE hm (FnI.sem_iff.1 h) c K a w b cs R0
 obtain ⟨res0,res1,ren,nx,lo,g1,g2,g3,g3',g4⟩:=uH h3
 exact ⟨s',res0,res1,ren,nx,lo,K',a',w',R',h4,h5,h2,g1,g2,g3,g3',g4⟩
@[reducible] def FnI.at (I:FnI P GT) (as:List AV) (pre:List (Nat×Obj)):Pos:=⟨[.code (qea P I.f)],st0 as pre⟩
noncomputable def FnI.call (I:FnI P GT) (as:List AV) (pre:List (Nat×Obj)):Option I.fm.R:=
 if qbQ P I.f as.length&&pre.all (fun p=>decide (p.1<8)) then I.sem (I.at as pre) else none
theorem uF (hm:P.follows .mixedOrders=true) {as:List AV} {pre:List (Nat×Obj)} {r:I.fm.R} (h:I.call as pre=some r):CallOK P GT I.f as pre (I.fm.res r) (I.fm.post r):=by
 unfold FnI.call at h
 split at h
 ·rename_i hc
  simp only [wA] at hc
  exact qGM hc.1 hc.2 (uC hm h)
 ·cases h
noncomputable def FnI.summ (I:FnI P GT) (hm:P.follows .mixedOrders=true) (acc:List AV→Bool) (rows nils:Bool) (drop:Bool:=false):Summ P GT:=
 {f:=I.f,acc:=acc,rows:=rows,nils:=nils,drop:=drop,R:=I.fm.R,fn:=I.call,res:=I.fm.res,post:=I.fm.post,ok:=fun as pre r h=>uF hm h}
theorem uD {as:List AV} {pre:List (Nat×Obj)} (h:(qbQ P I.f as.length&&pre.all (fun p=>decide (p.1<8)))=true):I.call as pre=I.go (I.at as pre) I.sem:=by
 unfold FnI.call
 rw [if_pos h]
 exact uA _
end
end Go.Ab

/-
  From what a law's arguments read as to plain values, and back.
-/
set_option linter.unusedVariables false
set_option linter.unusedSimpArgs false
namespace Go.Ab
open Go
def wfP:(t:Ty)→pden t→Prop
 | .int k,n=>(Lit.int k n).wf=true
 | .bool,_=>True
 | .str,s=>ByteArray.size s≤Go.maxLen
 | .arr n e,xs=>xs.length=n∧∀x∈xs,wfP e x
 | .pair a b,x=>wfP a x.1∧wfP b x.2
 | .unit,_=>True
 | .slice e,xs=>xs.length≤Go.maxLen∧∀x∈xs,wfP e x
 | .fn,_=>True
def qsg:Ty→Bool
 | .arr _ e=>qsg e
 | .pair a b=>qsg a&&qsg b
 | .slice e=>qsg e&&decide (0<e.sz)
 | .fn=>false
 |_=>true
section
variable {P:Program} {H:Type} {enc:TypeId×Value→H} {w:World} {base:Nat} {spare:Nat→Bool} {held:Bool}
abbrev InW (w:World):Nat→Prop:=fun b=>b<w.heap.size
theorem qDI {b o n:Nat}:Addr.add ⟨b,o,none⟩ n=⟨b,o+n,none⟩:=by
 unfold Addr.add;split <;> simp_all
theorem qVA {m:Nat} {T:TypeId} {t:Ty} (h:qZd P (m+1) T=some t):∃desc,P.underlying T=some desc∧qem P (qZd P m) desc=some t∧P.cellsOf T=t.sz:=by
 simp only [qZd] at h
 split at h
 ·rename_i desc hd
  split at h
  ·rename_i ty hr
   split at h
   ·rename_i hc
    simp only [wc] at h;subst h
    exact ⟨desc,hd,hr,by simpa using hc⟩
   ·cases h
  ·cases h
 ·cases h
theorem qsF {m:Nat} {T:TypeId} {t:Ty} (h:qZd P m T=some t):P.cellsOf T=t.sz:=by
 cases m with
 |zero=>cases h
 |succ m=>obtain ⟨_,_,_,h⟩:=qVA h;exact h
def Rds (P:Program) (enc:TypeId×Value→H) (w:World) (base:Nat) (spare:Nat→Bool) (held:Bool) (n m:Nat):Prop:=
 ∀(T:TypeId) (t:Ty) (cs:List Value) (y:DataW H×List MemPlace),qsg t=true→qZd P m T=some t→DataW.trod enc P w base spare held n T cs=some y→∃x:pden t,PRd w (InW w) t x cs∧wfP t x
theorem quE {n m:Nat} (G:Rds P enc w base spare held n m) {cs:List Value}:∀{fs:List Field} {ts:List Ty} {o:Nat},qdm (qZd P m) fs=some ts→qvl P fs ts o=true→qsg (qOe ts)=true→cs.length=o+(qOe ts).sz→
  (∀f∈fs,∃y,DataW.trod enc P w base spare held n f.type ((cs.drop f.offset).take (P.cellsOf f.type))=some y)→∃x:pden (qOe ts),PRd w (InW w) (qOe ts) x (cs.drop o)∧wfP (qOe ts) x
 |[],ts,o,h1,h2,h3,h4,h5=>by
  simp only [qdm,wc] at h1;subst h1
  refine ⟨(),?_,trivial⟩
  show cs.drop o=[]
  rw [List.drop_eq_nil_iff];simp [qOe,Ty.sz] at h4;omega
 |f::fs,ts,o,h1,h2,h3,h4,h5=>by
  simp only [qdm] at h1
  split at h1
  ·rename_i t ts' e1 e2
   simp only [wc] at h1;subst h1
   simp only [qvl,wA,beq_iff_eq] at h2
   simp only [qOe,qsg,wA] at h3
   simp only [qOe,Ty.sz] at h4
   obtain ⟨y,hy⟩:=h5 f List.mem_cons_self
   obtain ⟨x1,p1,w1⟩:=G _ _ _ _ h3.1 e1 hy
   obtain ⟨x2,p2,w2⟩:=quE G e2 h2.2 h3.2 (by omega) (fun g hg=>h5 g (wO _ hg))
   rw [h2.1,qsF e1] at p1
   refine ⟨(x1,x2),⟨_,_,?_,p1,p2⟩,w1,w2⟩
   exact (List.take_append_drop t.sz (cs.drop o)).symm.trans (by rw [List.drop_drop])
  ·cases h1
theorem qzE {n m:Nat} (G:Rds P enc w base spare held n m) {E:TypeId} {e:Ty} (hE:qZd P m E=some e) (hp:qsg e=true) {b o len:Nat} {elems:List (DataW H×List MemPlace)} (hl:elems.length=len)
  (he:∀i,i<len→(w.cells? base (Addr.add ⟨b,o,none⟩ (i*e.sz)) e.sz).bind (DataW.trod enc P w base spare held n E)=elems[i]?):
  ∀k,k≤len→∃(xs:List (pden e)) (cl:List Value),xs.length=k∧cl.length=k*e.sz∧CellsAt w b o cl∧Cat (PRd w (InW w) e) xs cl∧∀x∈xs,wfP e x
 |0,_=>⟨[],[],rfl,by simp,fun j v hj=>by simp at hj,rfl,fun x hx=>by cases hx⟩
 |k+1,hk=>by
  obtain ⟨xs,cl,h1,h2,h3,h4,h5⟩:=qzE G hE hp hl he k (by omega)
  have hi:=he k (by omega)
  rw [wx (by omega)] at hi
  obtain ⟨cs,hcs,hy⟩:=wib.1 hi
  obtain ⟨x,hx,hw⟩:=G _ _ _ _ hp hE hy
  obtain ⟨g1,g2,g3⟩:=World.cells?_some hcs
  refine ⟨xs++[x],cl++cs,by simp [h1],?_,?_,h4.append ⟨cs,[],by simp,hx,rfl⟩,?_⟩
  ·rw [List.length_append,h2,hx.length,Nat.succ_mul]
  ·intro j v hj
   rw [List.getElem?_append] at hj
   split at hj
   ·exact h3 j v hj
   ·rename_i hjl
    have hjc:j - cl.length<cs.length:=(List.getElem?_eq_some_iff.1 hj).1
    have:=g3 (j - cl.length) (by rw [←g2];exact hjc)
    rw [hj,qDI,qDI] at this
    rw [←this]
    congr 2
    rw [h2];rw [h2] at hjl;omega
  ·intro y hy
   rcases wba.1 hy with hy|hy
   ·exact h5 y hy
   ·simp only [wU] at hy;subst hy;exact hw
theorem qDM {a:Addr} {v:Value} (h:w.cell? a=some v):a=⟨a.block,a.off,none⟩:=by
 obtain ⟨b,o,sp⟩:=a
 cases sp with
 |none=>rfl
 |some s=>simp [World.cell?] at h;split at h <;> simp at h
theorem qTK:∀(n m:Nat),Rds P enc w base spare held n m
 |0,m,T,t,cs,y,hp,hT,hy=>by simp [DataW.trod] at hy
 |n+1,0,T,t,cs,y,hp,hT,hy=>by cases hT
 |n+1,m+1,T,t,cs,y,hp,hT,hy=>by
  obtain ⟨desc,hd,hr,hs⟩:=qVA hT
  have G:=qTK n m
  unfold qem at hr
  split at hr
  ·simp only [wc] at hr;subst hr
   obtain ⟨b,rfl,_⟩:=DataW.trod_bool hd hy
   exact ⟨b,rfl,trivial⟩
  ·simp only [wc] at hr;subst hr
   obtain ⟨k,rfl,_,hw⟩:=DataW.trod_int hd hy
   exact ⟨k,rfl,hw⟩
  ·simp only [wc] at hr;subst hr
   obtain ⟨s,rfl,_,hw⟩:=DataW.trod_string hd hy
   exact ⟨s,rfl,hw⟩
  ·rename_i E
   split at hr
   ·rename_i e hE
    simp only [wc] at hr;subst hr
    simp only [qsg,wA,decide_eq_true_eq] at hp
    rcases DataW.trod_slice hd hy with ⟨rfl,_⟩|⟨a,len,cap,elems,rest,n',hn,rfl,_,_,hlc,hcm,hl,he,_⟩
    ·exact ⟨[],⟨none,0,rfl,ws _, .inl rfl⟩,by simp,fun x hx=>by cases hx⟩
    ·simp only [Nat.add_right_cancel_iff] at hn;subst hn
     rw [qsF hE] at he
     by_cases h0:len=0
     ·subst h0
      exact ⟨[],⟨some a,cap,rfl,Nat.zero_le _, .inl rfl⟩,by simp,fun x hx=>by cases hx⟩
     ·have h1:=he 0 (by omega)
      rw [wx (by omega)] at h1
      obtain ⟨cs0,hcs0,_⟩:=wib.1 h1
      obtain ⟨q1,q2,q3⟩:=World.cells?_some hcs0
      have h2:=q3 0 (by omega)
      rw [wx (by omega)] at h2
      have ha:a=⟨a.block,a.off,none⟩:=qDM (v:=cs0[0]'(by omega)) (by simpa [Addr.add] using h2)
      have hb:=World.cells?_block hcs0 hp.2
      have hb':a.block<w.heap.size:=by simpa [Addr.add] using hb
      rw [ha] at he
      obtain ⟨xs,cl,g1,g2,g3,g4,g5⟩:=qzE G hE hp.1 hl he len (ws _)
      refine ⟨xs,⟨some a,cap,by rw [g1],by omega, .inr ⟨a.block,a.off,cl,by rw [←ha],hb',g3,g4⟩⟩,by omega,g5⟩
   ·cases hr
  ·rename_i k E
   split at hr
   ·rename_i e hE
    simp only [wc] at hr;subst hr
    simp only [qsg] at hp
    obtain ⟨xs0,n',hn,_,hlen,hl,he⟩:=DataW.trod_array hd hy
    simp only [Nat.add_right_cancel_iff] at hn;subst hn
    have hes:=qsF hE
    rw [hes] at he
    rw [hs] at hlen
    simp only [Ty.sz] at hlen
    have key:∀j,j≤k→∃xs:List (pden e),xs.length=j∧Cat (PRd w (InW w) e) xs (cs.take (j*e.sz))∧∀x∈xs,wfP e x:=by
     intro j
     induction j with
     |zero=>intro _;exact ⟨[],rfl,by simp [Cat],fun x hx=>by cases hx⟩
     |succ j ih=>
      intro hj
      obtain ⟨xs,h1,h2,h3⟩:=ih (by omega)
      have hi:=he j (by omega)
      rw [wx (by omega)] at hi
      obtain ⟨x,hx,hw⟩:=G _ _ _ _ hp hE hi
      refine ⟨xs++[x],by simp [h1],?_,?_⟩
      ·rw [Nat.succ_mul,List.take_add]
       exact h2.append ⟨_,[],by simp,hx,rfl⟩
      ·intro y hy
       rcases wba.1 hy with hy|hy
       ·exact h3 y hy
       ·simp only [wU] at hy;subst hy;exact hw
    obtain ⟨xs,h1,h2,h3⟩:=key k (ws _)
    rw [List.take_of_length_le (by omega)] at h2
    exact ⟨xs,⟨h1,h2⟩,h1,h3⟩
   ·cases hr
  ·rename_i fs
   split at hr
   ·rename_i ts hts
    split at hr
    ·rename_i hof
     simp only [wc] at hr;subst hr
     obtain ⟨xs0,n',hn,_,hlen,hl,he⟩:=DataW.trod_struct hd hy
     simp only [Nat.add_right_cancel_iff] at hn;subst hn
     rw [hs] at hlen
     obtain ⟨x,hx,hw⟩:=quE (cs:=cs) G hts hof hp (by omega) (fun f hf=>by
      obtain ⟨i,hi,hfi⟩:=List.mem_iff_getElem.1 hf
      have hi':i<fs.size:=by simpa using hi
      have h1:=he i f (by rw [←wla,wx hi,hfi])
      rw [wx (by omega)] at h1
      exact ⟨_,h1⟩)
     exact ⟨x,by simpa using hx,hw⟩
    ·cases hr
   ·cases hr
  ·cases hr;simp [qsg] at hp
  ·cases hr
theorem open_ty {fuel m:Nat} {T:TypeId} {t:Ty} {cs:List Value} {y:DataW H×List MemPlace} (hp:qsg t=true) (hT:qZd P m T=some t) (hy:DataW.trod enc P w base spare held fuel T cs=some y):
  ∃x:pden t,PRd w (InW w) t x cs∧wfP t x:=qTK fuel m T t cs y hp hT hy
end
section
variable {P:Program} {H:Type} {enc:TypeId×Value→H} {w:World} {base:Nat} {spare:Nat→Bool} {held:Bool}
theorem laid_arr {fuel:Nat} {T E:TypeId} {n:Nat} {k:IntKind} {zs:List Int} {cs:List Value} {q:List MemPlace} (hT:P.underlying T=some (.array n E)) (hE:P.underlying E=some (.int k)) (hc:P.cellsOf E=1) (hcT:P.cellsOf T=n)
  (h:DataW.trod enc P w base spare held fuel T cs=some (.agg (zs.map fun z=> .lit (.int k z)),q)):cs=zs.map (Value.int k):=by
 obtain ⟨xs,m,_,hx,hlen,hl,he⟩:=DataW.trod_array hT h
 simp only [wk,DataW.agg.injEq] at hx
 rw [hcT] at hlen
 have hzl:zs.length=xs.length:=by have:=congrArg List.length hx.1;simpa using this
 refine List.ext_getElem (by simp;omega) (fun i h1 h2=>?_)
 have hi:=he i (by omega)
 rw [hc,wx (by omega)] at hi
 obtain ⟨z,e1,e2,_⟩:=DataW.trod_int hE hi
 have e3:cs[i]?=some (.int k z):=by
  have:=congrArg (·[0]?) e1
  simp only [Nat.mul_one,List.getElem?_take,List.getElem?_drop,Nat.add_zero] at this
  simpa using this
 have e4:zs[i]?=some z:=by
  have:=congrArg (·[i]?) hx.1
  simp only [List.getElem?_map] at this
  rw [wx (by omega:i<xs.length),e2] at this
  cases hz:zs[i]? with
  |none=>rw [hz] at this;simp at this
  |some z'=>
   rw [hz] at this
   simp only [wCa,wc,DataW.lit.injEq,Lit.int.injEq,true_and] at this
   rw [this]
 simp only [List.getElem_map]
 rw [wx h1] at e3
 simp only [wc] at e3
 rw [e3]
 rw [wx (by simpa using h2)] at e4
 simp only [wc] at e4
 rw [e4]
theorem glob_arr {g n:Nat} {k:IntKind} {zs:List Int} {cs:List Value} (hcs:cs=zs.map (Value.int k)) (hl:zs.length=n) (hcell:∀i v,cs[i]?=some v→w.cell? ⟨g,i,none⟩=some v):
  ∃cs,CellsAt w g 0 cs∧PRd w (fun _=>False) (.arr n (.int k)) (zs:List Int) cs:=by
 refine ⟨cs,fun j v hj=>by rw [Nat.zero_add];exact hcell j v hj,hl,?_⟩
 subst hcs
 exact qYs zs
end
def qVq:Value→Bool
 | .agg _=>true
 |_=>false
theorem PRd.val {w:World} {N:Bool→Nat→Prop} {K:Kn} (hN:∀b,b<w.heap.size→N false b) (hlow:∀b,N true b→N false b) {t:Ty} {x:pden t} {v:Value} {cs:List Value} (h0:PRd w (InW w) t x cs) (hc:v.cells.toList=cs) (hv:qVq v=t.agg) (hf:qsg t=true):VRd w N K (qvF t (inj false t x)) v:=by
 have h:PRd w (N false) t x cs:=h0.keep ⟨fun b hb=>⟨hN b hb,rfl⟩⟩
 clear h0
 cases t with
 |arr n e=>
  cases v <;> simp [Ty.agg,qVq] at hv
  rename_i a
  exact ⟨cs,by simp [wub] at hc;rw [←hc],rfl,qIk (N:=N) hlow false h⟩
 |pair a b=>
  cases v <;> simp [Ty.agg,qVq] at hv
  exact ⟨cs,by simp [wub] at hc;rw [←hc],rfl,qIk (N:=N) hlow false h⟩
 |unit=>
  cases v <;> simp [Ty.agg,qVq] at hv
  exact ⟨cs,by simp [wub] at hc;rw [←hc],rfl,qIk (N:=N) hlow false h⟩
 |int k=>
  simp only [PRd] at h;subst h
  cases v <;> simp [Ty.agg,qVq,wub] at hv hc <;> first|exact hc|skip
  all_goals simp_all [qvF,inj,VRd]
 |bool=>
  simp only [PRd] at h;subst h
  cases v <;> simp [Ty.agg,qVq,wub] at hv hc <;> first|exact hc|skip
  all_goals simp_all [qvF,inj,VRd]
 |str=>
  simp only [PRd] at h;subst h
  cases v <;> simp [Ty.agg,qVq,wub] at hv hc <;> first|exact hc|skip
  all_goals simp_all [qvF,inj,VRd]
 |slice e=>
  obtain ⟨A,cap,rfl,h1,h2⟩:=h
  cases v <;> simp [Ty.agg,qVq,wub] at hv hc
  obtain ⟨rfl,rfl,rfl⟩:=hc
  exact ⟨_,_,rfl,h1,h2⟩
 |fn=>simp [qsg] at hf
theorem uL {P:Program} {GT:qmi} {f:Nat} {args:List AV} {res:TV} {post:List (Nat×Obj)} (h:CallOK P GT f args [] res post) {w:World} (hg:Glob P GT w) {vs:List Value}
  (ha:∀(N:Bool→Nat→Prop) (K:Kn),(∀b,b<w.heap.size→N false b)→(∀b,N true b→N false b)→VRdL w N K args vs) {v:Value} (hr:∀(N:Bool→Nat→Prop) (K:Kn) (w':World) (u:Value),TVRd w' N K res u→u=v) (hb:(P.funcs[f]?).map (·.body.isSome)=some true) (hn:(P.funcs[f]?).map (·.name== "runtime.NumGoroutine")=some false):
  Calls P f vs.toArray w fun e w'=>e= .returned v∧RowKit.Below w.heap.size w w':=by
 have h1:=h w (InW w) (fun _=>False) (fun _=>none) vs hg ⟨(fun l o hl=>by cases hl),(fun l o gh p hl=>by cases hl),(fun l l' o o' gh gh' p p' hl=>by cases hl),⟨rfl,rfl,rfl,ws _,fun _ _ _=>rfl⟩⟩
  (fun b hb=>hb.elim) (fun l hl=>rfl) (fun b hb=>hb) (ha _ _ (fun b hb=>⟨hb,(fun hl=>by obtain ⟨l,o,gh,p,q,_⟩:=hl;cases q), .inr (.inr ⟨rfl, .inl hb⟩)⟩) uj)
 unfold qer at h1
 obtain ⟨fn,hf,hbs⟩:=Option.map_eq_some_iff.1 hb
 obtain ⟨fn',hf',hnm⟩:=Option.map_eq_some_iff.1 hn
 rw [hf] at hf';injection hf' with hf';subst hf'
 obtain ⟨body,hbody⟩:=wHa.1 hbs
 have hcf:(callFunc f vs.toArray).run P w= .ok (.enter f vs.toArray) w:=by
  have hnm':¬fn.name= "runtime.NumGoroutine" :=by simpa using hnm
  simp [callFunc,hf,hnm',hbody]
 rw [hcf] at h1
 refine h1.mono ?_
 rintro e w' ⟨u,rfl,K',_,hI,hu⟩
 exact ⟨by rw [hr _ _ _ _ hu],hI.fr.os,hI.fr.tape,hI.fr.output,hI.fr.size,fun k hk=>hI.fr.block k hk (fun h=>h)⟩
theorem okWide_form {P:Program} {w:World} {r:Go.Reach} {base:Nat} {T:TypeId} {m:Nat} {t:Ty} {v:Value} (hT:qZd P (m+1) T=some t) (hnf:qsg t=true) (h:Value.okWide P w r base T v):qVq v=t.agg:=by
 obtain ⟨desc,hd,hr,_⟩:=qVA hT
 unfold Value.okWide at h
 rw [hd] at h
 have hcell:Cell.okWide P w r base T v→(match desc with
   | .bool=>true
   | .int _=>true
   | .string=>true
   | .slice _=>true
   |_=>false)=true→qVq v=false:=by
  intro hc hdesc
  cases v with
  |agg cs=>
   exfalso
   unfold Cell.okWide at hc
   rw [hd] at hc
   cases desc <;> simp [Cell.ok,hd] at hc hdesc
  |_=>rfl
 cases desc with
 |bool=>simp only [qem,wc] at hr;subst hr;exact hcell h rfl
 |int k=>simp only [qem,wc] at hr;subst hr;exact hcell h rfl
 |string=>simp only [qem,wc] at hr;subst hr;exact hcell h rfl
 |slice e=>
  simp only [qem] at hr
  split at hr
  ·simp only [wc] at hr;subst hr;exact hcell h rfl
  ·cases hr
 |array n e=>
  simp only [qem] at hr
  split at hr
  ·simp only [wc] at hr;subst hr
   obtain ⟨cs,rfl,_⟩:=h;rfl
  ·cases hr
 |struct fs=>
  simp only [qem] at hr
  split at hr
  ·rename_i ts _
   split at hr
   ·simp only [wc] at hr;subst hr
    obtain ⟨cs,rfl,_⟩:=h
    cases ts <;> rfl
   ·cases hr
  ·cases hr
 |func _ _ _=>simp only [qem,wc] at hr;subst hr;simp [qsg] at hnf
 |_=>simp [qem] at hr
end Go.Ab

/-
  Functions that are walked by hand: from what a walk tells to what calls ask for.
-/
set_option linter.unusedVariables false
set_option linter.unusedSimpArgs false
namespace Go.Ab
open Go
theorem Inv.more {c:Cx} {H:qBc} {K:Kn} {w w':World} (h:Inv c H K w) (h1:w'.os=w.os) (h2:w'.tape=w.tape) (h3:w'.output=w.output) (hs:w.heap.size≤w'.heap.size) (hb:∀k,k<w.heap.size→w'.heap[k]?=w.heap[k]?):
  Inv c H K w'∧KeepK w w' (NN c H K w) (NN c H K w') K K:=by
 have hk:KeepK w w' (NN c H K w) (NN c H K w') K K:=⟨fun fr=>⟨fun b hb'=>⟨⟨wfa hb'.1 hs,hb'.2.1,hb'.2.2⟩,hb b hb'.1⟩⟩,fun _ _ h=>h⟩
 refine ⟨⟨fun l o hl=>?_,fun l o gh p hl hg hp=>?_,h.inj,?_⟩,hk⟩
 ·obtain ⟨gh,g1,g2⟩:=h.objs l o hl
  exact ⟨gh,g1,g2.keep hk (fun p hp=>hb _ (h.own l o gh p hl g1 hp).1)⟩
 ·obtain ⟨a,b,d⟩:=h.own l o gh p hl hg hp
  exact ⟨wfa a hs,b,d⟩
 ·exact ⟨h1.trans h.fr.os,h2.trans h.fr.tape,h3.trans h.fr.output,wma h.fr.size hs,fun k hk' hG=>(hb k (wfa hk' h.fr.size)).trans (h.fr.block k hk' hG)⟩
theorem qSE {P:Program} {f:Nat} {args:Array Value} {w:World} {R:Value→World→Prop} (hb:(P.funcs[f]?).map (·.body.isSome)=some true) (hn:(P.funcs[f]?).map (·.name== "runtime.NumGoroutine")=some false)
  (h:Calls P f args w fun e w'=>∃v,e= .returned v∧R v w'):qer P f args w R:=by
 obtain ⟨fn,hf,hbs⟩:=Option.map_eq_some_iff.1 hb
 obtain ⟨fn',hf',hnm⟩:=Option.map_eq_some_iff.1 hn
 rw [hf] at hf';injection hf' with hf';subst hf'
 obtain ⟨body,hbody⟩:=wHa.1 hbs
 have hcf:(callFunc f args).run P w= .ok (.enter f args) w:=by
  have hnm':¬fn.name= "runtime.NumGoroutine" :=by simpa using hnm
  simp [callFunc,hf,hnm',hbody]
 unfold qer
 rw [hcf]
 exact h
end Go.Ab

/-
  Plain laws on numbers and lists, for the printed functions.
-/
set_option linter.unusedVariables false
set_option linter.unusedSimpArgs false
namespace Go.Ab
open Go
theorem w64 {x:Int} (h1:-9223372036854775808≤x) (h2:x≤9223372036854775807):wd .i64 x=x:=by
 simp [wd,IntKind.signed,IntKind.bits];omega
theorem w32 {x:Int} (h1:-2147483648≤x) (h2:x≤2147483647):wd .i32 x=x:=by
 simp [wd,IntKind.signed,IntKind.bits];omega
theorem wu8 (x:Int):wd .u8 x=x%256:=by
 simp [wd,IntKind.signed,IntKind.bits]
theorem qXy (x:Int):wd .u32 x=x%4294967296:=by
 simp [wd,IntKind.signed,IntKind.bits]
theorem qNR (x:Int):wd .u64 x=x%18446744073709551616:=by
 simp [wd,IntKind.signed,IntKind.bits]
theorem qJg (a:Int) {b:Int} (h:0<b):Int.fdiv a b=a/b:=Int.fdiv_eq_ediv_of_nonneg _ (by omega)
theorem qfm {a b:Int} (h:0≤a):Int.tdiv a b=a/b:=Int.tdiv_eq_ediv_of_nonneg h
theorem qng {a b:Int} (h:0≤a):Int.tmod a b=a%b:=Int.tmod_eq_emod_of_nonneg h
theorem qDK (a b:Int) (h0:0≤b) (h:b≤63):qZk .i64 a b=a/2 ^ b.toNat:=by
 unfold qZk
 have:min b.toNat (IntKind.bits .i64)=b.toNat:=by simp [IntKind.bits];omega
 rw [this]
 exact Int.fdiv_eq_ediv_of_nonneg _ (by have:(0:Int)<2 ^ b.toNat:=Int.pow_pos (by decide);omega)
theorem qZR {n:Int} (h:(Lit.int .u8 n).wf=true):0≤n∧n<256:=by
 simp [Lit.wf,IntKind.min,IntKind.max,IntKind.signed,IntKind.bits] at h;omega
def Bts (xs:List Int):Prop:=∀x∈xs,0≤x∧x<256
theorem Bts.nil:Bts []:=fun x hx=>by cases hx
theorem Bts.append {a b:List Int} (ha:Bts a) (hb:Bts b):Bts (a++b):=fun x hx=>(wba.1 hx).elim (ha x) (hb x)
theorem Bts.take {a:List Int} (h:Bts a) (n:Nat):Bts (a.take n):=fun x hx=>h x (List.mem_of_mem_take hx)
theorem Bts.drop {a:List Int} (h:Bts a) (n:Nat):Bts (a.drop n):=fun x hx=>h x (List.mem_of_mem_drop hx)
theorem Bts.cons {a:List Int} {x:Int} (hx:0≤x∧x<256) (h:Bts a):Bts (x::a):=fun y hy=>by
 rcases wZ.1 hy with rfl|hy
 ·exact hx
 ·exact h y hy
theorem uI {xs:List Int} (h:∀x∈xs,wfP (.int .u8) x):Bts xs:=fun x hx=>qZR (h x hx)
theorem qAn {xs:List Int} (h:Bts xs):qpd (qjn xs)=xs:=by
 unfold qpd qjn
 simp only [List.map_map]
 refine (List.map_congr_left (fun x hx=>?_)).trans (List.map_id xs)
 obtain ⟨h0,h1⟩:=h x hx
 simp only [Function.comp,UInt8.toNat_ofNat',id]
 omega
theorem qSI (xs:List Int):(qjn xs).size=xs.length:=by
 show ((xs.map fun n=>UInt8.ofNat n.toNat).toArray).size=_
 simp
theorem qtK {xs ys:List Int} (hx:Bts xs) (hy:Bts ys) (h:qjn xs=qjn ys):xs=ys:=by
 rw [←qAn hx,h,qAn hy]
theorem quR {xs ys:List Int} (hx:Bts xs) (hy:Bts ys):(wja (qjn xs)==wja (qjn ys))=decide (xs=ys):=by
 rw [Bool.eq_iff_iff,beq_iff_eq,decide_eq_true_eq]
 exact ⟨fun h=>qtK hx hy (toList_inj h),fun h=>by rw [h]⟩
end Go.Ab

/-
  Regions in the rounds of a range over a function, and what abides while its book-keeping turns.
-/
set_option linter.unusedVariables false
set_option linter.unusedSimpArgs false
namespace Go.Ab
open Go
theorem CellsAt.abide {w w':World} (hc:∀p v,w.cell? p=some v→w'.cell? p=some v) {b o:Nat} {cs:List Value} (h:CellsAt w b o cs):CellsAt w' b o cs:=fun j v hj=>hc _ _ (h j v hj)
theorem PRd.abide {w w':World} {N N':Nat→Prop} (hc:∀p v,w.cell? p=some v→w'.cell? p=some v) (hN:∀b,N b→N' b):∀{t:Ty} {x:pden t} {cs:List Value},PRd w N t x cs→PRd w' N' t x cs
 | .int _,_,_,h=>h
 | .bool,_,_,h=>h
 | .str,_,_,h=>h
 | .arr n e,xs,_,h=>⟨h.1,h.2.imp (fun _ _=>PRd.abide hc hN)⟩
 | .pair a b,_,_,h=>by
   obtain ⟨c1,c2,e,h1,h2⟩:=h
   exact ⟨c1,c2,e,PRd.abide hc hN h1,PRd.abide hc hN h2⟩
 | .unit,_,_,h=>h
 | .slice _,_,_,h=>by
   obtain ⟨A,cap,e,hl,h⟩:=h
   refine ⟨A,cap,e,hl,h.imp id ?_⟩
   rintro ⟨b,o,cl,e,hn,hcl,h⟩
   exact ⟨b,o,cl,e,hN b hn,hcl.abide hc,h.imp (fun _ _=>PRd.abide hc hN)⟩
 | .fn,_,_,h=>h
theorem ARd.abide {w w':World} {N N':Bool→Nat→Prop} {K:Kn} (hc:∀p v,w.cell? p=some v→w'.cell? p=some v) (hN:∀fr b,N fr b→N' fr b):∀{t:Ty} {x:qgf t} {cs:List Value},ARd w N K t x cs→ARd w' N' K t x cs
 | .int _,_,_,h=>h
 | .bool,_,_,h=>h
 | .str,_,_,h=>h
 | .arr n e,xs,_,h=>⟨h.1,h.2.imp (fun _ _=>PRd.abide hc (hN false))⟩
 | .pair a b,_,_,h=>by
   obtain ⟨c1,c2,e,h1,h2⟩:=h
   exact ⟨c1,c2,e,ARd.abide hc hN h1,ARd.abide hc hN h2⟩
 | .unit,_,_,h=>h
 | .slice _,x,_,h=>by
   cases x with
   |pure fr xs=>exact PRd.abide hc (hN fr) (t:= .slice _) h
   |ref l off len wh=>exact h
   |nil=>exact h
   |junk=>exact h
   |lng n=>exact h
 | .fn,_,_,h=>h
theorem VRd.abide {w w':World} {N N':Bool→Nat→Prop} {K:Kn} (hc:∀p v,w.cell? p=some v→w'.cell? p=some v) (hN:∀fr b,N fr b→N' fr b) {a:AV} {v:Value} (h:VRd w N K a v):VRd w' N' K a v:=by
 cases a with
 |agg t x=>obtain ⟨cs,e,h1,h2⟩:=h;exact ⟨cs,e,h1,h2.abide hc hN⟩
 |sl e fr xs=>exact PRd.abide hc (hN fr) (t:= .slice e) h
 |rptr t fr x=>obtain ⟨b,o,cs,e,h1,h2,h3⟩:=h;exact ⟨b,o,cs,e,h1.imp id (hN fr b),h2.abide hc,h3.abide hc (hN fr)⟩
 |sln e fr xs=>exact ⟨PRd.abide hc (hN fr) (t:= .slice e) h.1,h.2⟩
 |_=>exact h
theorem TVRd.abide {w w':World} {N N':Bool→Nat→Prop} {K:Kn} (hc:∀p v,w.cell? p=some v→w'.cell? p=some v) (hN:∀fr b,N fr b→N' fr b) {a:TV} {v:Value} (h:TVRd w N K a v):TVRd w' N' K a v:=by
 cases a with
 |one a=>exact VRd.abide hc hN h
 |tup as=>
  obtain ⟨vs,e,h⟩:=h
  refine ⟨vs,e,?_⟩
  clear e
  induction as generalizing vs with
  |nil=>exact h
  |cons a as ih=>
   obtain ⟨v,r,e,h1,h2⟩:=h
   exact ⟨v,r,e,h1.abide hc hN,ih r h2⟩
def qnJ:Obj→Bool
 | .map _ _ _=>false
 | .chan .. =>false
 | .famS .. =>false
 |_=>true
theorem ORd.abide {w w':World} {N N':Bool→Nat→Prop} {K:Kn} (hc:∀p v,w.cell? p=some v→w'.cell? p=some v) (hN:∀fr b,N fr b→N' fr b) {o:Obj} {gh:Gh} (hm:qnJ o=true) (hb:∀p,Has gh p→w'.heap[p.blk]?=w.heap[p.blk]?) (h:ORd w N K o gh):ORd w' N' K o gh:=by
 cases o with
 |row e fr xs=>
  refine ⟨h.1,?_⟩
  have h2:=h.2
  cases hp:gh.pl with
  |none=>rw [hp] at h2;exact h2
  |some p=>
   rw [hp] at h2
   obtain ⟨cs,h1,h2⟩:=h2
   exact ⟨cs,h1.keep (hb p (.inl hp)),h2.imp (fun _ _=>PRd.abide hc (hN fr))⟩
 |box t x=>
  obtain ⟨hs,p,cs,hp,h1,h2⟩:=h
  exact ⟨hs,p,cs,hp,h1.keep (hb p (.inl hp)),h2.abide hc hN⟩
 |cell v=>
  obtain ⟨hs,p,c,hp,h1,h2⟩:=h
  exact ⟨hs,p,c,hp,h1.keep (hb p (.inl hp)),h2.abide hc hN⟩
 |map k v es=>cases hm
 |chan e fr cap xs cl=>cases hm
 |famS a e xs=>cases hm
 |fam e xss=>
  obtain ⟨hf,ps,hs,ha,h⟩:=h
  refine ⟨hf,ps,hs,ha,?_⟩
  cases hp:gh.pl with
  |none=>rw [hp] at h;exact h
  |some p=>
   rw [hp] at h
   obtain ⟨cs,h1,h2⟩:=h
   exact ⟨cs,h1.keep (hb p (.inl hp)),h2.keep hf (fun q hq=>hb q (.inr (by rw [hs];exact hq)))⟩
theorem InBlk.isCells {w:World} {p:Plc} {cs:List Value} (h:InBlk w p cs):∃o:Go.Obj,w.heap[p.blk]?=some o∧o.isCells=true:=by
 obtain ⟨arr,T,fz,h1,_⟩:=h
 exact ⟨_,h1,rfl⟩
theorem FamRd.isCells {w:World} {e:Ty}:∀{xss:List (List (pden e))} {ps:List (Nat×Option Plc)} {cs:List Value} {q:Plc},FamRd w e xss ps cs→some q∈ps.map (·.2)→∃o:Go.Obj,w.heap[q.blk]?=some o∧o.isCells=true
 |[],_,_,q,h,hq=>by obtain ⟨rfl,_⟩:=h;simp at hq
 |xs::r,_,_,q,h,hq=>by
  obtain ⟨p,ps',v,cs',rfl,rfl,h1,h2⟩:=h
  simp only [wI,wZ] at hq
  rcases hq with hq|hq
  ·subst hq
   obtain ⟨o,cap,cl,a1,a2,a3,a4,a5⟩:=h1
   exact a4.isCells
  ·exact h2.isCells hq
theorem ORd.isCells {w:World} {N:Bool→Nat→Prop} {K:Kn} {o:Obj} {gh:Gh} (hm:qnJ o=true) (h:ORd w N K o gh) {p:Plc} (hp:Has gh p):∃ob:Go.Obj,w.heap[p.blk]?=some ob∧ob.isCells=true:=by
 cases o with
 |row e fr xs=>
  obtain ⟨h1,h2⟩:=h
  rcases hp with hp|hp
  ·rw [hp] at h2
   obtain ⟨cs,h3,_⟩:=h2
   exact h3.isCells
  ·rw [h1] at hp;simp [Shp.ex] at hp
 |box t x=>
  obtain ⟨hs,q,cs,hq,h1,h2⟩:=h
  rcases hp with hp|hp
  ·rw [hq] at hp;injection hp with hp;subst hp;exact h1.isCells
  ·rw [hs] at hp;simp [Shp.ex] at hp
 |cell v=>
  obtain ⟨hs,q,cs,hq,h1,h2⟩:=h
  rcases hp with hp|hp
  ·rw [hq] at hp;injection hp with hp;subst hp;exact h1.isCells
  ·rw [hs] at hp;simp [Shp.ex] at hp
 |map k v es=>cases hm
 |chan e fr cap xs cl=>cases hm
 |famS a e xs=>cases hm
 |fam e xss=>
  obtain ⟨hf,ps,hs,ha,h⟩:=h
  cases hpl:gh.pl with
  |none=>
   rw [hpl] at h
   rcases hp with hp|hp
   ·rw [hpl] at hp;cases hp
   ·rw [hs,h.2] at hp;simp [Shp.ex] at hp
  |some p0=>
   rw [hpl] at h
   obtain ⟨cs,h1,h2⟩:=h
   rcases hp with hp|hp
   ·rw [hpl] at hp;injection hp with hp;subst hp;exact h1.isCells
   ·rw [hs] at hp;exact h2.isCells hp
section
variable {c:Cx} {P:Program} {GT:qmi} {H:qBc} {K:Kn} {w w':World}
theorem Inv.abide (h:Inv c H K w) {row:Option Nat} (hg:w.grownBy w' row) (hr:∀r,row=some r→c.w0.heap.size≤r∧∃o:Go.Obj,w.heap[r]?=some o∧o.isCells=false) (hm:∀l o,H l=some o→qnJ o=true):
  Inv c H K w'∧(∀fr b,NN c H K w fr b→NN c H K w' fr b):=by
 have hN:∀fr b,NN c H K w fr b→NN c H K w' fr b:=fun fr b hb=>⟨wfa hb.1 hg.size,hb.2⟩
 have hcell:∀p v,w.cell? p=some v→w'.cell? p=some v:=fun p v hv=>cell_kept hv hg (fun r e=>(hr r e).2)
 refine ⟨⟨fun l o hl=>?_,fun l o gh p h1 h2 h3=>?_,h.inj,?_⟩,hN⟩
 ·obtain ⟨gh,g1,g2⟩:=h.objs l o hl
  refine ⟨gh,g1,g2.abide hcell hN (hm l o hl) (fun p hp=>?_)⟩
  obtain ⟨ob,h1,h2⟩:=g2.isCells (hm l o hl) hp
  exact grownBy_keeps_cells hg (fun r e=>(hr r e).2) h1 h2
 ·have:=h.own l o gh p h1 h2 h3
  exact ⟨wfa this.1 hg.size,this.2⟩
 ·refine ⟨hg.os.trans h.fr.os,hg.tape.trans h.fr.tape,hg.output.trans h.fr.output,wma h.fr.size hg.size,fun k hk hG=>(hg.block k (wfa hk h.fr.size) (fun e=>?_)).trans (h.fr.block k hk hG)⟩
  have:=(hr k e.symm).1
  omega
end
section
variable {c:Cx} {P:Program} {GT:qmi} {nt:Nat} {mnz:List Nat} {tab:List (Summ P GT)} {R:Type} {lf fin:Pos→Option R} {r:R}
theorem Glob.abide {w w':World} (h:Glob P GT w) {row:Option Nat} (hg:w.grownBy w' row) (hr:∀r,row=some r→∃o:Go.Obj,w.heap[r]?=some o∧o.isCells=false):Glob P GT w':=by
 have hcell:∀p v,w.cell? p=some v→w'.cell? p=some v:=fun p v hv=>cell_kept hv hg hr
 refine ⟨wma h.1 hg.size,fun g t x hl=>?_,fun g hl=>?_,fun g hl=>?_⟩
 ·obtain ⟨a,b,cs,d,e⟩:=h.2.1 g t x hl
  exact ⟨a,b,cs,d.abide hcell,e.abide hcell (fun _ h=>h)⟩
 ·obtain ⟨u,ty,a,b,d,e⟩:=h.2.2.1 g hl
  exact ⟨u,ty,a,b,d,hcell _ _ e⟩
 ·obtain ⟨m,e⟩:=h.2.2.2 g hl
  exact ⟨m,hcell _ _ e⟩
theorem RelS.abide {σ:St} {K:Kn} {a:Act} {w w':World} (h:RelS c P GT nt σ K a w) {row:Option Nat} (hg:w.grownBy w' row) (hr:∀r,row=some r→c.w0.heap.size≤r∧∃o:Go.Obj,w.heap[r]?=some o∧o.isCells=false) (hm:∀l o,qvb σ.heap l=some o→qnJ o=true):RelS c P GT nt σ K a w':=by
 obtain ⟨h1,h2⟩:=h.rel.inv.abide hg hr hm
 have hcell:∀p v,w.cell? p=some v→w'.cell? p=some v:=fun p v hv=>cell_kept hv hg (fun r e=>(hr r e).2)
 exact ⟨⟨h1,fun t=>(h.rel.tmps t).abide hcell h2,h.rel.size,h.rel.defers,h.rel.ng,h.rel.gng,h.rel.glob.abide hg (fun r e=>(hr r e).2)⟩,h.fresh⟩
theorem qoM {F:Fence} (hF:∀f,F.fn f) (hd:F.depth=none) {n:Nat} {o:Oper} {a:Act} {w:World} {R:Value→World→Prop} {next:Act→World→Prop} {Q:Exit→Act→World→Prop} (hnd:∀c,o.op≠ .defer c) (hwide:∀f args w R n,Calls P f args w R→CallsIn F n P f args w R)
  (h:Does P o a.eval w R) (hn:∀v w',R v w'→next (a.put o.dst v) w'):o.wpIn F n P a w next Q:=by
 refine ⟨fun f _=>hF f,?_⟩
 rw [Oper.semAt_eq _ _ _ hnd]
 unfold Does at h
 generalize (execOp a.eval o).run P w=r at h ⊢
 cases r with
 |ok nx w'=>
  cases nx <;> simp only at h
  case value v=>exact hn v w' h
  case skip=>exact hn _ w' h
  case enter f args=>
   refine ⟨fun h0=>(by rw [hd] at h0;cases h0),hwide _ _ _ _ _ (Calls.mono h ?_)⟩
   rintro e w'' ⟨v,rfl,h2⟩
   exact hn v w'' h2
 |halt x w'=>exact h.elim
theorem Does.mono {o:Oper} {ρ:Operand→Value} {w:World} {R R':Value→World→Prop} (h:Does P o ρ w R) (hr:∀v w',R v w'→R' v w'):Does P o ρ w R':=by
 unfold Does at h ⊢
 split at h
 ·exact hr _ _ h
 ·exact hr _ _ h
 ·refine Calls.mono h ?_
  rintro e w'' ⟨v,e1,h2⟩
  exact ⟨v,e1,hr _ _ h2⟩
 ·exact h.elim
theorem qKN (hm:∀f∈mnz,qpA P f) {T:Nat→TV} {H:qBc} {K:Kn} {a:Act} {w:World} {nl:Nat} (R0:Rel c P GT nt T H K a w) {ops:Array Oper} {i:Nat} {o:Oper} {ts:List Nat} {k:Ev→Tr}
  (h:den lf fin (opN P GT mnz tab false ops.toList (Ab.keepT ts T) H nl i o k)=some r) (hdk:∀e,den lf fin (k e)=some r→qum nt o.dst=true)
  (hf:∀l,nl≤l→l<nl+8→K l=none):
  (wtb o (yielded ops a.tmps)=true∧Does P o a.eval w fun u w'=>∃e K',den lf fin (k e)=some r∧Rel c P GT nt (qYy T o.dst e.v) (qJb H e.upd) K' (a.put o.dst u) w'∧(∀l,K' l=K l∨(nl≤l∧l<nl+8))∧w.heap.size≤w'.heap.size∧KeepK w w' (NN c H K w) (NN c (qJb H e.upd) K' w') K K')∨
  (wtb o (yielded ops a.tmps)=false∧∃e,den lf fin (k e)=some r∧Rel c P GT nt (qYy T o.dst e.v) (qJb H e.upd) K (a.put o.dst undef) w∧KeepK w w (NN c H K w) (NN c (qJb H e.upd) K w) K K):=by
 unfold opN at h
 split at h
 ·rename_i y hy
  simp only [wN,if_false] at hy
  split at hy
  ·rename_i hw
   refine .inl ⟨qMj R0 hw,?_⟩
   obtain ⟨h0,h⟩:=qSn h
   simp only [den] at h
   have A:At c P GT H (qhe H []) K w (Ab.evT GT (Ab.keepT ts T)) a.eval nl:=
    ⟨R0.inv,qml,fun x=>R0.keepT ts x,hf,R0.ng,R0.glob,R0.gng⟩
   refine Does.mono (qbF A hm hy h0) ?_
   rintro u w' ⟨x,hx,K',S,hu⟩
   obtain ⟨v',c',os,h1,h2,h3⟩:=qoq (qwj h x hx)
   have hv:TVRd w' (NN c (qJb H (y.out x).upd) K' w') K' v' u:=by
    have hdec:=h1 []
    unfold qRn at hdec
    split at hdec
    ·split at hdec
     ·rename_i b c'' os'' hb hos
      simp only [wc,wk] at hdec
      obtain ⟨rfl,rfl,_⟩:=hdec
      rw [hb] at hu
      have:b=c'':=h2.1
      rw [←this];exact hu
     ·cases hdec
    ·simp only [wc,wk] at hdec
     obtain ⟨rfl,rfl,_⟩:=hdec
     exact hu
   exact ⟨_,K',h3,R0.put S hv (hdk _ h3),S.fresh,S.size,S.keep⟩
  ·cases hy
 ·obtain ⟨e,c',os,h1,h2,h3⟩:=qNH h
  replace h1:=h1 []
  rw [wW] at h1
  unfold qjK at h1
  split at h1
  ·rename_i hw
   refine .inl ⟨qMj R0 hw,?_⟩
   unfold qaJ at h1
   split at h1
   ·rename_i oc os1 hoc
    simp only at h1
    split at h1
    ·rename_i out hout
     split at h1
     ·rename_i v c2 os2 hdec
      simp only [wc,wk] at h1
      obtain ⟨rfl,rfl,rfl⟩:=h1
      have hc1:qqh c2∧qqh out.conds:=by
       clear hdec
       induction c2 with
       |nil=>exact ⟨trivial,h2⟩
       |cons x xs ih=>exact ⟨⟨h2.1,(ih h2.2).1⟩,(ih h2.2).2⟩
      have A:At c P GT H (qhe H (qXF (Ab.evT GT (Ab.keepT ts T)) o.op++qhx oc)) K w (Ab.evT GT (Ab.keepT ts T)) a.eval nl:=
       ⟨R0.inv,qml,fun x=>R0.keepT ts x,hf,R0.ng,R0.glob,R0.gng⟩
      refine Does.mono (qMH A hout hc1.2) ?_
      rintro u w' ⟨K',S,hu⟩
      have hv:TVRd w' (NN c (qJb H out.upd) K' w') K' v u:=by
       unfold qRn at hdec
       split at hdec
       ·split at hdec
        ·rename_i b c' os'' hb
         simp only [wc,wk] at hdec
         obtain ⟨rfl,rfl,rfl⟩:=hdec
         rw [hb] at hu
         have:b=c':=hc1.1.1
         rw [←this];exact hu
        ·cases hdec
       ·simp only [wc,wk] at hdec
        obtain ⟨rfl,rfl,rfl⟩:=hdec
        exact hu
      exact ⟨_,K',h3,R0.put S hv (hdk _ h3),S.fresh,S.size,S.keep⟩
     ·cases h1
    ·cases h1
   ·cases h1
  ·rename_i hw
   refine .inr ⟨qMj R0 hw,?_⟩
   simp only [wc,wk] at h1
   obtain ⟨rfl,rfl,rfl⟩:=h1
   have S:=Stp.refl R0.inv nl
   exact ⟨_,h3,R0.put S rfl (hdk _ h3),S.keep⟩
  ·cases h1
theorem qnL {F:Fence} (hF:∀f,F.fn f) (hd:F.depth=none) {n:Nat} (hwide:∀f args w R n,Calls P f args w R→CallsIn F n P f args w R) (hm:∀f∈mnz,qpA P f) {ops:Array Oper} (hnd:∀o∈ops.toList,∀cl,o.op≠ .defer cl) {Q:Exit→Act→World→Prop} {n0:Nat}:∀(q:List Oper) (i:Nat) (σ:St) (k:St→List (Oper×Ev)→Tr) (K:Kn) (a:Act) (w:World),
  den lf fin (qHN P GT nt mnz tab false ops.toList i q σ k)=some r→ops.toList.drop i=q→i+q.length=ops.size→σ.next=n0→Rel c P GT nt σ.look (qvb σ.heap) K a w→(∀l,n0+8*i≤l→K l=none)→
  (∀σ' tr a' w' K',den lf fin (k σ' tr)=some r→σ'.next=n0→Rel c P GT nt σ'.look (qvb σ'.heap) K' a' w'→(∀l,n0+8*ops.size≤l→K' l=none)→w.heap.size≤w'.heap.size→KeepK w w' (NN c (qvb σ.heap) K w) (NN c (qvb σ'.heap) K' w') K K'→Q .normal a' w')→
  wpOpsIn F n P ops Q (web i q.length) a w
 |[],i,σ,k,K,a,w,h,hr,hi,hn,R0,hf,hQ=>by
  simp only [wX] at hi
  exact hQ σ [] a w K h hn R0 (fun l hl=>hf l (by omega)) (ws _) (KeepK.refl _ _ _)
 |o::q,i,σ,k,K,a,w,h,hr,hi,hn,R0,hf,hQ=>by
  simp only [qHN] at h
  have hoi:ops[i]?=some o:=by
   rw [←wla,←List.head?_drop,hr];rfl
  have hom:o∈ops.toList:=List.mem_of_getElem? (by rw [wla];exact hoi)
  have hr2:ops.toList.drop (i+1)=q:=by
   rw [←List.tail_drop,hr];rfl
  rw [wz,List.range'_succ,wpOpsIn_cons]
  unfold wpOpIn
  rw [hoi]
  have go:∀a' w' K' e,den lf fin (if qum nt o.dst=true then qHN P GT nt mnz tab false ops.toList (i+1) q (σ.put o.dst e) fun σ' tr=>k σ' ((o,e)::tr) else .dead)=some r→Rel c P GT nt (qYy σ.look o.dst e.v) (qJb (qvb σ.heap) e.upd) K' a' w'→(∀l,K' l=K l∨(σ.next+8*i≤l∧l<σ.next+8*i+8))→w.heap.size≤w'.heap.size→KeepK w w' (NN c (qvb σ.heap) K w) (NN c (qJb (qvb σ.heap) e.upd) K' w') K K'→
    wpOpsIn F n P ops Q (web (i+1) q.length) a' w':=by
   intro a' w' K' e he R' hk hsz hmn
   rw [qps,qEo (dst:=o.dst)] at R'
   rw [qEo (dst:=o.dst)] at hmn
   split at he
   ·refine qnL hF hd hwide hm hnd q (i+1) (σ.put o.dst e) _ K' a' w' he hr2 (by simp only [wz] at hi;omega) hn R' (fun l hl=>?_) (fun σ' tr a'' w'' K'' g1 g2 R'' h1 hsz2 h2=>hQ σ' _ a'' w'' K'' g1 g2 R'' h1 (wma hsz hsz2) (hmn.trans h2))
    rcases hk l with h1|h1
    ·rw [h1];exact hf l (by omega)
    ·omega
   ·cases he
  rcases qKN hm R0 h (fun e he=>by
   split at he
   ·assumption
   ·cases he) (fun l h1 h2=>hf l (by omega)) with ⟨hw,hdo⟩|⟨hw,e,he,R',hk⟩
  ·simp only [hw,if_true]
   refine qoM hF hd (hnd o hom) hwide hdo ?_
   rintro u w' ⟨e,K',he,R',hk,hsz,hmn⟩
   exact go _ _ K' e he R' hk hsz hmn
  ·simp only [hw,wN,if_false]
   exact ⟨fun f _=>hF f,go _ _ K e he R' (fun _=> .inl rfl) (ws _) hk⟩
theorem qPK {F:Fence} (hF:∀f,F.fn f) (hd:F.depth=none) {n:Nat} (hwide:∀f args w R n,Calls P f args w R→CallsIn F n P f args w R) (hm:∀f∈mnz,qpA P f) {id:Nat} {ops:Array Oper} (hnd:∀o∈ops.toList,∀cl,o.op≠ .defer cl) (hsp:spR P ops.toList=false) {σ:St} {k:St→Tr} {K:Kn} {a:Act} {w:World}
  (h:den lf fin (qTo P GT nt mnz tab ops.toList false σ k)=some r) (R0:RelS c P GT nt σ K a w) {Q:Exit→Act→World→Prop}
  (hQ:∀σ' K' a' w',den lf fin (k σ')=some r→RelS c P GT nt σ' K' a' w'→w.heap.size≤w'.heap.size→KeepK w w' (NN c (qvb σ.heap) K w) (NN c (qvb σ'.heap) K' w') K K'→Q .normal a' w'):
  (Code.region id ops false).wpIn F n P Q a w:=by
 unfold qTo at h
 rw [if_neg (by rw [hsp];decide)] at h
 refine wpIn_region ?_
 have:=qnL hF hd hwide hm hnd (Q:=Q) (n0:=σ.next) (n:=n) ops.toList 0 σ _ K a w h (by simp) (by simp) rfl R0.rel (fun l hl=>R0.fresh l (by omega)) (fun σ' tr a' w' K' g1 g2 R' g3 gs g4=>by
  simp only [Bool.not_false,Bool.true_or,if_true] at g1
  exact hQ {σ' with next:=σ.next+8*ops.toList.length} K' a' w' g1 ⟨R',fun l hl=>g3 l (by simpa using hl)⟩ gs g4)
 rw [List.range_eq_range']
 simpa using this
theorem KeepK.others {σ σ':St} {K K':Kn} {a a':Act} {w w':World} (R0:RelS c P GT nt σ K a w) (R':RelS c P GT nt σ' K' a' w') (h:KeepK w w' (NN c (qvb σ.heap) K w) (NN c (qvb σ'.heap) K' w') K K') (hm:∀l o,qvb σ.heap l=some o→qnJ o=true) (hG:∀b,c.G b→qqc (qvb σ.heap) K b) (hs:w.heap.size≤w'.heap.size):KeepsOthers w w':=by
 refine ⟨hs,fun b o hb hno=>?_⟩
 have hlt:=(Array.getElem?_eq_some_iff.1 hb).1
 by_cases hlive:qqc (qvb σ.heap) K b
 ·exfalso
  obtain ⟨l,ob,gh,p,h1,h2,h3,rfl⟩:=hlive
  obtain ⟨gh',g1,g2⟩:=R0.rel.inv.objs l ob h1
  rw [h2] at g1;injection g1 with g1;subst g1
  obtain ⟨ob2,e1,e2⟩:=g2.isCells (hm l ob h1) h3
  rw [hb] at e1;injection e1 with e1;subst e1
  rw [hno] at e2;cases e2
 ·by_cases h0:c.w0.heap.size≤b
  ·exact (((h.n true).k b ⟨hlt,hlive, .inl h0⟩).2).trans hb
  ·have hnG:¬c.G b:=fun hg=>hlive (hG b hg)
   rw [R'.rel.inv.fr.block b (by omega) hnG,←R0.rel.inv.fr.block b (by omega) hnG]
   exact hb
theorem RelS.keep {σ σ':St} {K:Kn} {a:Act} {w:World} {ts:List Nat} {ren:List (Nat×Nat)} {nx:Nat} {lo:Bool} (R0:RelS c P GT nt σ K a w) (h:σ.keep ts ren nx lo=some σ'):
  ∃K',RelS c P GT nt σ' K' a w∧(∀l,l<8→K' l=K l)∧(∀b,NN c (qvb σ.heap) K w false b→NN c (qvb σ'.heap) K' w false b)∧(∀l m,qDe ren l=some m→K' m=K l)∧∀l o gh p,qDe ren l=none→qvb σ.heap l=some o→K l=some gh→Has gh p→NN c (qvb σ'.heap) K' w false p.blk:=by
 unfold St.keep at h
 split at h
 ·rename_i hok
  split at h
  ·rename_i tl hl0 e1 e2
   simp only [wc] at h;subst h
   obtain ⟨K',X,hI,h8,hx⟩:=qOx R0 hok e2
   refine ⟨K',⟨⟨hI,fun t=>?_,R0.rel.size,R0.rel.defers,R0.rel.ng,R0.rel.gng,R0.rel.glob⟩,fun l hl=>hx l hl⟩,h8,fun b hb=>by simpa using X.n false b hb,X.k,fun l o gh p h1 h2 h3 h4=>by simpa using X.gone l o gh p trivial h1 h2 h3 h4 false⟩
   show TVRd w (NN c (qvb hl0) K' w) K' (St.look ⟨tl,hl0,nx⟩ t) _
   unfold St.look
   split
   ·rename_i v hv
    exact qQx X R0.rel.inv (fun _ _ h=>h) (fun _ _=>trivial) (qCr e1 hv) (R0.rel.tmps t)
   ·trivial
  ·cases h
 ·cases h
def qoD (σ:St) (ts:List Nat) (pre:Bool):List (Nat×Nat):=
 let lk:=qvb σ.heap
 let locs:=qVw lk true 60 ((if pre then (List.range 8).filter fun l=>(lk l).isSome else [])++ts.flatMap fun t=>qUm (σ.look t)) []
 (locs.filter (·<8)).map (fun l=>(l,l))++qvR 8 (locs.filter fun l=>!(l<8))
theorem RelS.keepSt {σ σ':St} {K:Kn} {a:Act} {w:World} {ts:List Nat} {lo pre:Bool} (R0:RelS c P GT nt σ K a w) (h:Ab.keepSt σ ts lo pre=some σ'):
  ∃K',RelS c P GT nt σ' K' a w∧(∀l,l<8→K' l=K l)∧(∀b,NN c (qvb σ.heap) K w false b→NN c (qvb σ'.heap) K' w false b)∧(∀l m,qDe (qoD σ ts pre) l=some m→K' m=K l)∧∀l o gh p,qDe (qoD σ ts pre) l=none→qvb σ.heap l=some o→K l=some gh→Has gh p→NN c (qvb σ'.heap) K' w false p.blk:=R0.keep h
theorem Inv.df {H:qBc} {K:Kn} {w:World} (h:Inv c H K w) (d:List Deferred):Inv {c with df:=d} H K w:=⟨h.objs,h.own,h.inj,⟨h.fr.os,h.fr.tape,h.fr.output,h.fr.size,h.fr.block⟩⟩
theorem RelS.df {σ:St} {K:Kn} {a:Act} {w:World} (h:RelS c P GT nt σ K a w) (d:List Deferred):RelS {c with df:=d} P GT nt σ K {a with defers:=d} w:=
 ⟨⟨h.rel.inv.df d,h.rel.tmps,h.rel.size,rfl,h.rel.ng,h.rel.gng,h.rel.glob⟩,h.fresh⟩
theorem RelS.act {σ σ':St} {K:Kn} {a a':Act} {w:World} (h:RelS c P GT nt σ K a w) (hh:σ'.heap=σ.heap) (hn:σ'.next=σ.next) (hs:a'.tmps.size=a.tmps.size) (hd:a'.defers=a.defers)
  (ht:∀t,TVRd w (NN c (qvb σ.heap) K w) K (σ'.look t) (a'.eval (.tmp t))):RelS c P GT nt σ' K a' w:=by
 refine ⟨⟨by rw [hh];exact h.rel.inv,by rw [hh];exact ht,hs.trans h.rel.size,hd.trans h.rel.defers,h.rel.ng,h.rel.gng,h.rel.glob⟩,by rw [hn];exact h.fresh⟩
end
def qjR:Code→Bool
 | .seq _ _=>true
 |_=>false
def qZP:Code→Bool
 | .cond _ _ _=>true
 |_=>false
def qQN:Code→Bool
 | .block _ _=>true
 |_=>false
def qDS:Code→Nat
 | .block i _=>i
 |_=>0
def qpQ:Code→Operand
 | .cond o _ _=>o
 |_=> .tmp 0
def qSS:Code→List Oper
 | .region _ ops _=>ops.toList
 |_=>[]
def qsL:Oper→Bool:=fun o=>match o.op with
 | .defer _=>false
 | .send _ _=>false
 | .recv _ _ _=>false
 |_=>true
def qWO (P:Program):Code→Bool
 | .region _ ops false=>(ops.toList.all fun o=>qsL o)&&!spR P ops.toList
 |_=>false
def qfT:Code→Bool
 | .rangeFunc _ _ _ _=>true
 |_=>false
def rfF:Code→Operand
 | .rangeFunc f _ _ _=>f
 |_=> .tmp 0
def rfP:Code→Array Tmp
 | .rangeFunc _ p _ _=>p
 |_=>#[]
def rfA:Code→Code
 | .rangeFunc _ _ a _=>a
 |_=> .skip
def rfB:Code→Code
 | .rangeFunc _ _ _ b=>b
 |_=> .skip
theorem rfC {c:Code} (h:qfT c=true):c= .rangeFunc (rfF c) (rfP c) (rfA c) (rfB c):=by
 cases c <;> first|(cases h;done)|rfl
section
variable {F:Fence} {n:Nat} {P:Program} {Q:Exit→Act→World→Prop} {a:Act} {w:World}
theorem qkr {c:Code} (hs:qjR c=true) (h:(qHa c).wpIn F n P (Exit.then ((qaa c).wpIn F n P Q) Q) a w):c.wpIn F n P Q a w:=by
 cases c <;> first|(cases hs;done)|exact wpIn_seq h
theorem qVE {c:Code} (hs:qQN c=true) (h:(cIn c).wpIn F n P (Exit.inBlock (qDS c) Q) a w):c.wpIn F n P Q a w:=by
 cases c <;> first|(cases hs;done)|exact wpIn_block h
theorem qbO {c:Code} {t:Bool} (hs:qZP c=true) (hc:a.eval (qpQ c)= .bool t) (h:(if t then qJQ c else qWS c).wpIn F n P Q a w):c.wpIn F n P Q a w:=by
 cases c <;> first|(cases hs;done)|exact wpIn_cond hc h
end
section
variable {c:Cx} {P:Program} {GT:qmi} {nt:Nat} {mnz:List Nat} {tab:List (Summ P GT)} {R:Type} {lf fin:Pos→Option R} {r:R}
theorem qUo {F:Fence} (hF:∀f,F.fn f) (hd:F.depth=none) {n:Nat} (hwide:∀f args w R n,Calls P f args w R→CallsIn F n P f args w R) (hm:∀f∈mnz,qpA P f) {cd:Code} (hok:qWO P cd=true) {σ:St} {k:St→Tr} {K:Kn} {a:Act} {w:World}
  (h:den lf fin (qTo P GT nt mnz tab (qSS cd) false σ k)=some r) (R0:RelS c P GT nt σ K a w) {Q:Exit→Act→World→Prop}
  (hQ:∀σ' K' a' w',den lf fin (k σ')=some r→RelS c P GT nt σ' K' a' w'→w.heap.size≤w'.heap.size→KeepK w w' (NN c (qvb σ.heap) K w) (NN c (qvb σ'.heap) K' w') K K'→Q .normal a' w'):
  cd.wpIn F n P Q a w:=by
 cases cd with
 |region id ops draw=>
  cases draw with
  |true=>cases hok
  |false=>
   simp only [qWO,wA,wRa] at hok
   refine qPK hF hd hwide hm (fun o ho=>?_) hok.2 h R0 hQ
   have:=wwa.1 hok.1 o ho
   unfold qsL at this
   exact fun cl he=>(by rw [he] at this;cases this)
 |_=>cases hok
theorem qqF {l:Nat}:∀f args w R n,Calls P f args w R→CallsIn (Fence.wide.inRound l) n P f args w R:=fun f args w R n h=>CallsIn.inRound l (callsIn_wide.2 h)
theorem qZr:∀f args w R n,Calls P f args w R→CallsIn Fence.wide n P f args w R:=fun f args w R n h=>callsIn_wide.2 h
end
end Go.Ab

/-
  A law's row where the world's shape is kept: some int stands in a variable that no one lists.
-/
set_option linter.unusedVariables false
namespace Go.Ab
open Go
variable {H:Type} {enc:TypeId×Value→H}
theorem returns_shaped {C:Checked} {os:Os} {f:FuncId} {fn:Func} {s:ChangeSpec} {conds:List PathCond} {apart:Bool} {X:World→Prop}
  (hX:∀w w':World,w.heap=w'.heap→X w→X w') (own:ownKnob C.prog.godebug=none) (started:os.Started) (noInit:C.prog.inits.idxOf? f=none) (hfn:C.prog.funcs[f]?=some fn)
  (wit:∃(w:World) (tape:Tape) (i:Input),w.os=os∧(w.forCall tape i).Shaped C.prog∧i.vars=[]∧Input.okWide C.prog (w.forCall tape i) .any w.heap.size f i∧
   ((s.pre enc C.prog fn conds apart (w.forCall tape i).memory i.args∧X (w.forCall tape i).memory)∧sizedMet enc C.prog fn (OpenSpec.ofChange s) apart (w.forCall tape i).memory i.args)∧Assume.holds {} C.prog (lone (Frame.enter C.prog f i.args .normal) [] (w.forCall tape i)))
  (con:∀(W:World) (base:Nat) (args:Array Value) (ds gs:List (DataW H)) (before:List MemPlace),X W→W.ShapedOpen C.prog→
   (∀(j:Nat) t v,fn.params[j]?=some t→args[j]?=some v→Value.okWide C.prog W .any base t v)→DataW.Whole enc C.prog fn.params.toList s.vars apart W args.toList ds gs before→
   Calls C.prog f args W fun e W'=>∃v,e= .returned v∧s.post enc C.prog fn apart true false false W args v W'):
  ReturnsInHanded {} C os f .any (fun w args=>(s.pre enc C.prog fn conds apart w args∧X w)∧sizedMet enc C.prog fn (OpenSpec.ofChange s) apart w args) (s.post enc C.prog fn apart true false false):=by
 refine returnsInHanded_of_calls own started noInit wit fun w tape i _ hs _ ok pre _=>?_
 obtain ⟨_,_,_,fn',e',_,_,_,_,hv⟩:=ok
 obtain rfl:fn'=fn:=Option.some.inj (e'.symm.trans hfn)
 obtain ⟨⟨⟨ds,gs,before,hw,_⟩,hx⟩,_⟩:=pre
 refine (con (w.forCall tape i) w.heap.size i.args ds gs before (hX _ _ (by rfl) hx) hs hv (DataW.Whole.of_heap (w':=w.forCall tape i) (by rfl) hw)).mono fun e W' ⟨v,he,hp⟩=>?_
 subst he
 exact ChangeSpec.post_blind hp
end Go.Ab
