/-
  An abstract machine over the model's code and its soundness; what the functions compute, as plain functions (printed by a program of this repo's own, checked here by the kernel); plain laws of them: part 3. Helper text, no statement of the claim stands here.
-/
import Derived.Test.YtbpfanppapbdpaaGreatDoorTxtTb
import Derived.WalkKit
import Derived.ProofKit
import Derived.OpenShut
import Derived.ShutString
import Derived.ChangeOld
import Derived.Below
import Derived.SizedLaws
import Derived.LaidMore
import Derived.RangeFuncFrom
import Derived.RangeFuncLeaves
import Derived.RangeFuncCalls
import Derived.OrdersIn
import Derived.Shelf.Vars
open Array renaming getElem?_toList → wfa
open Bool renaming and_eq_true → wz, false_eq_true → wI, not_eq_true → wWa, not_eq_true' → wqb
open ByteArray renaming toList → wW
open Go.IntKind renaming wrap → wd
open Go.Region renaming wanted → wob
open Go.Value renaming cells → wpb
open List renaming all_eq_true → wAa, append_assoc → wB, append_nil → wQ, cons_append → wba, contains_eq_mem → wva, flatMap_cons → wib, getElem?_eq_getElem → wx, length_cons → ww, length_nil → wN, map_cons → wJ, map_nil → wKa, mem_append → wR, mem_cons → wU, mem_cons_of_mem → wH, mem_singleton → wT, range' → wab
open Nat renaming le_refl → ws, le_trans → wia, lt_of_lt_of_le → wY
open Ne renaming symm → wGa
open Option renaming bind_eq_some_iff → wcb, isSome_iff_exists → wEa, map_some → wCa
open Option.some renaming injEq → wc
open Prod.mk renaming injEq → wk
/-
  The forms of results: what a function returns, and leaves, as plain values.
-/
set_option linter.unusedVariables false
set_option linter.unusedSimpArgs false
namespace Go.Ab
open Go
inductive SF
 |pu|nw|kp (n:Nat)
inductive FI
 |val (t:Ty) (sf:List SF)
 |err (T:Nat) (k:IntKind)
 |box (j:Nat) (t:Ty) (sf:List SF)
 |row (j:Nat) (e:Ty)
 |map (j:Nat) (k v:Ty)
 |cmap (j n:Nat)
 |fams (j:Nat) (a e:Ty)
 |part (e:Ty)
 |sub (j:Nat) (e:Ty)
 |cst (v:AV)
 |cfn (j f:Nat) (caps:List Nat)
 |clo (f:Nat) (t:Ty)
@[reducible] def FI.den:FI→Type
 | .val t _=>pden t
 | .err _ _=>Option Int
 | .box _ t _=>pden t
 | .row _ e=>List (pden e)
 | .map _ k v=>List (pden k×pden v)
 | .cmap _ _=>Unit
 | .fams _ a e=>List (pden a×List (pden e))
 | .part e=>List (pden e)×Nat×Nat
 | .sub _ _=>Nat×Nat
 | .cst _=>Unit
 | .cfn _ _ _=>Unit
 | .clo _ t=>pden t
@[reducible] def PT:List FI→Type
 |[]=>Unit
 |[a]=>a.den
 |a::b::r=>a.den×PT (b::r)
def qEL (fr:Bool):(t:Ty)→pden t→List SF→Nat→qke t×List SF×Nat
 | .pair a b,x,sf,k=>match qEL fr a x.1 sf k with
   |(u,sf1,k1)=>match qEL fr b x.2 sf1 k1 with
    |(v,sf2,k2)=>((u,v),sf2,k2)
 | .slice _,xs,sf,k=>match sf with
   | .nw::r=>(.ref k 0 xs.length true,r,k+1)
   | .kp n::r=>(.ref n 0 xs.length true,r,k)
   | .pu::r=>(.pure fr xs,r,k)
   |[]=>(.pure fr xs,[],k)
 | .int _,x,sf,k=>(x,sf,k)
 | .bool,x,sf,k=>(x,sf,k)
 | .str,x,sf,k=>(x,sf,k)
 | .arr _ _,x,sf,k=>(x,sf,k)
 | .unit,x,sf,k=>(x,sf,k)
 | .fn,x,sf,k=>(x,sf,k)
def qBC (fr:Bool):(t:Ty)→pden t→List SF→Nat→List (Nat×Obj)
 | .pair a b,x,sf,k=>match qEL fr a x.1 sf k with
   |(_,sf1,k1)=>qBC fr a x.1 sf k++qBC fr b x.2 sf1 k1
 | .slice e,xs,sf,k=>match sf with
   | .nw::_=>[(k, .row e fr xs)]
   |_=>[]
 |_,_,_,_=>[]
structure Enc where
 vs:List AV
 os:List (Nat×Obj)
 rs:List (Nat×Obj)
 k:Nat
def qZx (fr:Bool):(i:FI)→i.den→Nat→Enc
 | .val t sf,x,k=>match qEL fr t x sf k with
   |(u,_,k')=>⟨[qqC t u],[],qBC fr t x sf k,k'⟩
 | .err T ki,x,k=>⟨[.eri T ki x],[],[],k⟩
 | .box j t sf,x,k=>match qEL fr t x sf k with
   |(u,_,k')=>⟨[],[(j, .box t u)],qBC fr t x sf k,k'⟩
 | .row j e,xs,k=>⟨[],[(j, .row e fr xs)],[],k⟩
 | .map j kt vt,es,k=>⟨[],[(j, .map kt vt es)],[],k⟩
 | .fams j a e,xs,k=>⟨[],[(j, .famS a e xs)],[],k⟩
 | .cmap j n,_,k=>⟨[],[(j, .cell (.mapr n))],[],k⟩
 | .part e,x,k=>⟨[.ref e k x.2.1 x.2.2 false],[],[(k, .row e fr x.1)],k+1⟩
 | .sub j e,x,k=>⟨[.ref e j x.1 x.2 false],[],[],k⟩
 | .cst v,_,k=>⟨[v],[],[],k⟩
 | .cfn j f caps,_,k=>⟨[],[(j, .cell (.func f caps))],[],k⟩
 | .clo f t,x,k=>⟨[.func f [k]],[],[(k, .box t (inj fr t x))],k+1⟩
def qiI (fr:Bool):(is:List FI)→PT is→Nat→Enc
 |[],_,k=>⟨[],[],[],k⟩
 |[a],x,k=>qZx fr a x k
 |a::b::r,x,k=>match qZx fr a x.1 k with
  |e1=>match qiI fr (b::r) x.2 e1.k with
   |e2=>⟨e1.vs++e2.vs,e1.os++e2.os,e1.rs++e2.rs,e2.k⟩
def qXI:List AV→TV
 |[v]=> .one v
 |vs=> .tup vs
structure Fm where
 fr:Bool
 is:List FI
@[reducible] def Fm.R (F:Fm):Type:=PT F.is
def Fm.res (F:Fm) (r:F.R):TV:=qXI (qiI F.fr F.is r 8).vs
def Fm.post (F:Fm) (r:F.R):List (Nat×Obj):=(qiI F.fr F.is r 8).os++(qiI F.fr F.is r 8).rs
def qjG:(t:Ty)→qke t→List SF→Nat→List (Nat×Nat)×List SF×Nat
 | .pair a b,x,sf,k=>match qjG a x.1 sf k with
   |(r1,sf1,k1)=>match qjG b x.2 sf1 k1 with
    |(r2,sf2,k2)=>(r1++r2,sf2,k2)
 | .slice _,v,sf,k=>match sf with
   | .nw::r=>match v with
     | .ref l _ _ _=>([(k,l)],r,k+1)
     |_=>([],r,k+1)
   |_::r=>([],r,k)
   |[]=>([],[],k)
 | .int _,_,sf,k=>([],sf,k)
 | .bool,_,sf,k=>([],sf,k)
 | .str,_,sf,k=>([],sf,k)
 | .arr _ _,_,sf,k=>([],sf,k)
 | .unit,_,sf,k=>([],sf,k)
 | .fn,_,sf,k=>([],sf,k)
def outA (lk:qZb) (ren:List (Nat×Nat)) (fr:Bool):(t:Ty)→qke t→List SF→Nat→Option (pden t×List SF×Nat)
 | .pair a b,x,sf,k=>match outA lk ren fr a x.1 sf k with
   |some (u,sf1,k1)=>match outA lk ren fr b x.2 sf1 k1 with
    |some (v,sf2,k2)=>some ((u,v),sf2,k2)
    |none=>none
   |none=>none
 | .slice e,v,sf,k=>match v with
   | .pure f xs=>match sf with
     | .pu::r=>if f||!fr then some (xs,r,k) else none
     |[]=>if f||!fr then some (xs,[],k) else none
     |_=>none
   | .ref l off len wh=>match qjt lk e l with
     |some (f,xs)=>match sf with
      | .nw::r=>if wh&&(qOd ren l==some k)&&(f||!fr)&&(qhn lk e l).isSome then some (xs,r,k+1) else none
      | .kp n::r=>if wh&&(qOd ren l==some n) then some (xs,r,k) else none
      | .pu::r=>if (qOd ren l).isNone&&(f||e.flat||!fr) then some (seg xs off len wh,r,k) else none
      |[]=>if (qOd ren l).isNone&&(f||e.flat||!fr) then some (seg xs off len wh,[],k) else none
     |none=>none
   |_=>none
 | .int _,x,sf,k=>some (x,sf,k)
 | .bool,x,sf,k=>some (x,sf,k)
 | .str,x,sf,k=>some (x,sf,k)
 | .arr _ _,x,sf,k=>some (x,sf,k)
 | .unit,x,sf,k=>some (x,sf,k)
 | .fn,x,sf,k=>some (x,sf,k)
def qOL:AV→Bool
 | .agg _ _=>true
 |_=>false
def qdM:(t:Ty)→qke t→qke t→Bool
 | .pair a b,x,y=>qdM a x.1 y.1&&qdM b x.2 y.2
 | .unit,_,_=>true
 | .fn,x,y=>match x,y with
   |some f,some g=>f==g
   |none,none=>true
   |_,_=>false
 |_,_,_=>false
def qEN:AV→AV→Bool
 | .agg t x, .agg t' y=>if h:t'=t then qdM t x (h▸y) else false
 | .func f [], .func g []=>f==g
 | .nilFunc, .nilFunc=>true
 |_,_=>false
def qQq (fr:Bool):(t:Ty)→qke t→Bool
 | .pair a b,x=>qQq fr a x.1&&qQq fr b x.2
 | .slice _,v=>match v with
   | .pure f _=>f==fr
   |_=>false
 |_,_=>true
def qIz (lk:qZb):FI→List AV→Nat→List (Nat×Nat)×List AV×Nat
 | .val t sf,v::vs,k=>match qNo t v with
   |some x=>match qjG t x sf k with
    |(r,_,k')=>(r,vs,k')
   |none=>([],vs,k)
 | .err _ _,_::vs,k=>([],vs,k)
 | .part _,v::vs,k=>match v with
   | .ref _ l _ _ _=>([(k,l)],vs,k+1)
   |_=>([],vs,k+1)
 | .cst _,_::vs,k=>([],vs,k)
 | .sub _ _,_::vs,k=>([],vs,k)
 | .clo _ _,v::vs,k=>match v with
   | .func _ [l]=>([(k,l)],vs,k+1)
   |_=>([],vs,k+1)
 | .box j t sf,vs,k=>match lk j with
   |some (.box t' x)=>match qjG t' x sf k with
    |(r,_,k')=>(r,vs,k')
   |_=>([],vs,k)
 |_,vs,k=>([],vs,k)
def qAI (lk:qZb):List FI→List AV→Nat→List (Nat×Nat)
 |[],_,_=>[]
 |a::r,vs,k=>match qIz lk a vs k with
  |(r1,vs1,k1)=>r1++qAI lk r vs1 k1
def qst (lk:qZb) (ren:List (Nat×Nat)) (fr:Bool):(i:FI)→List AV→Nat→Option (i.den×List AV×Nat)
 | .val t sf,v::vs,k=>match qNo t v with
   |some x=>if qOL v==t.agg then match outA lk ren fr t x sf k with
     |some (u,_,k')=>some (u,vs,k')
     |none=>none
    else none
   |none=>none
 | .err T ki, .errno T' ki' n::vs,k=>if T=T'∧ki=ki' then some (some n,vs,k) else none
 | .err T ki, .nilIface::vs,k=>some (none,vs,k)
 | .err T ki, .eri T' ki' x::vs,k=>if T=T'∧ki=ki' then some (x,vs,k) else none
 | .box j t sf,vs,k=>match lk j with
   |some (.box t' x)=>if h:t'=t then match outA lk ren fr t (h▸x) sf k with
     |some (u,_,k')=>some (u,vs,k')
     |none=>none
    else none
   |_=>none
 | .row j e,vs,k=>match qhn lk e j with
   |some (f,xs)=>if f||!fr then some (xs,vs,k) else none
   |none=>none
 | .map j kt vt,vs,k=>match lk j with
   |some (.map k' v' es)=>if h:kt=k'∧vt=v' then some (h.1▸h.2▸es,vs,k) else none
   |_=>none
 | .fams j a e,vs,k=>match lk j with
   |some (.famS a' e' xs)=>if h:a=a'∧e=e' then some (h.1▸h.2▸xs,vs,k) else none
   |_=>none
 | .cmap j n,vs,k=>match lk j with
   |some (.cell (.mapr l))=>if qOd ren l==some n then some ((),vs,k) else none
   |_=>none
 | .part e, .ref e' l off len wh::vs,k=>if e'=e then match qhn lk e l with
   |some (f,xs)=>if (qOd ren l==some k)&&(f||!fr) then some (if wh then (xs,0,xs.length) else (xs,off,len),vs,k+1) else none
   |none=>none
  else none
 | .cst v,u::vs,k=>if qEN u v then some ((),vs,k) else none
 | .sub j e, .ref e' l off len wh::vs,k=>if e'=e then match qhn lk e l with
   |some (_,xs)=>if qOd ren l==some j then some (if wh then (0,xs.length) else (off,len),vs,k) else none
   |none=>none
  else none
 | .cfn j f caps,vs,k=>match lk j with
   |some (.cell (.func g cs))=>if g=f∧qOu ren cs=some caps then some ((),vs,k) else none
   |_=>none
 | .clo f t, .func g [l]::vs,k=>if g=f∧qOd ren l=some k then match lk l with
   |some (.box t' x)=>if h:t'=t then match qie lk ren (!fr) t (h▸x) with
     |some y=>match unj t y with
      |some u=>if qQq fr t y then some (u,vs,k+1) else none
      |none=>none
     |none=>none
    else none
   |_=>none
  else none
 |_,_,_=>none
def qbM (lk:qZb) (ren:List (Nat×Nat)) (fr:Bool):(is:List FI)→List AV→Nat→Option (PT is×List AV×Nat)
 |[],vs,k=>some ((),vs,k)
 |[a],vs,k=>qst lk ren fr a vs k
 |a::b::r,vs,k=>match qst lk ren fr a vs k with
  |some (x,vs1,k1)=>match qbM lk ren fr (b::r) vs1 k1 with
   |some (y,vs2,k2)=>some ((x,y),vs2,k2)
   |none=>none
  |none=>none
def FI.own:FI→List (Nat×Nat)
 | .box j _ _| .row j _| .map j _ _| .cmap j _| .fams j _ _| .cfn j _ _=>[(j,j)]
 |_=>[]
def tvs:TV→List AV
 | .one v=>[v]
 | .tup vs=>vs
def Fm.fin (F:Fm) (P:Program) (rs:List ResultVar) (s:Pos):Option F.R:=
 match qFC P s.st rs with
 |some res0=>
  let lk:=qib s.st.heap
  let ren:=F.is.flatMap FI.own++qAI lk F.is (tvs res0) 8
  if qzF ren 24 then match qbM lk ren F.fr F.is (tvs res0) 8 with
   |some (r,[],_)=>some r
   |_=>none
  else none
 |none=>none
end Go.Ab

/-
  The forms of results: they are what the machine keeps at a function's end.
-/
set_option linter.unusedVariables false
set_option linter.unusedSimpArgs false
namespace Go.Ab
open Go
section
variable {P:Program} {GT:qTg} {lk:qZb} {ren:List (Nat×Nat)} {fr lo:Bool}
theorem qzg:∀{a b:List (Nat×Nat)} {u v:List (Nat×Option Obj)},qWc lk ren lo a=some u→qWc lk ren lo b=some v→qWc lk ren lo (a++b)=some (u++v)
 |[],b,u,v,h,h'=>by simp only [qWc,wc] at h;subst h;exact h'
 |p::a,b,u,v,h,h'=>by
  simp only [qWc,wba] at h ⊢
  split at h
  ·rename_i o os e1 e2
   split at h
   ·rename_i o' e3
    simp only [wc] at h;subst h
    rw [e1,qzg e2 h']
    simp only [e3,wba]
   ·cases h
  ·cases h
theorem qBk {a b:List (Nat×Obj)}:qoc (a++b)=qoc a++qoc b:=by simp [qoc]
theorem qCq {f fr:Bool} (h:(f||!fr)=true):(f&&!!fr)=fr:=by cases f <;> cases fr <;> simp_all
theorem qmB {f g fr:Bool} (h:(f||g||!fr)=true):((f||g)&&!!fr)=fr:=by cases f <;> cases g <;> cases fr <;> simp_all
theorem qbj {l n:Nat} (h:(qOd ren l==some n)=true):qOd ren l=some n:=by simpa using h
theorem qBy:∀{t:Ty} {x:qke t} {sf sf':List SF} {k k':Nat} {u:pden t},outA lk ren fr t x sf k=some (u,sf',k')→
  ∃y,qEL fr t u sf k=(y,sf',k')∧qie lk ren (!fr) t x=some y∧∃cs,qjG t x sf k=(cs,sf',k')∧qWc lk ren (!fr) cs=some (qoc (qBC fr t u sf k))
 | .int _,x,sf,sf',k,k',u,h=>by simp only [outA,wc,wk] at h;obtain ⟨rfl,rfl,rfl⟩:=h;exact ⟨_,rfl,rfl,_,rfl,rfl⟩
 | .bool,x,sf,sf',k,k',u,h=>by simp only [outA,wc,wk] at h;obtain ⟨rfl,rfl,rfl⟩:=h;exact ⟨_,rfl,rfl,_,rfl,rfl⟩
 | .str,x,sf,sf',k,k',u,h=>by simp only [outA,wc,wk] at h;obtain ⟨rfl,rfl,rfl⟩:=h;exact ⟨_,rfl,rfl,_,rfl,rfl⟩
 | .arr _ _,x,sf,sf',k,k',u,h=>by simp only [outA,wc,wk] at h;obtain ⟨rfl,rfl,rfl⟩:=h;exact ⟨_,rfl,rfl,_,rfl,rfl⟩
 | .unit,x,sf,sf',k,k',u,h=>by simp only [outA,wc,wk] at h;obtain ⟨_,rfl,rfl⟩:=h;exact ⟨_,rfl,rfl,_,rfl,rfl⟩
 | .fn,x,sf,sf',k,k',u,h=>by simp only [outA,wc,wk] at h;obtain ⟨rfl,rfl,rfl⟩:=h;exact ⟨_,rfl,rfl,_,rfl,rfl⟩
 | .pair a b,x,sf,sf',k,k',u,h=>by
   simp only [outA] at h
   split at h
   ·rename_i u1 sf1 k1 h1
    split at h
    ·rename_i u2 sf2 k2 h2
     simp only [wc,wk] at h;obtain ⟨rfl,rfl,rfl⟩:=h
     obtain ⟨y1,a1,a2,c1,a3,a4⟩:=qBy h1
     obtain ⟨y2,b1,b2,c2,b3,b4⟩:=qBy h2
     refine ⟨(y1,y2),by simp only [qEL,a1,b1],by simp only [qie,a2,b2],c1++c2,by simp only [qjG,a3,b3],?_⟩
     simp only [qBC,a1,qBk]
     exact qzg a4 b4
    ·cases h
   ·cases h
 | .slice e,x,sf,sf',k,k',u,h=>by
   cases x with
   |pure f xs=>
    simp only [outA] at h
    split at h
    ·split at h
     ·rename_i hf
      simp only [wc,wk] at h;obtain ⟨rfl,rfl,rfl⟩:=h
      exact ⟨_,rfl,by simp only [qie,qCq hf],_,rfl,rfl⟩
     ·cases h
    ·split at h
     ·rename_i hf
      simp only [wc,wk] at h;obtain ⟨rfl,rfl,rfl⟩:=h
      exact ⟨_,rfl,by simp only [qie,qCq hf],_,rfl,rfl⟩
     ·cases h
    ·cases h
   |ref l off len wh=>
    simp only [outA] at h
    split at h
    ·rename_i f xs hrow
     split at h
     ·split at h
      ·rename_i hc
       simp only [wz] at hc
       obtain ⟨⟨⟨rfl,hn⟩,hf⟩,hs⟩:=hc
       simp only [wc,wk] at h;obtain ⟨rfl,rfl,rfl⟩:=h
       refine ⟨_,rfl,by simp only [qie,qbj hn,hrow,if_true],_,rfl,?_⟩
       obtain ⟨y,hy⟩:=wEa.1 hs
       have:=qpw hy;rw [hrow] at this;injection this with this;subst this
       simp only [qWc,qdc hy,qPk,qBC,qoc,qCq hf,wJ,wKa]
      ·cases h
     ·split at h
      ·rename_i hc
       simp only [wz] at hc
       obtain ⟨rfl,hn⟩:=hc
       simp only [wc,wk] at h;obtain ⟨rfl,rfl,rfl⟩:=h
       exact ⟨_,rfl,by simp only [qie,qbj hn,hrow,if_true],_,rfl,rfl⟩
      ·cases h
     ·split at h
      ·rename_i hc
       simp only [wz,Option.isNone_iff_eq_none] at hc
       simp only [wc,wk] at h;obtain ⟨rfl,rfl,rfl⟩:=h
       exact ⟨_,rfl,by simp only [qie,hc.1,hrow,qmB hc.2],_,rfl,rfl⟩
      ·cases h
     ·split at h
      ·rename_i hc
       simp only [wz,Option.isNone_iff_eq_none] at hc
       simp only [wc,wk] at h;obtain ⟨rfl,rfl,rfl⟩:=h
       exact ⟨_,rfl,by simp only [qie,hc.1,hrow,qmB hc.2],_,rfl,rfl⟩
      ·cases h
    ·cases h
   |nil=>simp [outA] at h
   |junk=>simp [outA] at h
   |lng n=>simp [outA] at h
theorem qwH {t:Ty} {v:AV} {x y:qke t} (h:qNo t v=some x) (hg:(qOL v==t.agg)=true) (hk:qie lk ren lo t x=some y):qKf lk ren lo v=some (qqC t y):=by
 cases v with
 |agg t' z=>
  simp only [qNo] at h
  split at h
  ·rename_i e
   subst e
   simp only [wc] at h;subst h
   simp only [qKf,hk]
   cases t' <;> simp [qOL,Ty.agg] at hg <;> rfl
  ·cases h
 |bool b=>
  cases t <;> simp [qNo] at h
  subst h;simp only [qie,wc] at hk;subst hk;rfl
 |int k n=>
  cases t <;> simp [qNo] at h
  obtain ⟨rfl,rfl⟩:=h;simp only [qie,wc] at hk;subst hk;rfl
 |str s=>
  cases t <;> simp [qNo] at h
  subst h;simp only [qie,wc] at hk;subst hk;rfl
 |sl e f xs=>
  cases t <;> simp only [qNo] at h <;> try cases h
  rename_i e'
  split at h
  ·rename_i he;subst he
   simp only [wc] at h;subst h
   simp only [qie,wc] at hk;subst hk;rfl
  ·cases h
 |nil=>
  cases t <;> simp [qNo] at h
  subst h;simp only [qie,wc] at hk;subst hk;rfl
 |ref e l off len wh=>
  cases t <;> simp only [qNo] at h <;> try cases h
  rename_i e'
  split at h
  ·rename_i he;subst he
   simp only [wc] at h;subst h
   cases hn:qOd ren l with
   |none=>
    simp only [qie,hn] at hk
    simp only [qKf,hn]
    split at hk
    ·rename_i hr
     simp only [wc] at hk;subst hk;rfl
    ·cases hk
   |some n=>
    simp only [qie,hn] at hk
    simp only [qKf,hn]
    split at hk
    ·rename_i hw
     split at hk
     ·rename_i hr
      simp only [wc] at hk;subst hk;simp only [hr,hw,if_true];rfl
     ·cases hk
    ·rename_i hw
     simp only [wc] at hk;subst hk;rw [if_neg hw];rfl
  ·cases h
 |func f caps=>
  cases caps with
  |nil=>
   cases t <;> simp [qNo] at h
   subst h;simp only [qie,wc] at hk;subst hk;rfl
  |cons a b=>simp [qNo] at h
 |nilFunc=>
  cases t <;> simp [qNo] at h
  subst h;simp only [qie,wc] at hk;subst hk;rfl
 |_=>simp [qNo] at h
theorem qzq:∀{a b:List AV} {u v:List AV},qee lk ren lo a=some u→qee lk ren lo b=some v→qee lk ren lo (a++b)=some (u++v)
 |[],b,u,v,h,h'=>by simp only [qee,wc] at h;subst h;exact h'
 |p::a,b,u,v,h,h'=>by
  simp only [qee,wba] at h ⊢
  split at h
  ·rename_i o os e1 e2
   simp only [wc] at h;subst h
   simp only [e1,qzq e2 h',wba]
  ·cases h
theorem qxD:∀{t:Ty} {x y:qke t},qdM t x y=true→x=y∧qie lk ren lo t x=some x
 | .pair a b,x,y,h=>by
   simp only [qdM,wz] at h
   obtain ⟨h1,h2⟩:=qxD h.1
   obtain ⟨h3,h4⟩:=qxD h.2
   exact ⟨Prod.ext h1 h3,by simp only [qie,h2,h4]⟩
 | .unit,_,_,_=>⟨rfl,rfl⟩
 | .fn,x,y,h=>by
   simp only [qdM] at h
   refine ⟨?_,rfl⟩
   split at h
   ·rw [beq_iff_eq] at h;rw [h]
   ·rfl
   ·cases h
 | .int _,_,_,h=>by cases h
 | .bool,_,_,h=>by cases h
 | .str,_,_,h=>by cases h
 | .arr _ _,_,_,h=>by cases h
 | .slice _,_,_,h=>by cases h
theorem qxI {u v:AV} (h:qEN u v=true):qKf lk ren lo u=some v:=by
 unfold qEN at h
 split at h
 ·split at h
  ·rename_i e
   subst e
   obtain ⟨h1,h2⟩:=qxD (lk:=lk) (ren:=ren) (lo:=lo) h
   simp only at h1
   simp only [qKf,←h1,h2]
  ·cases h
 ·rw [beq_iff_eq] at h;subst h;rfl
 ·rfl
 ·cases h
theorem qov {fr:Bool}:∀{t:Ty} {y:qke t} {u:pden t},unj t y=some u→qQq fr t y=true→inj fr t u=y
 | .int _,y,u,h,_=>by simp only [unj,wc] at h;subst h;rfl
 | .bool,y,u,h,_=>by simp only [unj,wc] at h;subst h;rfl
 | .str,y,u,h,_=>by simp only [unj,wc] at h;subst h;rfl
 | .arr _ _,y,u,h,_=>by simp only [unj,wc] at h;subst h;rfl
 | .pair a b,y,u,h,hf=>by
   simp only [unj] at h
   split at h
   ·rename_i u1 u2 h1 h2
    simp only [wc] at h;subst h
    simp only [qQq,wz] at hf
    simp only [inj,qov h1 hf.1,qov h2 hf.2]
   ·cases h
 | .unit,y,u,h,_=>rfl
 | .slice _,y,u,h,hf=>by
   cases y with
   |pure f xs=>
    simp only [unj,wc] at h;subst h
    simp only [qQq,beq_iff_eq] at hf;subst hf;rfl
   |ref l off len wh=>simp [unj] at h
   |nil=>simp [qQq] at hf
   |junk=>simp [unj] at h
   |lng n=>simp [unj] at h
 | .fn,y,u,h,_=>by simp only [unj,wc] at h;subst h;rfl
theorem qrH {i:FI} {vs vs':List AV} {k k':Nat} {r:i.den} (h:qst lk ren fr i vs k=some (r,vs',k')):
  ∃us us1,vs=us++vs'∧qee lk ren (!fr) us=some us1∧AVsLe us1 (qZx fr i r k).vs∧(qZx fr i r k).k=k'∧qWc lk ren (!fr) i.own=some (qoc (qZx fr i r k).os)∧∃cs,qIz lk i vs k=(cs,vs',k')∧qWc lk ren (!fr) cs=some (qoc (qZx fr i r k).rs):=by
 cases i with
 |val t sf=>
  cases vs with
  |nil=>simp [qst] at h
  |cons v vs=>
   simp only [qst] at h
   split at h
   ·rename_i x hx
    split at h
    ·rename_i hg
     split at h
     ·rename_i u sf' k1 ho
      simp only [wc,wk] at h;obtain ⟨rfl,rfl,rfl⟩:=h
      obtain ⟨y,a1,a2,cs,a3,a4⟩:=qBy ho
      refine ⟨[v],[qqC t y],rfl,?_,by simp only [qZx,a1];exact AVsLe.refl _,by simp only [qZx,a1],by simp only [FI.own,qZx,a1];rfl,cs,by simp only [qIz,hx,a3],by simp only [qZx,a1];exact a4⟩
      simp only [qee,qwH hx hg a2]
     ·cases h
    ·cases h
   ·cases h
 |err T ki=>
  cases vs with
  |nil=>simp [qst] at h
  |cons v vs=>
   cases v <;> simp only [qst] at h <;> try cases h
   ·split at h
    ·rename_i hc
     obtain ⟨rfl,rfl⟩:=hc
     simp only [wc,wk] at h;obtain ⟨rfl,rfl,rfl⟩:=h
     exact ⟨[_],[_],rfl,rfl,⟨fun _ _ _ _ h=>h,trivial⟩,rfl,rfl,[],rfl,rfl⟩
    ·cases h
   ·exact ⟨[_],[_],rfl,rfl,⟨fun _ _ _ _ h=>h,trivial⟩,rfl,rfl,[],rfl,rfl⟩
   ·split at h
    ·rename_i hc
     obtain ⟨rfl,rfl⟩:=hc
     simp only [wc,wk] at h;obtain ⟨rfl,rfl,rfl⟩:=h
     exact ⟨[_],[_],rfl,rfl,⟨fun _ _ _ _ h=>h,trivial⟩,rfl,rfl,[],rfl,rfl⟩
    ·cases h
 |box j t sf=>
  simp only [qst] at h
  split at h
  ·rename_i t' x hj
   split at h
   ·rename_i ht
    subst ht
    split at h
    ·rename_i u sf' k1 ho
     simp only [wc,wk] at h;obtain ⟨rfl,rfl,rfl⟩:=h
     obtain ⟨y,a1,a2,cs,a3,a4⟩:=qBy ho
     refine ⟨[],[],rfl,rfl,by simp only [qZx,a1];trivial,by simp only [qZx,a1],?_,cs,by simp only [qIz,hj,a3],by simp only [qZx,a1];exact a4⟩
     simp only [FI.own,qWc,hj,qPk,qZx,a1,qoc,wJ,wKa,a2]
    ·cases h
   ·cases h
  ·cases h
 |row j e=>
  simp only [qst] at h
  split at h
  ·rename_i f xs hr
   split at h
   ·rename_i hf
    simp only [wc,wk] at h;obtain ⟨rfl,rfl,rfl⟩:=h
    refine ⟨[],[],rfl,rfl,trivial,rfl,?_,[],by simp only [qIz],rfl⟩
    simp only [FI.own,qWc,qdc hr,qPk,qZx,qoc,wJ,wKa,qCq hf]
   ·cases h
  ·cases h
 |map j kt vt=>
  simp only [qst] at h
  split at h
  ·rename_i k' v' es hj
   split at h
   ·rename_i hc
    obtain ⟨rfl,rfl⟩:=hc
    simp only [wc,wk] at h;obtain ⟨rfl,rfl,rfl⟩:=h
    refine ⟨[],[],rfl,rfl,trivial,rfl,?_,[],by simp only [qIz],rfl⟩
    simp only [FI.own,qWc,hj,qPk,qZx,qoc,wJ,wKa]
   ·cases h
  ·cases h
 |fams j a e=>
  simp only [qst] at h
  split at h
  ·rename_i a' e' xs hj
   split at h
   ·rename_i hc
    obtain ⟨rfl,rfl⟩:=hc
    simp only [wc,wk] at h;obtain ⟨rfl,rfl,rfl⟩:=h
    refine ⟨[],[],rfl,rfl,trivial,rfl,?_,[],by simp only [qIz],rfl⟩
    simp only [FI.own,qWc,hj,qPk,qZx,qoc,wJ,wKa]
   ·cases h
  ·cases h
 |cmap j n=>
  simp only [qst] at h
  split at h
  ·rename_i l hj
   split at h
   ·rename_i hc
    simp only [wc,wk] at h;obtain ⟨_,rfl,rfl⟩:=h
    refine ⟨[],[],rfl,rfl,trivial,rfl,?_,[],by simp only [qIz],rfl⟩
    simp only [FI.own,qWc,hj,qPk,qKf,qbj hc,qZx,qoc,wJ,wKa]
   ·cases h
  ·cases h
 |cfn j f caps=>
  simp only [qst] at h
  split at h
  ·rename_i g cs hj
   split at h
   ·rename_i hc
    obtain ⟨rfl,hc⟩:=hc
    simp only [wc,wk] at h;obtain ⟨_,rfl,rfl⟩:=h
    refine ⟨[],[],rfl,rfl,trivial,rfl,?_,[],by simp only [qIz],rfl⟩
    simp only [FI.own,qWc,hj,qPk,qKf,hc,qZx,qoc,wJ,wKa]
   ·cases h
  ·cases h
 |clo f t=>
  cases vs with
  |nil=>simp [qst] at h
  |cons v vs=>
   cases v with
   |func g caps=>
    cases caps with
    |nil=>simp [qst] at h
    |cons l r=>
     cases r with
     |cons l2 r=>simp [qst] at h
     |nil=>
      simp only [qst] at h
      split at h
      ·rename_i hc
       obtain ⟨rfl,hn⟩:=hc
       split at h
       ·rename_i t' x hlk
        split at h
        ·rename_i ht
         subst ht
         split at h
         ·rename_i y hy
          split at h
          ·rename_i u hu
           split at h
           ·rename_i hfa
            simp only [wc,wk] at h;obtain ⟨rfl,rfl,rfl⟩:=h
            refine ⟨[_],[.func g [k]],rfl,by simp only [qee,qKf,qOu,hn],AVsLe.refl _,rfl,rfl,[(k,l)],rfl,?_⟩
            simp only [qWc,hlk,qPk,hy,qZx,qoc,wJ,wKa,qov hu hfa]
           ·cases h
          ·cases h
         ·cases h
        ·cases h
       ·cases h
      ·cases h
   |_=>simp [qst] at h
 |part e=>
  cases vs with
  |nil=>simp [qst] at h
  |cons v vs=>
   cases v <;> simp only [qst] at h <;> try cases h
   rename_i e' l off len wh
   split at h
   ·rename_i he
    subst he
    split at h
    ·rename_i f xs hrow
     split at h
     ·rename_i hc
      simp only [wz] at hc
      simp only [wc,wk] at h;obtain ⟨rfl,rfl,rfl⟩:=h
      have hks:qWc lk ren (!fr) [(k,l)]=some (qoc [(k, .row e' fr xs)]):=by
       simp only [qWc,qdc hrow,qPk,qoc,qCq hc.2,wJ,wKa]
      cases wh with
      |true=>
       refine ⟨[_],[.ref e' k 0 xs.length true],rfl,by simp only [qee,qKf,qbj hc.1,qpw hrow,if_true],⟨fun w N K v hv=>?_,trivial⟩,rfl,rfl,[(k,l)],rfl,hks⟩
       obtain ⟨n,pl,g1,g2,g3,g4⟩:=hv
       exact ⟨n,pl,g1,g2,(fun h=>by cases h),g4⟩
      |false=>
       exact ⟨[_],[.ref e' k off len false],rfl,by simp only [qee,qKf,qbj hc.1,wI,if_false],AVsLe.refl _,rfl,rfl,[(k,l)],rfl,hks⟩
     ·cases h
    ·cases h
   ·cases h
 |sub j e=>
  cases vs with
  |nil=>simp [qst] at h
  |cons v vs=>
   cases v <;> simp only [qst] at h <;> try cases h
   rename_i e' l off len wh
   split at h
   ·rename_i he
    subst he
    split at h
    ·rename_i f xs hrow
     split at h
     ·rename_i hc
      simp only [wc,wk] at h;obtain ⟨rfl,rfl,rfl⟩:=h
      cases wh with
      |true=>
       refine ⟨[_],[.ref e' j 0 xs.length true],rfl,by simp only [qee,qKf,qbj hc,qpw hrow,if_true],⟨fun w N K v hv=>?_,trivial⟩,rfl,rfl,[],rfl,rfl⟩
       obtain ⟨n,pl,g1,g2,g3,g4⟩:=hv
       exact ⟨n,pl,g1,g2,(fun h=>by cases h),g4⟩
      |false=>
       exact ⟨[_],[.ref e' j off len false],rfl,by simp only [qee,qKf,qbj hc,wI,if_false],AVsLe.refl _,rfl,rfl,[],rfl,rfl⟩
     ·cases h
    ·cases h
   ·cases h
 |cst v=>
  cases vs with
  |nil=>simp [qst] at h
  |cons u vs=>
   simp only [qst] at h
   split at h
   ·rename_i hc
    simp only [wc,wk] at h;obtain ⟨_,rfl,rfl⟩:=h
    exact ⟨[_],[v],rfl,by simp only [qee,qxI hc],AVsLe.refl _,rfl,rfl,[],rfl,rfl⟩
   ·cases h
theorem qqH:∀{is:List FI} {vs vs':List AV} {k k':Nat} {r:PT is},qbM lk ren fr is vs k=some (r,vs',k')→
  ∃us us1,vs=us++vs'∧qee lk ren (!fr) us=some us1∧AVsLe us1 (qiI fr is r k).vs∧(qiI fr is r k).k=k'∧qWc lk ren (!fr) (is.flatMap FI.own)=some (qoc (qiI fr is r k).os)∧
   qWc lk ren (!fr) (qAI lk is vs k)=some (qoc (qiI fr is r k).rs)
 |[],vs,vs',k,k',r,h=>by
  simp only [qbM,wc,wk] at h;obtain ⟨_,rfl,rfl⟩:=h
  exact ⟨[],[],rfl,rfl,trivial,rfl,rfl,rfl⟩
 |[a],vs,vs',k,k',r,h=>by
  simp only [qbM] at h
  obtain ⟨us,us1,h1,h2,h2',h3,h4,cs,h5,h6⟩:=qrH h
  refine ⟨us,us1,h1,h2,h2',h3,?_,?_⟩
  ·simp only [wib,List.flatMap_nil,wQ];exact h4
  ·simp only [qAI,h5,wQ];exact h6
 |a::b::q,vs,vs',k,k',r,h=>by
  simp only [qbM] at h
  split at h
  ·rename_i x vs1 k1 ho
   split at h
   ·rename_i y vs2 k2 hl
    simp only [wc,wk] at h;obtain ⟨rfl,rfl,rfl⟩:=h
    obtain ⟨us,us1,h1,h2,h2',h3,h4,cs,h5,h6⟩:=qrH ho
    obtain ⟨us',us1',g1,g2,g2',g3,g4,g5⟩:=qqH hl
    subst h3
    refine ⟨us++us',us1++us1',by rw [h1,g1,wB],qzq h2 g2,?_,g3,?_,?_⟩
    ·simp only [qiI];exact h2'.append g2'
    ·rw [wib];simp only [qiI,qBk];exact qzg h4 g4
    ·rw [qAI,h5];simp only [qiI,qBk];exact qzg h6 g5
   ·cases h
  ·cases h
theorem qLH {res:TV} {us:List AV} (ht:qXI (tvs res)=res) (h:qee lk ren lo (tvs res)=some us):qSo lk ren lo res=some (qXI us):=by
 cases res with
 |one v=>
  simp only [tvs,qee] at h
  simp only [qSo]
  split at h
  ·rename_i u us' e1 e2
   simp only [wc] at e2 h;subst e2;subst h
   simp only [e1,qXI]
  ·cases h
 |tup vs=>
  simp only [tvs] at h ht
  simp only [qSo,h]
  have:∀u,us≠[u]:=by
   rintro u rfl
   cases vs with
   |nil=>simp [qee] at h
   |cons a r=>cases r with
    |nil=>simp [qXI] at ht
    |cons b q=>
     simp only [qee] at h
     split at h
     ·rename_i e1 e2
      split at e2
      ·simp only [wc] at e2;subst e2;simp at h
      ·cases e2
     ·cases h
  unfold qXI
  split
  ·rename_i v;exact absurd rfl (this v)
  ·rfl
theorem qaL:∀{as bs:List AV},AVsLe as bs→TVle (qXI as) (qXI bs)
 |[],[],h=>h
 |[_],[_],h=>h.1
 |_::_::_,_::_::_,h=>h
 |[_],_::_::_,h=>h.2.elim
 |_::_::_,[_],h=>h.2.elim
 |[],_::_,h=>h.elim
 |_::_,[],h=>h.elim
theorem qnJ {σ:St} {rs:List ResultVar} {res:TV} (h:qFC P σ rs=some res):qXI (tvs res)=res:=by
 unfold qFC at h
 split at h
 ·simp only [wc] at h;subst h;rfl
 ·rename_i vs hv hn
  simp only [wc] at h;subst h
  simp only [tvs]
  unfold qXI
  split
  ·rename_i v;exact absurd rfl (hv v)
  ·rfl
 ·cases h
theorem uH {F:Fm} {rs:List ResultVar} {s:Pos} {r:F.R} (h:F.fin P rs s=some r):
  ∃res0 res1 ren nx lo,qFC P s.st rs=some res0∧qzF ren nx=true∧qSo (qib s.st.heap) ren lo res0=some res1∧TVle res1 (F.res r)∧qWc (qib s.st.heap) ren lo ren=some (qoc (F.post r)):=by
 unfold Fm.fin at h
 split at h
 ·rename_i res0 hres
  simp only at h
  split at h
  ·rename_i hok
   split at h
   ·rename_i r' k' ho
    simp only [wc] at h;subst h
    obtain ⟨us,us1,h1,h2,h2',h3,h4,h5⟩:=qqH ho
    rw [wQ] at h1
    rw [←h1] at h2
    refine ⟨res0,_,_,_,_,hres,hok,qLH (qnJ hres) h2,qaL h2',?_⟩
    simp only [Fm.post,qBk]
    exact qzg h4 h5
   ·cases h
  ·cases h
 ·cases h
end
end Go.Ab

/-
  What a function computes, as a plain function: the machine's own runs, with what is open left open.
-/
set_option linter.unusedVariables false
set_option linter.unusedSimpArgs false
namespace Go.Ab
open Go
structure Summ (P:Program) (GT:qTg) where
 f:Nat
 acc:List AV→Bool
 rows:Bool
 nils:Bool
 R:Type
 fn:List AV→List (Nat×Obj)→Option R
 res:R→TV
 post:R→List (Nat×Obj)
 drop:Bool:=false
 ok:∀as pre r,fn as pre=some r→CallOK P GT f as pre (res r) (post r)
@[reducible] def Summ.dropping {P:Program} {GT:qTg} (S:Summ P GT):Summ P GT:={S with drop:=true}
def qsJ {P:Program} {GT:qTg} (f:Nat) (vs:List AV):List (Summ P GT)→Option (Summ P GT)
 |[]=>none
 |S::r=>if S.f==f&&S.acc vs then some S else qsJ f vs r
theorem qjH {P:Program} {GT:qTg} {f:Nat} {vs:List AV}:∀{tab:List (Summ P GT)} {S:Summ P GT},qsJ f vs tab=some S→S.f=f
 |[],S,h=>by cases h
 |T::r,S,h=>by
  simp only [qsJ] at h
  split at h
  ·rename_i hc
   simp only [wc] at h;subst h
   simp only [wz,beq_iff_eq] at hc;exact hc.1
  ·exact qjH h
inductive Tr:Type 1
 |bit (b:Bool) (t e:Tr)
 |safe (p:Prop) (t:Tr)
 |call (R:Type) (v:Option R) (k:R→Tr)
 |any (R:Type) (p:R→Prop) (k:R→Tr)
 |leaf (s:Pos)
 |ret (s:Pos)
 |dead
@[reducible] noncomputable def gd {R:Type} (p:Prop) (x:Option R):Option R:=@ite _ p (Classical.propDecidable p) x none
theorem qha {R:Type} {p:Prop} (h:p) (x:Option R):gd p x=x:=if_pos h
theorem qai {R:Type} {p:Prop} {x:Option R} {r:R} (h:gd p x=some r):p∧x=some r:=by
 unfold gd at h
 split at h
 ·exact ⟨by assumption,h⟩
 ·cases h
open Classical in
noncomputable def qeA {X R:Type} (p:X→Prop) (f:X→Option R):Option R:=
 if h:(∃x,p x)∧∃r,∀x,p x→f x=some r then some (Classical.choose h.2) else none
theorem qXh {X R:Type} {p:X→Prop} {f:X→Option R} {r:R} (h:qeA p f=some r):∀x,p x→f x=some r:=by
 unfold qeA at h
 split at h
 ·rename_i hh
  simp only [wc] at h
  exact h▸Classical.choose_spec hh.2
 ·cases h
theorem qiw {X R:Type} {p:X→Prop} {f:X→Option R} {r:R} (x:X) (hx:p x) (h:∀x,p x→f x=some r):qeA p f=some r:=by
 have hh:(∃x,p x)∧∃r,∀x,p x→f x=some r:=⟨⟨x,hx⟩,r,h⟩
 unfold qeA
 rw [dif_pos hh]
 have:=Classical.choose_spec hh.2 x hx
 rw [h x hx] at this
 exact this.symm
theorem qKI {X R:Type} {p:X→Prop} {f:X→Option R} {r:R} (h:qeA p f=some r):∃x,p x:=by
 unfold qeA at h
 split at h
 ·rename_i hh;exact hh.1
 ·cases h
noncomputable def den {R:Type} (lf fin:Pos→Option R):Tr→Option R
 | .bit b t e=>if b=true then den lf fin t else den lf fin e
 | .safe p t=>gd p (den lf fin t)
 | .call _ v k=>v.bind fun r=>den lf fin (k r)
 | .any _ p k=>qeA p fun x=>den lf fin (k x)
 | .leaf s=>lf s
 | .ret s=>fin s
 | .dead=>none
def qHJ (rows:Bool):AV→List Nat
 | .ptr _ l _=>[l]
 | .ifp _ _ l _=>[l]
 | .cslice _ l _=>[l]
 | .cptr l=>[l]
 | .func _ caps=>caps
 | .mapr l=>[l]
 | .ref _ l _ _ _=>if rows then [l] else []
 | .bref _ l _ _ _ _=>if rows then [l] else []
 | .agg t x=>if rows then qUs t x else []
 |_=>[]
def qBN (rows:Bool):Obj→List Nat
 | .box t x=>if rows then qUs t x else []
 | .cell v=>qHJ rows v
 |_=>[]
def qtu (lk:qZb) (rows:Bool):Nat→List Nat→List Nat→List Nat
 |0,_,acc=>acc
 |_,[],acc=>acc
 |n+1,l::q,acc=>if acc.contains l then qtu lk rows n q acc else qtu lk rows n (q++(match lk l with
  |some o=>qBN rows o
  |none=>[])) (acc++[l])
def qMM:Nat→List Nat→List (Nat×Nat)
 |_,[]=>[]
 |n,l::r=>(n,l)::qMM (n+1) r
def qOB:List Prop→Tr→Tr
 |[],t=>t
 |p::r,t=> .safe p (qOB r t)
def qUv (g:Bool) (v:TV) (k:TV→Tr):Tr:=
 if g then match v with
  | .one (.bool b)=> .bit b (k (.one (.bool true))) (k (.one (.bool false)))
  |_=> .dead
 else k v
section
variable (P:Program) (GT:qTg) (nt:Nat) (mnz:List Nat) (tab:List (Summ P GT))
def qQM (H:qZb) (nl:Nat) (ev:Operand→TV) (op:Op) (k:Out→List Nat→Tr):Tr:=
 match op with
 | .call {callee:= .value f,args,argTypes:=_}=>match ev1 ev f,evs ev args.toList with
   |some (.func f caps),some vs0=>match qMq (qwd H (qSC ev op)) caps with
    |some cs=>match qsJ f (vs0++cs) tab with
     |some S=>
      let locs:=qtu H S.rows 60 ((vs0++cs).flatMap (qHJ S.rows)) []
      let ren:=qMM 0 locs
      let use:=(vs0++cs).flatMap qNh++locs.flatMap fun l=>match H l with
       |some o=>qAp o
       |none=>[]
      let L:=qSC ev op++(ren.map (·.2)++use)
      match qee (qwd H L) ren true (vs0++cs),qWc (qwd H L) ren true ren with
      |some pv,some hl=>match qXq hl with
       |some pre=> .call S.R (S.fn ((if S.nils then pv else qJu P (qWj P f) pv)) pre) fun r=>
        match qfw P GT (qwd H L) nl f (vs0++cs) ⟨(if S.nils then pv else qJu P (qWj P f) pv),pre,ren,use,S.res r,S.post r,S.drop⟩ with
        |some out=>k out L
        |none=> .dead
       |none=> .dead
      |_,_=> .dead
     |none=> .dead
    |none=> .dead
   |_,_=> .dead
 |_=> .dead
def opT (ops:List Oper) (T:Nat→TV) (H:qZb) (nl i:Nat) (o:Oper) (k:Ev→Tr):Tr:=
 match qmF ops T o with
 |some false=>k ⟨.one .gone,[],[]⟩
 |none=> .dead
 |some true=>
  if qFK o.op then qQM P GT tab H nl (evT GT T) o.op fun out L=>qUv (qjB ops i) out.v fun v=>k ⟨v,out.upd,L⟩
  else match qGb P GT (evT GT T) (qwd H (qSC (evT GT T) o.op)) nl none o.type o.op with
   |some out=>qOB out.conds (qUv (qjB ops i) out.v fun v=>k ⟨v,out.upd,qSC (evT GT T) o.op⟩)
   |none=> .dead
def opN (draw:Bool) (ops:List Oper) (T:Nat→TV) (H:qZb) (nl i:Nat) (o:Oper) (k:Ev→Tr):Tr:=
 match (if draw then none else match qmF ops T o with
  |some true=>qLI P mnz (evT GT T) nl o.op
  |_=>none) with
 |some a=>qOB a.pre (.any a.R a.p fun x=>qUv (qjB ops i) (a.out x).v fun v=>k ⟨v,(a.out x).upd,[]⟩)
 |none=>opT P GT tab ops T H nl i o k
def qzJ (draw:Bool) (ops:List Oper):Nat→List Oper→St→(St→List (Oper×Ev)→Tr)→Tr
 |_,[],σ,k=>k σ []
 |i,o::r,σ,k=>opN P GT mnz tab draw ops (keepT (o.looksAt ops.toArray) σ.look) (qib σ.heap) (σ.next+8*i) i o fun e=>
  if qUk nt o.dst then qzJ draw ops (i+1) r (σ.put o.dst e) fun σ' tr=>k σ' ((o,e)::tr) else .dead
def qBM (P:Program):Op→Bool
 | .store T _ _=>match P.underlying T with
   |some (.slice _)=>decide (qod P tyD T=some (.slice .bool))
   |_=>false
 |_=>false
def qDK (P:Program):Op→Bool
 | .call {callee:= .builtin .append,args:=_,argTypes}=>match argTypes.toList with
   |T::_=>decide (qJm P T=some (.pair (.int .i64) (.pair (.int .i64) (.pair (.int .i64) .unit))))
   |_=>false
 |_=>false
def qlO (P:Program) (op:Op):Bool:=qEK op||qBM P op||qDK P op
def qAN:Op→Bool
 | .indexAddr _ _ _=>true
 |_=>false
def spR (P:Program) (ops:List Oper):Bool:=ops.any (fun o=>qEK o.op||qDK P o.op)||(ops.any (fun o=>qBM P o.op)&&ops.any fun o=>qAN o.op)
def qkO (l:Nat) (h:List (Nat×Option Obj)):Bool:=h.all fun p=>match p.2 with
 |some ob=>p.1==l||!(qAp ob).contains l
 |none=>true
def qrL (σ:St) (l:Nat):Bool:=σ.tmps.all (fun p=>qfN [l] p.2)&&σ.heap.all fun p=>match p.2 with
 |some o=>okO [l] o
 |none=>true
def qaO (ops:List Oper) (σ:St) (T:Nat→TV) (H:qZb) (nl i:Nat) (o:Oper) (k:Ev→Tr):Tr:=
 match (if qlO P o.op then qmF ops T o else none) with
 |some true=>if qjB ops i then .dead else match qBD P (evT GT T) H o.op with
  |some out=>qOB out.conds (k ⟨out.v,out.upd,[]⟩)
  |none=>match qiH P (evT GT T) H o.op with
   |some (l,out)=>if qrL σ l then k ⟨out.v,out.upd,[]⟩ else .dead
   |none=>match qcD P (evT GT T) H nl o.op with
    |some (e,l,m,A,B)=>if qkO l σ.heap then match qgN e l m σ.tmps with
      |some cs=> .any Bool (fun _=>True) fun b=> .bit b (qOB cs (k ⟨A.v,A.upd,[]⟩)) (qOB B.conds (k ⟨B.v,B.upd,[]⟩))
      |none=> .dead
     else .dead
    |none=>opT P GT tab ops T H nl i o k
 |_=>opT P GT tab ops T H nl i o k
def qQC (ops:List Oper):Nat→List Oper→St→(St→Tr)→Tr
 |_,[],σ,k=>k σ
 |i,o::r,σ,k=>qaO P GT tab ops σ (keepT (o.looksAt ops.toArray) σ.look) (qib σ.heap) (σ.next+8*i) i o fun e=>
  if qUk nt o.dst then qQC ops (i+1) r (σ.put o.dst e) k else .dead
def qin (ops:List Oper) (draw:Bool) (σ:St) (k:St→Tr):Tr:=
 if !draw&&spR P ops then qQC P GT nt tab ops 0 ops σ fun σ'=>k {σ' with next:=σ.next+8*ops.length}
 else qzJ P GT nt mnz tab draw ops 0 ops σ fun σ' tr=>if !draw||qSE ops tr then k {σ' with next:=σ.next+8*ops.length} else .dead
def qjJ (s:Pos) (k:Pos→Tr):Tr:=
 match s.todo with
 | .code .skip::q| .code (.label _)::q| .inBlock _::q| .inScope _::q=>k ⟨q,s.st⟩
 | .code (.scope body)::q=>k ⟨.code body:: .inScope body::q,s.st⟩
 | .code (.seq a b)::q=>k ⟨.code a:: .code b::q,s.st⟩
 | .code (.cond c x y)::q=>match evO GT s.st c with
   | .one (.bool b)=> .bit b (k ⟨.code x::q,s.st⟩) (k ⟨.code y::q,s.st⟩)
   |_=> .dead
 | .code (.block id body)::q=>k ⟨.code body:: .inBlock id::q,s.st⟩
 | .code (.loop body)::q| .inLoop body::q=>k ⟨.code body:: .inLoop body::q,s.st⟩
 | .code (.exit id)::q=>match exitTo id q with
   |some q'=>k ⟨q',s.st⟩
   |none=> .dead
 | .code (.goto l)::q=>match gotoIn l q with
   |some q'=>k ⟨q',s.st⟩
   |none=> .dead
 | .code (.region _ ops draw)::q=>qin P GT nt mnz tab ops.toList draw s.st fun σ=>k ⟨q,σ⟩
 |_=> .dead
structure Cut where
 key:Nat×Nat
 ts:List Nat
 lo:Bool
 pre:Bool:=false
 fams:List Nat:=[]
 rows:List Nat:=[]
 parts:List Nat:=[]
def qns:Code→Option Nat
 | .region id _ _=>some id
 | .seq a b=>match qns a with
   |some i=>some i
   |none=>qns b
 | .cond _ a b=>match qns a with
   |some i=>some i
   |none=>qns b
 | .block _ b=>qns b
 | .loop b=>qns b
 | .scope b=>qns b
 |_=>none
def qyN (todo:List Item):Nat×Nat:=
 match todo with
 | .code c::q=>match qns c with
   |some i=>(i,q.length)
   |none=>(0,0)
 |_=>(0,0)
def qhD (key:Nat×Nat):List Cut→Option Cut
 |[]=>none
 |c::r=>if c.key.1==key.1&&c.key.2==key.2 then some c else qhD key r
def keepSt (σ:St) (ts:List Nat) (lo pre:Bool):Option St:=
 let lk:=qib σ.heap
 let locs:=qtu lk true 60 ((if pre then (List.range 8).filter fun l=>(lk l).isSome else [])++ts.flatMap fun t=>qtl (σ.look t)) []
 let ren:=(locs.filter (·<8)).map (fun l=>(l,l))++qMM 8 (locs.filter fun l=>!(l<8))
 σ.keep ts ren (8+locs.length) lo
def qJM:Option Obj→Option Obj
 |some (.row (.slice e) fr [])=>if e.flat then some (.fam e []) else some (.row (.slice e) fr [])
 |some (.row (.pair a (.pair (.slice e) .unit)) fr [])=>if a.flat&&e.flat then some (.famS a e []) else some (.row (qQp a e) fr [])
 |o=>o
def qIJ (ns:List Nat):List (Nat×Option Obj)→List (Nat×Option Obj)
 |[]=>[]
 |p::r=>(if ns.contains p.1 then (p.1,qJM p.2) else p)::qIJ ns r
def qAL (σ:St) (ns:List Nat):St:=match ns with
 |[]=>σ
 |ns=>{σ with heap:=qIJ ns σ.heap}
def qZL:Obj→Option Obj
 | .famS a e xs=>some (.row (qQp a e) true (qxi xs))
 | .fam e xss=>some (.row (.slice e) true xss)
 |_=>none
def qYI (l:Nat) (o:Obj):List (Nat×Option Obj)→List (Nat×Option Obj)
 |[]=>[]
 |p::r=>if p.1=l then (l,some o)::r else p::qYI l o r
def qgu (σ:St) (l:Nat):St:=match qib σ.heap l with
 |some o=>match qZL o with
  |some o'=>if decide (8≤l)&&qrL σ l then {σ with heap:=qYI l o' σ.heap} else σ
  |none=>σ
 |none=>σ
def qfL (σ:St):List Nat→St
 |[]=>σ
 |l::r=>qfL (qgu σ l) r
def qPC:TV→TV
 | .one (.ref e l off n _)=> .one (.ref e l off n false)
 |v=>v
def qpH (σ:St) (ts:List Nat):St:=match ts with
 |[]=>σ
 |ts=>{σ with tmps:=σ.tmps.map fun p=>if ts.contains p.1 then (p.1,qPC p.2) else p}
def qhN (c:Cut) (s:Pos):Tr:=
 match keepSt s.st c.ts c.lo c.pre with
 |some σ=> .leaf ⟨s.todo,qpH (qfL (qAL σ c.fams) c.rows) c.parts⟩
 |none=> .dead
def qOH (todo:List Item):Option (List Item):=
 match todo with
 | .code (.loop body)::q| .inLoop body::q=>some (.code body:: .inLoop body::q)
 | .code (.goto l)::q=>gotoIn l q
 |_=>none
def qnF (cuts:List Cut):Nat→Bool→Pos→Tr
 |0,_,_=> .dead
 |n+1,first,s=>
  match qRF s.todo with
  |true=> .ret s
  |false=>match qOH s.todo with
   |some todo'=>match qhD (qyN todo') cuts with
    |some c=>qhN c ⟨todo',s.st⟩
    |none=>qnF cuts n false ⟨todo',s.st⟩
   |none=>match first,s.todo with
    |false, .code (.region id _ _)::q=>match qhD (id,q.length) cuts with
     |some c=>qhN c s
     |none=>qjJ P GT nt mnz tab s (qnF cuts n false)
    |_,_=>qjJ P GT nt mnz tab s (qnF cuts n false)
end
structure FnI (P:Program) (GT:qTg) where
 f:Nat
 cuts:List Cut
 tab:List (Summ P GT)
 fm:Fm
 mnz:List Nat:=[]
 mnzOk:∀f∈mnz,qrw P f:=by intro f h;cases h
section
variable {P:Program} {GT:qTg} (I:FnI P GT)
noncomputable def FnI.go (s:Pos) (lf:Pos→Option I.fm.R):Option I.fm.R:=
 den lf (I.fm.fin P (qeL P I.f)) (qnF P GT (qgg P I.f) I.mnz I.tab I.cuts 3000 true s)
inductive FnI.SemR (r:I.fm.R):Pos→Prop
 |mk (s:Pos) (lf:Pos→Option I.fm.R) (h:I.go s lf=some r) (hl:∀s',lf s'=some r→SemR r s'):SemR r s
open Classical in
noncomputable def FnI.sem (s:Pos):Option I.fm.R:=
 if h:∃r,I.SemR r s then some (Classical.choose h) else none
end
def Lfs {R:Type} (lf fin:Pos→Option R) (r:R):Tr→Pos→Prop
 | .bit b t e,s=>if b=true then Lfs lf fin r t s else Lfs lf fin r e s
 | .safe _ t,s=>Lfs lf fin r t s
 | .call R' v k,s=>∃x,v=some x∧Lfs lf fin r (k x) s
 | .any R' p k,s=>∃x,p x∧Lfs lf fin r (k x) s
 | .leaf s',s=>s'=s
 | .ret _,_=>False
 | .dead,_=>False
theorem qso {R:Type} {lf fin:Pos→Option R} {r:R}:∀{t:Tr},den lf fin t=some r→∀s,Lfs lf fin r t s→lf s=some r
 | .bit b t e,h,s,hs=>by
   simp only [den] at h
   simp only [Lfs] at hs
   split at h
   ·rename_i hb;rw [if_pos hb] at hs;exact qso h s hs
   ·rename_i hb;rw [if_neg hb] at hs;exact qso h s hs
 | .safe p t,h,s,hs=>qso (qai h).2 s hs
 | .call R' v k,h,s,⟨x,hx,hs⟩=>by
   simp only [den,hx,Option.bind_some] at h
   exact qso h s hs
 | .any R' p k,h,s,⟨x,hx,hs⟩=>qso (qXh h x hx) s hs
 | .leaf s',h,s,hs=>by subst hs;exact h
 | .ret _,h,s,hs=>hs.elim
 | .dead,h,s,hs=>hs.elim
theorem qby {R:Type} {lf lf' fin:Pos→Option R} {r:R}:∀{t:Tr},den lf fin t=some r→(∀s,Lfs lf fin r t s→lf' s=some r)→den lf' fin t=some r
 | .bit b t e,h,hs=>by
   simp only [den] at h ⊢
   split at h
   ·rename_i hb
    rw [if_pos hb]
    exact qby h (fun s q=>hs s (by simp only [Lfs];rw [if_pos hb];exact q))
   ·rename_i hb
    rw [if_neg hb]
    exact qby h (fun s q=>hs s (by simp only [Lfs];rw [if_neg hb];exact q))
 | .safe p t,h,hs=>by
   obtain ⟨hp,h⟩:=qai h
   simp only [den]
   rw [qha hp]
   exact qby h hs
 | .call R' v k,h,hs=>by
   simp only [den,wcb] at h ⊢
   obtain ⟨x,hx,h⟩:=h
   exact ⟨x,hx,qby h (fun s q=>hs s ⟨x,hx,q⟩)⟩
 | .any R' p k,h,hs=>by
   simp only [den] at h ⊢
   obtain ⟨x,hx⟩:=qKI h
   exact qiw x hx (fun y hy=>qby (qXh h y hy) (fun s q=>hs s ⟨y,hy,q⟩))
 | .leaf s',h,hs=>hs s' rfl
 | .ret _,h,hs=>h
 | .dead,h,hs=>by cases h
theorem qJr {R:Type} {lf lf' fin:Pos→Option R} {r r':R}:∀{t:Tr},den lf fin t=some r→den lf' fin t=some r'→r=r'∨∃s,lf s=some r∧lf' s=some r'
 | .bit b t e,h,h'=>by
   simp only [den] at h h'
   split at h
   ·rename_i hb;rw [if_pos hb] at h';exact qJr h h'
   ·rename_i hb;rw [if_neg hb] at h';exact qJr h h'
 | .safe p t,h,h'=>qJr (qai h).2 (qai h').2
 | .call R' v k,h,h'=>by
   simp only [den,wcb] at h h'
   obtain ⟨x,hx,h⟩:=h
   obtain ⟨x',hx',h'⟩:=h'
   rw [hx] at hx'
   simp only [wc] at hx'
   subst hx'
   exact qJr h h'
 | .any R' p k,h,h'=>by
   simp only [den] at h h'
   obtain ⟨x,hx⟩:=qKI h
   exact qJr (qXh h x hx) (qXh h' x hx)
 | .leaf s',h,h'=> .inr ⟨s',h,h'⟩
 | .ret _,h,h'=>by
   simp only [den] at h h'
   rw [h] at h'
   exact .inl (by simpa using h')
 | .dead,h,h'=>by cases h
section
variable {P:Program} {GT:qTg} {I:FnI P GT}
theorem FnI.SemR.det {r r':I.fm.R} {s:Pos} (h:I.SemR r s):I.SemR r' s→r=r':=by
 induction h with
 |mk s lf h hl ih=>
  rintro ⟨_,lf',h',hl'⟩
  rcases qJr h h' with e|⟨s',h1,h2⟩
  ·exact e
  ·exact ih s' h1 (hl' s' h2)
theorem FnI.sem_iff {s:Pos} {r:I.fm.R}:I.sem s=some r↔I.SemR r s:=by
 unfold FnI.sem
 constructor
 ·intro h
  split at h
  ·rename_i he
   simp only [wc] at h
   exact h▸Classical.choose_spec he
  ·cases h
 ·intro h
  have he:∃r,I.SemR r s:=⟨r,h⟩
  rw [dif_pos he]
  exact congrArg some ((Classical.choose_spec he).det h)
theorem uA (s:Pos):I.sem s=I.go s I.sem:=by
 have key:∀r,I.sem s=some r↔I.go s I.sem=some r:=by
  intro r
  constructor
  ·intro h
   obtain ⟨_,lf,h,hl⟩:=FnI.sem_iff.1 h
   exact qby h (fun s' hs=>FnI.sem_iff.2 (hl s' (qso h s' hs)))
  ·intro h
   exact FnI.sem_iff.2 ⟨s,I.sem,h,fun s' hs=>FnI.sem_iff.1 hs⟩
 cases h:I.go s I.sem with
 |some r=>exact (key r).2 h
 |none=>
  cases h':I.sem s with
  |none=>rfl
  |some r=>rw [(key r).1 h'] at h;cases h
variable {nt:Nat} {mnz:List Nat} {tab:List (Summ P GT)} {R:Type} {lf fin:Pos→Option R} {r:R}
theorem qAk:∀{a b:List Prop},qfg a→qfg b→qfg (a++b)
 |[],_,_,h=>h
 |_::_,_,h,h'=>⟨h.1,qAk h.2 h'⟩
theorem qpm:∀{cs:List Prop} {t:Tr},den lf fin (qOB cs t)=some r→qfg cs∧den lf fin t=some r
 |[],_,h=>⟨trivial,h⟩
 |p::q,t,h=>by
  simp only [qOB,den] at h
  obtain ⟨hp,h⟩:=qai h
  obtain ⟨h1,h2⟩:=qpm h
  exact ⟨⟨hp,h1⟩,h2⟩
theorem qvo {g:Bool} {v:TV} {k:TV→Tr} (h:den lf fin (qUv g v k)=some r):
  ∃v' c os,(∀rest,qom g v (os++rest)=some (v',c,rest))∧qfg c∧den lf fin (k v')=some r:=by
 unfold qUv at h
 split at h
 ·rename_i hg
  split at h
  ·rename_i b
   simp only [den] at h
   split at h
   ·rename_i hb
    exact ⟨.one (.bool true),[b=true],[.bit true],fun rest=>by simp [qom,hg],⟨hb,trivial⟩,h⟩
   ·rename_i hb
    simp only [wWa] at hb
    exact ⟨.one (.bool false),[b=false],[.bit false],fun rest=>by simp [qom,hg],⟨hb,trivial⟩,h⟩
  ·cases h
 ·rename_i hg
  exact ⟨v,[],[],fun rest=>by simp [qom,hg],trivial,h⟩
theorem qMp {lk lk':qZb} (hs:∀l o,lk l=some o→lk' l=some o):∀{ls:List Nat} {cs:List AV},qMq lk ls=some cs→qMq lk' ls=some cs
 |[],cs,h=>h
 |l::q,cs,h=>by
  simp only [qMq] at h ⊢
  split at h
  ·rename_i h1 h2
   rw [hs _ _ h1,qMp hs h2];exact h
  ·rename_i h1 h2
   rw [hs _ _ h1,qMp hs h2];exact h
  ·cases h
theorem qtE {ops:List Oper} {T:Nat→TV} {H:qZb} {nl i:Nat} {o:Oper} {k:Ev→Tr} (h:den lf fin (opT P GT tab ops T H nl i o k)=some r):
  ∃e c os,(∀rest,qAG P GT ops T H nl i o (os++rest)=some (e,c,rest))∧qfg c∧den lf fin (k e)=some r:=by
 unfold opT at h
 split at h
 ·rename_i hw
  exact ⟨_,[],[],fun rest=>by simp [qAG,hw],trivial,h⟩
 ·cases h
 ·rename_i hw
  split at h
  ·rename_i hcall
   unfold qQM at h
   split at h
   ·rename_i f args ats hop
    split at h
    ·rename_i f caps vs0 hf hvs
     split at h
     ·rename_i cs hcs
      split at h
      ·rename_i S hS
       simp only at h
       split at h
       ·rename_i pv hl hpv hhl
        split at h
        ·rename_i pre hpre
         simp only [den,wcb] at h
         obtain ⟨x,hx,h⟩:=h
         split at h
         ·rename_i out hout
          obtain ⟨v',c,os,h1,h2,h3⟩:=qvo h
          let oc:COrc:=⟨(if S.nils then pv else qJu P (qWj P f) pv),pre,qMM 0 (qtu H S.rows 60 ((vs0++cs).flatMap (qHJ S.rows)) []),((vs0++cs).flatMap qNh++(qtu H S.rows 60 ((vs0++cs).flatMap (qHJ S.rows)) []).flatMap fun l=>match H l with
           |some o=>qAp o
           |none=>[]),S.res x,S.post x,S.drop⟩
          refine ⟨_,c++out.conds, .call oc::os,fun rest=>?_,qAk h2 ?_,h3⟩
          ·simp only [qAG,hw,qvF,wba]
           have ht:qmt o.op (.call oc::(os++rest))=some (some oc,os++rest):=by
            simp only [qmt,hcall,if_true]
           rw [ht]
           simp only [qEu,hop,qGb,hf,hvs]
           rw [qMp (fun l ob hlo=>?_) hcs]
           ·simp only
            rw [hop] at hout
            rw [hout]
            simp only [h1]
            rfl
           ·rw [hop] at hlo
            unfold qwd at hlo ⊢
            split at hlo
            ·rename_i hm
             simp only [wva,wR,decide_eq_true_eq] at hm ⊢
             rw [if_pos (.inl hm)];exact hlo
            ·cases hlo
          ·have hA:∀as,(if S.nils then pv else qJu P (qWj P f) pv)=as→as=qJu P (qWj P f) pv∨as=pv:=by
            rintro as rfl
            cases S.nils
            ·exact .inl rfl
            ·exact .inr rfl
           unfold qfw at hout
           simp only at hout
           generalize hAs:(if S.nils then pv else qJu P (qWj P f) pv)=as at hout hx
           rw [hpv,hhl] at hout
           simp only at hout
           split at hout
           ·injection hout with hout;subst hout
            refine ⟨hA _ hAs,qZr hpre,?_,trivial⟩
            have:=S.ok _ _ _ hx
            rwa [qjH hS] at this
           ·cases hout
         ·cases h
        ·cases h
       ·cases h
      ·cases h
     ·cases h
    ·cases h
   ·cases h
  ·rename_i hcall
   split at h
   ·rename_i out hout
    obtain ⟨h0,h⟩:=qpm h
    obtain ⟨v',c,os,h1,h2,h3⟩:=qvo h
    refine ⟨_,c++out.conds,os,fun rest=>?_,qAk h2 h0,h3⟩
    simp only [wWa] at hcall
    simp only [qAG,hw,qvF,qmt,hcall,qEu,wQ,wI,if_false]
    rw [hout]
    simp only [h1]
   ·cases h
theorem qAJ {ops:List Oper} {T:Nat→TV} {H:qZb} {nl i:Nat} {o:Oper} {k:Ev→Tr}:opN P GT mnz tab true ops T H nl i o k=opT P GT tab ops T H nl i o k:=rfl
theorem quH {ops:List Oper}:∀{q:List Oper} {i:Nat} {σ:St} {k:St→List (Oper×Ev)→Tr},den lf fin (qzJ P GT nt mnz tab true ops i q σ k)=some r→
  ∃σ' c os tr,(∀rest,qfn P GT nt ops i q σ (os++rest)=some (σ',c,rest,tr))∧qfg c∧den lf fin (k σ' tr)=some r
 |[],i,σ,k,h=>⟨σ,[],[],[],fun rest=>rfl,trivial,h⟩
 |o::q,i,σ,k,h=>by
  simp only [qzJ,qAJ] at h
  obtain ⟨e,c,os,h1,h2,h3⟩:=qtE h
  split at h3
  ·rename_i hd
   obtain ⟨σ',c',os',tr,g1,g2,g3⟩:=quH h3
   refine ⟨σ',c++c',os++os',_,fun rest=>?_,qAk h2 g2,g3⟩
   rw [wB]
   simp only [qfn,h1,hd,if_true,g1]
  ·cases h3
theorem qCF {ops:List Oper} {σ:St} {k:St→Tr} (h:den lf fin (qin P GT nt mnz tab ops true σ k)=some r):
  ∃σ' c os,(∀rest,qen P GT nt ops true σ (os++rest)=some (σ',c,rest))∧qfg c∧den lf fin (k σ')=some r:=by
 unfold qin at h
 simp only [Bool.not_true,Bool.false_and,wI,if_false] at h
 obtain ⟨σ',c,os,tr,h1,h2,h3⟩:=quH h
 split at h3
 ·rename_i hd
  refine ⟨_,c,os,fun rest=>?_,h2,h3⟩
  simp only [qen,h1,Bool.not_true,hd,if_true]
 ·cases h3
theorem quM (hm:∀f∈mnz,qrw P f) {c:Cx} {T:Nat→TV} {H:qZb} {K:Kn} {a:Act} {w:World} {nl:Nat} (R0:Rel c P GT nt T H K a w) {ops:Array Oper} {i:Nat} {o:Oper} {ts:List Nat} {k:Ev→Tr}
  (h:den lf fin (opN P GT mnz tab false ops.toList (Ab.keepT ts T) H nl i o k)=some r) (hdk:∀e,den lf fin (k e)=some r→qUk nt o.dst=true)
  (hf:∀l,nl≤l→l<nl+8→K l=none) {next:Act→World→Prop} {Q:Exit→Act→World→Prop}
  (hn:∀e a' w' K',den lf fin (k e)=some r→Rel c P GT nt (quw T o.dst e.v) (qsb H e.upd) K' a' w'→(∀l,K' l=K l∨(nl≤l∧l<nl+8))→(∀l gh,K l=some gh→K' l=some gh)→next a' w'):
  (if wob o (yielded ops a.tmps) then o.wp P a w next Q∨(o.asks P a w∧LetsOut Q) else next (a.put o.dst undef) w):=by
 unfold opN at h
 split at h
 ·rename_i y hy
  simp only [wI,if_false] at hy
  split at hy
  ·rename_i hw
   rw [qmi R0 hw]
   simp only [if_true]
   refine .inl ?_
   obtain ⟨h0,h⟩:=qpm h
   simp only [den] at h
   have A:At c P GT H (qwd H []) K w (Ab.evT GT (Ab.keepT ts T)) a.eval nl:=
    ⟨R0.inv,qOj,fun x=>R0.keepT ts x,hf,R0.ng,R0.glob,R0.gng⟩
   refine qtz (qYB A hm hy h0) ?_
   rintro u w' ⟨x,hx,K',S,hu⟩
   obtain ⟨v',c',os,h1,h2,h3⟩:=qvo (qXh h x hx)
   have hv:TVRd w' (NN c (qsb H (y.out x).upd) K' w') K' v' u:=by
    have hdec:=h1 []
    unfold qom at hdec
    split at hdec
    ·split at hdec
     ·rename_i b c'' os'' hb hos
      simp only [wc,wk] at hdec
      obtain ⟨rfl,rfl,_⟩:=hdec
      rw [hb] at hu
      have:b=c'':=h2.1
      rw [←this];exact hu
     ·cases hdec
    ·simp only [wc,wk] at hdec
     obtain ⟨rfl,rfl,_⟩:=hdec
     exact hu
   exact hn _ _ _ K' h3 (R0.put S hv (hdk _ h3)) S.fresh S.keep.k
  ·cases hy
 ·obtain ⟨e,c',os,h1,h2,h3⟩:=qtE h
  exact qnz R0 (h1 []) h2 (hdk e h3) hf (fun a' w' K' R' q1 q2=>hn e a' w' K' h3 R' q1 q2)
theorem qtH (hm:∀f∈mnz,qrw P f) {c:Cx} {ops:Array Oper} {Q:Exit→Act→World→Prop} {n0:Nat}:∀(q:List Oper) (i:Nat) (σ:St) (k:St→List (Oper×Ev)→Tr) (K:Kn) (a:Act) (w:World),
  den lf fin (qzJ P GT nt mnz tab false ops.toList i q σ k)=some r→ops.toList.drop i=q→i+q.length=ops.size→σ.next=n0→Rel c P GT nt σ.look (qib σ.heap) K a w→(∀l,n0+8*i≤l→K l=none)→
  (∀σ' tr a' w' K',den lf fin (k σ' tr)=some r→σ'.next=n0→Rel c P GT nt σ'.look (qib σ'.heap) K' a' w'→(∀l,n0+8*ops.size≤l→K' l=none)→(∀l gh,K l=some gh→K' l=some gh)→Q .normal a' w')→
  wpOps P ops Q (wab i q.length) a w
 |[],i,σ,k,K,a,w,h,hr,hi,hn,R0,hf,hQ=>by
  simp only [wN] at hi
  exact hQ σ [] a w K h hn R0 (fun l hl=>hf l (by omega)) (fun _ _ h=>h)
 |o::q,i,σ,k,K,a,w,h,hr,hi,hn,R0,hf,hQ=>by
  simp only [qzJ] at h
  have hoi:ops[i]?=some o:=by
   rw [←wfa,←List.head?_drop,hr];rfl
  have hr2:ops.toList.drop (i+1)=q:=by
   rw [←List.tail_drop,hr];rfl
  rw [ww,List.range'_succ,wpOps_cons]
  unfold wpOp
  rw [hoi]
  refine quM hm R0 h (fun e he=>?_) (fun l h1 h2=>hf l (by omega)) ?_
  ·split at he
   ·assumption
   ·cases he
  ·intro e a' w' K' he R' hk hmn
   rw [qhq,qRm (dst:=o.dst)] at R'
   split at he
   ·refine qtH hm q (i+1) (σ.put o.dst e) _ K' a' w' he hr2 (by simp only [ww] at hi;omega) hn R' (fun l hl=>?_) (fun σ' tr a'' w'' K'' g1 g2 R'' h1 h2=>hQ σ' _ a'' w'' K'' g1 g2 R'' h1 (fun l gh hl=>h2 l gh (hmn l gh hl)))
    rcases hk l with h1|h1
    ·rw [h1];exact hf l (by omega)
    ·omega
   ·cases he
theorem qSA {σ:St} {l:Nat} (h:qrL σ l=true) (t:Nat):qfN [l] (σ.look t)=true:=by
 unfold qrL at h
 simp only [wz] at h
 unfold St.look
 split
 ·rename_i v hv
  exact wAa.1 h.1 (t,v) (qNb hv)
 ·rfl
theorem quE {σ:St} {l:Nat} (h:qrL σ l=true) {x:Nat} {ob:Obj} (hx:qib σ.heap x=some ob):okO [l] ob=true:=by
 unfold qrL at h
 simp only [wz] at h
 unfold qib at hx
 split at hx
 ·rename_i o hv
  subst hx
  exact wAa.1 h.2 (x,some ob) (qNb hv)
 ·cases hx
theorem qGu {c:Cx} {ops:Array Oper} {n0:Nat} (b:Frame) (cs:List Frame) (todo:List Item):∀(q:List Oper) (i:Nat) (σ:St) (k:St→Tr) (K:Kn) (a:Act) (w:World),
  den lf fin (qQC P GT nt tab ops.toList i q σ k)=some r→ops.toList.drop i=q→i+q.length=ops.size→σ.next=n0→Rel c P GT nt σ.look (qib σ.heap) K a w→(∀l,n0+8*i≤l→K l=none)→
  ∃σ' K' a' w',den lf fin (k σ')=some r∧σ'.next=n0∧Rel c P GT nt σ'.look (qib σ'.heap) K' a' w'∧(∀l,n0+8*ops.size≤l→K' l=none)∧(∀l gh,l<8→K l=some gh→K' l=some gh)∧
   Steps P (lone (b.at a (.inRegion ops (wab i q.length)::todo)) cs w) (lone (b.at a' todo) cs w')
 |[],i,σ,k,K,a,w,h,hr,hi,hn,R0,hf=>by
  simp only [wN] at hi
  exact ⟨σ,K,a,w,h,hn,R0,fun l hl=>hf l (by omega),fun _ _ _ h=>h, .one step_region_end⟩
 |o::q,i,σ,k,K,a,w,h,hr,hi,hn,R0,hf=>by
  simp only [qQC] at h
  have hoi:ops[i]?=some o:=by
   rw [←wfa,←List.head?_drop,hr];rfl
  have hr2:ops.toList.drop (i+1)=q:=by
   rw [←List.tail_drop,hr];rfl
  rw [ww,List.range'_succ]
  have fin':∀(e:Ev) (a':Act) (w':World) (K':Kn),den lf fin (if qUk nt o.dst then qQC P GT nt tab ops.toList (i+1) q (σ.put o.dst e) k else .dead)=some r→Rel c P GT nt (quw σ.look o.dst e.v) (qsb (qib σ.heap) e.upd) K' a' w'→
    (∀l,σ.next+8*i+8≤l→K' l=none)→(∀l gh,l<8→K l=some gh→K' l=some gh)→
    Steps P (lone (b.at a (.inRegion ops (i::wab (i+1) q.length)::todo)) cs w) (lone (b.at a' (.inRegion ops (wab (i+1) q.length)::todo)) cs w')→
    ∃σ' K' a' w',den lf fin (k σ')=some r∧σ'.next=n0∧Rel c P GT nt σ'.look (qib σ'.heap) K' a' w'∧(∀l,n0+8*ops.size≤l→K' l=none)∧(∀l gh,l<8→K l=some gh→K' l=some gh)∧
     Steps P (lone (b.at a (.inRegion ops (i::wab (i+1) q.length)::todo)) cs w) (lone (b.at a' todo) cs w'):=by
   intro e a' w' K' he R' hk hmn hs
   rw [qhq,qRm (dst:=o.dst)] at R'
   split at he
   ·obtain ⟨σ2,K2,a2,w2,g1,g2,g3,g4,g5,g6⟩:=qGu b cs todo q (i+1) (σ.put o.dst e) k K' a' w' he hr2 (by simp only [ww] at hi;omega) hn R' (fun l hl=>hk l (by omega))
    exact ⟨σ2,K2,a2,w2,g1,g2,g3,g4,fun l gh h8 hl=>g5 l gh h8 (hmn l gh h8 hl),hs.trans g6⟩
   ·cases he
  have hfr:∀l,σ.next+8*i≤l→l<σ.next+8*i+8→K l=none:=fun l h1 _=>hf l (by omega)
  have new_of:∀(K':Kn),(∀l,K' l=K l∨(σ.next+8*i≤l∧l<σ.next+8*i+8))→∀l,σ.next+8*i+8≤l→K' l=none:=fun K' hk l hl=>by
   rcases hk l with h1|h1
   ·rw [h1];exact hf l (by omega)
   ·omega
  have usual:den lf fin (opT P GT tab ops.toList (keepT (o.looksAt ops.toList.toArray) σ.look) (qib σ.heap) (σ.next+8*i) i o fun e=>
    if qUk nt o.dst then qQC P GT nt tab ops.toList (i+1) q (σ.put o.dst e) k else .dead)=some r→
    ∃σ' K' a' w',den lf fin (k σ')=some r∧σ'.next=n0∧Rel c P GT nt σ'.look (qib σ'.heap) K' a' w'∧(∀l,n0+8*ops.size≤l→K' l=none)∧(∀l gh,l<8→K l=some gh→K' l=some gh)∧
     Steps P (lone (b.at a (.inRegion ops (i::wab (i+1) q.length)::todo)) cs w) (lone (b.at a' todo) cs w'):=fun h=>by
   obtain ⟨e,c',os,h1,h2,h3⟩:=qtE h
   have hd:qUk nt o.dst=true:=by
    split at h3
    ·assumption
    ·cases h3
   have hwp:=qnz (next:=fun a' w'=>∃K',Rel c P GT nt (quw σ.look o.dst e.v) (qsb (qib σ.heap) e.upd) K' a' w'∧(∀l,K' l=K l∨(σ.next+8*i≤l∧l<σ.next+8*i+8))∧(∀l gh,K l=some gh→K' l=some gh)) (Q:=fun _ _ _=>False) R0 (h1 []) h2 hd hfr (fun a' w' K' R' q1 q2=>⟨K',R',q1,q2⟩)
   obtain ⟨a',w',⟨K',R',q1,q2⟩,hst⟩:=qDy (rest:=wab (i+1) q.length) hoi hwp b todo cs
   exact fin' e a' w' K' h3 R' (new_of K' q1) (fun l gh _ hl=>q2 l gh hl) hst
  unfold qaO at h
  split at h
  ·rename_i hw
   split at hw
   ·split at h
    ·cases h
    ·split at h
     ·rename_i out hout
      obtain ⟨h0,h⟩:=qpm h
      have A:At c P GT (qib σ.heap) (qib σ.heap) K w (Ab.evT GT (Ab.keepT (o.looksAt ops.toList.toArray) σ.look)) a.eval (σ.next+8*i):=
       ⟨R0.inv,fun _ _ h=>h,fun x=>R0.keepT _ x,hfr,R0.ng,R0.glob,R0.gng⟩
      obtain ⟨v,w',⟨K',S,hv⟩,hst⟩:=qzI (rest:=wab (i+1) q.length) hoi (qmi R0 hw) (qiG A hout h0) b todo cs
      have hd:qUk nt o.dst=true:=by
       split at h
       ·assumption
       ·cases h
      exact fin' _ _ _ K' h (R0.put S hv hd) (new_of K' S.fresh) (fun l gh _ hl=>S.keep.k l gh hl) (.one hst)
     ·split at h
      ·rename_i l out hout
       split at h
       ·rename_i hok
        have A:At c P GT (qib σ.heap) (qib σ.heap) K w (Ab.evT GT (Ab.keepT (o.looksAt ops.toList.toArray) σ.look)) a.eval (σ.next+8*i):=
         ⟨R0.inv,fun _ _ h=>h,fun x=>R0.keepT _ x,hfr,R0.ng,R0.glob,R0.gng⟩
        obtain ⟨h8,hdo⟩:=qgH A hout (fun x ob hx _=>quE hok hx)
        have hd:qUk nt o.dst=true:=by
         split at h
         ·assumption
         ·cases h
        have hwp:=qtz (next:=fun a' w'=>∃K',Rel c P GT nt (quw σ.look o.dst out.v) (qsb (qib σ.heap) out.upd) K' a' w'∧Chg (·∈[l]) K K') (Q:=fun _ _ _=>False) hdo (fun v w' ⟨K',S,hv⟩=>⟨K',R0.putC S hv hd (qSA hok),S.chg⟩)
        obtain ⟨a',w',⟨K',R',q1⟩,hst⟩:=qDy (rest:=wab (i+1) q.length) hoi (by rw [qmi R0 hw,if_pos rfl];exact .inl hwp) b todo cs
        refine fin' _ a' w' K' h R' (fun l' hl'=>?_) (fun l' gh hl' hK=>?_) hst
        ·rcases q1 l' with h1|⟨_,_,_,_,_,_,h1,_⟩
         ·rw [h1];exact hf l' (by omega)
         ·rw [hf l' (by omega)] at h1;cases h1
        ·rcases q1 l' with h1|⟨h1,_⟩
         ·rw [h1];exact hK
         ·rw [wT.1 h1] at hl';omega
       ·cases h
      ·split at h
       ·rename_i e l m oA oB hout
        split at h
        ·rename_i hoks
         split at h
         ·rename_i gs hgs
          simp only [den] at h
          have hA:=qXh h true trivial
          have hB:=qXh h false trivial
          simp only [if_true] at hA
          simp only [wI,if_false] at hB
          obtain ⟨ha0,hA⟩:=qpm hA
          obtain ⟨hb0,hB⟩:=qpm hB
          have A:At c P GT (qib σ.heap) (qib σ.heap) K w (Ab.evT GT (Ab.keepT (o.looksAt ops.toList.toArray) σ.look)) a.eval (σ.next+8*i):=
           ⟨R0.inv,fun _ _ h=>h,fun x=>R0.keepT _ x,hfr,R0.ng,R0.glob,R0.gng⟩
          obtain ⟨h8,hdo⟩:=qSF A hout hb0 (fun x ob hx hne=>by
           unfold qib at hx
           split at hx
           ·rename_i o1 hv
            subst hx
            have:=wAa.1 hoks (x,some ob) (qNb hv)
            simp only [Bool.or_eq_true,beq_iff_eq,wqb,wva,decide_eq_false_iff_not] at this
            exact this.resolve_left hne
           ·cases hx)
          have hd:qUk nt o.dst=true:=by
           split at hA
           ·assumption
           ·cases hA
          have hlook:∀{K':Kn} {w':World},StpL c (qib σ.heap) K w oA.upd l K' w'→Grown K K' e l m→∀t u,TVRd w (NN c (qib σ.heap) K w) K (σ.look t) u→TVRd w' (NN c (qsb (qib σ.heap) oA.upd) K' w') K' (σ.look t) u:=fun S hg t u hr=>by
           unfold St.look at hr ⊢
           split at hr
           ·rename_i v hv
            obtain ⟨a1,h1,h2⟩:=qvE hgs ha0 (t,v) (qNb hv)
            exact qvM S.same S.keep hg h1 h2 hr
           ·trivial
          have hwp:=qtz (next:=fun a' w'=>∃e' K',(den lf fin (if qUk nt o.dst then qQC P GT nt tab ops.toList (i+1) q (σ.put o.dst e') k else .dead)=some r∧Rel c P GT nt (quw σ.look o.dst e'.v) (qsb (qib σ.heap) e'.upd) K' a' w')∧(∀l,σ.next+8*i+8≤l→K' l=none)∧(∀l gh,l<8→K l=some gh→K' l=some gh)) (Q:=fun _ _ _=>False) hdo (fun v w' hv=>by
           rcases hv with ⟨K',S,hg,hv⟩|⟨K',S,hv⟩
           ·refine ⟨⟨oA.v,oA.upd,[]⟩,K',⟨hA,R0.putL S hv hd (hlook S hg)⟩,fun l' hl'=>?_,fun l' gh hl' hK=>?_⟩
            ·by_cases e1:l'=l
             ·subst e1
              obtain ⟨_,_,h1,_⟩:=hg.at_
              rw [hf l' (by omega)] at h1;cases h1
             ·rw [S.same l' e1];exact hf l' (by omega)
            ·rw [S.same l' (by omega)];exact hK
           ·exact ⟨⟨oB.v,oB.upd,[]⟩,K',⟨hB,R0.put S hv hd⟩,new_of K' S.fresh,fun l' gh _ hl=>S.keep.k l' gh hl⟩)
          obtain ⟨a',w',⟨e',K',⟨he',R'⟩,q1,q2⟩,hst⟩:=qDy (rest:=wab (i+1) q.length) hoi (by rw [qmi R0 hw,if_pos rfl];exact .inl hwp) b todo cs
          exact fin' e' a' w' K' he' R' q1 q2 hst
         ·cases h
        ·cases h
       ·exact usual h
   ·cases hw
  ·exact usual h
def Leads (P:Program) (GT:qTg) (nt:Nat) (Q:Pos→Prop) (s:Pos):Prop:=
 ∀(c:Cx) (K:Kn) (a:Act) (w:World) (b:Frame) (cs:List Frame),RelS c P GT nt s.st K a w→
  ∃s' K' a' w',Q s'∧RelS c P GT nt s'.st K' a' w'∧(∀l gh,l<8→K l=some gh→K' l=some gh)∧Steps P (lone (b.at a s.todo) cs w) (lone (b.at a' s'.todo) cs w')
theorem Leads.of {Q:Pos→Prop} {s s':Pos} (h:Reach P GT nt s s') (hq:Q s'):Leads P GT nt Q s:=by
 intro c K a w b cs R0
 obtain ⟨K',a',w',h1,h2,h3⟩:=h c K a w b cs R0
 exact ⟨s',K',a',w',hq,h1,h2,h3⟩
theorem Leads.bind {Q Q':Pos→Prop} {s:Pos} (h:Leads P GT nt Q s) (hq:∀s',Q s'→Leads P GT nt Q' s'):Leads P GT nt Q' s:=by
 intro c K a w b cs R0
 obtain ⟨s1,K1,a1,w1,h1,h2,h3,h4⟩:=h c K a w b cs R0
 obtain ⟨s2,K2,a2,w2,g1,g2,g3,g4⟩:=hq s1 h1 c K1 a1 w1 b cs h2
 exact ⟨s2,K2,a2,w2,g1,g2,fun l gh hl hk=>g3 l gh hl (h3 l gh hl hk),h4.trans g4⟩
theorem qXD (hm:P.follows .mixedOrders=true) (hz:∀f∈mnz,qrw P f) {s:Pos} {k:Pos→Tr} (h:den lf fin (qjJ P GT nt mnz tab s k)=some r):Leads P GT nt (fun s'=>den lf fin (k s')=some r) s:=by
 obtain ⟨todo,σ⟩:=s
 unfold qjJ at h
 have go:∀{s':Pos} {os:List Orc} {c:List Prop},qDo P GT nt ⟨todo,σ⟩ os=some (s',c,[])→qfg c→den lf fin (k s')=some r→Leads P GT nt (fun s'=>den lf fin (k s')=some r) ⟨todo,σ⟩:=fun h1 h2 h3=> .of (qEj hm h1 h2) h3
 split at h
 ·rename_i q hk;simp only at hk;subst hk
  exact go (os:=[]) (c:=[]) rfl trivial h
 ·rename_i q hk;simp only at hk;subst hk
  exact go (os:=[]) (c:=[]) rfl trivial h
 ·rename_i q hk;simp only at hk;subst hk
  exact go (os:=[]) (c:=[]) rfl trivial h
 ·rename_i q hk;simp only at hk;subst hk
  exact go (os:=[]) (c:=[]) rfl trivial h
 ·rename_i q hk;simp only at hk;subst hk
  exact go (os:=[]) (c:=[]) rfl trivial h
 ·rename_i q hk;simp only at hk;subst hk
  exact go (os:=[]) (c:=[]) rfl trivial h
 ·rename_i x y q hk;simp only at hk;subst hk
  split at h
  ·rename_i b hb
   simp only at hb
   simp only [den] at h
   split at h
   ·rename_i hbt
    exact go (os:=[.bit true]) (c:=[b=true]) (by simp only [qDo,hb,if_true]) ⟨hbt,trivial⟩ h
   ·rename_i hbt
    simp only [wWa] at hbt
    exact go (os:=[.bit false]) (c:=[b=false]) (by simp only [qDo,hb,wI,if_false]) ⟨hbt,trivial⟩ h
  ·cases h
 ·rename_i q hk;simp only at hk;subst hk
  exact go (os:=[]) (c:=[]) rfl trivial h
 ·rename_i q hk;simp only at hk;subst hk
  exact go (os:=[]) (c:=[]) rfl trivial h
 ·rename_i q hk;simp only at hk;subst hk
  exact go (os:=[]) (c:=[]) rfl trivial h
 ·rename_i q hk;simp only at hk;subst hk
  split at h
  ·rename_i q' he
   exact go (os:=[]) (c:=[]) (by simp only [qDo,he]) trivial h
  ·cases h
 ·rename_i q hk;simp only at hk;subst hk
  split at h
  ·rename_i q' he
   exact go (os:=[]) (c:=[]) (by simp only [qDo,he]) trivial h
  ·cases h
 ·rename_i id ops draw q hk;simp only at hk;subst hk
  cases draw with
  |true=>
   obtain ⟨σ',c,os,h1,h2,h3⟩:=qCF h
   have h1':=h1 []
   rw [wQ] at h1'
   exact go (os:=os) (c:=c) (by simp only [qDo];rw [h1']) h2 h3
  |false=>
   intro c K a w b cs R0
   unfold qin at h
   split at h
   ·obtain ⟨σ2,K2,a2,w2,g1,g2,g3,g4,g5,g6⟩:=qGu (n0:=σ.next) b cs q ops.toList 0 σ _ K a w h (by simp) (by simp) rfl R0.rel (fun l hl=>R0.fresh l (by omega))
    refine ⟨⟨q,{σ2 with next:=σ.next+8*ops.toList.length}⟩,K2,a2,w2,g1,⟨g3,fun l hl=>g4 l (by simpa using hl)⟩,fun l gh h8 hl=>g5 l gh h8 hl,?_⟩
    refine .head step_region ?_
    rw [List.range_eq_range']
    simpa using g6
   have hwp:(Code.region id ops false).wp P (fun e a' w'=>e= .normal∧∃σ' K',den lf fin (k ⟨q,σ'⟩)=some r∧RelS c P GT nt σ' K' a' w'∧(∀l gh,K l=some gh→K' l=some gh)) a w:=by
    refine wp_region ?_
    have:=qtH hz (Q:=fun e a' w'=>e= .normal∧∃σ' K',den lf fin (k ⟨q,σ'⟩)=some r∧RelS c P GT nt σ' K' a' w'∧(∀l gh,K l=some gh→K' l=some gh)) (n0:=σ.next) ops.toList 0 σ _ K a w h (by simp) (by simp) rfl R0.rel (fun l hl=>R0.fresh l (by omega)) (fun σ' tr a' w' K' g1 g2 R' g3 g4=>?_)
    ·rw [List.range_eq_range']
     simpa using this
    ·simp only [Bool.not_false,Bool.true_or,if_true] at g1
     exact ⟨rfl,{σ' with next:=σ.next+8*ops.toList.length},K',g1,⟨R',fun l hl=>g3 l (by simpa using hl)⟩,g4⟩
   obtain ⟨e,a',w',⟨rfl,σ',K',g1,R',hk⟩,harr⟩:=hwp b q cs
   exact ⟨⟨q,σ'⟩,K',a',w',g1,R',fun l gh _ hl=>hk l gh hl,harr⟩
 ·cases h
theorem qCL {w:World} {N:Bool→Nat→Prop} {K:Kn} {o:Option Obj} {ob:Obj} {gh:Gh} (h:qJM o=some ob):(∀o0,o=some o0→ORd w N K o0 gh)→∃o0,o=some o0∧ORd w N K ob gh:=by
 intro hr
 unfold qJM at h
 split at h
 ·rename_i e fr
  split at h
  ·rename_i hf
   simp only [wc] at h;subst h
   refine ⟨_,rfl,?_⟩
   obtain ⟨h1,h2⟩:=hr _ rfl
   refine ⟨hf,[],h1,⟨fun i j p q hi=>by simp at hi,fun p q _ hq=>by simp at hq⟩,?_⟩
   revert h2
   cases gh.pl with
   |none=>exact fun _=>⟨rfl,rfl⟩
   |some p=>
    rintro ⟨cs,g1,g2⟩
    simp only [Cat] at g2;subst g2
    exact ⟨[],g1,rfl,rfl⟩
  ·simp only [wc] at h;subst h
   exact ⟨_,rfl,hr _ rfl⟩
 ·rename_i a e fr
  split at h
  ·rename_i hf
   simp only [wz] at hf
   simp only [wc] at h;subst h
   refine ⟨_,rfl,?_⟩
   obtain ⟨h1,h2⟩:=hr _ rfl
   refine ⟨hf.1,hf.2,[],h1,⟨fun i j p q hi=>by simp at hi,fun p q _ hq=>by simp at hq⟩,?_⟩
   revert h2
   cases gh.pl with
   |none=>exact fun _=>⟨rfl,rfl⟩
   |some p=>
    rintro ⟨cs,g1,g2⟩
    simp only [Cat] at g2;subst g2
    exact ⟨[],g1,rfl,rfl⟩
  ·simp only [wc] at h;subst h
   exact ⟨_,rfl,hr _ rfl⟩
 ·subst h;exact ⟨ob,rfl,hr ob rfl⟩
theorem qxB {ns:List Nat}:∀{h:List (Nat×Option Obj)} {l:Nat},lookL (qIJ ns h) l=(if ns.contains l then (lookL h l).map qJM else lookL h l)
 |[],l=>by simp [qIJ,lookL]
 |(a,b)::r,l=>by
  simp only [qIJ]
  by_cases hl:a=l
  ·subst hl
   by_cases hc:ns.contains a=true
   ·simp only [hc,if_true,lookL,wCa]
   ·simp only [wWa] at hc;simp only [hc,wI,if_false,lookL,if_true]
  ·have ih:=qxB (ns:=ns) (h:=r) (l:=l)
   by_cases hc:ns.contains a=true
   ·simp only [hc,if_true,lookL,hl,if_false];exact ih
   ·simp only [wWa] at hc;simp only [hc,wI,if_false] at ih ⊢;simp only [lookL,hl,if_false];exact ih
theorem qiD {σ:St} {ns:List Nat} (todo:List Item):Reach P GT nt ⟨todo,σ⟩ ⟨todo,qAL σ ns⟩:=by
 intro c K a w b cs R0
 refine ⟨K,a,w,?_,fun l gh _ hk=>hk,Steps.refl _ _⟩
 unfold qAL
 split
 ·exact R0
 ·have hH:∀l o,qib (qIJ ns σ.heap) l=some o→(∃o0,qib σ.heap l=some o0)∧∀(w:World) (N:Bool→Nat→Prop) (gh:Gh),(∀o0,qib σ.heap l=some o0→ORd w N K o0 gh)→ORd w N K o gh:=by
   intro l o hl
   unfold qib at hl ⊢
   rw [qxB] at hl
   by_cases hc:ns.contains l=true
   ·simp only [hc,if_true] at hl
    cases hx:lookL σ.heap l with
    |none=>rw [hx] at hl;cases hl
    |some x=>
     rw [hx] at hl
     simp only [wCa] at hl
     refine ⟨?_,fun w N gh h=>?_⟩
     ·cases x with
      |none=>simp [qJM] at hl
      |some o0=>exact ⟨o0,rfl⟩
     ·obtain ⟨_,_,h2⟩:=qCL hl (fun o0 ho=>h o0 (by rw [ho]))
      exact h2
   ·simp only [hc] at hl
    simp only [wI,if_false] at hl
    exact ⟨⟨o,hl⟩,fun w N gh h=>h o hl⟩
  have hlive:∀b,qTb (qib (qIJ ns σ.heap)) K b→qTb (qib σ.heap) K b:=by
   rintro b ⟨l,o,gh,p,h1,h2⟩
   obtain ⟨⟨o0,h0⟩,_⟩:=hH l o h1
   exact ⟨l,o0,gh,p,h0,h2⟩
  have hN:∀fr b,NN c (qib σ.heap) K w fr b→NN c (qib (qIJ ns σ.heap)) K w fr b:=fun fr b hb=>⟨hb.1,fun hn=>hb.2.1 (hlive b hn),hb.2.2⟩
  have hk:KeepK w w (NN c (qib σ.heap) K w) (NN c (qib (qIJ ns σ.heap)) K w) K K:=⟨fun fr=>⟨fun b hb=>⟨hN fr b hb,rfl⟩⟩,fun _ _ h=>h⟩
  refine ⟨⟨⟨fun l o hl=>?_,fun l o gh p h1 h2 h3=>?_,fun l l' o o' gh gh' p p' h1 h2 h3 h4 h5 h6 h7=>?_,R0.rel.inv.fr⟩,fun t=>(R0.rel.tmps t).keep hk,R0.rel.size,R0.rel.defers,R0.rel.ng,R0.rel.gng,R0.rel.glob⟩,R0.fresh⟩
  ·obtain ⟨⟨o0,h0⟩,h1⟩:=hH l o hl
   obtain ⟨gh,g1,g2⟩:=R0.rel.inv.objs l o0 h0
   exact ⟨gh,g1,h1 _ _ _ (fun o1 ho=>by rw [h0] at ho;injection ho with ho;subst ho;exact g2.keep hk (fun _ _=>rfl))⟩
  ·obtain ⟨⟨o0,h0⟩,_⟩:=hH l o h1
   exact R0.rel.inv.own l o0 gh p h0 h2 h3
  ·obtain ⟨⟨o0,h0⟩,_⟩:=hH l o h1
   obtain ⟨⟨o0',h0'⟩,_⟩:=hH l' o' h2
   exact R0.rel.inv.inj l l' o0 o0' gh gh' p p' h0 h0' h3 h4 h5 h6 h7
theorem qwA {l:Nat} {o:Obj}:∀{h:List (Nat×Option Obj)} {x:Nat},(lookL h l).isSome→lookL (qYI l o h) x=if l=x then some (some o) else lookL h x
 |[],x,h=>by simp [lookL] at h
 |(a,b)::r,x,h=>by
  simp only [qYI]
  by_cases h1:a=l
  ·subst h1
   simp only [if_true,lookL]
   by_cases h2:a=x <;> simp [h2]
  ·simp only [h1,if_false,lookL] at h ⊢
   by_cases h2:a=x
   ·subst h2;simp [wGa h1]
   ·simp only [h2,if_false]
    exact qwA h
theorem quA {w:World} {N:Nat→Prop} {e:Ty} {p:Option Plc} {v:Value} {xs:List (pden e)} (h:Slot w e p v xs) (hf:e.flat=true) (hN:∀q,p=some q→N q.blk):PRd w N (.slice e) xs [v]:=by
 cases p with
 |none=>obtain ⟨rfl,rfl⟩:=h;exact ⟨none,0,rfl,ws _, .inl rfl⟩
 |some p=>
  obtain ⟨o,cap,cl,rfl,h2,h3,h4,h5⟩:=h
  refine ⟨_,cap,rfl,h2,?_⟩
  rcases h3 with h3|⟨rfl,_⟩
  ·subst h3
   exact .inl (List.length_eq_zero_iff.1 (by omega))
  ·exact .inr ⟨p.blk,p.ob,cl,rfl,hN p rfl,h4.cells,h5.imp (fun _ _ q=>q.flat hf)⟩
theorem qME {w:World} {N:Nat→Prop} {e:Ty} (hf:e.flat=true):∀{xss:List (List (pden e))} {ps:List (Nat×Option Plc)} {cs:List Value},FamRd w e xss ps cs→(∀q,some q∈ps.map (·.2)→N q.blk)→Cat (PRd w N (.slice e)) xss cs
 |[],_,_,h,_=>h.2
 |xs::r,_,_,h,hN=>by
  obtain ⟨p,ps',v,cs',rfl,rfl,h1,h2⟩:=h
  have hs:Slot w e p v xs:=by cases p <;> exact h1
  exact ⟨[v],cs',rfl,quA hs hf (fun q hq=>hN q (by rw [hq];simp)),qME hf h2 (fun q hq=>hN q (wH _ hq))⟩
theorem qwB {w:World} {N:Nat→Prop} {a e:Ty} (ha:a.flat=true) (hf:e.flat=true):∀{xs:List (pden a×List (pden e))} {ps:List (Nat×Option Plc)} {cs:List Value},FamSRd w a e xs ps cs→(∀q,some q∈ps.map (·.2)→N q.blk)→Cat (PRd w N (qQp a e)) (qxi xs) cs
 |[],_,_,h,_=>h.2
 |x::r,_,_,h,hN=>by
  obtain ⟨p,ps',c,v,cs',rfl,rfl,h0,h1,h2⟩:=h
  exact ⟨c++[v],cs',by simp,⟨c,[v],rfl,h0.flat ha,[v],[],rfl,quA h1 hf (fun q hq=>hN q (by rw [hq];simp)),rfl⟩,qwB ha hf h2 (fun q hq=>hN q (wH _ hq))⟩
theorem qgL {c:Cx} {H:qZb} {K:Kn} {w:World} {o o':Obj} {gh:Gh} (h:qZL o=some o') (ho:ORd w (NN c H K w) K o gh):∃t n ps,gh.sh= .row t n ps∧∀(N:Bool→Nat→Prop) (K':Kn),(∀q,some q∈ps.map (·.2)→N true q.blk)→ORd w N K' o' ⟨.row t n [],gh.pl⟩:=by
 unfold qZL at h
 split at h
 ·rename_i a e xs
  simp only [wc] at h;subst h
  obtain ⟨ha,hf,ps,h1,_,h2⟩:=ho
  refine ⟨_,_,ps,h1,fun N K' hN=>?_⟩
  cases hp:gh.pl with
  |none=>rw [hp] at h2;obtain ⟨rfl,rfl⟩:=h2;exact ⟨rfl,rfl⟩
  |some p=>
   rw [hp] at h2
   obtain ⟨cs,h3,h4⟩:=h2
   exact ⟨by simp [qxi],cs,h3,qwB ha hf h4 hN⟩
 ·rename_i e xss
  simp only [wc] at h;subst h
  obtain ⟨hf,ps,h1,_,h2⟩:=ho
  refine ⟨_,_,ps,h1,fun N K' hN=>?_⟩
  cases hp:gh.pl with
  |none=>rw [hp] at h2;obtain ⟨rfl,rfl⟩:=h2;exact ⟨rfl,rfl⟩
  |some p=>
   rw [hp] at h2
   obtain ⟨cs,h3,h4⟩:=h2
   exact ⟨rfl,cs,h3,qME hf h4 hN⟩
 ·cases h
theorem qwF {c:Cx} {H:qZb} {K:Kn} {w:World} {o o':Obj} {gh:Gh} (h:qZL o=some o') (ho:ORd w (NN c H K w) K o gh):Apart gh.pl gh.sh.ex:=by
 unfold qZL at h
 split at h
 ·obtain ⟨ha,hf,ps,h1,h3,h2⟩:=ho
  rw [h1];exact h3
 ·obtain ⟨hf,ps,h1,h3,h2⟩:=ho
  rw [h1];exact h3
 ·cases h
theorem qAA {σ:St} {l:Nat} (todo:List Item):Leads P GT nt (fun s'=>s'=⟨todo,qgu σ l⟩) ⟨todo,σ⟩:=by
 have same:qgu σ l=σ→Leads P GT nt (fun s'=>s'=⟨todo,qgu σ l⟩) ⟨todo,σ⟩:=fun h=>by
  rw [h];exact .of (Reach.refl _) rfl
 by_cases hsame:qgu σ l=σ
 ·exact same hsame
 intro c K a w b cs R0
 have hx:∃o o',qib σ.heap l=some o∧qZL o=some o'∧8≤l∧qrL σ l=true∧qgu σ l={σ with heap:=qYI l o' σ.heap}:=by
  unfold qgu at hsame ⊢
  split at hsame
  ·rename_i o ho
   split at hsame
   ·rename_i o' ho'
    split at hsame
    ·rename_i hc
     simp only [wz,decide_eq_true_eq] at hc
     exact ⟨o,o',ho,ho',hc.1,hc.2,by simp [ho,ho',hc.1,hc.2]⟩
    ·exact absurd rfl hsame
   ·exact absurd rfl hsame
  ·exact absurd rfl hsame
 obtain ⟨o,o',hl,hro,h8,hok,heq⟩:=hx
 have hv:=R0.rel.inv
 obtain ⟨gh,hK,hob⟩:=hv.objs l o hl
 obtain ⟨t,n,ps,hsh,hnew⟩:=qgL hro hob
 have hap:=qwF hro hob
 obtain ⟨sh,pl⟩:=gh
 simp only at hsh;subst hsh
 have hup:∀x,qib (qYI l o' σ.heap) x=if l=x then some o' else qib σ.heap x:=fun x=>by
  have hs:(lookL σ.heap l).isSome:=by
   unfold qib at hl
   split at hl
   ·rename_i y hy;rw [hy];rfl
   ·cases hl
  unfold qib
  rw [qwA hs]
  by_cases h1:l=x <;> simp [h1]
 have hchg:Chg (·∈[l]) K (qLj K l ⟨.row t n [],pl⟩):=fun x=>by
  by_cases e1:x=l
  ·subst e1;exact .inr ⟨wT.2 rfl,_,_,_,_,_,hK,qRa⟩
  ·exact .inl (qof e1)
 have hcase:∀x ob g p,qib (qYI l o' σ.heap) x=some ob→qLj K l ⟨.row t n [],pl⟩ x=some g→Has g p→(x=l∧pl=some p)∨(x≠l∧qib σ.heap x=some ob∧K x=some g):=by
  intro x ob g p h1 h2 h3
  rw [hup] at h1
  by_cases e1:l=x
  ·subst e1
   rw [qRa] at h2;injection h2 with h2;subst h2
   rcases h3 with h3|h3
   ·exact .inl ⟨rfl,h3⟩
   ·cases h3
  ·rw [if_neg e1] at h1
   rw [qof (wGa e1)] at h2
   exact .inr ⟨wGa e1,h1,h2⟩
 have hlive:∀b,qTb (qib (qYI l o' σ.heap)) (qLj K l ⟨.row t n [],pl⟩) b→qTb (qib σ.heap) K b:=by
  rintro b ⟨x,ob,g,p,h1,h2,h3,h4⟩
  rcases hcase x ob g p h1 h2 h3 with ⟨rfl,h5⟩|⟨_,h5,h6⟩
  ·exact ⟨x,o,_,p,hl,hK, .inl h5,h4⟩
  ·exact ⟨x,ob,g,p,h5,h6,h3,h4⟩
 have hkeep:∀fr,Keep w w (NN c (qib σ.heap) K w fr) (NN c (qib (qYI l o' σ.heap)) (qLj K l ⟨.row t n [],pl⟩) w fr):=
  fun fr=>⟨fun b hb=>⟨⟨hb.1,fun hn=>hb.2.1 (hlive b hn),hb.2.2⟩,rfl⟩⟩
 have hfree:∀q,some q∈ps.map (·.2)→NN c (qib (qYI l o' σ.heap)) (qLj K l ⟨.row t n [],pl⟩) w true q.blk:=fun q hq=>by
  obtain ⟨o1,o2,_⟩:=hv.own l o _ q hl hK (.inr hq)
  refine ⟨o1,?_,o2.imp id .inl⟩
  rintro ⟨x,ob,g,p,h1,h2,h3,h4⟩
  rcases hcase x ob g p h1 h2 h3 with ⟨rfl,h5⟩|⟨hne,h5,h6⟩
  ·exact hap.2 p q h5 hq h4.symm
  ·exact hne (hv.inj x l ob o g _ p q h5 hl h6 hK h3 (.inr hq) h4)
 refine ⟨_,qLj K l ⟨.row t n [],pl⟩,a,w,rfl,?_,fun x gh hx hk=>by rw [qof (by omega)];exact hk,Steps.refl _ _⟩
 rw [heq]
 refine ⟨⟨⟨fun x ob hx=>?_,fun x ob g p h1 h2 h3=>?_,fun x x' ob ob' g g' p p' h1 h2 h3 h4 h5 h6 h7=>?_,hv.fr⟩,fun tt=>?_,R0.rel.size,R0.rel.defers,R0.rel.ng,R0.rel.gng,R0.rel.glob⟩,fun x hx=>?_⟩
 ·rw [hup] at hx
  by_cases e1:l=x
  ·subst e1
   rw [if_pos rfl] at hx;injection hx with hx;subst hx
   exact ⟨_,qRa,hnew _ _ hfree⟩
  ·rw [if_neg e1] at hx
   obtain ⟨g,a1,a2⟩:=hv.objs x ob hx
   exact ⟨g,by rw [qof (wGa e1)];exact a1,a2.chg hchg hkeep (quE hok hx) (fun _ _=>rfl)⟩
 ·rcases hcase x ob g p h1 h2 h3 with ⟨rfl,h5⟩|⟨_,h5,h6⟩
  ·exact hv.own x o _ p hl hK (.inl h5)
  ·exact hv.own x ob g p h5 h6 h3
 ·rcases hcase x ob g p h1 h3 h5 with ⟨rfl,a1⟩|⟨n1,a1,a2⟩
  ·rcases hcase x' ob' g' p' h2 h4 h6 with ⟨rfl,b1⟩|⟨n2,b1,b2⟩
   ·rfl
   ·exact hv.inj x x' _ _ _ _ p p' hl b1 hK b2 (.inl a1) h6 h7
  ·rcases hcase x' ob' g' p' h2 h4 h6 with ⟨rfl,b1⟩|⟨n2,b1,b2⟩
   ·exact hv.inj x x' _ _ _ _ p p' a1 hl a2 hK h5 (.inl b1) h7
   ·exact hv.inj x x' _ _ _ _ p p' a1 b1 a2 b2 h5 h6 h7
 ·exact (R0.rel.tmps tt).chg hchg hkeep (qSA hok tt)
 ·have h1:=R0.fresh x hx
  by_cases e1:x=l
  ·subst e1;rw [hK] at h1;cases h1
  ·rw [qof e1];exact h1
theorem qfu (todo:List Item):∀{ls:List Nat} {σ:St},Leads P GT nt (fun s'=>s'=⟨todo,qfL σ ls⟩) ⟨todo,σ⟩
 |[],σ=> .of (Reach.refl _) rfl
 |l::r,σ=>(qAA (σ:=σ) (l:=l) todo).bind (fun s1 h1=>by subst h1;exact qfu todo)
theorem quJ {w:World} {N:Bool→Nat→Prop} {K:Kn} {a:TV} {v:Value} (h:TVRd w N K a v):TVRd w N K (qPC a) v:=by
 unfold qPC
 split
 ·obtain ⟨n,pl,h1,h2,h3,h4⟩:=h
  exact ⟨n,pl,h1,h2,by simp,h4⟩
 ·exact h
theorem qhv {ts:List Nat}:∀{xs:List (Nat×TV)} {t:Nat},lookL (xs.map fun p=>if ts.contains p.1 then (p.1,qPC p.2) else p) t=if ts.contains t then (lookL xs t).map qPC else lookL xs t
 |[],t=>by simp [lookL]
 |(a,b)::r,t=>by
  have ih:=qhv (ts:=ts) (xs:=r) (t:=t)
  simp only [wJ]
  by_cases h1:ts.contains a=true
  ·simp only [h1,if_true,lookL]
   by_cases h2:a=t
   ·subst h2;simp only [if_true,h1,wCa]
   ·simp only [h2,if_false];exact ih
  ·simp only [wWa] at h1
   simp only [h1,wI,if_false,lookL]
   by_cases h2:a=t
   ·subst h2;simp only [if_true,h1,wI,if_false]
   ·simp only [h2,if_false];exact ih
theorem qPA {σ:St} {ts:List Nat} (todo:List Item):Reach P GT nt ⟨todo,σ⟩ ⟨todo,qpH σ ts⟩:=by
 intro c K a w b cs R0
 refine ⟨K,a,w,?_,fun l gh _ hk=>hk,Steps.refl _ _⟩
 unfold qpH
 split
 ·exact R0
 ·refine ⟨⟨R0.rel.inv,fun t=>?_,R0.rel.size,R0.rel.defers,R0.rel.ng,R0.rel.gng,R0.rel.glob⟩,R0.fresh⟩
  have h:=R0.rel.tmps t
  have heq:St.look {σ with tmps:=σ.tmps.map fun p=>if ts.contains p.1 then (p.1,qPC p.2) else p} t=if ts.contains t then qPC (σ.look t) else σ.look t:=by
   unfold St.look
   simp only [qhv]
   by_cases h1:ts.contains t=true
   ·simp only [h1,if_true]
    cases hx:lookL σ.tmps t with
    |none=>rfl
    |some v=>rfl
   ·simp only [wWa] at h1
    simp only [h1,wI,if_false]
  rw [heq]
  split
  ·exact quJ h
  ·exact h
theorem qvI {c:Cut} {s:Pos} (h:den lf fin (qhN c s)=some r):Leads P GT nt (fun s'=>lf s'=some r) s:=by
 unfold qhN at h
 split at h
 ·rename_i σ hk
  obtain ⟨todo,σ0⟩:=s
  exact (Leads.of (qPF hk _) rfl).bind (fun s1 h1=>by
   subst h1
   exact (Leads.of (qiD _) rfl).bind (fun s2 h2=>by
    subst h2
    exact (qfu (nt:=nt) todo).bind (fun s3 h3=>by subst h3;exact .of (qPA _) h)))
 ·cases h
theorem qNH (hm:P.follows .mixedOrders=true) {todo todo':List Item} {σ:St} (h:qOH todo=some todo'):Reach P GT nt ⟨todo,σ⟩ ⟨todo',σ⟩:=by
 unfold qOH at h
 split at h
 ·simp only [wc] at h;subst h
  exact qEj hm (os:=[]) (cs:=[]) (os':=[]) rfl trivial
 ·simp only [wc] at h;subst h
  exact qEj hm (os:=[]) (cs:=[]) (os':=[]) rfl trivial
 ·exact qEj hm (os:=[]) (cs:=[]) (os':=[]) (by simp only [qDo,h]) trivial
 ·cases h
theorem qlt (hm:P.follows .mixedOrders=true) (hz:∀f∈mnz,qrw P f) {cuts:List Cut}:∀{n:Nat} {first:Bool} {s:Pos},den lf fin (qnF P GT nt mnz tab cuts n first s)=some r→
  Leads P GT nt (fun s'=>lf s'=some r∨(qRF s'.todo=true∧fin s'=some r)) s
 |0,_,_,h=>by cases h
 |n+1,first,s,h=>by
  simp only [qnF] at h
  split at h
  ·rename_i hr
   exact .of (Reach.refl s) (.inr ⟨hr,h⟩)
  ·split at h
   ·rename_i todo' hh
    have h0:Reach P GT nt s ⟨todo',s.st⟩:=qNH hm hh
    split at h
    ·exact (Leads.of h0 rfl).bind (fun s1 h1=>by subst h1;exact (qvI h).bind (fun s2 h2=> .of (Reach.refl _) (.inl h2)))
    ·exact (Leads.of h0 rfl).bind (fun s1 h1=>by subst h1;exact qlt hm hz h)
   ·split at h
    ·split at h
     ·exact (qvI h).bind (fun s2 h2=> .of (Reach.refl _) (.inl h2))
     ·exact (qXD hm hz h).bind (fun s1 h1=>qlt hm hz h1)
    ·exact (qXD hm hz h).bind (fun s1 h1=>qlt hm hz h1)
theorem uE (hm:P.follows .mixedOrders=true) {s:Pos} {r:I.fm.R} (h:I.SemR r s):Leads P GT (qgg P I.f) (fun s'=>qRF s'.todo=true∧I.fm.fin P (qeL P I.f) s'=some r) s:=by
 induction h with
 |mk s lf h hl ih=>
  refine (qlt hm I.mnzOk h).bind (fun s' hs=>?_)
  rcases hs with hs|hs
  ·exact ih s' hs
  ·exact .of (Reach.refl _) hs
theorem uB (hm:P.follows .mixedOrders=true) {s:Pos} {r:I.fm.R} (h:I.sem s=some r):qTN P GT (qgg P I.f) (qeL P I.f) s (I.fm.res r) (I.fm.post r):=by
 intro c K a w b cs R0
 obtain ⟨s',K',a',w',⟨h2,h3⟩,R',h4,h5⟩:=uE hm (FnI.sem_iff.1 h) c K a w b cs R0
 obtain ⟨res0,res1,ren,nx,lo,g1,g2,g3,g3',g4⟩:=uH h3
 exact ⟨s',res0,res1,ren,nx,lo,K',a',w',R',h4,h5,h2,g1,g2,g3,g3',g4⟩
@[reducible] def FnI.at (I:FnI P GT) (as:List AV) (pre:List (Nat×Obj)):Pos:=⟨[.code (qda P I.f)],st0 as pre⟩
noncomputable def FnI.call (I:FnI P GT) (as:List AV) (pre:List (Nat×Obj)):Option I.fm.R:=
 if qzL P I.f as.length&&pre.all (fun p=>decide (p.1<8)) then I.sem (I.at as pre) else none
theorem FnI.call_ok (hm:P.follows .mixedOrders=true) {as:List AV} {pre:List (Nat×Obj)} {r:I.fm.R} (h:I.call as pre=some r):CallOK P GT I.f as pre (I.fm.res r) (I.fm.post r):=by
 unfold FnI.call at h
 split at h
 ·rename_i hc
  simp only [wz] at hc
  exact qFI hc.1 hc.2 (uB hm h)
 ·cases h
noncomputable def FnI.summ (I:FnI P GT) (hm:P.follows .mixedOrders=true) (acc:List AV→Bool) (rows nils:Bool) (drop:Bool:=false):Summ P GT:=
 {f:=I.f,acc:=acc,rows:=rows,nils:=nils,drop:=drop,R:=I.fm.R,fn:=I.call,res:=I.fm.res,post:=I.fm.post,ok:=fun as pre r h=>FnI.call_ok hm h}
theorem uD {as:List AV} {pre:List (Nat×Obj)} (h:(qzL P I.f as.length&&pre.all (fun p=>decide (p.1<8)))=true):I.call as pre=I.go (I.at as pre) I.sem:=by
 unfold FnI.call
 rw [if_pos h]
 exact uA _
end
end Go.Ab

/-
  From what a law's arguments read as to plain values, and back.
-/
set_option linter.unusedVariables false
set_option linter.unusedSimpArgs false
namespace Go.Ab
open Go
def wfP:(t:Ty)→pden t→Prop
 | .int k,n=>(Lit.int k n).wf=true
 | .bool,_=>True
 | .str,s=>ByteArray.size s≤Go.maxLen
 | .arr n e,xs=>xs.length=n∧∀x∈xs,wfP e x
 | .pair a b,x=>wfP a x.1∧wfP b x.2
 | .unit,_=>True
 | .slice e,xs=>xs.length≤Go.maxLen∧∀x∈xs,wfP e x
 | .fn,_=>True
def qpf:Ty→Bool
 | .arr _ e=>qpf e
 | .pair a b=>qpf a&&qpf b
 | .slice e=>qpf e&&decide (0<e.sz)
 | .fn=>false
 |_=>true
section
variable {P:Program} {H:Type} {enc:TypeId×Value→H} {w:World} {base:Nat} {spare:Nat→Bool} {held:Bool}
abbrev InW (w:World):Nat→Prop:=fun b=>b<w.heap.size
theorem qYE {b o n:Nat}:Addr.add ⟨b,o,none⟩ n=⟨b,o+n,none⟩:=by
 unfold Addr.add;split <;> simp_all
theorem qiy {m:Nat} {T:TypeId} {t:Ty} (h:qod P (m+1) T=some t):∃desc,P.underlying T=some desc∧qEk P (qod P m) desc=some t∧P.cellsOf T=t.sz:=by
 simp only [qod] at h
 split at h
 ·rename_i desc hd
  split at h
  ·rename_i ty hr
   split at h
   ·rename_i hc
    simp only [wc] at h;subst h
    exact ⟨desc,hd,hr,by simpa using hc⟩
   ·cases h
  ·cases h
 ·cases h
theorem qnC {m:Nat} {T:TypeId} {t:Ty} (h:qod P m T=some t):P.cellsOf T=t.sz:=by
 cases m with
 |zero=>cases h
 |succ m=>obtain ⟨_,_,_,h⟩:=qiy h;exact h
def Rds (P:Program) (enc:TypeId×Value→H) (w:World) (base:Nat) (spare:Nat→Bool) (held:Bool) (n m:Nat):Prop:=
 ∀(T:TypeId) (t:Ty) (cs:List Value) (y:DataW H×List MemPlace),qpf t=true→qod P m T=some t→DataW.trod enc P w base spare held n T cs=some y→∃x:pden t,PRd w (InW w) t x cs∧wfP t x
theorem qvB {n m:Nat} (G:Rds P enc w base spare held n m) {cs:List Value}:∀{fs:List Field} {ts:List Ty} {o:Nat},qDk (qod P m) fs=some ts→qXj P fs ts o=true→qpf (qYd ts)=true→cs.length=o+(qYd ts).sz→
  (∀f∈fs,∃y,DataW.trod enc P w base spare held n f.type ((cs.drop f.offset).take (P.cellsOf f.type))=some y)→∃x:pden (qYd ts),PRd w (InW w) (qYd ts) x (cs.drop o)∧wfP (qYd ts) x
 |[],ts,o,h1,h2,h3,h4,h5=>by
  simp only [qDk,wc] at h1;subst h1
  refine ⟨(),?_,trivial⟩
  show cs.drop o=[]
  rw [List.drop_eq_nil_iff];simp [qYd,Ty.sz] at h4;omega
 |f::fs,ts,o,h1,h2,h3,h4,h5=>by
  simp only [qDk] at h1
  split at h1
  ·rename_i t ts' e1 e2
   simp only [wc] at h1;subst h1
   simp only [qXj,wz,beq_iff_eq] at h2
   simp only [qYd,qpf,wz] at h3
   simp only [qYd,Ty.sz] at h4
   obtain ⟨y,hy⟩:=h5 f List.mem_cons_self
   obtain ⟨x1,p1,w1⟩:=G _ _ _ _ h3.1 e1 hy
   obtain ⟨x2,p2,w2⟩:=qvB G e2 h2.2 h3.2 (by omega) (fun g hg=>h5 g (wH _ hg))
   rw [h2.1,qnC e1] at p1
   refine ⟨(x1,x2),⟨_,_,?_,p1,p2⟩,w1,w2⟩
   exact (List.take_append_drop t.sz (cs.drop o)).symm.trans (by rw [List.drop_drop])
  ·cases h1
theorem qAB {n m:Nat} (G:Rds P enc w base spare held n m) {E:TypeId} {e:Ty} (hE:qod P m E=some e) (hp:qpf e=true) {b o len:Nat} {elems:List (DataW H×List MemPlace)} (hl:elems.length=len)
  (he:∀i,i<len→(w.cells? base (Addr.add ⟨b,o,none⟩ (i*e.sz)) e.sz).bind (DataW.trod enc P w base spare held n E)=elems[i]?):
  ∀k,k≤len→∃(xs:List (pden e)) (cl:List Value),xs.length=k∧cl.length=k*e.sz∧CellsAt w b o cl∧Cat (PRd w (InW w) e) xs cl∧∀x∈xs,wfP e x
 |0,_=>⟨[],[],rfl,by simp,fun j v hj=>by simp at hj,rfl,fun x hx=>by cases hx⟩
 |k+1,hk=>by
  obtain ⟨xs,cl,h1,h2,h3,h4,h5⟩:=qAB G hE hp hl he k (by omega)
  have hi:=he k (by omega)
  rw [wx (by omega)] at hi
  obtain ⟨cs,hcs,hy⟩:=wcb.1 hi
  obtain ⟨x,hx,hw⟩:=G _ _ _ _ hp hE hy
  obtain ⟨g1,g2,g3⟩:=World.cells?_some hcs
  refine ⟨xs++[x],cl++cs,by simp [h1],?_,?_,h4.append ⟨cs,[],by simp,hx,rfl⟩,?_⟩
  ·rw [List.length_append,h2,hx.length,Nat.succ_mul]
  ·intro j v hj
   rw [List.getElem?_append] at hj
   split at hj
   ·exact h3 j v hj
   ·rename_i hjl
    have hjc:j - cl.length<cs.length:=(List.getElem?_eq_some_iff.1 hj).1
    have:=g3 (j - cl.length) (by rw [←g2];exact hjc)
    rw [hj,qYE,qYE] at this
    rw [←this]
    congr 2
    rw [h2];rw [h2] at hjl;omega
  ·intro y hy
   rcases wR.1 hy with hy|hy
   ·exact h5 y hy
   ·simp only [wT] at hy;subst hy;exact hw
theorem qCI {a:Addr} {v:Value} (h:w.cell? a=some v):a=⟨a.block,a.off,none⟩:=by
 obtain ⟨b,o,sp⟩:=a
 cases sp with
 |none=>rfl
 |some s=>simp [World.cell?] at h;split at h <;> simp at h
theorem qfH:∀(n m:Nat),Rds P enc w base spare held n m
 |0,m,T,t,cs,y,hp,hT,hy=>by simp [DataW.trod] at hy
 |n+1,0,T,t,cs,y,hp,hT,hy=>by cases hT
 |n+1,m+1,T,t,cs,y,hp,hT,hy=>by
  obtain ⟨desc,hd,hr,hs⟩:=qiy hT
  have G:=qfH n m
  unfold qEk at hr
  split at hr
  ·simp only [wc] at hr;subst hr
   obtain ⟨b,rfl,_⟩:=DataW.trod_bool hd hy
   exact ⟨b,rfl,trivial⟩
  ·simp only [wc] at hr;subst hr
   obtain ⟨k,rfl,_,hw⟩:=DataW.trod_int hd hy
   exact ⟨k,rfl,hw⟩
  ·simp only [wc] at hr;subst hr
   obtain ⟨s,rfl,_,hw⟩:=DataW.trod_string hd hy
   exact ⟨s,rfl,hw⟩
  ·rename_i E
   split at hr
   ·rename_i e hE
    simp only [wc] at hr;subst hr
    simp only [qpf,wz,decide_eq_true_eq] at hp
    rcases DataW.trod_slice hd hy with ⟨rfl,_⟩|⟨a,len,cap,elems,rest,n',hn,rfl,_,_,hlc,hcm,hl,he,_⟩
    ·exact ⟨[],⟨none,0,rfl,ws _, .inl rfl⟩,by simp,fun x hx=>by cases hx⟩
    ·simp only [Nat.add_right_cancel_iff] at hn;subst hn
     rw [qnC hE] at he
     by_cases h0:len=0
     ·subst h0
      exact ⟨[],⟨some a,cap,rfl,Nat.zero_le _, .inl rfl⟩,by simp,fun x hx=>by cases hx⟩
     ·have h1:=he 0 (by omega)
      rw [wx (by omega)] at h1
      obtain ⟨cs0,hcs0,_⟩:=wcb.1 h1
      obtain ⟨q1,q2,q3⟩:=World.cells?_some hcs0
      have h2:=q3 0 (by omega)
      rw [wx (by omega)] at h2
      have ha:a=⟨a.block,a.off,none⟩:=qCI (v:=cs0[0]'(by omega)) (by simpa [Addr.add] using h2)
      have hb:=World.cells?_block hcs0 hp.2
      have hb':a.block<w.heap.size:=by simpa [Addr.add] using hb
      rw [ha] at he
      obtain ⟨xs,cl,g1,g2,g3,g4,g5⟩:=qAB G hE hp.1 hl he len (ws _)
      refine ⟨xs,⟨some a,cap,by rw [g1],by omega, .inr ⟨a.block,a.off,cl,by rw [←ha],hb',g3,g4⟩⟩,by omega,g5⟩
   ·cases hr
  ·rename_i k E
   split at hr
   ·rename_i e hE
    simp only [wc] at hr;subst hr
    simp only [qpf] at hp
    obtain ⟨xs0,n',hn,_,hlen,hl,he⟩:=DataW.trod_array hd hy
    simp only [Nat.add_right_cancel_iff] at hn;subst hn
    have hes:=qnC hE
    rw [hes] at he
    rw [hs] at hlen
    simp only [Ty.sz] at hlen
    have key:∀j,j≤k→∃xs:List (pden e),xs.length=j∧Cat (PRd w (InW w) e) xs (cs.take (j*e.sz))∧∀x∈xs,wfP e x:=by
     intro j
     induction j with
     |zero=>intro _;exact ⟨[],rfl,by simp [Cat],fun x hx=>by cases hx⟩
     |succ j ih=>
      intro hj
      obtain ⟨xs,h1,h2,h3⟩:=ih (by omega)
      have hi:=he j (by omega)
      rw [wx (by omega)] at hi
      obtain ⟨x,hx,hw⟩:=G _ _ _ _ hp hE hi
      refine ⟨xs++[x],by simp [h1],?_,?_⟩
      ·rw [Nat.succ_mul,List.take_add]
       exact h2.append ⟨_,[],by simp,hx,rfl⟩
      ·intro y hy
       rcases wR.1 hy with hy|hy
       ·exact h3 y hy
       ·simp only [wT] at hy;subst hy;exact hw
    obtain ⟨xs,h1,h2,h3⟩:=key k (ws _)
    rw [List.take_of_length_le (by omega)] at h2
    exact ⟨xs,⟨h1,h2⟩,h1,h3⟩
   ·cases hr
  ·rename_i fs
   split at hr
   ·rename_i ts hts
    split at hr
    ·rename_i hof
     simp only [wc] at hr;subst hr
     obtain ⟨xs0,n',hn,_,hlen,hl,he⟩:=DataW.trod_struct hd hy
     simp only [Nat.add_right_cancel_iff] at hn;subst hn
     rw [hs] at hlen
     obtain ⟨x,hx,hw⟩:=qvB (cs:=cs) G hts hof hp (by omega) (fun f hf=>by
      obtain ⟨i,hi,hfi⟩:=List.mem_iff_getElem.1 hf
      have hi':i<fs.size:=by simpa using hi
      have h1:=he i f (by rw [←wfa,wx hi,hfi])
      rw [wx (by omega)] at h1
      exact ⟨_,h1⟩)
     exact ⟨x,by simpa using hx,hw⟩
    ·cases hr
   ·cases hr
  ·cases hr;simp [qpf] at hp
  ·cases hr
theorem open_ty {fuel m:Nat} {T:TypeId} {t:Ty} {cs:List Value} {y:DataW H×List MemPlace} (hp:qpf t=true) (hT:qod P m T=some t) (hy:DataW.trod enc P w base spare held fuel T cs=some y):
  ∃x:pden t,PRd w (InW w) t x cs∧wfP t x:=qfH fuel m T t cs y hp hT hy
end
section
variable {P:Program} {H:Type} {enc:TypeId×Value→H} {w:World} {base:Nat} {spare:Nat→Bool} {held:Bool}
theorem laid_arr {fuel:Nat} {T E:TypeId} {n:Nat} {k:IntKind} {zs:List Int} {cs:List Value} {q:List MemPlace} (hT:P.underlying T=some (.array n E)) (hE:P.underlying E=some (.int k)) (hc:P.cellsOf E=1) (hcT:P.cellsOf T=n)
  (h:DataW.trod enc P w base spare held fuel T cs=some (.agg (zs.map fun z=> .lit (.int k z)),q)):cs=zs.map (Value.int k):=by
 obtain ⟨xs,m,_,hx,hlen,hl,he⟩:=DataW.trod_array hT h
 simp only [wk,DataW.agg.injEq] at hx
 rw [hcT] at hlen
 have hzl:zs.length=xs.length:=by have:=congrArg List.length hx.1;simpa using this
 refine List.ext_getElem (by simp;omega) (fun i h1 h2=>?_)
 have hi:=he i (by omega)
 rw [hc,wx (by omega)] at hi
 obtain ⟨z,e1,e2,_⟩:=DataW.trod_int hE hi
 have e3:cs[i]?=some (.int k z):=by
  have:=congrArg (·[0]?) e1
  simp only [Nat.mul_one,List.getElem?_take,List.getElem?_drop,Nat.add_zero] at this
  simpa using this
 have e4:zs[i]?=some z:=by
  have:=congrArg (·[i]?) hx.1
  simp only [List.getElem?_map] at this
  rw [wx (by omega:i<xs.length),e2] at this
  cases hz:zs[i]? with
  |none=>rw [hz] at this;simp at this
  |some z'=>
   rw [hz] at this
   simp only [wCa,wc,DataW.lit.injEq,Lit.int.injEq,true_and] at this
   rw [this]
 simp only [List.getElem_map]
 rw [wx h1] at e3
 simp only [wc] at e3
 rw [e3]
 rw [wx (by simpa using h2)] at e4
 simp only [wc] at e4
 rw [e4]
theorem glob_arr {g n:Nat} {k:IntKind} {zs:List Int} {cs:List Value} (hcs:cs=zs.map (Value.int k)) (hl:zs.length=n) (hcell:∀i v,cs[i]?=some v→w.cell? ⟨g,i,none⟩=some v):
  ∃cs,CellsAt w g 0 cs∧PRd w (fun _=>False) (.arr n (.int k)) (zs:List Int) cs:=by
 refine ⟨cs,fun j v hj=>by rw [Nat.zero_add];exact hcell j v hj,hl,?_⟩
 subst hcs
 exact qLq zs
end
def qTo:Value→Bool
 | .agg _=>true
 |_=>false
theorem PRd.val {w:World} {N:Bool→Nat→Prop} {K:Kn} (hN:∀b,b<w.heap.size→N false b) (hlow:∀b,N true b→N false b) {t:Ty} {x:pden t} {v:Value} {cs:List Value} (h0:PRd w (InW w) t x cs) (hc:v.cells.toList=cs) (hv:qTo v=t.agg) (hf:qpf t=true):VRd w N K (qqC t (inj false t x)) v:=by
 have h:PRd w (N false) t x cs:=h0.keep ⟨fun b hb=>⟨hN b hb,rfl⟩⟩
 clear h0
 cases t with
 |arr n e=>
  cases v <;> simp [Ty.agg,qTo] at hv
  rename_i a
  exact ⟨cs,by simp [wpb] at hc;rw [←hc],rfl,qej (N:=N) hlow false h⟩
 |pair a b=>
  cases v <;> simp [Ty.agg,qTo] at hv
  exact ⟨cs,by simp [wpb] at hc;rw [←hc],rfl,qej (N:=N) hlow false h⟩
 |unit=>
  cases v <;> simp [Ty.agg,qTo] at hv
  exact ⟨cs,by simp [wpb] at hc;rw [←hc],rfl,qej (N:=N) hlow false h⟩
 |int k=>
  simp only [PRd] at h;subst h
  cases v <;> simp [Ty.agg,qTo,wpb] at hv hc <;> first|exact hc|skip
  all_goals simp_all [qqC,inj,VRd]
 |bool=>
  simp only [PRd] at h;subst h
  cases v <;> simp [Ty.agg,qTo,wpb] at hv hc <;> first|exact hc|skip
  all_goals simp_all [qqC,inj,VRd]
 |str=>
  simp only [PRd] at h;subst h
  cases v <;> simp [Ty.agg,qTo,wpb] at hv hc <;> first|exact hc|skip
  all_goals simp_all [qqC,inj,VRd]
 |slice e=>
  obtain ⟨A,cap,rfl,h1,h2⟩:=h
  cases v <;> simp [Ty.agg,qTo,wpb] at hv hc
  obtain ⟨rfl,rfl,rfl⟩:=hc
  exact ⟨_,_,rfl,h1,h2⟩
 |fn=>simp [qpf] at hf
theorem CallOK.below {P:Program} {GT:qTg} {f:Nat} {args:List AV} {res:TV} {post:List (Nat×Obj)} (h:CallOK P GT f args [] res post) {w:World} (hg:Glob P GT w) {vs:List Value}
  (ha:∀(N:Bool→Nat→Prop) (K:Kn),(∀b,b<w.heap.size→N false b)→(∀b,N true b→N false b)→VRdL w N K args vs) {v:Value} (hr:∀(N:Bool→Nat→Prop) (K:Kn) (w':World) (u:Value),TVRd w' N K res u→u=v) (hb:(P.funcs[f]?).map (·.body.isSome)=some true) (hn:(P.funcs[f]?).map (·.name== "runtime.NumGoroutine")=some false):
  Calls P f vs.toArray w fun e w'=>e= .returned v∧RowKit.Below w.heap.size w w':=by
 have h1:=h w (InW w) (fun _=>False) (fun _=>none) vs hg ⟨(fun l o hl=>by cases hl),(fun l o gh p hl=>by cases hl),(fun l l' o o' gh gh' p p' hl=>by cases hl),⟨rfl,rfl,rfl,ws _,fun _ _ _=>rfl⟩⟩
  (fun b hb=>hb.elim) (fun l hl=>rfl) (fun b hb=>hb) (ha _ _ (fun b hb=>⟨hb,(fun hl=>by obtain ⟨l,o,gh,p,q,_⟩:=hl;cases q), .inr (.inr ⟨rfl, .inl hb⟩)⟩) ui)
 unfold qcp at h1
 obtain ⟨fn,hf,hbs⟩:=Option.map_eq_some_iff.1 hb
 obtain ⟨fn',hf',hnm⟩:=Option.map_eq_some_iff.1 hn
 rw [hf] at hf';injection hf' with hf';subst hf'
 obtain ⟨body,hbody⟩:=wEa.1 hbs
 have hcf:(callFunc f vs.toArray).run P w= .ok (.enter f vs.toArray) w:=by
  have hnm':¬fn.name= "runtime.NumGoroutine" :=by simpa using hnm
  simp [callFunc,hf,hnm',hbody]
 rw [hcf] at h1
 refine h1.mono ?_
 rintro e w' ⟨u,rfl,K',_,hI,hu⟩
 exact ⟨by rw [hr _ _ _ _ hu],hI.fr.os,hI.fr.tape,hI.fr.output,hI.fr.size,fun k hk=>hI.fr.block k hk (fun h=>h)⟩
theorem okWide_form {P:Program} {w:World} {r:Go.Reach} {base:Nat} {T:TypeId} {m:Nat} {t:Ty} {v:Value} (hT:qod P (m+1) T=some t) (hnf:qpf t=true) (h:Value.okWide P w r base T v):qTo v=t.agg:=by
 obtain ⟨desc,hd,hr,_⟩:=qiy hT
 unfold Value.okWide at h
 rw [hd] at h
 have hcell:Cell.okWide P w r base T v→(match desc with
   | .bool=>true
   | .int _=>true
   | .string=>true
   | .slice _=>true
   |_=>false)=true→qTo v=false:=by
  intro hc hdesc
  cases v with
  |agg cs=>
   exfalso
   unfold Cell.okWide at hc
   rw [hd] at hc
   cases desc <;> simp [Cell.ok,hd] at hc hdesc
  |_=>rfl
 cases desc with
 |bool=>simp only [qEk,wc] at hr;subst hr;exact hcell h rfl
 |int k=>simp only [qEk,wc] at hr;subst hr;exact hcell h rfl
 |string=>simp only [qEk,wc] at hr;subst hr;exact hcell h rfl
 |slice e=>
  simp only [qEk] at hr
  split at hr
  ·simp only [wc] at hr;subst hr;exact hcell h rfl
  ·cases hr
 |array n e=>
  simp only [qEk] at hr
  split at hr
  ·simp only [wc] at hr;subst hr
   obtain ⟨cs,rfl,_⟩:=h;rfl
  ·cases hr
 |struct fs=>
  simp only [qEk] at hr
  split at hr
  ·rename_i ts _
   split at hr
   ·simp only [wc] at hr;subst hr
    obtain ⟨cs,rfl,_⟩:=h
    cases ts <;> rfl
   ·cases hr
  ·cases hr
 |func _ _ _=>simp only [qEk,wc] at hr;subst hr;simp [qpf] at hnf
 |_=>simp [qEk] at hr
end Go.Ab

/-
  Functions that are walked by hand: from what a walk tells to what calls ask for.
-/
set_option linter.unusedVariables false
set_option linter.unusedSimpArgs false
namespace Go.Ab
open Go
theorem Inv.more {c:Cx} {H:qZb} {K:Kn} {w w':World} (h:Inv c H K w) (h1:w'.os=w.os) (h2:w'.tape=w.tape) (h3:w'.output=w.output) (hs:w.heap.size≤w'.heap.size) (hb:∀k,k<w.heap.size→w'.heap[k]?=w.heap[k]?):
  Inv c H K w'∧KeepK w w' (NN c H K w) (NN c H K w') K K:=by
 have hk:KeepK w w' (NN c H K w) (NN c H K w') K K:=⟨fun fr=>⟨fun b hb'=>⟨⟨wY hb'.1 hs,hb'.2.1,hb'.2.2⟩,hb b hb'.1⟩⟩,fun _ _ h=>h⟩
 refine ⟨⟨fun l o hl=>?_,fun l o gh p hl hg hp=>?_,h.inj,?_⟩,hk⟩
 ·obtain ⟨gh,g1,g2⟩:=h.objs l o hl
  exact ⟨gh,g1,g2.keep hk (fun p hp=>hb _ (h.own l o gh p hl g1 hp).1)⟩
 ·obtain ⟨a,b,d⟩:=h.own l o gh p hl hg hp
  exact ⟨wY a hs,b,d⟩
 ·exact ⟨h1.trans h.fr.os,h2.trans h.fr.tape,h3.trans h.fr.output,wia h.fr.size hs,fun k hk' hG=>(hb k (wY hk' h.fr.size)).trans (h.fr.block k hk' hG)⟩
theorem qTB {P:Program} {f:Nat} {args:Array Value} {w:World} {R:Value→World→Prop} (hb:(P.funcs[f]?).map (·.body.isSome)=some true) (hn:(P.funcs[f]?).map (·.name== "runtime.NumGoroutine")=some false)
  (h:Calls P f args w fun e w'=>∃v,e= .returned v∧R v w'):qcp P f args w R:=by
 obtain ⟨fn,hf,hbs⟩:=Option.map_eq_some_iff.1 hb
 obtain ⟨fn',hf',hnm⟩:=Option.map_eq_some_iff.1 hn
 rw [hf] at hf';injection hf' with hf';subst hf'
 obtain ⟨body,hbody⟩:=wEa.1 hbs
 have hcf:(callFunc f args).run P w= .ok (.enter f args) w:=by
  have hnm':¬fn.name= "runtime.NumGoroutine" :=by simpa using hnm
  simp [callFunc,hf,hnm',hbody]
 unfold qcp
 rw [hcf]
 exact h
end Go.Ab

/-
  Plain laws on numbers and lists, for the printed functions.
-/
set_option linter.unusedVariables false
set_option linter.unusedSimpArgs false
namespace Go.Ab
open Go
theorem w64 {x:Int} (h1:-9223372036854775808≤x) (h2:x≤9223372036854775807):wd .i64 x=x:=by
 simp [wd,IntKind.signed,IntKind.bits];omega
theorem w32 {x:Int} (h1:-2147483648≤x) (h2:x≤2147483647):wd .i32 x=x:=by
 simp [wd,IntKind.signed,IntKind.bits];omega
theorem wu8 (x:Int):wd .u8 x=x%256:=by
 simp [wd,IntKind.signed,IntKind.bits]
theorem qAs (x:Int):wd .u32 x=x%4294967296:=by
 simp [wd,IntKind.signed,IntKind.bits]
theorem qmN (x:Int):wd .u64 x=x%18446744073709551616:=by
 simp [wd,IntKind.signed,IntKind.bits]
theorem qyd (a:Int) {b:Int} (h:0<b):Int.fdiv a b=a/b:=Int.fdiv_eq_ediv_of_nonneg _ (by omega)
theorem qJl {a b:Int} (h:0≤a):Int.tdiv a b=a/b:=Int.tdiv_eq_ediv_of_nonneg h
theorem qYg {a b:Int} (h:0≤a):Int.tmod a b=a%b:=Int.tmod_eq_emod_of_nonneg h
theorem qMG (a b:Int) (h0:0≤b) (h:b≤63):qTl .i64 a b=a/2 ^ b.toNat:=by
 unfold qTl
 have:min b.toNat (IntKind.bits .i64)=b.toNat:=by simp [IntKind.bits];omega
 rw [this]
 exact Int.fdiv_eq_ediv_of_nonneg _ (by have:(0:Int)<2 ^ b.toNat:=Int.pow_pos (by decide);omega)
theorem qnN {n:Int} (h:(Lit.int .u8 n).wf=true):0≤n∧n<256:=by
 simp [Lit.wf,IntKind.min,IntKind.max,IntKind.signed,IntKind.bits] at h;omega
def Bts (xs:List Int):Prop:=∀x∈xs,0≤x∧x<256
theorem Bts.nil:Bts []:=fun x hx=>by cases hx
theorem Bts.append {a b:List Int} (ha:Bts a) (hb:Bts b):Bts (a++b):=fun x hx=>(wR.1 hx).elim (ha x) (hb x)
theorem Bts.take {a:List Int} (h:Bts a) (n:Nat):Bts (a.take n):=fun x hx=>h x (List.mem_of_mem_take hx)
theorem Bts.drop {a:List Int} (h:Bts a) (n:Nat):Bts (a.drop n):=fun x hx=>h x (List.mem_of_mem_drop hx)
theorem Bts.cons {a:List Int} {x:Int} (hx:0≤x∧x<256) (h:Bts a):Bts (x::a):=fun y hy=>by
 rcases wU.1 hy with rfl|hy
 ·exact hx
 ·exact h y hy
theorem uG {xs:List Int} (h:∀x∈xs,wfP (.int .u8) x):Bts xs:=fun x hx=>qnN (h x hx)
theorem qpp {xs:List Int} (h:Bts xs):qZc (qFk xs)=xs:=by
 unfold qZc qFk
 simp only [List.map_map]
 refine (List.map_congr_left (fun x hx=>?_)).trans (List.map_id xs)
 obtain ⟨h0,h1⟩:=h x hx
 simp only [Function.comp,UInt8.toNat_ofNat',id]
 omega
theorem qoF (xs:List Int):(qFk xs).size=xs.length:=by
 show ((xs.map fun n=>UInt8.ofNat n.toNat).toArray).size=_
 simp
theorem qHG {xs ys:List Int} (hx:Bts xs) (hy:Bts ys) (h:qFk xs=qFk ys):xs=ys:=by
 rw [←qpp hx,h,qpp hy]
theorem qLM {xs ys:List Int} (hx:Bts xs) (hy:Bts ys):(wW (qFk xs)==wW (qFk ys))=decide (xs=ys):=by
 rw [Bool.eq_iff_iff,beq_iff_eq,decide_eq_true_eq]
 exact ⟨fun h=>qHG hx hy (toList_inj h),fun h=>by rw [h]⟩
end Go.Ab

/-
  Regions in the rounds of a range over a function, and what abides while its book-keeping turns.
-/
set_option linter.unusedVariables false
set_option linter.unusedSimpArgs false
namespace Go.Ab
open Go
theorem CellsAt.abide {w w':World} (hc:∀p v,w.cell? p=some v→w'.cell? p=some v) {b o:Nat} {cs:List Value} (h:CellsAt w b o cs):CellsAt w' b o cs:=fun j v hj=>hc _ _ (h j v hj)
theorem PRd.abide {w w':World} {N N':Nat→Prop} (hc:∀p v,w.cell? p=some v→w'.cell? p=some v) (hN:∀b,N b→N' b):∀{t:Ty} {x:pden t} {cs:List Value},PRd w N t x cs→PRd w' N' t x cs
 | .int _,_,_,h=>h
 | .bool,_,_,h=>h
 | .str,_,_,h=>h
 | .arr n e,xs,_,h=>⟨h.1,h.2.imp (fun _ _=>PRd.abide hc hN)⟩
 | .pair a b,_,_,h=>by
   obtain ⟨c1,c2,e,h1,h2⟩:=h
   exact ⟨c1,c2,e,PRd.abide hc hN h1,PRd.abide hc hN h2⟩
 | .unit,_,_,h=>h
 | .slice _,_,_,h=>by
   obtain ⟨A,cap,e,hl,h⟩:=h
   refine ⟨A,cap,e,hl,h.imp id ?_⟩
   rintro ⟨b,o,cl,e,hn,hcl,h⟩
   exact ⟨b,o,cl,e,hN b hn,hcl.abide hc,h.imp (fun _ _=>PRd.abide hc hN)⟩
 | .fn,_,_,h=>h
theorem ARd.abide {w w':World} {N N':Bool→Nat→Prop} {K:Kn} (hc:∀p v,w.cell? p=some v→w'.cell? p=some v) (hN:∀fr b,N fr b→N' fr b):∀{t:Ty} {x:qke t} {cs:List Value},ARd w N K t x cs→ARd w' N' K t x cs
 | .int _,_,_,h=>h
 | .bool,_,_,h=>h
 | .str,_,_,h=>h
 | .arr n e,xs,_,h=>⟨h.1,h.2.imp (fun _ _=>PRd.abide hc (hN false))⟩
 | .pair a b,_,_,h=>by
   obtain ⟨c1,c2,e,h1,h2⟩:=h
   exact ⟨c1,c2,e,ARd.abide hc hN h1,ARd.abide hc hN h2⟩
 | .unit,_,_,h=>h
 | .slice _,x,_,h=>by
   cases x with
   |pure fr xs=>exact PRd.abide hc (hN fr) (t:= .slice _) h
   |ref l off len wh=>exact h
   |nil=>exact h
   |junk=>exact h
   |lng n=>exact h
 | .fn,_,_,h=>h
theorem VRd.abide {w w':World} {N N':Bool→Nat→Prop} {K:Kn} (hc:∀p v,w.cell? p=some v→w'.cell? p=some v) (hN:∀fr b,N fr b→N' fr b) {a:AV} {v:Value} (h:VRd w N K a v):VRd w' N' K a v:=by
 cases a with
 |agg t x=>obtain ⟨cs,e,h1,h2⟩:=h;exact ⟨cs,e,h1,h2.abide hc hN⟩
 |sl e fr xs=>exact PRd.abide hc (hN fr) (t:= .slice e) h
 |rptr t fr x=>obtain ⟨b,o,cs,e,h1,h2,h3⟩:=h;exact ⟨b,o,cs,e,h1.imp id (hN fr b),h2.abide hc,h3.abide hc (hN fr)⟩
 |sln e fr xs=>exact ⟨PRd.abide hc (hN fr) (t:= .slice e) h.1,h.2⟩
 |_=>exact h
theorem TVRd.abide {w w':World} {N N':Bool→Nat→Prop} {K:Kn} (hc:∀p v,w.cell? p=some v→w'.cell? p=some v) (hN:∀fr b,N fr b→N' fr b) {a:TV} {v:Value} (h:TVRd w N K a v):TVRd w' N' K a v:=by
 cases a with
 |one a=>exact VRd.abide hc hN h
 |tup as=>
  obtain ⟨vs,e,h⟩:=h
  refine ⟨vs,e,?_⟩
  clear e
  induction as generalizing vs with
  |nil=>exact h
  |cons a as ih=>
   obtain ⟨v,r,e,h1,h2⟩:=h
   exact ⟨v,r,e,h1.abide hc hN,ih r h2⟩
def qHF:Obj→Bool
 | .map _ _ _=>false
 | .chan .. =>false
 | .famS .. =>false
 |_=>true
theorem ORd.abide {w w':World} {N N':Bool→Nat→Prop} {K:Kn} (hc:∀p v,w.cell? p=some v→w'.cell? p=some v) (hN:∀fr b,N fr b→N' fr b) {o:Obj} {gh:Gh} (hm:qHF o=true) (hb:∀p,Has gh p→w'.heap[p.blk]?=w.heap[p.blk]?) (h:ORd w N K o gh):ORd w' N' K o gh:=by
 cases o with
 |row e fr xs=>
  refine ⟨h.1,?_⟩
  have h2:=h.2
  cases hp:gh.pl with
  |none=>rw [hp] at h2;exact h2
  |some p=>
   rw [hp] at h2
   obtain ⟨cs,h1,h2⟩:=h2
   exact ⟨cs,h1.keep (hb p (.inl hp)),h2.imp (fun _ _=>PRd.abide hc (hN fr))⟩
 |box t x=>
  obtain ⟨hs,p,cs,hp,h1,h2⟩:=h
  exact ⟨hs,p,cs,hp,h1.keep (hb p (.inl hp)),h2.abide hc hN⟩
 |cell v=>
  obtain ⟨hs,p,c,hp,h1,h2⟩:=h
  exact ⟨hs,p,c,hp,h1.keep (hb p (.inl hp)),h2.abide hc hN⟩
 |map k v es=>cases hm
 |chan e fr cap xs cl=>cases hm
 |famS a e xs=>cases hm
 |fam e xss=>
  obtain ⟨hf,ps,hs,ha,h⟩:=h
  refine ⟨hf,ps,hs,ha,?_⟩
  cases hp:gh.pl with
  |none=>rw [hp] at h;exact h
  |some p=>
   rw [hp] at h
   obtain ⟨cs,h1,h2⟩:=h
   exact ⟨cs,h1.keep (hb p (.inl hp)),h2.keep hf (fun q hq=>hb q (.inr (by rw [hs];exact hq)))⟩
theorem InBlk.isCells {w:World} {p:Plc} {cs:List Value} (h:InBlk w p cs):∃o:Go.Obj,w.heap[p.blk]?=some o∧o.isCells=true:=by
 obtain ⟨arr,T,fz,h1,_⟩:=h
 exact ⟨_,h1,rfl⟩
theorem FamRd.isCells {w:World} {e:Ty}:∀{xss:List (List (pden e))} {ps:List (Nat×Option Plc)} {cs:List Value} {q:Plc},FamRd w e xss ps cs→some q∈ps.map (·.2)→∃o:Go.Obj,w.heap[q.blk]?=some o∧o.isCells=true
 |[],_,_,q,h,hq=>by obtain ⟨rfl,_⟩:=h;simp at hq
 |xs::r,_,_,q,h,hq=>by
  obtain ⟨p,ps',v,cs',rfl,rfl,h1,h2⟩:=h
  simp only [wJ,wU] at hq
  rcases hq with hq|hq
  ·subst hq
   obtain ⟨o,cap,cl,a1,a2,a3,a4,a5⟩:=h1
   exact a4.isCells
  ·exact h2.isCells hq
theorem ORd.isCells {w:World} {N:Bool→Nat→Prop} {K:Kn} {o:Obj} {gh:Gh} (hm:qHF o=true) (h:ORd w N K o gh) {p:Plc} (hp:Has gh p):∃ob:Go.Obj,w.heap[p.blk]?=some ob∧ob.isCells=true:=by
 cases o with
 |row e fr xs=>
  obtain ⟨h1,h2⟩:=h
  rcases hp with hp|hp
  ·rw [hp] at h2
   obtain ⟨cs,h3,_⟩:=h2
   exact h3.isCells
  ·rw [h1] at hp;simp [Shp.ex] at hp
 |box t x=>
  obtain ⟨hs,q,cs,hq,h1,h2⟩:=h
  rcases hp with hp|hp
  ·rw [hq] at hp;injection hp with hp;subst hp;exact h1.isCells
  ·rw [hs] at hp;simp [Shp.ex] at hp
 |cell v=>
  obtain ⟨hs,q,cs,hq,h1,h2⟩:=h
  rcases hp with hp|hp
  ·rw [hq] at hp;injection hp with hp;subst hp;exact h1.isCells
  ·rw [hs] at hp;simp [Shp.ex] at hp
 |map k v es=>cases hm
 |chan e fr cap xs cl=>cases hm
 |famS a e xs=>cases hm
 |fam e xss=>
  obtain ⟨hf,ps,hs,ha,h⟩:=h
  cases hpl:gh.pl with
  |none=>
   rw [hpl] at h
   rcases hp with hp|hp
   ·rw [hpl] at hp;cases hp
   ·rw [hs,h.2] at hp;simp [Shp.ex] at hp
  |some p0=>
   rw [hpl] at h
   obtain ⟨cs,h1,h2⟩:=h
   rcases hp with hp|hp
   ·rw [hpl] at hp;injection hp with hp;subst hp;exact h1.isCells
   ·rw [hs] at hp;exact h2.isCells hp
section
variable {c:Cx} {P:Program} {GT:qTg} {H:qZb} {K:Kn} {w w':World}
theorem Inv.abide (h:Inv c H K w) {row:Option Nat} (hg:w.grownBy w' row) (hr:∀r,row=some r→c.w0.heap.size≤r∧∃o:Go.Obj,w.heap[r]?=some o∧o.isCells=false) (hm:∀l o,H l=some o→qHF o=true):
  Inv c H K w'∧(∀fr b,NN c H K w fr b→NN c H K w' fr b):=by
 have hN:∀fr b,NN c H K w fr b→NN c H K w' fr b:=fun fr b hb=>⟨wY hb.1 hg.size,hb.2⟩
 have hcell:∀p v,w.cell? p=some v→w'.cell? p=some v:=fun p v hv=>cell_kept hv hg (fun r e=>(hr r e).2)
 refine ⟨⟨fun l o hl=>?_,fun l o gh p h1 h2 h3=>?_,h.inj,?_⟩,hN⟩
 ·obtain ⟨gh,g1,g2⟩:=h.objs l o hl
  refine ⟨gh,g1,g2.abide hcell hN (hm l o hl) (fun p hp=>?_)⟩
  obtain ⟨ob,h1,h2⟩:=g2.isCells (hm l o hl) hp
  exact grownBy_keeps_cells hg (fun r e=>(hr r e).2) h1 h2
 ·have:=h.own l o gh p h1 h2 h3
  exact ⟨wY this.1 hg.size,this.2⟩
 ·refine ⟨hg.os.trans h.fr.os,hg.tape.trans h.fr.tape,hg.output.trans h.fr.output,wia h.fr.size hg.size,fun k hk hG=>(hg.block k (wY hk h.fr.size) (fun e=>?_)).trans (h.fr.block k hk hG)⟩
  have:=(hr k e.symm).1
  omega
end
section
variable {c:Cx} {P:Program} {GT:qTg} {nt:Nat} {mnz:List Nat} {tab:List (Summ P GT)} {R:Type} {lf fin:Pos→Option R} {r:R}
theorem Glob.abide {w w':World} (h:Glob P GT w) {row:Option Nat} (hg:w.grownBy w' row) (hr:∀r,row=some r→∃o:Go.Obj,w.heap[r]?=some o∧o.isCells=false):Glob P GT w':=by
 have hcell:∀p v,w.cell? p=some v→w'.cell? p=some v:=fun p v hv=>cell_kept hv hg hr
 refine ⟨wia h.1 hg.size,fun g t x hl=>?_,fun g hl=>?_,fun g hl=>?_⟩
 ·obtain ⟨a,b,cs,d,e⟩:=h.2.1 g t x hl
  exact ⟨a,b,cs,d.abide hcell,e.abide hcell (fun _ h=>h)⟩
 ·obtain ⟨u,ty,a,b,d,e⟩:=h.2.2.1 g hl
  exact ⟨u,ty,a,b,d,hcell _ _ e⟩
 ·obtain ⟨m,e⟩:=h.2.2.2 g hl
  exact ⟨m,hcell _ _ e⟩
theorem RelS.abide {σ:St} {K:Kn} {a:Act} {w w':World} (h:RelS c P GT nt σ K a w) {row:Option Nat} (hg:w.grownBy w' row) (hr:∀r,row=some r→c.w0.heap.size≤r∧∃o:Go.Obj,w.heap[r]?=some o∧o.isCells=false) (hm:∀l o,qib σ.heap l=some o→qHF o=true):RelS c P GT nt σ K a w':=by
 obtain ⟨h1,h2⟩:=h.rel.inv.abide hg hr hm
 have hcell:∀p v,w.cell? p=some v→w'.cell? p=some v:=fun p v hv=>cell_kept hv hg (fun r e=>(hr r e).2)
 exact ⟨⟨h1,fun t=>(h.rel.tmps t).abide hcell h2,h.rel.size,h.rel.defers,h.rel.ng,h.rel.gng,h.rel.glob.abide hg (fun r e=>(hr r e).2)⟩,h.fresh⟩
theorem qoI {F:Fence} (hF:∀f,F.fn f) (hd:F.depth=none) {n:Nat} {o:Oper} {a:Act} {w:World} {R:Value→World→Prop} {next:Act→World→Prop} {Q:Exit→Act→World→Prop} (hnd:∀c,o.op≠ .defer c) (hwide:∀f args w R n,Calls P f args w R→CallsIn F n P f args w R)
  (h:Does P o a.eval w R) (hn:∀v w',R v w'→next (a.put o.dst v) w'):o.wpIn F n P a w next Q:=by
 refine ⟨fun f _=>hF f,?_⟩
 rw [Oper.semAt_eq _ _ _ hnd]
 unfold Does at h
 generalize (execOp a.eval o).run P w=r at h ⊢
 cases r with
 |ok nx w'=>
  cases nx <;> simp only at h
  case value v=>exact hn v w' h
  case skip=>exact hn _ w' h
  case enter f args=>
   refine ⟨fun h0=>(by rw [hd] at h0;cases h0),hwide _ _ _ _ _ (Calls.mono h ?_)⟩
   rintro e w'' ⟨v,rfl,h2⟩
   exact hn v w'' h2
 |halt x w'=>exact h.elim
theorem Does.mono {o:Oper} {ρ:Operand→Value} {w:World} {R R':Value→World→Prop} (h:Does P o ρ w R) (hr:∀v w',R v w'→R' v w'):Does P o ρ w R':=by
 unfold Does at h ⊢
 split at h
 ·exact hr _ _ h
 ·exact hr _ _ h
 ·refine Calls.mono h ?_
  rintro e w'' ⟨v,e1,h2⟩
  exact ⟨v,e1,hr _ _ h2⟩
 ·exact h.elim
theorem qBJ (hm:∀f∈mnz,qrw P f) {T:Nat→TV} {H:qZb} {K:Kn} {a:Act} {w:World} {nl:Nat} (R0:Rel c P GT nt T H K a w) {ops:Array Oper} {i:Nat} {o:Oper} {ts:List Nat} {k:Ev→Tr}
  (h:den lf fin (opN P GT mnz tab false ops.toList (Ab.keepT ts T) H nl i o k)=some r) (hdk:∀e,den lf fin (k e)=some r→qUk nt o.dst=true)
  (hf:∀l,nl≤l→l<nl+8→K l=none):
  (wob o (yielded ops a.tmps)=true∧Does P o a.eval w fun u w'=>∃e K',den lf fin (k e)=some r∧Rel c P GT nt (quw T o.dst e.v) (qsb H e.upd) K' (a.put o.dst u) w'∧(∀l,K' l=K l∨(nl≤l∧l<nl+8))∧w.heap.size≤w'.heap.size∧KeepK w w' (NN c H K w) (NN c (qsb H e.upd) K' w') K K')∨
  (wob o (yielded ops a.tmps)=false∧∃e,den lf fin (k e)=some r∧Rel c P GT nt (quw T o.dst e.v) (qsb H e.upd) K (a.put o.dst undef) w∧KeepK w w (NN c H K w) (NN c (qsb H e.upd) K w) K K):=by
 unfold opN at h
 split at h
 ·rename_i y hy
  simp only [wI,if_false] at hy
  split at hy
  ·rename_i hw
   refine .inl ⟨qmi R0 hw,?_⟩
   obtain ⟨h0,h⟩:=qpm h
   simp only [den] at h
   have A:At c P GT H (qwd H []) K w (Ab.evT GT (Ab.keepT ts T)) a.eval nl:=
    ⟨R0.inv,qOj,fun x=>R0.keepT ts x,hf,R0.ng,R0.glob,R0.gng⟩
   refine Does.mono (qYB A hm hy h0) ?_
   rintro u w' ⟨x,hx,K',S,hu⟩
   obtain ⟨v',c',os,h1,h2,h3⟩:=qvo (qXh h x hx)
   have hv:TVRd w' (NN c (qsb H (y.out x).upd) K' w') K' v' u:=by
    have hdec:=h1 []
    unfold qom at hdec
    split at hdec
    ·split at hdec
     ·rename_i b c'' os'' hb hos
      simp only [wc,wk] at hdec
      obtain ⟨rfl,rfl,_⟩:=hdec
      rw [hb] at hu
      have:b=c'':=h2.1
      rw [←this];exact hu
     ·cases hdec
    ·simp only [wc,wk] at hdec
     obtain ⟨rfl,rfl,_⟩:=hdec
     exact hu
   exact ⟨_,K',h3,R0.put S hv (hdk _ h3),S.fresh,S.size,S.keep⟩
  ·cases hy
 ·obtain ⟨e,c',os,h1,h2,h3⟩:=qtE h
  replace h1:=h1 []
  rw [wQ] at h1
  unfold qAG at h1
  split at h1
  ·rename_i hw
   refine .inl ⟨qmi R0 hw,?_⟩
   unfold qvF at h1
   split at h1
   ·rename_i oc os1 hoc
    simp only at h1
    split at h1
    ·rename_i out hout
     split at h1
     ·rename_i v c2 os2 hdec
      simp only [wc,wk] at h1
      obtain ⟨rfl,rfl,rfl⟩:=h1
      have hc1:qfg c2∧qfg out.conds:=by
       clear hdec
       induction c2 with
       |nil=>exact ⟨trivial,h2⟩
       |cons x xs ih=>exact ⟨⟨h2.1,(ih h2.2).1⟩,(ih h2.2).2⟩
      have A:At c P GT H (qwd H (qSC (Ab.evT GT (Ab.keepT ts T)) o.op++qEu oc)) K w (Ab.evT GT (Ab.keepT ts T)) a.eval nl:=
       ⟨R0.inv,qOj,fun x=>R0.keepT ts x,hf,R0.ng,R0.glob,R0.gng⟩
      refine Does.mono (qsE A hout hc1.2) ?_
      rintro u w' ⟨K',S,hu⟩
      have hv:TVRd w' (NN c (qsb H out.upd) K' w') K' v u:=by
       unfold qom at hdec
       split at hdec
       ·split at hdec
        ·rename_i b c' os'' hb
         simp only [wc,wk] at hdec
         obtain ⟨rfl,rfl,rfl⟩:=hdec
         rw [hb] at hu
         have:b=c':=hc1.1.1
         rw [←this];exact hu
        ·cases hdec
       ·simp only [wc,wk] at hdec
        obtain ⟨rfl,rfl,rfl⟩:=hdec
        exact hu
      exact ⟨_,K',h3,R0.put S hv (hdk _ h3),S.fresh,S.size,S.keep⟩
     ·cases h1
    ·cases h1
   ·cases h1
  ·rename_i hw
   refine .inr ⟨qmi R0 hw,?_⟩
   simp only [wc,wk] at h1
   obtain ⟨rfl,rfl,rfl⟩:=h1
   have S:=Stp.refl R0.inv nl
   exact ⟨_,h3,R0.put S rfl (hdk _ h3),S.keep⟩
  ·cases h1
theorem qvH {F:Fence} (hF:∀f,F.fn f) (hd:F.depth=none) {n:Nat} (hwide:∀f args w R n,Calls P f args w R→CallsIn F n P f args w R) (hm:∀f∈mnz,qrw P f) {ops:Array Oper} (hnd:∀o∈ops.toList,∀cl,o.op≠ .defer cl) {Q:Exit→Act→World→Prop} {n0:Nat}:∀(q:List Oper) (i:Nat) (σ:St) (k:St→List (Oper×Ev)→Tr) (K:Kn) (a:Act) (w:World),
  den lf fin (qzJ P GT nt mnz tab false ops.toList i q σ k)=some r→ops.toList.drop i=q→i+q.length=ops.size→σ.next=n0→Rel c P GT nt σ.look (qib σ.heap) K a w→(∀l,n0+8*i≤l→K l=none)→
  (∀σ' tr a' w' K',den lf fin (k σ' tr)=some r→σ'.next=n0→Rel c P GT nt σ'.look (qib σ'.heap) K' a' w'→(∀l,n0+8*ops.size≤l→K' l=none)→w.heap.size≤w'.heap.size→KeepK w w' (NN c (qib σ.heap) K w) (NN c (qib σ'.heap) K' w') K K'→Q .normal a' w')→
  wpOpsIn F n P ops Q (wab i q.length) a w
 |[],i,σ,k,K,a,w,h,hr,hi,hn,R0,hf,hQ=>by
  simp only [wN] at hi
  exact hQ σ [] a w K h hn R0 (fun l hl=>hf l (by omega)) (ws _) (KeepK.refl _ _ _)
 |o::q,i,σ,k,K,a,w,h,hr,hi,hn,R0,hf,hQ=>by
  simp only [qzJ] at h
  have hoi:ops[i]?=some o:=by
   rw [←wfa,←List.head?_drop,hr];rfl
  have hom:o∈ops.toList:=List.mem_of_getElem? (by rw [wfa];exact hoi)
  have hr2:ops.toList.drop (i+1)=q:=by
   rw [←List.tail_drop,hr];rfl
  rw [ww,List.range'_succ,wpOpsIn_cons]
  unfold wpOpIn
  rw [hoi]
  have go:∀a' w' K' e,den lf fin (if qUk nt o.dst=true then qzJ P GT nt mnz tab false ops.toList (i+1) q (σ.put o.dst e) fun σ' tr=>k σ' ((o,e)::tr) else .dead)=some r→Rel c P GT nt (quw σ.look o.dst e.v) (qsb (qib σ.heap) e.upd) K' a' w'→(∀l,K' l=K l∨(σ.next+8*i≤l∧l<σ.next+8*i+8))→w.heap.size≤w'.heap.size→KeepK w w' (NN c (qib σ.heap) K w) (NN c (qsb (qib σ.heap) e.upd) K' w') K K'→
    wpOpsIn F n P ops Q (wab (i+1) q.length) a' w':=by
   intro a' w' K' e he R' hk hsz hmn
   rw [qhq,qRm (dst:=o.dst)] at R'
   rw [qRm (dst:=o.dst)] at hmn
   split at he
   ·refine qvH hF hd hwide hm hnd q (i+1) (σ.put o.dst e) _ K' a' w' he hr2 (by simp only [ww] at hi;omega) hn R' (fun l hl=>?_) (fun σ' tr a'' w'' K'' g1 g2 R'' h1 hsz2 h2=>hQ σ' _ a'' w'' K'' g1 g2 R'' h1 (wia hsz hsz2) (hmn.trans h2))
    rcases hk l with h1|h1
    ·rw [h1];exact hf l (by omega)
    ·omega
   ·cases he
  rcases qBJ hm R0 h (fun e he=>by
   split at he
   ·assumption
   ·cases he) (fun l h1 h2=>hf l (by omega)) with ⟨hw,hdo⟩|⟨hw,e,he,R',hk⟩
  ·simp only [hw,if_true]
   refine qoI hF hd (hnd o hom) hwide hdo ?_
   rintro u w' ⟨e,K',he,R',hk,hsz,hmn⟩
   exact go _ _ K' e he R' hk hsz hmn
  ·simp only [hw,wI,if_false]
   exact ⟨fun f _=>hF f,go _ _ K e he R' (fun _=> .inl rfl) (ws _) hk⟩
theorem qZG {F:Fence} (hF:∀f,F.fn f) (hd:F.depth=none) {n:Nat} (hwide:∀f args w R n,Calls P f args w R→CallsIn F n P f args w R) (hm:∀f∈mnz,qrw P f) {id:Nat} {ops:Array Oper} (hnd:∀o∈ops.toList,∀cl,o.op≠ .defer cl) (hsp:spR P ops.toList=false) {σ:St} {k:St→Tr} {K:Kn} {a:Act} {w:World}
  (h:den lf fin (qin P GT nt mnz tab ops.toList false σ k)=some r) (R0:RelS c P GT nt σ K a w) {Q:Exit→Act→World→Prop}
  (hQ:∀σ' K' a' w',den lf fin (k σ')=some r→RelS c P GT nt σ' K' a' w'→w.heap.size≤w'.heap.size→KeepK w w' (NN c (qib σ.heap) K w) (NN c (qib σ'.heap) K' w') K K'→Q .normal a' w'):
  (Code.region id ops false).wpIn F n P Q a w:=by
 unfold qin at h
 rw [if_neg (by rw [hsp];decide)] at h
 refine wpIn_region ?_
 have:=qvH hF hd hwide hm hnd (Q:=Q) (n0:=σ.next) (n:=n) ops.toList 0 σ _ K a w h (by simp) (by simp) rfl R0.rel (fun l hl=>R0.fresh l (by omega)) (fun σ' tr a' w' K' g1 g2 R' g3 gs g4=>by
  simp only [Bool.not_false,Bool.true_or,if_true] at g1
  exact hQ {σ' with next:=σ.next+8*ops.toList.length} K' a' w' g1 ⟨R',fun l hl=>g3 l (by simpa using hl)⟩ gs g4)
 rw [List.range_eq_range']
 simpa using this
theorem KeepK.others {σ σ':St} {K K':Kn} {a a':Act} {w w':World} (R0:RelS c P GT nt σ K a w) (R':RelS c P GT nt σ' K' a' w') (h:KeepK w w' (NN c (qib σ.heap) K w) (NN c (qib σ'.heap) K' w') K K') (hm:∀l o,qib σ.heap l=some o→qHF o=true) (hG:∀b,c.G b→qTb (qib σ.heap) K b) (hs:w.heap.size≤w'.heap.size):KeepsOthers w w':=by
 refine ⟨hs,fun b o hb hno=>?_⟩
 have hlt:=(Array.getElem?_eq_some_iff.1 hb).1
 by_cases hlive:qTb (qib σ.heap) K b
 ·exfalso
  obtain ⟨l,ob,gh,p,h1,h2,h3,rfl⟩:=hlive
  obtain ⟨gh',g1,g2⟩:=R0.rel.inv.objs l ob h1
  rw [h2] at g1;injection g1 with g1;subst g1
  obtain ⟨ob2,e1,e2⟩:=g2.isCells (hm l ob h1) h3
  rw [hb] at e1;injection e1 with e1;subst e1
  rw [hno] at e2;cases e2
 ·by_cases h0:c.w0.heap.size≤b
  ·exact (((h.n true).k b ⟨hlt,hlive, .inl h0⟩).2).trans hb
  ·have hnG:¬c.G b:=fun hg=>hlive (hG b hg)
   rw [R'.rel.inv.fr.block b (by omega) hnG,←R0.rel.inv.fr.block b (by omega) hnG]
   exact hb
theorem RelS.keep {σ σ':St} {K:Kn} {a:Act} {w:World} {ts:List Nat} {ren:List (Nat×Nat)} {nx:Nat} {lo:Bool} (R0:RelS c P GT nt σ K a w) (h:σ.keep ts ren nx lo=some σ'):
  ∃K',RelS c P GT nt σ' K' a w∧(∀l,l<8→K' l=K l)∧(∀b,NN c (qib σ.heap) K w false b→NN c (qib σ'.heap) K' w false b)∧(∀l m,qOd ren l=some m→K' m=K l)∧∀l o gh p,qOd ren l=none→qib σ.heap l=some o→K l=some gh→Has gh p→NN c (qib σ'.heap) K' w false p.blk:=by
 unfold St.keep at h
 split at h
 ·rename_i hok
  split at h
  ·rename_i tl hl0 e1 e2
   simp only [wc] at h;subst h
   obtain ⟨K',X,hI,h8,hx⟩:=qlv R0 hok e2
   refine ⟨K',⟨⟨hI,fun t=>?_,R0.rel.size,R0.rel.defers,R0.rel.ng,R0.rel.gng,R0.rel.glob⟩,fun l hl=>hx l hl⟩,h8,fun b hb=>by simpa using X.n false b hb,X.k,fun l o gh p h1 h2 h3 h4=>by simpa using X.gone l o gh p trivial h1 h2 h3 h4 false⟩
   show TVRd w (NN c (qib hl0) K' w) K' (St.look ⟨tl,hl0,nx⟩ t) _
   unfold St.look
   split
   ·rename_i v hv
    exact qnv X R0.rel.inv (fun _ _ h=>h) (fun _ _=>trivial) (qBp e1 hv) (R0.rel.tmps t)
   ·trivial
  ·cases h
 ·cases h
def qGA (σ:St) (ts:List Nat) (pre:Bool):List (Nat×Nat):=
 let lk:=qib σ.heap
 let locs:=qtu lk true 60 ((if pre then (List.range 8).filter fun l=>(lk l).isSome else [])++ts.flatMap fun t=>qtl (σ.look t)) []
 (locs.filter (·<8)).map (fun l=>(l,l))++qMM 8 (locs.filter fun l=>!(l<8))
theorem RelS.keepSt {σ σ':St} {K:Kn} {a:Act} {w:World} {ts:List Nat} {lo pre:Bool} (R0:RelS c P GT nt σ K a w) (h:Ab.keepSt σ ts lo pre=some σ'):
  ∃K',RelS c P GT nt σ' K' a w∧(∀l,l<8→K' l=K l)∧(∀b,NN c (qib σ.heap) K w false b→NN c (qib σ'.heap) K' w false b)∧(∀l m,qOd (qGA σ ts pre) l=some m→K' m=K l)∧∀l o gh p,qOd (qGA σ ts pre) l=none→qib σ.heap l=some o→K l=some gh→Has gh p→NN c (qib σ'.heap) K' w false p.blk:=R0.keep h
theorem Inv.df {H:qZb} {K:Kn} {w:World} (h:Inv c H K w) (d:List Deferred):Inv {c with df:=d} H K w:=⟨h.objs,h.own,h.inj,⟨h.fr.os,h.fr.tape,h.fr.output,h.fr.size,h.fr.block⟩⟩
theorem RelS.df {σ:St} {K:Kn} {a:Act} {w:World} (h:RelS c P GT nt σ K a w) (d:List Deferred):RelS {c with df:=d} P GT nt σ K {a with defers:=d} w:=
 ⟨⟨h.rel.inv.df d,h.rel.tmps,h.rel.size,rfl,h.rel.ng,h.rel.gng,h.rel.glob⟩,h.fresh⟩
theorem RelS.act {σ σ':St} {K:Kn} {a a':Act} {w:World} (h:RelS c P GT nt σ K a w) (hh:σ'.heap=σ.heap) (hn:σ'.next=σ.next) (hs:a'.tmps.size=a.tmps.size) (hd:a'.defers=a.defers)
  (ht:∀t,TVRd w (NN c (qib σ.heap) K w) K (σ'.look t) (a'.eval (.tmp t))):RelS c P GT nt σ' K a' w:=by
 refine ⟨⟨by rw [hh];exact h.rel.inv,by rw [hh];exact ht,hs.trans h.rel.size,hd.trans h.rel.defers,h.rel.ng,h.rel.gng,h.rel.glob⟩,by rw [hn];exact h.fresh⟩
end
def qAM:Code→Bool
 | .seq _ _=>true
 |_=>false
def qwL:Code→Bool
 | .cond _ _ _=>true
 |_=>false
def qFJ:Code→Bool
 | .block _ _=>true
 |_=>false
def qKN:Code→Nat
 | .block i _=>i
 |_=>0
def qKL:Code→Operand
 | .cond o _ _=>o
 |_=> .tmp 0
def qZN:Code→List Oper
 | .region _ ops _=>ops.toList
 |_=>[]
def qxH:Oper→Bool:=fun o=>match o.op with
 | .defer _=>false
 | .send _ _=>false
 | .recv _ _ _=>false
 |_=>true
def qCK (P:Program):Code→Bool
 | .region _ ops false=>(ops.toList.all fun o=>qxH o)&&!spR P ops.toList
 |_=>false
def qmO:Code→Bool
 | .rangeFunc _ _ _ _=>true
 |_=>false
def rfF:Code→Operand
 | .rangeFunc f _ _ _=>f
 |_=> .tmp 0
def rfP:Code→Array Tmp
 | .rangeFunc _ p _ _=>p
 |_=>#[]
def rfA:Code→Code
 | .rangeFunc _ _ a _=>a
 |_=> .skip
def rfB:Code→Code
 | .rangeFunc _ _ _ b=>b
 |_=> .skip
theorem rfC {c:Code} (h:qmO c=true):c= .rangeFunc (rfF c) (rfP c) (rfA c) (rfB c):=by
 cases c <;> first|(cases h;done)|rfl
section
variable {F:Fence} {n:Nat} {P:Program} {Q:Exit→Act→World→Prop} {a:Act} {w:World}
theorem qjp {c:Code} (hs:qAM c=true) (h:(qEa c).wpIn F n P (Exit.then ((qaa c).wpIn F n P Q) Q) a w):c.wpIn F n P Q a w:=by
 cases c <;> first|(cases hs;done)|exact wpIn_seq h
theorem qVB {c:Code} (hs:qFJ c=true) (h:(cIn c).wpIn F n P (Exit.inBlock (qKN c) Q) a w):c.wpIn F n P Q a w:=by
 cases c <;> first|(cases hs;done)|exact wpIn_block h
theorem qOJ {c:Code} {t:Bool} (hs:qwL c=true) (hc:a.eval (qKL c)= .bool t) (h:(if t then qeM c else qdO c).wpIn F n P Q a w):c.wpIn F n P Q a w:=by
 cases c <;> first|(cases hs;done)|exact wpIn_cond hc h
end
section
variable {c:Cx} {P:Program} {GT:qTg} {nt:Nat} {mnz:List Nat} {tab:List (Summ P GT)} {R:Type} {lf fin:Pos→Option R} {r:R}
theorem qjn {F:Fence} (hF:∀f,F.fn f) (hd:F.depth=none) {n:Nat} (hwide:∀f args w R n,Calls P f args w R→CallsIn F n P f args w R) (hm:∀f∈mnz,qrw P f) {cd:Code} (hok:qCK P cd=true) {σ:St} {k:St→Tr} {K:Kn} {a:Act} {w:World}
  (h:den lf fin (qin P GT nt mnz tab (qZN cd) false σ k)=some r) (R0:RelS c P GT nt σ K a w) {Q:Exit→Act→World→Prop}
  (hQ:∀σ' K' a' w',den lf fin (k σ')=some r→RelS c P GT nt σ' K' a' w'→w.heap.size≤w'.heap.size→KeepK w w' (NN c (qib σ.heap) K w) (NN c (qib σ'.heap) K' w') K K'→Q .normal a' w'):
  cd.wpIn F n P Q a w:=by
 cases cd with
 |region id ops draw=>
  cases draw with
  |true=>cases hok
  |false=>
   simp only [qCK,wz,wqb] at hok
   refine qZG hF hd hwide hm (fun o ho=>?_) hok.2 h R0 hQ
   have:=wAa.1 hok.1 o ho
   unfold qxH at this
   exact fun cl he=>(by rw [he] at this;cases this)
 |_=>cases hok
theorem qlC {l:Nat}:∀f args w R n,Calls P f args w R→CallsIn (Fence.wide.inRound l) n P f args w R:=fun f args w R n h=>CallsIn.inRound l (callsIn_wide.2 h)
theorem qRp:∀f args w R n,Calls P f args w R→CallsIn Fence.wide n P f args w R:=fun f args w R n h=>callsIn_wide.2 h
end
end Go.Ab

/-
  A law's row where the world's shape is kept: some int stands in a variable that no one lists.
-/
set_option linter.unusedVariables false
namespace Go.Ab
open Go
variable {H:Type} {enc:TypeId×Value→H}
theorem returns_shaped {C:Checked} {os:Os} {f:FuncId} {fn:Func} {s:ChangeSpec} {conds:List PathCond} {apart:Bool} {X:World→Prop}
  (hX:∀w w':World,w.heap=w'.heap→X w→X w') (own:ownKnob C.prog.godebug=none) (started:os.Started) (noInit:C.prog.inits.idxOf? f=none) (hfn:C.prog.funcs[f]?=some fn)
  (wit:∃(w:World) (tape:Tape) (i:Input),w.os=os∧(w.forCall tape i).Shaped C.prog∧i.vars=[]∧Input.okWide C.prog (w.forCall tape i) .any w.heap.size f i∧
   ((s.pre enc C.prog fn conds apart (w.forCall tape i).memory i.args∧X (w.forCall tape i).memory)∧sizedMet enc C.prog fn (OpenSpec.ofChange s) apart (w.forCall tape i).memory i.args)∧Assume.holds {} C.prog (lone (Frame.enter C.prog f i.args .normal) [] (w.forCall tape i)))
  (con:∀(W:World) (base:Nat) (args:Array Value) (ds gs:List (DataW H)) (before:List MemPlace),X W→W.ShapedOpen C.prog→
   (∀(j:Nat) t v,fn.params[j]?=some t→args[j]?=some v→Value.okWide C.prog W .any base t v)→DataW.Whole enc C.prog fn.params.toList s.vars apart W args.toList ds gs before→
   Calls C.prog f args W fun e W'=>∃v,e= .returned v∧s.post enc C.prog fn apart true false false W args v W'):
  ReturnsInHanded {} C os f .any (fun w args=>(s.pre enc C.prog fn conds apart w args∧X w)∧sizedMet enc C.prog fn (OpenSpec.ofChange s) apart w args) (s.post enc C.prog fn apart true false false):=by
 refine returnsInHanded_of_calls own started noInit wit fun w tape i _ hs _ ok pre _=>?_
 obtain ⟨_,_,_,fn',e',_,_,_,_,hv⟩:=ok
 obtain rfl:fn'=fn:=Option.some.inj (e'.symm.trans hfn)
 obtain ⟨⟨⟨ds,gs,before,hw,_⟩,hx⟩,_⟩:=pre
 refine (con (w.forCall tape i) w.heap.size i.args ds gs before (hX _ _ (by rfl) hx) hs hv (DataW.Whole.of_heap (w':=w.forCall tape i) (by rfl) hw)).mono fun e W' ⟨v,he,hp⟩=>?_
 subst he
 exact ChangeSpec.post_blind hp
end Go.Ab
