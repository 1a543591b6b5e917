/-
  An abstract machine over the model's code and its soundness; what the functions compute, as plain functions (printed by a program of this repo's own, checked here by the kernel); plain laws of them: part 1. Helper text, no statement of the claim stands here.
-/
import Derived.Calls
import Derived.Orders
import Derived.KernelRfl
import GoSem.ClaimJoined
import Derived.Laws.Cells
import Derived.Laws.IdiomCopy
import Derived.Laws.BytesArg
import Derived.Laws.StructEq
import Derived.Laws.MakeOwn
import Derived.Laws.Append
open BitVec renaming ofInt → wC
open Bool renaming and_eq_true → wz, false_eq_true → wI
open ByteArray renaming empty → wD, toList → wW
open Go.Addr renaming add_lit → wNa
open Go.Builtin renaming len_ → wkb
open Go.Instr renaming sliceBounds → wrb, sureAddr → wfb
open Go.Op renaming equal → wjb, equalIn → wdb, maxDepth → wHa
open Go.Result renaming andThen_ok → wq
open Go.Sem renaming run_bind → wu, run_pure → wE
open Go.Value renaming cells → wpb
open List renaming append_assoc → wB, cons_append → wba, drop_drop → wka, eq_nil_of_length_eq_zero → wG, ext_getElem? → wQa, getD_eq_getElem?_getD → wt, getElem?_append_left → wha, getElem?_append_right → wda, getElem?_cons_succ → wRa, getElem?_cons_zero → wSa, getElem?_eq_getElem → wx, getElem?_eq_some_iff → wZ, getElem?_map → wDa, getElem?_set → wtb, length → we, length_append → wl, length_cons → ww, length_nil → wN, length_replicate → wX, length_set → wsa, map_cons → wJ, mem_append → wR, mem_cons_of_mem → wH, mem_map → wP, mem_of_getElem? → wma, mem_singleton → wT, replicate → wn, size_toArray → wLa
open List.cons renaming injEq → wFa
open Nat renaming add_assoc → wxa, add_mul → whb, add_zero → wXa, le_refl → ws, le_trans → wia, lt_of_lt_of_le → wY, lt_succ_self → wqa, mul_le_mul_right → wja, succ_mul → wua
open Ne renaming symm → wGa
open Option renaming map_some → wCa
open Option.some renaming injEq → wc
open Prod.mk renaming injEq → wk
/-
  The abstract machine (definitions): states without memory layout, over the model's own Code. What it says of the model is proved in the texts behind this one.
-/
set_option linter.unusedVariables false
namespace Go.Ab
open Go
inductive Ty
 |int (k:IntKind)|bool|str|arr (n:Nat) (e:Ty)|pair (a b:Ty)|unit|slice (e:Ty)|fn
 deriving DecidableEq
namespace Ty
def sz:Ty→Nat
 | .arr n e=>n*e.sz
 | .pair a b=>a.sz+b.sz
 | .unit=>0
 |_=>1
def agg:Ty→Bool
 | .arr .. | .pair .. | .unit=>true
 |_=>false
def flat:Ty→Bool
 | .slice _=>false
 | .arr _ e=>e.flat
 | .pair a b=>a.flat&&b.flat
 |_=>true
end Ty
@[reducible] def pden:Ty→Type
 | .int _=>Int
 | .bool=>Bool
 | .str=>ByteArray
 | .arr _ e=>List (pden e)
 | .pair a b=>pden a×pden b
 | .unit=>Unit
 | .slice e=>List (pden e)
 | .fn=>Option Nat
inductive SV (α:Type)
 |pure (fr:Bool) (xs:List α)
 |ref (l off len:Nat) (wh:Bool)
 |nil
 |junk
 |lng (n:Nat)
@[reducible] def qke:Ty→Type
 | .int _=>Int
 | .bool=>Bool
 | .str=>ByteArray
 | .arr _ e=>List (pden e)
 | .pair a b=>qke a×qke b
 | .unit=>Unit
 | .slice e=>SV (pden e)
 | .fn=>Option Nat
def qua:(t:Ty)→pden t
 | .int _=>(0:Int)
 | .bool=>false
 | .str=>wD
 | .arr n e=>wn n (qua e)
 | .pair a b=>(qua a,qua b)
 | .unit=>()
 | .slice _=>[]
 | .fn=>none
def qrG:(t:Ty)→qke t
 | .int _=>(0:Int)
 | .bool=>false
 | .str=>wD
 | .arr n e=>wn n (qua e)
 | .pair a b=>(qrG a,qrG b)
 | .unit=>()
 | .slice _=> .nil
 | .fn=>none
def inj (fr:Bool):(t:Ty)→pden t→qke t
 | .int _,x=>x
 | .bool,x=>x
 | .str,x=>x
 | .arr _ _,x=>x
 | .pair a b,x=>(inj fr a x.1,inj fr b x.2)
 | .unit,x=>x
 | .slice _,xs=> .pure fr xs
 | .fn,x=>x
def unj:(t:Ty)→qke t→Option (pden t)
 | .int _,x=>some x
 | .bool,x=>some x
 | .str,x=>some x
 | .arr _ _,x=>some x
 | .pair a b,x=>match unj a x.1,unj b x.2 with
   |some u,some v=>some (u,v)
   |_,_=>none
 | .unit,x=>some x
 | .slice _,v=>match v with
   | .pure _ xs=>some xs
   | .nil=>some []
   |_=>none
 | .fn,x=>some x
def qlw:(t:Ty)→qke t→Bool
 | .pair a b,x=>qlw a x.1&&qlw b x.2
 | .slice _,v=>match v with
   | .pure fr _=>fr
   | .nil=>true
   |_=>false
 | .arr _ e,_=>e.flat
 |_,_=>true
inductive PS
 |fst|snd|idx (i:Nat)
def qXa:Nat→List PS
 |0=>[.fst]
 |n+1=> .snd::qXa n
def qcA:(t:Ty)→qke t→List PS→Option (Σ t',qke t')
 |t,x,[]=>some ⟨t,x⟩
 | .pair a _,x, .fst::p=>qcA a x.1 p
 | .pair _ b,x, .snd::p=>qcA b x.2 p
 | .arr _ e,x, .idx i::p=>qcA e (inj false e (x.getD i (qua e))) p
 |_,_,_=>none
def qNC:(t:Ty)→qke t→List PS→(t':Ty)→qke t'→Option (qke t)
 |t,_,[],t',y=>if h:t'=t then some (h▸y) else none
 | .pair a _,x, .fst::p,t',y=>match qNC a x.1 p t' y with
   |some z=>some (z,x.2)
   |none=>none
 | .pair _ b,x, .snd::p,t',y=>match qNC b x.2 p t' y with
   |some z=>some (x.1,z)
   |none=>none
 | .arr _ e,x, .idx i::p,t',y=>match qNC e (inj false e (x.getD i (qua e))) p t' y with
   |some z=>match unj e z with
    |some u=>some (x.set i u)
    |none=>none
   |none=>none
 |_,_,_,_,_=>none
def qDa:Ty→List PS→Option (Nat×Ty)
 |t,[]=>some (0,t)
 | .pair a _, .fst::p=>qDa a p
 | .pair a b, .snd::p=>match qDa b p with
   |some (o,t)=>some (a.sz+o,t)
   |none=>none
 | .arr n e, .idx i::p=>match qDa e p with
   |some (o,t)=>if i<n then some (i*e.sz+o,t) else none
   |none=>none
 |_,_=>none
inductive AV
 |undef
 |bool (b:Bool)
 |int (k:IntKind) (n:Int)
 |str (s:ByteArray)
 |agg (t:Ty) (x:qke t)
 |sl (e:Ty) (fr:Bool) (xs:List (pden e))
 |nil
 |ref (e:Ty) (l off len:Nat) (wh:Bool)
 |bref (e:Ty) (l:Nat) (p:List PS) (n off len:Nat)
 |ptr (t:Ty) (l:Nat) (p:List PS)
 |rptr (t:Ty) (fr:Bool) (x:pden t)
 |cptr (l:Nat)
 |func (f:Nat) (caps:List Nat)
 |nilFunc
 |errno (t:Nat) (k:IntKind) (n:Int)
 |nilIface
 |mapr (l:Nat)
 |nilMap
 |gone
 |eri (t:Nat) (k:IntKind) (x:Option Int)
 |sln (e:Ty) (fr:Bool) (xs:List (pden e))
 |ifp (T:Nat) (t:Ty) (l:Nat) (p:List PS)
 |cslice (e:Ty) (l n:Nat)
 |chan (l:Nat)
 |lng (e:Ty) (n:Nat)
inductive TV
 |one (v:AV)
 |tup (vs:List AV)
inductive Obj
 |row (e:Ty) (fr:Bool) (xs:List (pden e))
 |box (t:Ty) (x:qke t)
 |cell (v:AV)
 |map (k v:Ty) (es:List (pden k×pden v))
 |fam (e:Ty) (xss:List (List (pden e)))
 |famS (a e:Ty) (xs:List (pden a×List (pden e)))
 |chan (e:Ty) (fr:Bool) (cap:Nat) (xs:List (pden e)) (cl:Bool)
def qqC:(t:Ty)→qke t→AV
 | .int k,x=> .int k x
 | .bool,x=> .bool x
 | .str,x=> .str x
 | .arr n e,x=> .agg (.arr n e) x
 | .pair a b,x=> .agg (.pair a b) x
 | .unit,x=> .agg .unit x
 | .slice e,v=>match v with
   | .pure fr xs=> .sl e fr xs
   | .ref l off len wh=> .ref e l off len wh
   | .nil=> .nil
   | .junk=> .undef
   | .lng n=> .lng e n
 | .fn,x=>match x with
   |some f=> .func f []
   |none=> .nilFunc
def qNo (t:Ty) (v:AV):Option (qke t):=
 match v with
 | .agg t' x=>if h:t'=t then some (h▸x) else none
 | .bool b=>match t with
   | .bool=>some b
   |_=>none
 | .int k n=>match t with
   | .int k'=>if k=k' then some n else none
   |_=>none
 | .str s=>match t with
   | .str=>some s
   |_=>none
 | .sl e fr xs=>match t with
   | .slice e'=>if h:e=e' then some (.pure fr (h▸xs)) else none
   |_=>none
 | .nil=>match t with
   | .slice _=>some .nil
   |_=>none
 | .ref e l off len wh=>match t with
   | .slice e'=>if e=e' then some (.ref l off len wh) else none
   |_=>none
 | .func f []=>match t with
   | .fn=>some (some f)
   |_=>none
 | .nilFunc=>match t with
   | .fn=>some none
   |_=>none
 |_=>none
abbrev qZb:=Nat→Option Obj
def seg {α:Type} (xs:List α) (off len:Nat) (wh:Bool):List α:=if wh then xs else (xs.drop off).take len
def qhn (lk:qZb) (e:Ty) (l:Nat):Option (Bool×List (pden e)):=
 match lk l with
 |some (.row e' fr xs)=>if h:e'=e then some (fr,h▸xs) else none
 |_=>none
@[reducible] def qQp (a e:Ty):Ty:= .pair a (.pair (.slice e) .unit)
def qxi {a e:Ty} (xs:List (pden a×List (pden e))):List (pden (qQp a e)):=xs.map fun x=>(x.1,(x.2,()))
def qfI {a e:Ty} (x:pden a×List (pden e)):qke (qQp a e):=(inj false a x.1,(.lng x.2.length,()))
def qjt (lk:qZb) (e:Ty) (l:Nat):Option (Bool×List (pden e)):=
 match lk l with
 |some (.row e' fr xs)=>if h:e'=e then some (fr,h▸xs) else none
 |some (.fam e' xss)=>if h:Ty.slice e'=e then some (true,h▸(xss:List (pden (.slice e')))) else none
 |some (.famS a e' xs)=>if h:qQp a e'=e then some (true,h▸qxi xs) else none
 |_=>none
def qVg (lk:qZb):(t:Ty)→qke t→Option (pden t×List Nat×Bool)
 | .int _,x=>some (x,[],true)
 | .bool,x=>some (x,[],true)
 | .str,x=>some (x,[],true)
 | .arr _ e,x=>some (x,[],e.flat)
 | .pair a b,x=>match qVg lk a x.1,qVg lk b x.2 with
   |some (u,l,f),some (v,m,g)=>some ((u,v),l++m,f&&g)
   |_,_=>none
 | .unit,x=>some (x,[],true)
 | .slice e,v=>match v with
   | .pure fr xs=>some (xs,[],fr)
   | .nil=>some ([],[],true)
   | .ref l off len wh=>match qjt lk e l with
     |some (fr,xs)=>some (seg xs off len wh,[l],fr||e.flat)
     |none=>none
   | .junk=>none
   | .lng _=>none
 | .fn,x=>some (x,[],true)
def qon:Obj→List PS→Option (Σ t,qke t)
 | .box t x,p=>qcA t x p
 | .row e fr xs, .idx i::p=>qcA e (inj fr e (xs.getD i (qua e))) p
 | .fam e xss, .idx i::p=>qcA (.arr (xss.getD i []).length e) (xss.getD i []) p
 | .famS a e xs, .idx i:: .snd:: .fst::p=>qcA (.arr (xs.getD i (qua a,[])).2.length e) (xs.getD i (qua a,[])).2 p
 | .famS a e xs, .idx i::p=>qcA (qQp a e) (qfI (xs.getD i (qua a,[]))) p
 |_,_=>none
def qJh:Obj→List PS→(t':Ty)→qke t'→Option Obj
 | .box t x,p,t',y=>match qNC t x p t' y with
   |some z=>some (.box t z)
   |none=>none
 | .row e fr xs, .idx i::p,t',y=>match qNC e (inj fr e (xs.getD i (qua e))) p t' y with
   |some z=>match unj e z with
    |some u=>some (.row e (fr&&qlw e z) (xs.set i u))
    |none=>none
   |none=>none
 | .fam e xss, .idx i::p,t',y=>match qNC (.arr (xss.getD i []).length e) (xss.getD i []) p t' y with
   |some z=>some (.fam e (xss.set i z))
   |none=>none
 | .famS a e xs, .idx i:: .snd:: .fst::p,t',y=>match qNC (.arr (xs.getD i (qua a,[])).2.length e) (xs.getD i (qua a,[])).2 p t' y with
   |some z=>some (.famS a e (xs.set i ((xs.getD i (qua a,[])).1,z)))
   |none=>none
 |_,_,_,_=>none
def qNk:(t:Ty)→qke t→Nat→qke t×List (Nat×Obj)×Nat
 | .pair a b,x,n=>match qNk a x.1 n with
   |(u,r,n1)=>match qNk b x.2 n1 with
    |(v,s,n2)=>((u,v),s++r,n2)
 | .slice e,v,n=>match v with
   | .nil=>(.ref n 0 0 true,[(n, .row e true [])],n+1)
   |v=>(v,[],n)
 | .int _,x,n=>(x,[],n)
 | .bool,x,n=>(x,[],n)
 | .str,x,n=>(x,[],n)
 | .arr _ _,x,n=>(x,[],n)
 | .unit,x,n=>(x,[],n)
 | .fn,x,n=>(x,[],n)
def qlq:Ty→Nat→List PS
 | .arr _ _,i=>[.idx i]
 |_,i=>qXa i
def qEl (t:Ty):qke t→List (Nat×AV)→Option (qke t)
 |x,[]=>some x
 |x,(i,v)::r=>match qDa t (qlq t i) with
  |some (_,ty)=>match qNo ty v with
   |some y=>match qNC t x (qlq t i) ty y with
    |some z=>qEl t z r
    |none=>none
   |none=>none
  |none=>none
def qYd:List Ty→Ty
 |[]=> .unit
 |a::r=> .pair a (qYd r)
def qLG (e:Ty):Nat→Ty
 |0=> .unit
 |n+1=> .pair (.slice e) (qLG e n)
def qXj (P:Program):List Field→List Ty→Nat→Bool
 |[],[],_=>true
 |f::fs,t::ts,o=>(f.offset==o)&&qXj P fs ts (o+t.sz)
 |_,_,_=>false
def qDk (f:TypeId→Option Ty):List Field→Option (List Ty)
 |[]=>some []
 |x::r=>match f x.type,qDk f r with
  |some t,some ts=>some (t::ts)
  |_,_=>none
def qEk (P:Program) (rec:TypeId→Option Ty):TypeDesc→Option Ty
 | .bool=>some .bool
 | .int k=>some (.int k)
 | .string=>some .str
 | .slice e=>match rec e with
   |some t=>some (.slice t)
   |none=>none
 | .array n e=>match rec e with
   |some t=>some (.arr n t)
   |none=>none
 | .struct fs=>match qDk rec fs.toList with
   |some ts=>if qXj P fs.toList ts 0 then some (qYd ts) else none
   |none=>none
 | .func _ _ _=>some .fn
 |_=>none
def qod (P:Program):Nat→TypeId→Option Ty
 |0,_=>none
 |d+1,t=>match P.underlying t with
  |some desc=>match qEk P (qod P d) desc with
   |some ty=>if P.cellsOf t==ty.sz then some ty else none
   |none=>none
  |none=>none
def tyD:Nat:=12
def lookL {α:Type}:List (Nat×α)→Nat→Option α
 |[],_=>none
 |(k,v)::r,n=>if k=n then some v else lookL r n
def qZc (s:ByteArray):List Int:=s.data.toList.map fun b=>(b.toNat:Int)
def qFk (xs:List Int):ByteArray:=⟨(xs.map fun n=>UInt8.ofNat n.toNat).toArray⟩
def qzt (s:ByteArray) (i:Nat):Int:=(qZc s).getD i 0
def qdA {α:Type} (eq:α→α→Bool):List α→List α→Bool
 |[],[]=>true
 |x::xs,y::ys=>eq x y&&qdA eq xs ys
 |_,_=>false
def peq:(t:Ty)→pden t→pden t→Bool
 | .int _,x,y=>decide ((x:Int)=y)
 | .bool,x,y=>(x:Bool)==y
 | .str,x,y=>wW x==wW y
 | .arr _ e,x,y=>qdA (peq e) x y
 | .pair a b,x,y=>peq a x.1 y.1&&peq b x.2 y.2
 | .unit,_,_=>true
 |_,_,_=>false
def qPs {α β:Type} (eq:α→α→Bool) (x:α):List (α×β)→Option β
 |[]=>none
 |e::r=>if eq x e.1 then some e.2 else qPs eq x r
def qVA {α β:Type} (eq:α→α→Bool) (x:α) (y:β):List (α×β)→List (α×β)
 |[]=>[(x,y)]
 |e::r=>if eq x e.1 then (x,y)::r else e::qVA eq x y r
def qyf:Ty→Bool
 | .int _| .bool| .str| .unit=>true
 | .arr _ e=>qyf e
 | .pair a b=>qyf a&&qyf b
 |_=>false
def qWE (op:BinOp) (k:IntKind) (x y:Int):Option Int:=
 let a:=wC k.bits x
 let b:=wC k.bits y
 match op with
 | .and=>some (k.wrap (a &&& b).toNat)
 | .or=>some (k.wrap (a ||| b).toNat)
 | .xor=>some (k.wrap (a ^^^ b).toNat)
 | .andNot=>some (k.wrap (a &&& ~~~b).toNat)
 |_=>none
def qPH (op:BinOp) (k:IntKind) (x y:Int):Option (AV×List Prop):=
 match op with
 | .add=>some (.int k (k.wrap (x+y)),[])
 | .sub=>some (.int k (k.wrap (x - y)),[])
 | .mul=>some (.int k (k.wrap (x*y)),[])
 | .quo=>some (.int k (k.wrap (x.tdiv y)),[y≠0])
 | .rem=>some (.int k (x.tmod y),[y≠0])
 | .eql=>some (.bool (x==y),[])
 | .neq=>some (.bool (x != y),[])
 | .lss=>some (.bool (x<y),[])
 | .leq=>some (.bool (x≤y),[])
 | .gtr=>some (.bool (x>y),[])
 | .geq=>some (.bool (x≥y),[])
 | .and| .or| .xor| .andNot=>match qWE op k x y with
   |some z=>some (.int k z,[])
   |none=>none
 |_=>none
def qJG (op:BinOp) (a b:ByteArray):Option (AV×List Prop):=
 match op with
 | .add=>some (.str (a++b),[a.size+b.size≤140737488355328])
 | .eql=>some (.bool (a.toList==b.toList),[])
 | .neq=>some (.bool (!(a.toList==b.toList)),[])
 |_=>none
def qJJ (f:TypeId→Bool):List Field→Bool
 |[]=>true
 |x::r=>(x.name != "_")&&f x.type&&qJJ f r
def qhI (P:Program):Nat→TypeId→Bool
 |0,_=>false
 |d+1,T=>match P.underlying T with
  |some (.struct fs)=>!P.stoodInHeld T&&qJJ (qhI P d) fs.toList
  |some (.array _ E)=>qhI P d E
  |_=>true
def qXM (P:Program) (T:TypeId) (t:Ty) (x y:qke t):Option Bool:=
 if qod P tyD T=some t∧qyf t=true∧qhI P tyD T=true∧P.eqGuardType P.depth T=false then
  match unj t x,unj t y with
  |some u,some v=>some (peq t u v)
  |_,_=>none
 else none
def qZC (P:Program) (T:TypeId):Bool:=match P.underlying T with
 |some .bool=>true
 |_=>false
def qfm (P:Program) (T:TypeId):Bool:=match P.underlying T with
 |some (.slice _)=>true
 |_=>false
def qxt (P:Program) (T:TypeId):Bool:=match P.underlying T with
 |some (.interface _)=>true
 |_=>false
def qcl (P:Program) (op:BinOp) (T:TypeId) (x y:AV):Option (AV×List Prop):=
 match x,y with
 | .int k a, .int k' b=>match op with
   | .shl=>some (.int k (k.wrap (a*2 ^ (min b.toNat k.bits))),[0≤b])
   | .shr=>some (.int k (a.fdiv (2 ^ (min b.toNat k.bits))),[0≤b])
   |op=>if k=k' then qPH op k a b else none
 | .bool a, .bool b=>if qZC P T then match op with
   | .eql=>some (.bool (a==b),[])
   | .neq=>some (.bool (!(a==b)),[])
   |_=>none
  else none
 | .str a, .str b=>qJG op a b
 | .agg t a, .agg t' b=>if h:t'=t then match qXM P T t a (h▸b) with
   |some r=>match op with
    | .eql=>some (.bool r,[])
    | .neq=>some (.bool (!r),[])
    |_=>none
   |none=>none
  else none
 | .errno _ _ _, .nilIface| .nilIface, .errno _ _ _=>if qxt P T then match op with
   | .eql=>some (.bool false,[])
   | .neq=>some (.bool true,[])
   |_=>none
  else none
 | .eri _ _ x, .nilIface=>if qxt P T then match op with
   | .eql=>some (.bool x.isNone,[])
   | .neq=>some (.bool (!x.isNone),[])
   |_=>none
  else none
 | .sln _ _ _, .nil=>if qfm P T then match op with
   | .eql=>some (.bool false,[])
   | .neq=>some (.bool true,[])
   |_=>none
  else none
 | .nil, .nil=>if qfm P T then match op with
   | .eql=>some (.bool true,[])
   | .neq=>some (.bool false,[])
   |_=>none
  else none
 |_,_=>none
def qDL (a:AV) (y:Operand):Bool:=match a,y with
 | .eri _ _ _, .const _=>true
 | .eri _ _ _,_=>false
 |_,_=>true
def qWN (op:UnOp) (x:AV):Option AV:=
 match op,x with
 | .neg, .int k n=>some (.int k (k.wrap (0 - n)))
 | .xor, .int k n=>match qWE .xor k (if k.signed then -1 else k.max) n with
   |some z=>some (.int k z)
   |none=>none
 | .not, .bool b=>some (.bool !b)
 |_,_=>none
end Go.Ab

/-
  What a state of the abstract machine says of a world: relations, and how they are kept.
-/
set_option linter.unusedVariables false
set_option linter.unusedSimpArgs false
namespace Go.Ab
open Go
def CellsAt (w:World) (b o:Nat) (cs:List Value):Prop:=∀(j:Nat) (v:Value),cs[j]?=some v→w.cell? ⟨b,o+j,none⟩=some v
def Cat {α:Type} (R:α→List Value→Prop):List α→List Value→Prop
 |[],cs=>cs=[]
 |x::xs,cs=>∃c1 c2,cs=c1++c2∧R x c1∧Cat R xs c2
def PRd (w:World) (N:Nat→Prop):(t:Ty)→pden t→List Value→Prop
 | .int k,x,cs=>cs=[.int k x]
 | .bool,x,cs=>cs=[.bool x]
 | .str,x,cs=>cs=[.string x]
 | .arr n e,xs,cs=>xs.length=n∧Cat (PRd w N e) xs cs
 | .pair a b,x,cs=>∃c1 c2,cs=c1++c2∧PRd w N a x.1 c1∧PRd w N b x.2 c2
 | .unit,_,cs=>cs=[]
 | .slice e,xs,cs=>∃A cap,cs=[.slice A xs.length cap]∧xs.length≤cap∧(xs=[]∨∃b o cl,A=some ⟨b,o,none⟩∧N b∧CellsAt w b o cl∧Cat (PRd w N e) xs cl)
 | .fn,f,cs=>cs=[match f with
   |some f=> .func (.func f) #[] #[]
   |none=> .nilFunc]
structure Plc where
 blk:Nat
 ob:Nat
 bs:Nat
inductive Shp
 |row (e:Ty) (n:Nat) (ps:List (Nat×Option Plc))
 |box (t:Ty)
 |cell
 |map (k v:Ty)
 |chan (e:Ty) (cap:Nat)
def Shp.ex:Shp→List (Option Plc)
 | .row _ _ ps=>ps.map (·.2)
 |_=>[]
structure Gh where
 sh:Shp
 pl:Option Plc
def Has (gh:Gh) (p:Plc):Prop:=gh.pl=some p∨some p∈gh.sh.ex
abbrev Kn:=Nat→Option Gh
def qdl:Shp→List PS→Option (Nat×Ty)
 | .box t,p=>qDa t p
 | .row e n _, .idx i::p=>match qDa e p with
   |some (o,t)=>if i<n then some (i*e.sz+o,t) else none
   |none=>none
 |_,_=>none
def GhAt (gh:Gh) (p:List PS) (t:Ty) (pl:Plc) (po:Nat):Prop:=
 (gh.pl=some pl∧qdl gh.sh p=some (po,t))∨
 (∃e n ps i q m,gh.sh= .row (.slice e) n ps∧p= .idx i::q∧ps[i]?=some (m,some pl)∧qDa (.arr m e) q=some (po,t))∨
 ∃a e n ps i q m,gh.sh= .row (qQp a e) n ps∧p= .idx i:: .snd:: .fst::q∧ps[i]?=some (m,some pl)∧qDa (.arr m e) q=some (po,t)
theorem GhAt.has {gh:Gh} {p:List PS} {t:Ty} {pl:Plc} {po:Nat} (h:GhAt gh p t pl po):Has gh pl:=by
 rcases h with ⟨h,_⟩|⟨e,n,ps,i,q,m,h1,rfl,h3,h4⟩|⟨a,e,n,ps,i,q,m,h1,rfl,h3,h4⟩
 ·exact .inl h
 ·refine .inr ?_
  rw [h1]
  exact wP.2 ⟨_,wma h3,rfl⟩
 ·refine .inr ?_
  rw [h1]
  exact wP.2 ⟨_,wma h3,rfl⟩
def RefRd (K:Kn) (e:Ty) (l off len:Nat) (wh:Bool) (v:Value):Prop:=
 ∃n pl,(∃ps,K l=some ⟨.row e n ps,pl⟩)∧off+len≤n∧(wh=true→off=0∧len=n)∧match pl with
  |none=>v= .slice none 0 0∧n=0
  |some p=>∃o cap,v= .slice (some ⟨p.blk,o,none⟩) len cap∧len≤cap∧(cap=0∨(o=p.ob+off*e.sz∧p.ob+(off+cap)*e.sz≤p.bs))
def ARd (w:World) (N:Bool→Nat→Prop) (K:Kn):(t:Ty)→qke t→List Value→Prop
 | .int k,x,cs=>cs=[.int k x]
 | .bool,x,cs=>cs=[.bool x]
 | .str,x,cs=>cs=[.string x]
 | .arr n e,xs,cs=>xs.length=n∧Cat (PRd w (N false) e) xs cs
 | .pair a b,x,cs=>∃c1 c2,cs=c1++c2∧ARd w N K a x.1 c1∧ARd w N K b x.2 c2
 | .unit,_,cs=>cs=[]
 | .slice e,x,cs=>match x with
   | .pure fr xs=>PRd w (N fr) (.slice e) xs cs
   | .ref l off len wh=>∃v,cs=[v]∧RefRd K e l off len wh v
   | .nil=>cs=[.slice none 0 0]
   | .junk=>∃A n c,cs=[.slice A n c]
   | .lng n=>∃A c,cs=[.slice A n c]
 | .fn,f,cs=>cs=[match f with
   |some f=> .func (.func f) #[] #[]
   |none=> .nilFunc]
def capsRd (K:Kn):List Nat→List Value→Prop
 |[],vs=>vs=[]
 |l::ls,vs=>∃gh p r,K l=some gh∧gh.pl=some p∧vs= .pointer (some ⟨p.blk,p.ob,none⟩)::r∧capsRd K ls r
def VRd (w:World) (N:Bool→Nat→Prop) (K:Kn):AV→Value→Prop
 | .undef,_=>True
 | .bool b,v=>v= .bool b
 | .int k n,v=>v= .int k n
 | .str s,v=>v= .string s
 | .agg t x,v=>∃cs,v= .agg cs.toArray∧t.agg=true∧ARd w N K t x cs
 | .sl e fr xs,v=>PRd w (N fr) (.slice e) xs [v]
 | .nil,v=>v= .slice none 0 0
 | .ref e l off len wh,v=>RefRd K e l off len wh v
 | .bref e l p n off len,v=>∃gh pl po,K l=some gh∧GhAt gh p (.arr n e) pl po∧off+len≤n∧
   ∃o cap,v= .slice (some ⟨pl.blk,o,none⟩) len cap∧len≤cap∧(cap=0∨o=pl.ob+po+off*e.sz)
 | .ptr t l p,v=>∃gh pl po,K l=some gh∧GhAt gh p t pl po∧v= .pointer (some ⟨pl.blk,pl.ob+po,none⟩)
 | .rptr t fr x,v=>∃b o cs,v= .pointer (some ⟨b,o,none⟩)∧(cs=[]∨N fr b)∧CellsAt w b o cs∧PRd w (N fr) t x cs
 | .cptr l,v=>∃sh pl,K l=some ⟨sh,some pl⟩∧v= .pointer (some ⟨pl.blk,pl.ob,none⟩)
 | .func f caps,v=>∃vs,v= .func (.func f) #[] vs.toArray∧capsRd K caps vs
 | .nilFunc,v=>v= .nilFunc
 | .errno t k n,v=>v= .iface t (.int k n)
 | .nilIface,v=>v= .nilIface
 | .mapr l,v=>∃sh pl,K l=some ⟨sh,some pl⟩∧v= .map (some pl.blk)
 | .chan l,v=>∃sh pl,K l=some ⟨sh,some pl⟩∧v= .chan (some pl.blk)
 | .lng _ n,v=>∃A c,v= .slice A n c
 | .nilMap,v=>v= .map none
 | .gone,v=>v=Go.undef
 | .eri t k x,v=>v=(match x with
   |some n=> .iface t (.int k n)
   |none=> .nilIface)
 | .sln e fr xs,v=>PRd w (N fr) (.slice e) xs [v]∧∃a n c,v= .slice (some a) n c
 | .ifp T t l p,v=>∃gh pl po,K l=some gh∧GhAt gh p t pl po∧v= .iface T (.pointer (some ⟨pl.blk,pl.ob+po,none⟩))
 | .cslice e l n,v=>∃pl,K l=some ⟨.box (qLG e n),some pl⟩∧∃cap,v= .slice (some ⟨pl.blk,pl.ob,none⟩) n cap∧n≤cap
def VRdL (w:World) (N:Bool→Nat→Prop) (K:Kn):List AV→List Value→Prop
 |[],vs=>vs=[]
 |a::as,vs=>∃v r,vs=v::r∧VRd w N K a v∧VRdL w N K as r
def TVRd (w:World) (N:Bool→Nat→Prop) (K:Kn):TV→Value→Prop
 | .one a,v=>VRd w N K a v
 | .tup as,v=>∃vs,v= .tuple vs.toArray∧VRdL w N K as vs
def InBlk (w:World) (p:Plc) (cs:List Value):Prop:=
 ∃arr T fz,w.heap[p.blk]?=some (.cells arr T fz)∧arr.size=p.bs∧fz.1=fz.2∧p.ob+cs.length≤p.bs∧∀(j:Nat) (v:Value),cs[j]?=some v→arr[p.ob+j]?=some v
def qhb (t:Ty) (cs:List Value):Value:=if t.agg then .agg cs.toArray else cs.headD default
def MRd (w:World) (N:Nat→Prop) (k v:Ty):List (pden k×pden v)→List MapEntry→Prop
 |[],es=>es=[]
 |x::xs,es=>∃e r ck cv,es=e::r∧e.key=qhb k ck∧e.val=qhb v cv∧PRd w N k x.1 ck∧PRd w N v x.2 cv∧MRd w N k v xs r
def ChRd (w:World) (N:Nat→Prop) (e:Ty):List (pden e)→List Value→Prop
 |[],vs=>vs=[]
 |x::xs,vs=>∃cs r,vs=qhb e cs::r∧PRd w N e x cs∧ChRd w N e xs r
def FamRd (w:World) (e:Ty):List (List (pden e))→List (Nat×Option Plc)→List Value→Prop
 |[],ps,cs=>ps=[]∧cs=[]
 |xs::r,ps,cs=>∃p ps' v cs',ps=(xs.length,p)::ps'∧cs=v::cs'∧(match p with
   |none=>v= .slice none 0 0∧xs=[]
   |some p=>∃o cap cl,v= .slice (some ⟨p.blk,o,none⟩) xs.length cap∧xs.length≤cap∧(cap=0∨(o=p.ob∧p.ob+cap*e.sz≤p.bs))∧InBlk w p cl∧Cat (PRd w (fun _=>False) e) xs cl)∧FamRd w e r ps' cs'
def Slot (w:World) (e:Ty) (p:Option Plc) (v:Value) (xs:List (pden e)):Prop:=
 match p with
 |none=>v= .slice none 0 0∧xs=[]
 |some p=>∃o cap cl,v= .slice (some ⟨p.blk,o,none⟩) xs.length cap∧xs.length≤cap∧(cap=0∨(o=p.ob∧p.ob+cap*e.sz≤p.bs))∧InBlk w p cl∧Cat (PRd w (fun _=>False) e) xs cl
theorem Slot.form {w:World} {e:Ty} {p:Option Plc} {v:Value} {xs:List (pden e)} (h:Slot w e p v xs):∃A cap,v= .slice A xs.length cap:=by
 cases p with
 |none=>obtain ⟨rfl,rfl⟩:=h;exact ⟨none,0,rfl⟩
 |some p=>obtain ⟨o,cap,cl,a1,_⟩:=h;exact ⟨_,cap,a1⟩
def FamSRd (w:World) (a e:Ty):List (pden a×List (pden e))→List (Nat×Option Plc)→List Value→Prop
 |[],ps,cs=>ps=[]∧cs=[]
 |x::r,ps,cs=>∃p ps' c v cs',ps=(x.2.length,p)::ps'∧cs=c++v::cs'∧PRd w (fun _=>False) a x.1 c∧Slot w e p v x.2∧FamSRd w a e r ps' cs'
def Apart (p0:Option Plc) (ps:List (Option Plc)):Prop:=
 (∀(i j:Nat) p q,ps[i]?=some (some p)→ps[j]?=some (some q)→p.blk=q.blk→i=j)∧∀p q,p0=some p→some q∈ps→q.blk≠p.blk
def ORd (w:World) (N:Bool→Nat→Prop) (K:Kn):Obj→Gh→Prop
 | .row e fr xs,gh=>gh.sh= .row e xs.length []∧match gh.pl with
   |none=>xs=[]
   |some p=>∃cs,InBlk w p cs∧Cat (PRd w (N fr) e) xs cs
 | .box t x,gh=>gh.sh= .box t∧∃p cs,gh.pl=some p∧InBlk w p cs∧ARd w N K t x cs
 | .cell v,gh=>gh.sh= .cell∧∃p c,gh.pl=some p∧InBlk w p [c]∧VRd w N K v c
 | .map k v es,gh=>gh.sh= .map k v∧∃p en clock,gh.pl=some p∧w.heap[p.blk]?=some (.map en clock)∧k.flat=true∧v.flat=true∧MRd w (fun _=>False) k v es en.toList
 | .famS a e xs,gh=>a.flat=true∧e.flat=true∧∃ps,gh.sh= .row (qQp a e) xs.length ps∧Apart gh.pl (ps.map (·.2))∧match gh.pl with
   |none=>xs=[]∧ps=[]
   |some p=>∃cs,InBlk w p cs∧FamSRd w a e xs ps cs
 | .chan e fr cap xs cl,gh=>gh.sh= .chan e cap∧∃p buf s r,gh.pl=some p∧w.heap[p.blk]?=some (.chan cap buf cl s r false)∧ChRd w (N fr) e xs buf.toList
 | .fam e xss,gh=>e.flat=true∧∃ps,gh.sh= .row (.slice e) xss.length ps∧Apart gh.pl (ps.map (·.2))∧match gh.pl with
   |none=>xss=[]∧ps=[]
   |some p=>∃cs,InBlk w p cs∧FamRd w e xss ps cs
structure Cx where
 w0:World
 F:Nat→Prop
 G:Nat→Prop
 ng:Nat
 df:List Deferred
def qTb (H:qZb) (K:Kn) (b:Nat):Prop:=∃l o gh p,H l=some o∧K l=some gh∧Has gh p∧p.blk=b
def NN (c:Cx) (H:qZb) (K:Kn) (w:World) (fr:Bool) (b:Nat):Prop:=
 b<w.heap.size∧¬qTb H K b∧(c.w0.heap.size≤b∨c.G b∨(fr=false∧(c.F b∨b<c.ng)))
structure Fr (c:Cx) (w:World):Prop where
 os:w.os=c.w0.os
 tape:w.tape=c.w0.tape
 output:w.output=c.w0.output
 size:c.w0.heap.size≤w.heap.size
 block:∀k,k<c.w0.heap.size→¬c.G k→w.heap[k]?=c.w0.heap[k]?
structure Inv (c:Cx) (H:qZb) (K:Kn) (w:World):Prop where
 objs:∀l o,H l=some o→∃gh,K l=some gh∧ORd w (NN c H K w) K o gh
 own:∀l o gh p,H l=some o→K l=some gh→Has gh p→p.blk<w.heap.size∧(c.w0.heap.size≤p.blk∨c.G p.blk)∧c.ng≤p.blk
 inj:∀l l' o o' gh gh' p p',H l=some o→H l'=some o'→K l=some gh→K l'=some gh'→Has gh p→Has gh' p'→p.blk=p'.blk→l=l'
 fr:Fr c w
theorem Cat.length {α:Type} {R:α→List Value→Prop} {n:Nat} (h:∀x cs,R x cs→cs.length=n):∀{xs:List α} {cs:List Value},Cat R xs cs→cs.length=xs.length*n
 |[],cs,hc=>by simp [Cat] at hc;simp [hc]
 |x::xs,cs,hc=>by
  obtain ⟨c1,c2,rfl,h1,h2⟩:=hc
  rw [wl,h _ _ h1,Cat.length h h2,ww,wua];omega
theorem PRd.length {w:World} {N:Nat→Prop}:∀{t:Ty} {x:pden t} {cs:List Value},PRd w N t x cs→cs.length=t.sz
 | .int _,_,_,h=>by simp only [PRd] at h;simp [h,Ty.sz]
 | .bool,_,_,h=>by simp only [PRd] at h;simp [h,Ty.sz]
 | .str,_,_,h=>by simp only [PRd] at h;simp [h,Ty.sz]
 | .arr n e,xs,_,h=>by
   simp only [PRd] at h
   rw [Cat.length (fun _ _=>PRd.length) h.2,h.1,Ty.sz]
 | .pair a b,_,_,h=>by
   obtain ⟨c1,c2,rfl,h1,h2⟩:=h
   rw [wl,PRd.length h1,PRd.length h2,Ty.sz]
 | .unit,_,_,h=>by simp only [PRd] at h;simp [h,Ty.sz]
 | .slice _,_,_,h=>by
   obtain ⟨A,cap,rfl,_⟩:=h
   simp [Ty.sz]
 | .fn,_,_,h=>by simp only [PRd] at h;simp [h,Ty.sz]
theorem ARd.length {w:World} {N:Bool→Nat→Prop} {K:Kn}:∀{t:Ty} {x:qke t} {cs:List Value},ARd w N K t x cs→cs.length=t.sz
 | .int _,_,_,h=>by simp only [ARd] at h;simp [h,Ty.sz]
 | .bool,_,_,h=>by simp only [ARd] at h;simp [h,Ty.sz]
 | .str,_,_,h=>by simp only [ARd] at h;simp [h,Ty.sz]
 | .arr n e,xs,_,h=>by
   simp only [ARd] at h
   rw [Cat.length (fun _ _=>PRd.length) h.2,h.1,Ty.sz]
 | .pair a b,_,_,h=>by
   obtain ⟨c1,c2,rfl,h1,h2⟩:=h
   rw [wl,ARd.length h1,ARd.length h2,Ty.sz]
 | .unit,_,_,h=>by simp only [ARd] at h;simp [h,Ty.sz]
 | .slice _,x,_,h=>by
   cases x with
   |pure fr xs=>exact PRd.length (t:= .slice _) h
   |ref l off len wh=>obtain ⟨v,rfl,_⟩:=h;simp [Ty.sz]
   |nil=>simp only [ARd] at h;simp [h,Ty.sz]
   |junk=>obtain ⟨A,n,c,rfl⟩:=h;simp [Ty.sz]
   |lng n=>obtain ⟨A,c,rfl⟩:=h;simp [Ty.sz]
 | .fn,_,_,h=>by simp only [ARd] at h;simp [h,Ty.sz]
theorem Cat.imp {α:Type} {R S:α→List Value→Prop} (h:∀x cs,R x cs→S x cs):∀{xs:List α} {cs:List Value},Cat R xs cs→Cat S xs cs
 |[],cs,hc=>hc
 |x::xs,cs,hc=>by
  obtain ⟨c1,c2,e,h1,h2⟩:=hc
  exact ⟨c1,c2,e,h _ _ h1,Cat.imp h h2⟩
theorem qrm {w w':World} {b o:Nat} (h:w'.heap[b]?=w.heap[b]?):w'.cell? ⟨b,o,none⟩=w.cell? ⟨b,o,none⟩:=by
 simp only [World.cell?];rw [h]
theorem CellsAt.keep {w w':World} {b o:Nat} {cs:List Value} (hc:CellsAt w b o cs) (h:w'.heap[b]?=w.heap[b]?):CellsAt w' b o cs:=
 fun j v hj=>(qrm h).trans (hc j v hj)
structure Keep (w w':World) (N N':Nat→Prop):Prop where
 k:∀b,N b→N' b∧w'.heap[b]?=w.heap[b]?
theorem PRd.keep {w w':World} {N N':Nat→Prop} (hk:Keep w w' N N'):∀{t:Ty} {x:pden t} {cs:List Value},PRd w N t x cs→PRd w' N' t x cs
 | .int _,_,_,h=>h
 | .bool,_,_,h=>h
 | .str,_,_,h=>h
 | .arr n e,xs,_,h=>⟨h.1,h.2.imp (fun _ _=>PRd.keep hk)⟩
 | .pair a b,_,_,h=>by
   obtain ⟨c1,c2,e,h1,h2⟩:=h
   exact ⟨c1,c2,e,PRd.keep hk h1,PRd.keep hk h2⟩
 | .unit,_,_,h=>h
 | .slice _,_,_,h=>by
   obtain ⟨A,cap,e,hl,h⟩:=h
   refine ⟨A,cap,e,hl,h.imp id ?_⟩
   rintro ⟨b,o,cl,e,hn,hc,h⟩
   exact ⟨b,o,cl,e,(hk.k b hn).1,hc.keep (hk.k b hn).2,h.imp (fun _ _=>PRd.keep hk)⟩
 | .fn,_,_,h=>h
theorem PRd.flat {w w':World} {N N':Nat→Prop}:∀{t:Ty} {x:pden t} {cs:List Value},t.flat=true→PRd w N t x cs→PRd w' N' t x cs
 | .int _,_,_,_,h=>h
 | .bool,_,_,_,h=>h
 | .str,_,_,_,h=>h
 | .arr n e,xs,_,hf,h=>⟨h.1,h.2.imp (fun _ _=>PRd.flat (t:=e) hf)⟩
 | .pair a b,_,_,hf,h=>by
   obtain ⟨c1,c2,e,h1,h2⟩:=h
   simp only [Ty.flat,wz] at hf
   exact ⟨c1,c2,e,PRd.flat hf.1 h1,PRd.flat hf.2 h2⟩
 | .unit,_,_,_,h=>h
 | .slice _,_,_,hf,_=>by cases hf
 | .fn,_,_,_,h=>h
structure KeepK (w w':World) (N N':Bool→Nat→Prop) (K K':Kn):Prop where
 n:∀fr,Keep w w' (N fr) (N' fr)
 k:∀l gh,K l=some gh→K' l=some gh
theorem RefRd.keep {K K':Kn} (hk:∀l gh,K l=some gh→K' l=some gh) {e:Ty} {l off len:Nat} {wh:Bool} {v:Value} (h:RefRd K e l off len wh v):RefRd K' e l off len wh v:=by
 obtain ⟨n,pl,⟨ps,h1⟩,h2⟩:=h
 exact ⟨n,pl,⟨ps,hk _ _ h1⟩,h2⟩
theorem ARd.keep {w w':World} {N N':Bool→Nat→Prop} {K K':Kn} (hk:KeepK w w' N N' K K'):∀{t:Ty} {x:qke t} {cs:List Value},ARd w N K t x cs→ARd w' N' K' t x cs
 | .int _,_,_,h=>h
 | .bool,_,_,h=>h
 | .str,_,_,h=>h
 | .arr n e,xs,_,h=>⟨h.1,h.2.imp (fun _ _=>PRd.keep (hk.n false))⟩
 | .pair a b,_,_,h=>by
   obtain ⟨c1,c2,e,h1,h2⟩:=h
   exact ⟨c1,c2,e,ARd.keep hk h1,ARd.keep hk h2⟩
 | .unit,_,_,h=>h
 | .slice _,x,_,h=>by
   cases x with
   |pure fr xs=>exact PRd.keep (hk.n fr) (t:= .slice _) h
   |ref l off len wh=>obtain ⟨v,e,h⟩:=h;exact ⟨v,e,h.keep hk.k⟩
   |nil=>exact h
   |junk=>exact h
   |lng n=>exact h
 | .fn,_,_,h=>h
theorem capsRd.keep {K K':Kn} (hk:∀l gh,K l=some gh→K' l=some gh):∀{ls:List Nat} {vs:List Value},capsRd K ls vs→capsRd K' ls vs
 |[],_,h=>h
 |_::_,_,h=>by
  obtain ⟨gh,p,r,h1,h2,h3,h4⟩:=h
  exact ⟨gh,p,r,hk _ _ h1,h2,h3,capsRd.keep hk h4⟩
theorem VRd.keep {w w':World} {N N':Bool→Nat→Prop} {K K':Kn} (hk:KeepK w w' N N' K K'):∀{a:AV} {v:Value},VRd w N K a v→VRd w' N' K' a v
 | .undef,_,h=>h
 | .bool _,_,h=>h
 | .int _ _,_,h=>h
 | .str _,_,h=>h
 | .agg t x,_,h=>by
   obtain ⟨cs,e,ha,h⟩:=h
   exact ⟨cs,e,ha,h.keep hk⟩
 | .sl e fr xs,_,h=>PRd.keep (hk.n fr) (t:= .slice e) h
 | .nil,_,h=>h
 | .ref _ _ _ _ _,_,h=>RefRd.keep hk.k h
 | .bref _ _ _ _ _ _,_,h=>by
   obtain ⟨sh,pl,po,h1,h2⟩:=h
   exact ⟨sh,pl,po,hk.k _ _ h1,h2⟩
 | .ptr _ _ _,_,h=>by
   obtain ⟨sh,pl,po,h1,h2⟩:=h
   exact ⟨sh,pl,po,hk.k _ _ h1,h2⟩
 | .rptr t fr x,_,h=>by
   obtain ⟨b,o,cs,e,hn,hc,h⟩:=h
   rcases hn with rfl|hn
   ·exact ⟨b,o,[],e, .inl rfl,fun j v hj=>by simp at hj,h.keep (hk.n fr)⟩
   ·exact ⟨b,o,cs,e, .inr ((hk.n fr).k b hn).1,hc.keep ((hk.n fr).k b hn).2,h.keep (hk.n fr)⟩
 | .cptr _,_,h=>by
   obtain ⟨sh,pl,h1,h2⟩:=h
   exact ⟨sh,pl,hk.k _ _ h1,h2⟩
 | .func _ _,_,h=>by
   obtain ⟨vs,h1,h2⟩:=h
   exact ⟨vs,h1,h2.keep hk.k⟩
 | .nilFunc,_,h=>h
 | .errno _ _ _,_,h=>h
 | .nilIface,_,h=>h
 | .mapr _,_,h=>by
   obtain ⟨sh,pl,h1,h2⟩:=h
   exact ⟨sh,pl,hk.k _ _ h1,h2⟩
 | .chan _,_,h=>by
   obtain ⟨sh,pl,h1,h2⟩:=h
   exact ⟨sh,pl,hk.k _ _ h1,h2⟩
 | .lng _ _,_,h=>h
 | .nilMap,_,h=>h
 | .gone,_,h=>h
 | .eri _ _ _,_,h=>h
 | .sln e fr xs,_,h=>⟨PRd.keep (hk.n fr) (t:= .slice e) h.1,h.2⟩
 | .ifp _ _ _ _,_,h=>by
   obtain ⟨sh,pl,po,h1,h2⟩:=h
   exact ⟨sh,pl,po,hk.k _ _ h1,h2⟩
 | .cslice _ _ _,_,h=>by
   obtain ⟨pl,h1,h2⟩:=h
   exact ⟨pl,hk.k _ _ h1,h2⟩
theorem VRdL.keep {w w':World} {N N':Bool→Nat→Prop} {K K':Kn} (hk:KeepK w w' N N' K K'):∀{as:List AV} {vs:List Value},VRdL w N K as vs→VRdL w' N' K' as vs
 |[],_,h=>h
 |_::_,_,h=>by
  obtain ⟨v,r,e,h1,h2⟩:=h
  exact ⟨v,r,e,h1.keep hk,h2.keep hk⟩
theorem TVRd.keep {w w':World} {N N':Bool→Nat→Prop} {K K':Kn} (hk:KeepK w w' N N' K K'):∀{a:TV} {v:Value},TVRd w N K a v→TVRd w' N' K' a v
 | .one _,_,h=>VRd.keep hk h
 | .tup _,_,h=>by
   obtain ⟨vs,e,h⟩:=h
   exact ⟨vs,e,h.keep hk⟩
theorem InBlk.keep {w w':World} {p:Plc} {cs:List Value} (h:InBlk w p cs) (hb:w'.heap[p.blk]?=w.heap[p.blk]?):InBlk w' p cs:=by
 obtain ⟨arr,T,fz,h1,h2⟩:=h
 exact ⟨arr,T,fz,hb.trans h1,h2⟩
theorem MRd.keep {w w':World} {N N':Nat→Prop} (hk:Keep w w' N N') {k v:Ty}:∀{xs:List (pden k×pden v)} {es:List MapEntry},MRd w N k v xs es→MRd w' N' k v xs es
 |[],_,h=>h
 |_::_,_,h=>by
  obtain ⟨e,r,ck,cv,h1,h5,h6,h2,h3,h4⟩:=h
  exact ⟨e,r,ck,cv,h1,h5,h6,h2.keep hk,h3.keep hk,h4.keep hk⟩
theorem ChRd.imp {w w':World} {N N':Nat→Prop} {e:Ty} (h:∀x cs,PRd w N e x cs→PRd w' N' e x cs):∀{xs:List (pden e)} {vs:List Value},ChRd w N e xs vs→ChRd w' N' e xs vs
 |[],_,q=>q
 |_::_,_,q=>by
  obtain ⟨cs,r,h1,h2,h3⟩:=q
  exact ⟨cs,r,h1,h _ _ h2,ChRd.imp h h3⟩
theorem ChRd.keep {w w':World} {N N':Nat→Prop} (hk:Keep w w' N N') {e:Ty} {xs:List (pden e)} {vs:List Value} (h:ChRd w N e xs vs):ChRd w' N' e xs vs:=
 h.imp (fun _ _ q=>q.keep hk)
theorem FamRd.keep {w w':World} {e:Ty} (hf:e.flat=true):∀{xss:List (List (pden e))} {ps:List (Nat×Option Plc)} {cs:List Value},(∀p,some p∈ps.map (·.2)→w'.heap[p.blk]?=w.heap[p.blk]?)→FamRd w e xss ps cs→FamRd w' e xss ps cs
 |[],_,_,_,h=>h
 |xs::r,_,_,hb,h=>by
  obtain ⟨p,ps',v,cs',rfl,rfl,h1,h2⟩:=h
  refine ⟨p,ps',v,cs',rfl,rfl,?_,FamRd.keep hf (fun q hq=>hb q (wH _ hq)) h2⟩
  cases p with
  |none=>exact h1
  |some p=>
   obtain ⟨o,cap,cl,a1,a2,a3,a4,a5⟩:=h1
   exact ⟨o,cap,cl,a1,a2,a3,a4.keep (hb p (by simp)),a5.imp (fun _ _ q=>q.flat hf)⟩
theorem Slot.keep {w w':World} {e:Ty} {p:Option Plc} {v:Value} {xs:List (pden e)} (h:Slot w e p v xs) (hf:e.flat=true) (hb:∀q,p=some q→w'.heap[q.blk]?=w.heap[q.blk]?):Slot w' e p v xs:=by
 cases p with
 |none=>exact h
 |some p=>
  obtain ⟨o,cap,cl,a1,a2,a3,a4,a5⟩:=h
  exact ⟨o,cap,cl,a1,a2,a3,a4.keep (hb p rfl),a5.imp (fun _ _ q=>q.flat hf)⟩
theorem FamSRd.keep {w w':World} {a e:Ty} (ha:a.flat=true) (hf:e.flat=true):∀{xs:List (pden a×List (pden e))} {ps:List (Nat×Option Plc)} {cs:List Value},(∀p,some p∈ps.map (·.2)→w'.heap[p.blk]?=w.heap[p.blk]?)→FamSRd w a e xs ps cs→FamSRd w' a e xs ps cs
 |[],_,_,_,h=>h
 |x::r,_,_,hb,h=>by
  obtain ⟨p,ps',c,v,cs',rfl,rfl,h0,h1,h2⟩:=h
  exact ⟨p,ps',c,v,cs',rfl,rfl,h0.flat ha,h1.keep hf (fun q hq=>hb q (by rw [hq];simp)),FamSRd.keep ha hf (fun q hq=>hb q (wH _ hq)) h2⟩
theorem ORd.keep {w w':World} {N N':Bool→Nat→Prop} {K K':Kn} (hk:KeepK w w' N N' K K'):∀{o:Obj} {gh:Gh},(∀p,Has gh p→w'.heap[p.blk]?=w.heap[p.blk]?)→ORd w N K o gh→ORd w' N' K' o gh
 | .row e fr xs,gh,hb,h=>by
   refine ⟨h.1,?_⟩
   have h2:=h.2
   cases hp:gh.pl with
   |none=>rw [hp] at h2;exact h2
   |some p=>
    rw [hp] at h2
    obtain ⟨cs,h1,h2⟩:=h2
    exact ⟨cs,h1.keep (hb p (.inl hp)),h2.imp (fun _ _=>PRd.keep (hk.n fr))⟩
 | .box t x,gh,hb,h=>by
   obtain ⟨hs,p,cs,hp,h1,h2⟩:=h
   exact ⟨hs,p,cs,hp,h1.keep (hb p (.inl hp)),h2.keep hk⟩
 | .cell v,gh,hb,h=>by
   obtain ⟨hs,p,c,hp,h1,h2⟩:=h
   exact ⟨hs,p,c,hp,h1.keep (hb p (.inl hp)),h2.keep hk⟩
 | .map k v es,gh,hb,h=>by
   obtain ⟨hs,p,en,clock,hp,h1,hf1,hf2,h2⟩:=h
   exact ⟨hs,p,en,clock,hp,(hb p (.inl hp)).trans h1,hf1,hf2,h2.keep ⟨fun _ h=>h.elim⟩⟩
 | .famS a e xs,gh,hb,h=>by
   obtain ⟨ha0,hf,ps,hs,ha,h⟩:=h
   refine ⟨ha0,hf,ps,hs,ha,?_⟩
   cases hp:gh.pl with
   |none=>rw [hp] at h;exact h
   |some p=>
    rw [hp] at h
    obtain ⟨cs,h1,h2⟩:=h
    exact ⟨cs,h1.keep (hb p (.inl hp)),h2.keep ha0 hf (fun q hq=>hb q (.inr (by rw [hs];exact hq)))⟩
 | .chan e fr cap xs cl,gh,hb,h=>by
   obtain ⟨hs,p,buf,s,r,hp,h1,h2⟩:=h
   exact ⟨hs,p,buf,s,r,hp,(hb p (.inl hp)).trans h1,h2.keep (hk.n fr)⟩
 | .fam e xss,gh,hb,h=>by
   obtain ⟨hf,ps,hs,ha,h⟩:=h
   refine ⟨hf,ps,hs,ha,?_⟩
   cases hp:gh.pl with
   |none=>rw [hp] at h;exact h
   |some p=>
    rw [hp] at h
    obtain ⟨cs,h1,h2⟩:=h
    exact ⟨cs,h1.keep (hb p (.inl hp)),h2.keep hf (fun q hq=>hb q (.inr (by rw [hs];exact hq)))⟩
theorem Keep.refl (w:World) (N:Nat→Prop):Keep w w N N:=⟨fun b h=>⟨h,rfl⟩⟩
theorem KeepK.refl (w:World) (N:Bool→Nat→Prop) (K:Kn):KeepK w w N N K K:=⟨fun _=> .refl _ _,fun _ _ h=>h⟩
def ngOf:List (Nat×(Σ t,pden t))→Nat
 |[]=>0
 |p::r=>max (p.1+1) (ngOf r)
def Hdl (P:Program) (w:World) (g:Nat):Prop:=
 ∃u ty,(P.cutTypes.find? (·.1== "internal/reflectlite.rtype")).map (·.2)=some u∧ty<P.types.size∧P.rowNamed ty [101,114,114,111,114]=true∧w.cell? ⟨g,0,none⟩=some (.iface u (.agg #[typeHandle P ty]))
def qNN (w:World) (g:Nat):Prop:=∃m,w.cell? ⟨g,0,none⟩=some (.int .i64 m)
def Glob (P:Program) (GT:List (Nat×(Σ t,pden t))) (w:World):Prop:=
 (ngOf GT)≤w.heap.size∧(∀g t x,lookL GT g=some ⟨t,x⟩→g<(ngOf GT)∧t.flat=true∧∃cs,CellsAt w g 0 cs∧PRd w (fun _=>False) t x cs)∧
  (∀g,lookL GT g=some ⟨.unit,()⟩→Hdl P w g)∧∀g,lookL GT g=some ⟨.pair .unit .unit,((),())⟩→qNN w g
def qcp (P:Program) (f:Nat) (args:Array Value) (w:World) (R:Value→World→Prop):Prop:=
 match (callFunc f args).run P w with
 | .ok (.value v) w'=>R v w'
 | .ok (.enter g as) w'=>Calls P g as w' fun e w''=>∃v,e= .returned v∧R v w''
 |_=>False
def CallOK (P:Program) (GT:List (Nat×(Σ t,pden t))) (f:Nat) (args:List AV) (pre:List (Nat×Obj)) (res:TV) (post:List (Nat×Obj)):Prop:=
 ∀(w:World) (F G:Nat→Prop) (K:Kn) (vs:List Value),Glob P GT w→Inv ⟨w,F,G,(ngOf GT),[]⟩ (lookL pre) K w→
  (∀b,G b→qTb (lookL pre) K b)→(∀l,lookL pre l=none→K l=none)→(∀b,F b→b<w.heap.size)→
  VRdL w (NN ⟨w,F,G,(ngOf GT),[]⟩ (lookL pre) K w) K args vs→
  qcp P f vs.toArray w fun v w'=>∃K',(∀l gh,K l=some gh→K' l=some gh)∧Inv ⟨w,F,G,(ngOf GT),[]⟩ (lookL post) K' w'∧
   TVRd w' (NN ⟨w,F,G,(ngOf GT),[]⟩ (lookL post) K' w') K' res v
end Go.Ab

/-
  Paths, parts and whole values, over lists of cells.
-/
set_option linter.unusedVariables false
set_option linter.unusedSimpArgs false
namespace Go.Ab
open Go
def cut {α:Type} (cs:List α) (o n:Nat):List α:=(cs.drop o).take n
theorem qwo {α:Type} {cs:List α} {o n:Nat} (h:o+n≤cs.length):(cut cs o n).length=n:=by simp [cut];omega
theorem qVk {α:Type} (cs:List α) (o n j:Nat):(cut cs o n)[j]?=if j<n then cs[o+j]? else none:=by
 simp only [cut,List.getElem?_take,List.getElem?_drop]
theorem qCz {α:Type} {cs:List α} {a b n m:Nat} (h:b+m≤n):cut (cut cs a n) b m=cut cs (a+b) m:=by
 apply wQa;intro j
 simp only [qVk]
 by_cases hj:j<m
 ·rw [if_pos hj,if_pos hj,if_pos (by omega)];congr 1;omega
 ·rw [if_neg hj,if_neg hj]
theorem qBz {α:Type} {c1 c2:List α} {o n:Nat} (h:o+n≤c1.length):cut (c1++c2) o n=cut c1 o n:=by
 apply wQa;intro j
 simp only [qVk]
 by_cases hj:j<n
 ·rw [if_pos hj,if_pos hj,wha (by omega)]
 ·rw [if_neg hj,if_neg hj]
theorem qWv {α:Type} {c1 c2:List α} {o n a:Nat} (ha:c1.length=a):cut (c1++c2) (a+o) n=cut c2 o n:=by
 apply wQa;intro j
 simp only [qVk]
 by_cases hj:j<n
 ·rw [if_pos hj,if_pos hj,wda (by omega)];congr 1;omega
 ·rw [if_neg hj,if_neg hj]
theorem qDz {α:Type} {cs:List α} {n:Nat} (h:cs.length=n):cut cs 0 n=cs:=by simp [cut,←h]
def put {α:Type} (cs:List α) (o:Nat) (s:List α):List α:=cs.take o++s++cs.drop (o+s.length)
theorem qWi {α:Type} {cs s:List α} {o:Nat} (h:o+s.length≤cs.length) (j:Nat):(put cs o s)[j]?=if j<o then cs[j]? else if j<o+s.length then s[j - o]? else cs[j]?:=by
 unfold put
 by_cases h1:j<o
 ·rw [if_pos h1,wB,wha (by simp;omega),List.getElem?_take,if_pos h1]
 ·rw [if_neg h1]
  by_cases h2:j<o+s.length
  ·rw [if_pos h2,wB,wda (by simp;omega),wha (by simp;omega)]
   congr 1;simp;omega
  ·rw [if_neg h2,wda (by simp;omega),List.getElem?_drop]
   congr 1;simp;omega
theorem qlo {α:Type} {cs s:List α} {o:Nat} (h:o+s.length≤cs.length):(put cs o s).length=cs.length:=by simp [put];omega
theorem qKC {α:Type} {cs s:List α} {a b n:Nat} (h:b+s.length≤n) (hn:a+n≤cs.length):put cs a (put (cut cs a n) b s)=put cs (a+b) s:=by
 have hc:(cut cs a n).length=n:=qwo hn
 have hl:(put (cut cs a n) b s).length=n:=by rw [qlo (by omega),hc]
 apply wQa;intro j
 have e1:=qWi (cs:=cs) (s:=put (cut cs a n) b s) (o:=a) (by omega) j
 have e2:=qWi (cs:=cs) (s:=s) (o:=a+b) (by omega) j
 rw [e1,e2,hl]
 by_cases h1:j<a
 ·rw [if_pos h1,if_pos (by omega)]
 ·rw [if_neg h1]
  by_cases h2:j<a+n
  ·rw [if_pos h2,qWi (by omega),qVk,if_pos (show j - a<n by omega)]
   by_cases h3:j<a+b
   ·rw [if_pos (show j - a<b by omega),if_pos h3];congr 1;omega
   ·rw [if_neg (show ¬j - a<b by omega),if_neg h3]
    by_cases h4:j<a+b+s.length
    ·rw [if_pos (show j - a<b+s.length by omega),if_pos h4];congr 1;omega
    ·rw [if_neg (show ¬j - a<b+s.length by omega),if_neg h4];congr 1;omega
  ·rw [if_neg h2,if_neg (by omega),if_neg (by omega)]
theorem qkE {α:Type} {c1 c2 s:List α} {o:Nat} (h:o+s.length≤c1.length):put (c1++c2) o s=put c1 o s++c2:=by
 unfold put
 rw [List.take_append_of_le_length (by omega),List.drop_append_of_le_length (by omega)]
 simp [wB]
theorem quu {α:Type} {c1 c2 s:List α} {o a:Nat} (ha:c1.length=a):put (c1++c2) (a+o) s=c1++put c2 o s:=by
 unfold put
 subst ha
 rw [List.take_length_add_append,wxa,List.drop_length_add_append]
 simp [wB]
theorem qLC {α:Type} {cs s:List α} (h:s.length=cs.length):put cs 0 s=s:=by simp [put,h]
theorem Cat.get {α:Type} {R:α→List Value→Prop} {n:Nat} (hR:∀x cs,R x cs→cs.length=n):∀{xs:List α} {cs:List Value},Cat R xs cs→∀(i:Nat) (x:α),xs[i]?=some x→R x (cut cs (i*n) n)
 |[],_,_,i,x,h=>by simp at h
 |y::ys,_,hc,i,x,h=>by
  obtain ⟨c1,c2,rfl,h1,h2⟩:=hc
  have hl:=hR _ _ h1
  cases i with
  |zero=>
   simp at h;subst h
   rw [Nat.zero_mul,qBz (by omega),qDz hl];exact h1
  |succ i=>
   simp at h
   rw [wua,Nat.add_comm,qWv hl];exact Cat.get hR h2 i x h
theorem Cat.set {α:Type} {R:α→List Value→Prop} {n:Nat} (hR:∀x cs,R x cs→cs.length=n):∀{xs:List α} {cs:List Value},Cat R xs cs→∀(i:Nat) (u:α) (s:List Value),i<xs.length→R u s→Cat R (xs.set i u) (put cs (i*n) s)
 |[],_,_,i,u,s,h,_=>by simp at h
 |y::ys,_,hc,i,u,s,h,hu=>by
  obtain ⟨c1,c2,rfl,h1,h2⟩:=hc
  have hl:=hR _ _ h1
  have hs:=hR _ _ hu
  cases i with
  |zero=>
   rw [Nat.zero_mul,qkE (by omega),qLC (by omega)]
   exact ⟨s,c2,rfl,hu,h2⟩
  |succ i=>
   rw [show (i+1)*n=n+i*n by rw [wua];omega,quu hl]
   exact ⟨c1,_,rfl,h1,Cat.set hR h2 i u s (by simpa using h) hu⟩
theorem Cat.append {α:Type} {R:α→List Value→Prop}:∀{xs ys:List α} {cs ds:List Value},Cat R xs cs→Cat R ys ds→Cat R (xs++ys) (cs++ds)
 |[],_,_,_,h,h'=>by simp only [Cat] at h;subst h;simpa using h'
 |x::xs,_,_,_,h,h'=>by
  obtain ⟨c1,c2,rfl,h1,h2⟩:=h
  exact ⟨c1,c2++_,by simp,h1,Cat.append h2 h'⟩
theorem Cat.drop {α:Type} {R:α→List Value→Prop} {n:Nat} (hR:∀x cs,R x cs→cs.length=n):∀{xs:List α} {cs:List Value} (k:Nat),Cat R xs cs→Cat R (xs.drop k) (cs.drop (k*n))
 |[],_,k,h=>by simp only [Cat] at h;subst h;simp [Cat]
 |x::xs,_,0,h=>by simpa using h
 |x::xs,_,k+1,h=>by
  obtain ⟨c1,c2,rfl,h1,h2⟩:=h
  have hl:=hR _ _ h1
  rw [List.drop_succ_cons,wua,Nat.add_comm,←hl,List.drop_length_add_append,hl]
  exact Cat.drop hR k h2
theorem Cat.take {α:Type} {R:α→List Value→Prop} {n:Nat} (hR:∀x cs,R x cs→cs.length=n):∀{xs:List α} {cs:List Value} (k:Nat),Cat R xs cs→Cat R (xs.take k) (cs.take (k*n))
 |[],_,k,h=>by simp only [Cat] at h;subst h;simp [Cat]
 |x::xs,_,0,h=>by simp [Cat]
 |x::xs,_,k+1,h=>by
  obtain ⟨c1,c2,rfl,h1,h2⟩:=h
  have hl:=hR _ _ h1
  rw [List.take_succ_cons,wua,Nat.add_comm,←hl,List.take_length_add_append,hl]
  exact ⟨c1,_,rfl,h1,Cat.take hR k h2⟩
theorem Cat.seg {α:Type} {R:α→List Value→Prop} {n:Nat} (hR:∀x cs,R x cs→cs.length=n) {xs:List α} {cs:List Value} (o k:Nat) (h:Cat R xs cs):Cat R ((xs.drop o).take k) (cut cs (o*n) (k*n)):=
 (h.drop hR o).take hR k
theorem Cat.replicate {α:Type} {R:α→List Value→Prop} {x:α} {c:List Value} (h:R x c):∀n,Cat R (wn n x) (wn n c).flatten
 |0=>rfl
 |n+1=>⟨c,_,by simp [List.replicate_succ],h,Cat.replicate h n⟩
section
variable {w:World} {N:Bool→Nat→Prop} {K:Kn}
theorem uy {w:World} {N:Bool→Nat→Prop} {fr:Bool} {e:Ty} {x:pden e} {cs:List Value} (h:PRd w (N fr) e x cs):PRd w (N (fr||e.flat)) e x cs:=by
 cases hf:e.flat with
 |true=>exact PRd.flat hf h
 |false=>rw [Bool.or_false];exact h
theorem qej (hN:∀b,N true b→N false b) (fr:Bool):∀{t:Ty} {x:pden t} {cs:List Value},PRd w (N fr) t x cs→ARd w N K t (inj fr t x) cs
 | .int _,_,_,h=>h
 | .bool,_,_,h=>h
 | .str,_,_,h=>h
 | .arr n e,xs,_,h=>by
   refine ⟨h.1,?_⟩
   cases fr with
   |false=>exact h.2
   |true=>exact h.2.imp (fun _ _=>PRd.keep ⟨fun b hb=>⟨hN b hb,rfl⟩⟩)
 | .pair a b,_,_,h=>by
   obtain ⟨c1,c2,e,h1,h2⟩:=h
   exact ⟨c1,c2,e,qej hN fr h1,qej hN fr h2⟩
 | .unit,_,_,h=>h
 | .slice _,_,_,h=>h
 | .fn,_,_,h=>h
theorem qFt (hN:∀b,N true b→N false b):∀{t:Ty} {x:qke t} {u:pden t} {cs:List Value},ARd w N K t x cs→unj t x=some u→PRd w (N (qlw t x)) t u cs
 | .int _,_,_,_,h,e=>by simp only [unj,wc] at e;subst e;exact h
 | .bool,_,_,_,h,e=>by simp only [unj,wc] at e;subst e;exact h
 | .str,_,_,_,h,e=>by simp only [unj,wc] at e;subst e;exact h
 | .arr n t,xs,_,_,h,e=>by
   simp only [unj,wc] at e;subst e
   cases hf:t.flat with
   |true=>exact ⟨h.1,h.2.imp (fun _ _ hp=>PRd.flat hf hp)⟩
   |false=>simp only [qlw,hf];exact h
 | .pair a b,x,u,_,h,e=>by
   obtain ⟨c1,c2,e2,h1,h2⟩:=h
   simp only [unj] at e
   cases hu:unj a x.1 with
   |none=>simp [hu] at e
   |some p=>
    cases hv:unj b x.2 with
    |none=>simp [hu,hv] at e
    |some q=>
     simp only [hu,hv,wc] at e
     subst e
     have g1:=qFt hN h1 hu
     have g2:=qFt hN h2 hv
     have low:∀f g:Bool,∀b,N f b→N (f&&g) b:=fun f g b hb=>by
      cases f <;> cases g <;> first|exact hb|exact hN b hb
     refine ⟨c1,c2,e2,g1.keep ⟨fun b hb=>⟨low _ _ b hb,rfl⟩⟩,g2.keep ⟨fun b hb=>⟨?_,rfl⟩⟩⟩
     simp only [qlw]
     rw [Bool.and_comm]
     exact low _ _ b hb
 | .unit,_,_,_,h,_=>h
 | .slice _,x,_,_,h,e=>by
   cases x with
   |pure fr xs=>simp only [unj,wc] at e;subst e;exact h
   |ref l off len wh=>simp [unj] at e
   |nil=>
    simp only [unj,wc] at e;subst e
    simp only [ARd] at h;subst h
    exact ⟨none,0,rfl,ws _, .inl rfl⟩
   |junk=>simp [unj] at e
   |lng n=>simp [unj] at e
 | .fn,_,_,_,h,e=>by simp only [unj,wc] at e;subst e;exact h
theorem qMb:∀{p:List PS} {t t':Ty} {o:Nat},qDa t p=some (o,t')→o+t'.sz≤t.sz
 |[],t,t',o,h=>by simp only [qDa,wc,wk] at h;obtain ⟨rfl,rfl⟩:=h;omega
 | .fst::p,t,t',o,h=>by
   cases t with
   |pair a b=>simp only [qDa] at h;have:=qMb h;simp only [Ty.sz];omega
   |_=>simp [qDa] at h
 | .snd::p,t,t',o,h=>by
   cases t with
   |pair a b=>
    simp only [qDa] at h
    split at h
    ·rename_i o2 t2 h2
     simp only [wc,wk] at h;obtain ⟨rfl,rfl⟩:=h
     have:=qMb h2;simp only [Ty.sz];omega
    ·cases h
   |_=>simp [qDa] at h
 | .idx i::p,t,t',o,h=>by
   cases t with
   |arr n e=>
    simp only [qDa] at h
    split at h
    ·rename_i o2 t2 h2
     split at h
     ·rename_i hi
      simp only [wc,wk] at h;obtain ⟨rfl,rfl⟩:=h
      have:=qMb h2
      have hm:(i+1)*e.sz≤n*e.sz:=wja _ hi
      rw [wua] at hm
      simp only [Ty.sz];omega
     ·cases h
    ·cases h
   |_=>simp [qDa] at h
theorem qZl (hN:∀b,N true b→N false b):∀{p:List PS} {t:Ty} {x:qke t} {cs:List Value} {o:Nat} {t':Ty},ARd w N K t x cs→qDa t p=some (o,t')→∃y,qcA t x p=some ⟨t',y⟩∧ARd w N K t' y (cut cs o t'.sz)
 |[],t,x,cs,o,t',h,hp=>by
  simp only [qDa,wc,wk] at hp;obtain ⟨rfl,rfl⟩:=hp
  refine ⟨x,by cases t <;> rfl,?_⟩
  rw [qDz h.length];exact h
 | .fst::p,t,x,cs,o,t',h,hp=>by
   cases t with
   |pair a b=>
    simp only [qDa] at hp
    obtain ⟨c1,c2,rfl,h1,h2⟩:=h
    obtain ⟨y,e,hy⟩:=qZl hN h1 hp
    refine ⟨y,by simp only [qcA];exact e,?_⟩
    rw [qBz (by rw [h1.length];exact qMb hp)];exact hy
   |_=>simp [qDa] at hp
 | .snd::p,t,x,cs,o,t',h,hp=>by
   cases t with
   |pair a b=>
    simp only [qDa] at hp
    obtain ⟨c1,c2,rfl,h1,h2⟩:=h
    split at hp
    ·rename_i o2 t2 hp2
     simp only [wc,wk] at hp;obtain ⟨rfl,rfl⟩:=hp
     obtain ⟨y,e,hy⟩:=qZl hN h2 hp2
     refine ⟨y,by simp only [qcA];exact e,?_⟩
     rw [qWv h1.length];exact hy
    ·cases hp
   |_=>simp [qDa] at hp
 | .idx i::p,t,x,cs,o,t',h,hp=>by
   cases t with
   |arr n e=>
    simp only [qDa] at hp
    split at hp
    ·rename_i o2 t2 hp2
     split at hp
     ·rename_i hi
      simp only [wc,wk] at hp;obtain ⟨rfl,rfl⟩:=hp
      obtain ⟨hl,hc⟩:=h
      have hx:x[i]?=some (x.getD i (qua e)):=by rw [wt,wx (by omega)];rfl
      have h1:=hc.get (fun _ _=>PRd.length) i _ hx
      obtain ⟨y,e2,hy⟩:=qZl hN (qej (K:=K) hN false h1) hp2
      refine ⟨y,by simp only [qcA];exact e2,?_⟩
      rw [qCz (qMb hp2)] at hy;exact hy
     ·cases hp
    ·cases hp
   |_=>simp [qDa] at hp
theorem qln (hN:∀b,N true b→N false b):∀{p:List PS} {t:Ty} {x z:qke t} {cs s:List Value} {o:Nat} {t':Ty} {y:qke t'},ARd w N K t x cs→qDa t p=some (o,t')→ARd w N K t' y s→qNC t x p t' y=some z→ARd w N K t z (put cs o s)
 |[],t,x,z,cs,s,o,t',y,h,hp,hy,e=>by
  simp only [qDa,wc,wk] at hp;obtain ⟨rfl,rfl⟩:=hp
  have e2:some y=some z:=by
   rw [←e];cases t <;> simp [qNC]
  simp only [wc] at e2;subst e2
  rw [qLC (by rw [h.length,hy.length])];exact hy
 | .fst::p,t,x,z,cs,s,o,t',y,h,hp,hy,e=>by
   cases t with
   |pair a b=>
    simp only [qDa] at hp
    obtain ⟨c1,c2,rfl,h1,h2⟩:=h
    simp only [qNC] at e
    split at e
    ·rename_i z2 e2
     simp only [wc] at e;subst e
     have:=qln hN h1 hp hy e2
     rw [qkE (by rw [h1.length,hy.length];exact qMb hp)]
     exact ⟨_,c2,rfl,this,h2⟩
    ·cases e
   |_=>simp [qDa] at hp
 | .snd::p,t,x,z,cs,s,o,t',y,h,hp,hy,e=>by
   cases t with
   |pair a b=>
    simp only [qDa] at hp
    obtain ⟨c1,c2,rfl,h1,h2⟩:=h
    split at hp
    ·rename_i o2 t2 hp2
     simp only [wc,wk] at hp;obtain ⟨rfl,rfl⟩:=hp
     simp only [qNC] at e
     split at e
     ·rename_i z2 e2
      simp only [wc] at e;subst e
      have:=qln hN h2 hp2 hy e2
      rw [quu h1.length]
      exact ⟨c1,_,rfl,h1,this⟩
     ·cases e
    ·cases hp
   |_=>simp [qDa] at hp
 | .idx i::p,t,x,z,cs,s,o,t',y,h,hp,hy,e=>by
   cases t with
   |arr n te=>
    simp only [qDa] at hp
    split at hp
    ·rename_i o2 t2 hp2
     split at hp
     ·rename_i hi
      simp only [wc,wk] at hp;obtain ⟨rfl,rfl⟩:=hp
      obtain ⟨hl,hc⟩:=h
      have hx:x[i]?=some (x.getD i (qua te)):=by rw [wt,wx (by omega)];rfl
      have h1:=hc.get (fun _ _=>PRd.length) i _ hx
      simp only [qNC] at e
      split at e
      ·rename_i z2 e2
       split at e
       ·rename_i u e3
        simp only [wc] at e;subst e
        have h3:=qln hN (qej (K:=K) hN false h1) hp2 hy e2
        have h4:=qFt hN h3 e3
        have h5:PRd w (N false) te u _:=h4.keep ⟨fun b hb=>⟨by cases hf:qlw te z2 <;> rw [hf] at hb <;> first|exact hb|exact hN b hb,rfl⟩⟩
        have hcl:=hc.length (n:=te.sz) (fun _ _=>PRd.length)
        have hm:(i+1)*te.sz≤n*te.sz:=wja _ hi
        rw [wua] at hm
        have h6:=hc.set (n:=te.sz) (fun _ _=>PRd.length) i u _ (by omega) h5
        rw [qKC (by rw [hy.length];exact qMb hp2) (by rw [hcl,hl];omega)] at h6
        exact ⟨by rw [wsa];exact hl,h6⟩
       ·cases e
      ·cases e
     ·cases hp
    ·cases hp
   |_=>simp [qDa] at hp
end
section
variable {w:World} {N:Bool→Nat→Prop} {K:Kn}
theorem qZq:∀{t:Ty} {x:qke t} {cs:List Value},ARd w N K t x cs→VRd w N K (qqC t x) (qhb t cs)
 | .int _,_,_,h=>by simp only [ARd] at h;subst h;rfl
 | .bool,_,_,h=>by simp only [ARd] at h;subst h;rfl
 | .str,_,_,h=>by simp only [ARd] at h;subst h;rfl
 | .arr n e,_,cs,h=>⟨cs,rfl,rfl,h⟩
 | .pair a b,_,cs,h=>⟨cs,rfl,rfl,h⟩
 | .unit,_,cs,h=>⟨cs,rfl,rfl,h⟩
 | .slice e,x,_,h=>by
   cases x with
   |pure fr xs=>
    have h':=h
    obtain ⟨A,cap,rfl,_⟩:=h
    exact h'
   |ref l off len wh=>obtain ⟨v,rfl,h⟩:=h;exact h
   |nil=>simp only [ARd] at h;subst h;rfl
   |junk=>trivial
   |lng n=>obtain ⟨A,c,rfl⟩:=h;exact ⟨A,c,rfl⟩
 | .fn,x,_,h=>by
   simp only [ARd] at h;subst h
   cases x with
   |none=>rfl
   |some f=>exact ⟨[],rfl,rfl⟩
theorem qor {t:Ty} {a:AV} {x:qke t} {v:Value} (h:VRd w N K a v) (e:qNo t a=some x):ARd w N K t x v.cells.toList∧v=qhb t v.cells.toList:=by
 cases a with
 |agg t' y=>
  simp only [qNo] at e
  split at e
  ·rename_i ht
   subst ht
   simp only [wc] at e;subst e
   obtain ⟨cs,rfl,ha,h⟩:=h
   exact ⟨by simpa [wpb] using h,by simp [qhb,ha,wpb]⟩
  ·cases e
 |bool b=>
  simp only [VRd] at h;subst h
  cases t <;> simp only [qNo] at e <;> first|(cases e;done)|(simp only [wc] at e;subst e;exact ⟨rfl,rfl⟩)
 |int k n=>
  simp only [VRd] at h;subst h
  cases t <;> simp only [qNo] at e <;> first|(cases e;done)|skip
  split at e
  ·rename_i hk
   subst hk
   simp only [wc] at e;subst e;exact ⟨rfl,rfl⟩
  ·cases e
 |str s=>
  simp only [VRd] at h;subst h
  cases t <;> simp only [qNo] at e <;> first|(cases e;done)|(simp only [wc] at e;subst e;exact ⟨rfl,rfl⟩)
 |sl e2 fr xs=>
  cases t <;> simp only [qNo] at e <;> first|(cases e;done)|skip
  split at e
  ·rename_i he
   subst he
   simp only [wc] at e;subst e
   simp only [VRd] at h
   have h':=h
   obtain ⟨A,cap,hv,_⟩:=h
   simp only [wFa,and_true] at hv
   subst hv
   exact ⟨h',rfl⟩
  ·cases e
 |nil=>
  simp only [VRd] at h;subst h
  cases t <;> simp only [qNo] at e <;> first|(cases e;done)|(simp only [wc] at e;subst e;exact ⟨rfl,rfl⟩)
 |ref e2 l off len wh=>
  cases t <;> simp only [qNo] at e <;> first|(cases e;done)|skip
  split at e
  ·rename_i he
   subst he
   simp only [wc] at e;subst e
   simp only [VRd] at h
   have hv:v.cells.toList=[v]∧v=qhb (.slice e2) [v]:=by
    obtain ⟨n,pl,_,_,_,hm⟩:=h
    cases pl with
    |none=>rw [hm.1];exact ⟨rfl,rfl⟩
    |some p=>obtain ⟨o,cap,rfl,_⟩:=hm;exact ⟨rfl,rfl⟩
   exact ⟨⟨v,hv.1,h⟩,by rw [hv.1];exact hv.2⟩
  ·cases e
 |func f caps=>
  cases caps with
  |nil=>
   cases t <;> simp only [qNo] at e <;> first|(cases e;done)|skip
   simp only [wc] at e;subst e
   obtain ⟨vs,rfl,hc⟩:=h
   simp only [capsRd] at hc;subst hc
   exact ⟨rfl,rfl⟩
  |cons _ _=>cases t <;> simp [qNo] at e
 |nilFunc=>
  simp only [VRd] at h;subst h
  cases t <;> simp only [qNo] at e <;> first|(cases e;done)|(simp only [wc] at e;subst e;exact ⟨rfl,rfl⟩)
 |_=>cases t <;> simp [qNo] at e
end
end Go.Ab

/-
  The abstract machine: one operation, a region, a run.
-/
set_option linter.unusedVariables false
namespace Go.Ab
open Go
structure COrc where
 args:List AV
 pre:List (Nat×Obj)
 ren:List (Nat×Nat)
 use:List Nat
 res:TV
 post:List (Nat×Obj)
 drop:Bool:=false
inductive Orc
 |bit (b:Bool)
 |call (c:COrc)
structure Out where
 v:TV
 upd:List (Nat×Option Obj)
 conds:List Prop
def qSH (GT:List (Nat×(Σ t,pden t))) (g:Nat):AV:=
 match lookL GT g with
 |some ⟨t,x⟩=> .rptr t false x
 |none=> .undef
def qAD:Value→AV
 | .bool b=> .bool b
 | .int k n=> .int k n
 | .string s=> .str s
 | .slice none 0 0=> .nil
 | .nilIface=> .nilIface
 | .nilFunc=> .nilFunc
 | .map none=> .nilMap
 |_=> .undef
def one (v:AV):Option Out:=some ⟨.one v,[],[]⟩
def qDj:Ty→List Value
 | .int k=>[.int k 0]
 | .bool=>[.bool false]
 | .str=>[.string wD]
 | .arr n e=>(wn n (qDj e)).flatten
 | .pair a b=>qDj a++qDj b
 | .unit=>[]
 | .slice _=>[.slice none 0 0]
 | .fn=>[.nilFunc]
def veq:Value→Value→Bool
 | .int k n, .int k' n'=>decide (k=k')&&decide (n=n')
 | .bool a, .bool b=>a==b
 | .string a, .string b=>a.size==0&&b.size==0
 | .slice none 0 0, .slice none 0 0=>true
 | .nilFunc, .nilFunc=>true
 |_,_=>false
def qYL:List Value→List Value→Bool
 |[],[]=>true
 |a::as,b::bs=>veq a b&&qYL as bs
 |_,_=>false
def qHi (P:Program) (T:TypeId) (t:Ty):Bool:=
 match P.info? T with
 |some i=>match i.zero with
  |some v=>(match v with
    | .agg _=>t.agg
    |_=>!t.agg)&&qYL v.cells.toList (qDj t)
  |none=>false
 |none=>false
def qUe (lk:qZb) (e:Ty) (x:AV):Option (Bool×List (pden e)):=
 match x with
 | .sl e' fr xs=>if h:e'=e then some (fr||e.flat,h▸xs) else none
 | .nil=>some (true,[])
 | .sln e' fr xs=>if h:e'=e then some (fr||e.flat,h▸xs) else none
 | .ref e' l off len wh=>if e'=e then match qhn lk e l with
   |some (fr,xs)=>some (fr||e.flat,seg xs off len wh)
   |none=>none
  else none
 | .bref e' l p n off len=>if e'=e then match lk l with
   |some obj=>match qon obj p with
    |some ⟨t,x⟩=>if h:t= .arr n e then some (e.flat,((h▸x:qke (.arr n e)).drop off).take len) else none
    |none=>none
   |none=>none
  else none
 | .str s=>if h:Ty.int .u8=e then some (true,h▸(qZc s:pden (.slice (.int .u8)))) else none
 |_=>none
def qJm (P:Program) (T:TypeId):Option Ty:=
 match qod P tyD T with
 |some (.slice e)=>some e
 |_=>none
def qGd (P:Program) (T:TypeId):Nat:=
 match P.underlying T with
 |some (.slice e)=>P.bytesOf e
 |_=>0
def elems (lk:qZb) (e:Ty):List AV→Option (List (pden e)×List Nat×Bool)
 |[]=>some ([],[],true)
 |v::r=>match qNo e v with
  |some x=>match qVg lk e x,elems lk e r with
   |some (u,l,f),some (us,ls,g)=>some (u::us,l++ls,f&&g)
   |_,_=>none
  |none=>none
def kill (ls:List Nat):List (Nat×Option Obj):=ls.map fun l=>(l,none)
def qoc (rs:List (Nat×Obj)):List (Nat×Option Obj):=rs.map fun p=>(p.1,some p.2)
def qup:AV→Option Int
 | .int _ n=>some n
 |_=>none
def qli (len:Nat) (low high:Option AV):Option (Nat×Nat×List Prop):=
 match low,high with
 |none,none=>some (0,len,[])
 |some l,none=>match qup l with
  |some i=>some (i.toNat,len,[0≤i,i≤(len:Int)])
  |none=>none
 |none,some h=>match qup h with
  |some j=>some (0,j.toNat,[0≤j,j≤(len:Int)])
  |none=>none
 |some l,some h=>match qup l,qup h with
  |some i,some j=>some (i.toNat,j.toNat,[0≤i,i≤j,j≤(len:Int)])
  |_,_=>none
def qNJ {α:Type} (xs:List α) (low high:Option AV):Option (List α×List Prop):=
 match low,high with
 |none,none=>some (xs,[])
 |some l,none=>match qup l with
  |some i=>some (xs.drop i.toNat,[0≤i,i≤(xs.length:Int)])
  |none=>none
 |none,some h=>match qup h with
  |some j=>some (xs.take j.toNat,[0≤j,j≤(xs.length:Int)])
  |none=>none
 |some l,some h=>match qup l,qup h with
  |some i,some j=>some ((xs.drop i.toNat).take (j.toNat - i.toNat),[0≤i,i≤j,j≤(xs.length:Int)])
  |_,_=>none
def qSl (P:Program) (T:TypeId) (x:AV) (low high:Option AV):Option (AV×List Prop):=
 match x with
 | .str s=>match qli s.size low high with
   |some (l,h,c)=>some (.str (s.extract l h),c)
   |none=>none
 | .sl e fr xs=>match qNJ xs low high with
   |some (ys,c)=>some (.sl e fr ys,c)
   |none=>none
 | .ref e l off len wh=>match low,high with
   |none,none=>some (.ref e l off len wh,[])
   |low,high=>match qli len low high with
    |some (a,b,c)=>some (.ref e l (off+a) (b - a) false,c)
    |none=>none
 | .nil=>match qli 0 low high with
   |some (_,_,c)=>some (.nil,c)
   |none=>none
 | .bref e l p n off len=>match qli len low high with
   |some (a,b,c)=>some (.bref e l p n (off+a) (b - a),c)
   |none=>none
 | .ptr (.arr n e) l p=>match qli n low high with
   |some (a,b,c)=>some (.bref e l p n a (b - a),c)
   |none=>none
 | .rptr (.arr n e) fr xs=>if e.sz != 0 then match qNJ xs low high with
   |some (ys,c)=>some (.sl e fr ys,c)
   |none=>none
  else none
 |_=>none
def qHD (len:Nat) (low:Option AV) (h m:AV):Option (Nat×Nat×List Prop):=
 match qup h,qup m with
 |some j,some k=>match low with
  |none=>some (0,j.toNat,[0≤j,j≤k,k≤(len:Int)])
  |some l=>match qup l with
   |some i=>some (i.toNat,j.toNat,[0≤i,i≤j,j≤k,k≤(len:Int)])
   |none=>none
 |_,_=>none
def qvL (lk:qZb) (P:Program) (T:TypeId) (x:AV):Option AV:=
 match x with
 | .str s=>match P.underlying T with
   |some .string=>some (.int .i64 (s.size:Int))
   |_=>none
 | .sl _ _ xs=>match P.underlying T with
   |some (.slice _)=>some (.int .i64 (xs.length:Int))
   |_=>none
 | .ref _ _ _ len _=>match P.underlying T with
   |some (.slice _)=>some (.int .i64 (len:Int))
   |_=>none
 | .bref _ _ _ _ _ len=>match P.underlying T with
   |some (.slice _)=>some (.int .i64 (len:Int))
   |_=>none
 | .cslice _ _ n=>match P.underlying T with
   |some (.slice _)=>some (.int .i64 (n:Int))
   |_=>none
 | .lng _ n=>match P.underlying T with
   |some (.slice _)=>some (.int .i64 (n:Int))
   |_=>none
 | .nil=>match P.underlying T with
   |some (.slice _)=>some (.int .i64 0)
   |_=>none
 | .nilMap=>match P.underlying T with
   |some (.map _ _)=>some (.int .i64 0)
   |_=>none
 | .mapr l=>match P.underlying T with
   |some (.map _ _)=>match lk l with
    |some (.map _ _ es)=>some (.int .i64 (es.length:Int))
    |_=>none
   |_=>none
 | .agg (.arr n _) _=>match P.underlying T with
   |some (.array m _)=>if m=n then some (.int .i64 (n:Int)) else none
   |_=>none
 |_=>none
def qDp (x:AV) (i:Int):Option (AV×List Prop):=
 match x with
 | .ref e l off len _=>some (.ptr e l [.idx (off+i.toNat)],[0≤i,i<(len:Int)])
 | .sl e fr xs=>some (.rptr e fr (xs.getD i.toNat (qua e)),[0≤i,i<(xs.length:Int)])
 | .bref e l p n off len=>some (.ptr e l (p++[.idx (off+i.toNat)]),[0≤i,i<(len:Int)])
 | .ptr (.arr n e) l p=>some (.ptr e l (p++[.idx i.toNat]),[0≤i,i<(n:Int)])
 | .cslice e l n=>some (.ptr (.slice e) l (qXa i.toNat),[0≤i,i<(n:Int)])
 | .rptr (.arr n e) fr xs=>some (.rptr e fr (xs.getD i.toNat (qua e)),[0≤i,i<(n:Int)])
 |_=>none
def qEf:(t:Ty)→pden t→Nat→Option (Σ t',pden t')
 | .pair a _,x,0=>some ⟨a,x.1⟩
 | .pair _ b,x,n+1=>qEf b x.2 n
 |_,_,_=>none
def qHp (x:AV) (i:Nat):Option AV:=
 match x with
 | .ptr t l p=>match qDa t (qXa i) with
   |some (_,ty)=>if ty.sz != 0 then some (.ptr ty l (p++qXa i)) else none
   |none=>none
 | .rptr t fr x=>match qEf t x i with
   |some ⟨ty,y⟩=>if ty.sz != 0 then some (.rptr ty fr y) else none
   |none=>none
 |_=>none
def qAK (lk:qZb) (x:AV):Option (Ty×AV):=
 match x with
 | .ptr t l p=>match lk l with
   |some obj=>match qon obj p with
    |some ⟨t',y⟩=>if t'=t then some (t,qqC t' y) else none
    |none=>none
   |none=>none
 | .rptr t fr x=>some (t,qqC t (inj fr t x))
 |_=>none
def qwb {α:Type} (xs:List α) (o:Nat) (ys:List α):List α:=xs.take o++ys++xs.drop (o+ys.length)
def qDi (lk:qZb) (e:Ty) (s:AV) (fr:Bool) (ys:List (pden e)) (nl:Nat) (bytes:Nat):Option Out:=
 match s with
 | .nil=>some ⟨.one (.ref e nl 0 ys.length true),[(nl,some (.row e fr ys))],[ys.length*bytes≤140737488355328]⟩
 | .ref e' l off len wh=>if e'=e then match qhn lk e l with
   |some (fr',xs)=>let zs:=seg xs off len wh
    some ⟨.one (.ref e nl 0 (zs++ys).length true),[(l,none),(nl,some (.row e (fr'&&fr) (zs++ys)))],[(zs++ys).length*bytes≤140737488355328]⟩
   |none=>none
  else none
 |_=>none
def qgI (lk:qZb) (e:Ty) (s x:AV) (nl bytes:Nat):Option Out:=
 match x with
 | .ref e2 l2 _ _ true=>match lk l2 with
   |some (.fam e1 [y])=>if he:e= .slice e1 then (match s with
     | .ref e3 l _ _ true=>match lk l with
       |some (.fam e0 xss)=>if h:e0=e1 then (if e3=e∧e2=e∧l≠l2 then
         some ⟨.one (.ref e nl 0 ((h▸xss:List (List (pden e1)))++[y]).length true),[(l,none),(l2,none),(nl,some (.fam e1 ((h▸xss:List (List (pden e1)))++[y])))],[((h▸xss:List (List (pden e1)))++[y]).length*bytes≤140737488355328]⟩
        else none) else none
       |_=>none
     |_=>none) else none
   |_=>none
 |_=>none
def qRy:(e:Ty)→Nat→Obj
 | .slice .bool,n=> .fam .bool (wn n [])
 |e,n=> .row e true (wn n (qua e))
def qjD (lk:qZb) (e:Ty) (s x:AV) (nl bytes:Nat):Option Out:=
 match x with
 | .ref e2 l2 _ _ true=>match lk l2 with
   |some (.famS a1 e1 [y])=>match s with
    | .ref e3 l _ _ true=>match lk l with
      |some (.famS a0 e0 xs)=>if h:a0=a1∧e0=e1 then (if e=qQp a1 e1∧e3=e∧e2=e∧l≠l2 then
        some ⟨.one (.ref e nl 0 ((h.1▸h.2▸xs:List (pden a1×List (pden e1)))++[y]).length true),[(l,none),(l2,none),(nl,some (.famS a1 e1 ((h.1▸h.2▸xs:List (pden a1×List (pden e1)))++[y])))],[((h.1▸h.2▸xs:List (pden a1×List (pden e1)))++[y]).length*bytes≤140737488355328]⟩
       else none) else none
      |_=>none
    |_=>none
   |_=>none
 |_=>none
def qjz (lk:qZb) (e:Ty) (s x:AV) (nl bytes:Nat):Option Out:=
 match x with
 | .ref e2 l2 _ _ true=>match lk l2 with
   |some (.famS a1 e1 ys)=>if he:e=qQp a1 e1 then (if e2=e then
     match qDi (fun l=>if l=l2 then none else lk l) e s true (he▸(qxi ys:List (pden (qQp a1 e1)))) nl bytes with
     |some o=>some {o with upd:=o.upd++[(l2,none)]}
     |none=>none
    else none) else none
   |_=>none
 |_=>none
def qlD (lk:qZb) (e:Ty) (s x:AV) (nl bytes:Nat):Option Out:=
 match x with
 | .ref e2 l2 _ _ true=>match lk l2 with
   |some (.fam e1 ys)=>if he:e= .slice e1 then (if e2=e then
     match qDi (fun l=>if l=l2 then none else lk l) e s true (he▸(ys:List (pden (.slice e1)))) nl bytes with
     |some o=>some {o with upd:=o.upd++[(l2,none)]}
     |none=>none
    else none) else none
   |_=>none
 |_=>none
def qSJ (P:Program) (T:TypeId) (e:Ty):Bool:=
 match P.underlying T with
 |some (.slice E)=>qHi P E e&&decide (0<P.bytesOf E)&&decide (0<e.sz)
 |_=>false
def qJd (P:Program) (lk:qZb) (nl:Nat) (b:Builtin) (argTypes:List TypeId) (args:List AV):Option Out:=
 match b,argTypes,args with
 | .cap,[T],[.nil]=>match P.underlying T with
   |some (.slice _)=>one (.int .i64 0)
   |_=>none
 | .len,[T],[x]=>match qvL lk P T x with
   |some v=>one v
   |none=>none
 | .append,[T,T2],[s,x]=>match qJm P T with
   |some e=>if qSJ P T e then match P.underlying T2 with
     |some (.int _)=>match qup x with
      |some n=>match qDi lk e s true (wn n.toNat (qua e)) nl (qGd P T) with
       |some o=>some {o with conds:=(0≤n)::(n*(qGd P T:Int)≤140737488355328)::(n≤9223372036854775807)::o.conds}
       |none=>none
      |none=>none
     |some (.slice _)=>match x with
      | .str _=>none
      |x=>match qgI lk e s x nl (qGd P T) with
       |some o=>some o
       |none=>match qjD lk e s x nl (qGd P T) with
       |some o=>some o
       |none=>match qjz lk e s x nl (qGd P T) with
       |some o=>some o
       |none=>match qlD lk e s x nl (qGd P T) with
        |some o=>some o
        |none=>match qUe lk e x with
         |some (fr,ys)=>qDi lk e s fr ys nl (qGd P T)
         |none=>none
     |some .string=>match x with
      | .str s'=>match qUe lk e (.str s') with
        |some (fr,ys)=>qDi lk e s fr ys nl (qGd P T)
        |none=>none
      |_=>none
     |_=>none
    else none
   |none=>none
 | .copy,[T,_],[d,x]=>match qJm P T with
   |some e=>match qUe lk e x with
    |some (fr,ys)=>match d with
     | .ref e' l off len wh=>if e'=e then match qhn lk e l with
       |some (fr',xs)=>let n:=min ys.length len
        some ⟨.one (.int .i64 (n:Int)),[(l,some (.row e (fr'&&fr) (qwb xs off (ys.take n))))],[]⟩
       |none=>none
      else none
     | .bref e' l p m off len=>if e'=e then match lk l with
       |some obj=>match qon obj p with
        |some ⟨t,y⟩=>if h:t= .arr m e then
          let n:=min ys.length len
          match qJh obj p (.arr m e) (qwb (h▸y:qke (.arr m e)) off (ys.take n)) with
          |some obj'=>some ⟨.one (.int .i64 (n:Int)),[(l,some obj')],[]⟩
          |none=>none
         else none
        |none=>none
       |none=>none
      else none
     | .nil=>one (.int .i64 0)
     |_=>none
    |none=>none
   |none=>none
 | .clear,[T],[.mapr l]=>match P.underlying T with
   |some (.map _ _)=>match lk l with
    |some (.map k v _)=>some ⟨.tup [],[(l,some (.map k v []))],[]⟩
    |_=>none
   |_=>none
 | .clear,[T],[.ref e l off n wh]=>match P.underlying T with
   |some (.slice E)=>if qJm P T=some e∧qHi P E e=true then match qhn lk e l with
     |some (fr,xs)=>some ⟨.tup [],[(l,some (.row e fr (qwb xs off (wn n (qua e)))))],[]⟩
     |none=>none
    else none
   |_=>none
 | .close,[_],[.chan l]=>match lk l with
   |some (.chan e fr cap xs false)=>some ⟨.tup [],[(l,some (.chan e fr cap xs true))],[]⟩
   |_=>none
 | .min,_,[.int k a, .int k' b]=>if k=k' then one (.int k (if b<a then b else a)) else none
 | .max,_,[.int k a, .int k' b]=>if k=k' then one (.int k (if b>a then b else a)) else none
 |_,_,_=>none
def qyI (P:Program) (lk:qZb) (nl:Nat) (src dst:TypeId) (x:AV):Option Out:=
 match P.underlying dst,x with
 |some (.int k), .int _ n=>if (P.underlying src).isSome then one (.int k (k.wrap n)) else none
 |some .string, .str s=>if (P.underlying src).isSome then one (.str s) else none
 |some .string,x=>match P.underlying src with
  |some (.slice e)=>match P.underlying e with
   |some (.int .u8)=>match qUe lk (.int .u8) x with
    |some (_,xs)=>one (.str (qFk xs))
    |none=>none
   |_=>none
  |_=>none
 |some (.slice e), .str s=>match P.underlying src,P.underlying e with
  |some _,some (.int .u8)=>one (.sl (.int .u8) true (qZc s))
  |_,_=>none
 |some (.slice e), .ref (.int .u8) l off len wh=>if src=dst then match P.underlying e with
   |some (.int .u8)=>match qhn lk (.int .u8) l with
    |some (fr,xs)=>some ⟨.one (.sl (.int .u8) true (seg xs off len wh)),[(l,none)],[0<len]⟩
    |none=>none
   |_=>none
  else none
 |_,_=>none
def qUs:(t:Ty)→qke t→List Nat
 | .pair a b,x=>qUs a x.1++qUs b x.2
 | .slice _,v=>match v with
   | .ref l _ _ _=>[l]
   |_=>[]
 |_,_=>[]
def qNh:AV→List Nat
 | .agg t x=>qUs t x
 | .ref _ l _ _ _=>[l]
 | .bref _ l _ _ _ _=>[l]
 | .ptr _ l _=>[l]
 | .ifp _ _ l _=>[l]
 | .cslice _ l _=>[l]
 | .cptr l=>[l]
 | .func _ caps=>caps
 | .mapr l=>[l]
 | .chan l=>[l]
 |_=>[]
def qtl:TV→List Nat
 | .one v=>qNh v
 | .tup vs=>vs.flatMap qNh
def qAp:Obj→List Nat
 | .box t x=>qUs t x
 | .cell v=>qNh v
 |_=>[]
def qnM {α:Type} (f:Nat→Nat):SV α→SV α
 | .ref l off len wh=> .ref (f l) off len wh
 |v=>v
def qpK (f:Nat→Nat):(t:Ty)→qke t→qke t
 | .pair a b,x=>(qpK f a x.1,qpK f b x.2)
 | .slice _,x=>qnM f x
 | .int _,x=>x
 | .bool,x=>x
 | .str,x=>x
 | .arr _ _,x=>x
 | .unit,x=>x
 | .fn,x=>x
def qRx (f:Nat→Nat):AV→AV
 | .agg t x=> .agg t (qpK f t x)
 | .ref e l off len wh=> .ref e (f l) off len wh
 | .bref e l p n off len=> .bref e (f l) p n off len
 | .ptr t l p=> .ptr t (f l) p
 | .ifp T t l p=> .ifp T t (f l) p
 | .cslice e l n=> .cslice e (f l) n
 | .cptr l=> .cptr (f l)
 | .func g caps=> .func g (caps.map f)
 | .mapr l=> .mapr (f l)
 | .chan l=> .chan (f l)
 |v=>v
def qaM (f:Nat→Nat):TV→TV
 | .one v=> .one (qRx f v)
 | .tup vs=> .tup (vs.map (qRx f))
def qAF (f:Nat→Nat):Obj→Obj
 | .box t x=> .box t (qpK f t x)
 | .cell v=> .cell (qRx f v)
 |o=>o
def frA:(t:Ty)→qke t→Bool
 | .pair a b,x=>frA a x.1&&frA b x.2
 | .slice _,v=>match v with
   | .pure fr _=>fr
   |_=>true
 | .arr _ e,_=>e.flat
 |_,_=>true
def frV:AV→Bool
 | .agg t x=>frA t x
 | .sl _ fr _=>fr
 | .rptr _ fr _=>fr
 | .sln _ fr _=>fr
 |_=>true
def frT:TV→Bool
 | .one v=>frV v
 | .tup vs=>vs.all frV
def frO:Obj→Bool
 | .row e fr _=>fr||e.flat
 | .box t x=>frA t x
 | .cell v=>frV v
 | .map _ _ _=>true
 | .fam _ _=>true
 | .famS _ _ _=>true
 | .chan e fr _ _ _=>fr||e.flat
abbrev qTg:=List (Nat×(Σ t,pden t))
structure St where
 tmps:List (Nat×TV)
 heap:List (Nat×Option Obj)
 next:Nat
def St.look (σ:St) (t:Nat):TV:=
 match lookL σ.tmps t with
 |some v=>v
 |none=> .one .undef
def qib (h:List (Nat×Option Obj)):qZb:=fun l=>
 match lookL h l with
 |some o=>o
 |none=>none
def evT (GT:qTg) (T:Nat→TV):Operand→TV
 | .tmp t=>T t
 | .const v=> .one (qAD v)
 | .global g=> .one (qSH GT g)
 | .func f=> .one (.func f [])
def evO (GT:qTg) (σ:St):Operand→TV:=evT GT σ.look
def keepT (ts:List Nat) (T:Nat→TV):Nat→TV:=fun t=>if ts.contains t then T t else .one .undef
def ev1 (ev:Operand→TV) (x:Operand):Option AV:=
 match ev x with
 | .one v=>some v
 |_=>none
def evs (ev:Operand→TV):List Operand→Option (List AV)
 |[]=>some []
 |x::r=>match ev1 ev x,evs ev r with
  |some v,some vs=>some (v::vs)
  |_,_=>none
def qUF (ev:Operand→TV):Option Operand→Option (Option AV)
 |none=>some none
 |some x=>match ev1 ev x with
  |some v=>some (some v)
  |none=>none
def qSC (ev:Operand→TV):Op→List Nat
 | .load _ a=>qtl (ev a)
 | .store _ a x=>qtl (ev a)++qtl (ev x)
 | .buildSlice _ _ ps=>ps.toList.flatMap fun p=>qtl (ev p.2)
 | .convert _ _ x=>qtl (ev x)
 | .call {callee:= .builtin .len,args, .. }=>args.toList.flatMap fun x=>match ev x with
   | .one (.mapr l)=>[l]
   |_=>[]
 | .call {callee:= .value f,args, .. }=>qtl (ev f)++args.toList.flatMap fun x=>qtl (ev x)
 | .call c=>c.args.toList.flatMap fun x=>qtl (ev x)
 | .lookup _ m _ _=>qtl (ev m)
 | .mapUpdate _ m _ _=>qtl (ev m)
 |_=>[]
def qCu:List (Nat×Operand)→Nat→Bool
 |[],_=>true
 |p::r,n=>p.1==n&&qCu r (n+1)
def qim (ev:Operand→TV):List (Nat×Operand)→Option (List (Nat×AV))
 |[]=>some []
 |p::r=>match ev1 ev p.2,qim ev r with
  |some v,some vs=>some ((p.1,v)::vs)
  |_,_=>none
def qRB:AV→Bool
 | .mapr _| .nilMap| .func _ _| .nilFunc| .errno _ _ _| .nilIface| .ptr _ _ _| .cptr _=>true
 |_=>false
def qPM:AV→Bool
 | .func _ (_::_)=>true
 |_=>false
def qVq (nl:Nat) (ren:List (Nat×Nat)) (k:Nat):Nat:=match lookL ren k with
 |some l=>l
 |none=>nl+(k - 8)
def qqp:List Nat→Bool
 |[]=>true
 |x::r=>!r.contains x&&qqp r
def qYr (ks:List Nat) (ls:List Nat):Bool:=ls.all ks.contains
def qOd:List (Nat×Nat)→Nat→Option Nat
 |[],_=>none
 |(n,o)::r,l=>if o=l then some n else qOd r l
def qie (lk:qZb) (ren:List (Nat×Nat)) (lo:Bool):(t:Ty)→qke t→Option (qke t)
 | .pair a b,x=>match qie lk ren lo a x.1,qie lk ren lo b x.2 with
   |some u,some v=>some (u,v)
   |_,_=>none
 | .slice e,v=>match v with
   | .pure fr xs=>some (.pure (fr&&!lo) xs)
   | .ref l off len wh=>match qOd ren l with
     |some n=>if wh then match qjt lk e l with
       |some (_,xs)=>some (.ref n 0 xs.length true)
       |none=>none
      else some (.ref n off len wh)
     |none=>match qjt lk e l with
      |some (fr,xs)=>some (.pure ((fr||e.flat)&&!lo) (seg xs off len wh))
      |none=>none
   | .nil=>some .nil
   | .junk=>some .junk
   | .lng n=>some (.lng n)
 | .int _,x=>some x
 | .bool,x=>some x
 | .str,x=>some x
 | .arr _ _,x=>some x
 | .unit,x=>some x
 | .fn,x=>some x
def qOu (ren:List (Nat×Nat)):List Nat→Option (List Nat)
 |[]=>some []
 |l::r=>match qOd ren l,qOu ren r with
  |some n,some ns=>some (n::ns)
  |_,_=>none
def qKf (lk:qZb) (ren:List (Nat×Nat)) (lo:Bool) (v:AV):Option AV:=
 match v with
 | .agg t x=>match qie lk ren lo t x with
   |some y=>some (.agg t y)
   |none=>none
 | .sl e fr xs=>some (.sl e (fr&&!lo) xs)
 | .ref e l off len wh=>match qOd ren l with
   |some n=>if wh then match qjt lk e l with
     |some (_,xs)=>some (.ref e n 0 xs.length true)
     |none=>none
    else some (.ref e n off len wh)
   |none=>match qjt lk e l with
    |some (fr,xs)=>some (.sl e ((fr||e.flat)&&!lo) (seg xs off len wh))
    |none=>none
 | .bref e l p n off len=>match qOd ren l with
   |some l'=>some (.bref e l' p n off len)
   |none=>match qUe lk e (.bref e l p n off len) with
    |some (fr,xs)=>some (.sl e (fr&&!lo) xs)
    |none=>none
 | .ptr t l p=>match qOd ren l with
   |some l'=>some (.ptr t l' p)
   |none=>none
 | .ifp T t l p=>match qOd ren l with
   |some l'=>some (.ifp T t l' p)
   |none=>none
 | .cslice e l n=>match qOd ren l with
   |some l'=>some (.cslice e l' n)
   |none=>none
 | .cptr l=>match qOd ren l with
   |some l'=>some (.cptr l')
   |none=>none
 | .mapr l=>match qOd ren l with
   |some l'=>some (.mapr l')
   |none=>none
 | .chan l=>match qOd ren l with
   |some l'=>some (.chan l')
   |none=>none
 | .func f caps=>match qOu ren caps with
   |some cs=>some (.func f cs)
   |none=>none
 | .rptr t fr x=>some (.rptr t (fr&&!lo) x)
 | .undef=>some .undef
 | .bool b=>some (.bool b)
 | .int k n=>some (.int k n)
 | .str s=>some (.str s)
 | .nil=>some .nil
 | .nilFunc=>some .nilFunc
 | .errno t k n=>some (.errno t k n)
 | .nilIface=>some .nilIface
 | .nilMap=>some .nilMap
 | .lng e n=>some (.lng e n)
 | .gone=>some .gone
 | .eri t k x=>some (.eri t k x)
 | .sln e fr xs=>some (.sl e (fr&&!lo) xs)
def qee (lk:qZb) (ren:List (Nat×Nat)) (lo:Bool):List AV→Option (List AV)
 |[]=>some []
 |v::r=>match qKf lk ren lo v,qee lk ren lo r with
  |some u,some us=>some (u::us)
  |_,_=>none
def qSo (lk:qZb) (ren:List (Nat×Nat)) (lo:Bool):TV→Option TV
 | .one v=>match qKf lk ren lo v with
   |some u=>some (.one u)
   |none=>none
 | .tup vs=>match qee lk ren lo vs with
   |some us=>some (.tup us)
   |none=>none
def qPk (lk:qZb) (ren:List (Nat×Nat)) (lo:Bool):Obj→Option Obj
 | .row e fr xs=>some (.row e (fr&&!lo) xs)
 | .box t x=>match qie lk ren lo t x with
   |some y=>some (.box t y)
   |none=>none
 | .cell v=>match qKf lk ren lo v with
   |some u=>some (.cell u)
   |none=>none
 | .map k v es=>some (.map k v es)
 | .fam e xss=>some (.fam e xss)
 | .famS a e xs=>some (.famS a e xs)
 | .chan e fr cap xs cl=>some (.chan e (fr&&!lo) cap xs cl)
def qgB (σ:St) (ren:List (Nat×Nat)) (lo:Bool):List Nat→Option (List (Nat×TV))
 |[]=>some []
 |t::r=>match qSo (qib σ.heap) ren lo (σ.look t),qgB σ ren lo r with
  |some v,some vs=>some ((t,v)::vs)
  |_,_=>none
def qWc (lk:qZb) (ren:List (Nat×Nat)) (lo:Bool):List (Nat×Nat)→Option (List (Nat×Option Obj))
 |[]=>some []
 |p::r=>match lk p.2,qWc lk ren lo r with
  |some o,some os=>match qPk lk ren lo o with
   |some o'=>some ((p.1,some o')::os)
   |none=>none
  |_,_=>none
def qzF (ren:List (Nat×Nat)) (nx:Nat):Bool:=
 qqp (ren.map (·.1))&&qqp (ren.map (·.2))&&ren.all (fun p=>decide (p.1<nx)&&(decide (8≤p.1∧8≤p.2)||p.1==p.2))&&decide (8≤nx)
def St.keep (σ:St) (ts:List Nat) (ren:List (Nat×Nat)) (nx:Nat) (lo:Bool):Option St:=
 if qzF ren nx then match qgB σ ren lo ts,qWc (qib σ.heap) ren lo ren with
  |some t,some h=>some ⟨t,h,nx⟩
  |_,_=>none
 else none
def qJu (P:Program):List TypeId→List AV→List AV
 |T::ts,v::r=>(match v with
  | .nil=>match qod P tyD T with
    |some (.slice e)=> .sl e false []
    |_=> .nil
  |v=>v)::qJu P ts r
 |[],vs=>vs
 |_,[]=>[]
def qWj (P:Program) (f:Nat):List TypeId:=match P.funcs[f]? with
 |some fn=>fn.params.toList
 |none=>[]
def qZB (lk:qZb) (vs:List AV) (ren:List (Nat×Nat)):Bool:=
 let sn:=ren.map (·.2)
 qYr sn (vs.flatMap qNh)&&ren.all fun q=>match lk q.2 with
  |some o=>qYr sn (qAp o)
  |none=>false
def qRK (lk:qZb) (vs:List AV) (c:COrc):Bool:=
 let pk:=c.pre.map (·.1)
 let qk:=c.post.map (·.1)
 (c.ren.map (·.1)==pk)&&qqp pk&&qqp (c.ren.map (·.2))&&qqp qk&&
 qYr pk (c.args.flatMap qNh)&&qYr pk (c.pre.flatMap fun p=>qAp p.2)&&
 qYr qk (qtl c.res)&&qYr qk (c.post.flatMap fun p=>qAp p.2)&&
 (qk.all fun k=>pk.contains k||decide (8≤k∧k<16))&&
 ((frT c.res&&c.post.all fun p=>frO p.2)||qZB lk vs c.ren||c.drop)
def qjh (lk:qZb) (vs:List AV) (c:COrc):List Nat:=
 if c.drop then (vs.flatMap qNh++c.ren.flatMap fun q=>match lk q.2 with
  |some o=>qAp o
  |none=>[]).filter fun l=>!(c.ren.map (·.2)).contains l else []
def qfw (P:Program) (GT:qTg) (lk:qZb) (nl:Nat) (f:Nat) (vs:List AV) (c:COrc):Option Out:=
 let rn:=qVq nl c.ren
 match qee lk c.ren true vs,qWc lk c.ren true c.ren with
 |some pv,some hl=>if qRK lk vs c then
   some ⟨qaM rn c.res,((c.post.map fun p=>(rn p.1,some (qAF rn p.2)))++kill ((c.ren.filter fun q=>!(c.post.map (·.1)).contains q.1).map (·.2)))++kill (qjh lk vs c),[c.args=qJu P (qWj P f) pv∨c.args=pv,hl=qoc c.pre,CallOK P GT f c.args c.pre c.res c.post]⟩
  else none
 |_,_=>none
def qMq (lk:qZb):List Nat→Option (List AV)
 |[]=>some []
 |l::r=>match lk l,qMq lk r with
  |some (.box t _),some vs=>some (.ptr t l []::vs)
  |some (.cell _),some vs=>some (.cptr l::vs)
  |_,_=>none
def qOy (nl:Nat) (t:Ty) (x:qke t):Option Out:=
 let m:=qNk t x (nl+1)
 if m.2.2≤nl+8 then some ⟨.one (.ptr t nl []),(nl,some (.box t m.1))::qoc m.2.1,[]⟩ else none
def qHM (P:Program) (T:TypeId):AV→Bool
 | .ptr t _ _=>decide (qod P tyD T=some t)
 | .rptr t _ _=>decide (qod P tyD T=some t)
 |_=>false
def qfx (P:Program) (T:TypeId):AV→Bool
 | .ref e _ _ _ _=>decide (qod P tyD T=some (.slice e))
 | .sl e _ _=>decide (qod P tyD T=some (.slice e))
 | .bref e _ _ _ _ _=>decide (qod P tyD T=some (.slice e))
 | .cslice e _ _=>decide (qod P tyD T=some (.slice (.slice e)))
 | .ptr t _ _=>decide (qod P tyD T=some t)
 | .rptr t _ _=>decide (qod P tyD T=some t)
 |_=>false
def qqB (P:Program) (T:TypeId):AV→Bool
 | .nil=>match qod P tyD T with
   |some (.slice _)=>true
   |_=>false
 | .str _=>match P.underlying T with
   |some .string=>true
   |_=>false
 |v=>qfx P T v
def qwK (P:Program) (T:TypeId):Bool:=match P.underlying T with
 |some (.struct _)=>false
 |some (.array _ _)=>false
 |none=>false
 |_=>true
def qSy (P:Program) (lk:qZb) (T:TypeId) (x:AV):Option AV:=
 match x with
 | .cptr l=>match lk l with
   |some (.cell v)=>if qwK P T then some v else none
   |_=>none
 |x=>match qAK lk x with
  |some (t,v)=>if qod P tyD T=some t then some v else none
  |none=>none
def qkD (P:Program) (lk:qZb) (T:TypeId) (x:AV):Option Out:=
 match x with
 | .ptr (.slice e) l [.idx i]=>match lk l with
   |some (.fam e' xss)=>if e'=e∧qod P tyD T=some (.slice e) then some ⟨.one (.bref e l [.idx i] (xss.getD i []).length 0 (xss.getD i []).length),[],[0<(xss.getD i []).length]⟩ else none
   |_=>none
 |_=>none
def qiz (P:Program) (lk:qZb) (T:TypeId) (x:AV):Option Out:=
 match x with
 | .ptr (.slice e) l [.idx i, .snd, .fst]=>match lk l with
   |some (.famS a e' xs)=>if e'=e∧qod P tyD T=some (.slice e) then some ⟨.one (.bref e l [.idx i, .snd, .fst] (xs.getD i (qua a,[])).2.length 0 (xs.getD i (qua a,[])).2.length),[],[0<(xs.getD i (qua a,[])).2.length]⟩ else none
   |_=>none
 |_=>none
def qlz (lk:qZb) (e:Ty) (nl:Nat):List AV→Option Out
 |[.ref e' l _ _ true]=>if e= .slice e'∧e'.flat=true then match qhn lk e' l with
   |some (_,xs)=>some ⟨.one (.ref e nl 0 1 true),[(l,none),(nl,some (.fam e' [xs]))],[]⟩
   |none=>none
  else none
 |_=>none
def qKv (lk:qZb) (e:Ty) (nl:Nat):List AV→Option Out
 |[.agg (.pair .str (.pair (.slice e') .unit)) x]=>if e=qQp .str e'∧e'.flat=true then match x.2.1 with
   | .ref l _ _ true=>match qhn lk e' l with
     |some (_,xs)=>some ⟨.one (.ref e nl 0 1 true),[(l,none),(nl,some (.famS .str e' [(x.1,xs)]))],[]⟩
     |none=>none
   |_=>none
  else none
 |_=>none
def qPz (e:Ty):(as:List AV)→Option (qke (qLG e as.length))
 |[]=>some ()
 | .ref e' l off len wh::r=>if e'=e then match qPz e r with
   |some x=>some ((.ref l off len wh:qke (.slice e)),x)
   |none=>none
  else none
 |_=>none
def qQz (e:Ty) (nl:Nat) (as:List AV):Option Out:=
 match e with
 | .slice e'=>if 4≤as.length then match qPz e' as with
   |some x=>some ⟨.one (.cslice e' nl as.length),[(nl,some (.box (qLG e' as.length) x))],[]⟩
   |none=>none
  else none
 |_=>none
def qMF (P:Program) (T:TypeId):Option (Ty×Ty):=
 match P.underlying T with
 |some (.map K E)=>match qod P tyD K,qod P tyD E with
  |some k,some v=>if qyf k&&qhI P tyD K&&k.flat&&v.flat&&qHi P E v then some (k,v) else none
  |_,_=>none
 |_=>none
def qkv (k:Ty) (x:AV):Option (pden k):=
 match qNo k x with
 |some y=>unj k y
 |none=>none
def qDJ (lk:qZb) (k v:Ty) (x:AV):Option (List (pden k×pden v)):=
 match x with
 | .mapr l=>match lk l with
   |some (.map k' v' es)=>if h:k'=k∧v'=v then some (h.1▸h.2▸es) else none
   |_=>none
 | .nilMap=>some []
 |_=>none
def qyH (P:Program) (T:TypeId):Bool:=match P.info? T with
 |some i=>match i.zero with
  |some (.map none)=>true
  |_=>false
 |none=>false
def qRr:List AV→Option (List Nat)
 |[]=>some []
 | .ptr _ l []::r=>match qRr r with
   |some ls=>some (l::ls)
   |none=>none
 | .cptr l::r=>match qRr r with
   |some ls=>some (l::ls)
   |none=>none
 |_=>none
def qyt (P:Program) (T:TypeId):Option (Ty×TypeId):=
 match P.underlying T with
 |some (.chan _ E)=>match qod P tyD E with
  |some e=>some (e,E)
  |none=>none
 |_=>none
def qGb (P:Program) (GT:qTg) (ev:Operand→TV) (lk:qZb) (nl:Nat) (orc:Option COrc) (ty:TypeId) (op:Op):Option Out:=
 match op with
 | .move x=>some ⟨ev x,[],[]⟩
 | .assign x=>match ev x with
   | .one .nil=>match qod P tyD ty with
     |some (.slice e)=>some ⟨.one (.ref e nl 0 0 true),[(nl,some (.row e true []))],[]⟩
     |_=>some ⟨.one .nil,[],[]⟩
   |v=>some ⟨v,[],[]⟩
 | .pick c a b=>match ev1 ev c with
   |some (.bool true)=>some ⟨ev a,[],[]⟩
   |some (.bool false)=>some ⟨ev b,[],[]⟩
   |_=>none
 | .alloc T=>match qod P tyD T with
   |some .fn=>if qHi P T .fn then some ⟨.one (.cptr nl),[(nl,some (.cell .nilFunc))],[]⟩ else none
   |some t=>if qHi P T t then qOy nl t (qrG t) else none
   |none=>if qyH P T then some ⟨.one (.cptr nl),[(nl,some (.cell .nilMap))],[]⟩ else none
 | .box T x=>match ev1 ev x with
   |some v=>match qod P tyD T with
    |some t=>match qNo t v with
     |some y=>qOy nl t y
     |none=>if qPM v then some ⟨.one (.cptr nl),[(nl,some (.cell v))],[]⟩ else none
    |none=>if qRB v then some ⟨.one (.cptr nl),[(nl,some (.cell v))],[]⟩ else none
   |none=>none
 | .build T ps=>match qod P tyD T,qim ev ps.toList with
   |some t,some vs=>if qHi P T t&&t.agg then match qEl t (qrG t) vs with
     |some x=>one (.agg t x)
     |none=>none
    else none
   |_,_=>none
 | .buildSlice T n ps=>match qJm P T,qim ev ps.toList with
   |some e,some vs=>if qCu ps.toList 0&&decide (ps.size=n)&&decide (n*e.sz≤16777216)&&decide (0<e.sz) then
     match P.underlying T with
     |some (.slice E)=>if qHi P E e then match qlz lk e nl (vs.map (·.2)) with
       |some o=>some o
       |none=>match qKv lk e nl (vs.map (·.2)) with
       |some o=>some o
       |none=>match qQz e nl (vs.map (·.2)) with
       |some o=>some o
       |none=>match elems lk e (vs.map (·.2)) with
        |some (us,ls,fr)=>some ⟨.one (.ref e nl 0 us.length true),(nl,some (.row e fr us))::kill ls,[]⟩
        |none=>none
      else none
     |_=>none
    else none
   |_,_=>none
 | .load T a=>match ev1 ev a with
   |some x=>match qkD P lk T x with
    |some o=>some o
    |none=>match qiz P lk T x with
    |some o=>some o
    |none=>match qSy P lk T x with
     |some v=>one v
     |none=>none
   |none=>none
 | .store T a x=>match ev1 ev a,ev1 ev x with
   |some (.ptr t l p),some v=>if qod P tyD T=some t then match qNo t v with
     |some y=>match lk l with
      |some obj=>
       let m:=qNk t y nl
       match qJh obj p t m.1 with
       |some obj'=>if m.2.2≤nl+8 then some ⟨.one .undef,(l,some obj')::qoc m.2.1,[]⟩ else none
       |none=>match qVg lk t y with
        |some (u,ls,fr)=>match qJh obj p t (inj fr t u) with
         |some obj'=>if ls.contains l then none else some ⟨.one .undef,(l,some obj')::kill ls,[]⟩
         |none=>none
        |none=>none
      |none=>none
     |none=>none
    else none
   |some (.cptr l),some v=>match lk l with
    |some (.cell _)=>if qRB v&&P.cellsOf T==1&&(P.underlying T).isSome then some ⟨.one .undef,[(l,some (.cell v))],[]⟩ else none
    |_=>none
   |_,_=>none
 | .binOp op T x y _=>match ev1 ev x,ev1 ev y with
   |some a,some b=>if qDL a y then match qcl P op T a b with
     |some (v,c)=>some ⟨.one v,[],c⟩
     |none=>none
    else none
   |_,_=>none
 | .unOp op _ x=>match ev1 ev x with
   |some a=>match qWN op a with
    |some v=>one v
    |none=>none
   |none=>none
 | .convert s d x=>match ev1 ev x with
   |some v=>qyI P lk nl s d v
   |none=>none
 | .makeInterface T x=>match ev1 ev x with
   |some (.int k n)=>match P.underlying T with
    |some (.int _)=>one (.errno T k n)
    |_=>none
   |some (.ptr t l p)=>match P.underlying T with
    |some (.pointer _)=>one (.ifp T t l p)
    |_=>none
   |_=>none
 | .makeFunc (.func f) first caps=>match first.toList,evs ev caps.toList with
   |[],some vs=>match qRr vs with
    |some ls=>one (.func f ls)
    |none=>none
   |_,_=>none
 | .extract x i=>match ev x with
   | .tup vs=>match vs[i]? with
     |some v=>one v
     |none=>none
   |_=>none
 | .fieldAddr T x i=>match ev1 ev x with
   |some v=>if qHM P T v then match qHp v i with
      |some r=>one r
      |none=>none
     else none
   |none=>none
 | .field T x i=>match ev1 ev x with
   |some (.agg t y)=>if qod P tyD T=some t then match qcA t y (qXa i) with
     |some ⟨t',z⟩=>one (qqC t' z)
     |none=>none
    else none
   |_=>none
 | .indexAddr T x i=>match ev1 ev x,ev1 ev i with
   |some v,some (.int _ j)=>if qfx P T v then match qDp v j with
      |some (r,c)=>some ⟨.one r,[],c⟩
      |none=>none
     else none
   |_,_=>none
 | .index T x i=>match ev1 ev x,ev1 ev i with
   |some (.agg (.arr n e) xs),some (.int _ j)=>if qod P tyD T=some (.arr n e) then
     some ⟨.one (qqC e (inj false e (List.getD xs j.toNat (qua e)))),[],[0≤j,j<(n:Int)]⟩
    else none
   |some (.str s),some (.int _ j)=>match P.underlying T with
    |some .string=>some ⟨.one (.int .u8 (qzt s j.toNat)),[],[0≤j,j<(s.size:Int)]⟩
    |_=>none
   |_,_=>none
 | .slice T x lo hi none=>match ev1 ev x,qUF ev lo,qUF ev hi with
   |some v,some l,some h=>if qqB P T v then match qSl P T v l h with
      |some (r,c)=>some ⟨.one r,[],c⟩
      |none=>none
     else none
   |_,_,_=>none
 | .slice T x lo (some hi) (some mx)=>match ev1 ev x,qUF ev lo,ev1 ev hi,ev1 ev mx with
   |some (.ref e l off len wh),some lv,some hv,some mv=>if qfx P T (.ref e l off len wh) then match qHD len lv hv mv with
     |some (a,b,c)=>some ⟨.one (.ref e l (off+a) (b - a) false),[],c⟩
     |none=>none
    else none
   |_,_,_,_=>none
 | .nilCheck x=>match ev1 ev x with
   |some (.ptr t l p)=>one (.ptr t l p)
   |some (.cptr l)=>one (.cptr l)
   |_=>none
 | .makeSlice T a b=>match qJm P T,ev1 ev a,ev1 ev b with
   |some e,some (.int .i64 n),some (.int .i64 m)=>match P.underlying T with
    |some (.slice E)=>if qHi P E e&&decide (0<e.sz) then
      some ⟨.one (.ref e nl 0 (wn n.toNat (qua e)).length true),[(nl,some (qRy e n.toNat))],[m=n,0≤n,n*(P.bytesOf E:Int)≤140737488355328,n≤9223372036854775807]⟩
     else none
    |_=>none
   |_,_,_=>none
 | .makeMap T none=>match qMF P T with
   |some (k,v)=>some ⟨.one (.mapr nl),[(nl,some (.map k v []))],[]⟩
   |none=>none
 | .makeMap T (some x)=>match qMF P T,ev1 ev x with
   |some (k,v),some (.int _ _)=>some ⟨.one (.mapr nl),[(nl,some (.map k v []))],[]⟩
   |_,_=>none
 | .makeChan T x=>match qyt P T,ev1 ev x with
   |some (e,E),some (.int _ n)=>some ⟨.one (.chan nl),[(nl,some (.chan e true n.toNat [] false))],[0≤n,n≤9223372036854775807,(P.bytesOf E:Int)*n≤281474976710544]⟩
   |_,_=>none
 | .lookup T m x ok=>match qMF P T,ev1 ev m,ev1 ev x with
   |some (k,v),some mv,some xv=>match qkv k xv,qDJ lk k v mv with
    |some u,some es=>
     let r:=qqC v (inj false v ((qPs (peq k) u es).getD (qua v)))
     some ⟨if ok then .tup [r, .bool (qPs (peq k) u es).isSome] else .one r,[],[]⟩
    |_,_=>none
   |_,_,_=>none
 | .mapUpdate T m x y=>match qMF P T,ev1 ev m,ev1 ev x,ev1 ev y with
   |some (k,v),some (.mapr l),some xv,some yv=>match qkv k xv,qkv v yv,qDJ lk k v (.mapr l) with
    |some u,some z,some es=>some ⟨.one .undef,[(l,some (.map k v (qVA (peq k) u z es)))],[]⟩
    |_,_,_=>none
   |_,_,_,_=>none
 | .call {callee:= .builtin b,args,argTypes}=>match evs ev args.toList with
   |some vs=>qJd P lk nl b argTypes.toList vs
   |none=>none
 | .call {callee:= .value f,args,argTypes:=_}=>match ev1 ev f,evs ev args.toList,orc with
   |some (.func f caps),some vs,some c=>match qMq lk caps with
    |some cs=>qfw P GT lk nl f (vs++cs) c
    |none=>none
   |_,_,_=>none
 |_=>none
def qEK:Op→Bool
 | .send _ _=>true
 | .recv _ _ _=>true
 |_=>false
def qBD (P:Program) (ev:Operand→TV) (lk:qZb) (op:Op):Option Out:=
 match op with
 | .send c x=>match ev1 ev c,ev1 ev x with
   |some (.chan l),some v=>match lk l with
    |some (.chan e fr cap xs false)=>match qNo e v with
     |some y=>match qVg lk e y with
      |some (u,ls,f)=>if ls.contains l then none else some ⟨.one .undef,(l,some (.chan e (fr&&f) cap (xs++[u]) false))::kill ls,[xs.length<cap]⟩
      |none=>none
     |none=>none
    |_=>none
   |_,_=>none
 | .recv T c false=>match ev1 ev c,qyt P T with
   |some (.chan l),some (e',E)=>match lk l with
    |some (.chan e fr cap xs cl)=>if qHi P E e' then some ⟨.one (qqC e (inj fr e (xs.getD 0 (qua e)))),[(l,some (.chan e fr cap (xs.drop 1) cl))],[0<xs.length]⟩ else none
    |_=>none
   |_,_=>none
 |_=>none
def qFK:Op→Bool
 | .call {callee:= .builtin _, .. }=>false
 | .call _=>true
 |_=>false
def qjB (ops:List Oper) (i:Nat):Bool:=ops.any fun o=>match o.guard with
 |some (j,_)=>j==i
 |none=>false
def qwd (lk:qZb) (L:List Nat):qZb:=fun l=>if L.contains l then lk l else none
structure Ev where
 v:TV
 upd:List (Nat×Option Obj)
 need:List Nat
def qmt:Op→List Orc→Option (Option COrc×List Orc)
 |op,os=>if qFK op then match os with
   | .call c::os'=>some (some c,os')
   |_=>none
  else some (none,os)
def qom (g:Bool) (v:TV) (os:List Orc):Option (TV×List Prop×List Orc):=
 if g then match v,os with
  | .one (.bool b), .bit c::os'=>some (.one (.bool c),[b=c],os')
  |_,_=>none
 else some (v,[],os)
def qEu:Option COrc→List Nat
 |some c=>c.ren.map (·.2)++c.use
 |none=>[]
def qvF (P:Program) (GT:qTg) (ops:List Oper) (T:Nat→TV) (H:qZb) (nl i:Nat) (o:Oper) (os:List Orc):Option (Ev×List Prop×List Orc):=
 match qmt o.op os with
 |some (oc,os1)=>
  let ev:=evT GT T
  let L:=qSC ev o.op++qEu oc
  match qGb P GT ev (qwd H L) nl oc o.type o.op with
  |some out=>match qom (qjB ops i) out.v os1 with
   |some (v,c,os2)=>some (⟨v,out.upd,L⟩,c++out.conds,os2)
   |none=>none
  |none=>none
 |none=>none
def qmF (ops:List Oper) (T:Nat→TV) (o:Oper):Option Bool:=
 match o.guard with
 |none=>some true
 |some (j,want)=>match ops[j]? with
  |some og=>match og.dst with
   |some d=>match T d with
    | .one (.bool b)=>some (b==want)
    | .one .gone=>some false
    |_=>none
   |none=>none
  |none=>none
def qAG (P:Program) (GT:qTg) (ops:List Oper) (T:Nat→TV) (H:qZb) (nl i:Nat) (o:Oper) (os:List Orc):Option (Ev×List Prop×List Orc):=
 match qmF ops T o with
 |some true=>qvF P GT ops T H nl i o os
 |some false=>some (⟨.one .gone,[],[]⟩,[],os)
 |none=>none
def qeN (σ:List (Nat×TV)):Option Nat→TV→List (Nat×TV)
 |some d,v=>(d,v)::σ
 |none,_=>σ
def St.put (σ:St) (dst:Option Nat) (e:Ev):St:={tmps:=qeN σ.tmps dst e.v,heap:=e.upd++σ.heap,next:=σ.next}
def qUk (nt:Nat):Option Nat→Bool
 |some d=>decide (d<nt)
 |none=>true
def qfn (P:Program) (GT:qTg) (nt:Nat) (ops:List Oper):Nat→List Oper→St→List Orc→Option (St×List Prop×List Orc×List (Oper×Ev))
 |_,[],σ,os=>some (σ,[],os,[])
 |i,o::r,σ,os=>match qAG P GT ops (keepT (o.looksAt ops.toArray) σ.look) (qib σ.heap) (σ.next+8*i) i o os with
  |some (e,c,os1)=>if qUk nt o.dst then match qfn P GT nt ops (i+1) r (σ.put o.dst e) os1 with
    |some (σ',c',os2,tr)=>some (σ',c++c',os2,(o,e)::tr)
    |none=>none
   else none
  |none=>none
def apart (ops:List Oper) (x y:Oper×Ev):Bool:=
 (Oper.apart ops.toArray x.1 y.1)&&x.2.upd.all (fun p=>!y.2.need.contains p.1&&!(y.2.upd.any fun q=>q.1==p.1))&&y.2.upd.all (fun p=>!x.2.need.contains p.1)
def qJw (o:Oper):List Nat:=(o.after.toList.filter fun e=>Region.binds .any e).map (·.on)
def qRA (acc:List Nat):List Nat→Nat
 |[]=>0
 |j::r=>((1 <<< j) ||| acc.getD j 0) ||| qRA acc r
def qfM:List Oper→List Nat→List Nat
 |[],acc=>acc
 |o::r,acc=>qfM r (acc++[qRA acc (qJw o)])
def qzK (ops:List Oper) (an:List Nat) (tr:List (Oper×Ev)) (i j:Nat):Bool:=
 (an.getD j 0).testBit i||(match tr[i]?,tr[j]? with
  |some x,some y=>apart ops x y
  |_,_=>false)
def qSE (ops:List Oper) (tr:List (Oper×Ev)):Bool:=
 let an:=qfM ops []
 (List.range ops.length).all fun j=>((qJw (ops.getD j default)).all fun i=>decide (i<j))&&(List.range j).all fun i=>qzK ops an tr i j
def qen (P:Program) (GT:qTg) (nt:Nat) (ops:List Oper) (draw:Bool) (σ:St) (os:List Orc):Option (St×List Prop×List Orc):=
 match qfn P GT nt ops 0 ops σ os with
 |some (σ',c,os',tr)=>if !draw||qSE ops tr then some ({σ' with next:=σ.next+8*ops.length},c,os') else none
 |none=>none
structure Pos where
 todo:List Item
 st:St
def qDo (P:Program) (GT:qTg) (nt:Nat) (s:Pos) (os:List Orc):Option (Pos×List Prop×List Orc):=
 match s.todo with
 | .code .skip::k| .code (.label _)::k| .inBlock _::k| .inScope _::k=>some (⟨k,s.st⟩,[],os)
 | .code (.scope body)::k=>some (⟨.code body:: .inScope body::k,s.st⟩,[],os)
 | .code (.seq a b)::k=>some (⟨.code a:: .code b::k,s.st⟩,[],os)
 | .code (.cond c x y)::k=>match evO GT s.st c,os with
   | .one (.bool b), .bit t::os'=>some (⟨.code (if t then x else y)::k,s.st⟩,[b=t],os')
   |_,_=>none
 | .code (.block id body)::k=>some (⟨.code body:: .inBlock id::k,s.st⟩,[],os)
 | .code (.loop body)::k| .inLoop body::k=>some (⟨.code body:: .inLoop body::k,s.st⟩,[],os)
 | .code (.exit id)::k=>match exitTo id k with
   |some k'=>some (⟨k',s.st⟩,[],os)
   |none=>none
 | .code (.goto l)::k=>match gotoIn l k with
   |some k'=>some (⟨k',s.st⟩,[],os)
   |none=>none
 | .code (.region _ ops draw)::k=>match qen P GT nt ops.toList draw s.st os with
   |some (σ,c,os')=>some (⟨k,σ⟩,c,os')
   |none=>none
 |_=>none
def run (P:Program) (GT:qTg) (nt:Nat):Nat→Pos→List Orc→List Prop→Option (Pos×List Prop×List Orc)
 |0,s,os,c=>some (s,c,os)
 |n+1,s,os,c=>match qDo P GT nt s os with
  |some (s',c',os')=>run P GT nt n s' os' (c'++c)
  |none=>none
def qVG (P:Program) (σ:St):ResultVar→Option AV
 | .tmp t=>match σ.look t with
   | .one v=>some v
   |_=>none
 | .cell a T=>match σ.look a with
   | .one x=>qSy P (qib σ.heap) T x
   |_=>none
def qgr (P:Program) (σ:St):List ResultVar→Option (List AV)
 |[]=>some []
 |r::rs=>match qVG P σ r,qgr P σ rs with
  |some v,some vs=>some (v::vs)
  |_,_=>none
def qFC (P:Program) (σ:St) (rs:List ResultVar):Option TV:=
 match qgr P σ rs with
 |some [v]=>some (.one v)
 |some vs=>some (.tup vs)
 |none=>none
def qfg:List Prop→Prop
 |[]=>True
 |p::r=>p∧qfg r
end Go.Ab

/-
  Steps of a state: what is new, what is written, what is let go; all else is kept.
-/
set_option linter.unusedVariables false
set_option linter.unusedSimpArgs false
namespace Go.Ab
open Go
theorem qmb (b:Nat):∀(vs:List Value) (o:Nat) (w:World),(w.setCells b o vs).os=w.os∧(w.setCells b o vs).tape=w.tape∧(w.setCells b o vs).output=w.output∧(w.setCells b o vs).heap.size=w.heap.size∧∀k,k≠b→(w.setCells b o vs).heap[k]?=w.heap[k]?
 |[],_,_=>⟨rfl,rfl,rfl,rfl,fun _ _=>rfl⟩
 |v::r,o,w=>by
  obtain ⟨h1,h2,h3,h4,h5⟩:=qmb b r (o+1) (w.setCell ⟨b,o,none⟩ v)
  refine ⟨h1,h2,h3,h4.trans (by simp [World.setCell]),fun k hk=>(h5 k hk).trans ?_⟩
  simp only [World.setCell,Array.getElem?_modify]
  rw [if_neg (wGa hk)]
theorem qbn (b:Nat) (T:TypeId) (fz:Nat×Nat):∀(vs:List Value) (o:Nat) (w:World) (arr:Array Value),w.heap[b]?=some (.cells arr T fz)→o+vs.length≤arr.size→
  (w.setCells b o vs).heap[b]?=some (.cells (put arr.toList o vs).toArray T fz)
 |[],o,w,arr,h,_=>by simp only [World.setCells];rw [h];simp [put]
 |v::r,o,w,arr,h,hl=>by
  simp only [ww] at hl
  have h1:(w.setCell ⟨b,o,none⟩ v).heap[b]?=some (.cells (arr.setIfInBounds o v) T fz):=by
   simp only [World.setCell,Array.getElem?_modify,if_true,h,wCa]
   rfl
  have h2:=qbn b T fz r (o+1) _ _ h1 (by simp;omega)
  simp only [World.setCells]
  rw [h2]
  congr 3
  apply wQa;intro j
  rw [qWi (by simp;omega),qWi (by simp;omega)]
  simp only [Array.toList_setIfInBounds,wtb,ww]
  by_cases h3:j<o
  ·rw [if_pos (by omega),if_neg (by omega),if_pos h3]
  ·rw [if_neg h3]
   by_cases h4:j=o
   ·subst h4
    rw [if_pos (by omega),if_pos rfl,if_pos (by simp;omega),if_pos (by omega)]
    simp
   ·rw [if_neg (by omega)]
    by_cases h5:j<o+1+r.length
    ·rw [if_pos h5,if_pos (by omega)]
     rw [show j - o=(j - (o+1))+1 by omega,wRa]
    ·rw [if_neg h5,if_neg (by omega),if_neg (by omega)]
theorem InBlk.cells {w:World} {p:Plc} {cs:List Value} (h:InBlk w p cs):CellsAt w p.blk p.ob cs:=by
 obtain ⟨arr,T,fz,h1,h2,h3,h4,h5⟩:=h
 intro j v hj
 simp only [World.cell?,h1]
 simpa using h5 j v hj
theorem InBlk.free {w:World} {p:Plc} {cs:List Value} (h:InBlk w p cs) {o:Nat} (ho:o<p.bs):w.frozen? ⟨p.blk,o,none⟩=false:=by
 obtain ⟨arr,T,fz,h1,h2,h3,h4,h5⟩:=h
 simp only [World.frozen?,h1]
 simp only [decide_eq_false_iff_not,Bool.and_eq_false_imp,decide_eq_true_eq]
 omega
theorem InBlk.lt {w:World} {p:Plc} {cs:List Value} (h:InBlk w p cs):p.blk<w.heap.size:=by
 obtain ⟨arr,T,fz,h1,_⟩:=h
 exact (Array.getElem?_eq_some_iff.1 h1).1
theorem InBlk.at_ {w:World} {p:Plc} {cs:List Value} (h:InBlk w p cs) {o:Nat}:∀j,j<cs.length - o→∃v,cs[o+j]?=some v∧w.cell? ⟨p.blk,p.ob+o+j,none⟩=some v:=by
 intro j hj
 have hl:o+j<cs.length:=by omega
 refine ⟨cs[o+j],wx hl,?_⟩
 have:=h.cells (o+j) _ (wx hl)
 rwa [←wxa] at this
theorem InBlk.write {w:World} {p:Plc} {cs s:List Value} {o:Nat} (h:InBlk w p cs) (ho:o+s.length≤cs.length):InBlk (w.setCells p.blk (p.ob+o) s) p (put cs o s):=by
 obtain ⟨arr,T,fz,h1,h2,h3,h4,h5⟩:=h
 refine ⟨(put arr.toList (p.ob+o) s).toArray,T,fz,qbn p.blk T fz s _ w arr h1 (by omega),?_,?_,?_,?_⟩
 ·rw [wLa,qlo (by simp;omega)];simpa using h2
 ·exact h3
 ·rw [qlo ho];exact h4
 ·intro j v hj
  rw [qWi ho] at hj
  rw [List.getElem?_toArray,qWi (by simp;omega)]
  by_cases h6:j<o
  ·rw [if_pos h6] at hj;rw [if_pos (by omega)];simpa using h5 j v hj
  ·rw [if_neg h6] at hj
   by_cases h7:j<o+s.length
   ·rw [if_pos h7] at hj;rw [if_neg (by omega),if_pos (by omega)]
    rw [show p.ob+j - (p.ob+o)=j - o by omega];exact hj
   ·rw [if_neg h7] at hj;rw [if_neg (by omega),if_neg (by omega)];simpa using h5 j v hj
theorem InBlk.move {w:World} {p:Plc} {cs s ds:List Value} {o q:Nat} (h:InBlk w p cs) (hq:q+ds.length≤p.bs) (ho:q≤o) (hs:o+s.length≤q+ds.length)
  (hd:∀j v,ds[j]?=some v→if q+j<o then (p.ob≤q+j∧cs[q+j - p.ob]?=some v) else if q+j<o+s.length then s[q+j - o]?=some v else False):
  InBlk (w.setCells p.blk o s) ⟨p.blk,q,p.bs⟩ ds:=by
 obtain ⟨arr,T,fz,h1,h2,h3,h4,h5⟩:=h
 refine ⟨(put arr.toList o s).toArray,T,fz,qbn p.blk T fz s _ w arr h1 (by omega),?_,?_,hq,?_⟩
 ·rw [wLa,qlo (by simp;omega)];simpa using h2
 ·exact h3
 ·intro j v hj
  have:=hd j v hj
  rw [List.getElem?_toArray,qWi (by simp;omega)]
  by_cases h6:q+j<o
  ·rw [if_pos h6] at this ⊢
   have h7:=h5 _ v this.2
   rw [show p.ob+(q+j - p.ob)=q+j by omega] at h7
   simpa using h7
  ·rw [if_neg h6] at this ⊢
   by_cases h7:q+j<o+s.length
   ·rw [if_pos h7] at this ⊢;exact this
   ·rw [if_neg h7] at this;exact this.elim
theorem Cat.one {α:Type} {R:α→List Value→Prop} (h:∀x cs,R x cs→∀v∈cs,v.oneCell'=true):∀{xs:List α} {cs:List Value},Cat R xs cs→∀v∈cs,v.oneCell'=true
 |[],_,hc,v,hv=>by simp only [Cat] at hc;subst hc;cases hv
 |_::_,_,hc,v,hv=>by
  obtain ⟨c1,c2,rfl,h1,h2⟩:=hc
  rcases wR.1 hv with hv|hv
  ·exact h _ _ h1 v hv
  ·exact Cat.one h h2 v hv
theorem PRd.one {w:World} {N:Nat→Prop}:∀{t:Ty} {x:pden t} {cs:List Value},PRd w N t x cs→∀v∈cs,v.oneCell'=true
 | .int _,_,_,h,v,hv=>by simp only [PRd] at h;subst h;simp at hv;subst hv;rfl
 | .bool,_,_,h,v,hv=>by simp only [PRd] at h;subst h;simp at hv;subst hv;rfl
 | .str,_,_,h,v,hv=>by simp only [PRd] at h;subst h;simp at hv;subst hv;rfl
 | .arr n e,xs,_,h,v,hv=>Cat.one (fun _ _=>PRd.one) h.2 v hv
 | .pair a b,_,_,h,v,hv=>by
   obtain ⟨c1,c2,rfl,h1,h2⟩:=h
   rcases wR.1 hv with hv|hv
   ·exact PRd.one h1 v hv
   ·exact PRd.one h2 v hv
 | .unit,_,_,h,v,hv=>by simp only [PRd] at h;subst h;cases hv
 | .slice _,_,_,h,v,hv=>by
   obtain ⟨A,cap,rfl,_⟩:=h
   simp at hv;subst hv;rfl
 | .fn,x,_,h,v,hv=>by
   simp only [PRd] at h;subst h;simp at hv;subst hv
   cases x <;> rfl
theorem RefRd.form {K:Kn} {e:Ty} {l off len:Nat} {wh:Bool} {v:Value} (h:RefRd K e l off len wh v):∃A c,v= .slice A len c:=by
 obtain ⟨n,pl,_,h2,_,hm⟩:=h
 cases pl with
 |none=>exact ⟨none,0,by rw [hm.1,show len=0 by have:=hm.2;omega]⟩
 |some p=>obtain ⟨o,cap,rfl,_⟩:=hm;exact ⟨_,_,rfl⟩
theorem ARd.one {w:World} {N:Bool→Nat→Prop} {K:Kn}:∀{t:Ty} {x:qke t} {cs:List Value},ARd w N K t x cs→∀v∈cs,v.oneCell'=true
 | .int _,_,_,h,v,hv=>by simp only [ARd] at h;subst h;simp at hv;subst hv;rfl
 | .bool,_,_,h,v,hv=>by simp only [ARd] at h;subst h;simp at hv;subst hv;rfl
 | .str,_,_,h,v,hv=>by simp only [ARd] at h;subst h;simp at hv;subst hv;rfl
 | .arr n e,xs,_,h,v,hv=>Cat.one (fun _ _=>PRd.one) h.2 v hv
 | .pair a b,_,_,h,v,hv=>by
   obtain ⟨c1,c2,rfl,h1,h2⟩:=h
   rcases wR.1 hv with hv|hv
   ·exact ARd.one h1 v hv
   ·exact ARd.one h2 v hv
 | .unit,_,_,h,v,hv=>by simp only [ARd] at h;subst h;cases hv
 | .slice _,x,_,h,v,hv=>by
   cases x with
   |pure fr xs=>exact PRd.one (t:= .slice _) h v hv
   |ref l off len wh=>
    obtain ⟨u,rfl,h⟩:=h
    obtain ⟨A,c,rfl⟩:=h.form
    simp at hv;subst hv;rfl
   |nil=>simp only [ARd] at h;subst h;simp at hv;subst hv;rfl
   |junk=>obtain ⟨A,n,c,rfl⟩:=h;simp at hv;subst hv;rfl
   |lng n=>obtain ⟨A,c,rfl⟩:=h;simp at hv;subst hv;rfl
 | .fn,x,_,h,v,hv=>by
   simp only [ARd] at h;subst h;simp at hv;subst hv
   cases x <;> rfl
def qsb (H:qZb) (upd:List (Nat×Option Obj)):qZb:=fun l=>match lookL upd l with
 |some o=>o
 |none=>H l
theorem qRf {α:Type}:∀(a b:List (Nat×α)) (l:Nat),lookL (a++b) l=match lookL a l with
  |some v=>some v
  |none=>lookL b l
 |[],b,l=>rfl
 |(k,v)::a,b,l=>by
  simp only [wba,lookL]
  split
  ·rfl
  ·exact qRf a b l
theorem qXg (H:qZb) (a b:List (Nat×Option Obj)):qsb H (a++b)=qsb (qsb H b) a:=by
 funext l
 simp only [qsb,qRf]
 cases lookL a l <;> rfl
theorem qjv (a b:List (Nat×Option Obj)):qib (a++b)=qsb (qib b) a:=by
 funext l
 simp only [qsb,qib,qRf]
 cases lookL a l <;> rfl
theorem qdJ (H:qZb):qsb H []=H:=rfl
structure Stp (c:Cx) (H:qZb) (K:Kn) (w:World) (upd:List (Nat×Option Obj)) (nl:Nat) (K':Kn) (w':World):Prop where
 inv:Inv c (qsb H upd) K' w'
 keep:KeepK w w' (NN c H K w) (NN c (qsb H upd) K' w') K K'
 fresh:∀l,K' l=K l∨(nl≤l∧l<nl+8)
 size:w.heap.size≤w'.heap.size
theorem KeepK.trans {w w1 w2:World} {N N1 N2:Bool→Nat→Prop} {K K1 K2:Kn} (h:KeepK w w1 N N1 K K1) (k:KeepK w1 w2 N1 N2 K1 K2):KeepK w w2 N N2 K K2:=
 ⟨fun fr=>⟨fun b hb=>⟨((k.n fr).k b ((h.n fr).k b hb).1).1,((k.n fr).k b ((h.n fr).k b hb).1).2.trans ((h.n fr).k b hb).2⟩⟩,fun l gh hl=>k.k l gh (h.k l gh hl)⟩
theorem Stp.refl {c:Cx} {H:qZb} {K:Kn} {w:World} (h:Inv c H K w) (nl:Nat):Stp c H K w [] nl K w:=
 ⟨h,KeepK.refl _ _ _,fun _=> .inl rfl,ws _⟩
theorem Stp.trans {c:Cx} {H:qZb} {K K1 K2:Kn} {w w1 w2:World} {u1 u2:List (Nat×Option Obj)} {nl:Nat} (h:Stp c H K w u1 nl K1 w1) (k:Stp c (qsb H u1) K1 w1 u2 nl K2 w2):Stp c H K w (u2++u1) nl K2 w2:=by
 refine ⟨by rw [qXg];exact k.inv,?_,fun l=>?_,wia h.size k.size⟩
 ·rw [qXg];exact h.keep.trans k.keep
 ·rcases k.fresh l with h2|h2
  ·rcases h.fresh l with h1|h1
   ·exact .inl (h2.trans h1)
   ·exact .inr h1
  ·exact .inr h2
theorem ui {c:Cx} {H:qZb} {K:Kn} {w:World}:∀b,NN c H K w true b→NN c H K w false b:=fun b h=>⟨h.1,h.2.1,h.2.2.imp id (fun h=>h.imp id (fun h=>by cases h.1))⟩
theorem Stp.drawn {c:Cx} {H:qZb} {K:Kn} {w:World} (h:Inv c H K w) (nl n:Nat):Stp c H K w [] nl K {w with drawn:=n}:=by
 have hk:KeepK w {w with drawn:=n} (NN c H K w) (NN c H K {w with drawn:=n}) K K:=⟨fun fr=>⟨fun b hb=>⟨hb,rfl⟩⟩,fun _ _ h=>h⟩
 refine ⟨⟨fun l o hl=>?_,h.own,h.inj,⟨h.fr.os,h.fr.tape,h.fr.output,h.fr.size,h.fr.block⟩⟩,hk,fun _=> .inl rfl,ws _⟩
 obtain ⟨gh,hg,ho⟩:=h.objs l o hl
 exact ⟨gh,hg,ho.keep hk (fun _ _=>rfl)⟩
theorem Stp.kill {c:Cx} {H:qZb} {K:Kn} {w:World} (h:Inv c H K w) (nl:Nat) (ls:List Nat):Stp c H K w (Ab.kill ls) nl K w:=by
 have hH:∀l o,qsb H (Ab.kill ls) l=some o→H l=some o:=by
  intro l o
  simp only [qsb]
  have:∀ls:List Nat,lookL (Ab.kill ls) l=none∨lookL (Ab.kill ls) l=some none:=by
   intro ls
   induction ls with
   |nil=>exact .inl rfl
   |cons x xs ih=>
    simp only [Ab.kill,wJ,lookL]
    split
    ·exact .inr rfl
    ·exact ih
  rcases this ls with h1|h1 <;> simp [h1]
 have hl:∀b,qTb (qsb H (Ab.kill ls)) K b→qTb H K b:=by
  rintro b ⟨l,o,gh,p,h1,h2⟩
  exact ⟨l,o,gh,p,hH _ _ h1,h2⟩
 have hk:KeepK w w (NN c H K w) (NN c (qsb H (Ab.kill ls)) K w) K K:=⟨fun fr=>⟨fun b hb=>⟨⟨hb.1,fun hn=>hb.2.1 (hl b hn),hb.2.2⟩,rfl⟩⟩,fun _ _ h=>h⟩
 refine ⟨⟨fun l o ho=>?_,fun l o gh p h1=>h.own l o gh p (hH _ _ h1),fun l l' o o' gh gh' p p' h1 h2=>h.inj l l' o o' gh gh' p p' (hH _ _ h1) (hH _ _ h2),h.fr⟩,hk,fun _=> .inl rfl,ws _⟩
 obtain ⟨gh,hg,ho⟩:=h.objs l o (hH _ _ ho)
 exact ⟨gh,hg,ho.keep hk (fun _ _=>rfl)⟩
def qLj (K:Kn) (l0:Nat) (gh:Gh):Kn:=fun l=>if l=l0 then some gh else K l
theorem qRa {K:Kn} {l:Nat} {gh:Gh}:qLj K l gh l=some gh:=by simp [qLj]
theorem qof {K:Kn} {l0 l:Nat} {gh:Gh} (h:l≠l0):qLj K l0 gh l=K l:=by simp [qLj,h]
theorem Stp.new {c:Cx} {H:qZb} {K:Kn} {w w':World} (h:Inv c H K w) (hng:c.ng≤c.w0.heap.size) (nl l0:Nat) (hn:nl≤l0∧l0<nl+8) (hf:K l0=none) (o:Obj) (gh:Gh)
  (hw:w'.os=w.os∧w'.tape=w.tape∧w'.output=w.output∧w.heap.size≤w'.heap.size∧∀k,k<w.heap.size→w'.heap[k]?=w.heap[k]?)
  (hp:∀p,gh.pl=some p→w.heap.size≤p.blk∧p.blk<w'.heap.size)
  (ho:∀(N':Bool→Nat→Prop) (K':Kn),(∀b,N' true b→N' false b)→KeepK w w' (NN c H K w) N' K K'→ORd w' N' K' o gh) (hx:gh.sh.ex=[]:=by rfl):
  Stp c H K w [(l0,some o)] nl (qLj K l0 gh) w':=by
 replace hp:∀p,Has gh p→w.heap.size≤p.blk∧p.blk<w'.heap.size:=fun p h=>h.elim (hp p) (fun h=>by rw [hx] at h;cases h)
 have hH0:H l0=none:=by
  cases hh:H l0 with
  |none=>rfl
  |some o'=>obtain ⟨gh',hg,_⟩:=h.objs l0 o' hh;rw [hf] at hg;cases hg
 have hup:∀l,qsb H [(l0,some o)] l=if l0=l then some o else H l:=fun l=>by
  simp only [qsb,lookL];split <;> simp_all
 have hK:∀l g,K l=some g→(qLj K l0 gh) l=some g:=fun l g hl=>by
  have:l≠l0:=fun e=>by rw [e,hf] at hl;cases hl
  rw [qof this,hl]
 have hkk:∀l,l≠l0→(qLj K l0 gh) l=K l:=fun l hl=>qof hl
 have hlive:∀b,b<w.heap.size→qTb (qsb H [(l0,some o)]) (qLj K l0 gh) b→qTb H K b:=by
  rintro b hb ⟨l,o',gh',p,h1,h2,h3,h4⟩
  rw [hup] at h1
  by_cases hl:l0=l
  ·subst hl
   rw [qRa] at h2;injection h2 with h2;subst h2
   have:=(hp p h3).1;omega
  ·rw [if_neg hl] at h1
   rw [hkk l (wGa hl)] at h2
   exact ⟨l,o',gh',p,h1,h2,h3,h4⟩
 have hk:KeepK w w' (NN c H K w) (NN c (qsb H [(l0,some o)]) (qLj K l0 gh) w') K (qLj K l0 gh):=
  ⟨fun fr=>⟨fun b hb=>⟨⟨wY hb.1 hw.2.2.2.1,fun hn=>hb.2.1 (hlive b hb.1 hn),hb.2.2⟩,hw.2.2.2.2 b hb.1⟩⟩,hK⟩
 refine ⟨⟨fun l o' hl=>?_,fun l o' gh' p h1 h2 h3=>?_,fun l l' o1 o2 g1 g2 p1 p2 h1 h2 h3 h4 h5 h6 h7=>?_,?_⟩,hk,fun l=>?_,hw.2.2.2.1⟩
 ·rw [hup] at hl
  by_cases h1:l0=l
  ·subst h1
   rw [if_pos rfl] at hl
   injection hl with hl;subst hl
   exact ⟨gh,qRa,ho _ _ ui hk⟩
  ·rw [if_neg h1] at hl
   obtain ⟨g,hg,hob⟩:=h.objs l o' hl
   refine ⟨g,hK _ _ hg,hob.keep hk (fun p hpl=>hw.2.2.2.2 _ (h.own l o' g p hl hg hpl).1)⟩
 ·rw [hup] at h1
  by_cases hl:l0=l
  ·subst hl
   rw [qRa] at h2;injection h2 with h2;subst h2
   have:=hp p h3
   exact ⟨this.2, .inl (wia h.fr.size this.1),wia hng (wia h.fr.size this.1)⟩
  ·rw [if_neg hl] at h1
   rw [hkk l (wGa hl)] at h2
   have:=h.own l o' gh' p h1 h2 h3
   exact ⟨wY this.1 hw.2.2.2.1,this.2⟩
 ·rw [hup] at h1 h2
  by_cases hl:l0=l
  ·subst hl
   rw [qRa] at h3;injection h3 with h3;subst h3
   by_cases hl':l0=l'
   ·exact hl'
   ·rw [if_neg hl'] at h2
    rw [hkk l' (wGa hl')] at h4
    have a:=h.own l' o2 g2 p2 h2 h4 h6
    have b:=hp p1 h5
    omega
  ·rw [if_neg hl] at h1
   rw [hkk l (wGa hl)] at h3
   by_cases hl':l0=l'
   ·subst hl'
    rw [qRa] at h4;injection h4 with h4;subst h4
    have a:=h.own l o1 g1 p1 h1 h3 h5
    have b:=hp p2 h6
    omega
   ·rw [if_neg hl'] at h2
    rw [hkk l' (wGa hl')] at h4
    exact h.inj l l' o1 o2 g1 g2 p1 p2 h1 h2 h3 h4 h5 h6 h7
 ·exact ⟨hw.1.trans h.fr.os,hw.2.1.trans h.fr.tape,hw.2.2.1.trans h.fr.output,wia h.fr.size hw.2.2.2.1,fun k hk1 hk2=>(hw.2.2.2.2 k (wY hk1 h.fr.size)).trans (h.fr.block k hk1 hk2)⟩
 ·by_cases hl:l=l0
  ·subst hl;exact .inr hn
  ·exact .inl (hkk l hl)
theorem Stp.write {c:Cx} {H:qZb} {K:Kn} {w w':World} (h:Inv c H K w) (nl l0:Nat) (o0 o:Obj) (gh:Gh) (p0:Plc) (hl0:H l0=some o0) (hg0:K l0=some gh) (hp0:Has gh p0)
  (hw:w'.os=w.os∧w'.tape=w.tape∧w'.output=w.output∧w'.heap.size=w.heap.size∧∀k,k≠p0.blk→w'.heap[k]?=w.heap[k]?)
  (ho:∀(N':Bool→Nat→Prop) (K':Kn),(∀b,N' true b→N' false b)→KeepK w w' (NN c H K w) N' K K'→ORd w' N' K' o gh):
  Stp c H K w [(l0,some o)] nl K w':=by
 have hup:∀l,qsb H [(l0,some o)] l=if l0=l then some o else H l:=fun l=>by
  simp only [qsb,lookL];split <;> simp_all
 have hlive0:qTb H K p0.blk:=⟨l0,o0,gh,p0,hl0,hg0,hp0,rfl⟩
 have hlive:∀b,qTb (qsb H [(l0,some o)]) K b→qTb H K b:=by
  rintro b ⟨l,o',gh',p,h1,h2,h3,h4⟩
  rw [hup] at h1
  by_cases hl:l0=l
  ·subst hl
   exact ⟨l0,o0,gh',p,hl0,h2,h3,h4⟩
  ·rw [if_neg hl] at h1
   exact ⟨l,o',gh',p,h1,h2,h3,h4⟩
 have hk:KeepK w w' (NN c H K w) (NN c (qsb H [(l0,some o)]) K w') K K:=
  ⟨fun fr=>⟨fun b hb=>⟨⟨by rw [hw.2.2.2.1];exact hb.1,fun hn=>hb.2.1 (hlive b hn),hb.2.2⟩,hw.2.2.2.2 b (fun e=>hb.2.1 (e▸hlive0))⟩⟩,fun _ _ h=>h⟩
 have hlook:∀l o',qsb H [(l0,some o)] l=some o'→∃o'',H l=some o'':=fun l o' hl=>by
  rw [hup] at hl
  by_cases h1:l0=l
  ·subst h1;exact ⟨_,hl0⟩
  ·rw [if_neg h1] at hl;exact ⟨_,hl⟩
 refine ⟨⟨fun l o' hl=>?_,fun l o' gh' p h1 h2 h3=>?_,fun l l' o1 o2 g1 g2 p1 p2 h1 h2 h3 h4 h5 h6 h7=>?_,?_⟩,hk,fun l=> .inl rfl,by rw [hw.2.2.2.1];exact ws _⟩
 ·rw [hup] at hl
  by_cases h1:l0=l
  ·subst h1
   rw [if_pos rfl] at hl
   injection hl with hl;subst hl
   exact ⟨gh,hg0,ho _ _ ui hk⟩
  ·rw [if_neg h1] at hl
   obtain ⟨g,hg,hob⟩:=h.objs l o' hl
   refine ⟨g,hg,hob.keep hk (fun p hpl=>hw.2.2.2.2 _ (fun e=>h1 ?_))⟩
   exact (h.inj l l0 o' o0 g gh p p0 hl hl0 hg hg0 hpl hp0 e).symm
 ·obtain ⟨o'',h1'⟩:=hlook l o' h1
  have:=h.own l o'' gh' p h1' h2 h3
  exact ⟨by rw [hw.2.2.2.1];exact this.1,this.2⟩
 ·obtain ⟨o1',h1'⟩:=hlook l o1 h1
  obtain ⟨o2',h2'⟩:=hlook l' o2 h2
  exact h.inj l l' o1' o2' g1 g2 p1 p2 h1' h2' h3 h4 h5 h6 h7
 ·refine ⟨hw.1.trans h.fr.os,hw.2.1.trans h.fr.tape,hw.2.2.1.trans h.fr.output,by rw [hw.2.2.2.1];exact h.fr.size,fun k hk1 hk2=>?_⟩
  have h0:=h.own l0 o0 gh p0 hl0 hg0 hp0
  by_cases hkp:k=p0.blk
  ·subst hkp
   rcases h0.2.1 with h3|h3
   ·omega
   ·exact absurd h3 hk2
  ·exact (hw.2.2.2.2 k hkp).trans (h.fr.block k hk1 hk2)
theorem Stp.drop {c:Cx} {H:qZb} {K:Kn} {w w':World} (h:Inv c H K w) (nl l0:Nat) (o0:Obj) (gh:Gh) (p0:Plc) (hl0:H l0=some o0) (hg0:K l0=some gh) (hp0:gh.pl=some p0)
  (hw:w'.os=w.os∧w'.tape=w.tape∧w'.output=w.output∧w'.heap.size=w.heap.size∧∀k,k≠p0.blk→w'.heap[k]?=w.heap[k]?):
  Stp c H K w [(l0,none)] nl K w'∧NN c (qsb H [(l0,none)]) K w' true p0.blk:=by
 replace hp0:Has gh p0:= .inl hp0
 have hup:∀l,qsb H [(l0,none)] l=if l0=l then none else H l:=fun l=>by
  simp only [qsb,lookL];split <;> simp_all
 have hlive0:qTb H K p0.blk:=⟨l0,o0,gh,p0,hl0,hg0,hp0,rfl⟩
 have hsub:∀l o',qsb H [(l0,none)] l=some o'→l0≠l∧H l=some o':=fun l o' hl=>by
  rw [hup] at hl
  by_cases h1:l0=l
  ·rw [if_pos h1] at hl;cases hl
  ·rw [if_neg h1] at hl;exact ⟨h1,hl⟩
 have hlive:∀b,qTb (qsb H [(l0,none)]) K b→qTb H K b:=by
  rintro b ⟨l,o',gh',p,h1,h2,h3,h4⟩
  exact ⟨l,o',gh',p,(hsub l o' h1).2,h2,h3,h4⟩
 have hk:KeepK w w' (NN c H K w) (NN c (qsb H [(l0,none)]) K w') K K:=
  ⟨fun fr=>⟨fun b hb=>⟨⟨by rw [hw.2.2.2.1];exact hb.1,fun hn=>hb.2.1 (hlive b hn),hb.2.2⟩,hw.2.2.2.2 b (fun e=>hb.2.1 (e▸hlive0))⟩⟩,fun _ _ h=>h⟩
 have h0:=h.own l0 o0 gh p0 hl0 hg0 hp0
 refine ⟨⟨⟨fun l o' hl=>?_,fun l o' gh' p h1 h2 h3=>?_,fun l l' o1 o2 g1 g2 p1 p2 h1 h2 h3 h4 h5 h6 h7=>?_,?_⟩,hk,fun l=> .inl rfl,by rw [hw.2.2.2.1];exact ws _⟩,?_⟩
 ·obtain ⟨h1,hl⟩:=hsub l o' hl
  obtain ⟨g,hg,hob⟩:=h.objs l o' hl
  refine ⟨g,hg,hob.keep hk (fun p hpl=>hw.2.2.2.2 _ (fun e=>h1 ?_))⟩
  exact (h.inj l l0 o' o0 g gh p p0 hl hl0 hg hg0 hpl hp0 e).symm
 ·have:=h.own l o' gh' p (hsub l o' h1).2 h2 h3
  exact ⟨by rw [hw.2.2.2.1];exact this.1,this.2⟩
 ·exact h.inj l l' o1 o2 g1 g2 p1 p2 (hsub l o1 h1).2 (hsub l' o2 h2).2 h3 h4 h5 h6 h7
 ·refine ⟨hw.1.trans h.fr.os,hw.2.1.trans h.fr.tape,hw.2.2.1.trans h.fr.output,by rw [hw.2.2.2.1];exact h.fr.size,fun k hk1 hk2=>?_⟩
  by_cases hkp:k=p0.blk
  ·subst hkp
   rcases h0.2.1 with h3|h3
   ·omega
   ·exact absurd h3 hk2
  ·exact (hw.2.2.2.2 k hkp).trans (h.fr.block k hk1 hk2)
 ·refine ⟨by rw [hw.2.2.2.1];exact h0.1,?_,h0.2.1.elim .inl (fun h=> .inr (.inl h))⟩
  rintro ⟨l,o',gh',p,h1,h2,h3,h4⟩
  obtain ⟨n1,h1⟩:=hsub l o' h1
  exact n1 (h.inj l l0 o' o0 gh' gh p p0 h1 hl0 h2 hg0 h3 hp0 h4).symm
theorem Stp.more {c:Cx} {H:qZb} {K:Kn} {w w':World} (h:Inv c H K w) (nl:Nat) (hw:w'.os=w.os∧w'.tape=w.tape∧w'.output=w.output∧w.heap.size≤w'.heap.size∧∀k,k<w.heap.size→w'.heap[k]?=w.heap[k]?):
  Stp c H K w [] nl K w'∧∀b,w.heap.size≤b→b<w'.heap.size→NN c H K w' true b:=by
 have hk:KeepK w w' (NN c H K w) (NN c H K w') K K:=⟨fun fr=>⟨fun b hb=>⟨⟨wY hb.1 hw.2.2.2.1,hb.2.1,hb.2.2⟩,hw.2.2.2.2 b hb.1⟩⟩,fun _ _ h=>h⟩
 refine ⟨⟨⟨fun l o hl=>?_,fun l o gh p hl hg hp=>?_,h.inj,?_⟩,hk,fun _=> .inl rfl,hw.2.2.2.1⟩,fun b h1 h2=>⟨h2,?_, .inl (wia h.fr.size h1)⟩⟩
 ·obtain ⟨gh,g1,g2⟩:=h.objs l o hl
  exact ⟨gh,g1,g2.keep hk (fun p hp=>hw.2.2.2.2 _ (h.own l o gh p hl g1 hp).1)⟩
 ·obtain ⟨a,b,d⟩:=h.own l o gh p hl hg hp
  exact ⟨wY a hw.2.2.2.1,b,d⟩
 ·exact ⟨hw.1.trans h.fr.os,hw.2.1.trans h.fr.tape,hw.2.2.1.trans h.fr.output,wia h.fr.size hw.2.2.2.1,fun k hk' hG=>(hw.2.2.2.2 k (wY hk' h.fr.size)).trans (h.fr.block k hk' hG)⟩
 ·rintro ⟨l,o,gh,p,h3,h4,h5,h6⟩
  have:=(h.own l o gh p h3 h4 h5).1
  omega
theorem uw {c:Cx} {H:qZb} {K:Kn} {w w':World} (h:Inv c H K w) (nl l1:Nat) (ls:List Nat) (o:Obj) (gh1:Gh) (hn:nl≤l1∧l1<nl+8) (hf:K l1=none)
  (hw:w'.os=w.os∧w'.tape=w.tape∧w'.output=w.output∧w.heap.size≤w'.heap.size)
  (hfoot:∀p,Has gh1 p→(∃l∈ls,∃o0 gh q,H l=some o0∧K l=some gh∧Has gh q∧q.blk=p.blk)∨(w.heap.size≤p.blk∧p.blk<w'.heap.size))
  (hng:∀p,Has gh1 p→w.heap.size≤p.blk→c.ng≤c.w0.heap.size)
  (hsame:∀k,k<w.heap.size→(∀l∈ls,∀o0 gh q,H l=some o0→K l=some gh→Has gh q→q.blk≠k)→w'.heap[k]?=w.heap[k]?)
  (ho:∀(N':Bool→Nat→Prop) (K':Kn),(∀b,N' true b→N' false b)→KeepK w w' (NN c H K w) N' K K'→ORd w' N' K' o gh1):
  Stp c H K w (Ab.kill ls++[(l1,some o)]) nl (qLj K l1 gh1) w':=by
 have hH1:H l1=none:=by
  cases hh:H l1 with
  |none=>rfl
  |some o'=>obtain ⟨gh',hg,_⟩:=h.objs l1 o' hh;rw [hf] at hg;cases hg
 have hkill:∀(ls:List Nat) (l:Nat),lookL (Ab.kill ls) l=if l∈ls then some none else none:=by
  intro ls l
  induction ls with
  |nil=>rfl
  |cons x r ih=>
   simp only [Ab.kill,wJ,lookL] at ih ⊢
   by_cases hx:x=l
   ·simp [hx]
   ·have hx':¬l=x:=fun e=>hx e.symm
    rw [if_neg hx,ih];simp [hx']
 have hup:∀l,qsb H (Ab.kill ls++[(l1,some o)]) l=if l∈ls then none else if l1=l then some o else H l:=fun l=>by
  simp only [qsb,qRf,hkill]
  by_cases h1:l∈ls
  ·simp [h1]
  ·simp only [h1,if_false,lookL]
   by_cases h2:l1=l <;> simp [h2]
 have hK:∀l g,K l=some g→(qLj K l1 gh1) l=some g:=fun l g hl=>by
  have:l≠l1:=fun e=>by rw [e,hf] at hl;cases hl
  rw [qof this,hl]
 have hkk:∀l,l≠l1→(qLj K l1 gh1) l=K l:=fun l hl=>qof hl
 have hcase:∀l o' g,qsb H (Ab.kill ls++[(l1,some o)]) l=some o'→(qLj K l1 gh1) l=some g→(l=l1∧g=gh1∧o'=o)∨(l ∉ ls∧l≠l1∧H l=some o'∧K l=some g):=by
  intro l o' g h1 h2
  rw [hup] at h1
  by_cases ha:l∈ls
  ·rw [if_pos ha] at h1;cases h1
  ·rw [if_neg ha] at h1
   by_cases hb:l1=l
   ·subst hb
    rw [if_pos rfl] at h1;rw [qRa] at h2
    injection h1 with h1;injection h2 with h2
    exact .inl ⟨rfl,h2.symm,h1.symm⟩
   ·rw [if_neg hb] at h1
    rw [hkk l (wGa hb)] at h2
    exact .inr ⟨ha,wGa hb,h1,h2⟩
 have hlive:∀b,b<w.heap.size→qTb (qsb H (Ab.kill ls++[(l1,some o)])) (qLj K l1 gh1) b→qTb H K b:=by
  rintro b hb ⟨l,o',gh',p,h1,h2,h3,h4⟩
  rcases hcase l o' gh' h1 h2 with ⟨rfl,rfl,rfl⟩|⟨_,_,h1,h2⟩
  ·rcases hfoot p h3 with ⟨l,hl,o0,gh,q,q1,q2,q3,q4⟩|⟨h5,_⟩
   ·exact ⟨l,o0,gh,q,q1,q2,q3,q4.trans h4⟩
   ·omega
  ·exact ⟨l,o',gh',p,h1,h2,h3,h4⟩
 have hk:KeepK w w' (NN c H K w) (NN c (qsb H (Ab.kill ls++[(l1,some o)])) (qLj K l1 gh1) w') K (qLj K l1 gh1):=
  ⟨fun fr=>⟨fun b hb=>⟨⟨wY hb.1 hw.2.2.2,fun hn=>hb.2.1 (hlive b hb.1 hn),hb.2.2⟩,hsame b hb.1 (fun l hl o0 gh q q1 q2 q3 e=>hb.2.1 ⟨l,o0,gh,q,q1,q2,q3,e⟩)⟩⟩,hK⟩
 refine ⟨⟨fun l o' hl=>?_,fun l o' gh' p h1 h2 h3=>?_,fun l l' o1 o2 g1 g2 p1 p2 h1 h2 h3 h4 h5 h6 h7=>?_,?_⟩,hk,fun l=>?_,hw.2.2.2⟩
 ·rw [hup] at hl
  by_cases ha:l∈ls
  ·rw [if_pos ha] at hl;cases hl
  ·rw [if_neg ha] at hl
   by_cases hb:l1=l
   ·subst hb
    rw [if_pos rfl] at hl
    injection hl with hl;subst hl
    exact ⟨gh1,qRa,ho _ _ ui hk⟩
   ·rw [if_neg hb] at hl
    obtain ⟨g,hg,hob⟩:=h.objs l o' hl
    refine ⟨g,hK _ _ hg,hob.keep hk (fun p hpl=>hsame _ (h.own l o' g p hl hg hpl).1 (fun l2 hl2 o0 gh q q1 q2 q3 e=>ha ?_))⟩
    have:=h.inj l l2 o' o0 g gh p q hl q1 hg q2 hpl q3 e.symm
    rw [this];exact hl2
 ·rcases hcase l o' gh' h1 h2 with ⟨rfl,rfl,rfl⟩|⟨_,_,h1,h2⟩
  ·rcases hfoot p h3 with ⟨l,hl,o0,gh,q,q1,q2,q3,q4⟩|⟨h5,h6⟩
   ·have:=h.own l o0 gh q q1 q2 q3
    rw [q4] at this
    exact ⟨wY this.1 hw.2.2.2,this.2⟩
   ·exact ⟨h6, .inl (wia h.fr.size h5),wia (hng p h3 h5) (wia h.fr.size h5)⟩
  ·have:=h.own l o' gh' p h1 h2 h3
   exact ⟨wY this.1 hw.2.2.2,this.2⟩
 ·have apart:∀l o' g p p2,l ∉ ls→H l=some o'→K l=some g→Has g p→Has gh1 p2→p.blk=p2.blk→False:=by
   intro l o' g p p2 hl q1 q2 q3 q4 q5
   rcases hfoot p2 q4 with ⟨l2,hl2,o0,gh,q,a1,a2,a3,a4⟩|⟨h8,_⟩
   ·exact hl (by rw [h.inj l l2 o' o0 g gh p q q1 a1 q2 a2 q3 a3 (q5.trans a4.symm)];exact hl2)
   ·have:=(h.own l o' g p q1 q2 q3).1;omega
  rcases hcase l o1 g1 h1 h3 with ⟨rfl,rfl,rfl⟩|⟨n1,_,a1,b1⟩
  ·rcases hcase l' o2 g2 h2 h4 with ⟨rfl,rfl,rfl⟩|⟨n2,_,a2,b2⟩
   ·rfl
   ·exact (apart l' o2 g2 p2 p1 n2 a2 b2 h6 h5 h7.symm).elim
  ·rcases hcase l' o2 g2 h2 h4 with ⟨rfl,rfl,rfl⟩|⟨n2,_,a2,b2⟩
   ·exact (apart l o1 g1 p1 p2 n1 a1 b1 h5 h6 h7).elim
   ·exact h.inj l l' o1 o2 g1 g2 p1 p2 a1 a2 b1 b2 h5 h6 h7
 ·refine ⟨hw.1.trans h.fr.os,hw.2.1.trans h.fr.tape,hw.2.2.1.trans h.fr.output,wia h.fr.size hw.2.2.2,fun k hk1 hk2=>(hsame k (wY hk1 h.fr.size) (fun l hl o0 gh q q1 q2 q3 e=>?_)).trans (h.fr.block k hk1 hk2)⟩
  have:=(h.own l o0 gh q q1 q2 q3).2.1
  rw [e] at this
  rcases this with h3|h3
  ·omega
  ·exact hk2 h3
 ·by_cases hl:l=l1
  ·subst hl;exact .inr hn
  ·exact .inl (hkk l hl)
theorem Stp.move {c:Cx} {H:qZb} {K:Kn} {w w':World} (h:Inv c H K w) (nl l0 l1:Nat) (o0 o:Obj) (gh gh1:Gh) (p0 p1:Plc) (hl0:H l0=some o0) (hg0:K l0=some gh) (hp0:gh.pl=some p0)
  (hn:nl≤l1∧l1<nl+8) (hf:K l1=none) (hp1:gh1.pl=some p1) (hpp:p1.blk=p0.blk)
  (hw:w'.os=w.os∧w'.tape=w.tape∧w'.output=w.output∧w'.heap.size=w.heap.size∧∀k,k≠p0.blk→w'.heap[k]?=w.heap[k]?)
  (ho:∀(N':Bool→Nat→Prop) (K':Kn),(∀b,N' true b→N' false b)→KeepK w w' (NN c H K w) N' K K'→ORd w' N' K' o gh1) (hx:gh1.sh.ex=[]:=by rfl):
  Stp c H K w [(l0,none),(l1,some o)] nl (qLj K l1 gh1) w':=by
 have hall:∀p,Has gh1 p→p.blk=p0.blk:=fun p hp=>by
  rcases hp with hp|hp
  ·rw [hp1] at hp;injection hp with hp;rw [←hp,hpp]
  ·rw [hx] at hp;cases hp
 exact uw h nl l1 [l0] o gh1 hn hf ⟨hw.1,hw.2.1,hw.2.2.1,by rw [hw.2.2.2.1];exact ws _⟩ (fun p hp=> .inl ⟨l0,wT.2 rfl,o0,gh,p0,hl0,hg0, .inl hp0,(hall p hp).symm⟩)
  (fun p hp hlt=>by have:=(h.own l0 o0 gh p0 hl0 hg0 (.inl hp0)).1;rw [hall p hp] at hlt;omega)
  (fun k _ hk=>hw.2.2.2.2 k (fun e=>hk l0 (wT.2 rfl) o0 gh p0 hl0 hg0 (.inl hp0) e.symm)) ho
end Go.Ab

/-
  The model's small moves (load, store, part, field ..), run over what the abstract machine knows of types.
-/
set_option linter.unusedVariables false
set_option linter.unusedSimpArgs false
namespace Go.Ab
open Go
def qUz:TypeDesc→Bool
 | .struct _| .array _ _=>true
 |_=>false
theorem qlk {P:Program} {T:TypeId} {d:TypeDesc} (h:P.underlying T=some d):∃i,P.info? T=some i:=by
 unfold Program.underlying at h
 cases hi:P.info? T with
 |none=>simp [hi] at h
 |some i=>exact ⟨i,rfl⟩
theorem qHc {P:Program} {n:Nat} {T:TypeId} {t:Ty} (h:qod P n T=some t):∃m d i,n=m+1∧P.underlying T=some d∧qEk P (qod P m) d=some t∧P.cellsOf T=t.sz∧P.info? T=some i∧i.size=t.sz:=by
 cases n with
 |zero=>simp [qod] at h
 |succ m=>
  simp only [qod] at h
  split at h
  ·rename_i d hd
   split at h
   ·rename_i ty hty
    split at h
    ·rename_i hsz
     simp only [wc] at h;subst h
     obtain ⟨i,hi⟩:=qlk hd
     have hsz':P.cellsOf T=ty.sz:=by simpa using hsz
     refine ⟨m,d,i,rfl,hd,hty,hsz',hi,?_⟩
     simpa [Program.cellsOf,hi] using hsz'
    ·cases h
   ·cases h
  ·cases h
theorem qEG {P:Program} {f:TypeId→Option Ty} {d:TypeDesc} {t:Ty} (h:qEk P f d=some t):t.agg=qUz d:=by
 cases d <;> simp only [qEk] at h <;> first|(cases h;done)|skip
 all_goals first
  |(simp only [wc] at h;subst h;rfl)
  |(split at h <;> first
    |(simp only [wc] at h;subst h;rfl)
    |(split at h <;> first
      |(simp only [wc] at h;subst h
        rename_i ts _ _
        cases ts <;> rfl)
      |cases h)
    |cases h)
section
variable {P:Program} {w:World}
theorem qFh {T:TypeId} {i:TypeInfo} (h:P.info? T=some i):(typeInfo T).run P w= .ok i w:=by
 simp [typeInfo,h]
theorem qLb {n:Nat} {T:TypeId} {t:Ty} (h:qod P n T=some t):(sizeOf T).run P w= .ok t.sz w:=by
 obtain ⟨m,d,i,_,_,_,_,hi,hs⟩:=qHc h
 simp [sizeOf,qFh hi,hs]
theorem qzA {n:Nat} {T:TypeId} {t:Ty} (h:qod P n T=some t):(isAgg T).run P w= .ok t.agg w:=by
 obtain ⟨m,d,i,_,hd,hr,_,_,_⟩:=qHc h
 rw [qEG hr]
 simp only [isAgg,wu,run_underlying hd,wq]
 cases d <;> rfl
theorem qFw {T:TypeId} {d:TypeDesc} (hd:P.underlying T=some d):(isAgg T).run P w= .ok (qUz d) w:=by
 simp only [isAgg,wu,run_underlying hd,wq]
 cases d <;> rfl
theorem qpc {n:Nat} {T:TypeId} {e:Ty} (h:qod P n T=some (.slice e)):∃m E,n=m+1∧P.underlying T=some (.slice E)∧qod P m E=some e:=by
 obtain ⟨m,d,i,hn,hd,hr,_⟩:=qHc h
 cases d <;> simp only [qEk] at hr <;> first|(cases hr;done)|skip
 ·split at hr
  ·rename_i E t ht
   simp only [wc,Ty.slice.injEq] at hr;subst hr
   exact ⟨m,_,hn,hd,ht⟩
  ·cases hr
 ·split at hr
  ·simp at hr
  ·cases hr
 ·split at hr
  ·split at hr
   ·simp only [wc] at hr
    rename_i ts _ _
    cases ts <;> simp [qYd] at hr
   ·cases hr
  ·cases hr
theorem qSp {n k:Nat} {T:TypeId} {e:Ty} (h:qod P n T=some (.arr k e)):∃m E,n=m+1∧P.underlying T=some (.array k E)∧qod P m E=some e:=by
 obtain ⟨m,d,i,hn,hd,hr,_⟩:=qHc h
 cases d <;> simp only [qEk] at hr <;> first|(cases hr;done)|skip
 ·split at hr
  ·simp at hr
  ·cases hr
 ·split at hr
  ·rename_i E t ht
   simp only [wc,Ty.arr.injEq] at hr;obtain ⟨rfl,rfl⟩:=hr
   exact ⟨m,_,hn,hd,ht⟩
  ·cases hr
 ·split at hr
  ·split at hr
   ·simp only [wc] at hr
    rename_i ts _ _
    cases ts <;> simp [qYd] at hr
   ·cases hr
  ·cases hr
theorem qoC {n:Nat} {T:TypeId} {t:Ty} {fs:Array Field} (h:qod P n T=some t) (hd:P.underlying T=some (.struct fs)):∃m ts,n=m+1∧qDk (qod P m) fs.toList=some ts∧qXj P fs.toList ts 0=true∧t=qYd ts:=by
 obtain ⟨m,d,i,hn,hd',hr,_⟩:=qHc h
 rw [hd] at hd';injection hd' with hd';subst hd'
 simp only [qEk] at hr
 split at hr
 ·rename_i ts hts
  split at hr
  ·rename_i ho
   simp only [wc] at hr
   exact ⟨m,ts,hn,hts,ho,hr.symm⟩
  ·cases hr
 ·cases hr
theorem qFG {n:Nat} {T:TypeId} {a b:Ty} (h:qod P n T=some (.pair a b)):∃fs,P.underlying T=some (.struct fs):=by
 obtain ⟨m,d,i,hn,hd,hr,_⟩:=qHc h
 cases d <;> simp only [qEk] at hr <;> first|(cases hr;done)|(exact ⟨_,hd⟩)|skip
 all_goals first
  |(simp at hr;done)
  |(split at hr <;> simp at hr)
theorem qls:∀{ts:List Ty} {fs:List Field} {o0:Nat} {i:Nat} {f:TypeId→Option Ty},qDk f fs=some ts→qXj P fs ts o0=true→∀{o:Nat} {ty:Ty},qDa (qYd ts) (qXa i)=some (o,ty)→
  ∃fd,fs[i]?=some fd∧fd.offset=o0+o∧f fd.type=some ty
 |[],fs,o0,i,f,h,ho,o,ty,hp=>by cases i <;> simp [qYd,qXa,qDa] at hp
 |t::ts,fs,o0,i,f,h,ho,o,ty,hp=>by
  cases fs with
  |nil=>simp [qDk] at h
  |cons x fs=>
   simp only [qDk] at h
   split at h
   ·rename_i t' ts' h1 h2
    simp only [wc,wFa] at h;obtain ⟨rfl,rfl⟩:=h
    simp only [qXj,wz,beq_iff_eq] at ho
    cases i with
    |zero=>
     simp only [qYd,qXa,qDa,wc,wk] at hp
     obtain ⟨rfl,rfl⟩:=hp
     exact ⟨x,rfl,by simpa using ho.1,h1⟩
    |succ i=>
     simp only [qYd,qXa,qDa] at hp
     split at hp
     ·rename_i o2 t2 hp2
      simp only [wc,wk] at hp;obtain ⟨rfl,rfl⟩:=hp
      obtain ⟨fd,e1,e2,e3⟩:=qls h2 ho.2 hp2
      exact ⟨fd,by simpa using e1,by omega,e3⟩
     ·cases hp
   ·cases h
theorem qCD {b o:Nat} {cs:List Value} (h:CellsAt w b o cs):∀j v,cs[j]?=some v→w.cell? ((⟨b,o,none⟩:Addr).add j)=some v:=fun j v hj=>by
 rw [wNa];exact h j v hj
theorem qVl {n:Nat} {T:TypeId} {t:Ty} (h:qod P n T=some t) {b o:Nat} {cs:List Value} (hc:CellsAt w b o cs) (hl:cs.length=t.sz):(loadVar T ⟨b,o,none⟩).run P w= .ok (qhb t cs) w:=by
 unfold loadVar
 simp only [wu,qzA h,wq]
 cases ha:t.agg with
 |true=>
  simp only [if_true,Sem.run_map,wu,qLb h,wq]
  rw [←hl,run_loadCells_list w _ cs (qCD hc)]
  simp [qhb,ha]
 |false=>
  simp only [wI,if_false]
  have h1:cs.length=1:=by
   rw [hl];cases t <;> simp_all [Ty.agg,Ty.sz]
  obtain ⟨v,rfl⟩:=List.length_eq_one_iff.1 h1
  have:=hc 0 v rfl
  simp only [wXa] at this
  simp [run_load,this,qhb,ha]
theorem qMj {n:Nat} {T:TypeId} {t:Ty} (h:qod P n T=some t) {cs:List Value} {o:Nat} (ho:o+t.sz≤cs.length):(part T cs.toArray o).run P w= .ok (qhb t (cut cs o t.sz)) w:=by
 unfold part
 simp only [wu,qzA h,wq]
 cases ha:t.agg with
 |true=>
  simp only [if_true,Sem.run_map,wu,qLb h,wq]
  simp [qhb,ha,cut,List.extract_eq_take_drop]
 |false=>
  simp only [wI,if_false]
  have h1:t.sz=1:=by cases t <;> simp_all [Ty.agg,Ty.sz]
  have hlt:o<cs.length:=by omega
  have h2:cs.toArray[o]?=some cs[o]:=by simp [hlt]
  simp only [h2]
  have h3:cut cs o t.sz=[cs[o]]:=by
   rw [h1];simp only [cut]
   rw [List.drop_eq_getElem_cons hlt];rfl
  simp [qhb,ha,h3]
theorem qcn {n:Nat} {T:TypeId} {t:Ty} (h:qod P n T=some t) {p:Plc} {cs s:List Value} {o:Nat} (hb:InBlk w p cs) (ho:o+s.length≤cs.length) {v:Value} (hv:v.cells.toList=s) (hs:s.length=t.sz) (h1:∀u∈s,u.oneCell'=true):
  (storeVar T ⟨p.blk,p.ob+o,none⟩ v).run P w= .ok () (w.setCells p.blk (p.ob+o) s):=by
 unfold storeVar
 simp only [wu,qLb h,wq,hv]
 rw [if_neg (by rw [←hs,←hv];simp)]
 have hbs:p.ob+cs.length≤p.bs:=by obtain ⟨_,_,_,_,_,_,h4,_⟩:=hb;exact h4
 have:=run_storeCells_cells (P:=P) p.blk (p.ob+o) s 0 w (fun j hj=>by
  obtain ⟨u,_,hu⟩:=hb.at_ (o:=o) j (by omega)
  rw [wXa,hu];rfl) (fun j hj=>hb.free (by omega)) h1
 simpa using this
end
end Go.Ab

/-
  Operations that touch no memory, and loads.
-/
set_option linter.unusedVariables false
set_option linter.unusedSimpArgs false
namespace Go.Ab
open Go
def Does (P:Program) (o:Oper) (ρ:Operand→Value) (w:World) (R:Value→World→Prop):Prop:=
 match (execOp ρ o).run P w with
 | .ok (.value v) w'=>R v w'
 | .ok .skip w'=>R undef w'
 | .ok (.enter f args) w'=>Calls P f args w' fun e w''=>∃v,e= .returned v∧R v w''
 |_=>False
theorem Does.value {P:Program} {o:Oper} {ρ:Operand→Value} {w w':World} {R:Value→World→Prop} {v:Value} (h:(execOp ρ o).run P w= .ok (.value v) w') (hR:R v w'):Does P o ρ w R:=by
 unfold Does;rw [h];exact hR
theorem Does.skip {P:Program} {o:Oper} {ρ:Operand→Value} {w w':World} {R:Value→World→Prop} (h:(execOp ρ o).run P w= .ok .skip w') (hR:R undef w'):Does P o ρ w R:=by
 unfold Does;rw [h];exact hR
theorem Does.enter {P:Program} {o:Oper} {ρ:Operand→Value} {w w':World} {R:Value→World→Prop} {f:FuncId} {args:Array Value} (h:(execOp ρ o).run P w= .ok (.enter f args) w') (hR:Calls P f args w' fun e w''=>∃v,e= .returned v∧R v w''):Does P o ρ w R:=by
 unfold Does;rw [h];exact hR
def Lands (c:Cx) (H:qZb) (K:Kn) (w:World) (nl:Nat) (out:Out) (v:Value) (w':World):Prop:=
 ∃K',Stp c H K w out.upd nl K' w'∧TVRd w' (NN c (qsb H out.upd) K' w') K' out.v v
structure At (c:Cx) (P:Program) (GT:qTg) (H lk:qZb) (K:Kn) (w:World) (ev:Operand→TV) (ρ:Operand→Value) (nl:Nat):Prop where
 inv:Inv c H K w
 sub:∀l o,lk l=some o→H l=some o
 ev:∀x,TVRd w (NN c H K w) K (ev x) (ρ x)
 fresh:∀l,nl≤l→l<nl+8→K l=none
 ng:c.ng≤c.w0.heap.size
 glob:Glob P GT w
 gng:c.ng=(ngOf GT)
section
variable {c:Cx} {P:Program} {GT:qTg} {H lk:qZb} {K:Kn} {w:World} {ev:Operand→TV} {ρ:Operand→Value} {nl:Nat}
theorem At.one (h:At c P GT H lk K w ev ρ nl) {x:Operand} {v:AV} (e:ev1 ev x=some v):VRd w (NN c H K w) K v (ρ x):=by
 have:=h.ev x
 unfold ev1 at e
 split at e
 ·rename_i u hu
  rw [hu] at this
  simp only [wc] at e;subst e;exact this
 ·cases e
theorem Lands.same (h:Inv c H K w) {v:Value} {t:TV} {cs:List Prop} (hv:TVRd w (NN c H K w) K t v):Lands c H K w nl ⟨t,[],cs⟩ v w:=
 ⟨K,Stp.refl h nl,by rw [qdJ];exact hv⟩
theorem Lands.one (h:Inv c H K w) {v:Value} {a:AV} {cs:List Prop} (hv:VRd w (NN c H K w) K a v):Lands c H K w nl ⟨.one a,[],cs⟩ v w:=Lands.same h hv
theorem qly (h:Inv c H K w) (hng:c.ng≤c.w0.heap.size) {l0:Nat} (hn:nl≤l0∧l0<nl+8) (hf:K l0=none) (e:Ty):
  Stp c H K w [(l0,some (.row e true []))] nl (qLj K l0 ⟨.row e 0 [],none⟩) w:=
 Stp.new h hng nl l0 hn hf (.row e true []) ⟨.row e 0 [],none⟩ ⟨rfl,rfl,rfl,ws _,fun _ _=>rfl⟩ (fun p hp=>by cases hp) (fun N' K' _ hk=>⟨rfl,rfl⟩)
theorem qEB (A:At c P GT H lk K w ev ρ nl) {o:Oper} {x:Operand} (ho:o.op= .move x∨o.op= .assign x) {orc:Option COrc} {out:Out} (h:qGb P GT ev lk nl orc o.type o.op=some out):
  Does P o ρ w (Lands c H K w nl out):=by
 have hrun:(execOp ρ o).run P w= .ok (.value (ρ x)) w:=by
  rcases ho with ho|ho <;> simp [execOp,ho]
 by_cases hm:o.op= .move x
 ·rw [hm] at h
  simp only [qGb,wc] at h;subst h
  exact Does.value hrun (Lands.same A.inv (A.ev x))
 replace ho:=ho.resolve_left hm
 have h':(match ev x with
  | .one .nil=>match qod P tyD o.type with
    |some (.slice e)=>some (⟨.one (.ref e nl 0 0 true),[(nl,some (.row e true []))],[]⟩:Out)
    |_=>some ⟨.one .nil,[],[]⟩
  |v=>some ⟨v,[],[]⟩)=some out:=by
  rw [ho] at h;exact h
 refine Does.value hrun ?_
 have hx:=A.ev x
 split at h'
 ·rename_i hev
  rw [hev] at hx
  split at h'
  ·rename_i e he
   simp only [wc] at h';subst h'
   refine ⟨_,qly A.inv A.ng ⟨ws _,by omega⟩ (A.fresh nl (ws _) (by omega)) e,?_⟩
   exact ⟨0,none,⟨[],qRa⟩,ws _,fun _=>⟨rfl,rfl⟩,hx,rfl⟩
  ·simp only [wc] at h';subst h'
   exact Lands.one A.inv hx
 ·simp only [wc] at h';subst h'
  exact Lands.same A.inv hx
theorem qqI (A:At c P GT H lk K w ev ρ nl) {o:Oper} {x y z:Operand} (ho:o.op= .pick x y z) {orc:Option COrc} {out:Out} (h:qGb P GT ev lk nl orc o.type o.op=some out):
  Does P o ρ w (Lands c H K w nl out):=by
 rw [ho] at h
 simp only [qGb] at h
 split at h
 ·rename_i hb
  have hx:=A.one hb
  simp only [VRd] at hx
  simp only [wc] at h;subst h
  exact Does.value (v:=ρ y) (w':=w) (by simp [execOp,ho,hx,asBool]) (Lands.same A.inv (A.ev y))
 ·rename_i hb
  have hx:=A.one hb
  simp only [VRd] at hx
  simp only [wc] at h;subst h
  exact Does.value (v:=ρ z) (w':=w) (by simp [execOp,ho,hx,asBool]) (Lands.same A.inv (A.ev z))
 ·cases h
theorem VRdL.get {w:World} {N:Bool→Nat→Prop} {K:Kn}:∀{as:List AV} {vs:List Value} {i:Nat} {a:AV},VRdL w N K as vs→as[i]?=some a→∃v,vs[i]?=some v∧VRd w N K a v
 |[],_,i,a,_,e=>by simp at e
 |_::_,_,i,a,h,e=>by
  obtain ⟨v,r,rfl,h1,h2⟩:=h
  cases i with
  |zero=>simp at e;subst e;exact ⟨v,rfl,h1⟩
  |succ i=>simp at e;obtain ⟨u,hu,h3⟩:=h2.get e;exact ⟨u,by simpa using hu,h3⟩
theorem qHB (A:At c P GT H lk K w ev ρ nl) {o:Oper} {x:Operand} {i:Nat} (ho:o.op= .extract x i) {orc:Option COrc} {out:Out} (h:qGb P GT ev lk nl orc o.type o.op=some out):
  Does P o ρ w (Lands c H K w nl out):=by
 rw [ho] at h
 simp only [qGb] at h
 have hx:=A.ev x
 split at h
 ·rename_i vs hev
  rw [hev] at hx
  obtain ⟨us,hu,hL⟩:=hx
  split at h
  ·rename_i a ha
   simp only [Ab.one,wc] at h;subst h
   obtain ⟨v,hv,hr⟩:=hL.get ha
   exact Does.value (v:=v) (w':=w) (by simp [execOp,ho,hu,Instr.extract,hv]) (Lands.one A.inv hr)
  ·cases h
 ·cases h
theorem qIq (A:At c P GT H lk K w ev ρ nl) {o:Oper} {x:Operand} {T:TypeId} (ho:o.op= .makeInterface T x) {orc:Option COrc} {out:Out} (h:qGb P GT ev lk nl orc o.type o.op=some out):
  Does P o ρ w (Lands c H K w nl out):=by
 rw [ho] at h
 simp only [qGb] at h
 split at h
 ·rename_i k n hev
  have hx:=A.one hev
  simp only [VRd] at hx
  split at h
  ·rename_i d hd
   simp only [Ab.one,wc] at h;subst h
   exact Does.value (v:= .iface T (.int k n)) (w':=w) (by simp [execOp,ho,hx,Instr.makeInterface,run_underlying hd]) (Lands.one A.inv rfl)
  ·cases h
 ·rename_i t l p hev
  obtain ⟨sh,pl,po,h1,h2,h3⟩:=A.one hev
  split at h
  ·rename_i d hd
   simp only [Ab.one,wc] at h;subst h
   exact Does.value (v:= .iface T (.pointer (some ⟨pl.blk,pl.ob+po,none⟩))) (w':=w) (by simp [execOp,ho,h3,Instr.makeInterface,run_underlying hd]) (Lands.one A.inv ⟨sh,pl,po,h1,h2,rfl⟩)
  ·cases h
 ·cases h
theorem quz (A:At c P GT H lk K w ev ρ nl) {o:Oper} {x:Operand} (ho:o.op= .nilCheck x) {orc:Option COrc} {out:Out} (h:qGb P GT ev lk nl orc o.type o.op=some out):
  Does P o ρ w (Lands c H K w nl out):=by
 rw [ho] at h
 simp only [qGb] at h
 split at h
 ·rename_i t l p hev
  have hx:=A.one hev
  simp only [Ab.one,wc] at h;subst h
  have hx':=hx
  obtain ⟨sh,pl,po,h1,h2,h3⟩:=hx
  exact Does.value (v:=ρ x) (w':=w) (by simp [execOp,ho,h3]) (Lands.one A.inv hx')
 ·rename_i l hev
  have hx:=A.one hev
  simp only [Ab.one,wc] at h;subst h
  have hx':=hx
  obtain ⟨sh,pl,h1,h3⟩:=hx
  exact Does.value (v:=ρ x) (w':=w) (by simp [execOp,ho,h3]) (Lands.one A.inv hx')
 ·cases h
theorem quF {op:BinOp} {T:TypeId} {k:IntKind} {a b:Int} {v:AV} {cs:List Prop} (h:qPH op k a b=some (v,cs)) (hc:qfg cs):
  ∃u,(binOp op T (.int k a) (.int k b)).run P w= .ok u w∧∀N K,VRd w N K v u:=by
 cases op <;> simp only [qPH] at h <;> first
  |(cases h;done)
  |(simp only [wc,wk] at h;obtain ⟨rfl,rfl⟩:=h)
  |(simp only [qWE,wc,wk] at h;obtain ⟨rfl,rfl⟩:=h)
 all_goals refine ⟨_,?_,fun _ _=>rfl⟩
 all_goals first
  |(simp [binOp,Op.intArith];done)
  |(simp [binOp,Op.intCmp];done)
  |(simp only [binOp,ne_eq,not_true_eq_false,if_false];rfl)
  |(have h0:=hc.1;simp [binOp,Op.intDiv,h0];done)
theorem qtF {op:BinOp} {T:TypeId} {a b:ByteArray} {v:AV} {cs:List Prop} (h:qJG op a b=some (v,cs)) (hc:qfg cs):
  ∃u,(binOp op T (.string a) (.string b)).run P w= .ok u w∧∀N K,VRd w N K v u:=by
 cases op <;> simp only [qJG] at h <;> first
  |(cases h;done)
  |(simp only [wc,wk] at h;obtain ⟨rfl,rfl⟩:=h)
 ·have h0:a.size+b.size≤140737488355328:=hc.1
  refine ⟨.string (a++b),?_,fun _ _=>rfl⟩
  have h1:¬(((a.size+b.size:Nat):Int)>IntKind.i64.max):=by
   rw [IntKind.max_i64];omega
  simp only [binOp,Op.stringOp,Sem.run_ite,if_neg h1]
  rfl
 ·exact ⟨_,by simp [binOp,Op.stringOp],fun _ _=>rfl⟩
 ·exact ⟨_,by simp [binOp,Op.stringOp],fun _ _=>rfl⟩
end
end Go.Ab

/-
  '==' of structs and arrays.
-/
set_option linter.unusedVariables false
set_option linter.unusedSimpArgs false
namespace Go.Ab
open Go
section
variable {P:Program} {w:World} {N:Nat→Prop}
theorem qwI {α:Type} {R:α→List Value→Prop} {n:Nat} (hR:∀x cs,R x cs→cs.length=n) {x:α} {xs:List α} {cs:List Value} {k:Nat} (h:Cat R (x::xs) (cs.drop (k*n))):R x (cut cs (k*n) n)∧Cat R xs (cs.drop ((k+1)*n))∧k*n+n≤cs.length:=by
 obtain ⟨c1,c2,e,h1,h2⟩:=h
 have hl:=hR _ _ h1
 refine ⟨?_,?_,?_⟩
 ·unfold cut;rw [e,←hl,List.take_left'];exact h1;rfl
 ·rw [show (k+1)*n=k*n+n by rw [wua],←wka,e,←hl,List.drop_left'];exact h2;rfl
 ·have:=congrArg we e
  simp only [List.length_drop,wl] at this
  by_cases hz:n=0
  ·subst hz;simp
  ·omega
theorem qLx {d m:Nat} {E:TypeId} {e:Ty} (hE:qod P m E=some e)
  (IH:∀(x y:pden e) (c1 c2:List Value),PRd w N e x c1→PRd w N e y c2→(wdb d E (qhb e c1) (qhb e c2)).run P w= .ok (peq e x y) w) (cs ds:List Value):
  ∀(us vs:List (pden e)) (k:Nat),us.length=vs.length→Cat (PRd w N e) us (cs.drop (k*e.sz))→Cat (PRd w N e) vs (ds.drop (k*e.sz))→
   (forIn (List.range' k us.length 1) ((none,()):Option Bool×Unit) fun i __s=>do
    let a ←part E cs.toArray (i*e.sz)
    let b ←part E ds.toArray (i*e.sz)
    let r ←wdb d E a b
    if (!r)=true then pure (ForInStep.done (some false,())) else pure (ForInStep.yield (none,())):Sem (Option Bool×Unit)).run P w= .ok (if qdA (peq e) us vs then (none,()) else (some false,())) w
 |[],[],k,_,_,_=>by simp [qdA]
 |[],_::_,k,h,_,_=>by simp at h
 |_::_,[],k,h,_,_=>by simp at h
 |x::us,y::vs,k,hl,h1,h2=>by
  obtain ⟨a1,a2,a3⟩:=qwI (fun _ _=>PRd.length) h1
  obtain ⟨b1,b2,b3⟩:=qwI (fun _ _=>PRd.length) h2
  have ih:=qLx hE IH cs ds us vs (k+1) (by simpa using hl) a2 b2
  simp only [ww,List.range'_succ,List.forIn_cons,wu,qMj hE a3,qMj hE b3,wq,IH x y _ _ a1 b1,qdA]
  by_cases hp:peq e x y=true
  ·simpa [hp] using ih
  ·simp [Bool.eq_false_iff.2 hp]
theorem qfs {d:Nat} {m:Nat} (IH:∀(T:TypeId) (t:Ty) (x y:pden t) (c1 c2:List Value),qod P m T=some t→qyf t=true→qhI P m T=true→PRd w N t x c1→PRd w N t y c2→(wdb d T (qhb t c1) (qhb t c2)).run P w= .ok (peq t x y) w):
  ∀(fs:List Field) (ts:List Ty) (o:Nat),qDk (qod P m) fs=some ts→qXj P fs ts o=true→qyf (qYd ts)=true→qJJ (qhI P m) fs=true→
   ∀(x y:pden (qYd ts)) (cs ds:List Value),PRd w N (qYd ts) x (cs.drop o)→PRd w N (qYd ts) y (ds.drop o)→o≤cs.length→o≤ds.length→
    (Op.eqFields d cs.toArray ds.toArray fs).run P w= .ok (peq (qYd ts) x y) w
 |[],ts,o,ht,ho,hc,hq,x,y,cs,ds,hx,hy,h1,h2=>by
  simp only [qDk,wc] at ht;subst ht
  simp [Op.eqFields,qYd,peq]
 |f::fs,ts,o,ht,ho,hc,hq,x,y,cs,ds,hx,hy,h1,h2=>by
  simp only [qDk] at ht
  split at ht
  ·rename_i t ts' e1 e2
   simp only [wc] at ht;subst ht
   simp only [qXj,wz,beq_iff_eq] at ho
   simp only [qJJ,wz,bne_iff_ne,ne_eq] at hq
   simp only [qYd,qyf,wz] at hc
   obtain ⟨c1,c2,ec,x1,x2⟩:=hx
   obtain ⟨d1,d2,ed,y1,y2⟩:=hy
   have lc:=x1.length
   have ld:=y1.length
   have llc:cs.length=o+(c1.length+c2.length):=by have:=congrArg we ec;simp at this;omega
   have lld:ds.length=o+(d1.length+d2.length):=by have:=congrArg we ed;simp at this;omega
   have kc:cut cs o t.sz=c1:=by unfold cut;rw [ec,←lc,List.take_left'];rfl
   have kd:cut ds o t.sz=d1:=by unfold cut;rw [ed,←ld,List.take_left'];rfl
   have rc:cs.drop (o+t.sz)=c2:=by rw [←wka,ec,←lc,List.drop_left'];rfl
   have rd:ds.drop (o+t.sz)=d2:=by rw [←wka,ed,←ld,List.drop_left'];rfl
   have ih:=qfs IH fs ts' (o+t.sz) e2 ho.2 hc.2 hq.2 x.2 y.2 cs ds (by rw [rc];exact x2) (by rw [rd];exact y2) (by omega) (by omega)
   simp only [Op.eqFields]
   rw [if_pos hq.1.1,ho.1]
   simp only [wu,qMj e1 (show o+t.sz≤cs.length by omega),qMj e1 (show o+t.sz≤ds.length by omega),wq,kc,kd,IH f.type t x.1 y.1 c1 d1 e1 hc.1 hq.1.2 x1 y1]
   simp only [qYd,peq]
   by_cases hp:peq t x.1 y.1=true
   ·simpa [hp] using ih
   ·simp [Bool.eq_false_iff.2 hp]
  ·cases ht
theorem qmp:∀(n d:Nat) (T:TypeId) (t:Ty) (x y:pden t) (cs ds:List Value),n≤d→qod P n T=some t→qyf t=true→qhI P n T=true→PRd w N t x cs→PRd w N t y ds→
  (wdb d T (qhb t cs) (qhb t ds)).run P w= .ok (peq t x y) w
 |0,d,T,t,x,y,cs,ds,hn,ht,hc,hq,hx,hy=>by simp [qod] at ht
 |n+1,0,T,t,x,y,cs,ds,hn,ht,hc,hq,hx,hy=>by omega
 |n+1,d+1,T,t,x,y,cs,ds,hn,ht,hc,hq,hx,hy=>by
  obtain ⟨m,ds',i,hm,hd,hr,_⟩:=qHc ht
  injection hm with hm;subst hm
  have IH:=fun T t x y c1 c2 h1 h2 h3 h4 h5=>qmp n d T t x y c1 c2 (by omega) h1 h2 h3 h4 h5
  simp only [qhI,hd] at hq
  cases ds' <;> simp only [qEk] at hr <;> first|(cases hr;done)|skip
  ·simp only [wc] at hr;subst hr
   simp only [PRd] at hx hy;subst hx;subst hy
   simp [qhb,Ty.agg,run_equalIn_bool w d T x y hd,peq]
  ·simp only [wc] at hr;subst hr
   simp only [PRd] at hx hy;subst hx;subst hy
   simp only [qhb,Ty.agg,wI,if_false,List.headD_cons,run_equalIn_int w d T _ _ _ _ hd,peq]
   rfl
  ·simp only [wc] at hr;subst hr
   simp only [PRd] at hx hy;subst hx;subst hy
   simp only [qhb,Ty.agg,wI,if_false,List.headD_cons,run_equalIn_string w d T _ _ hd,peq]
  ·split at hr
   ·simp only [wc] at hr;subst hr;simp [qyf] at hc
   ·cases hr
  ·split at hr
   ·rename_i k E _ e he
    simp only [wc] at hr;subst hr
    simp only [qyf] at hc
    simp only [] at hq
    obtain ⟨lx,cx⟩:=hx
    obtain ⟨ly,cy⟩:=hy
    have L:=qLx (d:=d) he (fun x y c1 c2 h1 h2=>IH E e x y c1 c2 he hc hq h1 h2) cs ds x y 0 (by omega) (by simpa using cx) (by simpa using cy)
    rw [lx] at L
    simp only [qhb,Ty.agg,if_true,wdb,wu,run_underlying hd,wq,qLb he,Std.Legacy.Range.forIn_eq_forIn_range',Std.Legacy.Range.size,Nat.sub_zero,Nat.add_sub_cancel,Nat.div_one]
    rw [L]
    simp only [wq,peq]
    cases qdA (peq e) x y <;> rfl
   ·cases hr
  ·rename_i fs
   split at hr
   ·rename_i ts hts
    split at hr
    ·rename_i ho
     simp only [wc] at hr;subst hr
     simp only [wz,Bool.not_eq_true'] at hq
     have hf:P.fieldsOf T=fs:=by simp [Program.fieldsOf,hd]
     have ha:(qYd ts).agg=true:=by cases ts <;> rfl
     simp only [qhb,ha,if_true]
     rw [run_equalIn_struct w d T _ _ (by rw [hf];exact hd) hq.1,hf]
     exact qfs IH fs.toList ts 0 hts ho hc hq.2 x y cs ds (by simpa using hx) (by simpa using hy) (by omega) (by omega)
    ·cases hr
   ·cases hr
  ·simp only [wc] at hr;subst hr;simp [qyf] at hc
end
end Go.Ab

/-
  Operators, fields, elements, cuts, lengths, loads.
-/
set_option linter.unusedVariables false
set_option linter.unusedSimpArgs false
namespace Go.Ab
open Go
section
variable {c:Cx} {P:Program} {GT:qTg} {H lk:qZb} {K:Kn} {w:World} {ev:Operand→TV} {ρ:Operand→Value} {nl:Nat}
theorem qyA {op:BinOp} {k yk:IntKind} {a b:Int} (h:0≤b):(op= .shl→(Op.shift op k a yk b).run P w= .ok (.int k (k.wrap (a*2 ^ (min b.toNat k.bits)))) w)∧(op= .shr→(Op.shift op k a yk b).run P w= .ok (.int k (a.fdiv (2 ^ (min b.toNat k.bits)))) w):=by
 have h0:¬b<0:=by omega
 constructor <;> (rintro rfl;simp [Op.shift,h0])
theorem qnD {op:BinOp} {T:TypeId} {x y:Operand} {a b:Array Value} (h:P.eqGuardType P.depth T=false):(eqGuard op T x y (.agg a) (.agg b)).run P w= .ok () w:=by
 unfold eqGuard
 cases op <;> simp [h]
theorem qYC {T:TypeId} (h:qZC P T=true):P.underlying T=some .bool:=by
 unfold qZC at h
 split at h
 ·assumption
 ·cases h
theorem qzn {T:TypeId} (h:qxt P T=true):∃ms,P.underlying T=some (.interface ms):=by
 unfold qxt at h
 split at h
 ·exact ⟨_,by assumption⟩
 ·cases h
theorem qii (d:Nat) {T:TypeId} {t:TypeId} {v:Value} {ms:Array (String×TypeId)} (hd:P.underlying T=some (.interface ms)):(wdb (d+1) T (.iface t v) .nilIface).run P w= .ok false w:=by
 simp only [wdb,wu,run_underlying hd,wq,wE]
theorem qzo (d:Nat) {T:TypeId} {t:TypeId} {v:Value} {ms:Array (String×TypeId)} (hd:P.underlying T=some (.interface ms)):(wdb (d+1) T .nilIface (.iface t v)).run P w= .ok false w:=by
 simp only [wdb,wu,run_underlying hd,wq,wE]
theorem qyn {T:TypeId} (h:qfm P T=true):∃e,P.underlying T=some (.slice e):=by
 unfold qfm at h
 split at h
 ·exact ⟨_,by assumption⟩
 ·cases h
theorem qwh {op:BinOp} {T:TypeId} {x y:Operand} {a b:Option Addr} {n n' c c':Nat}:(eqGuard op T x y (.slice a n c) (.slice b n' c')).run P w= .ok () w:=by
 unfold eqGuard
 cases op <;> simp
theorem qpg (d:Nat) {T:TypeId} {e:TypeId} {a:Option Addr} {n c:Nat} (hd:P.underlying T=some (.slice e)):(wdb (d+1) T (.slice a n c) (.slice none 0 0)).run P w= .ok a.isNone w:=by
 cases a <;> simp only [wdb,wu,run_underlying hd,wq,wE,Option.isNone]
theorem qFr {op:BinOp} {T:TypeId} {x:Operand} {c:Value}:(eqGuard op T x (.const c) .nilIface .nilIface).run P w= .ok () w:=by
 unfold eqGuard
 cases op <;> simp
theorem qlp (d:Nat) {T:TypeId} {ms:Array (String×TypeId)} (hd:P.underlying T=some (.interface ms)):(wdb (d+1) T .nilIface .nilIface).run P w= .ok true w:=by
 simp only [wdb,wu,run_underlying hd,wq,wE]
theorem qSG (A:At c P GT H lk K w ev ρ nl) {op:BinOp} {T:TypeId} {x y:Operand} {a b v:AV} {cs:List Prop} {u1 u2:Value} (h1:VRd w (NN c H K w) K a u1) (h2:VRd w (NN c H K w) K b u2) (he:qDL a y=true) (h:qcl P op T a b=some (v,cs)) (hc:qfg cs):
  ∃u,(do eqGuard op T x y u1 u2;binOp op T u1 u2:Sem Value).run P w= .ok u w∧VRd w (NN c H K w) K v u:=by
 cases a with
 |int k a=>
  cases b with
  |int k' b=>
   simp only [VRd] at h1 h2;subst h1;subst h2
   simp only [eqGuard_at_int,wu,wE,wq]
   simp only [qcl] at h
   split at h
   ·simp only [wc,wk] at h;obtain ⟨rfl,rfl⟩:=h
    exact ⟨_,(qyA (P:=P) (w:=w) (yk:=k') hc.1).1 rfl,rfl⟩
   ·simp only [wc,wk] at h;obtain ⟨rfl,rfl⟩:=h
    exact ⟨_,(qyA (P:=P) (w:=w) (yk:=k') hc.1).2 rfl,rfl⟩
   ·split at h
    ·rename_i hk;subst hk
     obtain ⟨u,hu,hv⟩:=quF (P:=P) (w:=w) (T:=T) h hc
     exact ⟨u,hu,hv _ _⟩
    ·cases h
  |_=>simp [qcl] at h
 |bool a=>
  cases b with
  |bool b=>
   simp only [VRd] at h1 h2;subst h1;subst h2
   simp only [eqGuard_at_bool,wu,wE,wq]
   simp only [qcl] at h
   split at h
   ·rename_i hd
    have hd':P.underlying T=some .bool:=qYC hd
    have heq:=run_equalIn_bool (P:=P) w 9999 T a b hd'
    split at h
    ·simp only [wc,wk] at h;obtain ⟨rfl,rfl⟩:=h
     exact ⟨.bool (a==b),by simp only [binOp,wjb,wHa,wu,heq,wq,wE],rfl⟩
    ·simp only [wc,wk] at h;obtain ⟨rfl,rfl⟩:=h
     exact ⟨.bool (!(a==b)),by simp only [binOp,wjb,wHa,wu,heq,wq,wE],rfl⟩
    ·cases h
   ·cases h
  |_=>simp [qcl] at h
 |str a=>
  cases b with
  |str b=>
   simp only [VRd] at h1 h2;subst h1;subst h2
   simp only [eqGuard_at_string,wu,wE,wq]
   simp only [qcl] at h
   obtain ⟨u,hu,hv⟩:=qtF (P:=P) (w:=w) (T:=T) h hc
   exact ⟨u,hu,hv _ _⟩
  |_=>simp [qcl] at h
 |agg t a=>
  cases b with
  |agg t' b=>
   obtain ⟨c1,rfl,ha1,h1⟩:=h1
   obtain ⟨c2,rfl,ha2,h2⟩:=h2
   simp only [qcl] at h
   split at h
   ·rename_i ht;subst ht
    split at h
    ·rename_i r hr
     simp only [qXM] at hr
     split at hr
     ·rename_i hq
      obtain ⟨q1,q2,q3,q4⟩:=hq
      split at hr
      ·rename_i p q hp hq'
       simp only [wc] at hr;subst hr
       have r1:PRd w (NN c H K w false) t' p c1:=(qFt ui h1 hp).keep ⟨fun b hb=>⟨by cases hf:qlw t' a <;> rw [hf] at hb <;> first|exact hb|exact ui b hb,rfl⟩⟩
       have r2:PRd w (NN c H K w false) t' q c2:=(qFt ui h2 hq').keep ⟨fun b' hb=>⟨by cases hf:qlw t' b <;> rw [hf] at hb <;> first|exact hb|exact ui b' hb,rfl⟩⟩
       have E:=qmp (P:=P) (w:=w) tyD 10000 T t' p q c1 c2 (by decide) q1 q2 q3 r1 r2
       simp only [qhb,ha1,if_true] at E
       simp only [wu,qnD q4,wq]
       split at h
       ·simp only [wc,wk] at h;obtain ⟨rfl,rfl⟩:=h
        exact ⟨.bool (peq t' p q),by simp only [binOp,wjb,wHa,wu,E,wq,wE],rfl⟩
       ·simp only [wc,wk] at h;obtain ⟨rfl,rfl⟩:=h
        exact ⟨.bool (!peq t' p q),by simp only [binOp,wjb,wHa,wu,E,wq,wE],rfl⟩
       ·cases h
      ·cases hr
     ·cases hr
    ·cases h
   ·cases h
  |_=>simp [qcl] at h
 |errno t k n=>
  cases b with
  |nilIface=>
   simp only [VRd] at h1 h2;subst h1;subst h2
   simp only [eqGuard_at_iface,wu,wE,wq]
   simp only [qcl] at h
   split at h
   ·rename_i hd
    obtain ⟨ms,hd'⟩:=qzn hd
    have heq:(wdb 10000 T (.iface t (.int k n)) .nilIface).run P w= .ok false w:=qii 9999 hd'
    split at h
    ·simp only [wc,wk] at h;obtain ⟨rfl,rfl⟩:=h
     exact ⟨.bool false,by simp only [binOp,wjb,wHa,wu,heq,wq,wE],rfl⟩
    ·simp only [wc,wk] at h;obtain ⟨rfl,rfl⟩:=h
     exact ⟨.bool true,by simp only [binOp,wjb,wHa,wu,heq,wq,wE,Bool.not_false],rfl⟩
    ·cases h
   ·cases h
  |_=>simp [qcl] at h
 |nilIface=>
  cases b with
  |errno t k n=>
   simp only [VRd] at h1 h2;subst h1;subst h2
   simp only [eqGuard_nil_iface,wu,wE,wq]
   simp only [qcl] at h
   split at h
   ·rename_i hd
    obtain ⟨ms,hd'⟩:=qzn hd
    have heq:(wdb 10000 T .nilIface (.iface t (.int k n))).run P w= .ok false w:=qzo 9999 hd'
    split at h
    ·simp only [wc,wk] at h;obtain ⟨rfl,rfl⟩:=h
     exact ⟨.bool false,by simp only [binOp,wjb,wHa,wu,heq,wq,wE],rfl⟩
    ·simp only [wc,wk] at h;obtain ⟨rfl,rfl⟩:=h
     exact ⟨.bool true,by simp only [binOp,wjb,wHa,wu,heq,wq,wE,Bool.not_false],rfl⟩
    ·cases h
   ·cases h
  |_=>simp [qcl] at h
 |eri t k x'=>
  cases b with
  |nilIface=>
   cases y with
   |const cv=>
    simp only [VRd] at h1 h2;subst h1;subst h2
    simp only [qcl] at h
    split at h
    ·rename_i hd
     obtain ⟨ms,hd'⟩:=qzn hd
     cases x' with
     |none=>
      have heq:=qlp 9999 (w:=w) hd'
      simp only [qFr,wu,wE,wq]
      split at h
      ·simp only [wc,wk] at h;obtain ⟨rfl,rfl⟩:=h
       exact ⟨.bool true,by simp only [binOp,wjb,wHa,wu,heq,wq,wE],rfl⟩
      ·simp only [wc,wk] at h;obtain ⟨rfl,rfl⟩:=h
       exact ⟨.bool false,by simp only [binOp,wjb,wHa,wu,heq,wq,wE,Bool.not_true],rfl⟩
      ·cases h
     |some n=>
      have heq:(wdb 10000 T (.iface t (.int k n)) .nilIface).run P w= .ok false w:=qii 9999 hd'
      simp only [eqGuard_at_iface,wu,wE,wq]
      split at h
      ·simp only [wc,wk] at h;obtain ⟨rfl,rfl⟩:=h
       exact ⟨.bool false,by simp only [binOp,wjb,wHa,wu,heq,wq,wE],rfl⟩
      ·simp only [wc,wk] at h;obtain ⟨rfl,rfl⟩:=h
       exact ⟨.bool true,by simp only [binOp,wjb,wHa,wu,heq,wq,wE,Bool.not_false],rfl⟩
      ·cases h
    ·cases h
   |_=>simp [qDL] at he
  |_=>simp [qcl] at h
 |sln e fr xs=>
  cases b with
  |nil=>
   obtain ⟨_,ad,n,cp,rfl⟩:=h1
   simp only [VRd] at h2;subst h2
   simp only [qcl] at h
   split at h
   ·rename_i hd
    obtain ⟨e',hd'⟩:=qyn hd
    have heq:=qpg 9999 (w:=w) (a:=some ad) (n:=n) (c:=cp) hd'
    simp only [qwh,wu,wE,wq]
    split at h
    ·simp only [wc,wk] at h;obtain ⟨rfl,rfl⟩:=h
     exact ⟨.bool false,by simp only [binOp,wjb,wHa,wu,heq,wq,wE,Option.isNone],rfl⟩
    ·simp only [wc,wk] at h;obtain ⟨rfl,rfl⟩:=h
     exact ⟨.bool true,by simp only [binOp,wjb,wHa,wu,heq,wq,wE,Option.isNone,Bool.not_false],rfl⟩
    ·cases h
   ·cases h
  |_=>simp [qcl] at h
 |nil=>
  cases b with
  |nil=>
   simp only [VRd] at h1 h2;subst h1;subst h2
   simp only [qcl] at h
   split at h
   ·rename_i hd
    obtain ⟨e',hd'⟩:=qyn hd
    have heq:=qpg 9999 (w:=w) (a:=none) (n:=0) (c:=0) hd'
    simp only [qwh,wu,wE,wq]
    split at h
    ·simp only [wc,wk] at h;obtain ⟨rfl,rfl⟩:=h
     exact ⟨.bool true,by simp only [binOp,wjb,wHa,wu,heq,wq,wE,Option.isNone],rfl⟩
    ·simp only [wc,wk] at h;obtain ⟨rfl,rfl⟩:=h
     exact ⟨.bool false,by simp only [binOp,wjb,wHa,wu,heq,wq,wE,Option.isNone,Bool.not_true],rfl⟩
    ·cases h
   ·cases h
  |_=>simp [qcl] at h
 |_=>cases b <;> simp [qcl] at h
theorem qdG (A:At c P GT H lk K w ev ρ nl) {o:Oper} {op:BinOp} {T T':TypeId} {x y:Operand} (ho:o.op= .binOp op T x y T') {orc:Option COrc} {out:Out} (h:qGb P GT ev lk nl orc o.type o.op=some out) (hc:qfg out.conds):
  Does P o ρ w (Lands c H K w nl out):=by
 rw [ho] at h
 simp only [qGb] at h
 split at h
 ·rename_i a b ha hb
  split at h
  ·rename_i he
   split at h
   ·rename_i v cs hv
    simp only [wc] at h;subst h
    obtain ⟨u,hu,hr⟩:=qSG A (x:=x) (y:=y) (A.one ha) (A.one hb) he hv hc
    exact Does.value (v:=u) (w':=w) (by simp only [execOp,ho];rw [wu,hu];rfl) (Lands.one A.inv hr)
   ·cases h
  ·cases h
 ·cases h
theorem qpI (A:At c P GT H lk K w ev ρ nl) {o:Oper} {op:UnOp} {T:TypeId} {x:Operand} (ho:o.op= .unOp op T x) {orc:Option COrc} {out:Out} (h:qGb P GT ev lk nl orc o.type o.op=some out):
  Does P o ρ w (Lands c H K w nl out):=by
 rw [ho] at h
 simp only [qGb] at h
 split at h
 ·rename_i a ha
  have hx:=A.one ha
  split at h
  ·rename_i v hv
   simp only [Ab.one,wc] at h;subst h
   cases op <;> cases a <;> simp only [qWN,qWE] at hv <;> first|(cases hv;done)|skip
   all_goals
    simp only [wc] at hv;subst hv
    simp only [VRd] at hx
   ·exact Does.value (w':=w) (v:= .int _ _) (by simp only [execOp,ho,hx,Op.unary,Op.intArith];rfl) (Lands.one A.inv rfl)
   ·exact Does.value (w':=w) (v:= .int _ _) (by simp only [execOp,ho,hx,Op.unary,Op.intBits];rfl) (Lands.one A.inv rfl)
   ·exact Does.value (w':=w) (v:= .bool _) (by simp only [execOp,ho,hx,Op.unary];rfl) (Lands.one A.inv rfl)
  ·cases h
 ·cases h
theorem qww {n:Nat} {T:TypeId} {a b:Ty} (h:qod P n T=some (.pair a b)):∃fs m ts,n=m+1∧P.underlying T=some (.struct fs)∧qDk (qod P m) fs.toList=some ts∧qXj P fs.toList ts 0=true∧ .pair a b=qYd ts:=by
 obtain ⟨fs,hd⟩:=qFG h
 obtain ⟨m,ts,h1,h2,h3,h4⟩:=qoC h hd
 exact ⟨fs,m,ts,h1,hd,h2,h3,h4⟩
theorem qJf {n:Nat} {T:TypeId} {t ty:Ty} {i o:Nat} (h:qod P n T=some t) (hp:qDa t (qXa i)=some (o,ty)):∃fs fd m,P.underlying T=some (.struct fs)∧fs[i]?=some fd∧fd.offset=o∧qod P m fd.type=some ty:=by
 have:∃a b,t= .pair a b:=by
  cases i <;> (cases t <;> simp [qXa,qDa] at hp <;> exact ⟨_,_,rfl⟩)
 obtain ⟨a,b,rfl⟩:=this
 obtain ⟨fs,m,ts,h1,h2,h3,h4,h5⟩:=qww h
 rw [h5] at hp
 obtain ⟨fd,e1,e2,e3⟩:=qls (P:=P) h3 h4 hp
 exact ⟨fs,fd,m,h2,by simpa using e1,by omega,e3⟩
theorem qGo {m:Nat} {fd:Field} {ty:Ty} {b o:Nat} (h:qod P m fd.type=some ty) (hz:ty.sz≠0):(fieldPlace ⟨b,o,none⟩ fd).run P w= .ok ⟨b,o+fd.offset,none⟩ w:=by
 simp only [fieldPlace,wu,qLb h,wq,hz,if_false,wE,wNa]
theorem qWd:∀{p q:List PS} {t t1 t2:Ty} {o1 o2:Nat},qDa t p=some (o1,t1)→qDa t1 q=some (o2,t2)→qDa t (p++q)=some (o1+o2,t2)
 |[],q,t,t1,t2,o1,o2,h,h'=>by
  simp only [qDa,wc,wk] at h;obtain ⟨rfl,rfl⟩:=h
  simpa using h'
 | .fst::p,q,t,t1,t2,o1,o2,h,h'=>by
   cases t <;> simp only [qDa] at h <;> first|(cases h;done)|skip
   simp only [wba,qDa];exact qWd h h'
 | .snd::p,q,t,t1,t2,o1,o2,h,h'=>by
   cases t <;> simp only [qDa] at h <;> first|(cases h;done)|skip
   split at h
   ·rename_i o3 t3 h3
    simp only [wc,wk] at h;obtain ⟨rfl,rfl⟩:=h
    simp only [wba,qDa,qWd h3 h']
    simp [wxa]
   ·cases h
 | .idx i::p,q,t,t1,t2,o1,o2,h,h'=>by
   cases t <;> simp only [qDa] at h <;> first|(cases h;done)|skip
   split at h
   ·rename_i o3 t3 h3
    split at h
    ·rename_i hi
     simp only [wc,wk] at h;obtain ⟨rfl,rfl⟩:=h
     simp only [wba,qDa,qWd h3 h',hi,if_true]
     simp [wxa]
    ·cases h
   ·cases h
theorem qyC {sh:Shp} {p q:List PS} {t1 t2:Ty} {o1 o2:Nat} (h:qdl sh p=some (o1,t1)) (h':qDa t1 q=some (o2,t2)):qdl sh (p++q)=some (o1+o2,t2):=by
 cases sh with
 |box t=>exact qWd h h'
 |row e n ps=>
  cases p with
  |nil=>simp [qdl] at h
  |cons s p=>
   cases s <;> simp only [qdl] at h <;> first|(cases h;done)|skip
   split at h
   ·rename_i o3 t3 h3
    split at h
    ·rename_i hi
     simp only [wc,wk] at h;obtain ⟨rfl,rfl⟩:=h
     simp only [wba,qdl,qWd h3 h',hi,if_true]
     simp [wxa]
    ·cases h
   ·cases h
 |_=>simp [qdl] at h
theorem GhAt.append {gh:Gh} {p q:List PS} {t1 t2:Ty} {pl:Plc} {po o2:Nat} (h:GhAt gh p t1 pl po) (h':qDa t1 q=some (o2,t2)):GhAt gh (p++q) t2 pl (po+o2):=by
 rcases h with ⟨h1,h2⟩|⟨e,n,ps,i,r,m,h1,rfl,h3,h4⟩|⟨a,e,n,ps,i,r,m,h1,rfl,h3,h4⟩
 ·exact .inl ⟨h1,qyC h2 h'⟩
 ·exact .inr (.inl ⟨e,n,ps,i,r++q,m,h1,rfl,h3,qWd h4 h'⟩)
 ·exact .inr (.inr ⟨a,e,n,ps,i,r++q,m,h1,rfl,h3,qWd h4 h'⟩)
theorem qew {N:Nat→Prop}:∀{t:Ty} {x:pden t} {i:Nat} {cs:List Value} {ty:Ty} {y:pden ty},PRd w N t x cs→qEf t x i=some ⟨ty,y⟩→∃o,qDa t (qXa i)=some (o,ty)∧PRd w N ty y (cut cs o ty.sz)
 | .pair a b,x,0,cs,ty,y,h,e=>by
   simp only [qEf,wc,Sigma.mk.injEq] at e
   obtain ⟨rfl,e⟩:=e
   have e:=eq_of_heq e;subst e
   obtain ⟨c1,c2,rfl,h1,h2⟩:=h
   refine ⟨0,by simp [qXa,qDa],?_⟩
   rw [qBz (by rw [h1.length];omega),qDz h1.length];exact h1
 | .pair a b,x,i+1,cs,ty,y,h,e=>by
   simp only [qEf] at e
   obtain ⟨c1,c2,rfl,h1,h2⟩:=h
   obtain ⟨o,hp,hr⟩:=qew h2 e
   refine ⟨a.sz+o,by simp only [qXa,qDa,hp],?_⟩
   rw [qWv h1.length];exact hr
 | .int _,_,i,_,_,_,_,e=>by simp [qEf] at e
 | .bool,_,i,_,_,_,_,e=>by simp [qEf] at e
 | .str,_,i,_,_,_,_,e=>by simp [qEf] at e
 | .arr _ _,_,i,_,_,_,_,e=>by simp [qEf] at e
 | .unit,_,i,_,_,_,_,e=>by simp [qEf] at e
 | .slice _,_,i,_,_,_,_,e=>by simp [qEf] at e
 | .fn,_,i,_,_,_,_,e=>by simp [qEf] at e
theorem CellsAt.cut {b o:Nat} {cs:List Value} (h:CellsAt w b o cs) (a n:Nat):CellsAt w b (o+a) (Ab.cut cs a n):=by
 intro j v hj
 rw [qVk] at hj
 split at hj
 ·rw [wxa];exact h _ v hj
 ·cases hj
theorem qqx (A:At c P GT H lk K w ev ρ nl) {o:Oper} {T:TypeId} {x:Operand} {i:Nat} (ho:o.op= .fieldAddr T x i) {orc:Option COrc} {out:Out} (h:qGb P GT ev lk nl orc o.type o.op=some out):
  Does P o ρ w (Lands c H K w nl out):=by
 rw [ho] at h
 simp only [qGb] at h
 split at h
 ·rename_i v hv
  have hx:=A.one hv
  split at h
  ·rename_i hf
   split at h
   ·rename_i r hr
    simp only [Ab.one,wc] at h;subst h
    cases v <;> simp only [qHM,decide_eq_true_eq] at hf <;> first|(cases hf;done)|skip
    ·rename_i t l p
     simp only [qHp] at hr
     split at hr
     ·rename_i o1 ty hp
      split at hr
      ·rename_i hz
       simp only [wc] at hr;subst hr
       obtain ⟨sh,pl,po,h1,h2,h3⟩:=hx
       obtain ⟨fs,fd,m,e1,e2,e3,e4⟩:=qJf hf hp
       refine Does.value (v:= .pointer (some ⟨pl.blk,pl.ob+po+fd.offset,none⟩)) (w':=w) ?_ (Lands.one A.inv ⟨sh,pl,po+o1,h1,h2.append hp,?_⟩)
       ·simp [execOp,ho,h3,Instr.fieldAt,run_underlying e1,e2,wfb,qGo e4 (by simpa using hz)]
       ·rw [e3,wxa]
      ·cases hr
     ·cases hr
    ·rename_i t fr y
     simp only [qHp] at hr
     split at hr
     ·rename_i ty z hz
      split at hr
      ·rename_i hsz
       simp only [wc] at hr;subst hr
       obtain ⟨b,ob,cs,e,hn,hcs,hp⟩:=hx
       obtain ⟨o1,hpa,hrd⟩:=qew hp hz
       obtain ⟨fs,fd,m,e1,e2,e3,e4⟩:=qJf hf hpa
       refine Does.value (v:= .pointer (some ⟨b,ob+fd.offset,none⟩)) (w':=w) ?_ (Lands.one A.inv ⟨b,ob+o1,Ab.cut cs o1 ty.sz,by rw [e3],?_,hcs.cut _ _,hrd⟩)
       ·simp [execOp,ho,e,Instr.fieldAt,run_underlying e1,e2,wfb,qGo e4 (by simpa using hsz)]
       ·rcases hn with rfl|hn
        ·exact .inl (by simp [Ab.cut])
        ·exact .inr hn
      ·cases hr
     ·cases hr
   ·cases h
  ·cases h
 ·cases h
theorem qaG (A:At c P GT H lk K w ev ρ nl) {o:Oper} {T:TypeId} {x:Operand} {i:Nat} (ho:o.op= .field T x i) {orc:Option COrc} {out:Out} (h:qGb P GT ev lk nl orc o.type o.op=some out):
  Does P o ρ w (Lands c H K w nl out):=by
 rw [ho] at h
 simp only [qGb] at h
 split at h
 ·rename_i t y hv
  obtain ⟨cs,e,ha,hr⟩:=A.one hv
  split at h
  ·rename_i ht
   split at h
   ·rename_i t' z hz
    simp only [Ab.one,wc] at h;subst h
    cases hp:qDa t (qXa i) with
    |none=>
     exfalso
     have:∀(i:Nat) (t:Ty) (y:qke t),qDa t (qXa i)=none→qcA t y (qXa i)=none:=by
      intro i
      induction i with
      |zero=>intro t y h;cases t <;> simp_all [qXa,qDa,qcA]
      |succ i ih=>
       intro t y h
       cases t <;> simp only [qXa,qDa,qcA] at h ⊢
       split at h
       ·cases h
       ·rename_i hn;exact ih _ _ hn
     rw [this i t y hp] at hz;cases hz
    |some q=>
     obtain ⟨o1,ty⟩:=q
     obtain ⟨z',e1,hz'⟩:=qZl ui hr hp
     rw [e1] at hz
     simp only [wc,Sigma.mk.injEq] at hz
     obtain ⟨rfl,hz⟩:=hz
     have hz:=eq_of_heq hz;subst hz
     obtain ⟨fs,fd,m,f1,f2,f3,f4⟩:=qJf ht hp
     refine Does.value (v:=qhb ty (cut cs o1 ty.sz)) (w':=w) ?_ (Lands.one A.inv (qZq hz'))
     have:=qMj (P:=P) (w:=w) f4 (cs:=cs) (o:=o1) (by rw [hr.length];exact qMb hp)
     simp [execOp,ho,e,Instr.field,run_underlying f1,f2,asAgg,f3,this]
   ·cases h
  ·cases h
 ·cases h
end
end Go.Ab

/-
  Elements, cuts, lengths, loads.
-/
set_option linter.unusedVariables false
set_option linter.unusedSimpArgs false
namespace Go.Ab
open Go
section
variable {c:Cx} {P:Program} {GT:qTg} {H lk:qZb} {K:Kn} {w:World} {ev:Operand→TV} {ρ:Operand→Value} {nl:Nat}
theorem qqe {T E:TypeId} {n:Nat} {e:Ty} (hd:P.underlying T=some (.slice E)) (hE:qod P n E=some e) {b o len cap:Nat} {k:IntKind} {i:Int} (h0:0≤i) (h1:i<len):
  (Instr.indexAt T (.slice (some ⟨b,o,none⟩) len cap) (.int k i)).run P w= .ok (.pointer (some ⟨b,o+i.toNat*e.sz,none⟩)) w:=by
 simp only [Instr.indexAt,asIntOf,wu,wE,wq,run_underlying hd]
 rw [if_pos ⟨h0,h1⟩]
 simp [qLb hE,wNa]
theorem qNj {T E:TypeId} {n len:Nat} {e:Ty} (hd:P.underlying T=some (.array len E)) (hE:qod P n E=some e) {b o:Nat} {k:IntKind} {i:Int} (h0:0≤i) (h1:i<len):
  (Instr.indexAt T (.pointer (some ⟨b,o,none⟩)) (.int k i)).run P w= .ok (.pointer (some ⟨b,o+i.toNat*e.sz,none⟩)) w:=by
 simp only [Instr.indexAt,asIntOf,wu,wE,wq,run_underlying hd,wfb]
 rw [if_pos ⟨h0,h1⟩]
 simp [qLb hE,wNa]
theorem getD_some {α:Type} {xs:List α} {i:Nat} {d:α} (h:i<xs.length):xs[i]?=some (xs.getD i d):=by
 rw [wt,wx h];rfl
theorem qBu (e:Ty):∀(n j:Nat),j<n→qDa (qLG e n) (qXa j)=some (j, .slice e)
 |0,j,h=>by omega
 |n+1,0,h=>by simp only [qLG,qXa,qDa]
 |n+1,j+1,h=>by
  simp only [qLG,qXa,qDa,qBu e n j (by omega),Ty.sz]
  rw [Nat.add_comm]
theorem qpx (A:At c P GT H lk K w ev ρ nl) {o:Oper} {T:TypeId} {x y:Operand} (ho:o.op= .indexAddr T x y) {orc:Option COrc} {out:Out} (h:qGb P GT ev lk nl orc o.type o.op=some out) (hc:qfg out.conds):
  Does P o ρ w (Lands c H K w nl out):=by
 rw [ho] at h
 simp only [qGb] at h
 split at h
 ·rename_i v k j hv hj
  have hx:=A.one hv
  have hy:=A.one hj
  simp only [VRd] at hy
  split at h
  ·rename_i hf
   split at h
   ·rename_i r cs hr
    simp only [wc] at h;subst h
    have hrun:∀u,(Instr.indexAt T (ρ x) (.int k j)).run P w= .ok u w→(execOp ρ o).run P w= .ok (.value u) w:=by
     intro u hu
     simp only [execOp,ho,hy]
     rw [wu,hu];rfl
    cases v <;> simp only [qfx,decide_eq_true_eq] at hf <;> first|(cases hf;done)|skip
    ·rename_i e fr xs
     simp only [qDp,wc,wk] at hr
     obtain ⟨rfl,rfl⟩:=hr
     obtain ⟨h0,h1,_⟩:=hc
     obtain ⟨m,E,_,hd,hE⟩:=qpc hf
     obtain ⟨A0,cap,e1,hl,hb⟩:=hx
     simp only [wFa,and_true] at e1
     have hi:j.toNat<xs.length:=by omega
     rcases hb with rfl|⟨b,ob,cl,rfl,hn,hcl,hcat⟩
     ·simp at hi
     ·have hg:=hcat.get (fun _ _=>PRd.length) j.toNat _ (getD_some (d:=qua e) hi)
      refine Does.value (hrun _ (by rw [e1];exact qqe hd hE h0 h1)) (Lands.one A.inv ⟨b,_,_,rfl, .inr hn,hcl.cut _ _,hg⟩)
    ·rename_i e l off len wh
     simp only [qDp,wc,wk] at hr
     obtain ⟨rfl,rfl⟩:=hr
     obtain ⟨h0,h1,_⟩:=hc
     obtain ⟨m,E,_,hd,hE⟩:=qpc hf
     obtain ⟨n,pl,⟨ps,k1⟩,k2,k3,k4⟩:=hx
     cases pl with
     |none=>obtain ⟨_,hn⟩:=k4;omega
     |some p=>
      obtain ⟨o1,cap,e1,hlc,hcap⟩:=k4
      have hcap':=hcap.resolve_left (by omega)
      refine Does.value (hrun _ (by rw [e1];exact qqe hd hE h0 h1)) (Lands.one A.inv ⟨_,p,(off+j.toNat)*e.sz,k1, .inl ⟨rfl,?_⟩,?_⟩)
      ·simp only [qdl,qDa]
       rw [if_pos (by omega)];simp
      ·rw [hcap'.1,whb,wxa]
    ·rename_i e l p n off len
     simp only [qDp,wc,wk] at hr
     obtain ⟨rfl,rfl⟩:=hr
     obtain ⟨h0,h1,_⟩:=hc
     obtain ⟨m,E,_,hd,hE⟩:=qpc hf
     obtain ⟨sh,pl,po,k1,k2,k3,o1,cap,e1,hlc,hcap⟩:=hx
     have hcap':=hcap.resolve_left (by omega)
     refine Does.value (hrun _ (by rw [e1];exact qqe hd hE h0 h1)) (Lands.one A.inv ⟨sh,pl,po+((off+j.toNat)*e.sz+0),k1,k2.append ?_,?_⟩)
     ·simp only [qDa]
      rw [if_pos (by omega)]
     ·rw [hcap',whb];congr 2;simp only [Addr.mk.injEq,and_true,true_and];omega
    ·rename_i t l p
     cases t <;> simp only [qDp] at hr <;> first|(cases hr;done)|skip
     rename_i n e
     simp only [wc,wk] at hr
     obtain ⟨rfl,rfl⟩:=hr
     obtain ⟨h0,h1,_⟩:=hc
     obtain ⟨m,E,_,hd,hE⟩:=qSp hf
     obtain ⟨sh,pl,po,k1,k2,k3⟩:=hx
     refine Does.value (hrun _ (by rw [k3];exact qNj hd hE h0 h1)) (Lands.one A.inv ⟨sh,pl,po+(j.toNat*e.sz+0),k1,k2.append ?_,?_⟩)
     ·simp only [qDa]
      rw [if_pos (by omega)]
     ·simp [wxa]
    ·rename_i t fr xs
     cases t <;> simp only [qDp] at hr <;> first|(cases hr;done)|skip
     rename_i n e
     simp only [wc,wk] at hr
     obtain ⟨rfl,rfl⟩:=hr
     obtain ⟨h0,h1,_⟩:=hc
     obtain ⟨m,E,_,hd,hE⟩:=qSp hf
     obtain ⟨b,ob,cs,e1,hn,hcs,hl,hcat⟩:=hx
     have hg:=hcat.get (fun _ _=>PRd.length) j.toNat _ (getD_some (d:=qua e) (by omega))
     refine Does.value (hrun _ (by rw [e1];exact qNj hd hE h0 h1)) (Lands.one A.inv ⟨b,_,_,rfl,?_,hcs.cut _ _,hg⟩)
     rcases hn with rfl|hn
     ·exact .inl (by simp [Ab.cut])
     ·exact .inr hn
    ·rename_i e l n
     simp only [qDp,wc,wk] at hr
     obtain ⟨rfl,rfl⟩:=hr
     obtain ⟨h0,h1,_⟩:=hc
     obtain ⟨m,E,_,hd,hE⟩:=qpc hf
     obtain ⟨pl,k1,cap,e1,hlc⟩:=hx
     refine Does.value (hrun _ (by rw [e1];exact qqe hd hE h0 h1)) (Lands.one A.inv ⟨_,pl,j.toNat,k1, .inl ⟨rfl,?_⟩,?_⟩)
     ·simp only [qdl]
      exact qBu e n j.toNat (by omega)
     ·simp only [Ty.sz,Nat.mul_one]
   ·cases h
  ·cases h
 ·cases h
theorem qQJ {s:ByteArray} {i:Nat} (h:i<s.size):s[i]?=some (s[i]'h)∧((s[i]'h).toNat:Int)=qzt s i:=by
 refine ⟨by simp [getElem?_pos,h],?_⟩
 have h':i<s.data.toList.length:=by simpa using h
 simp only [qzt,qZc,wt,wDa,wx h',wCa,Option.getD_some]
 rfl
theorem qZF (A:At c P GT H lk K w ev ρ nl) {o:Oper} {T:TypeId} {x y:Operand} (ho:o.op= .index T x y) {orc:Option COrc} {out:Out} (h:qGb P GT ev lk nl orc o.type o.op=some out) (hc:qfg out.conds):
  Does P o ρ w (Lands c H K w nl out):=by
 rw [ho] at h
 simp only [qGb] at h
 split at h
 ·rename_i n e xs k j hv hj
  obtain ⟨cs,e1,_,hl,hcat⟩:=A.one hv
  have hy:=A.one hj
  simp only [VRd] at hy
  split at h
  ·rename_i hT
   simp only [wc] at h;subst h
   obtain ⟨h0,h1,_⟩:=hc
   obtain ⟨m,E,_,hd,hE⟩:=qSp hT
   have hi:j.toNat<xs.length:=by omega
   have hg:=hcat.get (fun _ _=>PRd.length) j.toNat _ (getD_some (d:=qua e) hi)
   have hle:j.toNat*e.sz+e.sz≤cs.length:=by
    rw [hcat.length (n:=e.sz) (fun _ _=>PRd.length),←wua]
    exact wja _ (by omega)
   refine Does.value (v:=qhb e (cut cs (j.toNat*e.sz) e.sz)) (w':=w) ?_ (Lands.one A.inv (qZq (qej ui false hg)))
   simp only [execOp,ho,hy,e1,Instr.index,asIntOf,wu,wE,wq,run_underlying hd]
   rw [if_pos ⟨h0,h1⟩]
   simp [qLb hE,qMj hE hle]
  ·cases h
 ·rename_i s k j hv hj
  have hx:=A.one hv
  have hy:=A.one hj
  simp only [VRd] at hx hy
  split at h
  ·rename_i hd
   simp only [wc] at h;subst h
   obtain ⟨h0,h1,_⟩:=hc
   have hi:j.toNat<s.size:=by omega
   obtain ⟨b1,b2⟩:=qQJ hi
   refine Does.value (v:= .int .u8 (qzt s j.toNat)) (w':=w) ?_ (Lands.one A.inv rfl)
   simp only [execOp,ho,hx,hy,Instr.index,asIntOf,wu,wE,wq,run_underlying hd]
   rw [if_pos h0,b1]
   simp [b2]
  ·cases h
 ·cases h
theorem qFl {len:Nat} {lo hi:Option AV} {a b:Nat} {cs:List Prop} (h:qli len lo hi=some (a,b,cs)) (hc:qfg cs):a≤b∧b≤len:=by
 unfold qli at h
 split at h
 ·simp only [wc,wk] at h;obtain ⟨rfl,rfl,rfl⟩:=h;omega
 ·split at h
  ·simp only [wc,wk] at h;obtain ⟨rfl,rfl,rfl⟩:=h
   obtain ⟨h1,h2,_⟩:=hc;omega
  ·cases h
 ·split at h
  ·simp only [wc,wk] at h;obtain ⟨rfl,rfl,rfl⟩:=h
   obtain ⟨h1,h2,_⟩:=hc;omega
  ·cases h
 ·split at h
  ·simp only [wc,wk] at h;obtain ⟨rfl,rfl,rfl⟩:=h
   obtain ⟨h1,h2,h3,_⟩:=hc;omega
  ·cases h
def qUq (w:World) (N:Bool→Nat→Prop) (K:Kn):Option AV→Option Value→Prop
 |none,v=>v=none
 |some a,v=>∃u,v=some u∧VRd w N K a u
theorem qbm {N:Bool→Nat→Prop} {a:AV} {i:Int} {u:Value} (h:qup a=some i) (hr:VRd w N K a u):∃k,u= .int k i:=by
 cases a <;> simp only [qup] at h <;> first|(cases h;done)|skip
 simp only [wc] at h;subst h
 exact ⟨_,hr⟩
theorem qic {k:IntKind} {i:Int} {y:Nat} {cd:BoundsCode} (h0:0≤i) (h1:i≤y):(Instr.sliceBound (.int k i) y cd).run P w= .ok i.toNat w:=by
 simp only [Instr.sliceBound,asIntOf,wu,wE,wq]
 rw [if_pos ⟨h0,h1⟩];rfl
theorem qUi {N:Bool→Nat→Prop} {len cap:Nat} (hl:len≤cap) {isS:Bool} {lo hi:Option AV} {lv hv:Option Value} {a b:Nat} {cs:List Prop} (h:qli len lo hi=some (a,b,cs)) (hc:qfg cs) (h1:qUq w N K lo lv) (h2:qUq w N K hi hv):
  (wrb isS len cap lv hv none).run P w= .ok (a,b,cap) w:=by
 unfold qli at h
 split at h
 ·simp only [qUq] at h1 h2;subst h1;subst h2
  simp only [wc,wk] at h;obtain ⟨rfl,rfl,rfl⟩:=h
  simp [wrb]
 ·obtain ⟨u,rfl,hu⟩:=h1
  simp only [qUq] at h2;subst h2
  split at h
  ·rename_i i hi
   simp only [wc,wk] at h;obtain ⟨rfl,rfl,rfl⟩:=h
   obtain ⟨k,rfl⟩:=qbm hi hu
   simp [wrb,qic hc.1 hc.2.1]
  ·cases h
 ·obtain ⟨u,rfl,hu⟩:=h2
  simp only [qUq] at h1;subst h1
  split at h
  ·rename_i i hi
   simp only [wc,wk] at h;obtain ⟨rfl,rfl,rfl⟩:=h
   obtain ⟨k,rfl⟩:=qbm hi hu
   have:(i:Int)≤(cap:Int):=by have:=hc.2.1;omega
   simp [wrb,qic hc.1 this]
  ·cases h
 ·obtain ⟨u1,rfl,hu1⟩:=h1
  obtain ⟨u2,rfl,hu2⟩:=h2
  split at h
  ·rename_i i j hi hj
   simp only [wc,wk] at h;obtain ⟨rfl,rfl,rfl⟩:=h
   obtain ⟨k,rfl⟩:=qbm hi hu1
   obtain ⟨k',rfl⟩:=qbm hj hu2
   obtain ⟨g1,g2,g3,_⟩:=hc
   have e1:(j:Int)≤(cap:Int):=by omega
   have e2:(i:Int)≤(j.toNat:Int):=by omega
   simp [wrb,qic (show (0:Int)≤j by omega) e1,qic g1 e2]
  ·cases h
theorem qus {α:Type} {xs:List α} {lo hi:Option AV} {ys:List α} {cs:List Prop} (h:qNJ xs lo hi=some (ys,cs)):∃a b,qli xs.length lo hi=some (a,b,cs)∧(qfg cs→ys=(xs.drop a).take (b - a)):=by
 unfold qNJ at h
 split at h
 ·simp only [wc,wk] at h;obtain ⟨rfl,rfl⟩:=h
  exact ⟨0,xs.length,rfl,fun _=>by simp⟩
 ·split at h
  ·rename_i i hi
   simp only [wc,wk] at h;obtain ⟨rfl,rfl⟩:=h
   exact ⟨i.toNat,xs.length,by simp [qli,hi],fun _=>by rw [List.take_of_length_le (by simp)]⟩
  ·cases h
 ·split at h
  ·rename_i i hi
   simp only [wc,wk] at h;obtain ⟨rfl,rfl⟩:=h
   exact ⟨0,i.toNat,by simp [qli,hi],fun _=>by simp⟩
  ·cases h
 ·split at h
  ·rename_i i j hi hj
   simp only [wc,wk] at h;obtain ⟨rfl,rfl⟩:=h
   exact ⟨i.toNat,j.toNat,by simp [qli,hi,hj],fun _=>rfl⟩
  ·cases h
theorem qmz (A:At c P GT H lk K w ev ρ nl) {x:Option Operand} {a:Option AV} (h:qUF ev x=some a):qUq w (NN c H K w) K a (x.map ρ):=by
 cases x with
 |none=>simp only [qUF,wc] at h;subst h;rfl
 |some x=>
  simp only [qUF] at h
  split at h
  ·rename_i v hv
   simp only [wc] at h;subst h
   exact ⟨ρ x,rfl,A.one hv⟩
  ·cases h
theorem qZD {N:Nat→Prop} {e:Ty} {xs:List (pden e)} {A0:Option Addr} {cap:Nat} (hl:xs.length≤cap) (h:xs=[]∨∃b o cl,A0=some ⟨b,o,none⟩∧N b∧CellsAt w b o cl∧Cat (PRd w N e) xs cl) {a b:Nat} (hab:a≤b) (hb:b≤xs.length):
  PRd w N (.slice e) ((xs.drop a).take (b - a)) [.slice (if cap=a then A0 else A0.map (·.add (a*e.sz))) (b - a) (cap - a)]:=by
 have hlen:((xs.drop a).take (b - a)).length=b - a:=by simp;omega
 refine ⟨_,cap - a,by rw [hlen],by omega,?_⟩
 by_cases h0:b - a=0
 ·exact .inl (wG (by rw [hlen,h0]))
 ·right
  rcases h with rfl|⟨bb,o,cl,rfl,hn,hc,hcat⟩
  ·simp at hb;omega
  ·rw [if_neg (by omega)]
   exact ⟨bb,o+a*e.sz,_,by simp [wNa],hn,hc.cut _ _,hcat.seg (fun _ _=>PRd.length) a (b - a)⟩
end
end Go.Ab

/-
  Cuts, lengths, loads.
-/
set_option linter.unusedVariables false
set_option linter.unusedSimpArgs false
namespace Go.Ab
open Go
section
variable {c:Cx} {P:Program} {GT:qTg} {H lk:qZb} {K:Kn} {w:World} {ev:Operand→TV} {ρ:Operand→Value} {nl:Nat}
theorem qog {T E:TypeId} {n:Nat} {e:Ty} (hd:P.underlying T=some (.slice E)) (hE:qod P n E=some e) {N:Bool→Nat→Prop} {A0:Option Addr} {len cap:Nat} (hl:len≤cap) {lo hi:Option AV} {lv hv:Option Value} {a b:Nat} {cs:List Prop}
  (h:qli len lo hi=some (a,b,cs)) (hc:qfg cs) (h1:qUq w N K lo lv) (h2:qUq w N K hi hv):
  (Instr.sliceAt T (.slice A0 len cap) lv hv none).run P w= .ok (.slice (if cap=a then A0 else A0.map (·.add (a*e.sz))) (b - a) (cap - a)) w:=by
 simp only [Instr.sliceAt,wu,run_underlying hd,wq,Instr.slice,qUi (P:=P) hl h hc h1 h2,qLb hE,wE]
theorem qXp {T E:TypeId} {n k:Nat} {e:Ty} (hd:P.underlying T=some (.array k E)) (hE:qod P n E=some e) {N:Bool→Nat→Prop} {bk o:Nat} {lo hi:Option AV} {lv hv:Option Value} {a b:Nat} {cs:List Prop}
  (h:qli k lo hi=some (a,b,cs)) (hc:qfg cs) (h1:qUq w N K lo lv) (h2:qUq w N K hi hv):
  (Instr.sliceAt T (.pointer (some ⟨bk,o,none⟩)) lv hv none).run P w= .ok (.slice (some (if k=a then ⟨bk,o,none⟩ else ⟨bk,o+a*e.sz,none⟩)) (b - a) (k - a)) w:=by
 simp only [Instr.sliceAt,wu,run_underlying hd,wq,wfb,qUi (P:=P) (ws _) h hc h1 h2,qLb hE,wE,wNa]
theorem qAC {N:Bool→Nat→Prop} {len cap:Nat} (hl:len≤cap) {lo:Option AV} {h m:AV} {lv:Option Value} {hv mv:Value} {a b:Nat} {cs:List Prop} (hb:qHD len lo h m=some (a,b,cs)) (hc:qfg cs) (h1:qUq w N K lo lv) (h2:VRd w N K h hv) (h3:VRd w N K m mv):
  ∃k,a≤b∧b≤k∧k≤len∧(wrb true len cap lv (some hv) (some mv)).run P w= .ok (a,b,k) w:=by
 unfold qHD at hb
 split at hb
 ·rename_i j k hj hk
  obtain ⟨kj,rfl⟩:=qbm hj h2
  obtain ⟨kk,rfl⟩:=qbm hk h3
  split at hb
  ·simp only [wc,wk] at hb;obtain ⟨rfl,rfl,rfl⟩:=hb
   simp only [qUq] at h1;subst h1
   obtain ⟨g1,g2,g3,_⟩:=hc
   have e1:(k:Int)≤(cap:Int):=by omega
   have e2:(j:Int)≤(k.toNat:Int):=by omega
   refine ⟨k.toNat,by omega,by omega,by omega,?_⟩
   simp [wrb,qic (show (0:Int)≤k by omega) e1,qic g1 e2]
  ·split at hb
   ·rename_i l i hi
    simp only [wc,wk] at hb;obtain ⟨rfl,rfl,rfl⟩:=hb
    obtain ⟨u,rfl,hu⟩:=h1
    obtain ⟨ki,rfl⟩:=qbm hi hu
    obtain ⟨g0,g1,g2,g3,_⟩:=hc
    have e1:(k:Int)≤(cap:Int):=by omega
    have e2:(j:Int)≤(k.toNat:Int):=by omega
    have e3:(i:Int)≤(j.toNat:Int):=by omega
    refine ⟨k.toNat,by omega,by omega,by omega,?_⟩
    simp [wrb,qic (show (0:Int)≤k by omega) e1,qic (show (0:Int)≤j by omega) e2,qic g0 e3]
   ·cases hb
 ·cases hb
theorem quD (A:At c P GT H lk K w ev ρ nl) {o:Oper} {T:TypeId} {x hi mx:Operand} {lo:Option Operand} (ho:o.op= .slice T x lo (some hi) (some mx)) {orc:Option COrc} {out:Out} (h:qGb P GT ev lk nl orc o.type o.op=some out) (hc:qfg out.conds):
  Does P o ρ w (Lands c H K w nl out):=by
 rw [ho] at h
 simp only [qGb] at h
 split at h
 ·rename_i e l off len wh lv hv mv hx0 hlo hhi hmx
  have hx:=A.one hx0
  have h1:=qmz A hlo
  have h2:=A.one hhi
  have h3:=A.one hmx
  split at h
  ·rename_i hf
   split at h
   ·rename_i a b cs hb
    simp only [wc] at h;subst h
    have hrun:∀u,(Instr.sliceAt T (ρ x) (lo.map ρ) (some (ρ hi)) (some (ρ mx))).run P w= .ok u w→(execOp ρ o).run P w= .ok (.value u) w:=by
     intro u hu
     simp only [execOp,ho,wCa]
     rw [wu,hu];rfl
    simp only [qfx,decide_eq_true_eq] at hf
    obtain ⟨m,E,_,hd,hE⟩:=qpc hf
    obtain ⟨n,pl,k1,k2,k3,k4⟩:=hx
    have hsl:∀(A0:Option Addr) (cap:Nat),len≤cap→∃k,a≤b∧b≤k∧k≤len∧(Instr.sliceAt T (.slice A0 len cap) (lo.map ρ) (some (ρ hi)) (some (ρ mx))).run P w= .ok (.slice (if k=a then A0 else A0.map (·.add (a*e.sz))) (b - a) (k - a)) w:=by
     intro A0 cap hl
     obtain ⟨k,q1,q2,q3,q4⟩:=qAC (P:=P) hl hb hc h1 h2 h3
     refine ⟨k,q1,q2,q3,?_⟩
     simp only [Instr.sliceAt,wu,run_underlying hd,wq,Instr.slice,q4,qLb hE,wE]
    cases pl with
    |none=>
     obtain ⟨k4,k5⟩:=k4
     obtain ⟨k,q1,q2,q3,q4⟩:=hsl none 0 (by omega)
     have e0:len=0:=by omega
     have h0:a=0:=by omega
     have h30:b=0:=by omega
     have hk0:k=0:=by omega
     subst h0;subst h30;subst hk0;subst e0
     refine Does.value (v:= .slice none 0 0) (w':=w) (hrun _ ?_) (Lands.one A.inv ⟨n,none,k1,by omega,(fun h=>by cases h),rfl,k5⟩)
     rw [k4,q4];simp
    |some p=>
     obtain ⟨o1,cap,e1,hlc,hcap⟩:=k4
     obtain ⟨k,q1,q2,q3,q4⟩:=hsl (some ⟨p.blk,o1,none⟩) cap hlc
     refine Does.value (v:= .slice (some (if k=a then ⟨p.blk,o1,none⟩ else ⟨p.blk,o1+a*e.sz,none⟩)) (b - a) (k - a)) (w':=w) (hrun _ ?_) (Lands.one A.inv ⟨n,some p,k1,by omega,(fun h=>by cases h),?_⟩)
     ·rw [e1,q4]
      congr 2
      split <;> simp [wNa]
     ·by_cases hca:k=a
      ·rw [if_pos hca]
       exact ⟨o1,k - a,rfl,by omega, .inl (by omega)⟩
      ·rw [if_neg hca]
       refine ⟨o1+a*e.sz,k - a,rfl,by omega,?_⟩
       rcases hcap with h0|⟨h0,h3⟩
       ·omega
       ·right
        refine ⟨by rw [h0,whb,wxa],?_⟩
        rw [show off+a+(k - a)=off+k by omega]
        refine wia ?_ h3
        exact Nat.add_le_add_left (wja _ (by omega)) _
   ·cases h
  ·cases h
 ·cases h
theorem qYF (A:At c P GT H lk K w ev ρ nl) {o:Oper} {T:TypeId} {x:Operand} {lo hi:Option Operand} (ho:o.op= .slice T x lo hi none) {orc:Option COrc} {out:Out} (h:qGb P GT ev lk nl orc o.type o.op=some out) (hc:qfg out.conds):
  Does P o ρ w (Lands c H K w nl out):=by
 rw [ho] at h
 simp only [qGb] at h
 split at h
 ·rename_i v l hh hv hlo hhi
  have hx:=A.one hv
  have h1:=qmz A hlo
  have h2:=qmz A hhi
  split at h
  ·rename_i hf
   split at h
   ·rename_i r cs hr
    simp only [wc] at h;subst h
    have hrun:∀u,(Instr.sliceAt T (ρ x) (lo.map ρ) (hi.map ρ) none).run P w= .ok u w→(execOp ρ o).run P w= .ok (.value u) w:=by
     intro u hu
     simp only [execOp,ho,Option.map_none]
     rw [wu,hu];rfl
    cases v with
    |str s=>
     simp only [qqB] at hf
     split at hf
     ·rename_i hd
      simp only [VRd] at hx
      simp only [qSl] at hr
      split at hr
      ·rename_i a b cs' hb
       simp only [wc,wk] at hr;obtain ⟨rfl,rfl⟩:=hr
       refine Does.value (v:= .string (s.extract a b)) (w':=w) (hrun _ ?_) (Lands.one A.inv rfl)
       simp only [hx,Instr.sliceAt,wu,run_underlying hd,wq,Instr.slice,Option.isSome_none,wI,if_false,qUi (P:=P) (ws _) hb hc h1 h2,wE]
      ·cases hr
     ·cases hf
    |nil=>
     simp only [qqB] at hf
     split at hf
     ·rename_i e hT
      simp only [VRd] at hx
      simp only [qSl] at hr
      split at hr
      ·rename_i a b cs' hb
       simp only [wc,wk] at hr;obtain ⟨rfl,rfl⟩:=hr
       have hle:=qFl hb hc
       obtain ⟨m,E,_,hd,hE⟩:=qpc hT
       have h0:a=0:=by omega
       have h3:b=0:=by omega
       subst h0;subst h3
       refine Does.value (v:= .slice none 0 0) (w':=w) (hrun _ ?_) (Lands.one A.inv rfl)
       rw [hx,qog (N:=NN c H K w) hd hE (ws _) hb hc h1 h2]
       simp
      ·cases hr
     ·cases hf
    |sl e fr xs=>
     simp only [qqB,qfx,decide_eq_true_eq] at hf
     obtain ⟨m,E,_,hd,hE⟩:=qpc hf
     simp only [qSl] at hr
     split at hr
     ·rename_i ys cs' hb
      simp only [wc,wk] at hr;obtain ⟨rfl,rfl⟩:=hr
      obtain ⟨a,b,hb1,hb2⟩:=qus hb
      have hle:=qFl hb1 hc
      obtain ⟨A0,cap,e1,hl,hcs⟩:=hx
      simp only [wFa,and_true] at e1
      refine Does.value (v:= .slice (if cap=a then A0 else A0.map (·.add (a*e.sz))) (b - a) (cap - a)) (w':=w) (hrun _ ?_) (Lands.one A.inv ?_)
      ·rw [e1];exact qog (N:=NN c H K w) hd hE hl hb1 hc h1 h2
      ·rw [hb2 hc]
       exact qZD hl hcs hle.1 hle.2
     ·cases hr
    |ref e l off len wh=>
     simp only [qqB,qfx,decide_eq_true_eq] at hf
     obtain ⟨m,E,_,hd,hE⟩:=qpc hf
     obtain ⟨A0,cp,hform⟩:=RefRd.form hx
     obtain ⟨n,pl,k1,k2,k3,k4⟩:=hx
     have main:∀(lo' hi':Option AV) (a b:Nat) (cs':List Prop),qli len lo' hi'=some (a,b,cs')→qfg cs'→qUq w (NN c H K w) K lo' (lo.map ρ)→qUq w (NN c H K w) K hi' (hi.map ρ)→∀wh',(wh'=true→off+a=0∧b - a=n)→Does P o ρ w (Lands c H K w nl ⟨.one (.ref e l (off+a) (b - a) wh'),[],cs'⟩):=by
      intro lo' hi' a b cs' hb hc' g1 g2 wh' hwh
      have hle:=qFl hb hc'
      cases pl with
      |none=>
       obtain ⟨k4,k5⟩:=k4
       have e0:len=0:=by omega
       subst e0
       have h0:a=0:=by omega
       have h3:b=0:=by omega
       subst h0;subst h3
       refine Does.value (v:= .slice none 0 0) (w':=w) (hrun _ ?_) (Lands.one A.inv ⟨n,none,k1,by omega,hwh,rfl,k5⟩)
       rw [k4,qog (N:=NN c H K w) hd hE (ws _) hb hc' g1 g2]
       simp
      |some p=>
       obtain ⟨o1,cap,e1,hlc,hcap⟩:=k4
       refine Does.value (v:= .slice (some (if cap=a then ⟨p.blk,o1,none⟩ else ⟨p.blk,o1+a*e.sz,none⟩)) (b - a) (cap - a)) (w':=w) (hrun _ ?_) (Lands.one A.inv ⟨n,some p,k1,by omega,hwh,?_⟩)
       ·rw [e1,qog (N:=NN c H K w) hd hE hlc hb hc' g1 g2]
        congr 2
        split <;> simp [wNa]
       ·by_cases hca:cap=a
        ·rw [if_pos hca]
         exact ⟨o1,cap - a,rfl,by omega, .inl (by omega)⟩
        ·rw [if_neg hca]
         refine ⟨o1+a*e.sz,cap - a,rfl,by omega,?_⟩
         rcases hcap with h0|⟨h0,h3⟩
         ·omega
         ·right
          refine ⟨by rw [h0,whb,wxa],?_⟩
          rw [show off+a+(cap - a)=off+cap by omega];exact h3
     simp only [qSl] at hr
     split at hr
     ·simp only [wc,wk] at hr;obtain ⟨rfl,rfl⟩:=hr
      have:=main none none 0 len [] rfl trivial h1 h2 wh (fun hw=>by have:=k3 hw;omega)
      simpa using this
     ·split at hr
      ·rename_i a b cs' hb
       simp only [wc,wk] at hr;obtain ⟨rfl,rfl⟩:=hr
       exact main _ _ a b _ hb hc h1 h2 false (fun h=>by cases h)
      ·cases hr
    |bref e l p n off len=>
     simp only [qqB,qfx,decide_eq_true_eq] at hf
     obtain ⟨m,E,_,hd,hE⟩:=qpc hf
     obtain ⟨sh,pl,po,k1,k2,k3,o1,cap,e1,hlc,hcap⟩:=hx
     simp only [qSl] at hr
     split at hr
     ·rename_i a b cs' hb
      simp only [wc,wk] at hr;obtain ⟨rfl,rfl⟩:=hr
      have hle:=qFl hb hc
      refine Does.value (v:= .slice (some (if cap=a then ⟨pl.blk,o1,none⟩ else ⟨pl.blk,o1+a*e.sz,none⟩)) (b - a) (cap - a)) (w':=w) (hrun _ ?_) (Lands.one A.inv ⟨sh,pl,po,k1,k2,by omega,?_⟩)
      ·rw [e1,qog (N:=NN c H K w) hd hE hlc hb hc h1 h2]
       congr 2
       split <;> simp [wNa]
      ·by_cases hca:cap=a
       ·rw [if_pos hca]
        exact ⟨o1,cap - a,rfl,by omega, .inl (by omega)⟩
       ·rw [if_neg hca]
        refine ⟨o1+a*e.sz,cap - a,rfl,by omega,?_⟩
        rcases hcap with h0|h0
        ·omega
        ·right
         rw [h0,whb];omega
     ·cases hr
    |ptr t l p=>
     simp only [qqB,qfx,decide_eq_true_eq] at hf
     cases t <;> simp only [qSl] at hr <;> first|(cases hr;done)|skip
     rename_i n e
     obtain ⟨m,E,_,hd,hE⟩:=qSp hf
     obtain ⟨sh,pl,po,k1,k2,k3⟩:=hx
     split at hr
     ·rename_i a b cs' hb
      simp only [wc,wk] at hr;obtain ⟨rfl,rfl⟩:=hr
      have hle:=qFl hb hc
      refine Does.value (hrun _ (by rw [k3];exact qXp (N:=NN c H K w) hd hE hb hc h1 h2)) (Lands.one A.inv ⟨sh,pl,po,k1,k2,by omega,?_⟩)
      by_cases hca:n=a
      ·rw [if_pos hca]
       exact ⟨_,n - a,rfl,by omega, .inl (by omega)⟩
      ·rw [if_neg hca]
       exact ⟨_,n - a,rfl,by omega, .inr rfl⟩
     ·cases hr
    |rptr t fr xs=>
     simp only [qqB,qfx,decide_eq_true_eq] at hf
     cases t <;> simp only [qSl] at hr <;> first|(cases hr;done)|skip
     rename_i n e
     obtain ⟨m,E,_,hd,hE⟩:=qSp hf
     obtain ⟨b0,ob,cl,e1,hn,hcl,hlen,hcat⟩:=hx
     split at hr
     ·rename_i hz
      split at hr
      ·rename_i ys cs' hb
       simp only [wc,wk] at hr;obtain ⟨rfl,rfl⟩:=hr
       obtain ⟨a,b,hb1,hb2⟩:=qus hb
       have hle:=qFl hb1 hc
       rw [hlen] at hb1 hle
       refine Does.value (hrun _ (by rw [e1];exact qXp (N:=NN c H K w) hd hE hb1 hc h1 h2)) (Lands.one A.inv ?_)
       have hcl2:=hcat.length (n:=e.sz) (fun _ _=>PRd.length)
       have hN:xs=[]∨NN c H K w fr b0:=by
        rcases hn with rfl|hn
        ·left
         simp only [wN] at hcl2
         rcases Nat.mul_eq_zero.1 hcl2.symm with h3|h3
         ·exact wG h3
         ·simp [h3] at hz
        ·exact .inr hn
       have:=qZD (w:=w) (N:=NN c H K w fr) (e:=e) (xs:=xs) (A0:=some ⟨b0,ob,none⟩) (cap:=n) (by omega) (by
        rcases hN with h3|h3
        ·exact .inl h3
        ·exact .inr ⟨b0,ob,cl,rfl,h3,hcl,hcat⟩) hle.1 (by omega)
       rw [hb2 hc]
       have h4:(if n=a then some (⟨b0,ob,none⟩:Addr) else Option.map (fun z:Addr=>z.add (a*e.sz)) (some ⟨b0,ob,none⟩))=some (if n=a then ⟨b0,ob,none⟩ else ⟨b0,ob+a*e.sz,none⟩):=by
        split <;> simp [wNa]
       rw [h4] at this
       exact this
      ·cases hr
     ·cases hr
    |_=>simp [qSl] at hr
   ·cases h
  ·cases h
 ·cases h
theorem FamSRd.at {w:World} {a e:Ty}:∀{xs:List (pden a×List (pden e))} {ps:List (Nat×Option Plc)} {cs:List Value} {i:Nat},FamSRd w a e xs ps cs→i<xs.length→
  ∃p c v,ps[i]?=some ((xs.getD i (qua a,[])).2.length,p)∧cut cs (i*(a.sz+1)) (a.sz+1)=c++[v]∧(i+1)*(a.sz+1)≤cs.length∧PRd w (fun _=>False) a (xs.getD i (qua a,[])).1 c∧Slot w e p v (xs.getD i (qua a,[])).2
 |[],_,_,i,h,hi=>by simp at hi
 |x::r,_,_,i,h,hi=>by
  obtain ⟨q,ps',c,v,cs',rfl,rfl,h0,h1,h2⟩:=h
  have hc:=h0.length
  cases i with
  |zero=>
   refine ⟨q,c,v,rfl,?_,?_,h0,h1⟩
   ·rw [Nat.zero_mul]
    unfold cut
    rw [List.drop_zero,←hc,show c++v::cs'=(c++[v])++cs' by simp,List.take_left' (by simp)]
   ·simp;omega
  |succ i=>
   obtain ⟨p,c',v',g1,g2,g3,g4,g5⟩:=h2.at (i:=i) (by simpa using hi)
   refine ⟨p,c',v',g1,?_,?_,g4,g5⟩
   ·rw [←g2]
    unfold cut
    rw [show c++v::cs'=(c++[v])++cs' by simp,show (i+1)*(a.sz+1)=(c++[v]).length+i*(a.sz+1) by rw [wua];simp [hc];omega,←wka,List.drop_left]
   ·rw [wua]
    simp only [wl,ww]
    omega
theorem qTF {w:World} {N:Bool→Nat→Prop} (hN:∀b,N true b→N false b) {K:Kn} {a e:Ty} {x:pden a×List (pden e)} {c:List Value} {v:Value} {A:Option Addr} {cap:Nat} (ha:a.flat=true) (h0:PRd w (fun _=>False) a x.1 c) (hv:v= .slice A x.2.length cap):ARd w N K (qQp a e) (qfI x) (c++[v]):=by
 refine ⟨c,[v],rfl,qej hN false (h0.flat ha),[v],[],rfl,⟨A,cap,by rw [hv]⟩,rfl⟩
theorem ORd.box_get0 {N:Bool→Nat→Prop} (hN:∀b,N true b→N false b) {obj:Obj} {gh:Gh} {p:List PS} {po:Nat} {t:Ty} {pl:Plc} (h:ORd w N K obj gh) (hp:gh.pl=some pl) (hs:qdl gh.sh p=some (po,t)) {z:qke t} (hz:qon obj p=some ⟨t,z⟩):
  ∃y cs,some (⟨t,z⟩:Σ t,qke t)=some ⟨t,y⟩∧InBlk w pl cs∧po+t.sz≤cs.length∧ARd w N K t y (cut cs po t.sz):=by
 suffices h':∃y cs,qon obj p=some ⟨t,y⟩∧InBlk w pl cs∧po+t.sz≤cs.length∧ARd w N K t y (cut cs po t.sz) by rw [hz] at h';exact h'
 cases obj with
 |box t0 x=>
  obtain ⟨h1,p',cs,h2,h3,h4⟩:=h
  rw [hp] at h2;injection h2 with h2;subst h2
  rw [h1] at hs
  simp only [qdl] at hs
  obtain ⟨y,e,hy⟩:=qZl hN h4 hs
  exact ⟨y,cs,e,h3,by rw [h4.length];exact qMb hs,hy⟩
 |row e fr xs=>
  obtain ⟨h1,h2⟩:=h
  rw [hp] at h2
  obtain ⟨cs,h3,h4⟩:=h2
  rw [h1] at hs
  cases p with
  |nil=>simp [qdl] at hs
  |cons s p=>
   cases s <;> simp only [qdl] at hs <;> first|(cases hs;done)|skip
   rename_i i
   split at hs
   ·rename_i o3 t3 hp3
    split at hs
    ·rename_i hi
     simp only [wc,wk] at hs;obtain ⟨rfl,rfl⟩:=hs
     have hg:=h4.get (fun _ _=>PRd.length) i _ (getD_some (d:=qua e) hi)
     obtain ⟨y,e1,hy⟩:=qZl hN (qej (K:=K) hN fr hg) hp3
     rw [qCz (qMb hp3)] at hy
     have hl:=h4.length (n:=e.sz) (fun _ _=>PRd.length)
     have hm:(i+1)*e.sz≤xs.length*e.sz:=wja _ hi
     rw [wua] at hm
     have:=qMb hp3
     exact ⟨y,cs,by simp only [qon];exact e1,h3,by omega,hy⟩
    ·cases hs
   ·cases hs
 |cell v=>
  rw [h.1] at hs
  simp [qdl] at hs
 |map k v es=>
  rw [h.1] at hs
  simp [qdl] at hs
 |chan e fr cap xs cl=>
  rw [h.1] at hs
  simp [qdl] at hs
 |famS a e xs=>
  obtain ⟨ha0,hf,ps,h1,_,h2⟩:=h
  rw [h1] at hs
  rw [hp] at h2
  obtain ⟨cs,h3,h4⟩:=h2
  cases p with
  |nil=>simp [qdl] at hs
  |cons s p=>
   cases s <;> simp only [qdl] at hs <;> first|(cases hs;done)|skip
   rename_i i
   split at hs
   ·rename_i o3 t3 hp3
    split at hs
    ·rename_i hi
     simp only [wc,wk] at hs;obtain ⟨rfl,rfl⟩:=hs
     obtain ⟨q,c,v,g1,g2,g3,g4,g5⟩:=h4.at hi
     obtain ⟨A,cap,hv⟩:=g5.form
     have hA:=qTF (K:=K) hN ha0 g4 hv
     have hsz:(qQp a e).sz=a.sz+1:=rfl
     rw [←g2,←hsz] at hA
     obtain ⟨y,e1,hy⟩:=qZl hN hA hp3
     rw [qCz (qMb hp3)] at hy
     have:=qMb hp3
     rw [wua] at g3
     refine ⟨y,cs,?_,h3,by rw [hsz] at this ⊢;omega,hy⟩
     rw [←e1]
     revert hz
     cases p with
     |nil=>intro _;rfl
     |cons s2 p2=>
      cases s2 with
      |fst=>intro _;rfl
      |idx j=>intro _;rfl
      |snd=>
       cases p2 with
       |nil=>intro _;rfl
       |cons s3 p3=>
        cases s3 with
        |snd=>intro _;rfl
        |idx j=>intro _;rfl
        |fst=>
         intro hz
         exfalso
         cases p3 with
         |nil=>
          simp only [qDa,wc,wk] at hp3
          simp only [qon,qcA,wc,Sigma.mk.injEq] at hz
          have:=hp3.2.trans hz.1.symm
          cases this
         |cons s4 p4=>cases s4 <;> simp [qDa] at hp3
    ·cases hs
   ·cases hs
 |fam e xss=>
  exfalso
  obtain ⟨_,ps,h1,_⟩:=h
  rw [h1] at hs
  cases p with
  |nil=>simp [qdl] at hs
  |cons s p=>
   cases s <;> simp only [qdl] at hs <;> first|(cases hs;done)|skip
   cases p with
   |nil=>
    simp only [qDa] at hs
    split at hs
    ·simp only [wc,wk] at hs;obtain ⟨_,rfl⟩:=hs
     simp [qon,qcA] at hz
    ·cases hs
   |cons s2 p=>cases s2 <;> simp [qDa] at hs
theorem FamRd.get {e:Ty}:∀{xss:List (List (pden e))} {ps:List (Nat×Option Plc)} {cs:List Value} {i m:Nat} {p:Plc},FamRd w e xss ps cs→ps[i]?=some (m,some p)→
  i<xss.length∧(xss.getD i []).length=m∧∃o cap cl v,cs[i]?=some v∧v= .slice (some ⟨p.blk,o,none⟩) m cap∧m≤cap∧(cap=0∨(o=p.ob∧p.ob+cap*e.sz≤p.bs))∧InBlk w p cl∧Cat (PRd w (fun _=>False) e) (xss.getD i []) cl
 |[],_,_,i,m,p,h,hi=>by obtain ⟨rfl,rfl⟩:=h;simp at hi
 |xs::r,_,_,i,m,p,h,hi=>by
  obtain ⟨q,ps',v,cs',rfl,rfl,h1,h2⟩:=h
  cases i with
  |zero=>
   simp only [wSa,wc,wk] at hi
   obtain ⟨rfl,rfl⟩:=hi
   obtain ⟨o,cap,cl,a1,a2,a3,a4,a5⟩:=h1
   exact ⟨by simp,rfl,o,cap,cl,v,rfl,a1,a2,a3,a4,a5⟩
  |succ i=>
   simp only [wRa] at hi
   obtain ⟨b1,b2,b3⟩:=FamRd.get h2 hi
   exact ⟨by simp only [ww];omega,b2,b3⟩
theorem FamSRd.len {w:World} {a e:Ty}:∀{xs:List (pden a×List (pden e))} {ps:List (Nat×Option Plc)} {cs:List Value},FamSRd w a e xs ps cs→ps.length=xs.length∧cs.length=xs.length*(a.sz+1)
 |[],_,_,h=>by obtain ⟨rfl,rfl⟩:=h;simp
 |x::r,_,_,h=>by
  obtain ⟨p,ps',c,v,cs',rfl,rfl,h0,h1,h2⟩:=h
  obtain ⟨g1,g2⟩:=h2.len
  have:=h0.length
  refine ⟨by simp [g1],?_⟩
  rw [wl,ww,ww,wua,this,g2];omega
theorem FamSRd.get {w:World} {a e:Ty} {xs:List (pden a×List (pden e))} {ps:List (Nat×Option Plc)} {cs:List Value} {i m:Nat} {p:Plc} (h:FamSRd w a e xs ps cs) (hi:ps[i]?=some (m,some p)):
  i<xs.length∧(xs.getD i (qua a,[])).2.length=m∧∃v c,cut cs (i*(a.sz+1)) (a.sz+1)=c++[v]∧c.length=a.sz∧∃o cap cl,v= .slice (some ⟨p.blk,o,none⟩) (xs.getD i (qua a,[])).2.length cap∧(xs.getD i (qua a,[])).2.length≤cap∧(cap=0∨(o=p.ob∧p.ob+cap*e.sz≤p.bs))∧InBlk w p cl∧Cat (PRd w (fun _=>False) e) (xs.getD i (qua a,[])).2 cl:=by
 have hlt:i<xs.length:=by rw [←h.len.1];exact (wZ.1 hi).1
 obtain ⟨q,c,v,g1,g2,g3,g4,g5⟩:=h.at hlt
 rw [g1] at hi
 simp only [wc,wk] at hi
 obtain ⟨h1,rfl⟩:=hi
 exact ⟨hlt,h1,v,c,g2,g4.length,g5⟩
theorem ORd.box_get {N:Bool→Nat→Prop} (hN:∀b,N true b→N false b) {obj:Obj} {gh:Gh} {p:List PS} {po:Nat} {t:Ty} {pl:Plc} (h:ORd w N K obj gh) (hs:GhAt gh p t pl po) {y:qke t} (hg:qon obj p=some ⟨t,y⟩):
  ∃cs,InBlk w pl cs∧po+t.sz≤cs.length∧ARd w N K t y (cut cs po t.sz):=by
 rcases hs with ⟨hp,hs⟩|⟨e1,n,ps,i,q,m,hs,rfl,hi,hq⟩|⟨a1,e1,n,ps,i,q,m,hs,rfl,hi,hq⟩
 ·obtain ⟨y',cs,e1,e2⟩:=h.box_get0 hN hp hs hg
  simp only [wc,Sigma.mk.injEq,true_and] at e1
  have e1:=eq_of_heq e1;subst e1
  exact ⟨cs,e2⟩
 ·cases obj with
  |fam e xss=>
   obtain ⟨hf,ps',h1,ha,h2⟩:=h
   rw [h1] at hs
   simp only [Shp.row.injEq,Ty.slice.injEq] at hs
   obtain ⟨rfl,rfl,rfl⟩:=hs
   cases hpl:gh.pl with
   |none=>rw [hpl] at h2;obtain ⟨_,rfl⟩:=h2;simp at hi
   |some p0=>
    rw [hpl] at h2
    obtain ⟨cs,_,h4⟩:=h2
    obtain ⟨b1,rfl,o,cap,cl,v,b3,b4,b5,b6,b7,b8⟩:=h4.get hi
    have hA:ARd w N K (.arr (xss.getD i []).length e) (xss.getD i []) cl:=⟨rfl,b8.imp (fun _ _ q=>q.flat hf)⟩
    obtain ⟨y',e,hy⟩:=qZl hN hA hq
    simp only [qon] at hg
    rw [hg] at e
    simp only [wc,Sigma.mk.injEq,true_and] at e
    have e:=eq_of_heq e;subst e
    exact ⟨cl,b7,by rw [hA.length];exact qMb hq,hy⟩
  |row e fr xs=>
   rw [h.1] at hs
   simp only [Shp.row.injEq] at hs
   obtain ⟨_,_,rfl⟩:=hs
   simp at hi
  |box t0 x=>rw [h.1] at hs;cases hs
  |cell v=>rw [h.1] at hs;cases hs
  |map k v es=>rw [h.1] at hs;cases hs
  |chan e fr cap xs cl=>rw [h.1] at hs;cases hs
  |famS a e xs=>
   obtain ⟨_,_,ps',h1,_⟩:=h
   rw [h1] at hs;cases hs
 ·cases obj with
  |famS a e xs=>
   obtain ⟨ha0,hf,ps',h1,ha,h2⟩:=h
   rw [h1] at hs
   simp only [Shp.row.injEq,Ty.pair.injEq,Ty.slice.injEq,and_true] at hs
   obtain ⟨⟨rfl,rfl⟩,rfl,rfl⟩:=hs
   cases hpl:gh.pl with
   |none=>rw [hpl] at h2;obtain ⟨_,rfl⟩:=h2;simp at hi
   |some p0=>
    rw [hpl] at h2
    obtain ⟨cs,_,h4⟩:=h2
    obtain ⟨b1,rfl,v,c,b2,b3,o,cap,cl,b4,b5,b6,b7,b8⟩:=h4.get hi
    have hA:ARd w N K (.arr (xs.getD i (qua a,[])).2.length e) (xs.getD i (qua a,[])).2 cl:=⟨rfl,b8.imp (fun _ _ q=>q.flat hf)⟩
    obtain ⟨y',e,hy⟩:=qZl hN hA hq
    simp only [qon] at hg
    rw [hg] at e
    simp only [wc,Sigma.mk.injEq,true_and] at e
    have e:=eq_of_heq e;subst e
    exact ⟨cl,b7,by rw [hA.length];exact qMb hq,hy⟩
  |row e fr xs=>
   rw [h.1] at hs
   simp only [Shp.row.injEq] at hs
   obtain ⟨_,_,rfl⟩:=hs
   simp at hi
  |fam e xss=>
   obtain ⟨_,ps',h1,_⟩:=h
   rw [h1] at hs;cases hs
  |box t0 x=>rw [h.1] at hs;cases hs
  |cell v=>rw [h.1] at hs;cases hs
  |map k v es=>rw [h.1] at hs;cases hs
  |chan e fr cap xs cl=>rw [h.1] at hs;cases hs
theorem qHH (A:Inv c H K w) (hsub:∀l o,lk l=some o→H l=some o) {T:TypeId} {x v:AV} {u:Value} (hx:VRd w (NN c H K w) K x u) (h:qSy P lk T x=some v):
  ∃ad r,u= .pointer (some ad)∧(loadVar T ad).run P w= .ok r w∧VRd w (NN c H K w) K v r:=by
 unfold qSy at h
 split at h
 ·rename_i l
  obtain ⟨sh,pl,k1,k2⟩:=hx
  split at h
  ·rename_i v0 hlk
   obtain ⟨gh,g1,g2,p,cv,g3,g4,g5⟩:=A.objs l _ (hsub _ _ hlk)
   rw [k1] at g1;injection g1 with g1;subst g1
   simp only [wc] at g3;subst g3
   split at h
   ·rename_i hna
    simp only [wc] at h;subst h
    have hcell:w.cell? ⟨pl.blk,pl.ob,none⟩=some cv:=by simpa using g4.cells 0 cv rfl
    obtain ⟨d,hd,hda⟩:∃d,P.underlying T=some d∧qUz d=false:=by
     unfold qwK at hna
     cases hu:P.underlying T with
     |none=>simp [hu] at hna
     |some d=>refine ⟨d,rfl,?_⟩;cases d <;> simp_all [qUz]
    exact ⟨_,cv,k2,by simp only [loadVar,wu,qFw hd,hda,wq,wI,if_false,run_load,hcell],g5⟩
   ·cases h
  ·cases h
 ·split at h
  ·rename_i t r hr
   split at h
   ·rename_i hT
    simp only [wc] at h;subst h
    cases x <;> simp only [qAK] at hr <;> first|(cases hr;done)|skip
    ·rename_i t0 l p _
     obtain ⟨gh0,pl,po,k1,k2,k3⟩:=hx
     split at hr
     ·rename_i obj hlk
      split at hr
      ·rename_i t' y hg
       split at hr
       ·rename_i htt
        simp only [wc,wk] at hr;obtain ⟨rfl,rfl⟩:=hr
        subst htt
        obtain ⟨gh,g1,g2⟩:=A.objs l _ (hsub _ _ hlk)
        rw [k1] at g1;injection g1 with g1;subst g1
        obtain ⟨cs,e2,e3,e4⟩:=g2.box_get ui k2 hg
        exact ⟨_,_,k3,qVl (P:=P) (w:=w) hT (e2.cells.cut po t'.sz) (qwo e3),qZq e4⟩
       ·cases hr
      ·cases hr
     ·cases hr
    ·rename_i t0 fr y _
     simp only [wc,wk] at hr;obtain ⟨rfl,rfl⟩:=hr
     obtain ⟨b,ob,cs,e1,hn,hcs,hp⟩:=hx
     exact ⟨_,_,e1,qVl (P:=P) (w:=w) hT hcs hp.length,qZq (qej ui fr hp)⟩
   ·cases h
  ·cases h
theorem FamRd.at {e:Ty}:∀{xss:List (List (pden e))} {ps:List (Nat×Option Plc)} {cs:List Value} {i:Nat},FamRd w e xss ps cs→i<xss.length→
  ∃p v,ps[i]?=some ((xss.getD i []).length,p)∧cs[i]?=some v∧(match p with
   |none=>v= .slice none 0 0∧xss.getD i []=[]
   |some p=>∃o cap cl,v= .slice (some ⟨p.blk,o,none⟩) (xss.getD i []).length cap∧(xss.getD i []).length≤cap∧(cap=0∨(o=p.ob∧p.ob+cap*e.sz≤p.bs))∧InBlk w p cl∧Cat (PRd w (fun _=>False) e) (xss.getD i []) cl)
 |[],_,_,i,h,hi=>by simp at hi
 |xs::r,_,_,i,h,hi=>by
  obtain ⟨q,ps',v,cs',rfl,rfl,h1,h2⟩:=h
  cases i with
  |zero=>exact ⟨q,v,rfl,rfl,h1⟩
  |succ i=>exact h2.at (by simpa using hi)
theorem qGB (A:At c P GT H lk K w ev ρ nl) {o:Oper} {T:TypeId} {x:Operand} (ho:o.op= .load T x) {v:AV} (hv:ev1 ev x=some v) {out:Out} (h:qkD P lk T v=some out) (hc:qfg out.conds):
  Does P o ρ w (Lands c H K w nl out):=by
 unfold qkD at h
 split at h
 ·rename_i e l i
  split at h
  ·rename_i e' xss hlk
   split at h
   ·rename_i he
    obtain ⟨rfl,hT⟩:=he
    simp only [wc] at h;subst h
    obtain ⟨hpos,_⟩:=hc
    obtain ⟨gh,pl,po,k1,k2,k3⟩:=A.one hv
    obtain ⟨gh',g1,hf,ps,g2,ha,g3⟩:=A.inv.objs l _ (A.sub _ _ hlk)
    rw [k1] at g1;injection g1 with g1;subst g1
    rcases k2 with ⟨k2,k4⟩|⟨e1,n,ps',i',q,m,q1,q2,q3,q4⟩|⟨a1,e1,n,ps',i',q,m,q1,q2,q3,q4⟩
    ·rw [g2] at k4
     simp only [qdl,qDa] at k4
     split at k4
     ·rename_i hi
      simp only [wc,wk] at k4;obtain ⟨rfl,_⟩:=k4
      rw [k2] at g3
      obtain ⟨cs,g4,g5⟩:=g3
      obtain ⟨p,u,a1,a2,a3⟩:=g5.at hi
      cases p with
      |none=>rw [a3.2] at hpos;simp at hpos
      |some p=>
       obtain ⟨o1,cap,cl,rfl,a4,a5,a6,a7⟩:=a3
       have hlt:=(wZ.1 a2).1
       have hcut:Ab.cut cs i (Ty.slice e').sz=[.slice (some ⟨p.blk,o1,none⟩) (xss.getD i []).length cap]:=by
        apply wQa;intro j
        rw [qVk]
        show (if j<1 then _ else _)=_
        by_cases hj:j<1
        ·rw [if_pos hj]
         have:j=0:=by omega
         subst this;simpa using a2
        ·rw [if_neg hj,List.getElem?_eq_none (by simp;omega)]
       have hld:=qVl (P:=P) (w:=w) hT (g4.cells.cut i (Ty.slice e').sz) (by rw [hcut];rfl)
       rw [hcut] at hld
       refine Does.value (v:= .slice (some ⟨p.blk,o1,none⟩) (xss.getD i []).length cap) (w':=w) ?_ (Lands.one A.inv ⟨gh,p,0,k1, .inr (.inl ⟨e',_,ps,i,[],_,g2,rfl,a1,by simp [qDa]⟩),by omega,o1,cap,rfl,a4,a5.imp id (fun h=>by rw [h.1];simp)⟩)
       have hsz:(Ty.slice e').sz=1:=rfl
       simp only [hsz,Nat.mul_one,wXa] at k3
       simp only [execOp,ho,k3,Instr.loadAt,wfb,wu,wE,wq,hld]
       rfl
     ·cases k4
    ·simp only [wFa] at q2
     obtain ⟨_,rfl⟩:=q2
     simp [qDa] at q4
    ·simp at q2
   ·cases h
  ·cases h
 ·cases h
theorem qxz (A:At c P GT H lk K w ev ρ nl) {o:Oper} {T:TypeId} {x:Operand} (ho:o.op= .load T x) {v:AV} (hv:ev1 ev x=some v) {out:Out} (h:qiz P lk T v=some out) (hc:qfg out.conds):
  Does P o ρ w (Lands c H K w nl out):=by
 unfold qiz at h
 split at h
 ·rename_i e l i
  split at h
  ·rename_i a e' xs hlk
   split at h
   ·rename_i he
    obtain ⟨rfl,hT⟩:=he
    simp only [wc] at h;subst h
    obtain ⟨hpos,_⟩:=hc
    obtain ⟨gh,pl,po,k1,k2,k3⟩:=A.one hv
    obtain ⟨gh',g1,ha0,hf,ps,g2,ha,g3⟩:=A.inv.objs l _ (A.sub _ _ hlk)
    rw [k1] at g1;injection g1 with g1;subst g1
    rcases k2 with ⟨k2,k4⟩|⟨e1,n,ps',i',q,m,q1,q2,q3,q4⟩|⟨a1,e1,n,ps',i',q,m,q1,q2,q3,q4⟩
    ·rw [g2] at k4
     simp only [qdl,qDa] at k4
     split at k4
     ·rename_i hi
      ·simp only [wc,wk] at k4;obtain ⟨rfl,_⟩:=k4
       rw [k2] at g3
       obtain ⟨cs,g4,g5⟩:=g3
       obtain ⟨p,cc,u,a1,a2,a2',a3,a4⟩:=g5.at hi
       cases p with
       |none=>rw [a4.2] at hpos;simp at hpos
       |some p=>
        obtain ⟨o1,cap,cl,rfl,b4,b5,b6,b7⟩:=a4
        have hcl:=a3.length
        have hsz:(qQp a e').sz=a.sz+1:=rfl
        have hcut:Ab.cut cs (i*(qQp a e').sz+(a.sz+0)) (Ty.slice e').sz=[.slice (some ⟨p.blk,o1,none⟩) (xs.getD i (qua a,[])).2.length cap]:=by
         have:Ab.cut (Ab.cut cs (i*(a.sz+1)) (a.sz+1)) a.sz 1=[.slice (some ⟨p.blk,o1,none⟩) (xs.getD i (qua a,[])).2.length cap]:=by
          rw [a2]
          unfold Ab.cut
          rw [←hcl,List.drop_left];rfl
         rw [qCz (by omega)] at this
         exact this
        have hld:=qVl (P:=P) (w:=w) hT (g4.cells.cut (i*(qQp a e').sz+(a.sz+0)) (Ty.slice e').sz) (by rw [hcut];rfl)
        rw [hcut] at hld
        refine Does.value (v:= .slice (some ⟨p.blk,o1,none⟩) (xs.getD i (qua a,[])).2.length cap) (w':=w) ?_ (Lands.one A.inv ⟨gh,p,0,k1, .inr (.inr ⟨a,e',_,ps,i,[],_,g2,rfl,a1,by simp [qDa]⟩),by omega,o1,cap,rfl,b4,b5.imp id (fun h=>by rw [h.1];simp)⟩)
        simp only [execOp,ho,k3,Instr.loadAt,wfb,wu,wE,wq,hld]
        rfl
     ·cases k4
    ·rw [g2] at q1;cases q1
    ·simp only [wFa] at q2
     obtain ⟨_,_,_,rfl⟩:=q2
     simp [qDa] at q4
   ·cases h
  ·cases h
 ·cases h
theorem qrI (A:At c P GT H lk K w ev ρ nl) {o:Oper} {T:TypeId} {x:Operand} (ho:o.op= .load T x) {orc:Option COrc} {out:Out} (h:qGb P GT ev lk nl orc o.type o.op=some out) (hc:qfg out.conds):
  Does P o ρ w (Lands c H K w nl out):=by
 rw [ho] at h
 simp only [qGb] at h
 split at h
 ·rename_i v hv
  split at h
  ·rename_i o' hfl
   simp only [wc] at h;subst h
   exact qGB A ho hv hfl hc
  split at h
  ·rename_i o' hfl
   simp only [wc] at h;subst h
   exact qxz A ho hv hfl hc
  split at h
  ·rename_i r hr
   simp only [Ab.one,wc] at h;subst h
   obtain ⟨ad,u,h1,h2,h3⟩:=qHH (P:=P) A.inv A.sub (A.one hv) hr
   refine Does.value (v:=u) (w':=w) ?_ (Lands.one A.inv h3)
   simp only [execOp,ho,h1,Instr.loadAt,wfb,wu,wE,wq,h2]
  ·cases h
 ·cases h
theorem qYx (A:At c P GT H lk K w ev ρ nl):∀{xs:List Operand} {vs:List AV},evs ev xs=some vs→VRdL w (NN c H K w) K vs (xs.map ρ)
 |[],vs,h=>by simp only [evs,wc] at h;subst h;rfl
 |x::xs,vs,h=>by
  simp only [evs] at h
  split at h
  ·rename_i v us h1 h2
   simp only [wc] at h;subst h
   exact ⟨ρ x,xs.map ρ,rfl,A.one h1,qYx A h2⟩
  ·cases h
theorem qts {o:Oper} {b:Builtin} {args:Array Operand} {ats:Array TypeId} (ho:o.op= .call {callee:= .builtin b,args:=args,argTypes:=ats}):
  ∃cn,(execOp ρ o).run P w=(builtin b ats o.type cn (args.map ρ)).run P w:=
 ⟨_,by simp only [execOp,ho];rfl⟩
theorem VRdL.one_inv {N:Bool→Nat→Prop} {a:AV} {vs:List Value} (h:VRdL w N K [a] vs):∃v,vs=[v]∧VRd w N K a v:=by
 obtain ⟨v,r,e,h1,h2⟩:=h
 simp only [VRdL] at h2;subst h2
 exact ⟨v,e,h1⟩
theorem VRdL.two_inv {N:Bool→Nat→Prop} {a b:AV} {vs:List Value} (h:VRdL w N K [a,b] vs):∃u v,vs=[u,v]∧VRd w N K a u∧VRd w N K b v:=by
 obtain ⟨u,r,e,h1,h2⟩:=h
 obtain ⟨v,e2,h3⟩:=h2.one_inv
 exact ⟨u,v,by rw [e,e2],h1,h3⟩
theorem MRd.length {N:Nat→Prop} {k v:Ty}:∀{xs:List (pden k×pden v)} {es:List MapEntry},MRd w N k v xs es→es.length=xs.length
 |[],_,h=>by simp only [MRd] at h;subst h;rfl
 |_::_,_,h=>by
  obtain ⟨e,r,ck,cv,rfl,_,_,_,_,h⟩:=h
  simp [MRd.length h]
theorem qRG (A:At c P GT H lk K w ev ρ nl) {T:TypeId} {x v:AV} {u:Value} {ty:TypeId} (hx:VRd w (NN c H K w) K x u) (h:qvL lk P T x=some v):∃r,(wkb #[T] ty #[u]).run P w= .ok r w∧VRd w (NN c H K w) K v r:=by
 unfold qvL at h
 split at h
 ·rename_i s
  split at h
  ·rename_i hd
   simp only [wc] at h;subst h
   simp only [VRd] at hx;subst hx
   exact ⟨.int .i64 (s.size:Int),by simp [wkb,run_underlying hd,goInt],rfl⟩
  ·cases h
 ·rename_i e fr xs
  split at h
  ·rename_i E hd
   simp only [wc] at h;subst h
   obtain ⟨A0,cap,e1,_⟩:=hx
   simp only [wFa,and_true] at e1;subst e1
   exact ⟨.int .i64 (xs.length:Int),by simp [wkb,run_underlying hd,goInt],rfl⟩
  ·cases h
 ·rename_i e l off len wh
  split at h
  ·rename_i E hd
   simp only [wc] at h;subst h
   obtain ⟨A0,cap,rfl⟩:=RefRd.form hx
   exact ⟨.int .i64 (len:Int),by simp [wkb,run_underlying hd,goInt],rfl⟩
  ·cases h
 ·rename_i e l p n off len
  split at h
  ·rename_i E hd
   simp only [wc] at h;subst h
   obtain ⟨sh,pl,po,k1,k2,k3,o1,cap,rfl,_⟩:=hx
   exact ⟨.int .i64 (len:Int),by simp [wkb,run_underlying hd,goInt],rfl⟩
  ·cases h
 ·rename_i e l n
  split at h
  ·rename_i E hd
   simp only [wc] at h;subst h
   obtain ⟨pl,k1,cap,rfl,_⟩:=hx
   exact ⟨.int .i64 (n:Int),by simp [wkb,run_underlying hd,goInt],rfl⟩
  ·cases h
 ·rename_i e n
  split at h
  ·rename_i E hd
   simp only [wc] at h;subst h
   obtain ⟨A0,cap,rfl⟩:=hx
   exact ⟨.int .i64 (n:Int),by simp [wkb,run_underlying hd,goInt],rfl⟩
  ·cases h
 ·split at h
  ·rename_i E hd
   simp only [wc] at h;subst h
   simp only [VRd] at hx;subst hx
   exact ⟨.int .i64 0,by simp [wkb,run_underlying hd,goInt],rfl⟩
  ·cases h
 ·split at h
  ·rename_i E1 E2 hd
   simp only [wc] at h;subst h
   simp only [VRd] at hx;subst hx
   exact ⟨.int .i64 0,by simp [wkb,run_underlying hd,goInt],rfl⟩
  ·cases h
 ·rename_i l
  split at h
  ·rename_i E1 E2 hd
   split at h
   ·rename_i k v es hlk
    simp only [wc] at h;subst h
    obtain ⟨sh,pl,k1,rfl⟩:=hx
    obtain ⟨gh,g1,g2,p,en,clock,g3,g4,g5⟩:=A.inv.objs l _ (A.sub _ _ hlk)
    rw [k1] at g1;injection g1 with g1;subst g1
    simp only [wc] at g3;subst g3
    refine ⟨.int .i64 (es.length:Int),?_,rfl⟩
    have hl:=g5.2.2.length
    have hg:(getObj pl.blk).run P w= .ok (.map en clock) w:=by simp [getObj,Sem.run,g4]
    simp only [wkb,List.getElem?_toArray,wSa,wu,wE,wq,run_underlying hd,hg]
    simp [goInt,←hl]
   ·cases h
  ·cases h
 ·rename_i n e y
  split at h
  ·rename_i n' E hd
   split at h
   ·rename_i hn
    simp only [wc] at h;subst h
    obtain ⟨cs,rfl,_,_⟩:=hx
    exact ⟨.int .i64 (n:Int),by simp [wkb,run_underlying hd,goInt,hn],rfl⟩
   ·cases h
  ·cases h
 ·cases h
end
end Go.Ab

/-
  What is taken over from rows of one's own.
-/
set_option linter.unusedVariables false
set_option linter.unusedSimpArgs false
namespace Go.Ab
open Go
section
variable {c:Cx} {P:Program} {GT:qTg} {H lk:qZb} {K:Kn} {w:World} {ev:Operand→TV} {ρ:Operand→Value} {nl:Nat}
theorem qgv {l:Nat}:∀{ls:List Nat},l∈ls→lookL (kill ls) l=some none
 |[],h=>by cases h
 |x::xs,h=>by
  simp only [kill,wJ,lookL]
  split
  ·rfl
  ·rename_i hne
   rcases List.mem_cons.1 h with rfl|h
   ·exact absurd rfl hne
   ·exact qgv h
theorem qrl {l:Nat}:∀{ls:List Nat} {o:Option Obj},lookL (kill ls) l=some o→o=none∧l∈ls
 |[],_,h=>by simp [kill,lookL] at h
 |x::xs,o,h=>by
  simp only [kill,wJ,lookL] at h
  split at h
  ·rename_i he
   simp only [wc] at h
   exact ⟨h.symm,by simp [he]⟩
  ·obtain ⟨h1,h2⟩:=qrl (ls:=xs) h
   exact ⟨h1,by simp [h2]⟩
theorem qwr {l:Nat} {ls:List Nat} {o:Option Obj} (h:lookL (kill ls) l=some o):l∈ls:=(qrl h).2
theorem qdc {e:Ty} {l:Nat} {fr:Bool} {xs:List (pden e)} (h:qhn lk e l=some (fr,xs)):lk l=some (.row e fr xs):=by
 unfold qhn at h
 split at h
 ·rename_i e' fr' xs' hl
  split at h
  ·rename_i he
   subst he
   simp only [wc,wk] at h
   obtain ⟨rfl,rfl⟩:=h
   exact hl
  ·cases h
 ·cases h
theorem qgn (A:Inv c H K w) {e:Ty} {l off len:Nat} {wh fr:Bool} {xs:List (pden e)} {v:Value} (hl:H l=some (.row e fr xs)) (hr:RefRd K e l off len wh v):
  (seg xs off len wh).length=len∧off+len≤xs.length∧(wh=true→off=0∧len=xs.length)∧
  ((v= .slice none 0 0∧K l=some ⟨.row e xs.length [],none⟩∧xs=[]∧len=0)∨
    ∃p cs o cap,K l=some ⟨.row e xs.length [],some p⟩∧v= .slice (some ⟨p.blk,o,none⟩) len cap∧len≤cap∧(cap=0∨(o=p.ob+off*e.sz∧p.ob+(off+cap)*e.sz≤p.bs))∧
     InBlk w p cs∧Cat (PRd w (NN c H K w fr) e) xs cs):=by
 obtain ⟨gh,g1,g2,g3⟩:=A.objs l _ hl
 obtain ⟨n,pl,⟨ps,k1⟩,k2,k3,k4⟩:=hr
 rw [k1] at g1;injection g1 with g1;subst g1
 simp only [Shp.row.injEq,true_and] at g2
 obtain ⟨g2,g2'⟩:=g2
 subst g2;subst g2'
 have hseg:(seg xs off len wh).length=len:=by
  unfold seg
  cases wh with
  |true=>have:=k3 rfl;simp;omega
  |false=>simp;omega
 refine ⟨hseg,k2,k3,?_⟩
 cases pl with
 |none=>
  obtain ⟨rfl,h0⟩:=k4
  simp only at g3;subst g3
  exact .inl ⟨rfl,k1,rfl,by simp only [wN] at k2;omega⟩
 |some p=>
  obtain ⟨cs,g3,g4⟩:=g3
  obtain ⟨o,cap,rfl,h1,h2⟩:=k4
  exact .inr ⟨p,cs,o,cap,k1,rfl,h1,h2,g3,g4⟩
theorem qUl {α:Type} {R:α→List Value→Prop} {n:Nat} (hR:∀x cs,R x cs→cs.length=n) {xs:List α} {cs:List Value} {off len:Nat} {wh:Bool} (h:Cat R xs cs) (hw:wh=true→off=0∧len=xs.length):Cat R (seg xs off len wh) (cut cs (off*n) (len*n)):=by
 unfold seg
 cases wh with
 |true=>
  obtain ⟨rfl,rfl⟩:=hw rfl
  have hl:=h.length hR
  simp only [if_true,Nat.zero_mul]
  rw [←hl,qDz rfl];exact h
 |false=>exact h.seg hR off len
theorem qpw {e:Ty} {l:Nat} {x:Bool×List (pden e)} (h:qhn lk e l=some x):qjt lk e l=some x:=by
 have h':=qdc (fr:=x.1) (xs:=x.2) h
 unfold qjt
 rw [h'];simp
theorem FamRd.cat {N:Nat→Prop} {e:Ty} (hf:e.flat=true):∀{xss:List (List (pden e))} {ps:List (Nat×Option Plc)} {cs:List Value},(∀p,some p∈ps.map (·.2)→N p.blk)→FamRd w e xss ps cs→Cat (PRd w N (.slice e)) xss cs
 |[],_,_,_,h=>h.2
 |xs::r,_,_,hb,h=>by
  obtain ⟨p,ps',v,cs',rfl,rfl,h1,h2⟩:=h
  refine ⟨[v],cs',rfl,?_,FamRd.cat hf (fun q hq=>hb q (wH _ hq)) h2⟩
  cases p with
  |none=>obtain ⟨rfl,rfl⟩:=h1;exact ⟨none,0,rfl,ws _, .inl rfl⟩
  |some p=>
   obtain ⟨o,cap,cl,rfl,a2,a3,a4,a5⟩:=h1
   refine ⟨_,cap,rfl,a2,?_⟩
   by_cases h0:cap=0
   ·exact .inl (wG (by omega))
   ·obtain ⟨rfl,_⟩:=a3.resolve_left h0
    exact .inr ⟨p.blk,p.ob,cl,rfl,hb p (by simp),a4.cells,a5.imp (fun _ _ q=>q.flat hf)⟩
theorem FamRd.len {e:Ty}:∀{xss:List (List (pden e))} {ps:List (Nat×Option Plc)} {cs:List Value},FamRd w e xss ps cs→ps.length=xss.length∧cs.length=xss.length
 |[],_,_,h=>by obtain ⟨rfl,rfl⟩:=h;exact ⟨rfl,rfl⟩
 |xs::r,_,_,h=>by
  obtain ⟨p,ps',v,cs',rfl,rfl,h1,h2⟩:=h
  obtain ⟨a,b⟩:=h2.len
  simp [a,b]
theorem qIM (A:Inv c H K w) {e:Ty} {l off len:Nat} {wh:Bool} {xss:List (List (pden e))} {v:Value} (hl:H l=some (.fam e xss)) (hr:RefRd K (.slice e) l off len wh v) {N:Nat→Prop} (hN:∀gh p,K l=some gh→Has gh p→N p.blk):
  PRd w N (.slice (.slice e)) (seg xss off len wh) [v]∧(wh=true→off=0∧len=xss.length):=by
 obtain ⟨gh,g1,hf,ps,g2,g3,g4⟩:=A.objs l _ hl
 obtain ⟨n,pl,⟨ps',k1⟩,k2,k3,k4⟩:=hr
 have hN':=fun p=>hN gh p g1
 rw [k1] at g1;injection g1 with g1;subst g1
 simp only [Shp.row.injEq,true_and] at g2
 obtain ⟨rfl,rfl⟩:=g2
 refine ⟨?_,k3⟩
 have hseg:(seg xss off len wh).length=len:=by
  unfold seg
  cases wh with
  |true=>have:=k3 rfl;simp;omega
  |false=>simp;omega
 cases pl with
 |none=>
  obtain ⟨rfl,h0⟩:=k4
  have:seg xss off len wh=[]:=wG (by omega)
  rw [this]
  exact ⟨none,0,rfl,ws _, .inl rfl⟩
 |some p=>
  obtain ⟨cs,g3,g4⟩:=g4
  obtain ⟨o,cap,rfl,h1,h2⟩:=k4
  refine ⟨_,cap,by rw [hseg],by omega,?_⟩
  by_cases h0:len=0
  ·exact .inl (wG (by rw [hseg,h0]))
  ·right
   have h6':=h2.resolve_left (by omega)
   have hcat:Cat (PRd w N (.slice e)) xss cs:=g4.cat hf (fun q hq=>hN' q (.inr hq))
   refine ⟨p.blk,o,_,rfl,hN' p (.inl rfl),?_,qUl (fun _ _=>PRd.length) hcat k3⟩
   rw [h6'.1]
   exact g3.cells.cut _ _
theorem FamSRd.cat {N:Nat→Prop} {a e:Ty} (ha:a.flat=true) (hf:e.flat=true):∀{xs:List (pden a×List (pden e))} {ps:List (Nat×Option Plc)} {cs:List Value},(∀p,some p∈ps.map (·.2)→N p.blk)→FamSRd w a e xs ps cs→Cat (PRd w N (qQp a e)) (qxi xs) cs
 |[],_,_,_,h=>h.2
 |x::r,_,_,hb,h=>by
  obtain ⟨p,ps',c,v,cs',rfl,rfl,h0,h1,h2⟩:=h
  have hs:PRd w N (.slice e) x.2 [v]:=by
   cases p with
   |none=>obtain ⟨rfl,h1⟩:=h1;rw [h1];exact ⟨none,0,rfl,ws _, .inl rfl⟩
   |some p=>
    obtain ⟨o,cap,cl,rfl,a2,a3,a4,a5⟩:=h1
    refine ⟨_,cap,rfl,a2,?_⟩
    by_cases h0:cap=0
    ·exact .inl (wG (by omega))
    ·obtain ⟨rfl,_⟩:=a3.resolve_left h0
     exact .inr ⟨p.blk,p.ob,cl,rfl,hb p (by simp),a4.cells,a5.imp (fun _ _ q=>q.flat hf)⟩
  refine ⟨c++[v],cs',by simp,⟨c,[v],rfl,h0.flat ha,[v],[],rfl,hs,rfl⟩,FamSRd.cat ha hf (fun q hq=>hb q (wH _ hq)) h2⟩
theorem qwi {a e:Ty} (xs:List (pden a×List (pden e))):(qxi xs).length=xs.length:=List.length_map ..
theorem qBL (A:Inv c H K w) {a e:Ty} {l off len:Nat} {wh:Bool} {xs:List (pden a×List (pden e))} {v:Value} (hl:H l=some (.famS a e xs)) (hr:RefRd K (qQp a e) l off len wh v) {N:Nat→Prop} (hN:∀gh p,K l=some gh→Has gh p→N p.blk):
  PRd w N (.slice (qQp a e)) (seg (qxi xs) off len wh) [v]∧(wh=true→off=0∧len=(qxi xs).length):=by
 obtain ⟨gh,g1,ha,hf,ps,g2,g3,g4⟩:=A.objs l _ hl
 obtain ⟨n,pl,⟨ps',k1⟩,k2,k3,k4⟩:=hr
 have hN':=fun p=>hN gh p g1
 rw [k1] at g1;injection g1 with g1;subst g1
 simp only [Shp.row.injEq,true_and] at g2
 obtain ⟨rfl,rfl⟩:=g2
 rw [←qwi xs] at k2 k3
 refine ⟨?_,k3⟩
 have hseg:(seg (qxi xs) off len wh).length=len:=by
  unfold seg
  cases wh with
  |true=>have:=k3 rfl;simp only [if_true];omega
  |false=>simp;omega
 cases pl with
 |none=>
  obtain ⟨rfl,h0⟩:=k4
  rw [←qwi xs] at h0
  have:seg (qxi xs) off len wh=[]:=wG (by omega)
  rw [this]
  exact ⟨none,0,rfl,ws _, .inl rfl⟩
 |some p=>
  obtain ⟨cs,g3,g4⟩:=g4
  obtain ⟨o,cap,rfl,h1,h2⟩:=k4
  refine ⟨_,cap,by rw [hseg],by omega,?_⟩
  by_cases h0:len=0
  ·exact .inl (wG (by rw [hseg,h0]))
  ·right
   have h6':=h2.resolve_left (by omega)
   have hcat:Cat (PRd w N (qQp a e)) (qxi xs) cs:=g4.cat ha hf (fun q hq=>hN' q (.inr hq))
   refine ⟨p.blk,o,_,rfl,hN' p (.inl rfl),?_,qUl (fun _ _=>PRd.length) hcat k3⟩
   rw [h6'.1]
   exact g3.cells.cut _ _
theorem qOp {e:Ty} {l:Nat} {fr:Bool} {xs:List (pden e)} (h:qjt lk e l=some (fr,xs)):qhn lk e l=some (fr,xs)∨∃o,lk l=some o∧fr=true∧∀{c:Cx} {H:qZb} {K:Kn} {w:World} (A:Inv c H K w) {off len:Nat} {wh:Bool} {v:Value} (hl:H l=some o) (hr:RefRd K e l off len wh v) {N:Nat→Prop} (hN:∀gh p,K l=some gh→Has gh p→N p.blk),
  PRd w N (.slice e) (seg xs off len wh) [v]∧(wh=true→off=0∧len=xs.length):=by
 unfold qjt at h
 split at h
 ·rename_i e' fr' xs' hl
  split at h
  ·rename_i he
   subst he
   simp only [wc,wk] at h
   obtain ⟨rfl,rfl⟩:=h
   exact .inl (by unfold qhn;rw [hl];simp)
  ·cases h
 ·rename_i e' xss hl
  split at h
  ·rename_i he
   subst he
   simp only [wc,wk] at h
   obtain ⟨rfl,rfl⟩:=h
   exact .inr ⟨_,hl,rfl,fun A _ _ _ _ hl hr _ hN=>qIM A hl hr hN⟩
  ·cases h
 ·rename_i a' e' xss hl
  split at h
  ·rename_i he
   subst he
   simp only [wc,wk] at h
   obtain ⟨rfl,rfl⟩:=h
   exact .inr ⟨_,hl,rfl,fun A _ _ _ _ hl hr _ hN=>qBL A hl hr hN⟩
  ·cases h
 ·cases h
theorem qNI (A:Inv c H K w) (hsub:∀l o,lk l=some o→H l=some o) {e:Ty} {l off len:Nat} {wh fr:Bool} {xs:List (pden e)} {v:Value} (h:qjt lk e l=some (fr,xs)) (hr:RefRd K e l off len wh v) (hw:wh=true):off=0∧len=xs.length:=by
 rcases qOp h with hrow|⟨o,hfam,rfl,hx⟩
 ·exact (qgn A (hsub _ _ (qdc hrow)) hr).2.2.1 hw
 ·exact (hx A (hsub _ _ hfam) hr (N:=fun _=>True) (fun _ _ _ _=>trivial)).2 hw
theorem NN.kill (A:Inv c H K w) {l:Nat} {o:Obj} {gh:Gh} {p:Plc} {L:List Nat} (hl:H l=some o) (hg:K l=some gh) (hp:Has gh p) (hL:l∈L) (fr:Bool):NN c (qsb H (Ab.kill L)) K w fr p.blk:=by
 have h1:=A.own l o gh p hl hg hp
 refine ⟨h1.1,?_,h1.2.1.imp id .inl⟩
 rintro ⟨l',o',gh',p',a1,a2,a3,a4⟩
 simp only [qsb] at a1
 split at a1
 ·rename_i o2 h2
  have:=(qrl h2).1
  subst this;cases a1
 ·rename_i h2
  have:l'=l:=A.inj l' l o' o gh' gh p' p a1 hl a2 hg a3 hp a4
  subst this
  rw [qgv hL] at h2;cases h2
theorem NN.killed {L:List Nat} {fr:Bool} {b:Nat} (h:NN c H K w fr b):NN c (qsb H (Ab.kill L)) K w fr b:=by
 refine ⟨h.1,?_,h.2.2⟩
 rintro ⟨l',o',gh',p',a1,a2⟩
 simp only [qsb] at a1
 split at a1
 ·rename_i o2 h2
  have:=(qrl h2).1
  subst this;cases a1
 ·exact h.2.1 ⟨l',o',gh',p',a1,a2⟩
theorem qco (A:Inv c H K w) (hsub:∀l o,lk l=some o→H l=some o) {L:List Nat}:∀{t:Ty} {x:qke t} {u:pden t} {ls:List Nat} {f:Bool} {cs:List Value},qVg lk t x=some (u,ls,f)→ARd w (NN c H K w) K t x cs→(∀l∈ls,l∈L)→PRd w (NN c (qsb H (Ab.kill L)) K w f) t u cs
 | .int _,x,u,ls,f,cs,h,hr,hL=>by simp only [qVg,wc,wk] at h;obtain ⟨rfl,rfl,rfl⟩:=h;exact hr
 | .bool,x,u,ls,f,cs,h,hr,hL=>by simp only [qVg,wc,wk] at h;obtain ⟨rfl,rfl,rfl⟩:=h;exact hr
 | .str,x,u,ls,f,cs,h,hr,hL=>by simp only [qVg,wc,wk] at h;obtain ⟨rfl,rfl,rfl⟩:=h;exact hr
 | .arr n e,x,u,ls,f,cs,h,hr,hL=>by
   simp only [qVg,wc,wk] at h;obtain ⟨rfl,rfl,rfl⟩:=h
   cases hf:e.flat with
   |true=>exact ⟨hr.1,hr.2.imp (fun _ _ hp=>PRd.flat hf hp)⟩
   |false=>exact ⟨hr.1,hr.2.imp (fun _ _ hp=>hp.keep ⟨fun b hb=>⟨hb.killed,rfl⟩⟩)⟩
 | .pair a b,x,u,ls,f,cs,h,hr,hL=>by
   obtain ⟨c1,c2,e,h1,h2⟩:=hr
   simp only [qVg] at h
   split at h
   ·rename_i u1 l1 f1 u2 l2 f2 e1 e2
    simp only [wc,wk] at h;obtain ⟨rfl,rfl,rfl⟩:=h
    have r1:=qco A hsub e1 h1 (fun l hl=>hL l (by simp [hl]))
    have r2:=qco A hsub e2 h2 (fun l hl=>hL l (by simp [hl]))
    have low:∀f g:Bool,∀b,NN c (qsb H (Ab.kill L)) K w f b→NN c (qsb H (Ab.kill L)) K w (f&&g) b:=fun f g b hb=>by
     cases f <;> cases g <;> first|exact hb|exact ui b hb
    refine ⟨c1,c2,e,r1.keep ⟨fun b hb=>⟨low _ _ b hb,rfl⟩⟩,r2.keep ⟨fun b hb=>⟨?_,rfl⟩⟩⟩
    rw [Bool.and_comm];exact low _ _ b hb
   ·cases h
 | .unit,x,u,ls,f,cs,h,hr,hL=>by simp only [qVg,wc,wk] at h;obtain ⟨_,rfl,rfl⟩:=h;exact hr
 | .slice e,x,u,ls,f,cs,h,hr,hL=>by
   cases x with
   |pure fr xs=>
    simp only [qVg,wc,wk] at h;obtain ⟨rfl,rfl,rfl⟩:=h
    exact PRd.keep (t:= .slice e) ⟨fun b hb=>⟨hb.killed,rfl⟩⟩ hr
   |nil=>
    simp only [qVg,wc,wk] at h;obtain ⟨rfl,rfl,rfl⟩:=h
    simp only [ARd] at hr;subst hr
    exact ⟨none,0,rfl,ws _, .inl rfl⟩
   |junk=>simp [qVg] at h
   |lng n=>simp [qVg] at h
   |ref l off len wh=>
    simp only [qVg] at h
    split at h
    ·rename_i fr xs habs
     simp only [wc,wk] at h;obtain ⟨rfl,rfl,rfl⟩:=h
     obtain ⟨v,rfl,hr⟩:=hr
     rcases qOp habs with hrow|⟨o,hfam,rfl,hx⟩
     rotate_left
     ·have hl:=hsub _ _ hfam
      rw [Bool.true_or]
      exact (hx A hl hr (fun gh p g1 g2=>NN.kill A hl g1 g2 (hL l (by simp)) true)).1
     have hl:=hsub _ _ (qdc hrow)
     obtain ⟨h1,h2,h3,h4⟩:=qgn A hl hr
     rcases h4 with ⟨rfl,h5,rfl,h6⟩|⟨p,cl,o,cap,k1,rfl,h5,h6,h7,h8⟩
     ·subst h6
      have:seg ([]:List (pden e)) off 0 wh=[]:=wG h1
      rw [this]
      exact ⟨none,0,rfl,ws _, .inl rfl⟩
     ·refine ⟨_,cap,by rw [h1],by omega,?_⟩
      by_cases h0:len=0
      ·exact .inl (wG (by rw [h1,h0]))
      ·right
       have h6':=h6.resolve_left (by omega)
       refine ⟨p.blk,o,_,rfl,NN.kill A hl k1 (.inl rfl) (hL l (by simp)) (fr||e.flat),?_,(qUl (fun _ _=>PRd.length) h8 h3).imp (fun _ _ hp=>uy (N:=fun f=>NN c (qsb H (Ab.kill L)) K w f) (hp.keep ⟨fun b hb=>⟨hb.killed,rfl⟩⟩))⟩
       rw [h6'.1]
       exact h7.cells.cut _ _
    ·cases h
 | .fn,x,u,ls,f,cs,h,hr,hL=>by simp only [qVg,wc,wk] at h;obtain ⟨rfl,rfl,rfl⟩:=h;exact hr
end
end Go.Ab

/-
  What makes and writes boxes: variables, literals, stores.
-/
set_option linter.unusedVariables false
set_option linter.unusedSimpArgs false
namespace Go.Ab
open Go
theorem qjM:∀{a b:Value},veq a b=true→a=b:=by
 intro a b h
 unfold veq at h
 split at h
 ·simp only [wz,decide_eq_true_eq] at h;rw [h.1,h.2]
 ·simp only [beq_iff_eq] at h;rw [h]
 ·simp only [wz,beq_iff_eq] at h
  have:∀s:ByteArray,s.size=0→s=wD:=by
   intro s hs
   apply ByteArray.ext
   exact Array.eq_empty_of_size_eq_zero hs
  rw [this _ h.1,this _ h.2]
 ·rfl
 ·rfl
 ·cases h
theorem qDG:∀{a b:List Value},qYL a b=true→a=b
 |[],[],_=>rfl
 |[],_::_,h=>by simp [qYL] at h
 |_::_,[],h=>by simp [qYL] at h
 |_::_,_::_,h=>by
  simp only [qYL,wz] at h
  rw [qjM h.1,qDG h.2]
theorem qaf {w:World} {N:Nat→Prop}:∀{t:Ty},PRd w N t (qua t) (qDj t)
 | .int _=>rfl
 | .bool=>rfl
 | .str=>rfl
 | .arr n e=>⟨wX,Cat.replicate (qaf (t:=e)) n⟩
 | .pair a b=>⟨_,_,rfl,qaf,qaf⟩
 | .unit=>rfl
 | .slice _=>⟨none,0,rfl,ws _, .inl rfl⟩
 | .fn=>rfl
theorem qBt {w:World} {N:Bool→Nat→Prop} {K:Kn}:∀{t:Ty},ARd w N K t (qrG t) (qDj t)
 | .int _=>rfl
 | .bool=>rfl
 | .str=>rfl
 | .arr n e=>⟨wX,Cat.replicate (qaf (t:=e)) n⟩
 | .pair a b=>⟨_,_,rfl,qBt,qBt⟩
 | .unit=>rfl
 | .slice _=>rfl
 | .fn=>rfl
theorem qge {P:Program} {w:World} {T:TypeId} {t:Ty} (h:qHi P T t=true):∃v,(zeroValue T).run P w= .ok v w∧v.cells.toList=qDj t∧∃i,P.info? T=some i∧i.zero=some v:=by
 unfold qHi at h
 split at h
 ·rename_i i hi
  split at h
  ·rename_i v hv
   simp only [wz] at h
   refine ⟨v,?_,qDG h.2,i,hi,hv⟩
   simp [zeroValue,qFh hi,hv]
  ·cases h
 ·cases h
section
variable {c:Cx} {P:Program} {GT:qTg} {H lk:qZb} {K:Kn} {w:World} {ev:Operand→TV} {ρ:Operand→Value} {nl:Nat}
theorem qcv:∀{t:Ty} {x y:qke t} {n n':Nat} {rows:List (Nat×Obj)},qNk t x n=(y,rows,n')→n≤n'
 | .pair a b,x,y,n,n',rows,h=>by
   simp only [qNk] at h
   rcases ha:qNk a x.1 n with ⟨u,r,n1⟩
   rcases hb:qNk b x.2 n1 with ⟨v,s,n2⟩
   rw [ha] at h
   simp only [hb,wk] at h
   obtain ⟨rfl,rfl,rfl⟩:=h
   have:=qcv ha;have:=qcv hb;omega
 | .slice e,x,y,n,n',rows,h=>by
   cases x <;> simp only [qNk,wk] at h <;> omega
 | .int _,x,y,n,n',rows,h=>by simp only [qNk,wk] at h;omega
 | .bool,x,y,n,n',rows,h=>by simp only [qNk,wk] at h;omega
 | .str,x,y,n,n',rows,h=>by simp only [qNk,wk] at h;omega
 | .arr _ _,x,y,n,n',rows,h=>by simp only [qNk,wk] at h;omega
 | .unit,x,y,n,n',rows,h=>by simp only [qNk,wk] at h;omega
 | .fn,x,y,n,n',rows,h=>by simp only [qNk,wk] at h;omega
theorem qbv:∀{t:Ty} {x y:qke t} {n n':Nat} {rows:List (Nat×Obj)},qNk t x n=(y,rows,n')→∀q∈rows,n≤q.1∧q.1<n'
 | .pair a b,x,y,n,n',rows,h=>by
   simp only [qNk] at h
   rcases ha:qNk a x.1 n with ⟨u,r,n1⟩
   rcases hb:qNk b x.2 n1 with ⟨v,s,n2⟩
   rw [ha] at h
   simp only [hb,wk] at h
   obtain ⟨rfl,rfl,rfl⟩:=h
   have h1:=qcv ha
   have h2:=qcv hb
   intro q hq
   rcases wR.1 hq with hq|hq
   ·have:=qbv hb q hq;omega
   ·have:=qbv ha q hq;omega
 | .slice e,x,y,n,n',rows,h=>by
   cases x <;> simp only [qNk,wk] at h <;> obtain ⟨_,rfl,rfl⟩:=h <;> intro q hq <;> simp at hq
   subst hq;simp
 | .int _,x,y,n,n',rows,h=>by simp only [qNk,wk] at h;obtain ⟨_,rfl,rfl⟩:=h;intro q hq;cases hq
 | .bool,x,y,n,n',rows,h=>by simp only [qNk,wk] at h;obtain ⟨_,rfl,rfl⟩:=h;intro q hq;cases hq
 | .str,x,y,n,n',rows,h=>by simp only [qNk,wk] at h;obtain ⟨_,rfl,rfl⟩:=h;intro q hq;cases hq
 | .arr _ _,x,y,n,n',rows,h=>by simp only [qNk,wk] at h;obtain ⟨_,rfl,rfl⟩:=h;intro q hq;cases hq
 | .unit,x,y,n,n',rows,h=>by simp only [qNk,wk] at h;obtain ⟨_,rfl,rfl⟩:=h;intro q hq;cases hq
 | .fn,x,y,n,n',rows,h=>by simp only [qNk,wk] at h;obtain ⟨_,rfl,rfl⟩:=h;intro q hq;cases hq
theorem qVx {l:Nat}:∀{rs:List (Nat×Obj)},(∀q∈rs,q.1≠l)→lookL (qoc rs) l=none
 |[],_=>rfl
 |q::rs,h=>by
  simp only [qoc,wJ,lookL]
  rw [if_neg (h q (by simp))]
  exact qVx (fun q' h'=>h q' (by simp [h']))
theorem qut (hng:c.ng≤c.w0.heap.size):∀{t:Ty} {x y:qke t} {n n':Nat} {rows:List (Nat×Obj)} {H:qZb} {K:Kn},Inv c H K w→qNk t x n=(y,rows,n')→nl≤n→n'≤nl+8→(∀l,n≤l→l<n'→K l=none)→
  n≤n'∧∃K',Stp c H K w (qoc rows) nl K' w∧(∀l,K' l=K l∨(n≤l∧l<n'))∧(∀cs,ARd w (NN c H K w) K t x cs→ARd w (NN c (qsb H (qoc rows)) K' w) K' t y cs)
 | .pair a b,x,y,n,n',rows,H,K,hi,h,h1,h2,hf=>by
   simp only [qNk] at h
   rcases ha:qNk a x.1 n with ⟨u,r,n1⟩
   rcases hb:qNk b x.2 n1 with ⟨v,s,n2⟩
   rw [ha] at h
   simp only [hb,wk] at h
   obtain ⟨rfl,rfl,rfl⟩:=h
   have hle:n1≤n2:=qcv hb
   obtain ⟨l1,K1,S1,F1,R1⟩:=qut hng hi ha h1 (by omega) (fun l g1 g2=>hf l g1 (by omega))
   obtain ⟨l2,K2,S2,F2,R2⟩:=qut hng S1.inv hb (by omega) h2 (fun l g1 g2=>by
    rcases F1 l with e|e
    ·rw [e];exact hf l (by omega) g2
    ·omega)
   refine ⟨by omega,K2,?_,fun l=>?_,fun cs hr=>?_⟩
   ·have:=S1.trans S2
    rwa [show qoc s++qoc r=qoc (s++r) by simp [qoc]] at this
   ·rcases F2 l with e|e
    ·rcases F1 l with e'|e'
     ·exact .inl (e.trans e')
     ·exact .inr ⟨e'.1,by omega⟩
    ·exact .inr ⟨by omega,e.2⟩
   ·obtain ⟨c1,c2,e,g1,g2⟩:=hr
    have hu:=qXg H (qoc s) (qoc r)
    rw [show qoc (s++r)=qoc s++qoc r by simp [qoc],hu]
    exact ⟨c1,c2,e,(R1 c1 g1).keep S2.keep,R2 c2 (g2.keep S1.keep)⟩
 | .slice e,x,y,n,n',rows,H,K,hi,h,h1,h2,hf=>by
   cases x with
   |nil=>
    simp only [qNk,wk] at h
    obtain ⟨rfl,rfl,rfl⟩:=h
    refine ⟨by omega,_,qly hi hng ⟨h1,by omega⟩ (hf n (ws _) (by omega)) e,fun l=>?_,fun cs hr=>?_⟩
    ·by_cases hl:l=n
     ·exact .inr (by omega)
     ·exact .inl (qof hl)
    ·simp only [ARd] at hr;subst hr
     exact ⟨_,rfl,0,none,⟨[],qRa⟩,ws _,fun _=>⟨rfl,rfl⟩,rfl,rfl⟩
   |pure fr xs=>
    simp only [qNk,wk] at h
    obtain ⟨rfl,rfl,rfl⟩:=h
    exact ⟨ws _,K,Stp.refl hi nl,fun l=> .inl rfl,fun cs hr=>hr⟩
   |ref l off len wh=>
    simp only [qNk,wk] at h
    obtain ⟨rfl,rfl,rfl⟩:=h
    exact ⟨ws _,K,Stp.refl hi nl,fun l=> .inl rfl,fun cs hr=>hr⟩
   |junk=>
    simp only [qNk,wk] at h
    obtain ⟨rfl,rfl,rfl⟩:=h
    exact ⟨ws _,K,Stp.refl hi nl,fun l=> .inl rfl,fun cs hr=>hr⟩
   |lng n=>
    simp only [qNk,wk] at h
    obtain ⟨rfl,rfl,rfl⟩:=h
    exact ⟨ws _,K,Stp.refl hi nl,fun l=> .inl rfl,fun cs hr=>hr⟩
 | .int _,x,y,n,n',rows,H,K,hi,h,h1,h2,hf=>by
   simp only [qNk,wk] at h
   obtain ⟨rfl,rfl,rfl⟩:=h
   exact ⟨ws _,K,Stp.refl hi nl,fun l=> .inl rfl,fun cs hr=>hr⟩
 | .bool,x,y,n,n',rows,H,K,hi,h,h1,h2,hf=>by
   simp only [qNk,wk] at h
   obtain ⟨rfl,rfl,rfl⟩:=h
   exact ⟨ws _,K,Stp.refl hi nl,fun l=> .inl rfl,fun cs hr=>hr⟩
 | .str,x,y,n,n',rows,H,K,hi,h,h1,h2,hf=>by
   simp only [qNk,wk] at h
   obtain ⟨rfl,rfl,rfl⟩:=h
   exact ⟨ws _,K,Stp.refl hi nl,fun l=> .inl rfl,fun cs hr=>hr⟩
 | .arr _ _,x,y,n,n',rows,H,K,hi,h,h1,h2,hf=>by
   simp only [qNk,wk] at h
   obtain ⟨rfl,rfl,rfl⟩:=h
   exact ⟨ws _,K,Stp.refl hi nl,fun l=> .inl rfl,fun cs hr=>hr⟩
 | .unit,x,y,n,n',rows,H,K,hi,h,h1,h2,hf=>by
   simp only [qNk,wk] at h
   obtain ⟨_,rfl,rfl⟩:=h
   exact ⟨ws _,K,Stp.refl hi nl,fun l=> .inl rfl,fun cs hr=>hr⟩
 | .fn,x,y,n,n',rows,H,K,hi,h,h1,h2,hf=>by
   simp only [qNk,wk] at h
   obtain ⟨rfl,rfl,rfl⟩:=h
   exact ⟨ws _,K,Stp.refl hi nl,fun l=> .inl rfl,fun cs hr=>hr⟩
theorem qjb (w:World) (o:Go.Obj):(w.alloc o).heap.size=w.heap.size+1:=by
 show (w.heap.push o).size=_
 simp
theorem qkw (w:World) (o:Go.Obj):(w.alloc o).heap[w.heap.size]?=some o:=by
 show (w.heap.push o)[w.heap.size]?=_
 simp
theorem InBlk.new (w:World) (arr:Array Value) (T:TypeId):InBlk (w.alloc (.cells arr T)) ⟨w.heap.size,0,arr.size⟩ arr.toList:=by
 refine ⟨arr,T,(0,0),qkw _ _,rfl,rfl,by simp,fun j v hj=>?_⟩
 simpa using hj
theorem qzb (w:World) (o:Go.Obj):(w.alloc o).os=w.os∧(w.alloc o).tape=w.tape∧(w.alloc o).output=w.output∧w.heap.size≤(w.alloc o).heap.size∧∀k,k<w.heap.size→(w.alloc o).heap[k]?=w.heap[k]?:=by
 refine ⟨rfl,rfl,rfl,by rw [qjb];omega,fun k hk=>?_⟩
 show (w.heap.push o)[k]?=_
 rw [Array.getElem?_push,if_neg (by omega)]
theorem qfB (A:At c P GT H lk K w ev ρ nl) {t:Ty} {x:qke t} {arr:Array Value} {T:TypeId} (hx:ARd w (NN c H K w) K t x arr.toList) {out:Out} (h:qOy nl t x=some out):
  Lands c H K w nl out (.pointer (some ⟨w.heap.size,0,none⟩)) (w.alloc (.cells arr T)):=by
 simp only [qOy] at h
 rcases hm:qNk t x (nl+1) with ⟨y,rows,n'⟩
 rw [hm] at h
 split at h
 ·rename_i hle
  simp only [wc] at h;subst h
  simp only at hle
  obtain ⟨l1,K1,S1,F1,R1⟩:=qut (w:=w) A.ng A.inv hm (by omega) hle (fun l g1 g2=>A.fresh l (by omega) (by omega))
  have hfr:K1 nl=none:=by
   rcases F1 nl with e|e
   ·rw [e];exact A.fresh nl (ws _) (by omega)
   ·omega
  have S2:=Stp.new (w':=w.alloc (.cells arr T)) S1.inv A.ng nl nl ⟨ws _,by omega⟩ hfr (.box t y) ⟨.box t,some ⟨w.heap.size,0,arr.size⟩⟩ (qzb w _) (fun p hp=>by
   injection hp with hp;subst hp
   exact ⟨ws _,by rw [qjb];exact wqa _⟩) (fun N' K' hNlow hk=>⟨rfl,_,arr.toList,rfl,InBlk.new w arr T,(R1 _ hx).keep hk⟩)
  refine ⟨_,S1.trans S2,⟨_,⟨w.heap.size,0,arr.size⟩,0,qRa, .inl ⟨rfl,by simp [qdl,qDa]⟩,by simp⟩⟩
 ·cases h
theorem qeG (A:At c P GT H lk K w ev ρ nl) {o:Oper} {T:TypeId} (ho:o.op= .alloc T) {orc:Option COrc} {out:Out} (h:qGb P GT ev lk nl orc o.type o.op=some out):
  Does P o ρ w (Lands c H K w nl out):=by
 rw [ho] at h
 simp only [qGb] at h
 split at h
 ·split at h
  ·rename_i hz
   simp only [wc] at h;subst h
   obtain ⟨v,hv,hcs,_⟩:=qge (P:=P) (w:=w) hz
   have hc1:v.cells=#[.nilFunc]:=by
    apply Array.ext'
    rw [hcs];rfl
   refine Does.value (v:= .pointer (some ⟨w.heap.size,0,none⟩)) (w':=w.alloc (.cells v.cells T)) ?_ ⟨_,Stp.new A.inv A.ng nl nl ⟨ws _,by omega⟩ (A.fresh nl (ws _) (by omega)) (.cell .nilFunc) ⟨.cell,some ⟨w.heap.size,0,1⟩⟩ (qzb w _) (fun p hp=>by
    injection hp with hp;subst hp
    exact ⟨ws _,by rw [qjb];exact wqa _⟩) (fun N' K' hNlow hk=>⟨rfl,_, .nilFunc,rfl,?_,rfl⟩),⟨.cell,_,qRa,rfl⟩⟩
   ·simp only [execOp,ho,Instr.alloc,wu,hv,wq]
    rfl
   ·rw [hc1];exact InBlk.new w #[.nilFunc] T
  ·cases h
 ·rename_i t hT hnf
  split at h
  ·rename_i hz
   obtain ⟨v,hv,hcs,_⟩:=qge (P:=P) (w:=w) hz
   refine Does.value (v:= .pointer (some ⟨w.heap.size,0,none⟩)) (w':=w.alloc (.cells v.cells T)) ?_ (qfB A (by rw [hcs];exact qBt) h)
   simp only [execOp,ho,Instr.alloc,wu,hv,wq]
   rfl
  ·cases h
 ·split at h
  ·rename_i hz
   simp only [wc] at h;subst h
   have hv:(zeroValue T).run P w= .ok (.map none) w:=by
    unfold qyH at hz
    split at hz
    ·rename_i i hi
     split at hz
     ·rename_i hv
      simp [zeroValue,qFh hi,hv]
     ·cases hz
    ·cases hz
   have hrun:(execOp ρ o).run P w= .ok (.value (.pointer (some ⟨w.heap.size,0,none⟩))) (w.alloc (.cells #[.map none] T)):=by
    simp only [execOp,ho,Instr.alloc,wu,hv,wq]
    rfl
   refine Does.value hrun ⟨_,Stp.new A.inv A.ng nl nl ⟨ws _,by omega⟩ (A.fresh nl (ws _) (by omega)) (.cell .nilMap) ⟨.cell,some ⟨w.heap.size,0,1⟩⟩ (qzb w _) (fun p hp=>by
    injection hp with hp;subst hp
    exact ⟨ws _,by rw [qjb];exact wqa _⟩) (fun N' K' hNlow hk=>⟨rfl,_, .map none,rfl,?_,rfl⟩),⟨.cell,_,qRa,rfl⟩⟩
   exact InBlk.new w #[.map none] T
  ·cases h
theorem qPr {N:Bool→Nat→Prop} {a:AV} {v:Value} (h:qRB a=true) (hr:VRd w N K a v):v.oneCell'=true:=by
 cases a <;> simp only [qRB] at h <;> first|(cases h;done)|skip
 ·obtain ⟨sh,pl,po,_,_,rfl⟩:=hr;rfl
 ·obtain ⟨sh,pl,_,rfl⟩:=hr;rfl
 ·obtain ⟨vs,rfl,_⟩:=hr;rfl
 ·simp only [VRd] at hr;subst hr;rfl
 ·simp only [VRd] at hr;subst hr;rfl
 ·simp only [VRd] at hr;subst hr;rfl
 ·obtain ⟨sh,pl,_,rfl⟩:=hr;rfl
 ·simp only [VRd] at hr;subst hr;rfl
theorem qHu {v:Value} (h:v.oneCell'=true):v.cells=#[v]:=by cases v <;> simp_all [Value.oneCell',wpb]
theorem qMJ (A:At c P GT H lk K w ev ρ nl) {o:Oper} {T:TypeId} {x:Operand} (ho:o.op= .box T x) {orc:Option COrc} {out:Out} (h:qGb P GT ev lk nl orc o.type o.op=some out):
  Does P o ρ w (Lands c H K w nl out):=by
 have hrun:(execOp ρ o).run P w= .ok (.value (.pointer (some ⟨w.heap.size,0,none⟩))) (w.alloc (.cells (ρ x).cells T)):=by
  simp only [execOp,ho]
  rfl
 rw [ho] at h
 simp only [qGb] at h
 split at h
 ·rename_i a ha
  have hx:=A.one ha
  split at h
  ·rename_i t hT
   split at h
   ·rename_i y hy
    exact Does.value hrun (qfB A (qor hx hy).1 h)
   ·split at h
    ·rename_i hcv
     simp only [wc] at h;subst h
     have hca:qRB a=true:=by
      unfold qPM at hcv
      split at hcv
      ·rfl
      ·cases hcv
     have h1:=qPr hca hx
     refine Does.value hrun ⟨_,Stp.new A.inv A.ng nl nl ⟨ws _,by omega⟩ (A.fresh nl (ws _) (by omega)) (.cell a) ⟨.cell,some ⟨w.heap.size,0,(ρ x).cells.size⟩⟩ (qzb w _) (fun p hp=>by
      injection hp with hp;subst hp
      exact ⟨ws _,by rw [qjb];exact wqa _⟩) (fun N' K' hNlow hk=>⟨rfl,_,ρ x,rfl,?_,hx.keep hk⟩),⟨.cell,_,qRa,rfl⟩⟩
     have:=InBlk.new w (ρ x).cells T
     rw [qHu h1] at this ⊢
     exact this
    ·cases h
  ·split at h
   ·rename_i hca
    simp only [wc] at h;subst h
    have h1:=qPr hca hx
    refine Does.value hrun ⟨_,Stp.new A.inv A.ng nl nl ⟨ws _,by omega⟩ (A.fresh nl (ws _) (by omega)) (.cell a) ⟨.cell,some ⟨w.heap.size,0,(ρ x).cells.size⟩⟩ (qzb w _) (fun p hp=>by
     injection hp with hp;subst hp
     exact ⟨ws _,by rw [qjb];exact wqa _⟩) (fun N' K' hNlow hk=>⟨rfl,_,ρ x,rfl,?_,hx.keep hk⟩),⟨.cell,_,qRa,rfl⟩⟩
    have:=InBlk.new w (ρ x).cells T
    rw [qHu h1] at this ⊢
    exact this
   ·cases h
 ·cases h
theorem qGF {N:Bool→Nat→Prop} (hN:∀b,N true b→N false b) {obj obj':Obj} {gh:Gh} {p:List PS} {po:Nat} {t:Ty} {y:qke t} {s:List Value} {pl:Plc} (h:ORd w N K obj gh) (hp:gh.pl=some pl) (hs:qdl gh.sh p=some (po,t)) (hy:ARd w N K t y s) (e:qJh obj p t y=some obj'):
  ∃cs,InBlk w pl cs∧po+t.sz≤cs.length∧∀(w':World) (N':Bool→Nat→Prop) (K':Kn),(∀b,N' true b→N' false b)→KeepK w w' N N' K K'→InBlk w' pl (put cs po s)→ORd w' N' K' obj' gh:=by
 cases obj with
 |box t0 x=>
  obtain ⟨h1,p',cs,h2,h3,h4⟩:=h
  rw [hp] at h2;injection h2 with h2;subst h2
  rw [h1] at hs
  simp only [qdl] at hs
  simp only [qJh] at e
  split at e
  ·rename_i z hz
   simp only [wc] at e;subst e
   exact ⟨cs,h3,by rw [h4.length];exact qMb hs,fun w' N' K' _ hk hb=>⟨h1,pl,_,hp,hb,(qln hN h4 hs hy hz).keep hk⟩⟩
  ·cases e
 |row e0 fr xs=>
  obtain ⟨h1,h2⟩:=h
  rw [hp] at h2
  obtain ⟨cs,h3,h4⟩:=h2
  rw [h1] at hs
  cases p with
  |nil=>simp [qdl] at hs
  |cons st p=>
   cases st <;> simp only [qdl] at hs <;> first|(cases hs;done)|skip
   rename_i i
   split at hs
   ·rename_i o3 t3 hp3
    split at hs
    ·rename_i hi
     simp only [wc,wk] at hs;obtain ⟨rfl,rfl⟩:=hs
     simp only [qJh] at e
     split at e
     ·rename_i z hz
      split at e
      ·rename_i u hu
       simp only [wc] at e;subst e
       have hg:=h4.get (fun _ _=>PRd.length) i _ (getD_some (d:=qua e0) hi)
       have hz':=qln hN (qej (K:=K) hN fr hg) hp3 hy hz
       have hu':=qFt hN hz' hu
       have hl:=h4.length (n:=e0.sz) (fun _ _=>PRd.length)
       have hm:(i+1)*e0.sz≤xs.length*e0.sz:=wja _ hi
       rw [wua] at hm
       have hple:=qMb hp3
       refine ⟨cs,h3,by omega,fun w' N' K' hN' hk hb=>⟨by rw [h1,wsa],?_⟩⟩
       rw [hp]
       refine ⟨_,hb,?_⟩
       have low:∀f g:Bool,∀b,N' f b→N' (f&&g) b:=fun f g b hb=>by
        cases f <;> cases g <;> first|exact hb|exact hN' b hb
       have r1:Cat (PRd w' (N' (fr&&qlw e0 z)) e0) xs cs:=h4.imp (fun _ _ q=>q.keep ⟨fun b hb=>⟨low _ _ b ((hk.n fr).k b hb).1,((hk.n fr).k b hb).2⟩⟩)
       have r2:PRd w' (N' (fr&&qlw e0 z)) e0 u (put (cut cs (i*e0.sz) e0.sz) o3 s):=hu'.keep ⟨fun b hb=>⟨by rw [Bool.and_comm];exact low _ _ b ((hk.n _).k b hb).1,((hk.n _).k b hb).2⟩⟩
       have r3:=r1.set (n:=e0.sz) (fun _ _=>PRd.length) i u _ hi r2
       rw [qKC (by rw [hy.length];exact hple) (by omega)] at r3
       exact r3
      ·cases e
     ·cases e
    ·cases hs
   ·cases hs
 |cell v=>
  rw [h.1] at hs
  simp [qdl] at hs
 |map k v es=>
  rw [h.1] at hs
  simp [qdl] at hs
 |chan e fr cap xs cl=>
  rw [h.1] at hs
  simp [qdl] at hs
 |famS a0 e0 xs=>
  exfalso
  obtain ⟨_,_,ps,h1,_⟩:=h
  rw [h1] at hs
  cases p with
  |nil=>simp [qdl] at hs
  |cons s p=>
   cases s <;> simp only [qdl] at hs <;> first|(cases hs;done)|skip
   cases p with
   |nil=>simp [qJh] at e
   |cons s2 p=>
    cases s2 with
    |fst=>simp [qJh] at e
    |idx j=>simp [qJh] at e
    |snd=>
     cases p with
     |nil=>simp [qJh] at e
     |cons s3 p=>
      cases s3 with
      |snd=>simp [qJh] at e
      |idx j=>simp [qJh] at e
      |fst=>
       cases p with
       |nil=>
        simp only [qDa] at hs
        split at hs
        ·simp only [wc,wk] at hs;obtain ⟨_,rfl⟩:=hs
         simp [qJh,qNC] at e
        ·cases hs
       |cons s4 p=>cases s4 <;> simp [qDa] at hs
 |fam e0 xss=>
  exfalso
  obtain ⟨_,ps,h1,_⟩:=h
  rw [h1] at hs
  cases p with
  |nil=>simp [qdl] at hs
  |cons s p=>
   cases s <;> simp only [qdl] at hs <;> first|(cases hs;done)|skip
   cases p with
   |nil=>
    simp only [qDa] at hs
    split at hs
    ·simp only [wc,wk] at hs;obtain ⟨_,rfl⟩:=hs
     simp [qJh,qNC] at e
    ·cases hs
   |cons s2 p=>cases s2 <;> simp [qDa] at hs
theorem FamRd.set {w w':World} {e:Ty} (hf:e.flat=true) {ys:List (pden e)} {cl':List Value}:∀{xss:List (List (pden e))} {ps:List (Nat×Option Plc)} {cs:List Value} {i m:Nat} {p:Plc},FamRd w e xss ps cs→ps[i]?=some (m,some p)→
  (∀j n q,j≠i→ps[j]?=some (n,some q)→w'.heap[q.blk]?=w.heap[q.blk]?)→ys.length=m→InBlk w' p cl'→Cat (PRd w' (fun _=>False) e) ys cl'→FamRd w' e (xss.set i ys) ps cs
 |[],_,_,i,m,p,h,hi,_,_,_,_=>by obtain ⟨rfl,rfl⟩:=h;simp at hi
 |xs::r,_,_,i,m,p,h,hi,ho,hl,hb,hc=>by
  obtain ⟨q,ps',v,cs',rfl,rfl,h1,h2⟩:=h
  cases i with
  |zero=>
   simp only [wSa,wc,wk] at hi
   obtain ⟨rfl,rfl⟩:=hi
   obtain ⟨o,cap,cl,a1,a2,a3,a4,a5⟩:=h1
   simp only [List.set_cons_zero]
   refine ⟨some p,ps',v,cs',by rw [hl],rfl,⟨o,cap,cl',by rw [hl];exact a1,by rw [hl];exact a2,a3,hb,hc⟩,FamRd.keep hf (fun q hq=>?_) h2⟩
   obtain ⟨⟨n,q'⟩,hm,rfl⟩:=wP.1 hq
   obtain ⟨j,hj⟩:=List.getElem?_of_mem hm
   exact ho (j+1) n q (by omega) (by simpa using hj)
  |succ i=>
   simp only [wRa] at hi
   simp only [List.set_cons_succ]
   refine ⟨q,ps',v,cs',rfl,rfl,?_,FamRd.set hf h2 hi (fun j n q hj hq=>ho (j+1) n q (by omega) (by simpa using hq)) hl hb hc⟩
   cases q with
   |none=>exact h1
   |some q=>
    obtain ⟨o,cap,cl,a1,a2,a3,a4,a5⟩:=h1
    exact ⟨o,cap,cl,a1,a2,a3,a4.keep (ho 0 _ q (by omega) rfl),a5.imp (fun _ _ q=>q.flat hf)⟩
theorem FamSRd.set {w w':World} {a e:Ty} (ha:a.flat=true) (hf:e.flat=true) {ys:List (pden e)} {cl':List Value}:∀{xs:List (pden a×List (pden e))} {ps:List (Nat×Option Plc)} {cs:List Value} {i m:Nat} {p:Plc},FamSRd w a e xs ps cs→ps[i]?=some (m,some p)→
  (∀j n q,j≠i→ps[j]?=some (n,some q)→w'.heap[q.blk]?=w.heap[q.blk]?)→ys.length=m→InBlk w' p cl'→Cat (PRd w' (fun _=>False) e) ys cl'→FamSRd w' a e (xs.set i ((xs.getD i (qua a,[])).1,ys)) ps cs
 |[],_,_,i,m,p,h,hi,_,_,_,_=>by obtain ⟨rfl,rfl⟩:=h;simp at hi
 |x::r,_,_,i,m,p,h,hi,ho,hl,hb,hc=>by
  obtain ⟨q,ps',c,v,cs',rfl,rfl,h0,h1,h2⟩:=h
  cases i with
  |zero=>
   simp only [wSa,wc,wk] at hi
   obtain ⟨rfl,rfl⟩:=hi
   obtain ⟨o,cap,cl,a1,a2,a3,a4,a5⟩:=h1
   simp only [List.set_cons_zero]
   refine ⟨some p,ps',c,v,cs',by rw [hl],rfl,h0.flat ha,⟨o,cap,cl',by rw [hl];exact a1,by rw [hl];exact a2,a3,hb,hc⟩,FamSRd.keep ha hf (fun q hq=>?_) h2⟩
   obtain ⟨⟨n,q'⟩,hm,rfl⟩:=wP.1 hq
   obtain ⟨j,hj⟩:=List.getElem?_of_mem hm
   exact ho (j+1) n q (by omega) (by simpa using hj)
  |succ i=>
   simp only [wRa] at hi
   simp only [List.set_cons_succ]
   exact ⟨q,ps',c,v,cs',rfl,rfl,h0.flat ha,h1.keep hf (fun q' hq=>ho 0 _ q' (by omega) (by rw [hq];rfl)),FamSRd.set ha hf h2 hi (fun j n q hj hq=>ho (j+1) n q (by omega) (by simpa using hq)) hl hb hc⟩
theorem qIu {N:Bool→Nat→Prop} (hN:∀b,N true b→N false b) {obj obj':Obj} {gh:Gh} {p:List PS} {po:Nat} {t:Ty} {y:qke t} {s:List Value} {pl:Plc} (h:ORd w N K obj gh) (hs:GhAt gh p t pl po) (hy:ARd w N K t y s) (e:qJh obj p t y=some obj'):
  ∃cs,InBlk w pl cs∧po+t.sz≤cs.length∧∀(w':World) (N':Bool→Nat→Prop) (K':Kn),(∀b,N' true b→N' false b)→KeepK w w' N N' K K'→(∀q,Has gh q→q.blk≠pl.blk→w'.heap[q.blk]?=w.heap[q.blk]?)→InBlk w' pl (put cs po s)→ORd w' N' K' obj' gh:=by
 rcases hs with ⟨hp,hs⟩|⟨e1,n,ps,i,q,m,hs,rfl,hi,hq⟩|⟨a1,e1,n,ps,i,q,m,hs,rfl,hi,hq⟩
 ·obtain ⟨cs,h1,h2,h3⟩:=qGF hN h hp hs hy e
  exact ⟨cs,h1,h2,fun w' N' K' a b _ d=>h3 w' N' K' a b d⟩
 ·cases obj with
  |fam e0 xss=>
   obtain ⟨hf,ps',h1,ha,h2⟩:=h
   have h1':=h1
   rw [h1] at hs
   simp only [Shp.row.injEq,Ty.slice.injEq] at hs
   obtain ⟨rfl,rfl,rfl⟩:=hs
   cases hpl:gh.pl with
   |none=>rw [hpl] at h2;obtain ⟨_,rfl⟩:=h2;simp at hi
   |some p0=>
    rw [hpl] at h2
    obtain ⟨cs,h3,h4⟩:=h2
    obtain ⟨b1,rfl,o,cap,cl,v,b3,b4,b5,b6,b7,b8⟩:=h4.get hi
    have hA:ARd w N K (.arr (xss.getD i []).length e0) (xss.getD i []) cl:=⟨rfl,b8.imp (fun _ _ q=>q.flat hf)⟩
    simp only [qJh] at e
    split at e
    ·rename_i z hz
     simp only [wc] at e;subst e
     have hz':=qln hN hA hq hy hz
     refine ⟨cl,b7,by rw [hA.length];exact qMb hq,fun w' N' K' hN' hk hsm hb=>?_⟩
     have hmem:some pl∈ps'.map (·.2):=wP.2 ⟨_,wma hi,rfl⟩
     refine ⟨hf,ps',by rw [h1',wsa],ha,?_⟩
     rw [hpl]
     rw [hpl] at ha
     refine ⟨cs,h3.keep (hsm p0 (.inl hpl) (fun e=>ha.2 p0 pl rfl hmem e.symm)),h4.set hf hi (fun j n q hj hq2=>hsm q (.inr ?_) (fun e=>hj ?_)) hz'.1 hb (hz'.2.imp (fun _ _ q=>q.flat hf))⟩
     ·rw [h1'];exact wP.2 ⟨_,wma hq2,rfl⟩
     ·refine ha.1 j i q pl ?_ ?_ e
      ·simp [wDa,hq2]
      ·simp [wDa,hi]
    ·cases e
  |row e0 fr xs=>
   rw [h.1] at hs
   simp only [Shp.row.injEq] at hs
   obtain ⟨_,_,rfl⟩:=hs
   simp at hi
  |box t0 x=>rw [h.1] at hs;cases hs
  |cell v=>rw [h.1] at hs;cases hs
  |map k v es=>rw [h.1] at hs;cases hs
  |chan e fr cap xs cl=>rw [h.1] at hs;cases hs
  |famS a0 e0 xs=>
   obtain ⟨_,_,ps',h1,_⟩:=h
   rw [h1] at hs;cases hs
 ·cases obj with
  |famS a0 e0 xs=>
   obtain ⟨ha0,hf,ps',h1,ha,h2⟩:=h
   have h1':=h1
   rw [h1] at hs
   simp only [Shp.row.injEq,Ty.pair.injEq,Ty.slice.injEq,and_true] at hs
   obtain ⟨⟨rfl,rfl⟩,rfl,rfl⟩:=hs
   cases hpl:gh.pl with
   |none=>rw [hpl] at h2;obtain ⟨_,rfl⟩:=h2;simp at hi
   |some p0=>
    rw [hpl] at h2
    obtain ⟨cs,h3,h4⟩:=h2
    obtain ⟨b1,rfl,v,cc,b2,b3,o,cap,cl,b4,b5,b6,b7,b8⟩:=h4.get hi
    have hA:ARd w N K (.arr (xs.getD i (qua a0,[])).2.length e0) (xs.getD i (qua a0,[])).2 cl:=⟨rfl,b8.imp (fun _ _ q=>q.flat hf)⟩
    simp only [qJh] at e
    split at e
    ·rename_i z hz
     simp only [wc] at e;subst e
     have hz':=qln hN hA hq hy hz
     refine ⟨cl,b7,by rw [hA.length];exact qMb hq,fun w' N' K' hN' hk hsm hb=>?_⟩
     have hmem:some pl∈ps'.map (·.2):=wP.2 ⟨_,wma hi,rfl⟩
     refine ⟨ha0,hf,ps',by rw [h1',wsa],ha,?_⟩
     rw [hpl]
     rw [hpl] at ha
     refine ⟨cs,h3.keep (hsm p0 (.inl hpl) (fun e=>ha.2 p0 pl rfl hmem e.symm)),h4.set ha0 hf hi (fun j n q hj hq2=>hsm q (.inr ?_) (fun e=>hj ?_)) hz'.1 hb (hz'.2.imp (fun _ _ q=>q.flat hf))⟩
     ·rw [h1'];exact wP.2 ⟨_,wma hq2,rfl⟩
     ·refine ha.1 j i q pl ?_ ?_ e
      ·simp [wDa,hq2]
      ·simp [wDa,hi]
    ·cases e
  |row e0 fr xs=>
   rw [h.1] at hs
   simp only [Shp.row.injEq] at hs
   obtain ⟨_,_,rfl⟩:=hs
   simp at hi
  |fam e xss=>
   obtain ⟨_,ps',h1,_⟩:=h
   rw [h1] at hs;cases hs
  |box t0 x=>rw [h.1] at hs;cases hs
  |cell v=>rw [h.1] at hs;cases hs
  |map k v es=>rw [h.1] at hs;cases hs
  |chan e fr cap xs cl=>rw [h.1] at hs;cases hs
theorem qXF (A:At c P GT H lk K w ev ρ nl) {o:Oper} {T:TypeId} {x y:Operand} (ho:o.op= .store T x y) {orc:Option COrc} {out:Out} (h:qGb P GT ev lk nl orc o.type o.op=some out):
  Does P o ρ w (Lands c H K w nl out):=by
 rw [ho] at h
 simp only [qGb] at h
 split at h
 ·rename_i t l p a hv ha
  obtain ⟨sh,pl,po,k1,k2,k3⟩:=A.one hv
  have hx:=A.one ha
  split at h
  ·rename_i hT
   split at h
   ·rename_i z hz
    obtain ⟨z1,z2⟩:=qor hx hz
    split at h
    ·rename_i obj hlk
     rcases hm:qNk t z nl with ⟨z',rows,n'⟩
     rw [hm] at h
     simp only at h
     split at h
     ·rename_i obj' hset
      split at h
      ·rename_i hle
       simp only [wc] at h;subst h
       obtain ⟨l1,K1,S1,F1,R1⟩:=qut (w:=w) A.ng A.inv hm (ws _) hle (fun l g1 g2=>A.fresh l g1 (wY g2 hle))
       have hl:=A.sub _ _ hlk
       have k1':=S1.keep.k _ _ k1
       have hl1:qsb H (qoc rows) l=some obj:=by
        have:lookL (qoc rows) l=none:=qVx (fun q hq e=>by
         have:=qbv hm q hq
         have hle':n'≤nl+8:=hle
         have hk:=A.fresh q.1 this.1 (by omega)
         rw [e,k1] at hk;cases hk)
        simp only [qsb,this]
        exact hl
       obtain ⟨gh,g1,g2⟩:=S1.inv.objs l _ hl1
       rw [k1'] at g1;injection g1 with g1;subst g1
       have hz':=R1 _ z1
       obtain ⟨cs,b1,b2,b3⟩:=qIu (w:=w) (N:=NN c (qsb H (qoc rows)) K1 w) ui g2 k2 hz' hset
       have hzl:=hz'.length
       have S2:=Stp.write (w':=w.setCells pl.blk (pl.ob+po) (ρ y).cells.toList) S1.inv nl l obj obj' sh pl hl1 k1' k2.has (by
        obtain ⟨q1,q2,q3,q4,q5⟩:=qmb pl.blk (ρ y).cells.toList (pl.ob+po) w
        exact ⟨q1,q2,q3,q4,q5⟩) (fun N' K' hNlow hk=>by
         exact b3 _ N' K' hNlow hk (fun q _ hq=>(qmb pl.blk (ρ y).cells.toList (pl.ob+po) w).2.2.2.2 _ hq) (b1.write (by omega)))
       refine Does.skip (w':=w.setCells pl.blk (pl.ob+po) (ρ y).cells.toList) ?_ ⟨K1,S1.trans S2,trivial⟩
       have:=qcn (P:=P) (w:=w) hT b1 (o:=po) (s:=(ρ y).cells.toList) (by omega) (v:=ρ y) rfl hzl (ARd.one z1)
       simp only [execOp,ho,k3,Instr.storeAt,wfb,wu,wE,wq,this]
      ·cases h
     ·split at h
      ·rename_i u ls fr hab
       split at h
       ·rename_i obj' hset
        split at h
        ·cases h
        ·rename_i hnl
         simp only [wc] at h;subst h
         simp only [List.contains_eq_mem,Bool.not_eq_true,decide_eq_false_iff_not] at hnl
         have S1:=Stp.kill A.inv nl ls
         have hl:=A.sub _ _ hlk
         have hl1:qsb H (Ab.kill ls) l=some obj:=by
          simp only [qsb]
          cases hd:lookL (Ab.kill ls) l with
          |none=>exact hl
          |some x=>exact absurd (qwr hd) hnl
         obtain ⟨gh,g1,g2⟩:=S1.inv.objs l _ hl1
         rw [k1] at g1;injection g1 with g1;subst g1
         have hz':ARd w (NN c (qsb H (Ab.kill ls)) K w) K t (inj fr t u) (ρ y).cells.toList:=qej ui fr (qco A.inv A.sub (L:=ls) hab z1 (fun l hl=>hl))
         obtain ⟨cs,b1,b2,b3⟩:=qIu (w:=w) (N:=NN c (qsb H (Ab.kill ls)) K w) ui g2 k2 hz' hset
         have hzl:=hz'.length
         obtain ⟨q1,q2,q3,q4,q5⟩:=qmb pl.blk (ρ y).cells.toList (pl.ob+po) w
         have S2:=Stp.write (w':=w.setCells pl.blk (pl.ob+po) (ρ y).cells.toList) S1.inv nl l obj obj' sh pl hl1 k1 k2.has ⟨q1,q2,q3,q4,q5⟩ (fun N' K' hNlow hk=>b3 _ N' K' hNlow hk (fun q _ hq=>q5 _ hq) (b1.write (by omega)))
         refine Does.skip (w':=w.setCells pl.blk (pl.ob+po) (ρ y).cells.toList) ?_ ⟨K,S1.trans S2,trivial⟩
         have:=qcn (P:=P) (w:=w) hT b1 (o:=po) (s:=(ρ y).cells.toList) (by omega) (v:=ρ y) rfl hzl (ARd.one z1)
         simp only [execOp,ho,k3,Instr.storeAt,wfb,wu,wE,wq,this]
       ·cases h
      ·cases h
    ·cases h
   ·cases h
  ·cases h
 ·rename_i l a hv ha
  obtain ⟨sh,pl,k1,k2⟩:=A.one hv
  have hx:=A.one ha
  split at h
  ·rename_i v0 hlk
   split at h
   ·rename_i hq
    simp only [wz,beq_iff_eq] at hq
    simp only [wc] at h;subst h
    obtain ⟨gh,g1,g2,p',c',g3,g4,g5⟩:=A.inv.objs l _ (A.sub _ _ hlk)
    rw [k1] at g1;injection g1 with g1;subst g1
    simp only [wc] at g3;subst g3
    simp only at g2;subst g2
    have h1:=qPr hq.1.1 hx
    obtain ⟨q1,q2,q3,q4,q5⟩:=qmb pl.blk [ρ y] (pl.ob+0) w
    have S2:=Stp.write (w':=w.setCells pl.blk (pl.ob+0) [ρ y]) A.inv nl l _ (.cell a) ⟨.cell,some pl⟩ pl (A.sub _ _ hlk) k1 (.inl rfl) ⟨q1,q2,q3,q4,q5⟩ (fun N' K' hNlow hk=>⟨rfl,pl,ρ y,rfl,by
     have:=g4.write (o:=0) (s:=[ρ y]) (by simp)
     rwa [qLC (by simp)] at this,hx.keep hk⟩)
    refine Does.skip (w':=w.setCells pl.blk (pl.ob+0) [ρ y]) ?_ ⟨K,S2,trivial⟩
    obtain ⟨d,hd⟩:=Option.isSome_iff_exists.1 hq.2
    obtain ⟨i,hi⟩:=qlk hd
    have hsz:i.size=1:=by have:=hq.1.2;simpa [Program.cellsOf,hi] using this
    have hcell:w.cell? ⟨pl.blk,pl.ob,none⟩=some c':=by simpa using g4.cells 0 c' rfl
    have hfree:w.frozen? ⟨pl.blk,pl.ob,none⟩=false:=g4.free (by obtain ⟨_,_,_,_,_,_,h4,_⟩:=g4;simp at h4;omega)
    simp only [execOp,ho,k2,Instr.storeAt,wfb,wu,wE,wq,storeVar,sizeOf,qFh hi,hsz,qHu h1]
    simp only [storeCells,wu,run_store P w _ _ _ h1,Addr.add_zero',hcell,hfree,World.setCells]
    simp [storeCells,run_store P w _ _ _ h1,hcell,hfree,World.setCells]
   ·cases h
  ·cases h
 ·cases h
end
end Go.Ab

/-
  Literals, new slices, conversions: what is taken over from rows of one's own.
-/
set_option linter.unusedVariables false
set_option linter.unusedSimpArgs false
namespace Go.Ab
open Go
section
variable {c:Cx} {P:Program} {GT:qTg} {H lk:qZb} {K:Kn} {w:World} {ev:Operand→TV} {ρ:Operand→Value} {nl:Nat}
theorem qLE {size:Nat} (cells:List Value) (v:List Value) (off:Nat) (h:off+v.length≤cells.length):
  (v.toArray.zipIdx.foldl (fun cs (c,j)=>cs.setIfInBounds (off+j) c) cells.toArray)=(put cells off v).toArray:=by
 rw [←Array.foldl_toList]
 have:∀(v:List Value) (k:Nat) (cells:List Value),off+k+v.length≤cells.length→((v.zipIdx k).foldl (fun cs (p:Value×Nat)=>cs.setIfInBounds (off+p.2) p.1) cells.toArray)=(put cells (off+k) v).toArray:=by
  intro v
  induction v with
  |nil=>intro k cells h;simp [put]
  |cons a v ih=>
   intro k cells h
   simp only [ww] at h
   rw [List.zipIdx_cons,List.foldl_cons]
   have h1:=ih (k+1) (cells.set (off+k) a) (by simp;omega)
   simp only [List.setIfInBounds_toArray] at h1 ⊢
   rw [h1]
   congr 1
   apply wQa;intro j
   rw [qWi (by simp;omega),qWi (by simp;omega)]
   simp only [wtb,ww]
   by_cases h3:j<off+k
   ·rw [if_pos (by omega),if_neg (by omega),if_pos h3]
   ·rw [if_neg h3]
    by_cases h4:j=off+k
    ·subst h4
     rw [if_pos (by omega),if_pos rfl,if_pos (by omega),if_pos (by omega)]
     simp
    ·rw [if_neg (by omega:¬off+k=j)]
     by_cases h5:j<off+(k+1)
     ·omega
     ·rw [if_neg h5]
      by_cases h6:j<off+(k+1)+v.length
      ·rw [if_pos h6,if_pos (by omega)]
       rw [show j - (off+k)=(j - (off+(k+1)))+1 by omega,wRa]
      ·rw [if_neg h6,if_neg (by omega)]
 have h2:=this v 0 cells (by omega)
 simpa using h2
theorem qsy (A:At c P GT H lk K w ev ρ nl) {t:Ty} (place:Nat→Option (Nat×Nat)) (hpl:∀i o ty,qDa t (qlq t i)=some (o,ty)→place i=some (o,ty.sz)):
  ∀{ps:List (Nat×Operand)} {vs:List (Nat×AV)} {x z:qke t} {cs:List Value},qim ev ps=some vs→ARd w (NN c H K w) K t x cs→qEl t x vs=some z→
   ∃ds,Instr.fill place cs.toArray (ps.map fun p=>(p.1,ρ p.2))=some ds.toArray∧ARd w (NN c H K w) K t z ds
 |[],vs,x,z,cs,h,hx,hb=>by
  simp only [qim,wc] at h;subst h
  simp only [qEl,wc] at hb;subst hb
  exact ⟨cs,rfl,hx⟩
 |q::ps,vs,x,z,cs,h,hx,hb=>by
  simp only [qim] at h
  split at h
  ·rename_i v us h1 h2
   simp only [wc] at h;subst h
   simp only [qEl] at hb
   split at hb
   ·rename_i o ty hp
    split at hb
    ·rename_i y hy
     split at hb
     ·rename_i z' hz
      obtain ⟨r1,r2⟩:=qor (A.one h1) hy
      have hl:=r1.length
      have hxl:=hx.length
      have hle:=qMb hp
      have hset:=qln ui hx hp r1 hz
      obtain ⟨ds,e1,e2⟩:=qsy A place hpl h2 hset hb
      refine ⟨ds,?_,e2⟩
      simp only [wJ,Instr.fill,hpl _ _ _ hp]
      have hsz:(ρ q.2).cells.size=ty.sz:=by rw [←hl];simp
      rw [if_neg (by simp [hsz];omega)]
      have:=qLE (size:=0) cs (ρ q.2).cells.toList o (by omega)
      rw [Array.toArray_toList] at this
      rw [this];exact e1
     ·cases hb
    ·cases hb
   ·cases hb
  ·cases h
theorem qKx {m:Nat}:∀{fs:List Field} {ts:List Ty},qDk (qod P m) fs=some ts→(fs.mapM fun f=>do pure (f.offset,←sizeOf f.type):Sem (List (Nat×Nat))).run P w= .ok ((fs.zip ts).map fun p=>(p.1.offset,p.2.sz)) w
 |[],ts,h=>by simp only [qDk,wc] at h;subst h;rfl
 |f::fs,ts,h=>by
  simp only [qDk] at h
  split at h
  ·rename_i t ts' h1 h2
   simp only [wc] at h;subst h
   simp only [List.mapM_cons,wu,qLb h1,wq,wE,qKx h2,List.zip_cons_cons,wJ]
  ·cases h
theorem qfA {m:Nat}:∀{fs:List Field} {ts:List Ty} {o0 i o:Nat} {ty:Ty},qDk (qod P m) fs=some ts→qXj P fs ts o0=true→qDa (qYd ts) (qXa i)=some (o,ty)→((fs.zip ts).map fun p=>(p.1.offset,p.2.sz))[i]?=some (o0+o,ty.sz)
 |[],ts,o0,i,o,ty,h,ho,hp=>by
  simp only [qDk,wc] at h;subst h
  cases i <;> simp [qYd,qXa,qDa] at hp
 |f::fs,ts,o0,i,o,ty,h,ho,hp=>by
  simp only [qDk] at h
  split at h
  ·rename_i t ts' h1 h2
   simp only [wc] at h;subst h
   simp only [qXj,wz,beq_iff_eq] at ho
   cases i with
   |zero=>
    simp only [qYd,qXa,qDa,wc,wk] at hp
    obtain ⟨rfl,rfl⟩:=hp
    simp [ho.1]
   |succ i=>
    simp only [qYd,qXa,qDa] at hp
    split at hp
    ·rename_i o2 t2 hp2
     simp only [wc,wk] at hp;obtain ⟨rfl,rfl⟩:=hp
     have:=qfA (o0:=o0+t.sz) h2 ho.2 hp2
     simp only [List.zip_cons_cons,wJ,wRa,this,wxa]
    ·cases hp
  ·cases h
theorem qcG (A:At c P GT H lk K w ev ρ nl) {o:Oper} {T:TypeId} {ps:Array (Nat×Operand)} (ho:o.op= .build T ps) {orc:Option COrc} {out:Out} (h:qGb P GT ev lk nl orc o.type o.op=some out):
  Does P o ρ w (Lands c H K w nl out):=by
 rw [ho] at h
 simp only [qGb] at h
 split at h
 ·rename_i t vs hT hvs
  split at h
  ·rename_i hz
   simp only [wz] at hz
   split at h
   ·rename_i x hx
    simp only [Ab.one,wc] at h;subst h
    obtain ⟨z,hz1,hz2,_⟩:=qge (P:=P) (w:=w) hz.1
    obtain ⟨m,d,i,hm,hd,hraw,_⟩:=qHc hT
    have hmap:(ps.map fun x=>(x.1,ρ x.2)).toList=ps.toList.map fun p=>(p.1,ρ p.2):=by simp
    have hzc:z.cells=(qDj t).toArray:=by rw [←hz2,Array.toArray_toList]
    have haz:ARd w (NN c H K w) K t (qrG t) (qDj t):=qBt
    cases d <;> simp only [qEk] at hraw <;> first|(cases hraw;done)|(simp only [wc] at hraw;subst hraw;simp [Ty.agg] at hz;done)|skip
    ·split at hraw
     ·simp only [wc] at hraw;subst hraw;simp [Ty.agg] at hz
     ·cases hraw
    ·split at hraw
     ·rename_i n E _ e he
      simp only [wc] at hraw;subst hraw
      obtain ⟨ds,f1,f2⟩:=qsy A (t:= .arr n e) (fun i=>some (i*e.sz,e.sz)) (by
       intro i o' ty hp
       simp only [qlq,qDa] at hp
       split at hp
       ·simp only [wc,wk] at hp;obtain ⟨rfl,rfl⟩:=hp;rfl
       ·cases hp) hvs haz hx
      refine Does.value (v:= .agg ds.toArray) (w':=w) ?_ (Lands.one A.inv ⟨ds,rfl,hz.2,f2⟩)
      simp only [execOp,ho,Instr.build,wu,hz1,wq,run_underlying hd,qLb he,hmap,hzc,f1]
      rfl
     ·cases hraw
    ·rename_i fs
     split at hraw
     ·rename_i ts hts
      split at hraw
      ·rename_i hoff
       simp only [wc] at hraw;subst hraw
       obtain ⟨ds,f1,f2⟩:=qsy A (t:=qYd ts) (fun i=>((fs.toList.zip ts).map fun p=>(p.1.offset,p.2.sz))[i]?) (by
        intro i o' ty hp
        have:qlq (qYd ts) i=qXa i:=by cases ts <;> rfl
        rw [this] at hp
        have:=qfA (P:=P) hts hoff hp
        simpa using this) hvs haz hx
       refine Does.value (v:= .agg ds.toArray) (w':=w) ?_ (Lands.one A.inv ⟨ds,rfl,hz.2,f2⟩)
       simp only [execOp,ho,Instr.build,wu,hz1,wq,run_underlying hd,Array.mapM_eq_mapM_toList,Sem.run_map,qKx hts,hmap,hzc]
       simp only [List.getElem?_toArray]
       rw [f1]
       rfl
      ·cases hraw
     ·cases hraw
   ·cases h
  ·cases h
 ·cases h
end
end Go.Ab
